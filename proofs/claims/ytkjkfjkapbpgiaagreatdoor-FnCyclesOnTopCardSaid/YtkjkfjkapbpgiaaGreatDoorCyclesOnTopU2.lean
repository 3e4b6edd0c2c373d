import Derived.Test.YtkjkfjkapbpgiaaGreatDoorCyclesOnTopU1
import Derived.Test.YtkjkfjkapbpgiaaGreatDoorCyclesOnTopT
import Derived.Test.YtkjkfjkapbpgiaaGreatDoorM2
set_option linter.unusedVariables false
set_option linter.unusedSimpArgs false
set_option maxRecDepth 100000
set_option maxHeartbeats 16000000
namespace Go.Proofs.YtkjkfjkapbpgiaaGreatDoor
open Go Go.Mx
def u5 (P : Program) (code0_1 : Sl) (more1_1 : Sl) (h : Heap) (K : Value -> Heap -> Prop) : Prop :=
 ((decide (1048576 < (code0_1.n : Int))) = true ->
 K (VB true) h) /\
 ((decide (1048576 < (code0_1.n : Int))) = false ->
 K (VB (decide ((w64 (1048576 - (code0_1.n : Int))) < (more1_1.n : Int)))) h)
theorem v5 (code0_1 : Sl) (more1_1 : Sl) (h : Heap) (K : Value -> Heap -> Prop) (H : u5 Tryz.prog code0_1 more1_1 h K) : callM Tryz.prog 5 #[code0_1.v, more1_1.v] h K := by
  refine c5 code0_1.v more1_1.v h K ?_
  unfold u5 at H
  unfold t5
  have hL : Vars h [] := .nil
  refine pop_len code0_1 _ _ sli22 ?_
  refine pop_gtr .i64 (code0_1.n : Int) 1048576 ?_
  refine guardM_sf (fun hb1 => ?_) (fun hb1 => ?_)
  rotate_left
  ·have H := H.1 hb1
   refine gm hb1 ?_
   refine gm hb1 ?_
   refine gm hb1 ?_
   refine gm hb1 ?_
   refine gm hb1 ?_
   refine pop_pickt' hb1 ?_
   exact H
  have H := H.2 hb1
  refine gy hb1 ?_
  refine pop_len more1_1 _ _ sli22 ?_
  refine gy hb1 ?_
  refine gy hb1 ?_
  refine pop_len code0_1 _ _ sli22 ?_
  refine gy hb1 ?_
  refine pop_sub .i64 1048576 (code0_1.n : Int) ?_
  refine gy hb1 ?_
  refine pop_gtr .i64 (more1_1.n : Int) (w64 (1048576 - (code0_1.n : Int))) ?_
  refine pop_pickf' hb1 ?_
  exact H
def u6 (P : Program) (code0_1 : Sl) (h : Heap) (K : Value -> Heap -> Prop) : Prop :=
 ∀ (b1 : Nat) (b2 : Nat) (h2 : Heap), h.size ≤ b1 -> h.size ≤ b2 -> Fr (In []) h h2 -> Vars h2 [(b2, [nilSl.v]), (b1, [nilSl.v])] ->
 callM P 49 #[code0_1.v] h2 fun r1 h3 => ∃ s6 : Sl, ∃ s6b : Int, ∃ s6c : Sl, r1 = (.tuple #[(.agg #[s6.v]), (VI s6b), (.agg #[s6c.v])]) /\ Vars h3 [(b2, [nilSl.v]), (b1, [nilSl.v])] /\
 ∀ (h5 : Heap), Fr (In [b2, b1]) h3 h5 -> Vars h5 [(b2, [s6c.v]), (b1, [s6.v])] ->
 K (.tuple #[(.agg #[s6.v]), (VI s6b), (.agg #[s6c.v])]) h5
theorem v6 (code0_1 : Sl) (h : Heap) (K : Value -> Heap -> Prop) (H : u6 Tryz.prog code0_1 h K) : callM Tryz.prog 6 #[code0_1.v] h K := by
  refine c6 code0_1.v h K ?_
  unfold u6 at H
  unfold t6
  have hL : Vars h [] := .nil
  refine eop_alloc 26 zer26 rfl hL (fun b1 h1 hb1 hf1 hL1 => ?_)
  refine eop_alloc 28 zer28 rfl hL1 (fun b2 h2 hb2 hf2 hL2 => ?_)
  have H := H b1 b2 h2 hb1 (Nat.le_trans (Fr.size (Fr.no' (Fr.r (In []) _) hf1)) hb2) (Fr.no' (Fr.no' (Fr.r (In []) _) hf1) hf2) hL2
  refine H.mono fun r1 h3 H => ?_
  obtain ⟨s6, s6b, s6c, rfl, hL3, H⟩ := H
  refine pop_ext (v := (Value.agg #[s6.v])) rfl ?_
  refine pop_ext (v := (VI s6b)) rfl ?_
  refine pop_ext (v := (Value.agg #[s6c.v])) rfl ?_
  refine ul siz26 hL3 1 0 [s6.v] [(b2, [nilSl.v]), (b1, [s6.v])] (fun h4 hf3 hL4 => ?_)
  refine ul siz28 hL4 0 0 [s6c.v] [(b2, [s6c.v]), (b1, [s6.v])] (fun h5 hf4 hL5 => ?_)
  refine ra agg26 hL5 1 0 [s6.v] ?_
  refine ra agg28 hL5 0 0 [s6c.v] ?_
  have H := H  h5  (Fr.old (Fr.old (Fr.r (In []) _) hf3) hf4) hL5
  exact H
def u7 (P : Program) (g0_1 : Sl) (sink1_1 : Int) (s2_1 : Sl) (h : Heap) (K : Value -> Heap -> Prop) : Prop :=
 ∀ (b1 : Nat) (b2 : Nat) (h2 : Heap), h.size ≤ b1 -> h.size ≤ b2 -> Fr (In []) h h2 -> Vars h2 [(b2, [s2_1.v]), (b1, [g0_1.v])] ->
 callM P 50 #[(.agg #[g0_1.v]), (VI sink1_1), (.agg #[s2_1.v])] h2 fun r1 h3 => ∃ s11 : Bool, r1 = (VB s11) /\ Vars h3 [(b2, [s2_1.v]), (b1, [g0_1.v])] /\
 ((!s11) = true ->
 K (.tuple #[nilSl.v, (VB false)]) h3) /\
 ((!s11) = false ->
 callM P 51 #[(.agg #[s2_1.v]), (.agg #[g0_1.v])] h3 fun r2 h4 => ∃ s15 : Sl, r2 = s15.v /\ Vars h4 [(b2, [s2_1.v]), (b1, [g0_1.v])] /\
 K (.tuple #[s15.v, (VB true)]) h4)
theorem v7 (g0_1 : Sl) (sink1_1 : Int) (s2_1 : Sl) (h : Heap) (K : Value -> Heap -> Prop) (H : u7 Tryz.prog g0_1 sink1_1 s2_1 h K) : callM Tryz.prog 7 #[(Value.agg #[g0_1.v]), (VI sink1_1), (Value.agg #[s2_1.v])] h K := by
  refine c7 (Value.agg #[g0_1.v]) (VI sink1_1) (Value.agg #[s2_1.v]) h K ?_
  unfold u7 at H
  unfold t7
  have hL : Vars h [] := .nil
  refine eop_box 26 (Value.agg #[g0_1.v]) rfl hL (fun b1 h1 hb1 hf1 hL1 => ?_)
  refine eop_box 28 (Value.agg #[s2_1.v]) rfl hL1 (fun b2 h2 hb2 hf2 hL2 => ?_)
  refine ra agg26 hL2 1 0 [g0_1.v] ?_
  refine ra agg28 hL2 0 0 [s2_1.v] ?_
  have H := H b1 b2 h2 hb1 (Nat.le_trans (Fr.size (Fr.no' (Fr.r (In []) _) hf1)) hb2) (Fr.no' (Fr.no' (Fr.r (In []) _) hf1) hf2) hL2
  refine H.mono fun r1 h3 H => ?_
  obtain ⟨s11, rfl, hL3, H⟩ := H
  refine pop_not s11 ?_
  refine condM_b (fun hb3 => ?_) (fun hb3 => ?_)
  ·exact H.1 hb3
  have H := H.2 hb3
  refine ra agg28 hL3 0 0 [s2_1.v] ?_
  refine ra agg26 hL3 1 0 [g0_1.v] ?_
  refine H.mono fun r2 h4 H => ?_
  obtain ⟨s15, rfl, hL4, H⟩ := H
  exact H
def u8 (P : Program) (g0_1 : Sl) (sink1_1 : Int) (s2_1 : Sl) (h : Heap) (K : Value -> Heap -> Prop) : Prop :=
 ∀ (b1 : Nat) (b2 : Nat) (h2 : Heap), h.size ≤ b1 -> h.size ≤ b2 -> Fr (In []) h h2 -> Vars h2 [(b2, [s2_1.v]), (b1, [g0_1.v])] ->
 callM P 52 #[(.agg #[g0_1.v]), (VI sink1_1), (.agg #[s2_1.v])] h2 fun r1 h3 => ∃ s11 : Bool, r1 = (VB s11) /\ Vars h3 [(b2, [s2_1.v]), (b1, [g0_1.v])] /\
 ((!s11) = true ->
 K (.tuple #[nilSl.v, (VB false)]) h3) /\
 ((!s11) = false ->
 callM P 53 #[(.agg #[g0_1.v]), (.agg #[s2_1.v])] h3 fun r2 h4 => ∃ s15 : Sl, r2 = s15.v /\ Vars h4 [(b2, [s2_1.v]), (b1, [g0_1.v])] /\
 K (.tuple #[s15.v, (VB true)]) h4)
theorem v8 (g0_1 : Sl) (sink1_1 : Int) (s2_1 : Sl) (h : Heap) (K : Value -> Heap -> Prop) (H : u8 Tryz.prog g0_1 sink1_1 s2_1 h K) : callM Tryz.prog 8 #[(Value.agg #[g0_1.v]), (VI sink1_1), (Value.agg #[s2_1.v])] h K := by
  refine c8 (Value.agg #[g0_1.v]) (VI sink1_1) (Value.agg #[s2_1.v]) h K ?_
  unfold u8 at H
  unfold t8
  have hL : Vars h [] := .nil
  refine eop_box 26 (Value.agg #[g0_1.v]) rfl hL (fun b1 h1 hb1 hf1 hL1 => ?_)
  refine eop_box 28 (Value.agg #[s2_1.v]) rfl hL1 (fun b2 h2 hb2 hf2 hL2 => ?_)
  refine ra agg26 hL2 1 0 [g0_1.v] ?_
  refine ra agg28 hL2 0 0 [s2_1.v] ?_
  have H := H b1 b2 h2 hb1 (Nat.le_trans (Fr.size (Fr.no' (Fr.r (In []) _) hf1)) hb2) (Fr.no' (Fr.no' (Fr.r (In []) _) hf1) hf2) hL2
  refine H.mono fun r1 h3 H => ?_
  obtain ⟨s11, rfl, hL3, H⟩ := H
  refine pop_not s11 ?_
  refine condM_b (fun hb3 => ?_) (fun hb3 => ?_)
  ·exact H.1 hb3
  have H := H.2 hb3
  refine ra agg26 hL3 1 0 [g0_1.v] ?_
  refine ra agg28 hL3 0 0 [s2_1.v] ?_
  refine H.mono fun r2 h4 H => ?_
  obtain ⟨s15, rfl, hL4, H⟩ := H
  exact H
def u9 (P : Program) (g0_1 : Sl) (sink1_1 : Int) (s2_1 : Sl) (h : Heap) (K : Value -> Heap -> Prop) : Prop :=
 ∀ (b1 : Nat) (b2 : Nat) (h2 : Heap), h.size ≤ b1 -> h.size ≤ b2 -> Fr (In []) h h2 -> Vars h2 [(b2, [s2_1.v]), (b1, [g0_1.v])] ->
 callM P 7 #[(.agg #[g0_1.v]), (VI sink1_1), (.agg #[s2_1.v])] h2 fun r1 h3 => ∃ s14 : Sl, ∃ s14b : Bool, r1 = (.tuple #[s14.v, (VB s14b)]) /\ Vars h3 [(b2, [s2_1.v]), (b1, [g0_1.v])] /\
 ((!s14b) = true ->
 K (.tuple #[nilSl.v, (VB false)]) h3) /\
 ((!s14b) = false ->
 ((decide ((s14.n : Int) = 0)) = true ->
 K (.tuple #[nilSl.v, (VB false)]) h3) /\
 ((decide ((s14.n : Int) = 0)) = false ->
 InB s14 0 /\
 ∃ s26 : Sl, hcell h3 (Sl.at s14 0 1) = some s26.v /\
 K (.tuple #[s26.v, (VB true)]) h3))
theorem v9 (g0_1 : Sl) (sink1_1 : Int) (s2_1 : Sl) (h : Heap) (K : Value -> Heap -> Prop) (H : u9 Tryz.prog g0_1 sink1_1 s2_1 h K) : callM Tryz.prog 9 #[(Value.agg #[g0_1.v]), (VI sink1_1), (Value.agg #[s2_1.v])] h K := by
  refine c9 (Value.agg #[g0_1.v]) (VI sink1_1) (Value.agg #[s2_1.v]) h K ?_
  unfold u9 at H
  unfold t9
  have hL : Vars h [] := .nil
  refine eop_box 26 (Value.agg #[g0_1.v]) rfl hL (fun b1 h1 hb1 hf1 hL1 => ?_)
  refine eop_box 28 (Value.agg #[s2_1.v]) rfl hL1 (fun b2 h2 hb2 hf2 hL2 => ?_)
  refine ra agg26 hL2 1 0 [g0_1.v] ?_
  refine ra agg28 hL2 0 0 [s2_1.v] ?_
  have H := H b1 b2 h2 hb1 (Nat.le_trans (Fr.size (Fr.no' (Fr.r (In []) _) hf1)) hb2) (Fr.no' (Fr.no' (Fr.r (In []) _) hf1) hf2) hL2
  refine H.mono fun r1 h3 H => ?_
  obtain ⟨s14, s14b, rfl, hL3, H⟩ := H
  refine pop_ext (v := s14.v) rfl ?_
  refine pop_ext (v := (VB s14b)) rfl ?_
  refine pop_not s14b ?_
  refine guardM_sf (fun hb3 => ?_) (fun hb3 => ?_)
  rotate_left
  ·have H := H.1 hb3
   refine gm hb3 ?_
   refine gm hb3 ?_
   refine pop_pickt' hb3 ?_
   refine condM_t ?_
   exact H
  have H := H.2 hb3
  refine gy hb3 ?_
  refine pop_len s14 _ _ sli24 ?_
  refine gy hb3 ?_
  refine pop_ieq .i64 _ _ (s14.n : Int) 0 ?_
  refine pop_pickf' hb3 ?_
  refine condM_b (fun hb4 => ?_) (fun hb4 => ?_)
  ·exact H.1 hb4
  have H := H.2 hb4
  obtain ⟨hi1, H⟩ := H
  refine pop_index sli24 siz33 .i64 s14 0 hi1 ?_
  obtain ⟨s26, hc1, H⟩ := H
  refine rop_one one33 s26.v hc1 ?_
  exact H
def u10 (P : Program) (g0_1 : Sl) (sink1_1 : Int) (s2_1 : Sl) (h : Heap) (K : Value -> Heap -> Prop) : Prop :=
 ∀ (b1 : Nat) (b2 : Nat) (h2 : Heap), h.size ≤ b1 -> h.size ≤ b2 -> Fr (In []) h h2 -> Vars h2 [(b2, [s2_1.v]), (b1, [g0_1.v])] ->
 callM P 52 #[(.agg #[g0_1.v]), (VI sink1_1), (.agg #[s2_1.v])] h2 fun r1 h3 => ∃ s12 : Bool, r1 = (VB s12) /\ Vars h3 [(b2, [s2_1.v]), (b1, [g0_1.v])] /\
 ((!s12) = true ->
 K (.tuple #[nilSl.v, (VB false)]) h3) /\
 ((!s12) = false ->
 callM P 53 #[(.agg #[g0_1.v]), (.agg #[s2_1.v])] h3 fun r2 h4 => ∃ s16 : Sl, r2 = s16.v /\ Vars h4 [(b2, [s2_1.v]), (b1, [g0_1.v])] /\
 ((decide ((s16.n : Int) = 0)) = true ->
 K (.tuple #[nilSl.v, (VB false)]) h4) /\
 ((decide ((s16.n : Int) = 0)) = false ->
 InB s16 0 /\
 ∃ s22 : Sl, hcell h4 (Sl.at s16 0 1) = some s22.v /\
 K (.tuple #[s22.v, (VB true)]) h4))
theorem v10 (g0_1 : Sl) (sink1_1 : Int) (s2_1 : Sl) (h : Heap) (K : Value -> Heap -> Prop) (H : u10 Tryz.prog g0_1 sink1_1 s2_1 h K) : callM Tryz.prog 10 #[(Value.agg #[g0_1.v]), (VI sink1_1), (Value.agg #[s2_1.v])] h K := by
  refine c10 (Value.agg #[g0_1.v]) (VI sink1_1) (Value.agg #[s2_1.v]) h K ?_
  unfold u10 at H
  unfold t10
  have hL : Vars h [] := .nil
  refine eop_box 26 (Value.agg #[g0_1.v]) rfl hL (fun b1 h1 hb1 hf1 hL1 => ?_)
  refine eop_box 28 (Value.agg #[s2_1.v]) rfl hL1 (fun b2 h2 hb2 hf2 hL2 => ?_)
  refine ra agg26 hL2 1 0 [g0_1.v] ?_
  refine ra agg28 hL2 0 0 [s2_1.v] ?_
  have H := H b1 b2 h2 hb1 (Nat.le_trans (Fr.size (Fr.no' (Fr.r (In []) _) hf1)) hb2) (Fr.no' (Fr.no' (Fr.r (In []) _) hf1) hf2) hL2
  refine H.mono fun r1 h3 H => ?_
  obtain ⟨s12, rfl, hL3, H⟩ := H
  refine pop_not s12 ?_
  refine condM_b (fun hb3 => ?_) (fun hb3 => ?_)
  ·exact H.1 hb3
  have H := H.2 hb3
  refine ra agg26 hL3 1 0 [g0_1.v] ?_
  refine ra agg28 hL3 0 0 [s2_1.v] ?_
  refine H.mono fun r2 h4 H => ?_
  obtain ⟨s16, rfl, hL4, H⟩ := H
  refine pop_len s16 _ _ sli24 ?_
  refine pop_ieq .i64 _ _ (s16.n : Int) 0 ?_
  refine condM_b (fun hb4 => ?_) (fun hb4 => ?_)
  ·exact H.1 hb4
  have H := H.2 hb4
  obtain ⟨hi1, H⟩ := H
  refine pop_index sli24 siz33 .i64 s16 0 hi1 ?_
  obtain ⟨s22, hc1, H⟩ := H
  refine rop_one one33 s22.v hc1 ?_
  exact H
def u11 (P : Program) (g0_1 : Sl) (sink1_1 : Int) (s2_1 : Sl) (h : Heap) (K : Value -> Heap -> Prop) : Prop :=
 ∀ (b1 : Nat) (b2 : Nat) (h2 : Heap), h.size ≤ b1 -> h.size ≤ b2 -> Fr (In []) h h2 -> Vars h2 [(b2, [s2_1.v]), (b1, [g0_1.v])] ->
 eop P (Instr.buildSlice 33 1 #[(0, (VI sink1_1))]) h2 fun r1 h3 => ∃ s10 : Sl, r1 = s10.v /\ Vars h3 [(b2, [s2_1.v]), (b1, [g0_1.v])] /\
 callM P 54 #[(.agg #[g0_1.v]), s10.v] h3 fun r2 h4 => ∃ s11 : Bool, r2 = (VB s11) /\ Vars h4 [(b2, [s2_1.v]), (b1, [g0_1.v])] /\
 ((!s11) = true ->
 K (.tuple #[(VB false), (VB false)]) h4) /\
 ((!s11) = false ->
 callM P 50 #[(.agg #[g0_1.v]), (VI sink1_1), (.agg #[s2_1.v])] h4 fun r3 h5 => ∃ s16 : Bool, r3 = (VB s16) /\ Vars h5 [(b2, [s2_1.v]), (b1, [g0_1.v])] /\
 K (.tuple #[(VB s16), (VB true)]) h5)
theorem v11 (g0_1 : Sl) (sink1_1 : Int) (s2_1 : Sl) (h : Heap) (K : Value -> Heap -> Prop) (H : u11 Tryz.prog g0_1 sink1_1 s2_1 h K) : callM Tryz.prog 11 #[(Value.agg #[g0_1.v]), (VI sink1_1), (Value.agg #[s2_1.v])] h K := by
  refine c11 (Value.agg #[g0_1.v]) (VI sink1_1) (Value.agg #[s2_1.v]) h K ?_
  unfold u11 at H
  unfold t11
  have hL : Vars h [] := .nil
  refine eop_box 26 (Value.agg #[g0_1.v]) rfl hL (fun b1 h1 hb1 hf1 hL1 => ?_)
  refine eop_box 28 (Value.agg #[s2_1.v]) rfl hL1 (fun b2 h2 hb2 hf2 hL2 => ?_)
  refine ra agg26 hL2 1 0 [g0_1.v] ?_
  have H := H b1 b2 h2 hb1 (Nat.le_trans (Fr.size (Fr.no' (Fr.r (In []) _) hf1)) hb2) (Fr.no' (Fr.no' (Fr.r (In []) _) hf1) hf2) hL2
  refine H.mono fun r1 h3 H => ?_
  obtain ⟨s10, rfl, hL3, H⟩ := H
  refine H.mono fun r2 h4 H => ?_
  obtain ⟨s11, rfl, hL4, H⟩ := H
  refine pop_not s11 ?_
  refine condM_b (fun hb3 => ?_) (fun hb3 => ?_)
  ·exact H.1 hb3
  have H := H.2 hb3
  refine ra agg26 hL4 1 0 [g0_1.v] ?_
  refine ra agg28 hL4 0 0 [s2_1.v] ?_
  refine H.mono fun r3 h5 H => ?_
  obtain ⟨s16, rfl, hL5, H⟩ := H
  exact H
def u12 (P : Program) (g0_1 : Sl) (sink1_1 : Int) (s2_1 : Sl) (h : Heap) (K : Value -> Heap -> Prop) : Prop :=
 ∀ (b1 : Nat) (b2 : Nat) (h2 : Heap), h.size ≤ b1 -> h.size ≤ b2 -> Fr (In []) h h2 -> Vars h2 [(b2, [s2_1.v]), (b1, [g0_1.v])] ->
 callM P 55 #[(.agg #[g0_1.v]), (VI sink1_1)] h2 fun r1 h3 => ∃ s10 : Bool, r1 = (VB s10) /\ Vars h3 [(b2, [s2_1.v]), (b1, [g0_1.v])] /\
 ((!s10) = true ->
 K (.tuple #[(VB false), (VB false)]) h3) /\
 ((!s10) = false ->
 callM P 52 #[(.agg #[g0_1.v]), (VI sink1_1), (.agg #[s2_1.v])] h3 fun r2 h4 => ∃ s15 : Bool, r2 = (VB s15) /\ Vars h4 [(b2, [s2_1.v]), (b1, [g0_1.v])] /\
 K (.tuple #[(VB s15), (VB true)]) h4)
theorem v12 (g0_1 : Sl) (sink1_1 : Int) (s2_1 : Sl) (h : Heap) (K : Value -> Heap -> Prop) (H : u12 Tryz.prog g0_1 sink1_1 s2_1 h K) : callM Tryz.prog 12 #[(Value.agg #[g0_1.v]), (VI sink1_1), (Value.agg #[s2_1.v])] h K := by
  refine c12 (Value.agg #[g0_1.v]) (VI sink1_1) (Value.agg #[s2_1.v]) h K ?_
  unfold u12 at H
  unfold t12
  have hL : Vars h [] := .nil
  refine eop_box 26 (Value.agg #[g0_1.v]) rfl hL (fun b1 h1 hb1 hf1 hL1 => ?_)
  refine eop_box 28 (Value.agg #[s2_1.v]) rfl hL1 (fun b2 h2 hb2 hf2 hL2 => ?_)
  refine ra agg26 hL2 1 0 [g0_1.v] ?_
  have H := H b1 b2 h2 hb1 (Nat.le_trans (Fr.size (Fr.no' (Fr.r (In []) _) hf1)) hb2) (Fr.no' (Fr.no' (Fr.r (In []) _) hf1) hf2) hL2
  refine H.mono fun r1 h3 H => ?_
  obtain ⟨s10, rfl, hL3, H⟩ := H
  refine pop_not s10 ?_
  refine condM_b (fun hb3 => ?_) (fun hb3 => ?_)
  ·exact H.1 hb3
  have H := H.2 hb3
  refine ra agg26 hL3 1 0 [g0_1.v] ?_
  refine ra agg28 hL3 0 0 [s2_1.v] ?_
  refine H.mono fun r2 h4 H => ?_
  obtain ⟨s15, rfl, hL4, H⟩ := H
  exact H
def u13 (P : Program) (g0_1 : Sl) (sink1_1 : Int) (s2_1 : Sl) (h : Heap) (K : Value -> Heap -> Prop) : Prop :=
 ∀ (b1 : Nat) (b2 : Nat) (h2 : Heap), h.size ≤ b1 -> h.size ≤ b2 -> Fr (In []) h h2 -> Vars h2 [(b2, [s2_1.v]), (b1, [g0_1.v])] ->
 callM P 50 #[(.agg #[g0_1.v]), (VI sink1_1), (.agg #[s2_1.v])] h2 fun r1 h3 => ∃ s11 : Bool, r1 = (VB s11) /\ Vars h3 [(b2, [s2_1.v]), (b1, [g0_1.v])] /\
 ((!s11) = true ->
 K (.tuple #[nilSl.v, (VB false)]) h3) /\
 ((!s11) = false ->
 callM P 56 #[(.agg #[s2_1.v]), (VI sink1_1)] h3 fun r2 h4 => ∃ s15 : Sl, ∃ s15b : Bool, r2 = (.tuple #[s15.v, (VB s15b)]) /\ Vars h4 [(b2, [s2_1.v]), (b1, [g0_1.v])] /\
 K (.tuple #[s15.v, (VB s15b)]) h4)
theorem v13 (g0_1 : Sl) (sink1_1 : Int) (s2_1 : Sl) (h : Heap) (K : Value -> Heap -> Prop) (H : u13 Tryz.prog g0_1 sink1_1 s2_1 h K) : callM Tryz.prog 13 #[(Value.agg #[g0_1.v]), (VI sink1_1), (Value.agg #[s2_1.v])] h K := by
  refine c13 (Value.agg #[g0_1.v]) (VI sink1_1) (Value.agg #[s2_1.v]) h K ?_
  unfold u13 at H
  unfold t13
  have hL : Vars h [] := .nil
  refine eop_box 26 (Value.agg #[g0_1.v]) rfl hL (fun b1 h1 hb1 hf1 hL1 => ?_)
  refine eop_box 28 (Value.agg #[s2_1.v]) rfl hL1 (fun b2 h2 hb2 hf2 hL2 => ?_)
  refine ra agg26 hL2 1 0 [g0_1.v] ?_
  refine ra agg28 hL2 0 0 [s2_1.v] ?_
  have H := H b1 b2 h2 hb1 (Nat.le_trans (Fr.size (Fr.no' (Fr.r (In []) _) hf1)) hb2) (Fr.no' (Fr.no' (Fr.r (In []) _) hf1) hf2) hL2
  refine H.mono fun r1 h3 H => ?_
  obtain ⟨s11, rfl, hL3, H⟩ := H
  refine pop_not s11 ?_
  refine condM_b (fun hb3 => ?_) (fun hb3 => ?_)
  ·exact H.1 hb3
  have H := H.2 hb3
  refine ra agg28 hL3 0 0 [s2_1.v] ?_
  refine H.mono fun r2 h4 H => ?_
  obtain ⟨s15, s15b, rfl, hL4, H⟩ := H
  refine pop_ext (v := s15.v) rfl ?_
  refine pop_ext (v := (VB s15b)) rfl ?_
  exact H
def u14 (P : Program) (g0_1 : Sl) (sink1_1 : Int) (s2_1 : Sl) (h : Heap) (K : Value -> Heap -> Prop) : Prop :=
 ∀ (b1 : Nat) (b2 : Nat) (h2 : Heap), h.size ≤ b1 -> h.size ≤ b2 -> Fr (In []) h h2 -> Vars h2 [(b2, [s2_1.v]), (b1, [g0_1.v])] ->
 callM P 52 #[(.agg #[g0_1.v]), (VI sink1_1), (.agg #[s2_1.v])] h2 fun r1 h3 => ∃ s11 : Bool, r1 = (VB s11) /\ Vars h3 [(b2, [s2_1.v]), (b1, [g0_1.v])] /\
 ((!s11) = true ->
 K (.tuple #[nilSl.v, (VB false)]) h3) /\
 ((!s11) = false ->
 callM P 57 #[(.agg #[g0_1.v]), (VI sink1_1), (.agg #[s2_1.v])] h3 fun r2 h4 => ∃ s16 : Sl, ∃ s16b : Bool, r2 = (.tuple #[s16.v, (VB s16b)]) /\ Vars h4 [(b2, [s2_1.v]), (b1, [g0_1.v])] /\
 K (.tuple #[s16.v, (VB s16b)]) h4)
theorem v14 (g0_1 : Sl) (sink1_1 : Int) (s2_1 : Sl) (h : Heap) (K : Value -> Heap -> Prop) (H : u14 Tryz.prog g0_1 sink1_1 s2_1 h K) : callM Tryz.prog 14 #[(Value.agg #[g0_1.v]), (VI sink1_1), (Value.agg #[s2_1.v])] h K := by
  refine c14 (Value.agg #[g0_1.v]) (VI sink1_1) (Value.agg #[s2_1.v]) h K ?_
  unfold u14 at H
  unfold t14
  have hL : Vars h [] := .nil
  refine eop_box 26 (Value.agg #[g0_1.v]) rfl hL (fun b1 h1 hb1 hf1 hL1 => ?_)
  refine eop_box 28 (Value.agg #[s2_1.v]) rfl hL1 (fun b2 h2 hb2 hf2 hL2 => ?_)
  refine ra agg26 hL2 1 0 [g0_1.v] ?_
  refine ra agg28 hL2 0 0 [s2_1.v] ?_
  have H := H b1 b2 h2 hb1 (Nat.le_trans (Fr.size (Fr.no' (Fr.r (In []) _) hf1)) hb2) (Fr.no' (Fr.no' (Fr.r (In []) _) hf1) hf2) hL2
  refine H.mono fun r1 h3 H => ?_
  obtain ⟨s11, rfl, hL3, H⟩ := H
  refine pop_not s11 ?_
  refine condM_b (fun hb3 => ?_) (fun hb3 => ?_)
  ·exact H.1 hb3
  have H := H.2 hb3
  refine ra agg26 hL3 1 0 [g0_1.v] ?_
  refine ra agg28 hL3 0 0 [s2_1.v] ?_
  refine H.mono fun r2 h4 H => ?_
  obtain ⟨s16, s16b, rfl, hL4, H⟩ := H
  refine pop_ext (v := s16.v) rfl ?_
  refine pop_ext (v := (VB s16b)) rfl ?_
  exact H
def u15 (P : Program) (a0_1 : Sl) (b1_1 : Sl) (h : Heap) (K : Value -> Heap -> Prop) : Prop :=
 ((!decide ((a0_1.n : Int) = (b1_1.n : Int))) = true ->
 K (VB false) h) /\
 ((!decide ((a0_1.n : Int) = (b1_1.n : Int))) = false ->
 ∃ J1 : Nat -> Int -> Heap -> Prop, (∃ n0 : Nat, J1 n0 0 h) /\
 ∀ (n1 : Nat) (s13 : Int) (h1 : Heap), J1 n1 s13 h1 -> Vars h1 [] ->
 ((decide (s13 < (a0_1.n : Int))) = true ->
 InB a0_1 s13 /\
 ∃ s19 : Sl, hcell h1 (Sl.at a0_1 s13 1) = some s19.v /\
 InB b1_1 s13 /\
 ∃ s23 : Sl, hcell h1 (Sl.at b1_1 s13 1) = some s23.v /\
 callM P 16 #[s19.v, s23.v] h1 fun r1 h2 => ∃ s24 : Bool, r1 = (VB s24) /\ Vars h2 [] /\
 ((!s24) = true ->
 K (VB false) h2) /\
 ((!s24) = false ->
 ∃ m : Nat, m < n1 /\ J1 m (w64 (s13 + 1)) h2)) /\
 ((decide (s13 < (a0_1.n : Int))) = false ->
 K (VB true) h1))
theorem v15 (a0_1 : Sl) (b1_1 : Sl) (h : Heap) (K : Value -> Heap -> Prop) (H : u15 Tryz.prog a0_1 b1_1 h K) : callM Tryz.prog 15 #[a0_1.v, b1_1.v] h K := by
  refine c15 a0_1.v b1_1.v h K ?_
  unfold u15 at H
  unfold t15
  have hL : Vars h [] := .nil
  refine pop_len a0_1 _ _ sli24 ?_
  refine pop_len b1_1 _ _ sli24 ?_
  refine pop_ine .i64 _ _ (a0_1.n : Int) (b1_1.n : Int) ?_
  refine condM_b (fun hb1 => ?_) (fun hb1 => ?_)
  ·exact H.1 hb1
  have H := H.2 hb1
  refine pop_len a0_1 _ _ sli24 ?_
  obtain ⟨J1, ⟨n2, h0_1⟩, HB1⟩ := H
  refine loop_intro (J := fun (n : Nat) (vs : List Value) (h' : Heap) => ∃ s13 : Int, vs = [(VI s13)] /\ J1 n s13 h' /\ Vars h' []) n2 ⟨0, rfl, h0_1, hL⟩ ?_
  intro I1 mu1 hI1 junk1 tv1 h1 hi1
  obtain ⟨n1, ⟨s13, hv, hJ1, hL1⟩, hn1⟩ := hI1 _ _ hi1
  cases hv
  have H := HB1 n1 s13 h1 hJ1 hL1
  refine pop_lss .i64 s13 (a0_1.n : Int) ?_
  refine condM_b (fun hb2 => ?_) (fun hb2 => ?_)
  rotate_left
  ·exact H.2 hb2
  have H := H.1 hb2
  obtain ⟨hi2, H⟩ := H
  refine pop_index sli24 siz33 .i64 a0_1 s13 hi2 ?_
  obtain ⟨s19, hc2, H⟩ := H
  refine rop_one one33 s19.v hc2 ?_
  obtain ⟨hi3, H⟩ := H
  refine pop_index sli24 siz33 .i64 b1_1 s13 hi3 ?_
  obtain ⟨s23, hc1, H⟩ := H
  refine rop_one one33 s23.v hc1 ?_
  refine H.mono fun r1 h2 H => ?_
  obtain ⟨s24, rfl, hL2, H⟩ := H
  refine pop_not s24 ?_
  refine condM_b (fun hb3 => ?_) (fun hb3 => ?_)
  ·exact H.1 hb3
  have H := H.2 hb3
  refine pop_add .i64 s13 1 ?_
  obtain ⟨m_1, hm_1, H⟩ := H
  exact hn1 _ _ ⟨m_1, hm_1, (w64 (s13 + 1)), rfl, H, hL2⟩
def u16 (P : Program) (a0_1 : Sl) (b1_1 : Sl) (h : Heap) (K : Value -> Heap -> Prop) : Prop :=
 ((!decide ((a0_1.n : Int) = (b1_1.n : Int))) = true ->
 K (VB false) h) /\
 ((!decide ((a0_1.n : Int) = (b1_1.n : Int))) = false ->
 ∃ J1 : Nat -> Int -> Heap -> Prop, (∃ n0 : Nat, J1 n0 0 h) /\
 ∀ (n1 : Nat) (s13 : Int) (h1 : Heap), J1 n1 s13 h1 -> Vars h1 [] ->
 ((decide (s13 < (a0_1.n : Int))) = true ->
 InB a0_1 s13 /\
 ∃ s19 : Int, hcell h1 (Sl.at a0_1 s13 1) = some (VI s19) /\
 InB b1_1 s13 /\
 ∃ s23 : Int, hcell h1 (Sl.at b1_1 s13 1) = some (VI s23) /\
 ((!decide (s19 = s23)) = true ->
 K (VB false) h1) /\
 ((!decide (s19 = s23)) = false ->
 ∃ m : Nat, m < n1 /\ J1 m (w64 (s13 + 1)) h1)) /\
 ((decide (s13 < (a0_1.n : Int))) = false ->
 K (VB true) h1))
theorem v16 (a0_1 : Sl) (b1_1 : Sl) (h : Heap) (K : Value -> Heap -> Prop) (H : u16 Tryz.prog a0_1 b1_1 h K) : callM Tryz.prog 16 #[a0_1.v, b1_1.v] h K := by
  refine c16 a0_1.v b1_1.v h K ?_
  unfold u16 at H
  unfold t16
  have hL : Vars h [] := .nil
  refine pop_len a0_1 _ _ sli33 ?_
  refine pop_len b1_1 _ _ sli33 ?_
  refine pop_ine .i64 _ _ (a0_1.n : Int) (b1_1.n : Int) ?_
  refine condM_b (fun hb1 => ?_) (fun hb1 => ?_)
  ·exact H.1 hb1
  have H := H.2 hb1
  refine pop_len a0_1 _ _ sli33 ?_
  obtain ⟨J1, ⟨n2, h0_1⟩, HB1⟩ := H
  refine loop_intro (J := fun (n : Nat) (vs : List Value) (h' : Heap) => ∃ s13 : Int, vs = [(VI s13)] /\ J1 n s13 h' /\ Vars h' []) n2 ⟨0, rfl, h0_1, hL⟩ ?_
  intro I1 mu1 hI1 junk1 tv1 h1 hi1
  obtain ⟨n1, ⟨s13, hv, hJ1, hL1⟩, hn1⟩ := hI1 _ _ hi1
  cases hv
  have H := HB1 n1 s13 h1 hJ1 hL1
  refine pop_lss .i64 s13 (a0_1.n : Int) ?_
  refine condM_b (fun hb2 => ?_) (fun hb2 => ?_)
  rotate_left
  ·exact H.2 hb2
  have H := H.1 hb2
  obtain ⟨hi2, H⟩ := H
  refine pop_index sli33 siz3 .i64 a0_1 s13 hi2 ?_
  obtain ⟨s19, hc2, H⟩ := H
  refine rop_one one3 (VI s19) hc2 ?_
  obtain ⟨hi3, H⟩ := H
  refine pop_index sli33 siz3 .i64 b1_1 s13 hi3 ?_
  obtain ⟨s23, hc1, H⟩ := H
  refine rop_one one3 (VI s23) hc1 ?_
  refine pop_ine .i64 _ _ s19 s23 ?_
  refine condM_b (fun hb3 => ?_) (fun hb3 => ?_)
  ·exact H.1 hb3
  have H := H.2 hb3
  refine pop_add .i64 s13 1 ?_
  obtain ⟨m_1, hm_1, H⟩ := H
  exact hn1 _ _ ⟨m_1, hm_1, (w64 (s13 + 1)), rfl, H, hL1⟩
def u17 (P : Program) (g0_1 : Sl) (sink1_1 : Int) (rotors2_1 : Sl) (h : Heap) (K : Value -> Heap -> Prop) : Prop :=
 ∀ (b1 : Nat) (h1 : Heap), h.size ≤ b1 -> Fr (In []) h h1 -> Vars h1 [(b1, [g0_1.v])] ->
 callM P 58 #[(.agg #[g0_1.v]), (VI sink1_1), rotors2_1.v] h1 fun r1 h2 => ∃ s11 : Bool, r1 = (VB s11) /\ Vars h2 [(b1, [g0_1.v])] /\
 ((!s11) = true ->
 K (.tuple #[(VB false), (VB false)]) h2) /\
 ((!s11) = false ->
 callM P 59 #[(.agg #[g0_1.v]), (VI sink1_1), rotors2_1.v] h2 fun r2 h3 => ∃ s16 : Bool, r2 = (VB s16) /\ Vars h3 [(b1, [g0_1.v])] /\
 K (.tuple #[(VB s16), (VB true)]) h3)
theorem v17 (g0_1 : Sl) (sink1_1 : Int) (rotors2_1 : Sl) (h : Heap) (K : Value -> Heap -> Prop) (H : u17 Tryz.prog g0_1 sink1_1 rotors2_1 h K) : callM Tryz.prog 17 #[(Value.agg #[g0_1.v]), (VI sink1_1), rotors2_1.v] h K := by
  refine c17 (Value.agg #[g0_1.v]) (VI sink1_1) rotors2_1.v h K ?_
  unfold u17 at H
  unfold t17
  have hL : Vars h [] := .nil
  refine eop_box 26 (Value.agg #[g0_1.v]) rfl hL (fun b1 h1 hb1 hf1 hL1 => ?_)
  refine ra agg26 hL1 0 0 [g0_1.v] ?_
  have H := H b1 h1 hb1 (Fr.no' (Fr.r (In []) _) hf1) hL1
  refine H.mono fun r1 h2 H => ?_
  obtain ⟨s11, rfl, hL2, H⟩ := H
  refine pop_not s11 ?_
  refine condM_b (fun hb2 => ?_) (fun hb2 => ?_)
  ·exact H.1 hb2
  have H := H.2 hb2
  refine ra agg26 hL2 0 0 [g0_1.v] ?_
  refine H.mono fun r2 h3 H => ?_
  obtain ⟨s16, rfl, hL3, H⟩ := H
  exact H
def u18 (P : Program) (code0_1 : Sl) (h : Heap) (K : Value -> Heap -> Prop) : Prop :=
 ∀ (b1 : Nat) (b2 : Nat) (b3 : Nat) (h3 : Heap), h.size ≤ b1 -> h.size ≤ b2 -> h.size ≤ b3 -> Fr (In []) h h3 -> Vars h3 [(b3, [code0_1.v, (VI 0), (Value.int .u64 0)]), (b2, [nilSl.v]), (b1, [nilSl.v])] ->
 callM P 60 #[(VP b3 0)] h3 fun r1 h4 => ∃ y1 : Sl, ∃ y2 : Int, ∃ y3 : Int, ∃ s15 : Sl, ∃ s15b : Int, ∃ s15c : Sl, r1 = (.tuple #[(.agg #[s15.v]), (VI s15b), (.agg #[s15c.v])]) /\ Vars h4 [(b3, [y1.v, (VI y2), (Value.int .u64 y3)]), (b2, [nilSl.v]), (b1, [nilSl.v])] /\
 ∀ (b4 : Nat) (b5 : Nat) (h8 : Heap), h4.size ≤ b4 -> h4.size ≤ b5 -> Fr (In []) h4 h8 -> Vars h8 [(b5, [s15c.v]), (b4, [s15.v]), (b3, [y1.v, (VI y2), (Value.int .u64 y3)]), (b2, [nilSl.v]), (b1, [nilSl.v])] ->
 callM P 61 #[(VP b3 0), (.agg #[s15.v])] h8 fun r2 h9 => ∃ y4 : Sl, ∃ y5 : Int, ∃ y6 : Int, ∃ s24 : Int, r2 = (VI s24) /\ Vars h9 [(b5, [s15c.v]), (b4, [s15.v]), (b3, [y4.v, (VI y5), (Value.int .u64 y6)]), (b2, [nilSl.v]), (b1, [nilSl.v])] /\
 ∀ (h10 : Heap), Fr (In [b1]) h9 h10 -> Vars h10 [(b5, [s15c.v]), (b4, [s15.v]), (b3, [y4.v, (VI y5), (Value.int .u64 y6)]), (b2, [nilSl.v]), (b1, [s15.v])] ->
 ∀ (h11 : Heap), Fr (In [b2]) h10 h11 -> Vars h11 [(b5, [s15c.v]), (b4, [s15.v]), (b3, [y4.v, (VI y5), (Value.int .u64 y6)]), (b2, [s15c.v]), (b1, [s15.v])] ->
 K (.tuple #[(.agg #[s15.v]), (VI s15b), (.agg #[s15c.v]), (VI s24)]) h11
theorem v18 (code0_1 : Sl) (h : Heap) (K : Value -> Heap -> Prop) (H : u18 Tryz.prog code0_1 h K) : callM Tryz.prog 18 #[code0_1.v] h K := by
  refine c18 code0_1.v h K ?_
  unfold u18 at H
  unfold t18
  have hL : Vars h [] := .nil
  refine eop_alloc 26 zer26 rfl hL (fun b1 h1 hb1 hf1 hL1 => ?_)
  refine eop_alloc 28 zer28 rfl hL1 (fun b2 h2 hb2 hf2 hL2 => ?_)
  refine pop.mk' (v := (Value.agg #[code0_1.v, (VI 0), (Value.int .u64 0)])) (fun w => by kernel_rfl) ?_
  refine eop_box 84 (Value.agg #[code0_1.v, (VI 0), (Value.int .u64 0)]) rfl hL2 (fun b3 h3 hb3 hf3 hL3 => ?_)
  have H := H b1 b2 b3 h3 hb1 (Nat.le_trans (Fr.size (Fr.no' (Fr.r (In []) _) hf1)) hb2) (Nat.le_trans (Fr.size (Fr.no' (Fr.no' (Fr.r (In []) _) hf1) hf2)) hb3) (Fr.no' (Fr.no' (Fr.no' (Fr.r (In []) _) hf1) hf2) hf3) hL3
  refine H.mono fun r1 h4 H => ?_
  obtain ⟨y1, y2, y3, s15, s15b, s15c, rfl, hL4, H⟩ := H
  refine pop_ext (v := (Value.agg #[s15.v])) rfl ?_
  refine pop_ext (v := (VI s15b)) rfl ?_
  refine pop_ext (v := (Value.agg #[s15c.v])) rfl ?_
  refine eop_alloc 26 zer26 rfl hL4 (fun b4 h5 hb4 hf4 hL5 => ?_)
  refine eop_alloc 28 zer28 rfl hL5 (fun b5 h6 hb5 hf5 hL6 => ?_)
  refine ul siz26 hL6 1 0 [s15.v] [(b5, [nilSl.v]), (b4, [s15.v]), (b3, [y1.v, (VI y2), (Value.int .u64 y3)]), (b2, [nilSl.v]), (b1, [nilSl.v])] (fun h7 hf6 hL7 => ?_)
  refine ul siz28 hL7 0 0 [s15c.v] [(b5, [s15c.v]), (b4, [s15.v]), (b3, [y1.v, (VI y2), (Value.int .u64 y3)]), (b2, [nilSl.v]), (b1, [nilSl.v])] (fun h8 hf7 hL8 => ?_)
  refine ra agg26 hL8 1 0 [s15.v] ?_
  refine ra agg28 hL8 0 0 [s15c.v] ?_
  refine ra agg26 hL8 1 0 [s15.v] ?_
  have H := H b4 b5 h8 hb4 (Nat.le_trans (Fr.size (Fr.no' (Fr.r (In []) _) hf4)) hb5) (Fr.new (Fr.new (Fr.no' (Fr.no' (Fr.r (In []) _) hf4) hf5) hb4 hf6) (Nat.le_trans (Fr.size (Fr.no' (Fr.r (In []) _) hf4)) hb5) hf7) hL8
  refine H.mono fun r2 h9 H => ?_
  obtain ⟨y4, y5, y6, s24, rfl, hL9, H⟩ := H
  refine ⟨?_, ?_⟩
  ·exact still_locA agg28 hL9 0 rfl 0 (vs := [s15c.v]) rfl rfl
  refine ⟨?_, ?_⟩
  ·exact still_locA agg26 hL9 1 rfl 0 (vs := [s15.v]) rfl rfl
  refine ul siz26 hL9 4 0 [s15.v] [(b5, [s15c.v]), (b4, [s15.v]), (b3, [y4.v, (VI y5), (Value.int .u64 y6)]), (b2, [nilSl.v]), (b1, [s15.v])] (fun h10 hf8 hL10 => ?_)
  have H := H  h10  (Fr.old (Fr.r (In []) _) hf8) hL10
  refine ⟨?_, ?_⟩
  ·exact still_locA agg28 hL10 0 rfl 0 (vs := [s15c.v]) rfl rfl
  refine ul siz28 hL10 3 0 [s15c.v] [(b5, [s15c.v]), (b4, [s15.v]), (b3, [y4.v, (VI y5), (Value.int .u64 y6)]), (b2, [s15c.v]), (b1, [s15.v])] (fun h11 hf9 hL11 => ?_)
  refine ra agg26 hL11 4 0 [s15.v] ?_
  refine ra agg28 hL11 3 0 [s15c.v] ?_
  have H := H  h11  (Fr.old (Fr.r (In []) _) hf9) hL11
  exact H
def u19 (P : Program) (g0_1 : Sl) (sink1_1 : Int) (s2_1 : Sl) (p3_1 : Int) (h : Heap) (K : Value -> Heap -> Prop) : Prop :=
 ∀ (b1 : Nat) (b2 : Nat) (b3 : Nat) (h3 : Heap), h.size ≤ b1 -> h.size ≤ b2 -> h.size ≤ b3 -> Fr (In []) h h3 -> Vars h3 [(b3, [nilSl.v]), (b2, [s2_1.v]), (b1, [g0_1.v])] ->
 callM P 50 #[(.agg #[g0_1.v]), (VI sink1_1), (.agg #[s2_1.v])] h3 fun r1 h4 => ∃ s15 : Bool, r1 = (VB s15) /\ Vars h4 [(b3, [nilSl.v]), (b2, [s2_1.v]), (b1, [g0_1.v])] /\
 ((!s15) = true ->
 ∀ (h16 : Heap), Fr (In [b3]) h4 h16 -> Vars h16 [(b3, [nilSl.v]), (b2, [s2_1.v]), (b1, [g0_1.v])] ->
 K (.tuple #[(.agg #[nilSl.v]), (VB false)]) h16) /\
 ((!s15) = false ->
 eop P (Instr.buildSlice 33 1 #[(0, (VI p3_1))]) h4 fun r2 h5 => ∃ s20 : Sl, r2 = s20.v /\ Vars h5 [(b3, [nilSl.v]), (b2, [s2_1.v]), (b1, [g0_1.v])] /\
 callM P 54 #[(.agg #[g0_1.v]), s20.v] h5 fun r3 h6 => ∃ s21 : Bool, r3 = (VB s21) /\ Vars h6 [(b3, [nilSl.v]), (b2, [s2_1.v]), (b1, [g0_1.v])] /\
 ((!s21) = true ->
 ∀ (h7 : Heap), Fr (In [b3]) h6 h7 -> Vars h7 [(b3, [nilSl.v]), (b2, [s2_1.v]), (b1, [g0_1.v])] ->
 K (.tuple #[(.agg #[nilSl.v]), (VB false)]) h7) /\
 ((!s21) = false ->
 callM P 62 #[(.agg #[s2_1.v]), (.agg #[g0_1.v]), (VI p3_1)] h6 fun r4 h8 => ∃ s28 : Sl, r4 = s28.v /\ Vars h8 [(b3, [nilSl.v]), (b2, [s2_1.v]), (b1, [g0_1.v])] /\
 pop P (binE .eql 33 (.tmp 29) (.const (Value.slice none 0 0)) s28.v (Value.slice none 0 0)) fun r5 => ∃ s30 : Bool, r5 = (VB s30) /\ 
 (s30 = true ->
 ∀ (h9 : Heap), Fr (In [b3]) h8 h9 -> Vars h9 [(b3, [nilSl.v]), (b2, [s2_1.v]), (b1, [g0_1.v])] ->
 K (.tuple #[(.agg #[nilSl.v]), (VB false)]) h9) /\
 (s30 = false ->
 callM P 63 #[(.agg #[s2_1.v])] h8 fun r6 h10 => ∃ s33 : Sl, r6 = (.agg #[s33.v]) /\ Vars h10 [(b3, [nilSl.v]), (b2, [s2_1.v]), (b1, [g0_1.v])] /\
 ∀ (b4 : Nat) (h12 : Heap), h10.size ≤ b4 -> Fr (In []) h10 h12 -> Vars h12 [(b4, [s33.v]), (b3, [nilSl.v]), (b2, [s2_1.v]), (b1, [g0_1.v])] ->
 callM P 64 #[(.agg #[s33.v]), s28.v] h12 fun r7 h13 => Vars h13 [(b4, [s33.v]), (b3, [nilSl.v]), (b2, [s2_1.v]), (b1, [g0_1.v])] /\
 callM P 63 #[(.agg #[s33.v])] h13 fun r8 h14 => ∃ s38 : Sl, r8 = (.agg #[s38.v]) /\ Vars h14 [(b4, [s33.v]), (b3, [nilSl.v]), (b2, [s2_1.v]), (b1, [g0_1.v])] /\
 ∀ (h15 : Heap), Fr (In [b3]) h14 h15 -> Vars h15 [(b4, [s33.v]), (b3, [s38.v]), (b2, [s2_1.v]), (b1, [g0_1.v])] ->
 K (.tuple #[(.agg #[s38.v]), (VB true)]) h15)))
theorem v19 (g0_1 : Sl) (sink1_1 : Int) (s2_1 : Sl) (p3_1 : Int) (h : Heap) (K : Value -> Heap -> Prop) (H : u19 Tryz.prog g0_1 sink1_1 s2_1 p3_1 h K) : callM Tryz.prog 19 #[(Value.agg #[g0_1.v]), (VI sink1_1), (Value.agg #[s2_1.v]), (VI p3_1)] h K := by
  refine c19 (Value.agg #[g0_1.v]) (VI sink1_1) (Value.agg #[s2_1.v]) (VI p3_1) h K ?_
  unfold u19 at H
  unfold t19
  have hL : Vars h [] := .nil
  refine eop_box 26 (Value.agg #[g0_1.v]) rfl hL (fun b1 h1 hb1 hf1 hL1 => ?_)
  refine eop_box 28 (Value.agg #[s2_1.v]) rfl hL1 (fun b2 h2 hb2 hf2 hL2 => ?_)
  refine eop_alloc 28 zer28 rfl hL2 (fun b3 h3 hb3 hf3 hL3 => ?_)
  refine ra agg26 hL3 2 0 [g0_1.v] ?_
  refine ra agg28 hL3 1 0 [s2_1.v] ?_
  have H := H b1 b2 b3 h3 hb1 (Nat.le_trans (Fr.size (Fr.no' (Fr.r (In []) _) hf1)) hb2) (Nat.le_trans (Fr.size (Fr.no' (Fr.no' (Fr.r (In []) _) hf1) hf2)) hb3) (Fr.no' (Fr.no' (Fr.no' (Fr.r (In []) _) hf1) hf2) hf3) hL3
  refine H.mono fun r1 h4 H => ?_
  obtain ⟨s15, rfl, hL4, H⟩ := H
  refine pop_not s15 ?_
  refine guardM_sf (fun hb4 => ?_) (fun hb4 => ?_)
  rotate_left
  ·have H := H.1 hb4
   refine gm hb4 ?_
   refine gm hb4 ?_
   refine gm hb4 ?_
   refine gm hb4 ?_
   refine pop_pickt' hb4 ?_
   refine condM_t ?_
   refine pop.mk' (v := (Value.agg #[nilSl.v])) (fun w => by kernel_rfl) ?_
   refine ul siz28 hL4 0 0 [nilSl.v] [(b3, [nilSl.v]), (b2, [s2_1.v]), (b1, [g0_1.v])] (fun h16 hf9 hL16 => ?_)
   refine ra agg28 hL16 0 0 [nilSl.v] ?_
   have H := H  h16  (Fr.old (Fr.r (In []) _) hf9) hL16
   exact H
  have H := H.2 hb4
  refine ra agg26 hL4 2 0 [g0_1.v] ?_
  refine gy hb4 ?_
  refine gy hb4 ?_
  refine H.mono fun r2 h5 H => ?_
  obtain ⟨s20, rfl, hL5, H⟩ := H
  refine gy hb4 ?_
  refine H.mono fun r3 h6 H => ?_
  obtain ⟨s21, rfl, hL6, H⟩ := H
  refine gy hb4 ?_
  refine pop_not s21 ?_
  refine pop_pickf' hb4 ?_
  refine condM_b (fun hb5 => ?_) (fun hb5 => ?_)
  ·have H := H.1 hb5
   refine pop.mk' (v := (Value.agg #[nilSl.v])) (fun w => by kernel_rfl) ?_
   refine ul siz28 hL6 0 0 [nilSl.v] [(b3, [nilSl.v]), (b2, [s2_1.v]), (b1, [g0_1.v])] (fun h7 hf4 hL7 => ?_)
   refine ra agg28 hL7 0 0 [nilSl.v] ?_
   have H := H  h7  (Fr.old (Fr.r (In []) _) hf4) hL7
   exact H
  have H := H.2 hb5
  refine ra agg28 hL6 1 0 [s2_1.v] ?_
  refine ra agg26 hL6 2 0 [g0_1.v] ?_
  refine H.mono fun r4 h8 H => ?_
  obtain ⟨s28, rfl, hL8, H⟩ := H
  refine H.mono fun r5 H => ?_
  obtain ⟨s30, rfl, H⟩ := H
  refine condM_b (fun hb6 => ?_) (fun hb6 => ?_)
  ·have H := H.1 hb6
   refine pop.mk' (v := (Value.agg #[nilSl.v])) (fun w => by kernel_rfl) ?_
   refine ul siz28 hL8 0 0 [nilSl.v] [(b3, [nilSl.v]), (b2, [s2_1.v]), (b1, [g0_1.v])] (fun h9 hf5 hL9 => ?_)
   refine ra agg28 hL9 0 0 [nilSl.v] ?_
   have H := H  h9  (Fr.old (Fr.r (In []) _) hf5) hL9
   exact H
  have H := H.2 hb6
  refine ra agg28 hL8 1 0 [s2_1.v] ?_
  refine H.mono fun r6 h10 H => ?_
  obtain ⟨s33, rfl, hL10, H⟩ := H
  refine eop_alloc 28 zer28 rfl hL10 (fun b4 h11 hb7 hf6 hL11 => ?_)
  refine ul siz28 hL11 0 0 [s33.v] [(b4, [s33.v]), (b3, [nilSl.v]), (b2, [s2_1.v]), (b1, [g0_1.v])] (fun h12 hf7 hL12 => ?_)
  refine ra agg28 hL12 0 0 [s33.v] ?_
  have H := H b4 h12 hb7 (Fr.new (Fr.no' (Fr.r (In []) _) hf6) hb7 hf7) hL12
  refine H.mono fun r7 h13 H => ?_
  obtain ⟨hL13, H⟩ := H
  refine ra agg28 hL13 0 0 [s33.v] ?_
  refine H.mono fun r8 h14 H => ?_
  obtain ⟨s38, rfl, hL14, H⟩ := H
  refine ul siz28 hL14 1 0 [s38.v] [(b4, [s33.v]), (b3, [s38.v]), (b2, [s2_1.v]), (b1, [g0_1.v])] (fun h15 hf8 hL15 => ?_)
  refine ra agg28 hL15 1 0 [s38.v] ?_
  have H := H  h15  (Fr.old (Fr.r (In []) _) hf8) hL15
  exact H
def u20 (P : Program) (g0_1 : Sl) (sink1_1 : Int) (s2_1 : Sl) (p3_1 : Int) (h : Heap) (K : Value -> Heap -> Prop) : Prop :=
 ∀ (b1 : Nat) (b2 : Nat) (b3 : Nat) (h3 : Heap), h.size ≤ b1 -> h.size ≤ b2 -> h.size ≤ b3 -> Fr (In []) h h3 -> Vars h3 [(b3, [nilSl.v]), (b2, [s2_1.v]), (b1, [g0_1.v])] ->
 callM P 52 #[(.agg #[g0_1.v]), (VI sink1_1), (.agg #[s2_1.v])] h3 fun r1 h4 => ∃ s14 : Bool, r1 = (VB s14) /\ Vars h4 [(b3, [nilSl.v]), (b2, [s2_1.v]), (b1, [g0_1.v])] /\
 ((!s14) = true ->
 ∀ (h11 : Heap), Fr (In [b3]) h4 h11 -> Vars h11 [(b3, [nilSl.v]), (b2, [s2_1.v]), (b1, [g0_1.v])] ->
 K (.tuple #[(.agg #[nilSl.v]), (VB false)]) h11) /\
 ((!s14) = false ->
 callM P 55 #[(.agg #[g0_1.v]), (VI p3_1)] h4 fun r2 h5 => ∃ s19 : Bool, r2 = (VB s19) /\ Vars h5 [(b3, [nilSl.v]), (b2, [s2_1.v]), (b1, [g0_1.v])] /\
 ((!s19) = true ->
 ∀ (h6 : Heap), Fr (In [b3]) h5 h6 -> Vars h6 [(b3, [nilSl.v]), (b2, [s2_1.v]), (b1, [g0_1.v])] ->
 K (.tuple #[(.agg #[nilSl.v]), (VB false)]) h6) /\
 ((!s19) = false ->
 callM P 65 #[(.agg #[g0_1.v]), (.agg #[s2_1.v]), (VI p3_1)] h5 fun r3 h7 => ∃ s26 : Sl, r3 = s26.v /\ Vars h7 [(b3, [nilSl.v]), (b2, [s2_1.v]), (b1, [g0_1.v])] /\
 ((decide ((s26.n : Int) = 0)) = true ->
 ∀ (h8 : Heap), Fr (In [b3]) h7 h8 -> Vars h8 [(b3, [nilSl.v]), (b2, [s2_1.v]), (b1, [g0_1.v])] ->
 K (.tuple #[(.agg #[nilSl.v]), (VB false)]) h8) /\
 ((decide ((s26.n : Int) = 0)) = false ->
 callM P 66 #[(.agg #[s2_1.v]), s26.v] h7 fun r4 h9 => ∃ s33 : Sl, r4 = (.agg #[s33.v]) /\ Vars h9 [(b3, [nilSl.v]), (b2, [s2_1.v]), (b1, [g0_1.v])] /\
 ∀ (h10 : Heap), Fr (In [b3]) h9 h10 -> Vars h10 [(b3, [s33.v]), (b2, [s2_1.v]), (b1, [g0_1.v])] ->
 K (.tuple #[(.agg #[s33.v]), (VB true)]) h10)))
theorem v20 (g0_1 : Sl) (sink1_1 : Int) (s2_1 : Sl) (p3_1 : Int) (h : Heap) (K : Value -> Heap -> Prop) (H : u20 Tryz.prog g0_1 sink1_1 s2_1 p3_1 h K) : callM Tryz.prog 20 #[(Value.agg #[g0_1.v]), (VI sink1_1), (Value.agg #[s2_1.v]), (VI p3_1)] h K := by
  refine c20 (Value.agg #[g0_1.v]) (VI sink1_1) (Value.agg #[s2_1.v]) (VI p3_1) h K ?_
  unfold u20 at H
  unfold t20
  have hL : Vars h [] := .nil
  refine eop_box 26 (Value.agg #[g0_1.v]) rfl hL (fun b1 h1 hb1 hf1 hL1 => ?_)
  refine eop_box 28 (Value.agg #[s2_1.v]) rfl hL1 (fun b2 h2 hb2 hf2 hL2 => ?_)
  refine eop_alloc 28 zer28 rfl hL2 (fun b3 h3 hb3 hf3 hL3 => ?_)
  refine ra agg26 hL3 2 0 [g0_1.v] ?_
  refine ra agg28 hL3 1 0 [s2_1.v] ?_
  have H := H b1 b2 b3 h3 hb1 (Nat.le_trans (Fr.size (Fr.no' (Fr.r (In []) _) hf1)) hb2) (Nat.le_trans (Fr.size (Fr.no' (Fr.no' (Fr.r (In []) _) hf1) hf2)) hb3) (Fr.no' (Fr.no' (Fr.no' (Fr.r (In []) _) hf1) hf2) hf3) hL3
  refine H.mono fun r1 h4 H => ?_
  obtain ⟨s14, rfl, hL4, H⟩ := H
  refine pop_not s14 ?_
  refine guardM_sf (fun hb4 => ?_) (fun hb4 => ?_)
  rotate_left
  ·have H := H.1 hb4
   refine gm hb4 ?_
   refine gm hb4 ?_
   refine gm hb4 ?_
   refine pop_pickt' hb4 ?_
   refine condM_t ?_
   refine pop.mk' (v := (Value.agg #[nilSl.v])) (fun w => by kernel_rfl) ?_
   refine ul siz28 hL4 0 0 [nilSl.v] [(b3, [nilSl.v]), (b2, [s2_1.v]), (b1, [g0_1.v])] (fun h11 hf7 hL11 => ?_)
   refine ra agg28 hL11 0 0 [nilSl.v] ?_
   have H := H  h11  (Fr.old (Fr.r (In []) _) hf7) hL11
   exact H
  have H := H.2 hb4
  refine ra agg26 hL4 2 0 [g0_1.v] ?_
  refine gy hb4 ?_
  refine gy hb4 ?_
  refine H.mono fun r2 h5 H => ?_
  obtain ⟨s19, rfl, hL5, H⟩ := H
  refine gy hb4 ?_
  refine pop_not s19 ?_
  refine pop_pickf' hb4 ?_
  refine condM_b (fun hb5 => ?_) (fun hb5 => ?_)
  ·have H := H.1 hb5
   refine pop.mk' (v := (Value.agg #[nilSl.v])) (fun w => by kernel_rfl) ?_
   refine ul siz28 hL5 0 0 [nilSl.v] [(b3, [nilSl.v]), (b2, [s2_1.v]), (b1, [g0_1.v])] (fun h6 hf4 hL6 => ?_)
   refine ra agg28 hL6 0 0 [nilSl.v] ?_
   have H := H  h6  (Fr.old (Fr.r (In []) _) hf4) hL6
   exact H
  have H := H.2 hb5
  refine ra agg26 hL5 2 0 [g0_1.v] ?_
  refine ra agg28 hL5 1 0 [s2_1.v] ?_
  refine H.mono fun r3 h7 H => ?_
  obtain ⟨s26, rfl, hL7, H⟩ := H
  refine pop_len s26 _ _ sli33 ?_
  refine pop_ieq .i64 _ _ (s26.n : Int) 0 ?_
  refine condM_b (fun hb6 => ?_) (fun hb6 => ?_)
  ·have H := H.1 hb6
   refine pop.mk' (v := (Value.agg #[nilSl.v])) (fun w => by kernel_rfl) ?_
   refine ul siz28 hL7 0 0 [nilSl.v] [(b3, [nilSl.v]), (b2, [s2_1.v]), (b1, [g0_1.v])] (fun h8 hf5 hL8 => ?_)
   refine ra agg28 hL8 0 0 [nilSl.v] ?_
   have H := H  h8  (Fr.old (Fr.r (In []) _) hf5) hL8
   exact H
  have H := H.2 hb6
  refine ra agg28 hL7 1 0 [s2_1.v] ?_
  refine H.mono fun r4 h9 H => ?_
  obtain ⟨s33, rfl, hL9, H⟩ := H
  refine ul siz28 hL9 0 0 [s33.v] [(b3, [s33.v]), (b2, [s2_1.v]), (b1, [g0_1.v])] (fun h10 hf6 hL10 => ?_)
  refine ra agg28 hL10 0 0 [s33.v] ?_
  have H := H  h10  (Fr.old (Fr.r (In []) _) hf6) hL10
  exact H
def u21 (P : Program) (a0_1 : Sl) (b1_1 : Sl) (h : Heap) (K : Value -> Heap -> Prop) : Prop :=
 ∀ (b1 : Nat) (b2 : Nat) (h2 : Heap), h.size ≤ b1 -> h.size ≤ b2 -> Fr (In []) h h2 -> Vars h2 [(b2, [b1_1.v]), (b1, [a0_1.v])] ->
 callM P 15 #[a0_1.v, b1_1.v] h2 fun r1 h3 => ∃ s9 : Bool, r1 = (VB s9) /\ Vars h3 [(b2, [b1_1.v]), (b1, [a0_1.v])] /\
 K (VB s9) h3
theorem v21 (a0_1 : Sl) (b1_1 : Sl) (h : Heap) (K : Value -> Heap -> Prop) (H : u21 Tryz.prog a0_1 b1_1 h K) : callM Tryz.prog 21 #[(Value.agg #[a0_1.v]), (Value.agg #[b1_1.v])] h K := by
  refine c21 (Value.agg #[a0_1.v]) (Value.agg #[b1_1.v]) h K ?_
  unfold u21 at H
  unfold t21
  have hL : Vars h [] := .nil
  refine eop_box 28 (Value.agg #[a0_1.v]) rfl hL (fun b1 h1 hb1 hf1 hL1 => ?_)
  refine eop_box 28 (Value.agg #[b1_1.v]) rfl hL1 (fun b2 h2 hb2 hf2 hL2 => ?_)
  refine pop_field 0 fld28_0 b1 0 ?_
  refine rl one24 hL2 1 0 a0_1.v ?_
  refine pop_field 0 fld28_0 b2 0 ?_
  refine rl one24 hL2 0 0 b1_1.v ?_
  have H := H b1 b2 h2 hb1 (Nat.le_trans (Fr.size (Fr.no' (Fr.r (In []) _) hf1)) hb2) (Fr.no' (Fr.no' (Fr.r (In []) _) hf1) hf2) hL2
  refine H.mono fun r1 h3 H => ?_
  obtain ⟨s9, rfl, hL3, H⟩ := H
  exact H
def u22 (P : Program) (a0_1 : Sl) (n1_1 : Int) (h : Heap) (K : Value -> Heap -> Prop) : Prop :=
 ∃ J1 : Nat -> Int -> Heap -> Prop, (∃ n0 : Nat, J1 n0 0 h) /\
 ∀ (n1 : Nat) (s9 : Int) (h1 : Heap), J1 n1 s9 h1 -> Vars h1 [] ->
 ((decide (s9 < (a0_1.n : Int))) = true ->
 InB a0_1 s9 /\
 ∃ s12 : Int, hcell h1 (Sl.at a0_1 s9 1) = some (VI s12) /\
 ((decide (s12 = n1_1)) = true ->
 K (VB true) h1) /\
 ((decide (s12 = n1_1)) = false ->
 ∃ m : Nat, m < n1 /\ J1 m (w64 (s9 + 1)) h1)) /\
 ((decide (s9 < (a0_1.n : Int))) = false ->
 K (VB false) h1)
theorem v22 (a0_1 : Sl) (n1_1 : Int) (h : Heap) (K : Value -> Heap -> Prop) (H : u22 Tryz.prog a0_1 n1_1 h K) : callM Tryz.prog 22 #[a0_1.v, (VI n1_1)] h K := by
  refine c22 a0_1.v (VI n1_1) h K ?_
  unfold u22 at H
  unfold t22
  have hL : Vars h [] := .nil
  refine pop_len a0_1 _ _ sli33 ?_
  obtain ⟨J1, ⟨n2, h0_1⟩, HB1⟩ := H
  refine loop_intro (J := fun (n : Nat) (vs : List Value) (h' : Heap) => ∃ s9 : Int, vs = [(VI s9)] /\ J1 n s9 h' /\ Vars h' []) n2 ⟨0, rfl, h0_1, hL⟩ ?_
  intro I1 mu1 hI1 junk1 tv1 h1 hi1
  obtain ⟨n1, ⟨s9, hv, hJ1, hL1⟩, hn1⟩ := hI1 _ _ hi1
  cases hv
  have H := HB1 n1 s9 h1 hJ1 hL1
  refine pop_lss .i64 s9 (a0_1.n : Int) ?_
  refine condM_b (fun hb1 => ?_) (fun hb1 => ?_)
  rotate_left
  ·exact H.2 hb1
  have H := H.1 hb1
  obtain ⟨hi2, H⟩ := H
  refine pop_index sli33 siz3 .i64 a0_1 s9 hi2 ?_
  obtain ⟨s12, hc1, H⟩ := H
  refine rop_one one3 (VI s12) hc1 ?_
  refine pop_ieq .i64 _ _ s12 n1_1 ?_
  refine condM_b (fun hb2 => ?_) (fun hb2 => ?_)
  ·exact H.1 hb2
  have H := H.2 hb2
  refine pop_add .i64 s9 1 ?_
  obtain ⟨m_1, hm_1, H⟩ := H
  exact hn1 _ _ ⟨m_1, hm_1, (w64 (s9 + 1)), rfl, H, hL1⟩
def u23 (P : Program) (code0_1 : Sl) (h : Heap) (K : Value -> Heap -> Prop) : Prop :=
 ∀ (b1 : Nat) (b2 : Nat) (h2 : Heap), h.size ≤ b1 -> h.size ≤ b2 -> Fr (In []) h h2 -> Vars h2 [(b2, [code0_1.v, (VI 0), (Value.int .u64 0)]), (b1, [nilSl.v])] ->
 callM P 67 #[(VP b2 0)] h2 fun r1 h3 => ∃ y1 : Sl, ∃ y2 : Int, ∃ y3 : Int, ∃ s14 : Sl, ∃ s14b : Sl, ∃ s14c : Int, r1 = (.tuple #[(.agg #[s14.v]), (.agg #[s14b.v, (VI s14c)])]) /\ Vars h3 [(b2, [y1.v, (VI y2), (Value.int .u64 y3)]), (b1, [nilSl.v])] /\
 ∀ (b3 : Nat) (b4 : Nat) (h7 : Heap), h3.size ≤ b3 -> h3.size ≤ b4 -> Fr (In []) h3 h7 -> Vars h7 [(b4, [s14b.v, (VI s14c)]), (b3, [s14.v]), (b2, [y1.v, (VI y2), (Value.int .u64 y3)]), (b1, [nilSl.v])] ->
 callM P 68 #[(VP b2 0), (VI 10)] h7 fun r2 h8 => ∃ y4 : Sl, ∃ y5 : Int, ∃ y6 : Int, ∃ s18 : Bool, r2 = (VB s18) /\ Vars h8 [(b4, [s14b.v, (VI s14c)]), (b3, [s14.v]), (b2, [y4.v, (VI y5), (Value.int .u64 y6)]), (b1, [nilSl.v])] /\
 (s18 = true ->
 (callM P 61 #[(VP b2 0), (.agg #[s14.v])] h8 fun r3 h9 => ∃ y7 : Sl, ∃ y8 : Int, ∃ y9 : Int, ∃ s22 : Int, r3 = (VI s22) /\ Vars h9 [(b4, [s14b.v, (VI s14c)]), (b3, [s14.v]), (b2, [y7.v, (VI y8), (Value.int .u64 y9)]), (b1, [nilSl.v])] /\
 eop P (Instr.buildSlice 33 3 #[(0, (.int .i64 (-1))), (1, (.int .i64 12)), (2, (.int .i64 13))]) h9 fun r4 h10 => ∃ s26 : Sl, r4 = s26.v /\ Vars h10 [(b4, [s14b.v, (VI s14c)]), (b3, [s14.v]), (b2, [y7.v, (VI y8), (Value.int .u64 y9)]), (b1, [nilSl.v])] /\
 callM P 69 #[(VP b2 0), s26.v] h10 fun r5 h11 => ∃ y10 : Sl, ∃ y11 : Int, ∃ y12 : Int, ∃ s27 : Int, r5 = (VI s27) /\ Vars h11 [(b4, [s14b.v, (VI s14c)]), (b3, [s14.v]), (b2, [y10.v, (VI y11), (Value.int .u64 y12)]), (b1, [nilSl.v])] /\
 ∀ (h12 : Heap), Fr (In [b1]) h11 h12 -> Vars h12 [(b4, [s14b.v, (VI s14c)]), (b3, [s14.v]), (b2, [y10.v, (VI y11), (Value.int .u64 y12)]), (b1, [s14.v])] ->
 K (.tuple #[(.agg #[s14.v]), (VI s22), s14b.v, (VI s27)]) h12) /\
 (eop P (Instr.buildSlice 33 3 #[(0, (.int .i64 (-1))), (1, (.int .i64 12)), (2, (.int .i64 13))]) h8 fun r6 h13 => ∃ s26b : Sl, r6 = s26b.v /\ Vars h13 [(b4, [s14b.v, (VI s14c)]), (b3, [s14.v]), (b2, [y4.v, (VI y5), (Value.int .u64 y6)]), (b1, [nilSl.v])] /\
 callM P 61 #[(VP b2 0), (.agg #[s14.v])] h13 fun r7 h14 => ∃ y13 : Sl, ∃ y14 : Int, ∃ y15 : Int, ∃ s22b : Int, r7 = (VI s22b) /\ Vars h14 [(b4, [s14b.v, (VI s14c)]), (b3, [s14.v]), (b2, [y13.v, (VI y14), (Value.int .u64 y15)]), (b1, [nilSl.v])] /\
 callM P 69 #[(VP b2 0), s26b.v] h14 fun r8 h15 => ∃ y16 : Sl, ∃ y17 : Int, ∃ y18 : Int, ∃ s27b : Int, r8 = (VI s27b) /\ Vars h15 [(b4, [s14b.v, (VI s14c)]), (b3, [s14.v]), (b2, [y16.v, (VI y17), (Value.int .u64 y18)]), (b1, [nilSl.v])] /\
 ∀ (h16 : Heap), Fr (In [b1]) h15 h16 -> Vars h16 [(b4, [s14b.v, (VI s14c)]), (b3, [s14.v]), (b2, [y16.v, (VI y17), (Value.int .u64 y18)]), (b1, [s14.v])] ->
 K (.tuple #[(.agg #[s14.v]), (VI s22b), s14b.v, (VI s27b)]) h16)) /\
 (s18 = false ->
 callM P 61 #[(VP b2 0), (.agg #[s14.v])] h8 fun r9 h17 => ∃ y19 : Sl, ∃ y20 : Int, ∃ y21 : Int, ∃ s31 : Int, r9 = (VI s31) /\ Vars h17 [(b4, [s14b.v, (VI s14c)]), (b3, [s14.v]), (b2, [y19.v, (VI y20), (Value.int .u64 y21)]), (b1, [nilSl.v])] /\
 callM P 70 #[(VP b2 0), (VI 8)] h17 fun r10 h18 => ∃ y22 : Sl, ∃ y23 : Int, ∃ y24 : Int, ∃ s35 : Int, r10 = (VI s35) /\ Vars h18 [(b4, [s14b.v, (VI s14c)]), (b3, [s14.v]), (b2, [y22.v, (VI y23), (Value.int .u64 y24)]), (b1, [nilSl.v])] /\
 ∀ (h19 : Heap), Fr (In [b1]) h18 h19 -> Vars h19 [(b4, [s14b.v, (VI s14c)]), (b3, [s14.v]), (b2, [y22.v, (VI y23), (Value.int .u64 y24)]), (b1, [s14.v])] ->
 K (.tuple #[(.agg #[s14.v]), (VI s31), s14b.v, (VI s35)]) h19)
theorem v23 (code0_1 : Sl) (h : Heap) (K : Value -> Heap -> Prop) (H : u23 Tryz.prog code0_1 h K) : callM Tryz.prog 23 #[code0_1.v] h K := by
  refine c23 code0_1.v h K ?_
  unfold u23 at H
  unfold t23
  have hL : Vars h [] := .nil
  refine eop_alloc 26 zer26 rfl hL (fun b1 h1 hb1 hf1 hL1 => ?_)
  refine pop.mk' (v := (Value.agg #[code0_1.v, (VI 0), (Value.int .u64 0)])) (fun w => by kernel_rfl) ?_
  refine eop_box 84 (Value.agg #[code0_1.v, (VI 0), (Value.int .u64 0)]) rfl hL1 (fun b2 h2 hb2 hf2 hL2 => ?_)
  have H := H b1 b2 h2 hb1 (Nat.le_trans (Fr.size (Fr.no' (Fr.r (In []) _) hf1)) hb2) (Fr.no' (Fr.no' (Fr.r (In []) _) hf1) hf2) hL2
  refine H.mono fun r1 h3 H => ?_
  obtain ⟨y1, y2, y3, s14, s14b, s14c, rfl, hL3, H⟩ := H
  refine pop_ext (v := (Value.agg #[s14.v])) rfl ?_
  refine pop_ext (v := (Value.agg #[s14b.v, (VI s14c)])) rfl ?_
  refine eop_alloc 26 zer26 rfl hL3 (fun b3 h4 hb3 hf3 hL4 => ?_)
  refine eop_alloc 54 zer54 rfl hL4 (fun b4 h5 hb4 hf4 hL5 => ?_)
  refine ul siz26 hL5 1 0 [s14.v] [(b4, [nilSl.v, (VI 0)]), (b3, [s14.v]), (b2, [y1.v, (VI y2), (Value.int .u64 y3)]), (b1, [nilSl.v])] (fun h6 hf5 hL6 => ?_)
  refine ul siz54 hL6 0 0 [s14b.v, (VI s14c)] [(b4, [s14b.v, (VI s14c)]), (b3, [s14.v]), (b2, [y1.v, (VI y2), (Value.int .u64 y3)]), (b1, [nilSl.v])] (fun h7 hf6 hL7 => ?_)
  have H := H b3 b4 h7 hb3 (Nat.le_trans (Fr.size (Fr.no' (Fr.r (In []) _) hf3)) hb4) (Fr.new (Fr.new (Fr.no' (Fr.no' (Fr.r (In []) _) hf3) hf4) hb3 hf5) (Nat.le_trans (Fr.size (Fr.no' (Fr.r (In []) _) hf3)) hb4) hf6) hL7
  refine H.mono fun r2 h8 H => ?_
  obtain ⟨y4, y5, y6, s18, rfl, hL8, H⟩ := H
  refine condM_b (fun hb5 => ?_) (fun hb5 => ?_)
  rotate_left
  ·have H := H.2 hb5
   refine ra agg26 hL8 1 0 [s14.v] ?_
   refine ra agg26 hL8 1 0 [s14.v] ?_
   refine pop_field 0 fld54_0 b4 0 ?_
   refine rl one33 hL8 0 0 s14b.v ?_
   refine H.mono fun r9 h17 H => ?_
   obtain ⟨y19, y20, y21, s31, rfl, hL17, H⟩ := H
   refine ⟨?_, ?_⟩
   ·exact still_loc one33 hL17 0 rfl 0 (v := s14b.v) rfl
   refine ⟨?_, ?_⟩
   ·exact still_locA agg26 hL17 1 rfl 0 (vs := [s14.v]) rfl rfl
   refine H.mono fun r10 h18 H => ?_
   obtain ⟨y22, y23, y24, s35, rfl, hL18, H⟩ := H
   refine ⟨?_, ?_⟩
   ·exact still_loc one33 hL18 0 rfl 0 (v := s14b.v) rfl
   refine ⟨?_, ?_⟩
   ·exact still_locA agg26 hL18 1 rfl 0 (vs := [s14.v]) rfl rfl
   refine ul siz26 hL18 3 0 [s14.v] [(b4, [s14b.v, (VI s14c)]), (b3, [s14.v]), (b2, [y22.v, (VI y23), (Value.int .u64 y24)]), (b1, [s14.v])] (fun h19 hf9 hL19 => ?_)
   have H := H  h19  (Fr.old (Fr.r (In []) _) hf9) hL19
   refine ⟨?_, ?_⟩
   ·exact still_loc one33 hL19 0 rfl 0 (v := s14b.v) rfl
   refine ra agg26 hL19 3 0 [s14.v] ?_
   exact H
  have H := H.1 hb5
  refine ra agg26 hL8 1 0 [s14.v] ?_
  refine ra agg26 hL8 1 0 [s14.v] ?_
  refine pop_field 0 fld54_0 b4 0 ?_
  refine rl one33 hL8 0 0 s14b.v ?_
  refine ⟨?_, ?_⟩
  ·have H := H.1
   refine H.mono fun r3 h9 H => ?_
   obtain ⟨y7, y8, y9, s22, rfl, hL9, H⟩ := H
   refine ⟨?_, ?_⟩
   ·exact still_loc one33 hL9 0 rfl 0 (v := s14b.v) rfl
   refine ⟨?_, ?_⟩
   ·exact still_locA agg26 hL9 1 rfl 0 (vs := [s14.v]) rfl rfl
   refine H.mono fun r4 h10 H => ?_
   obtain ⟨s26, rfl, hL10, H⟩ := H
   refine ⟨?_, ?_⟩
   ·exact still_loc one33 hL10 0 rfl 0 (v := s14b.v) rfl
   refine ⟨?_, ?_⟩
   ·exact still_locA agg26 hL10 1 rfl 0 (vs := [s14.v]) rfl rfl
   refine H.mono fun r5 h11 H => ?_
   obtain ⟨y10, y11, y12, s27, rfl, hL11, H⟩ := H
   refine ⟨?_, ?_⟩
   ·exact still_loc one33 hL11 0 rfl 0 (v := s14b.v) rfl
   refine ⟨?_, ?_⟩
   ·exact still_locA agg26 hL11 1 rfl 0 (vs := [s14.v]) rfl rfl
   refine ul siz26 hL11 3 0 [s14.v] [(b4, [s14b.v, (VI s14c)]), (b3, [s14.v]), (b2, [y10.v, (VI y11), (Value.int .u64 y12)]), (b1, [s14.v])] (fun h12 hf7 hL12 => ?_)
   have H := H  h12  (Fr.old (Fr.r (In []) _) hf7) hL12
   refine ⟨?_, ?_⟩
   ·exact still_loc one33 hL12 0 rfl 0 (v := s14b.v) rfl
   refine ra agg26 hL12 3 0 [s14.v] ?_
   exact H
  have H := H.2
  refine H.mono fun r6 h13 H => ?_
  obtain ⟨s26b, rfl, hL13, H⟩ := H
  refine ⟨?_, ?_⟩
  ·exact still_loc one33 hL13 0 rfl 0 (v := s14b.v) rfl
  refine ⟨?_, ?_⟩
  ·exact still_locA agg26 hL13 1 rfl 0 (vs := [s14.v]) rfl rfl
  refine ⟨?_, ?_⟩
  ·exact still_locA agg26 hL13 1 rfl 0 (vs := [s14.v]) rfl rfl
  refine H.mono fun r7 h14 H => ?_
  obtain ⟨y13, y14, y15, s22b, rfl, hL14, H⟩ := H
  refine ⟨?_, ?_⟩
  ·exact still_loc one33 hL14 0 rfl 0 (v := s14b.v) rfl
  refine ⟨?_, ?_⟩
  ·exact still_locA agg26 hL14 1 rfl 0 (vs := [s14.v]) rfl rfl
  refine H.mono fun r8 h15 H => ?_
  obtain ⟨y16, y17, y18, s27b, rfl, hL15, H⟩ := H
  refine ⟨?_, ?_⟩
  ·exact still_loc one33 hL15 0 rfl 0 (v := s14b.v) rfl
  refine ⟨?_, ?_⟩
  ·exact still_locA agg26 hL15 1 rfl 0 (vs := [s14.v]) rfl rfl
  refine ul siz26 hL15 3 0 [s14.v] [(b4, [s14b.v, (VI s14c)]), (b3, [s14.v]), (b2, [y16.v, (VI y17), (Value.int .u64 y18)]), (b1, [s14.v])] (fun h16 hf8 hL16 => ?_)
  have H := H  h16  (Fr.old (Fr.r (In []) _) hf8) hL16
  refine ⟨?_, ?_⟩
  ·exact still_loc one33 hL16 0 rfl 0 (v := s14b.v) rfl
  refine ra agg26 hL16 3 0 [s14.v] ?_
  exact H
def u24 (P : Program) (g0_1 : Sl) (sink1_1 : Int) (rotors2_1 : Sl) (n3_1 : Int) (h : Heap) (K : Value -> Heap -> Prop) : Prop :=
 ∀ (b1 : Nat) (b2 : Nat) (h2 : Heap), h.size ≤ b1 -> h.size ≤ b2 -> Fr (In []) h h2 -> Vars h2 [(b2, [nilSl.v]), (b1, [g0_1.v])] ->
 eop P (Instr.buildSlice 33 1 #[(0, (VI sink1_1))]) h2 fun r1 h3 => ∃ s17 : Sl, r1 = s17.v /\ Vars h3 [(b2, [nilSl.v]), (b1, [g0_1.v])] /\
 callM P 54 #[(.agg #[g0_1.v]), s17.v] h3 fun r2 h4 => ∃ s18 : Bool, r2 = (VB s18) /\ Vars h4 [(b2, [nilSl.v]), (b1, [g0_1.v])] /\
 ((!s18) = true ->
 ∀ (h26 : Heap), Fr (In [b2]) h4 h26 -> Vars h26 [(b2, [nilSl.v]), (b1, [g0_1.v])] ->
 K (.tuple #[(.agg #[nilSl.v]), (VB false)]) h26) /\
 ((!s18) = false ->
 callM P 71 #[(.agg #[g0_1.v]), rotors2_1.v] h4 fun r3 h5 => ∃ s23 : Bool, r3 = (VB s23) /\ Vars h5 [(b2, [nilSl.v]), (b1, [g0_1.v])] /\
 ((!s23) = true ->
 ∀ (h25 : Heap), Fr (In [b2]) h5 h25 -> Vars h25 [(b2, [nilSl.v]), (b1, [g0_1.v])] ->
 K (.tuple #[(.agg #[nilSl.v]), (VB false)]) h25) /\
 ((!s23) = false ->
 callM P 72 #[(VI n3_1), (VI 0), (VI 12)] h5 fun r4 h6 => ∃ s28 : Bool, r4 = (VB s28) /\ Vars h6 [(b2, [nilSl.v]), (b1, [g0_1.v])] /\
 ((!s28) = true ->
 ∀ (h7 : Heap), Fr (In [b2]) h6 h7 -> Vars h7 [(b2, [nilSl.v]), (b1, [g0_1.v])] ->
 K (.tuple #[(.agg #[nilSl.v]), (VB false)]) h7) /\
 ((!s28) = false ->
 ∀ (b3 : Nat) (h9 : Heap), h6.size ≤ b3 -> Fr (In []) h6 h9 -> Vars h9 [(b3, [nilSl.v]), (b2, [nilSl.v]), (b1, [g0_1.v])] ->
 ∃ J1 : Nat -> Int -> Sl -> Heap -> Prop, (∃ n0 : Nat, J1 n0 0 nilSl h9) /\
 ∀ (n1 : Nat) (s36 : Int) (y1 : Sl) (h10 : Heap), J1 n1 s36 y1 h10 -> Vars h10 [(b3, [y1.v]), (b2, [nilSl.v]), (b1, [g0_1.v])] ->
 ((decide (s36 < (g0_1.n : Int))) = true ->
 InB g0_1 s36 /\
 ∃ s40 : Sl, hcell h10 (Sl.at g0_1 s36 1) = some s40.v /\
 eop P (Instr.buildSlice 33 0 #[]) h10 fun r5 h11 => ∃ s41 : Sl, r5 = s41.v /\ Vars h11 [(b3, [y1.v]), (b2, [nilSl.v]), (b1, [g0_1.v])] /\
 ∃ J2 : Nat -> Sl -> Int -> Heap -> Prop, (∃ n0 : Nat, J2 n0 s41 1 h11) /\
 ∀ (n2 : Nat) (list13_1 : Sl) (k14_1 : Int) (h12 : Heap), J2 n2 list13_1 k14_1 h12 -> Vars h12 [(b3, [y1.v]), (b2, [nilSl.v]), (b1, [g0_1.v])] ->
 ((decide (k14_1 ≤ n3_1)) = true ->
 ((!decide (s36 = sink1_1)) = true ->
 ((decide (0 < (s40.n : Int))) = true ->
 InB rotors2_1 s36 /\
 ∃ s61 : Int, hcell h12 (Sl.at rotors2_1 s36 1) = some (VI s61) /\
 (s40.n : Int) ≠ 0 /\
 eop P (Instr.buildSlice 33 1 #[(0, (VI (Int.tmod (w64 (s61 + k14_1)) (s40.n : Int))))]) h12 fun r6 h13 => ∃ s67 : Sl, r6 = s67.v /\ Vars h13 [(b3, [y1.v]), (b2, [nilSl.v]), (b1, [g0_1.v])] /\
 eop P (appS 33 33 33 list13_1.v s67.v) h13 fun r7 h14 => ∃ s68 : Sl, r7 = s68.v /\ Vars h14 [(b3, [y1.v]), (b2, [nilSl.v]), (b1, [g0_1.v])] /\
 ∃ m : Nat, m < n2 /\ J2 m s68 (w64 (k14_1 + 1)) h14) /\
 ((decide (0 < (s40.n : Int))) = false ->
 eop P (Instr.buildSlice 24 1 #[(0, list13_1.v)]) h12 fun r8 h15 => ∃ s72 : Sl, r8 = s72.v /\ Vars h15 [(b3, [y1.v]), (b2, [nilSl.v]), (b1, [g0_1.v])] /\
 eop P (appS 24 24 24 y1.v s72.v) h15 fun r9 h16 => ∃ s73 : Sl, r9 = s73.v /\ Vars h16 [(b3, [y1.v]), (b2, [nilSl.v]), (b1, [g0_1.v])] /\
 ∀ (h17 : Heap), Fr (In [b3]) h16 h17 -> Vars h17 [(b3, [s73.v]), (b2, [nilSl.v]), (b1, [g0_1.v])] ->
 ∃ m : Nat, m < n1 /\ J1 m (w64 (s36 + 1)) s73 h17)) /\
 ((!decide (s36 = sink1_1)) = false ->
 eop P (Instr.buildSlice 24 1 #[(0, list13_1.v)]) h12 fun r10 h18 => ∃ s72b : Sl, r10 = s72b.v /\ Vars h18 [(b3, [y1.v]), (b2, [nilSl.v]), (b1, [g0_1.v])] /\
 eop P (appS 24 24 24 y1.v s72b.v) h18 fun r11 h19 => ∃ s73b : Sl, r11 = s73b.v /\ Vars h19 [(b3, [y1.v]), (b2, [nilSl.v]), (b1, [g0_1.v])] /\
 ∀ (h20 : Heap), Fr (In [b3]) h19 h20 -> Vars h20 [(b3, [s73b.v]), (b2, [nilSl.v]), (b1, [g0_1.v])] ->
 ∃ m : Nat, m < n1 /\ J1 m (w64 (s36 + 1)) s73b h20)) /\
 ((decide (k14_1 ≤ n3_1)) = false ->
 eop P (Instr.buildSlice 24 1 #[(0, list13_1.v)]) h12 fun r12 h21 => ∃ s72c : Sl, r12 = s72c.v /\ Vars h21 [(b3, [y1.v]), (b2, [nilSl.v]), (b1, [g0_1.v])] /\
 eop P (appS 24 24 24 y1.v s72c.v) h21 fun r13 h22 => ∃ s73c : Sl, r13 = s73c.v /\ Vars h22 [(b3, [y1.v]), (b2, [nilSl.v]), (b1, [g0_1.v])] /\
 ∀ (h23 : Heap), Fr (In [b3]) h22 h23 -> Vars h23 [(b3, [s73c.v]), (b2, [nilSl.v]), (b1, [g0_1.v])] ->
 ∃ m : Nat, m < n1 /\ J1 m (w64 (s36 + 1)) s73c h23)) /\
 ((decide (s36 < (g0_1.n : Int))) = false ->
 ∀ (h24 : Heap), Fr (In [b2]) h10 h24 -> Vars h24 [(b3, [y1.v]), (b2, [y1.v]), (b1, [g0_1.v])] ->
 K (.tuple #[(.agg #[y1.v]), (VB true)]) h24))))
theorem v24 (g0_1 : Sl) (sink1_1 : Int) (rotors2_1 : Sl) (n3_1 : Int) (h : Heap) (K : Value -> Heap -> Prop) (H : u24 Tryz.prog g0_1 sink1_1 rotors2_1 n3_1 h K) : callM Tryz.prog 24 #[(Value.agg #[g0_1.v]), (VI sink1_1), rotors2_1.v, (VI n3_1)] h K := by
  refine c24 (Value.agg #[g0_1.v]) (VI sink1_1) rotors2_1.v (VI n3_1) h K ?_
  unfold u24 at H
  unfold t24
  have hL : Vars h [] := .nil
  refine eop_box 26 (Value.agg #[g0_1.v]) rfl hL (fun b1 h1 hb1 hf1 hL1 => ?_)
  refine eop_alloc 28 zer28 rfl hL1 (fun b2 h2 hb2 hf2 hL2 => ?_)
  refine ra agg26 hL2 1 0 [g0_1.v] ?_
  have H := H b1 b2 h2 hb1 (Nat.le_trans (Fr.size (Fr.no' (Fr.r (In []) _) hf1)) hb2) (Fr.no' (Fr.no' (Fr.r (In []) _) hf1) hf2) hL2
  refine H.mono fun r1 h3 H => ?_
  obtain ⟨s17, rfl, hL3, H⟩ := H
  refine H.mono fun r2 h4 H => ?_
  obtain ⟨s18, rfl, hL4, H⟩ := H
  refine pop_not s18 ?_
  refine guardM_sf (fun hb3 => ?_) (fun hb3 => ?_)
  rotate_left
  ·have H := H.1 hb3
   refine gm hb3 ?_
   refine gm hb3 ?_
   refine gm hb3 ?_
   refine pop_pickt' hb3 ?_
   refine gn ?_
   refine gn ?_
   refine gn ?_
   refine pop_pickt _ _ ?_
   refine condM_t ?_
   refine pop.mk' (v := (Value.agg #[nilSl.v])) (fun w => by kernel_rfl) ?_
   refine ul siz28 hL4 0 0 [nilSl.v] [(b2, [nilSl.v]), (b1, [g0_1.v])] (fun h26 hf11 hL26 => ?_)
   refine ra agg28 hL26 0 0 [nilSl.v] ?_
   have H := H  h26  (Fr.old (Fr.r (In []) _) hf11) hL26
   exact H
  have H := H.2 hb3
  refine ra agg26 hL4 1 0 [g0_1.v] ?_
  refine gy hb3 ?_
  refine gy hb3 ?_
  refine H.mono fun r3 h5 H => ?_
  obtain ⟨s23, rfl, hL5, H⟩ := H
  refine gy hb3 ?_
  refine pop_not s23 ?_
  refine pop_pickf' hb3 ?_
  refine guardM_sf (fun hb4 => ?_) (fun hb4 => ?_)
  rotate_left
  ·have H := H.1 hb4
   refine gm hb4 ?_
   refine gm hb4 ?_
   refine pop_pickt' hb4 ?_
   refine condM_t ?_
   refine pop.mk' (v := (Value.agg #[nilSl.v])) (fun w => by kernel_rfl) ?_
   refine ul siz28 hL5 0 0 [nilSl.v] [(b2, [nilSl.v]), (b1, [g0_1.v])] (fun h25 hf10 hL25 => ?_)
   refine ra agg28 hL25 0 0 [nilSl.v] ?_
   have H := H  h25  (Fr.old (Fr.r (In []) _) hf10) hL25
   exact H
  have H := H.2 hb4
  refine gy hb4 ?_
  refine H.mono fun r4 h6 H => ?_
  obtain ⟨s28, rfl, hL6, H⟩ := H
  refine gy hb4 ?_
  refine pop_not s28 ?_
  refine pop_pickf' hb4 ?_
  refine condM_b (fun hb5 => ?_) (fun hb5 => ?_)
  ·have H := H.1 hb5
   refine pop.mk' (v := (Value.agg #[nilSl.v])) (fun w => by kernel_rfl) ?_
   refine ul siz28 hL6 0 0 [nilSl.v] [(b2, [nilSl.v]), (b1, [g0_1.v])] (fun h7 hf3 hL7 => ?_)
   refine ra agg28 hL7 0 0 [nilSl.v] ?_
   have H := H  h7  (Fr.old (Fr.r (In []) _) hf3) hL7
   exact H
  have H := H.2 hb5
  refine pop.mk' (v := (Value.agg #[nilSl.v])) (fun w => by kernel_rfl) ?_
  refine eop_alloc 28 zer28 rfl hL6 (fun b3 h8 hb6 hf4 hL8 => ?_)
  refine ul siz28 hL8 0 0 [nilSl.v] [(b3, [nilSl.v]), (b2, [nilSl.v]), (b1, [g0_1.v])] (fun h9 hf5 hL9 => ?_)
  refine pop_field 0 fld26_0 b1 0 ?_
  refine rl one24 hL9 2 0 g0_1.v ?_
  refine pop_len g0_1 _ _ sli24 ?_
  have H := H b3 h9 hb6 (Fr.new (Fr.no' (Fr.r (In []) _) hf4) hb6 hf5) hL9
  obtain ⟨J1, ⟨n4, h0_2⟩, HB2⟩ := H
  refine loop_intro (J := fun (n : Nat) (vs : List Value) (h' : Heap) => ∃ s36 : Int, ∃ y1 : Sl, vs = [(VI s36)] /\ J1 n s36 y1 h' /\ Vars h' [(b3, [y1.v]), (b2, [nilSl.v]), (b1, [g0_1.v])]) n4 ⟨0, nilSl, rfl, h0_2, hL9⟩ ?_
  intro I2 mu2 hI2 junk1 tv3 h10 hi1
  obtain ⟨n1, ⟨s36, y1, hv, hJ1, hL10⟩, hn1⟩ := hI2 _ _ hi1
  cases hv
  have H := HB2 n1 s36 y1 h10 hJ1 hL10
  refine pop_lss .i64 s36 (g0_1.n : Int) ?_
  refine condM_b (fun hb7 => ?_) (fun hb7 => ?_)
  rotate_left
  ·have H := H.2 hb7
   refine ra agg28 hL10 0 0 [y1.v] ?_
   refine ul siz28 hL10 1 0 [y1.v] [(b3, [y1.v]), (b2, [y1.v]), (b1, [g0_1.v])] (fun h24 hf9 hL24 => ?_)
   refine ra agg28 hL24 1 0 [y1.v] ?_
   have H := H  h24  (Fr.old (Fr.r (In []) _) hf9) hL24
   exact H
  have H := H.1 hb7
  obtain ⟨hi2, H⟩ := H
  refine pop_index sli24 siz33 .i64 g0_1 s36 hi2 ?_
  obtain ⟨s40, hc2, H⟩ := H
  refine rop_one one33 s40.v hc2 ?_
  refine H.mono fun r5 h11 H => ?_
  obtain ⟨s41, rfl, hL11, H⟩ := H
  obtain ⟨J2, ⟨n3, h0_1⟩, HB1⟩ := H
  refine loop_intro (J := fun (n : Nat) (vs : List Value) (h' : Heap) => ∃ list13_1 : Sl, ∃ k14_1 : Int, vs = [list13_1.v, (VI k14_1)] /\ J2 n list13_1 k14_1 h' /\ Vars h' [(b3, [y1.v]), (b2, [nilSl.v]), (b1, [g0_1.v])]) n3 ⟨s41, 1, rfl, h0_1, hL11⟩ ?_
  intro I1 mu1 hI1 junk2 tv1 tv2 h12 hi3
  obtain ⟨n2, ⟨list13_1, k14_1, hv, hJ2, hL12⟩, hn2⟩ := hI1 _ _ hi3
  cases hv
  have H := HB1 n2 list13_1 k14_1 h12 hJ2 hL12
  refine pop_leq .i64 k14_1 n3_1 ?_
  refine guardM_st (fun hb8 => ?_) (fun hb8 => ?_)
  rotate_left
  ·have H := H.2 hb8
   refine gm hb8 ?_
   refine gm hb8 ?_
   refine pop_pickf' hb8 ?_
   refine gn ?_
   refine gn ?_
   refine gn ?_
   refine pop_pickf _ _ ?_
   refine condM_f ?_
   refine pop_field 0 fld28_0 b3 0 ?_
   refine rl one24 hL12 0 0 y1.v ?_
   refine H.mono fun r12 h21 H => ?_
   obtain ⟨s72c, rfl, hL21, H⟩ := H
   refine H.mono fun r13 h22 H => ?_
   obtain ⟨s73c, rfl, hL22, H⟩ := H
   refine pop_field 0 fld28_0 b3 0 ?_
   refine ul siz24 hL22 0 0 [s73c.v] [(b3, [s73c.v]), (b2, [nilSl.v]), (b1, [g0_1.v])] (fun h23 hf8 hL23 => ?_)
   refine pop_add .i64 s36 1 ?_
   have H := H  h23  (Fr.old (Fr.r (In []) _) hf8) hL23
   obtain ⟨m_4, hm_4, H⟩ := H
   exact hn1 _ _ ⟨m_4, hm_4, (w64 (s36 + 1)), s73c, rfl, H, hL23⟩
  have H := H.1 hb8
  refine gy hb8 ?_
  refine gy hb8 ?_
  refine pop_ine .i64 _ _ s36 sink1_1 ?_
  refine pop_pickt' hb8 ?_
  refine guardM_st (fun hb9 => ?_) (fun hb9 => ?_)
  rotate_left
  ·have H := H.2 hb9
   refine gm hb9 ?_
   refine gm hb9 ?_
   refine pop_pickf' hb9 ?_
   refine condM_f ?_
   refine pop_field 0 fld28_0 b3 0 ?_
   refine rl one24 hL12 0 0 y1.v ?_
   refine H.mono fun r10 h18 H => ?_
   obtain ⟨s72b, rfl, hL18, H⟩ := H
   refine H.mono fun r11 h19 H => ?_
   obtain ⟨s73b, rfl, hL19, H⟩ := H
   refine pop_field 0 fld28_0 b3 0 ?_
   refine ul siz24 hL19 0 0 [s73b.v] [(b3, [s73b.v]), (b2, [nilSl.v]), (b1, [g0_1.v])] (fun h20 hf7 hL20 => ?_)
   refine pop_add .i64 s36 1 ?_
   have H := H  h20  (Fr.old (Fr.r (In []) _) hf7) hL20
   obtain ⟨m_3, hm_3, H⟩ := H
   exact hn1 _ _ ⟨m_3, hm_3, (w64 (s36 + 1)), s73b, rfl, H, hL20⟩
  have H := H.1 hb9
  refine gy hb9 ?_
  refine pop_len s40 _ _ sli33 ?_
  refine gy hb9 ?_
  refine pop_gtr .i64 (s40.n : Int) 0 ?_
  refine pop_pickt' hb9 ?_
  refine condM_b (fun hb10 => ?_) (fun hb10 => ?_)
  rotate_left
  ·have H := H.2 hb10
   refine pop_field 0 fld28_0 b3 0 ?_
   refine rl one24 hL12 0 0 y1.v ?_
   refine H.mono fun r8 h15 H => ?_
   obtain ⟨s72, rfl, hL15, H⟩ := H
   refine H.mono fun r9 h16 H => ?_
   obtain ⟨s73, rfl, hL16, H⟩ := H
   refine pop_field 0 fld28_0 b3 0 ?_
   refine ul siz24 hL16 0 0 [s73.v] [(b3, [s73.v]), (b2, [nilSl.v]), (b1, [g0_1.v])] (fun h17 hf6 hL17 => ?_)
   refine pop_add .i64 s36 1 ?_
   have H := H  h17  (Fr.old (Fr.r (In []) _) hf6) hL17
   obtain ⟨m_2, hm_2, H⟩ := H
   exact hn1 _ _ ⟨m_2, hm_2, (w64 (s36 + 1)), s73, rfl, H, hL17⟩
  have H := H.1 hb10
  obtain ⟨hi4, H⟩ := H
  refine pop_index sli33 siz3 .i64 rotors2_1 s36 hi4 ?_
  obtain ⟨s61, hc1, H⟩ := H
  refine rop_one one3 (VI s61) hc1 ?_
  refine pop_add .i64 s61 k14_1 ?_
  refine pop_len s40 _ _ sli33 ?_
  obtain ⟨hz_1, H⟩ := H
  refine pop_rem .i64 (w64 (s61 + k14_1)) (s40.n : Int) hz_1 ?_
  refine H.mono fun r6 h13 H => ?_
  obtain ⟨s67, rfl, hL13, H⟩ := H
  refine H.mono fun r7 h14 H => ?_
  obtain ⟨s68, rfl, hL14, H⟩ := H
  refine pop_add .i64 k14_1 1 ?_
  obtain ⟨m_1, hm_1, H⟩ := H
  exact hn2 _ _ ⟨m_1, hm_1, s68, (w64 (k14_1 + 1)), rfl, H, hL14⟩
def u25 (P : Program) (g0_1 : Sl) (sink1_1 : Int) (rotors2_1 : Sl) (n3_1 : Int) (h : Heap) (K : Value -> Heap -> Prop) : Prop :=
 ∀ (b1 : Nat) (b2 : Nat) (h2 : Heap), h.size ≤ b1 -> h.size ≤ b2 -> Fr (In []) h h2 -> Vars h2 [(b2, [nilSl.v]), (b1, [g0_1.v])] ->
 callM P 55 #[(.agg #[g0_1.v]), (VI sink1_1)] h2 fun r1 h3 => ∃ s17 : Bool, r1 = (VB s17) /\ Vars h3 [(b2, [nilSl.v]), (b1, [g0_1.v])] /\
 ((!s17) = true ->
 ∀ (h24 : Heap), Fr (In [b2]) h3 h24 -> Vars h24 [(b2, [nilSl.v]), (b1, [g0_1.v])] ->
 K (.tuple #[(.agg #[nilSl.v]), (VB false)]) h24) /\
 ((!s17) = false ->
 callM P 73 #[(.agg #[g0_1.v]), (.agg #[rotors2_1.v, (VI sink1_1)])] h3 fun r2 h4 => ∃ s24 : Bool, r2 = (VB s24) /\ Vars h4 [(b2, [nilSl.v]), (b1, [g0_1.v])] /\
 ((!s24) = true ->
 ∀ (h23 : Heap), Fr (In [b2]) h4 h23 -> Vars h23 [(b2, [nilSl.v]), (b1, [g0_1.v])] ->
 K (.tuple #[(.agg #[nilSl.v]), (VB false)]) h23) /\
 ((!s24) = false ->
 callM P 74 #[(VI n3_1), (VI 0), (VI 12)] h4 fun r3 h5 => ∃ s29 : Bool, r3 = (VB s29) /\ Vars h5 [(b2, [nilSl.v]), (b1, [g0_1.v])] /\
 ((!s29) = true ->
 ∀ (h6 : Heap), Fr (In [b2]) h5 h6 -> Vars h6 [(b2, [nilSl.v]), (b1, [g0_1.v])] ->
 K (.tuple #[(.agg #[nilSl.v]), (VB false)]) h6) /\
 ((!s29) = false ->
 ∀ (b3 : Nat) (h8 : Heap), h5.size ≤ b3 -> Fr (In []) h5 h8 -> Vars h8 [(b3, [nilSl.v]), (b2, [nilSl.v]), (b1, [g0_1.v])] ->
 ∃ J1 : Nat -> Int -> Sl -> Heap -> Prop, (∃ n0 : Nat, J1 n0 0 nilSl h8) /\
 ∀ (n1 : Nat) (s37 : Int) (y1 : Sl) (h9 : Heap), J1 n1 s37 y1 h9 -> Vars h9 [(b3, [y1.v]), (b2, [nilSl.v]), (b1, [g0_1.v])] ->
 ((decide (s37 < (g0_1.n : Int))) = true ->
 InB g0_1 s37 /\
 ∃ s41 : Sl, hcell h9 (Sl.at g0_1 s37 1) = some s41.v /\
 ∃ J2 : Nat -> Sl -> Int -> Heap -> Prop, (∃ n0 : Nat, J2 n0 nilSl 1 h9) /\
 ∀ (n2 : Nat) (list13_1 : Sl) (k14_1 : Int) (h10 : Heap), J2 n2 list13_1 k14_1 h10 -> Vars h10 [(b3, [y1.v]), (b2, [nilSl.v]), (b1, [g0_1.v])] ->
 ((decide (k14_1 ≤ n3_1)) = true ->
 ((!decide (s37 = sink1_1)) = true ->
 ((decide (0 < (s41.n : Int))) = true ->
 InB rotors2_1 s37 /\
 ∃ s61 : Int, hcell h10 (Sl.at rotors2_1 s37 1) = some (VI s61) /\
 (s41.n : Int) ≠ 0 /\
 eop P (Instr.buildSlice 33 1 #[(0, (VI (Int.tmod (w64 (s61 + k14_1)) (s41.n : Int))))]) h10 fun r4 h11 => ∃ s67 : Sl, r4 = s67.v /\ Vars h11 [(b3, [y1.v]), (b2, [nilSl.v]), (b1, [g0_1.v])] /\
 eop P (appS 33 33 33 list13_1.v s67.v) h11 fun r5 h12 => ∃ s68 : Sl, r5 = s68.v /\ Vars h12 [(b3, [y1.v]), (b2, [nilSl.v]), (b1, [g0_1.v])] /\
 ∃ m : Nat, m < n2 /\ J2 m s68 (w64 (k14_1 + 1)) h12) /\
 ((decide (0 < (s41.n : Int))) = false ->
 eop P (Instr.buildSlice 24 1 #[(0, list13_1.v)]) h10 fun r6 h13 => ∃ s72 : Sl, r6 = s72.v /\ Vars h13 [(b3, [y1.v]), (b2, [nilSl.v]), (b1, [g0_1.v])] /\
 eop P (appS 24 24 24 y1.v s72.v) h13 fun r7 h14 => ∃ s73 : Sl, r7 = s73.v /\ Vars h14 [(b3, [y1.v]), (b2, [nilSl.v]), (b1, [g0_1.v])] /\
 ∀ (h15 : Heap), Fr (In [b3]) h14 h15 -> Vars h15 [(b3, [s73.v]), (b2, [nilSl.v]), (b1, [g0_1.v])] ->
 ∃ m : Nat, m < n1 /\ J1 m (w64 (s37 + 1)) s73 h15)) /\
 ((!decide (s37 = sink1_1)) = false ->
 eop P (Instr.buildSlice 24 1 #[(0, list13_1.v)]) h10 fun r8 h16 => ∃ s72b : Sl, r8 = s72b.v /\ Vars h16 [(b3, [y1.v]), (b2, [nilSl.v]), (b1, [g0_1.v])] /\
 eop P (appS 24 24 24 y1.v s72b.v) h16 fun r9 h17 => ∃ s73b : Sl, r9 = s73b.v /\ Vars h17 [(b3, [y1.v]), (b2, [nilSl.v]), (b1, [g0_1.v])] /\
 ∀ (h18 : Heap), Fr (In [b3]) h17 h18 -> Vars h18 [(b3, [s73b.v]), (b2, [nilSl.v]), (b1, [g0_1.v])] ->
 ∃ m : Nat, m < n1 /\ J1 m (w64 (s37 + 1)) s73b h18)) /\
 ((decide (k14_1 ≤ n3_1)) = false ->
 eop P (Instr.buildSlice 24 1 #[(0, list13_1.v)]) h10 fun r10 h19 => ∃ s72c : Sl, r10 = s72c.v /\ Vars h19 [(b3, [y1.v]), (b2, [nilSl.v]), (b1, [g0_1.v])] /\
 eop P (appS 24 24 24 y1.v s72c.v) h19 fun r11 h20 => ∃ s73c : Sl, r11 = s73c.v /\ Vars h20 [(b3, [y1.v]), (b2, [nilSl.v]), (b1, [g0_1.v])] /\
 ∀ (h21 : Heap), Fr (In [b3]) h20 h21 -> Vars h21 [(b3, [s73c.v]), (b2, [nilSl.v]), (b1, [g0_1.v])] ->
 ∃ m : Nat, m < n1 /\ J1 m (w64 (s37 + 1)) s73c h21)) /\
 ((decide (s37 < (g0_1.n : Int))) = false ->
 ∀ (h22 : Heap), Fr (In [b2]) h9 h22 -> Vars h22 [(b3, [y1.v]), (b2, [y1.v]), (b1, [g0_1.v])] ->
 K (.tuple #[(.agg #[y1.v]), (VB true)]) h22))))
theorem v25 (g0_1 : Sl) (sink1_1 : Int) (rotors2_1 : Sl) (n3_1 : Int) (h : Heap) (K : Value -> Heap -> Prop) (H : u25 Tryz.prog g0_1 sink1_1 rotors2_1 n3_1 h K) : callM Tryz.prog 25 #[(Value.agg #[g0_1.v]), (VI sink1_1), rotors2_1.v, (VI n3_1)] h K := by
  refine c25 (Value.agg #[g0_1.v]) (VI sink1_1) rotors2_1.v (VI n3_1) h K ?_
  unfold u25 at H
  unfold t25
  have hL : Vars h [] := .nil
  refine eop_box 26 (Value.agg #[g0_1.v]) rfl hL (fun b1 h1 hb1 hf1 hL1 => ?_)
  refine eop_alloc 28 zer28 rfl hL1 (fun b2 h2 hb2 hf2 hL2 => ?_)
  refine ra agg26 hL2 1 0 [g0_1.v] ?_
  have H := H b1 b2 h2 hb1 (Nat.le_trans (Fr.size (Fr.no' (Fr.r (In []) _) hf1)) hb2) (Fr.no' (Fr.no' (Fr.r (In []) _) hf1) hf2) hL2
  refine H.mono fun r1 h3 H => ?_
  obtain ⟨s17, rfl, hL3, H⟩ := H
  refine pop_not s17 ?_
  refine guardM_sf (fun hb3 => ?_) (fun hb3 => ?_)
  rotate_left
  ·have H := H.1 hb3
   refine gm hb3 ?_
   refine gm hb3 ?_
   refine gm hb3 ?_
   refine gm hb3 ?_
   refine gm hb3 ?_
   refine pop_pickt' hb3 ?_
   refine gn ?_
   refine gn ?_
   refine gn ?_
   refine pop_pickt _ _ ?_
   refine condM_t ?_
   refine pop.mk' (v := (Value.agg #[nilSl.v])) (fun w => by kernel_rfl) ?_
   refine ul siz28 hL3 0 0 [nilSl.v] [(b2, [nilSl.v]), (b1, [g0_1.v])] (fun h24 hf11 hL24 => ?_)
   refine ra agg28 hL24 0 0 [nilSl.v] ?_
   have H := H  h24  (Fr.old (Fr.r (In []) _) hf11) hL24
   exact H
  have H := H.2 hb3
  refine ra agg26 hL3 1 0 [g0_1.v] ?_
  refine gy hb3 ?_
  refine gy hb3 ?_
  refine gy hb3 ?_
  refine pop.mk' (v := (Value.agg #[rotors2_1.v, (VI sink1_1)])) (fun w => by kernel_rfl) ?_
  refine gy hb3 ?_
  refine H.mono fun r2 h4 H => ?_
  obtain ⟨s24, rfl, hL4, H⟩ := H
  refine gy hb3 ?_
  refine pop_not s24 ?_
  refine pop_pickf' hb3 ?_
  refine guardM_sf (fun hb4 => ?_) (fun hb4 => ?_)
  rotate_left
  ·have H := H.1 hb4
   refine gm hb4 ?_
   refine gm hb4 ?_
   refine pop_pickt' hb4 ?_
   refine condM_t ?_
   refine pop.mk' (v := (Value.agg #[nilSl.v])) (fun w => by kernel_rfl) ?_
   refine ul siz28 hL4 0 0 [nilSl.v] [(b2, [nilSl.v]), (b1, [g0_1.v])] (fun h23 hf10 hL23 => ?_)
   refine ra agg28 hL23 0 0 [nilSl.v] ?_
   have H := H  h23  (Fr.old (Fr.r (In []) _) hf10) hL23
   exact H
  have H := H.2 hb4
  refine gy hb4 ?_
  refine H.mono fun r3 h5 H => ?_
  obtain ⟨s29, rfl, hL5, H⟩ := H
  refine gy hb4 ?_
  refine pop_not s29 ?_
  refine pop_pickf' hb4 ?_
  refine condM_b (fun hb5 => ?_) (fun hb5 => ?_)
  ·have H := H.1 hb5
   refine pop.mk' (v := (Value.agg #[nilSl.v])) (fun w => by kernel_rfl) ?_
   refine ul siz28 hL5 0 0 [nilSl.v] [(b2, [nilSl.v]), (b1, [g0_1.v])] (fun h6 hf3 hL6 => ?_)
   refine ra agg28 hL6 0 0 [nilSl.v] ?_
   have H := H  h6  (Fr.old (Fr.r (In []) _) hf3) hL6
   exact H
  have H := H.2 hb5
  refine pop.mk' (v := (Value.agg #[nilSl.v])) (fun w => by kernel_rfl) ?_
  refine eop_alloc 28 zer28 rfl hL5 (fun b3 h7 hb6 hf4 hL7 => ?_)
  refine ul siz28 hL7 0 0 [nilSl.v] [(b3, [nilSl.v]), (b2, [nilSl.v]), (b1, [g0_1.v])] (fun h8 hf5 hL8 => ?_)
  refine pop_field 0 fld26_0 b1 0 ?_
  refine rl one24 hL8 2 0 g0_1.v ?_
  refine pop_len g0_1 _ _ sli24 ?_
  have H := H b3 h8 hb6 (Fr.new (Fr.no' (Fr.r (In []) _) hf4) hb6 hf5) hL8
  obtain ⟨J1, ⟨n4, h0_2⟩, HB2⟩ := H
  refine loop_intro (J := fun (n : Nat) (vs : List Value) (h' : Heap) => ∃ s37 : Int, ∃ y1 : Sl, vs = [(VI s37)] /\ J1 n s37 y1 h' /\ Vars h' [(b3, [y1.v]), (b2, [nilSl.v]), (b1, [g0_1.v])]) n4 ⟨0, nilSl, rfl, h0_2, hL8⟩ ?_
  intro I2 mu2 hI2 junk1 tv3 h9 hi1
  obtain ⟨n1, ⟨s37, y1, hv, hJ1, hL9⟩, hn1⟩ := hI2 _ _ hi1
  cases hv
  have H := HB2 n1 s37 y1 h9 hJ1 hL9
  refine pop_lss .i64 s37 (g0_1.n : Int) ?_
  refine condM_b (fun hb7 => ?_) (fun hb7 => ?_)
  rotate_left
  ·have H := H.2 hb7
   refine ra agg28 hL9 0 0 [y1.v] ?_
   refine ul siz28 hL9 1 0 [y1.v] [(b3, [y1.v]), (b2, [y1.v]), (b1, [g0_1.v])] (fun h22 hf9 hL22 => ?_)
   refine ra agg28 hL22 1 0 [y1.v] ?_
   have H := H  h22  (Fr.old (Fr.r (In []) _) hf9) hL22
   exact H
  have H := H.1 hb7
  obtain ⟨hi2, H⟩ := H
  refine pop_index sli24 siz33 .i64 g0_1 s37 hi2 ?_
  obtain ⟨s41, hc2, H⟩ := H
  refine rop_one one33 s41.v hc2 ?_
  obtain ⟨J2, ⟨n3, h0_1⟩, HB1⟩ := H
  refine loop_intro (J := fun (n : Nat) (vs : List Value) (h' : Heap) => ∃ list13_1 : Sl, ∃ k14_1 : Int, vs = [list13_1.v, (VI k14_1)] /\ J2 n list13_1 k14_1 h' /\ Vars h' [(b3, [y1.v]), (b2, [nilSl.v]), (b1, [g0_1.v])]) n3 ⟨nilSl, 1, rfl, h0_1, hL9⟩ ?_
  intro I1 mu1 hI1 junk2 tv1 tv2 h10 hi3
  obtain ⟨n2, ⟨list13_1, k14_1, hv, hJ2, hL10⟩, hn2⟩ := hI1 _ _ hi3
  cases hv
  have H := HB1 n2 list13_1 k14_1 h10 hJ2 hL10
  refine pop_leq .i64 k14_1 n3_1 ?_
  refine guardM_st (fun hb8 => ?_) (fun hb8 => ?_)
  rotate_left
  ·have H := H.2 hb8
   refine gm hb8 ?_
   refine gm hb8 ?_
   refine pop_pickf' hb8 ?_
   refine gn ?_
   refine gn ?_
   refine gn ?_
   refine pop_pickf _ _ ?_
   refine condM_f ?_
   refine pop_field 0 fld28_0 b3 0 ?_
   refine rl one24 hL10 0 0 y1.v ?_
   refine H.mono fun r10 h19 H => ?_
   obtain ⟨s72c, rfl, hL19, H⟩ := H
   refine H.mono fun r11 h20 H => ?_
   obtain ⟨s73c, rfl, hL20, H⟩ := H
   refine pop_field 0 fld28_0 b3 0 ?_
   refine ul siz24 hL20 0 0 [s73c.v] [(b3, [s73c.v]), (b2, [nilSl.v]), (b1, [g0_1.v])] (fun h21 hf8 hL21 => ?_)
   refine pop_add .i64 s37 1 ?_
   have H := H  h21  (Fr.old (Fr.r (In []) _) hf8) hL21
   obtain ⟨m_4, hm_4, H⟩ := H
   exact hn1 _ _ ⟨m_4, hm_4, (w64 (s37 + 1)), s73c, rfl, H, hL21⟩
  have H := H.1 hb8
  refine gy hb8 ?_
  refine gy hb8 ?_
  refine pop_ine .i64 _ _ s37 sink1_1 ?_
  refine pop_pickt' hb8 ?_
  refine guardM_st (fun hb9 => ?_) (fun hb9 => ?_)
  rotate_left
  ·have H := H.2 hb9
   refine gm hb9 ?_
   refine gm hb9 ?_
   refine pop_pickf' hb9 ?_
   refine condM_f ?_
   refine pop_field 0 fld28_0 b3 0 ?_
   refine rl one24 hL10 0 0 y1.v ?_
   refine H.mono fun r8 h16 H => ?_
   obtain ⟨s72b, rfl, hL16, H⟩ := H
   refine H.mono fun r9 h17 H => ?_
   obtain ⟨s73b, rfl, hL17, H⟩ := H
   refine pop_field 0 fld28_0 b3 0 ?_
   refine ul siz24 hL17 0 0 [s73b.v] [(b3, [s73b.v]), (b2, [nilSl.v]), (b1, [g0_1.v])] (fun h18 hf7 hL18 => ?_)
   refine pop_add .i64 s37 1 ?_
   have H := H  h18  (Fr.old (Fr.r (In []) _) hf7) hL18
   obtain ⟨m_3, hm_3, H⟩ := H
   exact hn1 _ _ ⟨m_3, hm_3, (w64 (s37 + 1)), s73b, rfl, H, hL18⟩
  have H := H.1 hb9
  refine gy hb9 ?_
  refine pop_len s41 _ _ sli33 ?_
  refine gy hb9 ?_
  refine pop_gtr .i64 (s41.n : Int) 0 ?_
  refine pop_pickt' hb9 ?_
  refine condM_b (fun hb10 => ?_) (fun hb10 => ?_)
  rotate_left
  ·have H := H.2 hb10
   refine pop_field 0 fld28_0 b3 0 ?_
   refine rl one24 hL10 0 0 y1.v ?_
   refine H.mono fun r6 h13 H => ?_
   obtain ⟨s72, rfl, hL13, H⟩ := H
   refine H.mono fun r7 h14 H => ?_
   obtain ⟨s73, rfl, hL14, H⟩ := H
   refine pop_field 0 fld28_0 b3 0 ?_
   refine ul siz24 hL14 0 0 [s73.v] [(b3, [s73.v]), (b2, [nilSl.v]), (b1, [g0_1.v])] (fun h15 hf6 hL15 => ?_)
   refine pop_add .i64 s37 1 ?_
   have H := H  h15  (Fr.old (Fr.r (In []) _) hf6) hL15
   obtain ⟨m_2, hm_2, H⟩ := H
   exact hn1 _ _ ⟨m_2, hm_2, (w64 (s37 + 1)), s73, rfl, H, hL15⟩
  have H := H.1 hb10
  obtain ⟨hi4, H⟩ := H
  refine pop_index sli33 siz3 .i64 rotors2_1 s37 hi4 ?_
  obtain ⟨s61, hc1, H⟩ := H
  refine rop_one one3 (VI s61) hc1 ?_
  refine pop_add .i64 s61 k14_1 ?_
  refine pop_len s41 _ _ sli33 ?_
  obtain ⟨hz_1, H⟩ := H
  refine pop_rem .i64 (w64 (s61 + k14_1)) (s41.n : Int) hz_1 ?_
  refine H.mono fun r4 h11 H => ?_
  obtain ⟨s67, rfl, hL11, H⟩ := H
  refine H.mono fun r5 h12 H => ?_
  obtain ⟨s68, rfl, hL12, H⟩ := H
  refine pop_add .i64 k14_1 1 ?_
  obtain ⟨m_1, hm_1, H⟩ := H
  exact hn2 _ _ ⟨m_1, hm_1, s68, (w64 (k14_1 + 1)), rfl, H, hL12⟩
def u26 (P : Program) (code0_1 : Sl) (h : Heap) (K : Value -> Heap -> Prop) : Prop :=
 ∀ (b1 : Nat) (b2 : Nat) (h2 : Heap), h.size ≤ b1 -> h.size ≤ b2 -> Fr (In []) h h2 -> Vars h2 [(b2, [code0_1.v, (VI 0), (Value.int .u64 0)]), (b1, [nilSl.v])] ->
 callM P 60 #[(VP b2 0)] h2 fun r1 h3 => ∃ y1 : Sl, ∃ y2 : Int, ∃ y3 : Int, ∃ s12 : Sl, ∃ s12b : Int, ∃ s12c : Sl, r1 = (.tuple #[(.agg #[s12.v]), (VI s12b), (.agg #[s12c.v])]) /\ Vars h3 [(b2, [y1.v, (VI y2), (Value.int .u64 y3)]), (b1, [nilSl.v])] /\
 ∀ (b3 : Nat) (b4 : Nat) (h8 : Heap), h3.size ≤ b3 -> h3.size ≤ b4 -> Fr (In [b1]) h3 h8 -> Vars h8 [(b4, [s12c.v]), (b3, [s12.v]), (b2, [y1.v, (VI y2), (Value.int .u64 y3)]), (b1, [s12c.v])] ->
 K (.agg #[s12c.v]) h8
theorem v26 (code0_1 : Sl) (h : Heap) (K : Value -> Heap -> Prop) (H : u26 Tryz.prog code0_1 h K) : callM Tryz.prog 26 #[code0_1.v] h K := by
  refine c26 code0_1.v h K ?_
  unfold u26 at H
  unfold t26
  have hL : Vars h [] := .nil
  refine eop_alloc 28 zer28 rfl hL (fun b1 h1 hb1 hf1 hL1 => ?_)
  refine pop.mk' (v := (Value.agg #[code0_1.v, (VI 0), (Value.int .u64 0)])) (fun w => by kernel_rfl) ?_
  refine eop_box 84 (Value.agg #[code0_1.v, (VI 0), (Value.int .u64 0)]) rfl hL1 (fun b2 h2 hb2 hf2 hL2 => ?_)
  have H := H b1 b2 h2 hb1 (Nat.le_trans (Fr.size (Fr.no' (Fr.r (In []) _) hf1)) hb2) (Fr.no' (Fr.no' (Fr.r (In []) _) hf1) hf2) hL2
  refine H.mono fun r1 h3 H => ?_
  obtain ⟨y1, y2, y3, s12, s12b, s12c, rfl, hL3, H⟩ := H
  refine pop_ext (v := (Value.agg #[s12.v])) rfl ?_
  refine pop_ext (v := (VI s12b)) rfl ?_
  refine pop_ext (v := (Value.agg #[s12c.v])) rfl ?_
  refine eop_alloc 26 zer26 rfl hL3 (fun b3 h4 hb3 hf3 hL4 => ?_)
  refine eop_alloc 28 zer28 rfl hL4 (fun b4 h5 hb4 hf4 hL5 => ?_)
  refine ul siz26 hL5 1 0 [s12.v] [(b4, [nilSl.v]), (b3, [s12.v]), (b2, [y1.v, (VI y2), (Value.int .u64 y3)]), (b1, [nilSl.v])] (fun h6 hf5 hL6 => ?_)
  refine ul siz28 hL6 0 0 [s12c.v] [(b4, [s12c.v]), (b3, [s12.v]), (b2, [y1.v, (VI y2), (Value.int .u64 y3)]), (b1, [nilSl.v])] (fun h7 hf6 hL7 => ?_)
  refine ra agg28 hL7 0 0 [s12c.v] ?_
  refine ul siz28 hL7 3 0 [s12c.v] [(b4, [s12c.v]), (b3, [s12.v]), (b2, [y1.v, (VI y2), (Value.int .u64 y3)]), (b1, [s12c.v])] (fun h8 hf7 hL8 => ?_)
  refine ra agg28 hL8 3 0 [s12c.v] ?_
  have H := H b3 b4 h8 hb3 (Nat.le_trans (Fr.size (Fr.no' (Fr.r (In []) _) hf3)) hb4) (Fr.old (Fr.new (Fr.new (Fr.no' (Fr.no' (Fr.r (In []) _) hf3) hf4) hb3 hf5) (Nat.le_trans (Fr.size (Fr.no' (Fr.r (In []) _) hf3)) hb4) hf6) hf7) hL8
  exact H
def u27 (P : Program) (s0_1 : Sl) (h : Heap) (K : Value -> Heap -> Prop) : Prop :=
 ∀ (b1 : Nat) (h1 : Heap), h.size ≤ b1 -> Fr (In []) h h1 -> Vars h1 [(b1, [s0_1.v])] ->
 callM P 72 #[(VI (s0_1.n : Int)), (VI 1), (VI 8)] h1 fun r1 h2 => ∃ s11 : Bool, r1 = (VB s11) /\ Vars h2 [(b1, [s0_1.v])] /\
 ((!s11) = true ->
 K (.tuple #[(VS ({ data := #[] })), (VB false)]) h2) /\
 ((!s11) = false ->
 eop P (Instr.buildSlice 99 0 #[]) h2 fun r2 h3 => ∃ s13 : Sl, r2 = s13.v /\ Vars h3 [(b1, [s0_1.v])] /\
 ∃ J1 : Nat -> Bool -> Sl -> Int -> Heap -> Prop, (∃ n0 : Nat, J1 n0 false s13 0 h3) /\
 ∀ (n1 : Nat) (empty4_1 : Bool) (words5_1 : Sl) (s17 : Int) (h4 : Heap), J1 n1 empty4_1 words5_1 s17 h4 -> Vars h4 [(b1, [s0_1.v])] ->
 ((decide (s17 < (s0_1.n : Int))) = true ->
 InB s0_1 s17 /\
 ∃ s20 : Sl, hcell h4 (Sl.at s0_1 s17 1) = some s20.v /\
 ((decide (12 < (s20.n : Int))) = true ->
 K (.tuple #[(VS ({ data := #[] })), (VB false)]) h4) /\
 ((decide (12 < (s20.n : Int))) = false ->
 callM P 75 #[s20.v, (Value.func (.func 76) #[] #[])] h4 fun r3 h5 => ∃ s26 : Bool, r3 = (VB s26) /\ Vars h5 [(b1, [s0_1.v])] /\
 (s26 = true ->
 K (.tuple #[(VS ({ data := #[] })), (VB false)]) h5) /\
 (s26 = false ->
 (empty4_1 = true ->
 callM P 77 #[s20.v] h5 fun r7 h9 => ∃ s36b : ByteArray, r7 = (VS s36b) /\ Vars h9 [(b1, [s0_1.v])] /\
 eop P (Instr.buildSlice 99 1 #[(0, (VS s36b))]) h9 fun r8 h10 => ∃ s37b : Sl, r8 = s37b.v /\ Vars h10 [(b1, [s0_1.v])] /\
 eop P (appS 99 99 99 words5_1.v s37b.v) h10 fun r9 h11 => ∃ s38b : Sl, r9 = s38b.v /\ Vars h11 [(b1, [s0_1.v])] /\
 ∃ m : Nat, m < n1 /\ J1 m true s38b (w64 (s17 + 1)) h11) /\
 (empty4_1 = false ->
 callM P 77 #[s20.v] h5 fun r4 h6 => ∃ s36 : ByteArray, r4 = (VS s36) /\ Vars h6 [(b1, [s0_1.v])] /\
 eop P (Instr.buildSlice 99 1 #[(0, (VS s36))]) h6 fun r5 h7 => ∃ s37 : Sl, r5 = s37.v /\ Vars h7 [(b1, [s0_1.v])] /\
 eop P (appS 99 99 99 words5_1.v s37.v) h7 fun r6 h8 => ∃ s38 : Sl, r6 = s38.v /\ Vars h8 [(b1, [s0_1.v])] /\
 ∃ m : Nat, m < n1 /\ J1 m (decide ((s20.n : Int) = 0)) s38 (w64 (s17 + 1)) h8)))) /\
 ((decide (s17 < (s0_1.n : Int))) = false ->
 ((!empty4_1) = true ->
 K (.tuple #[(VS ({ data := #[] })), (VB false)]) h4) /\
 ((!empty4_1) = false ->
 callM P 78 #[words5_1.v, (VS ({ data := #[59] }))] h4 fun r10 h12 => ∃ s43 : ByteArray, r10 = (VS s43) /\ Vars h12 [(b1, [s0_1.v])] /\
 K (.tuple #[(VS s43), (VB true)]) h12)))
theorem v27 (s0_1 : Sl) (h : Heap) (K : Value -> Heap -> Prop) (H : u27 Tryz.prog s0_1 h K) : callM Tryz.prog 27 #[(Value.agg #[s0_1.v])] h K := by
  refine c27 (Value.agg #[s0_1.v]) h K ?_
  unfold u27 at H
  unfold t27
  have hL : Vars h [] := .nil
  refine eop_box 28 (Value.agg #[s0_1.v]) rfl hL (fun b1 h1 hb1 hf1 hL1 => ?_)
  refine pop_field 0 fld28_0 b1 0 ?_
  refine rl one24 hL1 0 0 s0_1.v ?_
  refine pop_len s0_1 _ _ sli24 ?_
  have H := H b1 h1 hb1 (Fr.no' (Fr.r (In []) _) hf1) hL1
  refine H.mono fun r1 h2 H => ?_
  obtain ⟨s11, rfl, hL2, H⟩ := H
  refine pop_not s11 ?_
  refine condM_b (fun hb2 => ?_) (fun hb2 => ?_)
  ·exact H.1 hb2
  have H := H.2 hb2
  refine H.mono fun r2 h3 H => ?_
  obtain ⟨s13, rfl, hL3, H⟩ := H
  refine pop_field 0 fld28_0 b1 0 ?_
  refine rl one24 hL3 0 0 s0_1.v ?_
  refine pop_len s0_1 _ _ sli24 ?_
  obtain ⟨J1, ⟨n2, h0_1⟩, HB1⟩ := H
  refine loop_intro (J := fun (n : Nat) (vs : List Value) (h' : Heap) => ∃ empty4_1 : Bool, ∃ words5_1 : Sl, ∃ s17 : Int, vs = [(VB empty4_1), words5_1.v, (VI s17)] /\ J1 n empty4_1 words5_1 s17 h' /\ Vars h' [(b1, [s0_1.v])]) n2 ⟨false, s13, 0, rfl, h0_1, hL3⟩ ?_
  intro I1 mu1 hI1 junk1 tv1 tv2 tv3 h4 hi1
  obtain ⟨n1, ⟨empty4_1, words5_1, s17, hv, hJ1, hL4⟩, hn1⟩ := hI1 _ _ hi1
  cases hv
  have H := HB1 n1 empty4_1 words5_1 s17 h4 hJ1 hL4
  refine pop_lss .i64 s17 (s0_1.n : Int) ?_
  refine condM_b (fun hb3 => ?_) (fun hb3 => ?_)
  rotate_left
  ·have H := H.2 hb3
   refine pop_not empty4_1 ?_
   refine condM_b (fun hb7 => ?_) (fun hb7 => ?_)
   ·exact H.1 hb7
   have H := H.2 hb7
   refine H.mono fun r10 h12 H => ?_
   obtain ⟨s43, rfl, hL12, H⟩ := H
   exact H
  have H := H.1 hb3
  obtain ⟨hi2, H⟩ := H
  refine pop_index sli24 siz33 .i64 s0_1 s17 hi2 ?_
  obtain ⟨s20, hc1, H⟩ := H
  refine rop_one one33 s20.v hc1 ?_
  refine pop_len s20 _ _ sli33 ?_
  refine pop_gtr .i64 (s20.n : Int) 12 ?_
  refine guardM_sf (fun hb4 => ?_) (fun hb4 => ?_)
  rotate_left
  ·have H := H.1 hb4
   refine gm hb4 ?_
   refine pop_pickt' hb4 ?_
   refine condM_t ?_
   exact H
  have H := H.2 hb4
  refine gy hb4 ?_
  refine H.mono fun r3 h5 H => ?_
  obtain ⟨s26, rfl, hL5, H⟩ := H
  refine pop_pickf' hb4 ?_
  refine condM_b (fun hb5 => ?_) (fun hb5 => ?_)
  ·exact H.1 hb5
  have H := H.2 hb5
  refine guardM_sf (fun hb6 => ?_) (fun hb6 => ?_)
  rotate_left
  ·have H := H.1 hb6
   refine gm hb6 ?_
   refine gm hb6 ?_
   refine pop_pickt' hb6 ?_
   refine H.mono fun r7 h9 H => ?_
   obtain ⟨s36b, rfl, hL9, H⟩ := H
   refine H.mono fun r8 h10 H => ?_
   obtain ⟨s37b, rfl, hL10, H⟩ := H
   refine H.mono fun r9 h11 H => ?_
   obtain ⟨s38b, rfl, hL11, H⟩ := H
   refine pop_add .i64 s17 1 ?_
   obtain ⟨m_2, hm_2, H⟩ := H
   exact hn1 _ _ ⟨m_2, hm_2, true, s38b, (w64 (s17 + 1)), rfl, H, hL11⟩
  have H := H.2 hb6
  refine gy hb6 ?_
  refine pop_len s20 _ _ sli33 ?_
  refine gy hb6 ?_
  refine pop_ieq .i64 _ _ (s20.n : Int) 0 ?_
  refine pop_pickf' hb6 ?_
  refine H.mono fun r4 h6 H => ?_
  obtain ⟨s36, rfl, hL6, H⟩ := H
  refine H.mono fun r5 h7 H => ?_
  obtain ⟨s37, rfl, hL7, H⟩ := H
  refine H.mono fun r6 h8 H => ?_
  obtain ⟨s38, rfl, hL8, H⟩ := H
  refine pop_add .i64 s17 1 ?_
  obtain ⟨m_1, hm_1, H⟩ := H
  exact hn1 _ _ ⟨m_1, hm_1, (decide ((s20.n : Int) = 0)), s38, (w64 (s17 + 1)), rfl, H, hL8⟩
def u28 (P : Program) (s0_1 : Sl) (h : Heap) (K : Value -> Heap -> Prop) : Prop :=
 ∀ (b1 : Nat) (h1 : Heap), h.size ≤ b1 -> Fr (In []) h h1 -> Vars h1 [(b1, [s0_1.v])] ->
 callM P 74 #[(VI (s0_1.n : Int)), (VI 1), (VI 8)] h1 fun r1 h2 => ∃ s13 : Bool, r1 = (VB s13) /\ Vars h2 [(b1, [s0_1.v])] /\
 ((!s13) = true ->
 K (.tuple #[(VS ({ data := #[] })), (VB false)]) h2) /\
 ((!s13) = false ->
 ∃ J1 : Nat -> ByteArray -> Bool -> Int -> Heap -> Prop, (∃ n0 : Nat, J1 n0 ({ data := #[] }) false 0 h2) /\
 ∀ (n1 : Nat) (out4_1 : ByteArray) (empty5_1 : Bool) (s18 : Int) (h3 : Heap), J1 n1 out4_1 empty5_1 s18 h3 -> Vars h3 [(b1, [s0_1.v])] ->
 ((decide (s18 < (s0_1.n : Int))) = true ->
 InB s0_1 s18 /\
 ∃ s22 : Sl, hcell h3 (Sl.at s0_1 s18 1) = some s22.v /\
 ((decide (12 < (s22.n : Int))) = true ->
 K (.tuple #[(VS ({ data := #[] })), (VB false)]) h3) /\
 ((decide (12 < (s22.n : Int))) = false ->
 callM P 79 #[s22.v, (VI 0), (VI 4)] h3 fun r2 h4 => ∃ s28 : Bool, r2 = (VB s28) /\ Vars h4 [(b1, [s0_1.v])] /\
 ((!s28) = true ->
 K (.tuple #[(VS ({ data := #[] })), (VB false)]) h4) /\
 ((!s28) = false ->
 ∃ J2 : ByteArray -> Heap -> Prop, (((decide (0 < s18)) = true ->
 ByteArray.size out4_1 + ByteArray.size ({ data := #[59] }) ≤ 9223372036854775807 /\
 J2 (out4_1 ++ ({ data := #[59] })) h4) /\
 ((decide (0 < s18)) = false ->
 J2 out4_1 h4)) /\
 ∀ (y1 : ByteArray) (h5 : Heap), J2 y1 h5 -> Vars h5 [(b1, [s0_1.v])] ->
 ∃ J3 : ByteArray -> Bool -> Heap -> Prop, (((decide ((s22.n : Int) = 0)) = true ->
 ByteArray.size y1 + ByteArray.size ({ data := #[45] }) ≤ 9223372036854775807 /\
 J3 (y1 ++ ({ data := #[45] })) true h5) /\
 ((decide ((s22.n : Int) = 0)) = false ->
 J3 y1 empty5_1 h5)) /\
 ∀ (y2 : ByteArray) (y3 : Bool) (h6 : Heap), J3 y2 y3 h6 -> Vars h6 [(b1, [s0_1.v])] ->
 ∃ J4 : Nat -> ByteArray -> Int -> Heap -> Prop, (∃ n0 : Nat, J4 n0 y2 0 h6) /\
 ∀ (n2 : Nat) (out4_2 : ByteArray) (s42 : Int) (h7 : Heap), J4 n2 out4_2 s42 h7 -> Vars h7 [(b1, [s0_1.v])] ->
 ((decide (s42 < (s22.n : Int))) = true ->
 InB s22 s42 /\
 ∃ s46 : Int, hcell h7 (Sl.at s22 s42 1) = some (VI s46) /\
 ∃ J5 : ByteArray -> Heap -> Prop, (((decide (0 < s42)) = true ->
 ByteArray.size out4_2 + ByteArray.size ({ data := #[44] }) ≤ 9223372036854775807 /\
 J5 (out4_2 ++ ({ data := #[44] })) h7) /\
 ((decide (0 < s42)) = false ->
 J5 out4_2 h7)) /\
 ∀ (y4 : ByteArray) (h8 : Heap), J5 y4 h8 -> Vars h8 [(b1, [s0_1.v])] ->
 callM P 80 #[(VI s46)] h8 fun r3 h9 => ∃ s53 : ByteArray, r3 = (VS s53) /\ Vars h9 [(b1, [s0_1.v])] /\
 ByteArray.size y4 + ByteArray.size s53 ≤ 9223372036854775807 /\
 ∃ m : Nat, m < n2 /\ J4 m (y4 ++ s53) (w64 (s42 + 1)) h9) /\
 ((decide (s42 < (s22.n : Int))) = false ->
 ∃ m : Nat, m < n1 /\ J1 m out4_2 y3 (w64 (s18 + 1)) h7)))) /\
 ((decide (s18 < (s0_1.n : Int))) = false ->
 ((!empty5_1) = true ->
 K (.tuple #[(VS ({ data := #[] })), (VB false)]) h3) /\
 ((!empty5_1) = false ->
 K (.tuple #[(VS out4_1), (VB true)]) h3)))
theorem v28 (s0_1 : Sl) (h : Heap) (K : Value -> Heap -> Prop) (H : u28 Tryz.prog s0_1 h K) : callM Tryz.prog 28 #[(Value.agg #[s0_1.v])] h K := by
  refine c28 (Value.agg #[s0_1.v]) h K ?_
  unfold u28 at H
  unfold t28
  have hL : Vars h [] := .nil
  refine eop_box 28 (Value.agg #[s0_1.v]) rfl hL (fun b1 h1 hb1 hf1 hL1 => ?_)
  refine pop_field 0 fld28_0 b1 0 ?_
  refine rl one24 hL1 0 0 s0_1.v ?_
  refine pop_len s0_1 _ _ sli24 ?_
  have H := H b1 h1 hb1 (Fr.no' (Fr.r (In []) _) hf1) hL1
  refine H.mono fun r1 h2 H => ?_
  obtain ⟨s13, rfl, hL2, H⟩ := H
  refine pop_not s13 ?_
  refine condM_b (fun hb2 => ?_) (fun hb2 => ?_)
  ·exact H.1 hb2
  have H := H.2 hb2
  refine pop_field 0 fld28_0 b1 0 ?_
  refine rl one24 hL2 0 0 s0_1.v ?_
  refine pop_len s0_1 _ _ sli24 ?_
  obtain ⟨J1, ⟨n4, h0_2⟩, HB5⟩ := H
  refine loop_intro (J := fun (n : Nat) (vs : List Value) (h' : Heap) => ∃ out4_1 : ByteArray, ∃ empty5_1 : Bool, ∃ s18 : Int, vs = [(VS out4_1), (VB empty5_1), (VI s18)] /\ J1 n out4_1 empty5_1 s18 h' /\ Vars h' [(b1, [s0_1.v])]) n4 ⟨({ data := #[] }), false, 0, rfl, h0_2, hL2⟩ ?_
  intro I2 mu2 hI2 junk1 tv7 tv8 tv9 h3 hi1
  obtain ⟨n1, ⟨out4_1, empty5_1, s18, hv, hJ1, hL3⟩, hn1⟩ := hI2 _ _ hi1
  cases hv
  have H := HB5 n1 out4_1 empty5_1 s18 h3 hJ1 hL3
  refine pop_lss .i64 s18 (s0_1.n : Int) ?_
  refine condM_b (fun hb3 => ?_) (fun hb3 => ?_)
  rotate_left
  ·have H := H.2 hb3
   refine pop_not empty5_1 ?_
   refine condM_b (fun hb10 => ?_) (fun hb10 => ?_)
   ·exact H.1 hb10
   exact H.2 hb10
  have H := H.1 hb3
  obtain ⟨hi2, H⟩ := H
  refine pop_index sli24 siz33 .i64 s0_1 s18 hi2 ?_
  obtain ⟨s22, hc2, H⟩ := H
  refine rop_one one33 s22.v hc2 ?_
  refine pop_len s22 _ _ sli33 ?_
  refine pop_gtr .i64 (s22.n : Int) 12 ?_
  refine guardM_sf (fun hb4 => ?_) (fun hb4 => ?_)
  rotate_left
  ·have H := H.1 hb4
   refine gm hb4 ?_
   refine gm hb4 ?_
   refine pop_pickt' hb4 ?_
   refine condM_t ?_
   exact H
  have H := H.2 hb4
  refine gy hb4 ?_
  refine H.mono fun r2 h4 H => ?_
  obtain ⟨s28, rfl, hL4, H⟩ := H
  refine gy hb4 ?_
  refine pop_not s28 ?_
  refine pop_pickf' hb4 ?_
  refine condM_b (fun hb5 => ?_) (fun hb5 => ?_)
  ·exact H.1 hb5
  have H := H.2 hb5
  obtain ⟨J2, H, HB4⟩ := H
  refine ⟨fun (vs : List Value) (h' : Heap) => ∃ y1 : ByteArray, vs = [(VS y1)] /\ J2 y1 h' /\ Vars h' [(b1, [s0_1.v])], ?_, ?_⟩
  ·refine pop_gtr .i64 s18 0 ?_
   refine condM_b (fun hb6 => ?_) (fun hb6 => ?_)
   rotate_left
   ·have H := H.2 hb6
    exact ⟨out4_1, rfl, H, hL4⟩
   have H := H.1 hb6
   obtain ⟨hz_1, H⟩ := H
   refine pop_sadd out4_1 ({ data := #[59] }) hz_1 ?_
   exact ⟨(out4_1 ++ ({ data := #[59] })), rfl, H, hL4⟩
  intro junk2 tv1 h5
  rintro ⟨y1, hv, hJ2, hL5⟩
  cases hv
  have H := HB4 y1 h5 hJ2 hL5
  obtain ⟨J3, H, HB3⟩ := H
  refine ⟨fun (vs : List Value) (h' : Heap) => ∃ y2 : ByteArray, ∃ y3 : Bool, vs = [(VS y2), (VB y3)] /\ J3 y2 y3 h' /\ Vars h' [(b1, [s0_1.v])], ?_, ?_⟩
  ·refine pop_len s22 _ _ sli33 ?_
   refine pop_ieq .i64 _ _ (s22.n : Int) 0 ?_
   refine condM_b (fun hb7 => ?_) (fun hb7 => ?_)
   rotate_left
   ·have H := H.2 hb7
    exact ⟨y1, empty5_1, rfl, H, hL5⟩
   have H := H.1 hb7
   obtain ⟨hz_2, H⟩ := H
   refine pop_sadd y1 ({ data := #[45] }) hz_2 ?_
   exact ⟨(y1 ++ ({ data := #[45] })), true, rfl, H, hL5⟩
  intro junk3 tv2 tv3 h6
  rintro ⟨y2, y3, hv, hJ3, hL6⟩
  cases hv
  have H := HB3 y2 y3 h6 hJ3 hL6
  refine pop_len s22 _ _ sli33 ?_
  obtain ⟨J4, ⟨n3, h0_1⟩, HB2⟩ := H
  refine loop_intro (J := fun (n : Nat) (vs : List Value) (h' : Heap) => ∃ out4_2 : ByteArray, ∃ s42 : Int, vs = [(VS out4_2), (VI s42)] /\ J4 n out4_2 s42 h' /\ Vars h' [(b1, [s0_1.v])]) n3 ⟨y2, 0, rfl, h0_1, hL6⟩ ?_
  intro I1 mu1 hI1 junk4 tv5 tv6 h7 hi3
  obtain ⟨n2, ⟨out4_2, s42, hv, hJ4, hL7⟩, hn2⟩ := hI1 _ _ hi3
  cases hv
  have H := HB2 n2 out4_2 s42 h7 hJ4 hL7
  refine pop_lss .i64 s42 (s22.n : Int) ?_
  refine condM_b (fun hb8 => ?_) (fun hb8 => ?_)
  rotate_left
  ·have H := H.2 hb8
   refine pop_add .i64 s18 1 ?_
   obtain ⟨m_2, hm_2, H⟩ := H
   exact hn1 _ _ ⟨m_2, hm_2, out4_2, y3, (w64 (s18 + 1)), rfl, H, hL7⟩
  have H := H.1 hb8
  obtain ⟨hi4, H⟩ := H
  refine pop_index sli33 siz3 .i64 s22 s42 hi4 ?_
  obtain ⟨s46, hc1, H⟩ := H
  refine rop_one one3 (VI s46) hc1 ?_
  obtain ⟨J5, H, HB1⟩ := H
  refine ⟨fun (vs : List Value) (h' : Heap) => ∃ y4 : ByteArray, vs = [(VS y4)] /\ J5 y4 h' /\ Vars h' [(b1, [s0_1.v])], ?_, ?_⟩
  ·refine pop_gtr .i64 s42 0 ?_
   refine condM_b (fun hb9 => ?_) (fun hb9 => ?_)
   rotate_left
   ·have H := H.2 hb9
    exact ⟨out4_2, rfl, H, hL7⟩
   have H := H.1 hb9
   obtain ⟨hz_3, H⟩ := H
   refine pop_sadd out4_2 ({ data := #[44] }) hz_3 ?_
   exact ⟨(out4_2 ++ ({ data := #[44] })), rfl, H, hL7⟩
  intro junk5 tv4 h8
  rintro ⟨y4, hv, hJ5, hL8⟩
  cases hv
  have H := HB1 y4 h8 hJ5 hL8
  refine H.mono fun r3 h9 H => ?_
  obtain ⟨s53, rfl, hL9, H⟩ := H
  obtain ⟨hz_4, H⟩ := H
  refine pop_sadd y4 s53 hz_4 ?_
  refine pop_add .i64 s42 1 ?_
  obtain ⟨m_1, hm_1, H⟩ := H
  exact hn2 _ _ ⟨m_1, hm_1, (y4 ++ s53), (w64 (s42 + 1)), rfl, H, hL9⟩
def u49 (P : Program) (code0_1 : Sl) (h : Heap) (K : Value -> Heap -> Prop) : Prop :=
 ∀ (b1 : Nat) (b2 : Nat) (b3 : Nat) (h3 : Heap), h.size ≤ b1 -> h.size ≤ b2 -> h.size ≤ b3 -> Fr (In []) h h3 -> Vars h3 [(b3, [code0_1.v, (VI 0), (Value.int .u64 0)]), (b2, [nilSl.v]), (b1, [nilSl.v])] ->
 callM P 60 #[(VP b3 0)] h3 fun r1 h4 => ∃ y1 : Sl, ∃ y2 : Int, ∃ y3 : Int, ∃ s10 : Sl, ∃ s10b : Int, ∃ s10c : Sl, r1 = (.tuple #[(.agg #[s10.v]), (VI s10b), (.agg #[s10c.v])]) /\ Vars h4 [(b3, [y1.v, (VI y2), (Value.int .u64 y3)]), (b2, [nilSl.v]), (b1, [nilSl.v])] /\
 ∀ (h6 : Heap), Fr (In [b2, b1]) h4 h6 -> Vars h6 [(b3, [y1.v, (VI y2), (Value.int .u64 y3)]), (b2, [s10c.v]), (b1, [s10.v])] ->
 K (.tuple #[(.agg #[s10.v]), (VI s10b), (.agg #[s10c.v])]) h6
theorem v49 (code0_1 : Sl) (h : Heap) (K : Value -> Heap -> Prop) (H : u49 Tryz.prog code0_1 h K) : callM Tryz.prog 49 #[code0_1.v] h K := by
  refine c49 code0_1.v h K ?_
  unfold u49 at H
  unfold t49
  have hL : Vars h [] := .nil
  refine eop_alloc 26 zer26 rfl hL (fun b1 h1 hb1 hf1 hL1 => ?_)
  refine eop_alloc 28 zer28 rfl hL1 (fun b2 h2 hb2 hf2 hL2 => ?_)
  refine pop.mk' (v := (Value.agg #[code0_1.v, (VI 0), (Value.int .u64 0)])) (fun w => by kernel_rfl) ?_
  refine eop_box 84 (Value.agg #[code0_1.v, (VI 0), (Value.int .u64 0)]) rfl hL2 (fun b3 h3 hb3 hf3 hL3 => ?_)
  have H := H b1 b2 b3 h3 hb1 (Nat.le_trans (Fr.size (Fr.no' (Fr.r (In []) _) hf1)) hb2) (Nat.le_trans (Fr.size (Fr.no' (Fr.no' (Fr.r (In []) _) hf1) hf2)) hb3) (Fr.no' (Fr.no' (Fr.no' (Fr.r (In []) _) hf1) hf2) hf3) hL3
  refine H.mono fun r1 h4 H => ?_
  obtain ⟨y1, y2, y3, s10, s10b, s10c, rfl, hL4, H⟩ := H
  refine pop_ext (v := (Value.agg #[s10.v])) rfl ?_
  refine pop_ext (v := (VI s10b)) rfl ?_
  refine pop_ext (v := (Value.agg #[s10c.v])) rfl ?_
  refine ul siz26 hL4 2 0 [s10.v] [(b3, [y1.v, (VI y2), (Value.int .u64 y3)]), (b2, [nilSl.v]), (b1, [s10.v])] (fun h5 hf4 hL5 => ?_)
  refine ul siz28 hL5 1 0 [s10c.v] [(b3, [y1.v, (VI y2), (Value.int .u64 y3)]), (b2, [s10c.v]), (b1, [s10.v])] (fun h6 hf5 hL6 => ?_)
  refine ra agg26 hL6 2 0 [s10.v] ?_
  refine ra agg28 hL6 1 0 [s10c.v] ?_
  have H := H  h6  (Fr.old (Fr.old (Fr.r (In []) _) hf4) hf5) hL6
  exact H
def u50 (P : Program) (g0_1 : Sl) (sink1_1 : Int) (s2_1 : Sl) (h : Heap) (K : Value -> Heap -> Prop) : Prop :=
 ∀ (b1 : Nat) (b2 : Nat) (h2 : Heap), h.size ≤ b1 -> h.size ≤ b2 -> Fr (In []) h h2 -> Vars h2 [(b2, [s2_1.v]), (b1, [g0_1.v])] ->
 eop P (Instr.buildSlice 33 1 #[(0, (VI sink1_1))]) h2 fun r1 h3 => ∃ s11 : Sl, r1 = s11.v /\ Vars h3 [(b2, [s2_1.v]), (b1, [g0_1.v])] /\
 callM P 54 #[(.agg #[g0_1.v]), s11.v] h3 fun r2 h4 => ∃ s12 : Bool, r2 = (VB s12) /\ Vars h4 [(b2, [s2_1.v]), (b1, [g0_1.v])] /\
 ((!s12) = true ->
 K (VB false) h4) /\
 ((!s12) = false ->
 ((!decide ((s2_1.n : Int) = (g0_1.n : Int))) = true ->
 K (VB false) h4) /\
 ((!decide ((s2_1.n : Int) = (g0_1.n : Int))) = false ->
 InB s2_1 sink1_1 /\
 ∃ s28 : Sl, hcell h4 (Sl.at s2_1 sink1_1 1) = some s28.v /\
 ((!decide ((s28.n : Int) = 0)) = true ->
 K (VB false) h4) /\
 ((!decide ((s28.n : Int) = 0)) = false ->
 ∃ J1 : Nat -> Int -> Sl -> Heap -> Prop, (∃ n0 : Nat, J1 n0 0 g0_1 h4) /\
 ∀ (n1 : Nat) (s35 : Int) (y1 : Sl) (h5 : Heap), J1 n1 s35 y1 h5 -> Vars h5 [(b2, [s2_1.v]), (b1, [y1.v])] ->
 ((decide (s35 < (s2_1.n : Int))) = true ->
 InB s2_1 s35 /\
 ∃ s39 : Sl, hcell h5 (Sl.at s2_1 s35 1) = some s39.v /\
 ((decide (12 < (s39.n : Int))) = true ->
 ∀ (b3 : Nat) (h7 : Heap), h5.size ≤ b3 -> Fr (In []) h5 h7 -> Vars h7 [(b3, [(VI s35)]), (b2, [s2_1.v]), (b1, [y1.v])] ->
 K (VB false) h7) /\
 ((decide (12 < (s39.n : Int))) = false ->
 ∀ (b3 : Nat) (h7 : Heap), h5.size ≤ b3 -> Fr (In []) h5 h7 -> Vars h7 [(b3, [(VI s35)]), (b2, [s2_1.v]), (b1, [y1.v])] ->
 callM P 75 #[s39.v, (Value.func (Fn.func 111) #[] #[(VP b1 0), (VP b3 0)])] h7 fun r3 h8 => ∃ y2 : Int, ∃ y3 : Sl, ∃ s46 : Bool, r3 = (VB s46) /\ Vars h8 [(b3, [(VI y2)]), (b2, [s2_1.v]), (b1, [y3.v])] /\
 (s46 = true ->
 K (VB false) h8) /\
 (s46 = false ->
 ∃ m : Nat, m < n1 /\ J1 m (w64 (s35 + 1)) y3 h8))) /\
 ((decide (s35 < (s2_1.n : Int))) = false ->
 K (VB true) h5))))
theorem v50 (g0_1 : Sl) (sink1_1 : Int) (s2_1 : Sl) (h : Heap) (K : Value -> Heap -> Prop) (H : u50 Tryz.prog g0_1 sink1_1 s2_1 h K) : callM Tryz.prog 50 #[(Value.agg #[g0_1.v]), (VI sink1_1), (Value.agg #[s2_1.v])] h K := by
  refine c50 (Value.agg #[g0_1.v]) (VI sink1_1) (Value.agg #[s2_1.v]) h K ?_
  unfold u50 at H
  unfold t50
  have hL : Vars h [] := .nil
  refine eop_box 26 (Value.agg #[g0_1.v]) rfl hL (fun b1 h1 hb1 hf1 hL1 => ?_)
  refine eop_box 28 (Value.agg #[s2_1.v]) rfl hL1 (fun b2 h2 hb2 hf2 hL2 => ?_)
  refine ra agg26 hL2 1 0 [g0_1.v] ?_
  have H := H b1 b2 h2 hb1 (Nat.le_trans (Fr.size (Fr.no' (Fr.r (In []) _) hf1)) hb2) (Fr.no' (Fr.no' (Fr.r (In []) _) hf1) hf2) hL2
  refine H.mono fun r1 h3 H => ?_
  obtain ⟨s11, rfl, hL3, H⟩ := H
  refine H.mono fun r2 h4 H => ?_
  obtain ⟨s12, rfl, hL4, H⟩ := H
  refine pop_not s12 ?_
  refine guardM_sf (fun hb3 => ?_) (fun hb3 => ?_)
  rotate_left
  ·have H := H.1 hb3
   refine gm hb3 ?_
   refine gm hb3 ?_
   refine gm hb3 ?_
   refine gm hb3 ?_
   refine gm hb3 ?_
   refine gm hb3 ?_
   refine pop_pickt' hb3 ?_
   refine gn ?_
   refine gn ?_
   refine gn ?_
   refine gn ?_
   refine gn ?_
   refine gn ?_
   refine gn ?_
   refine pop_pickt _ _ ?_
   refine condM_t ?_
   exact H
  have H := H.2 hb3
  refine pop_field 0 fld28_0 b2 0 ?_
  refine gy hb3 ?_
  refine rl one24 hL4 0 0 s2_1.v ?_
  refine gy hb3 ?_
  refine pop_len s2_1 _ _ sli24 ?_
  refine gy hb3 ?_
  refine pop_field 0 fld26_0 b1 0 ?_
  refine gy hb3 ?_
  refine rl one24 hL4 1 0 g0_1.v ?_
  refine gy hb3 ?_
  refine pop_len g0_1 _ _ sli24 ?_
  refine gy hb3 ?_
  refine pop_ine .i64 _ _ (s2_1.n : Int) (g0_1.n : Int) ?_
  refine pop_pickf' hb3 ?_
  refine guardM_sf (fun hb4 => ?_) (fun hb4 => ?_)
  rotate_left
  ·have H := H.1 hb4
   refine gm hb4 ?_
   refine gm hb4 ?_
   refine gm hb4 ?_
   refine gm hb4 ?_
   refine gm hb4 ?_
   refine gm hb4 ?_
   refine pop_pickt' hb4 ?_
   refine condM_t ?_
   exact H
  have H := H.2 hb4
  refine pop_field 0 fld28_0 b2 0 ?_
  refine gy hb4 ?_
  refine rl one24 hL4 0 0 s2_1.v ?_
  refine gy hb4 ?_
  refine gy hb4 ?_
  obtain ⟨hi1, H⟩ := H
  refine pop_index sli24 siz33 .i64 s2_1 sink1_1 hi1 ?_
  refine gy hb4 ?_
  obtain ⟨s28, hc2, H⟩ := H
  refine rop_one one33 s28.v hc2 ?_
  refine gy hb4 ?_
  refine pop_len s28 _ _ sli33 ?_
  refine gy hb4 ?_
  refine pop_ine .i64 _ _ (s28.n : Int) 0 ?_
  refine pop_pickf' hb4 ?_
  refine condM_b (fun hb5 => ?_) (fun hb5 => ?_)
  ·exact H.1 hb5
  have H := H.2 hb5
  refine pop_field 0 fld28_0 b2 0 ?_
  refine rl one24 hL4 0 0 s2_1.v ?_
  refine pop_len s2_1 _ _ sli24 ?_
  obtain ⟨J1, ⟨n2, h0_1⟩, HB1⟩ := H
  refine loop_intro (J := fun (n : Nat) (vs : List Value) (h' : Heap) => ∃ s35 : Int, ∃ y1 : Sl, vs = [(VI s35)] /\ J1 n s35 y1 h' /\ Vars h' [(b2, [s2_1.v]), (b1, [y1.v])]) n2 ⟨0, g0_1, rfl, h0_1, hL4⟩ ?_
  intro I1 mu1 hI1 junk1 tv1 h5 hi2
  obtain ⟨n1, ⟨s35, y1, hv, hJ1, hL5⟩, hn1⟩ := hI1 _ _ hi2
  cases hv
  have H := HB1 n1 s35 y1 h5 hJ1 hL5
  refine pop_lss .i64 s35 (s2_1.n : Int) ?_
  refine condM_b (fun hb6 => ?_) (fun hb6 => ?_)
  rotate_left
  ·exact H.2 hb6
  have H := H.1 hb6
  obtain ⟨hi3, H⟩ := H
  refine pop_index sli24 siz33 .i64 s2_1 s35 hi3 ?_
  obtain ⟨s39, hc1, H⟩ := H
  refine rop_one one33 s39.v hc1 ?_
  refine eop_alloc 3 zer3 rfl hL5 (fun b3 h6 hb7 hf3 hL6 => ?_)
  refine ul siz3 hL6 0 0 [(VI s35)] [(b3, [(VI s35)]), (b2, [s2_1.v]), (b1, [y1.v])] (fun h7 hf4 hL7 => ?_)
  refine pop_len s39 _ _ sli33 ?_
  refine pop_gtr .i64 (s39.n : Int) 12 ?_
  refine guardM_sf (fun hb8 => ?_) (fun hb8 => ?_)
  rotate_left
  ·have H := H.1 hb8
   refine gm hb8 ?_
   refine gm hb8 ?_
   refine pop_pickt' hb8 ?_
   refine condM_t ?_
   have H := H b3 h7 hb7 (Fr.new (Fr.no' (Fr.r (In []) _) hf3) hb7 hf4) hL7
   exact H
  have H := H.2 hb8
  refine gy hb8 ?_
  refine pop_func _ _ _ ?_
  refine gy hb8 ?_
  have H := H b3 h7 hb7 (Fr.new (Fr.no' (Fr.r (In []) _) hf3) hb7 hf4) hL7
  refine H.mono fun r3 h8 H => ?_
  obtain ⟨y2, y3, s46, rfl, hL8, H⟩ := H
  refine pop_pickf' hb8 ?_
  refine condM_b (fun hb9 => ?_) (fun hb9 => ?_)
  ·exact H.1 hb9
  have H := H.2 hb9
  refine pop_add .i64 s35 1 ?_
  obtain ⟨m_1, hm_1, H⟩ := H
  exact hn1 _ _ ⟨m_1, hm_1, (w64 (s35 + 1)), y3, rfl, H, (Vars.tail hL8)⟩
def u51 (P : Program) (s0_1 : Sl) (g1_1 : Sl) (h : Heap) (K : Value -> Heap -> Prop) : Prop :=
 ∀ (b1 : Nat) (b2 : Nat) (h2 : Heap), h.size ≤ b1 -> h.size ≤ b2 -> Fr (In []) h h2 -> Vars h2 [(b2, [g1_1.v]), (b1, [s0_1.v])] ->
 eop P (Instr.buildSlice 24 0 #[]) h2 fun r1 h3 => ∃ s8 : Sl, r1 = s8.v /\ Vars h3 [(b2, [g1_1.v]), (b1, [s0_1.v])] /\
 ∃ J1 : Nat -> Sl -> Int -> Heap -> Prop, (∃ n0 : Nat, J1 n0 s8 0 h3) /\
 ∀ (n1 : Nat) (out5_1 : Sl) (s12 : Int) (h4 : Heap), J1 n1 out5_1 s12 h4 -> Vars h4 [(b2, [g1_1.v]), (b1, [s0_1.v])] ->
 ((decide (s12 < (g1_1.n : Int))) = true ->
 callM P 62 #[(.agg #[s0_1.v]), (.agg #[g1_1.v]), (VI s12)] h4 fun r2 h5 => ∃ s18 : Sl, r2 = s18.v /\ Vars h5 [(b2, [g1_1.v]), (b1, [s0_1.v])] /\
 pop P (binE .neq 33 (.tmp 19) (.const (Value.slice none 0 0)) s18.v (Value.slice none 0 0)) fun r3 => ∃ s20 : Bool, r3 = (VB s20) /\ 
 (s20 = true ->
 InB s18 0 /\
 ∃ s24 : Int, hcell h5 (Sl.at s18 0 1) = some (VI s24) /\
 ((decide (s24 = s12)) = true ->
 eop P (Instr.buildSlice 24 1 #[(0, s18.v)]) h5 fun r4 h6 => ∃ s30 : Sl, r4 = s30.v /\ Vars h6 [(b2, [g1_1.v]), (b1, [s0_1.v])] /\
 eop P (appS 24 24 24 out5_1.v s30.v) h6 fun r5 h7 => ∃ s31 : Sl, r5 = s31.v /\ Vars h7 [(b2, [g1_1.v]), (b1, [s0_1.v])] /\
 ∃ m : Nat, m < n1 /\ J1 m s31 (w64 (s12 + 1)) h7) /\
 ((decide (s24 = s12)) = false ->
 ∃ m : Nat, m < n1 /\ J1 m out5_1 (w64 (s12 + 1)) h5)) /\
 (s20 = false ->
 ∃ m : Nat, m < n1 /\ J1 m out5_1 (w64 (s12 + 1)) h5)) /\
 ((decide (s12 < (g1_1.n : Int))) = false ->
 K out5_1.v h4)
theorem v51 (s0_1 : Sl) (g1_1 : Sl) (h : Heap) (K : Value -> Heap -> Prop) (H : u51 Tryz.prog s0_1 g1_1 h K) : callM Tryz.prog 51 #[(Value.agg #[s0_1.v]), (Value.agg #[g1_1.v])] h K := by
  refine c51 (Value.agg #[s0_1.v]) (Value.agg #[g1_1.v]) h K ?_
  unfold u51 at H
  unfold t51
  have hL : Vars h [] := .nil
  refine eop_box 28 (Value.agg #[s0_1.v]) rfl hL (fun b1 h1 hb1 hf1 hL1 => ?_)
  refine eop_box 26 (Value.agg #[g1_1.v]) rfl hL1 (fun b2 h2 hb2 hf2 hL2 => ?_)
  have H := H b1 b2 h2 hb1 (Nat.le_trans (Fr.size (Fr.no' (Fr.r (In []) _) hf1)) hb2) (Fr.no' (Fr.no' (Fr.r (In []) _) hf1) hf2) hL2
  refine H.mono fun r1 h3 H => ?_
  obtain ⟨s8, rfl, hL3, H⟩ := H
  refine pop_field 0 fld26_0 b2 0 ?_
  refine rl one24 hL3 0 0 g1_1.v ?_
  refine pop_len g1_1 _ _ sli24 ?_
  obtain ⟨J1, ⟨n2, h0_1⟩, HB1⟩ := H
  refine loop_intro (J := fun (n : Nat) (vs : List Value) (h' : Heap) => ∃ out5_1 : Sl, ∃ s12 : Int, vs = [out5_1.v, (VI s12)] /\ J1 n out5_1 s12 h' /\ Vars h' [(b2, [g1_1.v]), (b1, [s0_1.v])]) n2 ⟨s8, 0, rfl, h0_1, hL3⟩ ?_
  intro I1 mu1 hI1 junk1 tv1 tv2 h4 hi1
  obtain ⟨n1, ⟨out5_1, s12, hv, hJ1, hL4⟩, hn1⟩ := hI1 _ _ hi1
  cases hv
  have H := HB1 n1 out5_1 s12 h4 hJ1 hL4
  refine pop_lss .i64 s12 (g1_1.n : Int) ?_
  refine condM_b (fun hb3 => ?_) (fun hb3 => ?_)
  rotate_left
  ·exact H.2 hb3
  have H := H.1 hb3
  refine ra agg28 hL4 1 0 [s0_1.v] ?_
  refine ra agg26 hL4 0 0 [g1_1.v] ?_
  refine H.mono fun r2 h5 H => ?_
  obtain ⟨s18, rfl, hL5, H⟩ := H
  refine H.mono fun r3 H => ?_
  obtain ⟨s20, rfl, H⟩ := H
  refine guardM_st (fun hb4 => ?_) (fun hb4 => ?_)
  rotate_left
  ·have H := H.2 hb4
   refine gm hb4 ?_
   refine gm hb4 ?_
   refine gm hb4 ?_
   refine gm hb4 ?_
   refine pop_pickf' hb4 ?_
   refine condM_f ?_
   refine pop_add .i64 s12 1 ?_
   obtain ⟨m_3, hm_3, H⟩ := H
   exact hn1 _ _ ⟨m_3, hm_3, out5_1, (w64 (s12 + 1)), rfl, H, hL5⟩
  have H := H.1 hb4
  refine gy hb4 ?_
  obtain ⟨hi2, H⟩ := H
  refine pop_index sli33 siz3 .i64 s18 0 hi2 ?_
  refine gy hb4 ?_
  obtain ⟨s24, hc1, H⟩ := H
  refine rop_one one3 (VI s24) hc1 ?_
  refine gy hb4 ?_
  refine gy hb4 ?_
  refine pop_ieq .i64 _ _ s24 s12 ?_
  refine pop_pickt' hb4 ?_
  refine condM_b (fun hb5 => ?_) (fun hb5 => ?_)
  rotate_left
  ·have H := H.2 hb5
   refine pop_add .i64 s12 1 ?_
   obtain ⟨m_2, hm_2, H⟩ := H
   exact hn1 _ _ ⟨m_2, hm_2, out5_1, (w64 (s12 + 1)), rfl, H, hL5⟩
  have H := H.1 hb5
  refine H.mono fun r4 h6 H => ?_
  obtain ⟨s30, rfl, hL6, H⟩ := H
  refine H.mono fun r5 h7 H => ?_
  obtain ⟨s31, rfl, hL7, H⟩ := H
  refine pop_add .i64 s12 1 ?_
  obtain ⟨m_1, hm_1, H⟩ := H
  exact hn1 _ _ ⟨m_1, hm_1, s31, (w64 (s12 + 1)), rfl, H, hL7⟩
def u52 (P : Program) (g0_1 : Sl) (sink1_1 : Int) (s2_1 : Sl) (h : Heap) (K : Value -> Heap -> Prop) : Prop :=
 ∀ (b1 : Nat) (b2 : Nat) (h2 : Heap), h.size ≤ b1 -> h.size ≤ b2 -> Fr (In []) h h2 -> Vars h2 [(b2, [s2_1.v]), (b1, [g0_1.v])] ->
 callM P 55 #[(.agg #[g0_1.v]), (VI sink1_1)] h2 fun r1 h3 => ∃ s11 : Bool, r1 = (VB s11) /\ Vars h3 [(b2, [s2_1.v]), (b1, [g0_1.v])] /\
 ((!s11) = true ->
 K (VB false) h3) /\
 ((!s11) = false ->
 ((!decide ((s2_1.n : Int) = (g0_1.n : Int))) = true ->
 K (VB false) h3) /\
 ((!decide ((s2_1.n : Int) = (g0_1.n : Int))) = false ->
 InB s2_1 sink1_1 /\
 ∃ s27 : Sl, hcell h3 (Sl.at s2_1 sink1_1 1) = some s27.v /\
 ((decide (0 < (s27.n : Int))) = true ->
 K (VB false) h3) /\
 ((decide (0 < (s27.n : Int))) = false ->
 ∃ J1 : Nat -> Int -> Heap -> Prop, (∃ n0 : Nat, J1 n0 0 h3) /\
 ∀ (n1 : Nat) (s34 : Int) (h4 : Heap), J1 n1 s34 h4 -> Vars h4 [(b2, [s2_1.v]), (b1, [g0_1.v])] ->
 ((decide (s34 < (s2_1.n : Int))) = true ->
 InB s2_1 s34 /\
 ∃ s38 : Sl, hcell h4 (Sl.at s2_1 s34 1) = some s38.v /\
 ((decide (12 < (s38.n : Int))) = true ->
 K (VB false) h4) /\
 ((decide (12 < (s38.n : Int))) = false ->
 InB g0_1 s34 /\
 ∃ s48 : Sl, hcell h4 (Sl.at g0_1 s34 1) = some s48.v /\
 callM P 79 #[s38.v, (VI 0), (VI (w64 ((s48.n : Int) - 1)))] h4 fun r2 h5 => ∃ s51 : Bool, r2 = (VB s51) /\ Vars h5 [(b2, [s2_1.v]), (b1, [g0_1.v])] /\
 ((!s51) = true ->
 K (VB false) h5) /\
 ((!s51) = false ->
 ∃ m : Nat, m < n1 /\ J1 m (w64 (s34 + 1)) h5))) /\
 ((decide (s34 < (s2_1.n : Int))) = false ->
 K (VB true) h4))))
theorem v52 (g0_1 : Sl) (sink1_1 : Int) (s2_1 : Sl) (h : Heap) (K : Value -> Heap -> Prop) (H : u52 Tryz.prog g0_1 sink1_1 s2_1 h K) : callM Tryz.prog 52 #[(Value.agg #[g0_1.v]), (VI sink1_1), (Value.agg #[s2_1.v])] h K := by
  refine c52 (Value.agg #[g0_1.v]) (VI sink1_1) (Value.agg #[s2_1.v]) h K ?_
  unfold u52 at H
  unfold t52
  have hL : Vars h [] := .nil
  refine eop_box 26 (Value.agg #[g0_1.v]) rfl hL (fun b1 h1 hb1 hf1 hL1 => ?_)
  refine eop_box 28 (Value.agg #[s2_1.v]) rfl hL1 (fun b2 h2 hb2 hf2 hL2 => ?_)
  refine ra agg26 hL2 1 0 [g0_1.v] ?_
  have H := H b1 b2 h2 hb1 (Nat.le_trans (Fr.size (Fr.no' (Fr.r (In []) _) hf1)) hb2) (Fr.no' (Fr.no' (Fr.r (In []) _) hf1) hf2) hL2
  refine H.mono fun r1 h3 H => ?_
  obtain ⟨s11, rfl, hL3, H⟩ := H
  refine pop_not s11 ?_
  refine guardM_sf (fun hb3 => ?_) (fun hb3 => ?_)
  rotate_left
  ·have H := H.1 hb3
   refine gm hb3 ?_
   refine gm hb3 ?_
   refine gm hb3 ?_
   refine gm hb3 ?_
   refine gm hb3 ?_
   refine gm hb3 ?_
   refine pop_pickt' hb3 ?_
   refine gn ?_
   refine gn ?_
   refine gn ?_
   refine gn ?_
   refine gn ?_
   refine gn ?_
   refine gn ?_
   refine pop_pickt _ _ ?_
   refine condM_t ?_
   exact H
  have H := H.2 hb3
  refine pop_field 0 fld28_0 b2 0 ?_
  refine gy hb3 ?_
  refine rl one24 hL3 0 0 s2_1.v ?_
  refine gy hb3 ?_
  refine pop_len s2_1 _ _ sli24 ?_
  refine gy hb3 ?_
  refine pop_field 0 fld26_0 b1 0 ?_
  refine gy hb3 ?_
  refine rl one24 hL3 1 0 g0_1.v ?_
  refine gy hb3 ?_
  refine pop_len g0_1 _ _ sli24 ?_
  refine gy hb3 ?_
  refine pop_ine .i64 _ _ (s2_1.n : Int) (g0_1.n : Int) ?_
  refine pop_pickf' hb3 ?_
  refine guardM_sf (fun hb4 => ?_) (fun hb4 => ?_)
  rotate_left
  ·have H := H.1 hb4
   refine gm hb4 ?_
   refine gm hb4 ?_
   refine gm hb4 ?_
   refine gm hb4 ?_
   refine gm hb4 ?_
   refine gm hb4 ?_
   refine pop_pickt' hb4 ?_
   refine condM_t ?_
   exact H
  have H := H.2 hb4
  refine pop_field 0 fld28_0 b2 0 ?_
  refine gy hb4 ?_
  refine rl one24 hL3 0 0 s2_1.v ?_
  refine gy hb4 ?_
  refine gy hb4 ?_
  obtain ⟨hi1, H⟩ := H
  refine pop_index sli24 siz33 .i64 s2_1 sink1_1 hi1 ?_
  refine gy hb4 ?_
  obtain ⟨s27, hc3, H⟩ := H
  refine rop_one one33 s27.v hc3 ?_
  refine gy hb4 ?_
  refine pop_len s27 _ _ sli33 ?_
  refine gy hb4 ?_
  refine pop_gtr .i64 (s27.n : Int) 0 ?_
  refine pop_pickf' hb4 ?_
  refine condM_b (fun hb5 => ?_) (fun hb5 => ?_)
  ·exact H.1 hb5
  have H := H.2 hb5
  refine pop_field 0 fld28_0 b2 0 ?_
  refine rl one24 hL3 0 0 s2_1.v ?_
  refine pop_len s2_1 _ _ sli24 ?_
  obtain ⟨J1, ⟨n2, h0_1⟩, HB1⟩ := H
  refine loop_intro (J := fun (n : Nat) (vs : List Value) (h' : Heap) => ∃ s34 : Int, vs = [(VI s34)] /\ J1 n s34 h' /\ Vars h' [(b2, [s2_1.v]), (b1, [g0_1.v])]) n2 ⟨0, rfl, h0_1, hL3⟩ ?_
  intro I1 mu1 hI1 junk1 tv1 h4 hi2
  obtain ⟨n1, ⟨s34, hv, hJ1, hL4⟩, hn1⟩ := hI1 _ _ hi2
  cases hv
  have H := HB1 n1 s34 h4 hJ1 hL4
  refine pop_lss .i64 s34 (s2_1.n : Int) ?_
  refine condM_b (fun hb6 => ?_) (fun hb6 => ?_)
  rotate_left
  ·exact H.2 hb6
  have H := H.1 hb6
  obtain ⟨hi3, H⟩ := H
  refine pop_index sli24 siz33 .i64 s2_1 s34 hi3 ?_
  obtain ⟨s38, hc2, H⟩ := H
  refine rop_one one33 s38.v hc2 ?_
  refine pop_len s38 _ _ sli33 ?_
  refine pop_gtr .i64 (s38.n : Int) 12 ?_
  refine guardM_sf (fun hb7 => ?_) (fun hb7 => ?_)
  rotate_left
  ·have H := H.1 hb7
   refine gm hb7 ?_
   refine gm hb7 ?_
   refine gm hb7 ?_
   refine gm hb7 ?_
   refine gm hb7 ?_
   refine gm hb7 ?_
   refine gm hb7 ?_
   refine gm hb7 ?_
   refine gm hb7 ?_
   refine pop_pickt' hb7 ?_
   refine condM_t ?_
   exact H
  have H := H.2 hb7
  refine gy hb7 ?_
  refine pop_field 0 fld26_0 b1 0 ?_
  refine gy hb7 ?_
  refine rl one24 hL4 1 0 g0_1.v ?_
  refine gy hb7 ?_
  refine gy hb7 ?_
  obtain ⟨hi4, H⟩ := H
  refine pop_index sli24 siz33 .i64 g0_1 s34 hi4 ?_
  refine gy hb7 ?_
  obtain ⟨s48, hc1, H⟩ := H
  refine rop_one one33 s48.v hc1 ?_
  refine gy hb7 ?_
  refine pop_len s48 _ _ sli33 ?_
  refine gy hb7 ?_
  refine pop_sub .i64 (s48.n : Int) 1 ?_
  refine gy hb7 ?_
  refine H.mono fun r2 h5 H => ?_
  obtain ⟨s51, rfl, hL5, H⟩ := H
  refine gy hb7 ?_
  refine pop_not s51 ?_
  refine pop_pickf' hb7 ?_
  refine condM_b (fun hb8 => ?_) (fun hb8 => ?_)
  ·exact H.1 hb8
  have H := H.2 hb8
  refine pop_add .i64 s34 1 ?_
  obtain ⟨m_1, hm_1, H⟩ := H
  exact hn1 _ _ ⟨m_1, hm_1, (w64 (s34 + 1)), rfl, H, hL5⟩
def u53 (P : Program) (g0_1 : Sl) (s1_1 : Sl) (h : Heap) (K : Value -> Heap -> Prop) : Prop :=
 ∀ (b1 : Nat) (b2 : Nat) (h2 : Heap), h.size ≤ b1 -> h.size ≤ b2 -> Fr (In []) h h2 -> Vars h2 [(b2, [s1_1.v]), (b1, [g0_1.v])] ->
 ∃ J1 : Nat -> Sl -> Int -> Heap -> Prop, (∃ n0 : Nat, J1 n0 nilSl 0 h2) /\
 ∀ (n1 : Nat) (out5_1 : Sl) (s11 : Int) (h3 : Heap), J1 n1 out5_1 s11 h3 -> Vars h3 [(b2, [s1_1.v]), (b1, [g0_1.v])] ->
 ((decide (s11 < (g0_1.n : Int))) = true ->
 callM P 65 #[(.agg #[g0_1.v]), (.agg #[s1_1.v]), (VI s11)] h3 fun r1 h4 => ∃ s17 : Sl, r1 = s17.v /\ Vars h4 [(b2, [s1_1.v]), (b1, [g0_1.v])] /\
 ((decide (0 < (s17.n : Int))) = true ->
 InB s17 0 /\
 ∃ s24 : Int, hcell h4 (Sl.at s17 0 1) = some (VI s24) /\
 ((decide (s24 = s11)) = true ->
 eop P (Instr.buildSlice 24 1 #[(0, s17.v)]) h4 fun r2 h5 => ∃ s30 : Sl, r2 = s30.v /\ Vars h5 [(b2, [s1_1.v]), (b1, [g0_1.v])] /\
 eop P (appS 24 24 24 out5_1.v s30.v) h5 fun r3 h6 => ∃ s31 : Sl, r3 = s31.v /\ Vars h6 [(b2, [s1_1.v]), (b1, [g0_1.v])] /\
 ∃ m : Nat, m < n1 /\ J1 m s31 (w64 (s11 + 1)) h6) /\
 ((decide (s24 = s11)) = false ->
 ∃ m : Nat, m < n1 /\ J1 m out5_1 (w64 (s11 + 1)) h4)) /\
 ((decide (0 < (s17.n : Int))) = false ->
 ∃ m : Nat, m < n1 /\ J1 m out5_1 (w64 (s11 + 1)) h4)) /\
 ((decide (s11 < (g0_1.n : Int))) = false ->
 K out5_1.v h3)
theorem v53 (g0_1 : Sl) (s1_1 : Sl) (h : Heap) (K : Value -> Heap -> Prop) (H : u53 Tryz.prog g0_1 s1_1 h K) : callM Tryz.prog 53 #[(Value.agg #[g0_1.v]), (Value.agg #[s1_1.v])] h K := by
  refine c53 (Value.agg #[g0_1.v]) (Value.agg #[s1_1.v]) h K ?_
  unfold u53 at H
  unfold t53
  have hL : Vars h [] := .nil
  refine eop_box 26 (Value.agg #[g0_1.v]) rfl hL (fun b1 h1 hb1 hf1 hL1 => ?_)
  refine eop_box 28 (Value.agg #[s1_1.v]) rfl hL1 (fun b2 h2 hb2 hf2 hL2 => ?_)
  refine pop_field 0 fld26_0 b1 0 ?_
  refine rl one24 hL2 1 0 g0_1.v ?_
  refine pop_len g0_1 _ _ sli24 ?_
  have H := H b1 b2 h2 hb1 (Nat.le_trans (Fr.size (Fr.no' (Fr.r (In []) _) hf1)) hb2) (Fr.no' (Fr.no' (Fr.r (In []) _) hf1) hf2) hL2
  obtain ⟨J1, ⟨n2, h0_1⟩, HB1⟩ := H
  refine loop_intro (J := fun (n : Nat) (vs : List Value) (h' : Heap) => ∃ out5_1 : Sl, ∃ s11 : Int, vs = [out5_1.v, (VI s11)] /\ J1 n out5_1 s11 h' /\ Vars h' [(b2, [s1_1.v]), (b1, [g0_1.v])]) n2 ⟨nilSl, 0, rfl, h0_1, hL2⟩ ?_
  intro I1 mu1 hI1 junk1 tv1 tv2 h3 hi1
  obtain ⟨n1, ⟨out5_1, s11, hv, hJ1, hL3⟩, hn1⟩ := hI1 _ _ hi1
  cases hv
  have H := HB1 n1 out5_1 s11 h3 hJ1 hL3
  refine pop_lss .i64 s11 (g0_1.n : Int) ?_
  refine condM_b (fun hb3 => ?_) (fun hb3 => ?_)
  rotate_left
  ·exact H.2 hb3
  have H := H.1 hb3
  refine ra agg26 hL3 1 0 [g0_1.v] ?_
  refine ra agg28 hL3 0 0 [s1_1.v] ?_
  refine H.mono fun r1 h4 H => ?_
  obtain ⟨s17, rfl, hL4, H⟩ := H
  refine pop_len s17 _ _ sli33 ?_
  refine pop_gtr .i64 (s17.n : Int) 0 ?_
  refine guardM_st (fun hb4 => ?_) (fun hb4 => ?_)
  rotate_left
  ·have H := H.2 hb4
   refine gm hb4 ?_
   refine gm hb4 ?_
   refine gm hb4 ?_
   refine gm hb4 ?_
   refine pop_pickf' hb4 ?_
   refine condM_f ?_
   refine pop_add .i64 s11 1 ?_
   obtain ⟨m_3, hm_3, H⟩ := H
   exact hn1 _ _ ⟨m_3, hm_3, out5_1, (w64 (s11 + 1)), rfl, H, hL4⟩
  have H := H.1 hb4
  refine gy hb4 ?_
  obtain ⟨hi2, H⟩ := H
  refine pop_index sli33 siz3 .i64 s17 0 hi2 ?_
  refine gy hb4 ?_
  obtain ⟨s24, hc1, H⟩ := H
  refine rop_one one3 (VI s24) hc1 ?_
  refine gy hb4 ?_
  refine gy hb4 ?_
  refine pop_ieq .i64 _ _ s24 s11 ?_
  refine pop_pickt' hb4 ?_
  refine condM_b (fun hb5 => ?_) (fun hb5 => ?_)
  rotate_left
  ·have H := H.2 hb5
   refine pop_add .i64 s11 1 ?_
   obtain ⟨m_2, hm_2, H⟩ := H
   exact hn1 _ _ ⟨m_2, hm_2, out5_1, (w64 (s11 + 1)), rfl, H, hL4⟩
  have H := H.1 hb5
  refine H.mono fun r2 h5 H => ?_
  obtain ⟨s30, rfl, hL5, H⟩ := H
  refine H.mono fun r3 h6 H => ?_
  obtain ⟨s31, rfl, hL6, H⟩ := H
  refine pop_add .i64 s11 1 ?_
  obtain ⟨m_1, hm_1, H⟩ := H
  exact hn1 _ _ ⟨m_1, hm_1, s31, (w64 (s11 + 1)), rfl, H, hL6⟩
def u54 (P : Program) (g0_1 : Sl) (places1_1 : Sl) (h : Heap) (K : Value -> Heap -> Prop) : Prop :=
 ∀ (b1 : Nat) (h1 : Heap), h.size ≤ b1 -> Fr (In []) h h1 -> Vars h1 [(b1, [g0_1.v])] ->
 callM P 94 #[(.agg #[g0_1.v])] h1 fun r1 h2 => ∃ s6 : Bool, r1 = (VB s6) /\ Vars h2 [(b1, [g0_1.v])] /\
 (s6 = true ->
 callM P 75 #[places1_1.v, (Value.func (Fn.func 112) #[] #[(VP b1 0)])] h2 fun r2 h3 => ∃ y1 : Sl, ∃ s10 : Bool, r2 = (VB s10) /\ Vars h3 [(b1, [y1.v])] /\
 K (VB (!s10)) h3) /\
 (s6 = false ->
 K (VB false) h2)
theorem v54 (g0_1 : Sl) (places1_1 : Sl) (h : Heap) (K : Value -> Heap -> Prop) (H : u54 Tryz.prog g0_1 places1_1 h K) : callM Tryz.prog 54 #[(Value.agg #[g0_1.v]), places1_1.v] h K := by
  refine c54 (Value.agg #[g0_1.v]) places1_1.v h K ?_
  unfold u54 at H
  unfold t54
  have hL : Vars h [] := .nil
  refine eop_box 26 (Value.agg #[g0_1.v]) rfl hL (fun b1 h1 hb1 hf1 hL1 => ?_)
  refine ra agg26 hL1 0 0 [g0_1.v] ?_
  have H := H b1 h1 hb1 (Fr.no' (Fr.r (In []) _) hf1) hL1
  refine H.mono fun r1 h2 H => ?_
  obtain ⟨s6, rfl, hL2, H⟩ := H
  refine guardM_st (fun hb2 => ?_) (fun hb2 => ?_)
  rotate_left
  ·have H := H.2 hb2
   refine gm hb2 ?_
   refine gm hb2 ?_
   refine gm hb2 ?_
   refine pop_pickf' hb2 ?_
   exact H
  have H := H.1 hb2
  refine gy hb2 ?_
  refine pop_func _ _ _ ?_
  refine gy hb2 ?_
  refine H.mono fun r2 h3 H => ?_
  obtain ⟨y1, s10, rfl, hL3, H⟩ := H
  refine gy hb2 ?_
  refine pop_not s10 ?_
  refine pop_pickt' hb2 ?_
  exact H
def u55 (P : Program) (g0_1 : Sl) (p1_1 : Int) (h : Heap) (K : Value -> Heap -> Prop) : Prop :=
 ∀ (b1 : Nat) (h1 : Heap), h.size ≤ b1 -> Fr (In []) h h1 -> Vars h1 [(b1, [g0_1.v])] ->
 callM P 82 #[(.agg #[g0_1.v])] h1 fun r1 h2 => ∃ s6 : Bool, r1 = (VB s6) /\ Vars h2 [(b1, [g0_1.v])] /\
 (s6 = true ->
 callM P 74 #[(VI p1_1), (VI 0), (VI (w64 ((g0_1.n : Int) - 1)))] h2 fun r2 h3 => ∃ s13 : Bool, r2 = (VB s13) /\ Vars h3 [(b1, [g0_1.v])] /\
 K (VB s13) h3) /\
 (s6 = false ->
 K (VB false) h2)
theorem v55 (g0_1 : Sl) (p1_1 : Int) (h : Heap) (K : Value -> Heap -> Prop) (H : u55 Tryz.prog g0_1 p1_1 h K) : callM Tryz.prog 55 #[(Value.agg #[g0_1.v]), (VI p1_1)] h K := by
  refine c55 (Value.agg #[g0_1.v]) (VI p1_1) h K ?_
  unfold u55 at H
  unfold t55
  have hL : Vars h [] := .nil
  refine eop_box 26 (Value.agg #[g0_1.v]) rfl hL (fun b1 h1 hb1 hf1 hL1 => ?_)
  refine ra agg26 hL1 0 0 [g0_1.v] ?_
  have H := H b1 h1 hb1 (Fr.no' (Fr.r (In []) _) hf1) hL1
  refine H.mono fun r1 h2 H => ?_
  obtain ⟨s6, rfl, hL2, H⟩ := H
  refine guardM_st (fun hb2 => ?_) (fun hb2 => ?_)
  rotate_left
  ·have H := H.2 hb2
   refine gm hb2 ?_
   refine gm hb2 ?_
   refine gm hb2 ?_
   refine gm hb2 ?_
   refine gm hb2 ?_
   refine pop_pickf' hb2 ?_
   exact H
  have H := H.1 hb2
  refine gy hb2 ?_
  refine pop_field 0 fld26_0 b1 0 ?_
  refine gy hb2 ?_
  refine rl one24 hL2 0 0 g0_1.v ?_
  refine gy hb2 ?_
  refine pop_len g0_1 _ _ sli24 ?_
  refine gy hb2 ?_
  refine pop_sub .i64 (g0_1.n : Int) 1 ?_
  refine gy hb2 ?_
  refine H.mono fun r2 h3 H => ?_
  obtain ⟨s13, rfl, hL3, H⟩ := H
  refine pop_pickt' hb2 ?_
  exact H
def u56 (P : Program) (s0_1 : Sl) (sink1_1 : Int) (h : Heap) (K : Value -> Heap -> Prop) : Prop :=
 ∀ (b1 : Nat) (h1 : Heap), h.size ≤ b1 -> Fr (In []) h h1 -> Vars h1 [(b1, [s0_1.v])] ->
 eop P (Instr.buildSlice 33 0 #[]) h1 fun r1 h2 => ∃ s9 : Sl, r1 = s9.v /\ Vars h2 [(b1, [s0_1.v])] /\
 ∃ J1 : Nat -> Sl -> Int -> Heap -> Prop, (∃ n0 : Nat, J1 n0 s9 0 h2) /\
 ∀ (n1 : Nat) (out6_1 : Sl) (s13 : Int) (h3 : Heap), J1 n1 out6_1 s13 h3 -> Vars h3 [(b1, [s0_1.v])] ->
 ((decide (s13 < (s0_1.n : Int))) = true ->
 InB s0_1 s13 /\
 ∃ s17 : Sl, hcell h3 (Sl.at s0_1 s13 1) = some s17.v /\
 ((decide (s13 = sink1_1)) = true ->
 eop P (Instr.buildSlice 33 1 #[(0, (.int .i64 0))]) h3 fun r2 h4 => ∃ s29 : Sl, r2 = s29.v /\ Vars h4 [(b1, [s0_1.v])] /\
 eop P (appS 33 33 33 out6_1.v s29.v) h4 fun r3 h5 => ∃ s30 : Sl, r3 = s30.v /\ Vars h5 [(b1, [s0_1.v])] /\
 ∃ m : Nat, m < n1 /\ J1 m s30 (w64 (s13 + 1)) h5) /\
 ((decide (s13 = sink1_1)) = false ->
 ((decide ((s17.n : Int) = 0)) = true ->
 K (.tuple #[nilSl.v, (VB false)]) h3) /\
 ((decide ((s17.n : Int) = 0)) = false ->
 InB s17 0 /\
 ∃ s21 : Int, hcell h3 (Sl.at s17 0 1) = some (VI s21) /\
 eop P (Instr.buildSlice 33 1 #[(0, (VI s21))]) h3 fun r4 h6 => ∃ s22 : Sl, r4 = s22.v /\ Vars h6 [(b1, [s0_1.v])] /\
 eop P (appS 33 33 33 out6_1.v s22.v) h6 fun r5 h7 => ∃ s23 : Sl, r5 = s23.v /\ Vars h7 [(b1, [s0_1.v])] /\
 ∃ m : Nat, m < n1 /\ J1 m s23 (w64 (s13 + 1)) h7))) /\
 ((decide (s13 < (s0_1.n : Int))) = false ->
 K (.tuple #[out6_1.v, (VB true)]) h3)
theorem v56 (s0_1 : Sl) (sink1_1 : Int) (h : Heap) (K : Value -> Heap -> Prop) (H : u56 Tryz.prog s0_1 sink1_1 h K) : callM Tryz.prog 56 #[(Value.agg #[s0_1.v]), (VI sink1_1)] h K := by
  refine c56 (Value.agg #[s0_1.v]) (VI sink1_1) h K ?_
  unfold u56 at H
  unfold t56
  have hL : Vars h [] := .nil
  refine eop_box 28 (Value.agg #[s0_1.v]) rfl hL (fun b1 h1 hb1 hf1 hL1 => ?_)
  have H := H b1 h1 hb1 (Fr.no' (Fr.r (In []) _) hf1) hL1
  refine H.mono fun r1 h2 H => ?_
  obtain ⟨s9, rfl, hL2, H⟩ := H
  refine pop_field 0 fld28_0 b1 0 ?_
  refine rl one24 hL2 0 0 s0_1.v ?_
  refine pop_len s0_1 _ _ sli24 ?_
  obtain ⟨J1, ⟨n2, h0_1⟩, HB1⟩ := H
  refine loop_intro (J := fun (n : Nat) (vs : List Value) (h' : Heap) => ∃ out6_1 : Sl, ∃ s13 : Int, vs = [out6_1.v, (VI s13)] /\ J1 n out6_1 s13 h' /\ Vars h' [(b1, [s0_1.v])]) n2 ⟨s9, 0, rfl, h0_1, hL2⟩ ?_
  intro I1 mu1 hI1 junk1 tv1 tv2 h3 hi1
  obtain ⟨n1, ⟨out6_1, s13, hv, hJ1, hL3⟩, hn1⟩ := hI1 _ _ hi1
  cases hv
  have H := HB1 n1 out6_1 s13 h3 hJ1 hL3
  refine pop_lss .i64 s13 (s0_1.n : Int) ?_
  refine condM_b (fun hb2 => ?_) (fun hb2 => ?_)
  rotate_left
  ·exact H.2 hb2
  have H := H.1 hb2
  obtain ⟨hi2, H⟩ := H
  refine pop_index sli24 siz33 .i64 s0_1 s13 hi2 ?_
  obtain ⟨s17, hc2, H⟩ := H
  refine rop_one one33 s17.v hc2 ?_
  refine pop_ieq .i64 _ _ s13 sink1_1 ?_
  refine condM_b (fun hb3 => ?_) (fun hb3 => ?_)
  ·have H := H.1 hb3
   refine H.mono fun r2 h4 H => ?_
   obtain ⟨s29, rfl, hL4, H⟩ := H
   refine H.mono fun r3 h5 H => ?_
   obtain ⟨s30, rfl, hL5, H⟩ := H
   refine pop_add .i64 s13 1 ?_
   obtain ⟨m_1, hm_1, H⟩ := H
   exact hn1 _ _ ⟨m_1, hm_1, s30, (w64 (s13 + 1)), rfl, H, hL5⟩
  have H := H.2 hb3
  refine pop_len s17 _ _ sli33 ?_
  refine pop_ieq .i64 _ _ (s17.n : Int) 0 ?_
  refine condM_b (fun hb4 => ?_) (fun hb4 => ?_)
  ·exact H.1 hb4
  have H := H.2 hb4
  obtain ⟨hi3, H⟩ := H
  refine pop_index sli33 siz3 .i64 s17 0 hi3 ?_
  obtain ⟨s21, hc1, H⟩ := H
  refine rop_one one3 (VI s21) hc1 ?_
  refine H.mono fun r4 h6 H => ?_
  obtain ⟨s22, rfl, hL6, H⟩ := H
  refine H.mono fun r5 h7 H => ?_
  obtain ⟨s23, rfl, hL7, H⟩ := H
  refine pop_add .i64 s13 1 ?_
  obtain ⟨m_2, hm_2, H⟩ := H
  exact hn1 _ _ ⟨m_2, hm_2, s23, (w64 (s13 + 1)), rfl, H, hL7⟩
def u57 (P : Program) (g0_1 : Sl) (sink1_1 : Int) (s2_1 : Sl) (h : Heap) (K : Value -> Heap -> Prop) : Prop :=
 ∀ (b1 : Nat) (b2 : Nat) (h2 : Heap), h.size ≤ b1 -> h.size ≤ b2 -> Fr (In []) h h2 -> Vars h2 [(b2, [s2_1.v]), (b1, [g0_1.v])] ->
 eop P (Instr.makeSlice 33 (VI (g0_1.n : Int)) (VI (g0_1.n : Int))) h2 fun r1 h3 => ∃ s14 : Sl, r1 = s14.v /\ Vars h3 [(b2, [s2_1.v]), (b1, [g0_1.v])] /\
 ∃ J1 : Nat -> Int -> Heap -> Prop, (∃ n0 : Nat, J1 n0 0 h3) /\
 ∀ (n1 : Nat) (s18 : Int) (h4 : Heap), J1 n1 s18 h4 -> Vars h4 [(b2, [s2_1.v]), (b1, [g0_1.v])] ->
 ((decide (s18 < (s2_1.n : Int))) = true ->
 InB s2_1 s18 /\
 ∃ s22 : Sl, hcell h4 (Sl.at s2_1 s18 1) = some s22.v /\
 ((decide (s18 = sink1_1)) = true ->
 ∃ m : Nat, m < n1 /\ J1 m (w64 (s18 + 1)) h4) /\
 ((decide (s18 = sink1_1)) = false ->
 ((decide ((s22.n : Int) = 0)) = true ->
 K (.tuple #[nilSl.v, (VB false)]) h4) /\
 ((decide ((s22.n : Int) = 0)) = false ->
 InB s22 0 /\
 ∃ s33 : Int, hcell h4 (Sl.at s22 0 1) = some (VI s33) /\
 InB s14 s18 /\
 Writable h4 (Sl.at s14 s18 1) /\ Vars (hset h4 (Sl.at s14 s18 1) (VI s33)) [(b2, [s2_1.v]), (b1, [g0_1.v])] /\
 ∀ h5 : Heap, h5 = hset h4 (Sl.at s14 s18 1) (VI s33) -> Vars h5 [(b2, [s2_1.v]), (b1, [g0_1.v])] ->
 ∃ m : Nat, m < n1 /\ J1 m (w64 (s18 + 1)) h5))) /\
 ((decide (s18 < (s2_1.n : Int))) = false ->
 K (.tuple #[s14.v, (VB true)]) h4)
theorem v57 (g0_1 : Sl) (sink1_1 : Int) (s2_1 : Sl) (h : Heap) (K : Value -> Heap -> Prop) (H : u57 Tryz.prog g0_1 sink1_1 s2_1 h K) : callM Tryz.prog 57 #[(Value.agg #[g0_1.v]), (VI sink1_1), (Value.agg #[s2_1.v])] h K := by
  refine c57 (Value.agg #[g0_1.v]) (VI sink1_1) (Value.agg #[s2_1.v]) h K ?_
  unfold u57 at H
  unfold t57
  have hL : Vars h [] := .nil
  refine eop_box 26 (Value.agg #[g0_1.v]) rfl hL (fun b1 h1 hb1 hf1 hL1 => ?_)
  refine eop_box 28 (Value.agg #[s2_1.v]) rfl hL1 (fun b2 h2 hb2 hf2 hL2 => ?_)
  refine pop_field 0 fld26_0 b1 0 ?_
  refine rl one24 hL2 1 0 g0_1.v ?_
  refine pop_len g0_1 _ _ sli24 ?_
  have H := H b1 b2 h2 hb1 (Nat.le_trans (Fr.size (Fr.no' (Fr.r (In []) _) hf1)) hb2) (Fr.no' (Fr.no' (Fr.r (In []) _) hf1) hf2) hL2
  refine H.mono fun r1 h3 H => ?_
  obtain ⟨s14, rfl, hL3, H⟩ := H
  refine pop_field 0 fld28_0 b2 0 ?_
  refine rl one24 hL3 0 0 s2_1.v ?_
  refine pop_len s2_1 _ _ sli24 ?_
  obtain ⟨J1, ⟨n2, h0_1⟩, HB1⟩ := H
  refine loop_intro (J := fun (n : Nat) (vs : List Value) (h' : Heap) => ∃ s18 : Int, vs = [(VI s18)] /\ J1 n s18 h' /\ Vars h' [(b2, [s2_1.v]), (b1, [g0_1.v])]) n2 ⟨0, rfl, h0_1, hL3⟩ ?_
  intro I1 mu1 hI1 junk1 tv1 h4 hi1
  obtain ⟨n1, ⟨s18, hv, hJ1, hL4⟩, hn1⟩ := hI1 _ _ hi1
  cases hv
  have H := HB1 n1 s18 h4 hJ1 hL4
  refine pop_lss .i64 s18 (s2_1.n : Int) ?_
  refine condM_b (fun hb3 => ?_) (fun hb3 => ?_)
  rotate_left
  ·exact H.2 hb3
  have H := H.1 hb3
  obtain ⟨hi2, H⟩ := H
  refine pop_index sli24 siz33 .i64 s2_1 s18 hi2 ?_
  obtain ⟨s22, hc2, H⟩ := H
  refine rop_one one33 s22.v hc2 ?_
  refine pop_ieq .i64 _ _ s18 sink1_1 ?_
  refine condM_b (fun hb4 => ?_) (fun hb4 => ?_)
  ·have H := H.1 hb4
   refine pop_add .i64 s18 1 ?_
   obtain ⟨m_1, hm_1, H⟩ := H
   exact hn1 _ _ ⟨m_1, hm_1, (w64 (s18 + 1)), rfl, H, hL4⟩
  have H := H.2 hb4
  refine pop_len s22 _ _ sli33 ?_
  refine pop_ieq .i64 _ _ (s22.n : Int) 0 ?_
  refine condM_b (fun hb5 => ?_) (fun hb5 => ?_)
  ·exact H.1 hb5
  have H := H.2 hb5
  obtain ⟨hi3, H⟩ := H
  refine pop_index sli33 siz3 .i64 s22 0 hi3 ?_
  obtain ⟨s33, hc1, H⟩ := H
  refine rop_one one3 (VI s33) hc1 ?_
  obtain ⟨hi4, H⟩ := H
  refine pop_index sli33 siz3 .i64 s14 s18 hi4 ?_
  obtain ⟨hw_1, hL5, H⟩ := H
  refine uop_cell (v := (VI s33)) siz3 hw_1 rfl (fun h5 he_1 => ?_)
  rw [← he_1] at hL5
  have H := H h5 he_1 hL5
  refine pop_add .i64 s18 1 ?_
  obtain ⟨m_2, hm_2, H⟩ := H
  exact hn1 _ _ ⟨m_2, hm_2, (w64 (s18 + 1)), rfl, H, hL5⟩
def u58 (P : Program) (g0_1 : Sl) (sink1_1 : Int) (rotors2_1 : Sl) (h : Heap) (K : Value -> Heap -> Prop) : Prop :=
 ∀ (b1 : Nat) (h1 : Heap), h.size ≤ b1 -> Fr (In []) h h1 -> Vars h1 [(b1, [g0_1.v])] ->
 eop P (Instr.buildSlice 33 1 #[(0, (VI sink1_1))]) h1 fun r1 h2 => ∃ s9 : Sl, r1 = s9.v /\ Vars h2 [(b1, [g0_1.v])] /\
 callM P 54 #[(.agg #[g0_1.v]), s9.v] h2 fun r2 h3 => ∃ s10 : Bool, r2 = (VB s10) /\ Vars h3 [(b1, [g0_1.v])] /\
 (s10 = true ->
 callM P 71 #[(.agg #[g0_1.v]), rotors2_1.v] h3 fun r3 h4 => ∃ s14 : Bool, r3 = (VB s14) /\ Vars h4 [(b1, [g0_1.v])] /\
 (s14 = true ->
 InB rotors2_1 sink1_1 /\
 ∃ s20 : Int, hcell h4 (Sl.at rotors2_1 sink1_1 1) = some (VI s20) /\
 K (VB (decide (s20 = 0))) h4) /\
 (s14 = false ->
 K (VB false) h4)) /\
 (s10 = false ->
 K (VB false) h3)
theorem v58 (g0_1 : Sl) (sink1_1 : Int) (rotors2_1 : Sl) (h : Heap) (K : Value -> Heap -> Prop) (H : u58 Tryz.prog g0_1 sink1_1 rotors2_1 h K) : callM Tryz.prog 58 #[(Value.agg #[g0_1.v]), (VI sink1_1), rotors2_1.v] h K := by
  refine c58 (Value.agg #[g0_1.v]) (VI sink1_1) rotors2_1.v h K ?_
  unfold u58 at H
  unfold t58
  have hL : Vars h [] := .nil
  refine eop_box 26 (Value.agg #[g0_1.v]) rfl hL (fun b1 h1 hb1 hf1 hL1 => ?_)
  refine ra agg26 hL1 0 0 [g0_1.v] ?_
  have H := H b1 h1 hb1 (Fr.no' (Fr.r (In []) _) hf1) hL1
  refine H.mono fun r1 h2 H => ?_
  obtain ⟨s9, rfl, hL2, H⟩ := H
  refine H.mono fun r2 h3 H => ?_
  obtain ⟨s10, rfl, hL3, H⟩ := H
  refine guardM_st (fun hb2 => ?_) (fun hb2 => ?_)
  rotate_left
  ·have H := H.2 hb2
   refine gm hb2 ?_
   refine gm hb2 ?_
   refine pop_pickf' hb2 ?_
   refine gn ?_
   refine gn ?_
   refine gn ?_
   refine gn ?_
   refine gn ?_
   refine pop_pickf _ _ ?_
   exact H
  have H := H.1 hb2
  refine ra agg26 hL3 0 0 [g0_1.v] ?_
  refine gy hb2 ?_
  refine gy hb2 ?_
  refine H.mono fun r3 h4 H => ?_
  obtain ⟨s14, rfl, hL4, H⟩ := H
  refine pop_pickt' hb2 ?_
  refine guardM_st (fun hb3 => ?_) (fun hb3 => ?_)
  rotate_left
  ·have H := H.2 hb3
   refine gm hb3 ?_
   refine gm hb3 ?_
   refine gm hb3 ?_
   refine gm hb3 ?_
   refine pop_pickf' hb3 ?_
   exact H
  have H := H.1 hb3
  refine gy hb3 ?_
  refine gy hb3 ?_
  obtain ⟨hi1, H⟩ := H
  refine pop_index sli33 siz3 .i64 rotors2_1 sink1_1 hi1 ?_
  refine gy hb3 ?_
  obtain ⟨s20, hc1, H⟩ := H
  refine rop_one one3 (VI s20) hc1 ?_
  refine gy hb3 ?_
  refine pop_ieq .i64 _ _ s20 0 ?_
  refine pop_pickt' hb3 ?_
  exact H
def u59 (P : Program) (g0_1 : Sl) (sink1_1 : Int) (rotors2_1 : Sl) (h : Heap) (K : Value -> Heap -> Prop) : Prop :=
 ∀ (b1 : Nat) (h1 : Heap), h.size ≤ b1 -> Fr (In []) h h1 -> Vars h1 [(b1, [g0_1.v])] ->
 callM P 113 #[(.agg #[g0_1.v]), (VI sink1_1), rotors2_1.v] h1 fun r1 h2 => ∃ s13 : Sl, ∃ s13b : Bool, r1 = (.tuple #[s13.v, (VB s13b)]) /\ Vars h2 [(b1, [g0_1.v])] /\
 K (VB s13b) h2
theorem v59 (g0_1 : Sl) (sink1_1 : Int) (rotors2_1 : Sl) (h : Heap) (K : Value -> Heap -> Prop) (H : u59 Tryz.prog g0_1 sink1_1 rotors2_1 h K) : callM Tryz.prog 59 #[(Value.agg #[g0_1.v]), (VI sink1_1), rotors2_1.v] h K := by
  refine c59 (Value.agg #[g0_1.v]) (VI sink1_1) rotors2_1.v h K ?_
  unfold u59 at H
  unfold t59
  have hL : Vars h [] := .nil
  refine eop_box 26 (Value.agg #[g0_1.v]) rfl hL (fun b1 h1 hb1 hf1 hL1 => ?_)
  refine ra agg26 hL1 0 0 [g0_1.v] ?_
  have H := H b1 h1 hb1 (Fr.no' (Fr.r (In []) _) hf1) hL1
  refine H.mono fun r1 h2 H => ?_
  obtain ⟨s13, s13b, rfl, hL2, H⟩ := H
  refine pop_ext (v := s13.v) rfl ?_
  refine pop_ext (v := (VB s13b)) rfl ?_
  exact H
def u60 (P : Program) (b1 : Nat) (c0_1 : Sl) (c0_2 : Int) (c0_3 : Int) (h : Heap) (K : Value -> Heap -> Prop) : Prop :=
 ∀ (b2 : Nat) (b3 : Nat) (h2 : Heap), h.size ≤ b2 -> h.size ≤ b3 -> Fr (In []) h h2 -> Vars h2 [(b3, [nilSl.v]), (b2, [nilSl.v]), (b1, [c0_1.v, (VI c0_2), (Value.int .u64 c0_3)])] ->
 callM P 114 #[(VP b1 0)] h2 fun r1 h3 => ∃ y1 : Sl, ∃ y2 : Int, ∃ y3 : Int, ∃ s16 : Sl, ∃ s16b : Int, r1 = (.tuple #[(.agg #[s16.v]), (VI s16b)]) /\ Vars h3 [(b3, [nilSl.v]), (b2, [nilSl.v]), (b1, [y1.v, (VI y2), (Value.int .u64 y3)])] /\
 ∀ (b4 : Nat) (b5 : Nat) (h7 : Heap), h3.size ≤ b4 -> h3.size ≤ b5 -> Fr (In []) h3 h7 -> Vars h7 [(b5, [nilSl.v]), (b4, [s16.v]), (b3, [nilSl.v]), (b2, [nilSl.v]), (b1, [y1.v, (VI y2), (Value.int .u64 y3)])] ->
 callM P 55 #[(.agg #[s16.v]), (VI s16b)] h7 fun r2 h8 => ∃ s22 : Bool, r2 = (VB s22) /\ Vars h8 [(b5, [nilSl.v]), (b4, [s16.v]), (b3, [nilSl.v]), (b2, [nilSl.v]), (b1, [y1.v, (VI y2), (Value.int .u64 y3)])] /\
 ((!s22) = true ->
 ∀ (h9 : Heap), Fr (In [b2]) h8 h9 -> Vars h9 [(b5, [nilSl.v]), (b4, [s16.v]), (b3, [nilSl.v]), (b2, [s16.v]), (b1, [y1.v, (VI y2), (Value.int .u64 y3)])] ->
 ∀ (h10 : Heap), Fr (In [b3]) h9 h10 -> Vars h10 [(b5, [nilSl.v]), (b4, [s16.v]), (b3, [nilSl.v]), (b2, [s16.v]), (b1, [y1.v, (VI y2), (Value.int .u64 y3)])] ->
 K (.tuple #[(.agg #[s16.v]), (VI s16b), (.agg #[nilSl.v])]) h10) /\
 ((!s22) = false ->
 ∃ J1 : Nat -> Int -> Sl -> Sl -> Int -> Int -> Heap -> Prop, (∃ n0 : Nat, J1 n0 0 nilSl y1 y2 y3 h8) /\
 ∀ (n1 : Nat) (s30 : Int) (y4 : Sl) (y5 : Sl) (y6 : Int) (y7 : Int) (h11 : Heap), J1 n1 s30 y4 y5 y6 y7 h11 -> Vars h11 [(b5, [y4.v]), (b4, [s16.v]), (b3, [nilSl.v]), (b2, [nilSl.v]), (b1, [y5.v, (VI y6), (Value.int .u64 y7)])] ->
 ((decide (s30 < (s16.n : Int))) = true ->
 InB s16 s30 /\
 ∃ s34 : Sl, hcell h11 (Sl.at s16 s30 1) = some s34.v /\
 callM P 70 #[(VP b1 0), (VI 9)] h11 fun r3 h12 => ∃ y8 : Sl, ∃ y9 : Int, ∃ y10 : Int, ∃ s36 : Int, r3 = (VI s36) /\ Vars h12 [(b5, [y4.v]), (b4, [s16.v]), (b3, [nilSl.v]), (b2, [nilSl.v]), (b1, [y8.v, (VI y9), (Value.int .u64 y10)])] /\
 ∃ J2 : Nat -> Sl -> Int -> Sl -> Int -> Int -> Heap -> Prop, (∃ n0 : Nat, J2 n0 nilSl (w64 (3 + s36)) y8 y9 y10 h12) /\
 ∀ (n2 : Nat) (list10_1 : Sl) (k11_1 : Int) (y11 : Sl) (y12 : Int) (y13 : Int) (h13 : Heap), J2 n2 list10_1 k11_1 y11 y12 y13 h13 -> Vars h13 [(b5, [y4.v]), (b4, [s16.v]), (b3, [nilSl.v]), (b2, [nilSl.v]), (b1, [y11.v, (VI y12), (Value.int .u64 y13)])] ->
 ((decide (0 < k11_1)) = true ->
 ((!decide (s30 = s16b)) = true ->
 ((decide (0 < (s34.n : Int))) = true ->
 callM P 70 #[(VP b1 0), (VI (s34.n : Int))] h13 fun r4 h14 => ∃ y14 : Sl, ∃ y15 : Int, ∃ y16 : Int, ∃ s56 : Int, r4 = (VI s56) /\ Vars h14 [(b5, [y4.v]), (b4, [s16.v]), (b3, [nilSl.v]), (b2, [nilSl.v]), (b1, [y14.v, (VI y15), (Value.int .u64 y16)])] /\
 eop P (Instr.buildSlice 33 1 #[(0, (VI s56))]) h14 fun r5 h15 => ∃ s57 : Sl, r5 = s57.v /\ Vars h15 [(b5, [y4.v]), (b4, [s16.v]), (b3, [nilSl.v]), (b2, [nilSl.v]), (b1, [y14.v, (VI y15), (Value.int .u64 y16)])] /\
 eop P (appS 33 33 33 list10_1.v s57.v) h15 fun r6 h16 => ∃ s58 : Sl, r6 = s58.v /\ Vars h16 [(b5, [y4.v]), (b4, [s16.v]), (b3, [nilSl.v]), (b2, [nilSl.v]), (b1, [y14.v, (VI y15), (Value.int .u64 y16)])] /\
 ∃ m : Nat, m < n2 /\ J2 m s58 (w64 (k11_1 - 1)) y14 y15 y16 h16) /\
 ((decide (0 < (s34.n : Int))) = false ->
 eop P (Instr.buildSlice 24 1 #[(0, list10_1.v)]) h13 fun r7 h17 => ∃ s62 : Sl, r7 = s62.v /\ Vars h17 [(b5, [y4.v]), (b4, [s16.v]), (b3, [nilSl.v]), (b2, [nilSl.v]), (b1, [y11.v, (VI y12), (Value.int .u64 y13)])] /\
 eop P (appS 24 24 24 y4.v s62.v) h17 fun r8 h18 => ∃ s63 : Sl, r8 = s63.v /\ Vars h18 [(b5, [y4.v]), (b4, [s16.v]), (b3, [nilSl.v]), (b2, [nilSl.v]), (b1, [y11.v, (VI y12), (Value.int .u64 y13)])] /\
 ∀ (h19 : Heap), Fr (In [b5]) h18 h19 -> Vars h19 [(b5, [s63.v]), (b4, [s16.v]), (b3, [nilSl.v]), (b2, [nilSl.v]), (b1, [y11.v, (VI y12), (Value.int .u64 y13)])] ->
 ∃ m : Nat, m < n1 /\ J1 m (w64 (s30 + 1)) s63 y11 y12 y13 h19)) /\
 ((!decide (s30 = s16b)) = false ->
 eop P (Instr.buildSlice 24 1 #[(0, list10_1.v)]) h13 fun r9 h20 => ∃ s62b : Sl, r9 = s62b.v /\ Vars h20 [(b5, [y4.v]), (b4, [s16.v]), (b3, [nilSl.v]), (b2, [nilSl.v]), (b1, [y11.v, (VI y12), (Value.int .u64 y13)])] /\
 eop P (appS 24 24 24 y4.v s62b.v) h20 fun r10 h21 => ∃ s63b : Sl, r10 = s63b.v /\ Vars h21 [(b5, [y4.v]), (b4, [s16.v]), (b3, [nilSl.v]), (b2, [nilSl.v]), (b1, [y11.v, (VI y12), (Value.int .u64 y13)])] /\
 ∀ (h22 : Heap), Fr (In [b5]) h21 h22 -> Vars h22 [(b5, [s63b.v]), (b4, [s16.v]), (b3, [nilSl.v]), (b2, [nilSl.v]), (b1, [y11.v, (VI y12), (Value.int .u64 y13)])] ->
 ∃ m : Nat, m < n1 /\ J1 m (w64 (s30 + 1)) s63b y11 y12 y13 h22)) /\
 ((decide (0 < k11_1)) = false ->
 eop P (Instr.buildSlice 24 1 #[(0, list10_1.v)]) h13 fun r11 h23 => ∃ s62c : Sl, r11 = s62c.v /\ Vars h23 [(b5, [y4.v]), (b4, [s16.v]), (b3, [nilSl.v]), (b2, [nilSl.v]), (b1, [y11.v, (VI y12), (Value.int .u64 y13)])] /\
 eop P (appS 24 24 24 y4.v s62c.v) h23 fun r12 h24 => ∃ s63c : Sl, r12 = s63c.v /\ Vars h24 [(b5, [y4.v]), (b4, [s16.v]), (b3, [nilSl.v]), (b2, [nilSl.v]), (b1, [y11.v, (VI y12), (Value.int .u64 y13)])] /\
 ∀ (h25 : Heap), Fr (In [b5]) h24 h25 -> Vars h25 [(b5, [s63c.v]), (b4, [s16.v]), (b3, [nilSl.v]), (b2, [nilSl.v]), (b1, [y11.v, (VI y12), (Value.int .u64 y13)])] ->
 ∃ m : Nat, m < n1 /\ J1 m (w64 (s30 + 1)) s63c y11 y12 y13 h25)) /\
 ((decide (s30 < (s16.n : Int))) = false ->
 ∃ J3 : Sl -> Sl -> Int -> Int -> Heap -> Prop, (callM P 70 #[(VP b1 0), (VI 16)] h11 fun r13 h26 => ∃ y21 : Sl, ∃ y22 : Int, ∃ y23 : Int, ∃ s67 : Int, r13 = (VI s67) /\ Vars h26 [(b5, [y4.v]), (b4, [s16.v]), (b3, [nilSl.v]), (b2, [nilSl.v]), (b1, [y21.v, (VI y22), (Value.int .u64 y23)])] /\
 ((decide (s67 = 0)) = true ->
 eop P (Instr.buildSlice 33 1 #[(0, (.int .i64 0))]) h26 fun r14 h27 => ∃ s73 : Sl, r14 = s73.v /\ Vars h27 [(b5, [y4.v]), (b4, [s16.v]), (b3, [nilSl.v]), (b2, [nilSl.v]), (b1, [y21.v, (VI y22), (Value.int .u64 y23)])] /\
 InB y4 s16b /\
 Writable h27 (Sl.at y4 s16b 1) /\ Vars (hset h27 (Sl.at y4 s16b 1) s73.v) [(b5, [y4.v]), (b4, [s16.v]), (b3, [nilSl.v]), (b2, [nilSl.v]), (b1, [y21.v, (VI y22), (Value.int .u64 y23)])] /\
 ∀ h28 : Heap, h28 = hset h27 (Sl.at y4 s16b 1) s73.v -> Vars h28 [(b5, [y4.v]), (b4, [s16.v]), (b3, [nilSl.v]), (b2, [nilSl.v]), (b1, [y21.v, (VI y22), (Value.int .u64 y23)])] ->
 J3 y4 y21 y22 y23 h28) /\
 ((decide (s67 = 0)) = false ->
 ((decide (s67 = 1)) = true ->
 callM P 70 #[(VP b1 0), (VI (y4.n : Int))] h26 fun r15 h29 => ∃ y24 : Sl, ∃ y25 : Int, ∃ y26 : Int, ∃ s81 : Int, r15 = (VI s81) /\ Vars h29 [(b5, [y4.v]), (b4, [s16.v]), (b3, [nilSl.v]), (b2, [nilSl.v]), (b1, [y24.v, (VI y25), (Value.int .u64 y26)])] /\
 InB y4 s81 /\
 ∃ s89 : Sl, hcell h29 (Sl.at y4 s81 1) = some s89.v /\
 eop P (Instr.buildSlice 33 3 #[(0, (.int .i64 (-1))), (1, (.int .i64 4)), (2, (.int .i64 5))]) h29 fun r16 h30 => ∃ s91 : Sl, r16 = s91.v /\ Vars h30 [(b5, [y4.v]), (b4, [s16.v]), (b3, [nilSl.v]), (b2, [nilSl.v]), (b1, [y24.v, (VI y25), (Value.int .u64 y26)])] /\
 hcell h30 (Sl.at y4 s81 1) = some s89.v /\
 callM P 69 #[(VP b1 0), s91.v] h30 fun r17 h31 => ∃ y27 : Sl, ∃ y28 : Int, ∃ y29 : Int, ∃ s92 : Int, r17 = (VI s92) /\ Vars h31 [(b5, [y4.v]), (b4, [s16.v]), (b3, [nilSl.v]), (b2, [nilSl.v]), (b1, [y27.v, (VI y28), (Value.int .u64 y29)])] /\
 hcell h31 (Sl.at y4 s81 1) = some s89.v /\
 eop P (Instr.buildSlice 33 1 #[(0, (VI s92))]) h31 fun r18 h32 => ∃ s93 : Sl, r18 = s93.v /\ Vars h32 [(b5, [y4.v]), (b4, [s16.v]), (b3, [nilSl.v]), (b2, [nilSl.v]), (b1, [y27.v, (VI y28), (Value.int .u64 y29)])] /\
 hcell h32 (Sl.at y4 s81 1) = some s89.v /\
 eop P (appS 33 33 33 s89.v s93.v) h32 fun r19 h33 => ∃ s94 : Sl, r19 = s94.v /\ Vars h33 [(b5, [y4.v]), (b4, [s16.v]), (b3, [nilSl.v]), (b2, [nilSl.v]), (b1, [y27.v, (VI y28), (Value.int .u64 y29)])] /\
 InB y4 s81 /\
 Writable h33 (Sl.at y4 s81 1) /\ Vars (hset h33 (Sl.at y4 s81 1) s94.v) [(b5, [y4.v]), (b4, [s16.v]), (b3, [nilSl.v]), (b2, [nilSl.v]), (b1, [y27.v, (VI y28), (Value.int .u64 y29)])] /\
 ∀ h34 : Heap, h34 = hset h33 (Sl.at y4 s81 1) s94.v -> Vars h34 [(b5, [y4.v]), (b4, [s16.v]), (b3, [nilSl.v]), (b2, [nilSl.v]), (b1, [y27.v, (VI y28), (Value.int .u64 y29)])] ->
 J3 y4 y27 y28 y29 h34) /\
 ((decide (s67 = 1)) = false ->
 ((decide (s67 = 2)) = true ->
 callM P 70 #[(VP b1 0), (VI (y4.n : Int))] h26 fun r20 h35 => ∃ y30 : Sl, ∃ y31 : Int, ∃ y32 : Int, ∃ s102 : Int, r20 = (VI s102) /\ Vars h35 [(b5, [y4.v]), (b4, [s16.v]), (b3, [nilSl.v]), (b2, [nilSl.v]), (b1, [y30.v, (VI y31), (Value.int .u64 y32)])] /\
 callM P 70 #[(VP b1 0), (VI 2)] h35 fun r21 h36 => ∃ y33 : Sl, ∃ y34 : Int, ∃ y35 : Int, ∃ s107 : Int, r21 = (VI s107) /\ Vars h36 [(b5, [y4.v]), (b4, [s16.v]), (b3, [nilSl.v]), (b2, [nilSl.v]), (b1, [y33.v, (VI y34), (Value.int .u64 y35)])] /\
 eop P (Instr.makeSlice 33 (VI (w64 (12 + s107))) (VI (w64 (12 + s107)))) h36 fun r22 h37 => ∃ s109 : Sl, r22 = s109.v /\ Vars h37 [(b5, [y4.v]), (b4, [s16.v]), (b3, [nilSl.v]), (b2, [nilSl.v]), (b1, [y33.v, (VI y34), (Value.int .u64 y35)])] /\
 InB y4 s102 /\
 Writable h37 (Sl.at y4 s102 1) /\ Vars (hset h37 (Sl.at y4 s102 1) s109.v) [(b5, [y4.v]), (b4, [s16.v]), (b3, [nilSl.v]), (b2, [nilSl.v]), (b1, [y33.v, (VI y34), (Value.int .u64 y35)])] /\
 ∀ h38 : Heap, h38 = hset h37 (Sl.at y4 s102 1) s109.v -> Vars h38 [(b5, [y4.v]), (b4, [s16.v]), (b3, [nilSl.v]), (b2, [nilSl.v]), (b1, [y33.v, (VI y34), (Value.int .u64 y35)])] ->
 J3 y4 y33 y34 y35 h38) /\
 ((decide (s67 = 2)) = false ->
 ((decide (s67 = 3)) = true ->
 pop P (Instr.sliceAt 24 y4.v (some (.int .i64 1)) none none) fun r23 => ∃ s115 : Sl, r23 = s115.v /\ 
 ∀ (h39 : Heap), Fr (In [b5]) h26 h39 -> Vars h39 [(b5, [s115.v]), (b4, [s16.v]), (b3, [nilSl.v]), (b2, [nilSl.v]), (b1, [y21.v, (VI y22), (Value.int .u64 y23)])] ->
 J3 s115 y21 y22 y23 h39) /\
 ((decide (s67 = 3)) = false ->
 J3 y4 y21 y22 y23 h26))))) /\
 ∀ (y17 : Sl) (y18 : Sl) (y19 : Int) (y20 : Int) (h40 : Heap), J3 y17 y18 y19 y20 h40 -> Vars h40 [(b5, [y17.v]), (b4, [s16.v]), (b3, [nilSl.v]), (b2, [nilSl.v]), (b1, [y18.v, (VI y19), (Value.int .u64 y20)])] ->
 ∀ (h41 : Heap), Fr (In [b2]) h40 h41 -> Vars h41 [(b5, [y17.v]), (b4, [s16.v]), (b3, [nilSl.v]), (b2, [s16.v]), (b1, [y18.v, (VI y19), (Value.int .u64 y20)])] ->
 ∀ (h42 : Heap), Fr (In [b3]) h41 h42 -> Vars h42 [(b5, [y17.v]), (b4, [s16.v]), (b3, [y17.v]), (b2, [s16.v]), (b1, [y18.v, (VI y19), (Value.int .u64 y20)])] ->
 K (.tuple #[(.agg #[s16.v]), (VI s16b), (.agg #[y17.v])]) h42))
theorem v60 (b1 : Nat) (c0_1 : Sl) (c0_2 : Int) (c0_3 : Int) (h : Heap) (K : Value -> Heap -> Prop) (hL : Vars h [(b1, [c0_1.v, (VI c0_2), (Value.int .u64 c0_3)])]) (H : u60 Tryz.prog b1 c0_1 c0_2 c0_3 h K) : callM Tryz.prog 60 #[(VP b1 0)] h K := by
  refine c60 (VP b1 0) h K ?_
  unfold u60 at H
  unfold t60
  refine eop_alloc 26 zer26 rfl hL (fun b2 h1 hb1 hf1 hL1 => ?_)
  refine eop_alloc 28 zer28 rfl hL1 (fun b3 h2 hb2 hf2 hL2 => ?_)
  have H := H b2 b3 h2 hb1 (Nat.le_trans (Fr.size (Fr.no' (Fr.r (In []) _) hf1)) hb2) (Fr.no' (Fr.no' (Fr.r (In []) _) hf1) hf2) hL2
  refine H.mono fun r1 h3 H => ?_
  obtain ⟨y1, y2, y3, s16, s16b, rfl, hL3, H⟩ := H
  refine pop_ext (v := (Value.agg #[s16.v])) rfl ?_
  refine pop_ext (v := (VI s16b)) rfl ?_
  refine eop_alloc 26 zer26 rfl hL3 (fun b4 h4 hb3 hf3 hL4 => ?_)
  refine ul siz26 hL4 0 0 [s16.v] [(b4, [s16.v]), (b3, [nilSl.v]), (b2, [nilSl.v]), (b1, [y1.v, (VI y2), (Value.int .u64 y3)])] (fun h5 hf4 hL5 => ?_)
  refine pop.mk' (v := (Value.agg #[nilSl.v])) (fun w => by kernel_rfl) ?_
  refine eop_alloc 28 zer28 rfl hL5 (fun b5 h6 hb4 hf5 hL6 => ?_)
  refine ul siz28 hL6 0 0 [nilSl.v] [(b5, [nilSl.v]), (b4, [s16.v]), (b3, [nilSl.v]), (b2, [nilSl.v]), (b1, [y1.v, (VI y2), (Value.int .u64 y3)])] (fun h7 hf6 hL7 => ?_)
  refine ra agg26 hL7 1 0 [s16.v] ?_
  have H := H b4 b5 h7 hb3 (Nat.le_trans (Fr.size (Fr.new (Fr.no' (Fr.r (In []) _) hf3) hb3 hf4)) hb4) (Fr.new (Fr.no' (Fr.new (Fr.no' (Fr.r (In []) _) hf3) hb3 hf4) hf5) (Nat.le_trans (Fr.size (Fr.new (Fr.no' (Fr.r (In []) _) hf3) hb3 hf4)) hb4) hf6) hL7
  refine H.mono fun r2 h8 H => ?_
  obtain ⟨s22, rfl, hL8, H⟩ := H
  refine pop_not s22 ?_
  refine condM_b (fun hb5 => ?_) (fun hb5 => ?_)
  ·have H := H.1 hb5
   refine ra agg26 hL8 1 0 [s16.v] ?_
   refine ra agg28 hL8 0 0 [nilSl.v] ?_
   refine ul siz26 hL8 3 0 [s16.v] [(b5, [nilSl.v]), (b4, [s16.v]), (b3, [nilSl.v]), (b2, [s16.v]), (b1, [y1.v, (VI y2), (Value.int .u64 y3)])] (fun h9 hf7 hL9 => ?_)
   have H := H  h9  (Fr.old (Fr.r (In []) _) hf7) hL9
   refine ⟨?_, ?_⟩
   ·exact still_locA agg28 hL9 0 rfl 0 (vs := [nilSl.v]) rfl rfl
   refine ul siz28 hL9 2 0 [nilSl.v] [(b5, [nilSl.v]), (b4, [s16.v]), (b3, [nilSl.v]), (b2, [s16.v]), (b1, [y1.v, (VI y2), (Value.int .u64 y3)])] (fun h10 hf8 hL10 => ?_)
   refine ra agg26 hL10 3 0 [s16.v] ?_
   refine ra agg28 hL10 2 0 [nilSl.v] ?_
   have H := H  h10  (Fr.old (Fr.r (In []) _) hf8) hL10
   exact H
  have H := H.2 hb5
  refine pop_field 0 fld26_0 b4 0 ?_
  refine rl one24 hL8 1 0 s16.v ?_
  refine pop_len s16 _ _ sli24 ?_
  obtain ⟨J1, ⟨n4, h0_2⟩, HB3⟩ := H
  refine loop_intro (J := fun (n : Nat) (vs : List Value) (h' : Heap) => ∃ s30 : Int, ∃ y4 : Sl, ∃ y5 : Sl, ∃ y6 : Int, ∃ y7 : Int, vs = [(VI s30)] /\ J1 n s30 y4 y5 y6 y7 h' /\ Vars h' [(b5, [y4.v]), (b4, [s16.v]), (b3, [nilSl.v]), (b2, [nilSl.v]), (b1, [y5.v, (VI y6), (Value.int .u64 y7)])]) n4 ⟨0, nilSl, y1, y2, y3, rfl, h0_2, hL8⟩ ?_
  intro I2 mu2 hI2 junk1 tv3 h11 hi1
  obtain ⟨n1, ⟨s30, y4, y5, y6, y7, hv, hJ1, hL11⟩, hn1⟩ := hI2 _ _ hi1
  cases hv
  have H := HB3 n1 s30 y4 y5 y6 y7 h11 hJ1 hL11
  refine pop_lss .i64 s30 (s16.n : Int) ?_
  refine condM_b (fun hb6 => ?_) (fun hb6 => ?_)
  ·have H := H.1 hb6
   obtain ⟨hi2, H⟩ := H
   refine pop_index sli24 siz33 .i64 s16 s30 hi2 ?_
   obtain ⟨s34, hc1, H⟩ := H
   refine rop_one one33 s34.v hc1 ?_
   refine H.mono fun r3 h12 H => ?_
   obtain ⟨y8, y9, y10, s36, rfl, hL12, H⟩ := H
   refine pop_add .i64 3 s36 ?_
   obtain ⟨J2, ⟨n3, h0_1⟩, HB1⟩ := H
   refine loop_intro (J := fun (n : Nat) (vs : List Value) (h' : Heap) => ∃ list10_1 : Sl, ∃ k11_1 : Int, ∃ y11 : Sl, ∃ y12 : Int, ∃ y13 : Int, vs = [list10_1.v, (VI k11_1)] /\ J2 n list10_1 k11_1 y11 y12 y13 h' /\ Vars h' [(b5, [y4.v]), (b4, [s16.v]), (b3, [nilSl.v]), (b2, [nilSl.v]), (b1, [y11.v, (VI y12), (Value.int .u64 y13)])]) n3 ⟨nilSl, (w64 (3 + s36)), y8, y9, y10, rfl, h0_1, hL12⟩ ?_
   intro I1 mu1 hI1 junk2 tv1 tv2 h13 hi3
   obtain ⟨n2, ⟨list10_1, k11_1, y11, y12, y13, hv, hJ2, hL13⟩, hn2⟩ := hI1 _ _ hi3
   cases hv
   have H := HB1 n2 list10_1 k11_1 y11 y12 y13 h13 hJ2 hL13
   refine pop_gtr .i64 k11_1 0 ?_
   refine guardM_st (fun hb7 => ?_) (fun hb7 => ?_)
   rotate_left
   ·have H := H.2 hb7
    refine gm hb7 ?_
    refine gm hb7 ?_
    refine pop_pickf' hb7 ?_
    refine gn ?_
    refine gn ?_
    refine gn ?_
    refine pop_pickf _ _ ?_
    refine condM_f ?_
    refine pop_field 0 fld28_0 b5 0 ?_
    refine rl one24 hL13 0 0 y4.v ?_
    refine H.mono fun r11 h23 H => ?_
    obtain ⟨s62c, rfl, hL23, H⟩ := H
    refine H.mono fun r12 h24 H => ?_
    obtain ⟨s63c, rfl, hL24, H⟩ := H
    refine pop_field 0 fld28_0 b5 0 ?_
    refine ul siz24 hL24 0 0 [s63c.v] [(b5, [s63c.v]), (b4, [s16.v]), (b3, [nilSl.v]), (b2, [nilSl.v]), (b1, [y11.v, (VI y12), (Value.int .u64 y13)])] (fun h25 hf11 hL25 => ?_)
    refine pop_add .i64 s30 1 ?_
    have H := H  h25  (Fr.old (Fr.r (In []) _) hf11) hL25
    obtain ⟨m_4, hm_4, H⟩ := H
    exact hn1 _ _ ⟨m_4, hm_4, (w64 (s30 + 1)), s63c, y11, y12, y13, rfl, H, hL25⟩
   have H := H.1 hb7
   refine gy hb7 ?_
   refine gy hb7 ?_
   refine pop_ine .i64 _ _ s30 s16b ?_
   refine pop_pickt' hb7 ?_
   refine guardM_st (fun hb8 => ?_) (fun hb8 => ?_)
   rotate_left
   ·have H := H.2 hb8
    refine gm hb8 ?_
    refine gm hb8 ?_
    refine pop_pickf' hb8 ?_
    refine condM_f ?_
    refine pop_field 0 fld28_0 b5 0 ?_
    refine rl one24 hL13 0 0 y4.v ?_
    refine H.mono fun r9 h20 H => ?_
    obtain ⟨s62b, rfl, hL20, H⟩ := H
    refine H.mono fun r10 h21 H => ?_
    obtain ⟨s63b, rfl, hL21, H⟩ := H
    refine pop_field 0 fld28_0 b5 0 ?_
    refine ul siz24 hL21 0 0 [s63b.v] [(b5, [s63b.v]), (b4, [s16.v]), (b3, [nilSl.v]), (b2, [nilSl.v]), (b1, [y11.v, (VI y12), (Value.int .u64 y13)])] (fun h22 hf10 hL22 => ?_)
    refine pop_add .i64 s30 1 ?_
    have H := H  h22  (Fr.old (Fr.r (In []) _) hf10) hL22
    obtain ⟨m_3, hm_3, H⟩ := H
    exact hn1 _ _ ⟨m_3, hm_3, (w64 (s30 + 1)), s63b, y11, y12, y13, rfl, H, hL22⟩
   have H := H.1 hb8
   refine gy hb8 ?_
   refine pop_len s34 _ _ sli33 ?_
   refine gy hb8 ?_
   refine pop_gtr .i64 (s34.n : Int) 0 ?_
   refine pop_pickt' hb8 ?_
   refine condM_b (fun hb9 => ?_) (fun hb9 => ?_)
   ·have H := H.1 hb9
    refine pop_len s34 _ _ sli33 ?_
    refine H.mono fun r4 h14 H => ?_
    obtain ⟨y14, y15, y16, s56, rfl, hL14, H⟩ := H
    refine H.mono fun r5 h15 H => ?_
    obtain ⟨s57, rfl, hL15, H⟩ := H
    refine H.mono fun r6 h16 H => ?_
    obtain ⟨s58, rfl, hL16, H⟩ := H
    refine pop_sub .i64 k11_1 1 ?_
    obtain ⟨m_1, hm_1, H⟩ := H
    exact hn2 _ _ ⟨m_1, hm_1, s58, (w64 (k11_1 - 1)), y14, y15, y16, rfl, H, hL16⟩
   have H := H.2 hb9
   refine pop_field 0 fld28_0 b5 0 ?_
   refine rl one24 hL13 0 0 y4.v ?_
   refine H.mono fun r7 h17 H => ?_
   obtain ⟨s62, rfl, hL17, H⟩ := H
   refine H.mono fun r8 h18 H => ?_
   obtain ⟨s63, rfl, hL18, H⟩ := H
   refine pop_field 0 fld28_0 b5 0 ?_
   refine ul siz24 hL18 0 0 [s63.v] [(b5, [s63.v]), (b4, [s16.v]), (b3, [nilSl.v]), (b2, [nilSl.v]), (b1, [y11.v, (VI y12), (Value.int .u64 y13)])] (fun h19 hf9 hL19 => ?_)
   refine pop_add .i64 s30 1 ?_
   have H := H  h19  (Fr.old (Fr.r (In []) _) hf9) hL19
   obtain ⟨m_2, hm_2, H⟩ := H
   exact hn1 _ _ ⟨m_2, hm_2, (w64 (s30 + 1)), s63, y11, y12, y13, rfl, H, hL19⟩
  have H := H.2 hb6
  obtain ⟨J3, H, HB2⟩ := H
  refine ⟨fun (vs : List Value) (h' : Heap) => ∃ y17 : Sl, ∃ y18 : Sl, ∃ y19 : Int, ∃ y20 : Int, vs = [] /\ J3 y17 y18 y19 y20 h' /\ Vars h' [(b5, [y17.v]), (b4, [s16.v]), (b3, [nilSl.v]), (b2, [nilSl.v]), (b1, [y18.v, (VI y19), (Value.int .u64 y20)])], ?_, ?_⟩
  ·refine H.mono fun r13 h26 H => ?_
   obtain ⟨y21, y22, y23, s67, rfl, hL26, H⟩ := H
   refine pop_ieq .i64 _ _ s67 0 ?_
   refine condM_b (fun hb10 => ?_) (fun hb10 => ?_)
   ·have H := H.1 hb10
    refine pop_field 0 fld28_0 b5 0 ?_
    refine rl one24 hL26 0 0 y4.v ?_
    refine H.mono fun r14 h27 H => ?_
    obtain ⟨s73, rfl, hL27, H⟩ := H
    obtain ⟨hi4, H⟩ := H
    refine pop_index sli24 siz33 .i64 y4 s16b hi4 ?_
    obtain ⟨hw_1, hL28, H⟩ := H
    refine uop_cell (v := s73.v) siz33 hw_1 rfl (fun h28 he_1 => ?_)
    rw [← he_1] at hL28
    have H := H h28 he_1 hL28
    exact ⟨y4, y21, y22, y23, rfl, H, hL28⟩
   have H := H.2 hb10
   refine pop_ieq .i64 _ _ s67 1 ?_
   refine condM_b (fun hb11 => ?_) (fun hb11 => ?_)
   rotate_left
   ·have H := H.2 hb11
    refine pop_ieq .i64 _ _ s67 2 ?_
    refine condM_b (fun hb12 => ?_) (fun hb12 => ?_)
    rotate_left
    ·have H := H.2 hb12
     refine pop_ieq .i64 _ _ s67 3 ?_
     refine condM_b (fun hb13 => ?_) (fun hb13 => ?_)
     rotate_left
     ·have H := H.2 hb13
      exact ⟨y4, y21, y22, y23, rfl, H, hL26⟩
     have H := H.1 hb13
     refine pop_field 0 fld28_0 b5 0 ?_
     refine rl one24 hL26 0 0 y4.v ?_
     refine H.mono fun r23 H => ?_
     obtain ⟨s115, rfl, H⟩ := H
     refine pop_field 0 fld28_0 b5 0 ?_
     refine ul siz24 hL26 0 0 [s115.v] [(b5, [s115.v]), (b4, [s16.v]), (b3, [nilSl.v]), (b2, [nilSl.v]), (b1, [y21.v, (VI y22), (Value.int .u64 y23)])] (fun h39 hf12 hL39 => ?_)
     have H := H  h39  (Fr.old (Fr.r (In []) _) hf12) hL39
     exact ⟨s115, y21, y22, y23, rfl, H, hL39⟩
    have H := H.1 hb12
    refine pop_field 0 fld28_0 b5 0 ?_
    refine rl one24 hL26 0 0 y4.v ?_
    refine pop_len y4 _ _ sli24 ?_
    refine H.mono fun r20 h35 H => ?_
    obtain ⟨y30, y31, y32, s102, rfl, hL35, H⟩ := H
    refine pop_field 0 fld28_0 b5 0 ?_
    refine rl one24 hL35 0 0 y4.v ?_
    refine H.mono fun r21 h36 H => ?_
    obtain ⟨y33, y34, y35, s107, rfl, hL36, H⟩ := H
    refine ⟨?_, ?_⟩
    ·exact still_loc one24 hL36 0 rfl 0 (v := y4.v) rfl
    refine pop_add .i64 12 s107 ?_
    refine H.mono fun r22 h37 H => ?_
    obtain ⟨s109, rfl, hL37, H⟩ := H
    refine ⟨?_, ?_⟩
    ·exact still_loc one24 hL37 0 rfl 0 (v := y4.v) rfl
    obtain ⟨hi7, H⟩ := H
    refine pop_index sli24 siz33 .i64 y4 s102 hi7 ?_
    obtain ⟨hw_3, hL38, H⟩ := H
    refine uop_cell (v := s109.v) siz33 hw_3 rfl (fun h38 he_3 => ?_)
    rw [← he_3] at hL38
    have H := H h38 he_3 hL38
    exact ⟨y4, y33, y34, y35, rfl, H, hL38⟩
   have H := H.1 hb11
   refine pop_field 0 fld28_0 b5 0 ?_
   refine rl one24 hL26 0 0 y4.v ?_
   refine pop_len y4 _ _ sli24 ?_
   refine H.mono fun r15 h29 H => ?_
   obtain ⟨y24, y25, y26, s81, rfl, hL29, H⟩ := H
   refine pop_field 0 fld28_0 b5 0 ?_
   refine rl one24 hL29 0 0 y4.v ?_
   refine pop_field 0 fld28_0 b5 0 ?_
   refine rl one24 hL29 0 0 y4.v ?_
   obtain ⟨hi5, H⟩ := H
   refine pop_index sli24 siz33 .i64 y4 s81 hi5 ?_
   obtain ⟨s89, hc5, H⟩ := H
   refine rop_one one33 s89.v hc5 ?_
   refine H.mono fun r16 h30 H => ?_
   obtain ⟨s91, rfl, hL30, H⟩ := H
   refine ⟨?_, ?_⟩
   ·exact still_one one33 H.1
   obtain ⟨hc2, H⟩ := H
   refine ⟨?_, ?_⟩
   ·exact still_loc one24 hL30 0 rfl 0 (v := y4.v) rfl
   refine ⟨?_, ?_⟩
   ·exact still_loc one24 hL30 0 rfl 0 (v := y4.v) rfl
   refine H.mono fun r17 h31 H => ?_
   obtain ⟨y27, y28, y29, s92, rfl, hL31, H⟩ := H
   refine ⟨?_, ?_⟩
   ·exact still_one one33 H.1
   obtain ⟨hc3, H⟩ := H
   refine ⟨?_, ?_⟩
   ·exact still_loc one24 hL31 0 rfl 0 (v := y4.v) rfl
   refine ⟨?_, ?_⟩
   ·exact still_loc one24 hL31 0 rfl 0 (v := y4.v) rfl
   refine H.mono fun r18 h32 H => ?_
   obtain ⟨s93, rfl, hL32, H⟩ := H
   refine ⟨?_, ?_⟩
   ·exact still_one one33 H.1
   obtain ⟨hc4, H⟩ := H
   refine ⟨?_, ?_⟩
   ·exact still_loc one24 hL32 0 rfl 0 (v := y4.v) rfl
   refine ⟨?_, ?_⟩
   ·exact still_loc one24 hL32 0 rfl 0 (v := y4.v) rfl
   refine H.mono fun r19 h33 H => ?_
   obtain ⟨s94, rfl, hL33, H⟩ := H
   refine ⟨?_, ?_⟩
   ·exact still_loc one24 hL33 0 rfl 0 (v := y4.v) rfl
   refine ⟨?_, ?_⟩
   ·exact still_loc one24 hL33 0 rfl 0 (v := y4.v) rfl
   obtain ⟨hi6, H⟩ := H
   refine pop_index sli24 siz33 .i64 y4 s81 hi6 ?_
   obtain ⟨hw_2, hL34, H⟩ := H
   refine uop_cell (v := s94.v) siz33 hw_2 rfl (fun h34 he_2 => ?_)
   rw [← he_2] at hL34
   have H := H h34 he_2 hL34
   exact ⟨y4, y27, y28, y29, rfl, H, hL34⟩
  intro junk3  h40
  rintro ⟨y17, y18, y19, y20, hv, hJ3, hL40⟩
  have H := HB2 y17 y18 y19 y20 h40 hJ3 hL40
  refine ra agg26 hL40 1 0 [s16.v] ?_
  refine ra agg28 hL40 0 0 [y17.v] ?_
  refine ul siz26 hL40 3 0 [s16.v] [(b5, [y17.v]), (b4, [s16.v]), (b3, [nilSl.v]), (b2, [s16.v]), (b1, [y18.v, (VI y19), (Value.int .u64 y20)])] (fun h41 hf13 hL41 => ?_)
  have H := H  h41  (Fr.old (Fr.r (In []) _) hf13) hL41
  refine ⟨?_, ?_⟩
  ·exact still_locA agg28 hL41 0 rfl 0 (vs := [y17.v]) rfl rfl
  refine ul siz28 hL41 2 0 [y17.v] [(b5, [y17.v]), (b4, [s16.v]), (b3, [y17.v]), (b2, [s16.v]), (b1, [y18.v, (VI y19), (Value.int .u64 y20)])] (fun h42 hf14 hL42 => ?_)
  refine ra agg26 hL42 3 0 [s16.v] ?_
  refine ra agg28 hL42 2 0 [y17.v] ?_
  have H := H  h42  (Fr.old (Fr.r (In []) _) hf14) hL42
  exact H
def u61 (P : Program) (b1 : Nat) (c0_1 : Sl) (c0_2 : Int) (c0_3 : Int) (g1_1 : Sl) (h : Heap) (K : Value -> Heap -> Prop) : Prop :=
 ((decide ((g1_1.n : Int) = 0)) = true ->
 ∀ (b2 : Nat) (h1 : Heap), h.size ≤ b2 -> Fr (In []) h h1 -> Vars h1 [(b2, [g1_1.v]), (b1, [c0_1.v, (VI c0_2), (Value.int .u64 c0_3)])] ->
 eop P (Instr.buildSlice 33 4 #[(0, (.int .i64 (-1))), (1, (.int .i64 0)), (2, (VI (g1_1.n : Int))), (3, (.int .i64 4611686018427387904))]) h1 fun r5 h6 => ∃ s17b : Sl, r5 = s17b.v /\ Vars h6 [(b2, [g1_1.v]), (b1, [c0_1.v, (VI c0_2), (Value.int .u64 c0_3)])] /\
 callM P 69 #[(VP b1 0), s17b.v] h6 fun r6 h7 => ∃ y10 : Sl, ∃ y11 : Int, ∃ y12 : Int, ∃ s18b : Int, r6 = (VI s18b) /\ Vars h7 [(b2, [g1_1.v]), (b1, [y10.v, (VI y11), (Value.int .u64 y12)])] /\
 K (VI s18b) h7) /\
 ((decide ((g1_1.n : Int) = 0)) = false ->
 ∀ (b2 : Nat) (h1 : Heap), h.size ≤ b2 -> Fr (In []) h h1 -> Vars h1 [(b2, [g1_1.v]), (b1, [c0_1.v, (VI c0_2), (Value.int .u64 c0_3)])] ->
 callM P 68 #[(VP b1 0), (VI 14)] h1 fun r1 h2 => ∃ y1 : Sl, ∃ y2 : Int, ∃ y3 : Int, ∃ s11 : Bool, r1 = (VB s11) /\ Vars h2 [(b2, [g1_1.v]), (b1, [y1.v, (VI y2), (Value.int .u64 y3)])] /\
 (s11 = true ->
 eop P (Instr.buildSlice 33 4 #[(0, (.int .i64 (-1))), (1, (.int .i64 0)), (2, (VI (g1_1.n : Int))), (3, (.int .i64 4611686018427387904))]) h2 fun r2 h3 => ∃ s17 : Sl, r2 = s17.v /\ Vars h3 [(b2, [g1_1.v]), (b1, [y1.v, (VI y2), (Value.int .u64 y3)])] /\
 callM P 69 #[(VP b1 0), s17.v] h3 fun r3 h4 => ∃ y4 : Sl, ∃ y5 : Int, ∃ y6 : Int, ∃ s18 : Int, r3 = (VI s18) /\ Vars h4 [(b2, [g1_1.v]), (b1, [y4.v, (VI y5), (Value.int .u64 y6)])] /\
 K (VI s18) h4) /\
 (s11 = false ->
 callM P 70 #[(VP b1 0), (VI (g1_1.n : Int))] h2 fun r4 h5 => ∃ y7 : Sl, ∃ y8 : Int, ∃ y9 : Int, ∃ s23 : Int, r4 = (VI s23) /\ Vars h5 [(b2, [g1_1.v]), (b1, [y7.v, (VI y8), (Value.int .u64 y9)])] /\
 K (VI s23) h5))
theorem v61 (b1 : Nat) (c0_1 : Sl) (c0_2 : Int) (c0_3 : Int) (g1_1 : Sl) (h : Heap) (K : Value -> Heap -> Prop) (hL : Vars h [(b1, [c0_1.v, (VI c0_2), (Value.int .u64 c0_3)])]) (H : u61 Tryz.prog b1 c0_1 c0_2 c0_3 g1_1 h K) : callM Tryz.prog 61 #[(VP b1 0), (Value.agg #[g1_1.v])] h K := by
  refine c61 (VP b1 0) (Value.agg #[g1_1.v]) h K ?_
  unfold u61 at H
  unfold t61
  refine eop_box 26 (Value.agg #[g1_1.v]) rfl hL (fun b2 h1 hb1 hf1 hL1 => ?_)
  refine pop_field 0 fld26_0 b2 0 ?_
  refine rl one24 hL1 0 0 g1_1.v ?_
  refine pop_len g1_1 _ _ sli24 ?_
  refine pop_ieq .i64 _ _ (g1_1.n : Int) 0 ?_
  refine guardM_sf (fun hb2 => ?_) (fun hb2 => ?_)
  rotate_left
  ·have H := H.1 hb2
   refine gm hb2 ?_
   refine pop_pickt' hb2 ?_
   refine condM_t ?_
   refine pop_field 0 fld26_0 b2 0 ?_
   refine rl one24 hL1 0 0 g1_1.v ?_
   refine pop_len g1_1 _ _ sli24 ?_
   have H := H b2 h1 hb1 (Fr.no' (Fr.r (In []) _) hf1) hL1
   refine H.mono fun r5 h6 H => ?_
   obtain ⟨s17b, rfl, hL6, H⟩ := H
   refine H.mono fun r6 h7 H => ?_
   obtain ⟨y10, y11, y12, s18b, rfl, hL7, H⟩ := H
   exact H
  have H := H.2 hb2
  refine gy hb2 ?_
  have H := H b2 h1 hb1 (Fr.no' (Fr.r (In []) _) hf1) hL1
  refine H.mono fun r1 h2 H => ?_
  obtain ⟨y1, y2, y3, s11, rfl, hL2, H⟩ := H
  refine pop_pickf' hb2 ?_
  refine condM_b (fun hb3 => ?_) (fun hb3 => ?_)
  rotate_left
  ·have H := H.2 hb3
   refine pop_field 0 fld26_0 b2 0 ?_
   refine rl one24 hL2 0 0 g1_1.v ?_
   refine pop_len g1_1 _ _ sli24 ?_
   refine H.mono fun r4 h5 H => ?_
   obtain ⟨y7, y8, y9, s23, rfl, hL5, H⟩ := H
   exact H
  have H := H.1 hb3
  refine pop_field 0 fld26_0 b2 0 ?_
  refine rl one24 hL2 0 0 g1_1.v ?_
  refine pop_len g1_1 _ _ sli24 ?_
  refine H.mono fun r2 h3 H => ?_
  obtain ⟨s17, rfl, hL3, H⟩ := H
  refine H.mono fun r3 h4 H => ?_
  obtain ⟨y4, y5, y6, s18, rfl, hL4, H⟩ := H
  exact H
def u62 (P : Program) (s0_1 : Sl) (g1_1 : Sl) (p2_1 : Int) (h : Heap) (K : Value -> Heap -> Prop) : Prop :=
 ∀ (b1 : Nat) (b2 : Nat) (h2 : Heap), h.size ≤ b1 -> h.size ≤ b2 -> Fr (In []) h h2 -> Vars h2 [(b2, [g1_1.v]), (b1, [s0_1.v])] ->
 eop P (Instr.buildSlice 33 0 #[]) h2 fun r1 h3 => ∃ s10 : Sl, r1 = s10.v /\ Vars h3 [(b2, [g1_1.v]), (b1, [s0_1.v])] /\
 ∃ J1 : Nat -> Sl -> Int -> Heap -> Prop, (∃ n0 : Nat, J1 n0 s10 p2_1 h3) /\
 ∀ (n1 : Nat) (out7_1 : Sl) (at8_1 : Int) (h4 : Heap), J1 n1 out7_1 at8_1 h4 -> Vars h4 [(b2, [g1_1.v]), (b1, [s0_1.v])] ->
 InB s0_1 at8_1 /\
 ∃ s16 : Sl, hcell h4 (Sl.at s0_1 at8_1 1) = some s16.v /\
 ((decide ((s16.n : Int) = 0)) = true ->
 K nilSl.v h4) /\
 ((decide ((s16.n : Int) = 0)) = false ->
 ((decide ((g1_1.n : Int) < (out7_1.n : Int))) = true ->
 K nilSl.v h4) /\
 ((decide ((g1_1.n : Int) < (out7_1.n : Int))) = false ->
 eop P (Instr.buildSlice 33 1 #[(0, (VI at8_1))]) h4 fun r2 h5 => ∃ s29 : Sl, r2 = s29.v /\ Vars h5 [(b2, [g1_1.v]), (b1, [s0_1.v])] /\
 eop P (appS 33 33 33 out7_1.v s29.v) h5 fun r3 h6 => ∃ s30 : Sl, r3 = s30.v /\ Vars h6 [(b2, [g1_1.v]), (b1, [s0_1.v])] /\
 InB g1_1 at8_1 /\
 ∃ s35 : Sl, hcell h6 (Sl.at g1_1 at8_1 1) = some s35.v /\
 InB s0_1 at8_1 /\
 ∃ s40 : Sl, hcell h6 (Sl.at s0_1 at8_1 1) = some s40.v /\
 InB s40 0 /\
 ∃ s42 : Int, hcell h6 (Sl.at s40 0 1) = some (VI s42) /\
 InB s35 s42 /\
 ∃ s44 : Int, hcell h6 (Sl.at s35 s42 1) = some (VI s44) /\
 ((decide (s44 = p2_1)) = true ->
 callM P 116 #[s30.v] h6 fun r4 h7 => ∃ s50 : Int, r4 = (VI s50) /\ Vars h7 [(b2, [g1_1.v]), (b1, [s0_1.v])] /\
 callM P 115 #[s30.v, (VI s50)] h7 fun r5 h8 => ∃ s51 : Int, r5 = (VI s51) /\ Vars h8 [(b2, [g1_1.v]), (b1, [s0_1.v])] /\
 pop P (Instr.sliceAt 33 s30.v (some (VI s51)) none none) fun r6 => ∃ s54 : Sl, r6 = s54.v /\ 
 pop P (Instr.sliceAt 33 s30.v none (some (VI s51)) none) fun r7 => ∃ s57 : Sl, r7 = s57.v /\ 
 eop P (Instr.buildSlice 24 2 #[(0, s54.v), (1, s57.v)]) h8 fun r8 h9 => ∃ s58 : Sl, r8 = s58.v /\ Vars h9 [(b2, [g1_1.v]), (b1, [s0_1.v])] /\
 callM P 97 #[s58.v] h9 fun r9 h10 => ∃ s59 : Sl, r9 = s59.v /\ Vars h10 [(b2, [g1_1.v]), (b1, [s0_1.v])] /\
 K s59.v h10) /\
 ((decide (s44 = p2_1)) = false ->
 ∃ m : Nat, m < n1 /\ J1 m s30 s44 h6)))
theorem v62 (s0_1 : Sl) (g1_1 : Sl) (p2_1 : Int) (h : Heap) (K : Value -> Heap -> Prop) (H : u62 Tryz.prog s0_1 g1_1 p2_1 h K) : callM Tryz.prog 62 #[(Value.agg #[s0_1.v]), (Value.agg #[g1_1.v]), (VI p2_1)] h K := by
  refine c62 (Value.agg #[s0_1.v]) (Value.agg #[g1_1.v]) (VI p2_1) h K ?_
  unfold u62 at H
  unfold t62
  have hL : Vars h [] := .nil
  refine eop_box 28 (Value.agg #[s0_1.v]) rfl hL (fun b1 h1 hb1 hf1 hL1 => ?_)
  refine eop_box 26 (Value.agg #[g1_1.v]) rfl hL1 (fun b2 h2 hb2 hf2 hL2 => ?_)
  have H := H b1 b2 h2 hb1 (Nat.le_trans (Fr.size (Fr.no' (Fr.r (In []) _) hf1)) hb2) (Fr.no' (Fr.no' (Fr.r (In []) _) hf1) hf2) hL2
  refine H.mono fun r1 h3 H => ?_
  obtain ⟨s10, rfl, hL3, H⟩ := H
  obtain ⟨J1, ⟨n2, h0_1⟩, HB1⟩ := H
  refine loop_intro (J := fun (n : Nat) (vs : List Value) (h' : Heap) => ∃ out7_1 : Sl, ∃ at8_1 : Int, vs = [out7_1.v, (VI at8_1)] /\ J1 n out7_1 at8_1 h' /\ Vars h' [(b2, [g1_1.v]), (b1, [s0_1.v])]) n2 ⟨s10, p2_1, rfl, h0_1, hL3⟩ ?_
  intro I1 mu1 hI1 junk1 tv1 tv2 h4 hi1
  obtain ⟨n1, ⟨out7_1, at8_1, hv, hJ1, hL4⟩, hn1⟩ := hI1 _ _ hi1
  cases hv
  have H := HB1 n1 out7_1 at8_1 h4 hJ1 hL4
  refine pop_field 0 fld28_0 b1 0 ?_
  refine rl one24 hL4 1 0 s0_1.v ?_
  obtain ⟨hi2, H⟩ := H
  refine pop_index sli24 siz33 .i64 s0_1 at8_1 hi2 ?_
  obtain ⟨s16, hc5, H⟩ := H
  refine rop_one one33 s16.v hc5 ?_
  refine pop_len s16 _ _ sli33 ?_
  refine pop_ieq .i64 _ _ (s16.n : Int) 0 ?_
  refine guardM_sf (fun hb3 => ?_) (fun hb3 => ?_)
  rotate_left
  ·have H := H.1 hb3
   refine gm hb3 ?_
   refine gm hb3 ?_
   refine gm hb3 ?_
   refine gm hb3 ?_
   refine gm hb3 ?_
   refine pop_pickt' hb3 ?_
   refine condM_t ?_
   exact H
  have H := H.2 hb3
  refine gy hb3 ?_
  refine pop_len out7_1 _ _ sli33 ?_
  refine gy hb3 ?_
  refine pop_field 0 fld26_0 b2 0 ?_
  refine gy hb3 ?_
  refine rl one24 hL4 0 0 g1_1.v ?_
  refine gy hb3 ?_
  refine pop_len g1_1 _ _ sli24 ?_
  refine gy hb3 ?_
  refine pop_gtr .i64 (out7_1.n : Int) (g1_1.n : Int) ?_
  refine pop_pickf' hb3 ?_
  refine condM_b (fun hb4 => ?_) (fun hb4 => ?_)
  ·exact H.1 hb4
  have H := H.2 hb4
  refine H.mono fun r2 h5 H => ?_
  obtain ⟨s29, rfl, hL5, H⟩ := H
  refine H.mono fun r3 h6 H => ?_
  obtain ⟨s30, rfl, hL6, H⟩ := H
  refine pop_field 0 fld26_0 b2 0 ?_
  refine rl one24 hL6 0 0 g1_1.v ?_
  obtain ⟨hi3, H⟩ := H
  refine pop_index sli24 siz33 .i64 g1_1 at8_1 hi3 ?_
  obtain ⟨s35, hc4, H⟩ := H
  refine rop_one one33 s35.v hc4 ?_
  refine pop_field 0 fld28_0 b1 0 ?_
  refine rl one24 hL6 1 0 s0_1.v ?_
  obtain ⟨hi4, H⟩ := H
  refine pop_index sli24 siz33 .i64 s0_1 at8_1 hi4 ?_
  obtain ⟨s40, hc3, H⟩ := H
  refine rop_one one33 s40.v hc3 ?_
  obtain ⟨hi5, H⟩ := H
  refine pop_index sli33 siz3 .i64 s40 0 hi5 ?_
  obtain ⟨s42, hc2, H⟩ := H
  refine rop_one one3 (VI s42) hc2 ?_
  obtain ⟨hi6, H⟩ := H
  refine pop_index sli33 siz3 .i64 s35 s42 hi6 ?_
  obtain ⟨s44, hc1, H⟩ := H
  refine rop_one one3 (VI s44) hc1 ?_
  refine pop_ieq .i64 _ _ s44 p2_1 ?_
  refine condM_b (fun hb5 => ?_) (fun hb5 => ?_)
  rotate_left
  ·have H := H.2 hb5
   obtain ⟨m_1, hm_1, H⟩ := H
   exact hn1 _ _ ⟨m_1, hm_1, s30, s44, rfl, H, hL6⟩
  have H := H.1 hb5
  refine H.mono fun r4 h7 H => ?_
  obtain ⟨s50, rfl, hL7, H⟩ := H
  refine H.mono fun r5 h8 H => ?_
  obtain ⟨s51, rfl, hL8, H⟩ := H
  refine H.mono fun r6 H => ?_
  obtain ⟨s54, rfl, H⟩ := H
  refine H.mono fun r7 H => ?_
  obtain ⟨s57, rfl, H⟩ := H
  refine H.mono fun r8 h9 H => ?_
  obtain ⟨s58, rfl, hL9, H⟩ := H
  refine H.mono fun r9 h10 H => ?_
  obtain ⟨s59, rfl, hL10, H⟩ := H
  exact H
def u63 (P : Program) (s0_1 : Sl) (h : Heap) (K : Value -> Heap -> Prop) : Prop :=
 ∀ (b1 : Nat) (b2 : Nat) (b3 : Nat) (h4 : Heap), h.size ≤ b1 -> h.size ≤ b2 -> h.size ≤ b3 -> Fr (In []) h h4 -> Vars h4 [(b3, [nilSl.v]), (b2, [nilSl.v]), (b1, [s0_1.v])] ->
 ∃ J1 : Nat -> Int -> Sl -> Heap -> Prop, (∃ n0 : Nat, J1 n0 0 nilSl h4) /\
 ∀ (n1 : Nat) (s10 : Int) (y1 : Sl) (h5 : Heap), J1 n1 s10 y1 h5 -> Vars h5 [(b3, [y1.v]), (b2, [nilSl.v]), (b1, [s0_1.v])] ->
 ((decide (s10 < (s0_1.n : Int))) = true ->
 InB s0_1 s10 /\
 ∃ s13 : Sl, hcell h5 (Sl.at s0_1 s10 1) = some s13.v /\
 callM P 117 #[s13.v] h5 fun r1 h6 => ∃ s17 : Sl, r1 = s17.v /\ Vars h6 [(b3, [y1.v]), (b2, [nilSl.v]), (b1, [s0_1.v])] /\
 eop P (Instr.buildSlice 24 1 #[(0, s17.v)]) h6 fun r2 h7 => ∃ s18 : Sl, r2 = s18.v /\ Vars h7 [(b3, [y1.v]), (b2, [nilSl.v]), (b1, [s0_1.v])] /\
 eop P (appS 24 24 24 y1.v s18.v) h7 fun r3 h8 => ∃ s19 : Sl, r3 = s19.v /\ Vars h8 [(b3, [y1.v]), (b2, [nilSl.v]), (b1, [s0_1.v])] /\
 ∀ (h9 : Heap), Fr (In [b3]) h8 h9 -> Vars h9 [(b3, [s19.v]), (b2, [nilSl.v]), (b1, [s0_1.v])] ->
 ∃ m : Nat, m < n1 /\ J1 m (w64 (s10 + 1)) s19 h9) /\
 ((decide (s10 < (s0_1.n : Int))) = false ->
 ∀ (h10 : Heap), Fr (In [b2]) h5 h10 -> Vars h10 [(b3, [y1.v]), (b2, [y1.v]), (b1, [s0_1.v])] ->
 K (.agg #[y1.v]) h10)
theorem v63 (s0_1 : Sl) (h : Heap) (K : Value -> Heap -> Prop) (H : u63 Tryz.prog s0_1 h K) : callM Tryz.prog 63 #[(Value.agg #[s0_1.v])] h K := by
  refine c63 (Value.agg #[s0_1.v]) h K ?_
  unfold u63 at H
  unfold t63
  have hL : Vars h [] := .nil
  refine eop_box 28 (Value.agg #[s0_1.v]) rfl hL (fun b1 h1 hb1 hf1 hL1 => ?_)
  refine eop_alloc 28 zer28 rfl hL1 (fun b2 h2 hb2 hf2 hL2 => ?_)
  refine pop.mk' (v := (Value.agg #[nilSl.v])) (fun w => by kernel_rfl) ?_
  refine eop_alloc 28 zer28 rfl hL2 (fun b3 h3 hb3 hf3 hL3 => ?_)
  refine ul siz28 hL3 0 0 [nilSl.v] [(b3, [nilSl.v]), (b2, [nilSl.v]), (b1, [s0_1.v])] (fun h4 hf4 hL4 => ?_)
  refine pop_field 0 fld28_0 b1 0 ?_
  refine rl one24 hL4 2 0 s0_1.v ?_
  refine pop_len s0_1 _ _ sli24 ?_
  have H := H b1 b2 b3 h4 hb1 (Nat.le_trans (Fr.size (Fr.no' (Fr.r (In []) _) hf1)) hb2) (Nat.le_trans (Fr.size (Fr.no' (Fr.no' (Fr.r (In []) _) hf1) hf2)) hb3) (Fr.new (Fr.no' (Fr.no' (Fr.no' (Fr.r (In []) _) hf1) hf2) hf3) (Nat.le_trans (Fr.size (Fr.no' (Fr.no' (Fr.r (In []) _) hf1) hf2)) hb3) hf4) hL4
  obtain ⟨J1, ⟨n2, h0_1⟩, HB1⟩ := H
  refine loop_intro (J := fun (n : Nat) (vs : List Value) (h' : Heap) => ∃ s10 : Int, ∃ y1 : Sl, vs = [(VI s10)] /\ J1 n s10 y1 h' /\ Vars h' [(b3, [y1.v]), (b2, [nilSl.v]), (b1, [s0_1.v])]) n2 ⟨0, nilSl, rfl, h0_1, hL4⟩ ?_
  intro I1 mu1 hI1 junk1 tv1 h5 hi1
  obtain ⟨n1, ⟨s10, y1, hv, hJ1, hL5⟩, hn1⟩ := hI1 _ _ hi1
  cases hv
  have H := HB1 n1 s10 y1 h5 hJ1 hL5
  refine pop_lss .i64 s10 (s0_1.n : Int) ?_
  refine condM_b (fun hb4 => ?_) (fun hb4 => ?_)
  rotate_left
  ·have H := H.2 hb4
   refine ra agg28 hL5 0 0 [y1.v] ?_
   refine ul siz28 hL5 1 0 [y1.v] [(b3, [y1.v]), (b2, [y1.v]), (b1, [s0_1.v])] (fun h10 hf6 hL10 => ?_)
   refine ra agg28 hL10 1 0 [y1.v] ?_
   have H := H  h10  (Fr.old (Fr.r (In []) _) hf6) hL10
   exact H
  have H := H.1 hb4
  obtain ⟨hi2, H⟩ := H
  refine pop_index sli24 siz33 .i64 s0_1 s10 hi2 ?_
  obtain ⟨s13, hc1, H⟩ := H
  refine rop_one one33 s13.v hc1 ?_
  refine pop_field 0 fld28_0 b3 0 ?_
  refine rl one24 hL5 0 0 y1.v ?_
  refine H.mono fun r1 h6 H => ?_
  obtain ⟨s17, rfl, hL6, H⟩ := H
  refine ⟨?_, ?_⟩
  ·exact still_loc one24 hL6 0 rfl 0 (v := y1.v) rfl
  refine H.mono fun r2 h7 H => ?_
  obtain ⟨s18, rfl, hL7, H⟩ := H
  refine ⟨?_, ?_⟩
  ·exact still_loc one24 hL7 0 rfl 0 (v := y1.v) rfl
  refine H.mono fun r3 h8 H => ?_
  obtain ⟨s19, rfl, hL8, H⟩ := H
  refine pop_field 0 fld28_0 b3 0 ?_
  refine ul siz24 hL8 0 0 [s19.v] [(b3, [s19.v]), (b2, [nilSl.v]), (b1, [s0_1.v])] (fun h9 hf5 hL9 => ?_)
  refine pop_add .i64 s10 1 ?_
  have H := H  h9  (Fr.old (Fr.r (In []) _) hf5) hL9
  obtain ⟨m_1, hm_1, H⟩ := H
  exact hn1 _ _ ⟨m_1, hm_1, (w64 (s10 + 1)), s19, rfl, H, hL9⟩
def u64 (P : Program) (s0_1 : Sl) (cycle1_1 : Sl) (h : Heap) (K : Value -> Heap -> Prop) : Prop :=
 ∀ (b1 : Nat) (h1 : Heap), h.size ≤ b1 -> Fr (In []) h h1 -> Vars h1 [(b1, [s0_1.v])] ->
 ∃ J1 : Nat -> Int -> Heap -> Prop, (∃ n0 : Nat, J1 n0 0 h1) /\
 ∀ (n1 : Nat) (s8 : Int) (h2 : Heap), J1 n1 s8 h2 -> Vars h2 [(b1, [s0_1.v])] ->
 ((decide (s8 < (cycle1_1.n : Int))) = true ->
 InB cycle1_1 s8 /\
 ∃ s11 : Int, hcell h2 (Sl.at cycle1_1 s8 1) = some (VI s11) /\
 InB s0_1 s11 /\
 ∃ s19 : Sl, hcell h2 (Sl.at s0_1 s11 1) = some s19.v /\
 pop P (Instr.sliceAt 33 s19.v (some (.int .i64 1)) none none) fun r1 => ∃ s20 : Sl, r1 = s20.v /\ 
 InB s0_1 s11 /\
 Writable h2 (Sl.at s0_1 s11 1) /\ Vars (hset h2 (Sl.at s0_1 s11 1) s20.v) [(b1, [s0_1.v])] /\
 ∀ h3 : Heap, h3 = hset h2 (Sl.at s0_1 s11 1) s20.v -> Vars h3 [(b1, [s0_1.v])] ->
 ∃ m : Nat, m < n1 /\ J1 m (w64 (s8 + 1)) h3) /\
 ((decide (s8 < (cycle1_1.n : Int))) = false ->
 K (.tuple #[]) h2)
theorem v64 (s0_1 : Sl) (cycle1_1 : Sl) (h : Heap) (K : Value -> Heap -> Prop) (H : u64 Tryz.prog s0_1 cycle1_1 h K) : callM Tryz.prog 64 #[(Value.agg #[s0_1.v]), cycle1_1.v] h K := by
  refine c64 (Value.agg #[s0_1.v]) cycle1_1.v h K ?_
  unfold u64 at H
  unfold t64
  have hL : Vars h [] := .nil
  refine eop_box 28 (Value.agg #[s0_1.v]) rfl hL (fun b1 h1 hb1 hf1 hL1 => ?_)
  refine pop_len cycle1_1 _ _ sli33 ?_
  have H := H b1 h1 hb1 (Fr.no' (Fr.r (In []) _) hf1) hL1
  obtain ⟨J1, ⟨n2, h0_1⟩, HB1⟩ := H
  refine loop_intro (J := fun (n : Nat) (vs : List Value) (h' : Heap) => ∃ s8 : Int, vs = [(VI s8)] /\ J1 n s8 h' /\ Vars h' [(b1, [s0_1.v])]) n2 ⟨0, rfl, h0_1, hL1⟩ ?_
  intro I1 mu1 hI1 junk1 tv1 h2 hi1
  obtain ⟨n1, ⟨s8, hv, hJ1, hL2⟩, hn1⟩ := hI1 _ _ hi1
  cases hv
  have H := HB1 n1 s8 h2 hJ1 hL2
  refine pop_lss .i64 s8 (cycle1_1.n : Int) ?_
  refine condM_b (fun hb2 => ?_) (fun hb2 => ?_)
  rotate_left
  ·exact H.2 hb2
  have H := H.1 hb2
  obtain ⟨hi2, H⟩ := H
  refine pop_index sli33 siz3 .i64 cycle1_1 s8 hi2 ?_
  obtain ⟨s11, hc2, H⟩ := H
  refine rop_one one3 (VI s11) hc2 ?_
  refine pop_field 0 fld28_0 b1 0 ?_
  refine rl one24 hL2 0 0 s0_1.v ?_
  refine pop_field 0 fld28_0 b1 0 ?_
  refine rl one24 hL2 0 0 s0_1.v ?_
  obtain ⟨hi3, H⟩ := H
  refine pop_index sli24 siz33 .i64 s0_1 s11 hi3 ?_
  obtain ⟨s19, hc1, H⟩ := H
  refine rop_one one33 s19.v hc1 ?_
  refine H.mono fun r1 H => ?_
  obtain ⟨s20, rfl, H⟩ := H
  obtain ⟨hi4, H⟩ := H
  refine pop_index sli24 siz33 .i64 s0_1 s11 hi4 ?_
  obtain ⟨hw_1, hL3, H⟩ := H
  refine uop_cell (v := s20.v) siz33 hw_1 rfl (fun h3 he_1 => ?_)
  rw [← he_1] at hL3
  have H := H h3 he_1 hL3
  refine pop_add .i64 s8 1 ?_
  obtain ⟨m_1, hm_1, H⟩ := H
  exact hn1 _ _ ⟨m_1, hm_1, (w64 (s8 + 1)), rfl, H, hL3⟩
def u65 (P : Program) (g0_1 : Sl) (s1_1 : Sl) (p2_1 : Int) (h : Heap) (K : Value -> Heap -> Prop) : Prop :=
 ∀ (b1 : Nat) (b2 : Nat) (h2 : Heap), h.size ≤ b1 -> h.size ≤ b2 -> Fr (In []) h h2 -> Vars h2 [(b2, [s1_1.v]), (b1, [g0_1.v])] ->
 eop P (Instr.buildSlice 33 1 #[(0, (VI p2_1))]) h2 fun r1 h3 => ∃ s14 : Sl, r1 = s14.v /\ Vars h3 [(b2, [s1_1.v]), (b1, [g0_1.v])] /\
 callM P 118 #[(.agg #[g0_1.v]), (.agg #[s1_1.v]), (VI p2_1)] h3 fun r2 h4 => ∃ s18 : Int, r2 = (VI s18) /\ Vars h4 [(b2, [s1_1.v]), (b1, [g0_1.v])] /\
 ∃ J1 : Nat -> Sl -> Int -> Int -> Heap -> Prop, (∃ n0 : Nat, J1 n0 s14 s18 0 h4) /\
 ∀ (n1 : Nat) (out7_1 : Sl) (q8_1 : Int) (n9_1 : Int) (h5 : Heap), J1 n1 out7_1 q8_1 n9_1 h5 -> Vars h5 [(b2, [s1_1.v]), (b1, [g0_1.v])] ->
 ((decide (n9_1 < (g0_1.n : Int))) = true ->
 ((decide (0 ≤ q8_1)) = true ->
 ((!decide (q8_1 = p2_1)) = true ->
 eop P (Instr.buildSlice 33 1 #[(0, (VI q8_1))]) h5 fun r3 h6 => ∃ s37 : Sl, r3 = s37.v /\ Vars h6 [(b2, [s1_1.v]), (b1, [g0_1.v])] /\
 eop P (appS 33 33 33 out7_1.v s37.v) h6 fun r4 h7 => ∃ s38 : Sl, r4 = s38.v /\ Vars h7 [(b2, [s1_1.v]), (b1, [g0_1.v])] /\
 callM P 118 #[(.agg #[g0_1.v]), (.agg #[s1_1.v]), (VI q8_1)] h7 fun r5 h8 => ∃ s42 : Int, r5 = (VI s42) /\ Vars h8 [(b2, [s1_1.v]), (b1, [g0_1.v])] /\
 ∃ m : Nat, m < n1 /\ J1 m s38 s42 (w64 (n9_1 + 1)) h8) /\
 ((!decide (q8_1 = p2_1)) = false ->
 ∃ J2 : Nat -> Int -> Int -> Heap -> Prop, (∃ n0 : Nat, J2 n0 0 0 h5) /\
 ∀ (n2 : Nat) (least10_1 : Int) (s48 : Int) (h9 : Heap), J2 n2 least10_1 s48 h9 -> Vars h9 [(b2, [s1_1.v]), (b1, [g0_1.v])] ->
 ((decide (s48 < (out7_1.n : Int))) = true ->
 InB out7_1 s48 /\
 ∃ s52 : Int, hcell h9 (Sl.at out7_1 s48 1) = some (VI s52) /\
 InB out7_1 least10_1 /\
 ∃ s57 : Int, hcell h9 (Sl.at out7_1 least10_1 1) = some (VI s57) /\
 ((decide (s52 < s57)) = true ->
 ∃ m : Nat, m < n2 /\ J2 m s48 (w64 (s48 + 1)) h9) /\
 ((decide (s52 < s57)) = false ->
 ∃ m : Nat, m < n2 /\ J2 m least10_1 (w64 (s48 + 1)) h9)) /\
 ((decide (s48 < (out7_1.n : Int))) = false ->
 pop P (Instr.sliceAt 33 out7_1.v (some (VI least10_1)) none none) fun r6 => ∃ s63 : Sl, r6 = s63.v /\ 
 pop P (Instr.sliceAt 33 out7_1.v none (some (VI least10_1)) none) fun r7 => ∃ s67 : Sl, r7 = s67.v /\ 
 callM P 119 #[s63.v] h9 fun r8 h10 => ∃ s64 : Sl, r8 = s64.v /\ Vars h10 [(b2, [s1_1.v]), (b1, [g0_1.v])] /\
 eop P (appS 33 33 33 s64.v s67.v) h10 fun r9 h11 => ∃ s68 : Sl, r9 = s68.v /\ Vars h11 [(b2, [s1_1.v]), (b1, [g0_1.v])] /\
 K s68.v h11))) /\
 ((decide (0 ≤ q8_1)) = false ->
 ((!decide (q8_1 = p2_1)) = true ->
 K nilSl.v h5) /\
 ((!decide (q8_1 = p2_1)) = false ->
 ∃ J3 : Nat -> Int -> Int -> Heap -> Prop, (∃ n0 : Nat, J3 n0 0 0 h5) /\
 ∀ (n4 : Nat) (least10_2 : Int) (s48b : Int) (h12 : Heap), J3 n4 least10_2 s48b h12 -> Vars h12 [(b2, [s1_1.v]), (b1, [g0_1.v])] ->
 ((decide (s48b < (out7_1.n : Int))) = true ->
 InB out7_1 s48b /\
 ∃ s52b : Int, hcell h12 (Sl.at out7_1 s48b 1) = some (VI s52b) /\
 InB out7_1 least10_2 /\
 ∃ s57b : Int, hcell h12 (Sl.at out7_1 least10_2 1) = some (VI s57b) /\
 ((decide (s52b < s57b)) = true ->
 ∃ m : Nat, m < n4 /\ J3 m s48b (w64 (s48b + 1)) h12) /\
 ((decide (s52b < s57b)) = false ->
 ∃ m : Nat, m < n4 /\ J3 m least10_2 (w64 (s48b + 1)) h12)) /\
 ((decide (s48b < (out7_1.n : Int))) = false ->
 pop P (Instr.sliceAt 33 out7_1.v (some (VI least10_2)) none none) fun r10 => ∃ s63b : Sl, r10 = s63b.v /\ 
 pop P (Instr.sliceAt 33 out7_1.v none (some (VI least10_2)) none) fun r11 => ∃ s67b : Sl, r11 = s67b.v /\ 
 callM P 119 #[s63b.v] h12 fun r12 h13 => ∃ s64b : Sl, r12 = s64b.v /\ Vars h13 [(b2, [s1_1.v]), (b1, [g0_1.v])] /\
 eop P (appS 33 33 33 s64b.v s67b.v) h13 fun r13 h14 => ∃ s68b : Sl, r13 = s68b.v /\ Vars h14 [(b2, [s1_1.v]), (b1, [g0_1.v])] /\
 K s68b.v h14)))) /\
 ((decide (n9_1 < (g0_1.n : Int))) = false ->
 ((!decide (q8_1 = p2_1)) = true ->
 K nilSl.v h5) /\
 ((!decide (q8_1 = p2_1)) = false ->
 ∃ J4 : Nat -> Int -> Int -> Heap -> Prop, (∃ n0 : Nat, J4 n0 0 0 h5) /\
 ∀ (n6 : Nat) (least10_3 : Int) (s48c : Int) (h15 : Heap), J4 n6 least10_3 s48c h15 -> Vars h15 [(b2, [s1_1.v]), (b1, [g0_1.v])] ->
 ((decide (s48c < (out7_1.n : Int))) = true ->
 InB out7_1 s48c /\
 ∃ s52c : Int, hcell h15 (Sl.at out7_1 s48c 1) = some (VI s52c) /\
 InB out7_1 least10_3 /\
 ∃ s57c : Int, hcell h15 (Sl.at out7_1 least10_3 1) = some (VI s57c) /\
 ((decide (s52c < s57c)) = true ->
 ∃ m : Nat, m < n6 /\ J4 m s48c (w64 (s48c + 1)) h15) /\
 ((decide (s52c < s57c)) = false ->
 ∃ m : Nat, m < n6 /\ J4 m least10_3 (w64 (s48c + 1)) h15)) /\
 ((decide (s48c < (out7_1.n : Int))) = false ->
 pop P (Instr.sliceAt 33 out7_1.v (some (VI least10_3)) none none) fun r14 => ∃ s63c : Sl, r14 = s63c.v /\ 
 pop P (Instr.sliceAt 33 out7_1.v none (some (VI least10_3)) none) fun r15 => ∃ s67c : Sl, r15 = s67c.v /\ 
 callM P 119 #[s63c.v] h15 fun r16 h16 => ∃ s64c : Sl, r16 = s64c.v /\ Vars h16 [(b2, [s1_1.v]), (b1, [g0_1.v])] /\
 eop P (appS 33 33 33 s64c.v s67c.v) h16 fun r17 h17 => ∃ s68c : Sl, r17 = s68c.v /\ Vars h17 [(b2, [s1_1.v]), (b1, [g0_1.v])] /\
 K s68c.v h17)))
theorem v65 (g0_1 : Sl) (s1_1 : Sl) (p2_1 : Int) (h : Heap) (K : Value -> Heap -> Prop) (H : u65 Tryz.prog g0_1 s1_1 p2_1 h K) : callM Tryz.prog 65 #[(Value.agg #[g0_1.v]), (Value.agg #[s1_1.v]), (VI p2_1)] h K := by
  refine c65 (Value.agg #[g0_1.v]) (Value.agg #[s1_1.v]) (VI p2_1) h K ?_
  unfold u65 at H
  unfold t65
  have hL : Vars h [] := .nil
  refine eop_box 26 (Value.agg #[g0_1.v]) rfl hL (fun b1 h1 hb1 hf1 hL1 => ?_)
  refine eop_box 28 (Value.agg #[s1_1.v]) rfl hL1 (fun b2 h2 hb2 hf2 hL2 => ?_)
  have H := H b1 b2 h2 hb1 (Nat.le_trans (Fr.size (Fr.no' (Fr.r (In []) _) hf1)) hb2) (Fr.no' (Fr.no' (Fr.r (In []) _) hf1) hf2) hL2
  refine H.mono fun r1 h3 H => ?_
  obtain ⟨s14, rfl, hL3, H⟩ := H
  refine ra agg26 hL3 1 0 [g0_1.v] ?_
  refine ra agg28 hL3 0 0 [s1_1.v] ?_
  refine H.mono fun r2 h4 H => ?_
  obtain ⟨s18, rfl, hL4, H⟩ := H
  obtain ⟨J1, ⟨n8, h0_4⟩, HB4⟩ := H
  refine loop_intro (J := fun (n : Nat) (vs : List Value) (h' : Heap) => ∃ out7_1 : Sl, ∃ q8_1 : Int, ∃ n9_1 : Int, vs = [out7_1.v, (VI q8_1), (VI n9_1)] /\ J1 n out7_1 q8_1 n9_1 h' /\ Vars h' [(b2, [s1_1.v]), (b1, [g0_1.v])]) n8 ⟨s14, s18, 0, rfl, h0_4, hL4⟩ ?_
  intro I4 mu4 hI4 junk1 tv7 tv8 tv9 h5 hi1
  obtain ⟨n1, ⟨out7_1, q8_1, n9_1, hv, hJ1, hL5⟩, hn1⟩ := hI4 _ _ hi1
  cases hv
  have H := HB4 n1 out7_1 q8_1 n9_1 h5 hJ1 hL5
  refine pop_field 0 fld26_0 b1 0 ?_
  refine rl one24 hL5 1 0 g0_1.v ?_
  refine pop_len g0_1 _ _ sli24 ?_
  refine pop_lss .i64 n9_1 (g0_1.n : Int) ?_
  refine guardM_st (fun hb3 => ?_) (fun hb3 => ?_)
  rotate_left
  ·have H := H.2 hb3
   refine gm hb3 ?_
   refine pop_pickf' hb3 ?_
   refine gn ?_
   refine gn ?_
   refine gn ?_
   refine pop_pickf _ _ ?_
   refine condM_f ?_
   refine pop_ine .i64 _ _ q8_1 p2_1 ?_
   refine condM_b (fun hb11 => ?_) (fun hb11 => ?_)
   ·exact H.1 hb11
   have H := H.2 hb11
   refine pop_len out7_1 _ _ sli33 ?_
   obtain ⟨J4, ⟨n7, h0_3⟩, HB3⟩ := H
   refine loop_intro (J := fun (n : Nat) (vs : List Value) (h' : Heap) => ∃ least10_3 : Int, ∃ s48c : Int, vs = [(VI least10_3), (VI s48c)] /\ J4 n least10_3 s48c h' /\ Vars h' [(b2, [s1_1.v]), (b1, [g0_1.v])]) n7 ⟨0, 0, rfl, h0_3, hL5⟩ ?_
   intro I3 mu3 hI3 junk4 tv5 tv6 h15 hi8
   obtain ⟨n6, ⟨least10_3, s48c, hv, hJ4, hL15⟩, hn4⟩ := hI3 _ _ hi8
   cases hv
   have H := HB3 n6 least10_3 s48c h15 hJ4 hL15
   refine pop_lss .i64 s48c (out7_1.n : Int) ?_
   refine condM_b (fun hb12 => ?_) (fun hb12 => ?_)
   rotate_left
   ·have H := H.2 hb12
    refine H.mono fun r14 H => ?_
    obtain ⟨s63c, rfl, H⟩ := H
    refine H.mono fun r15 H => ?_
    obtain ⟨s67c, rfl, H⟩ := H
    refine H.mono fun r16 h16 H => ?_
    obtain ⟨s64c, rfl, hL16, H⟩ := H
    refine H.mono fun r17 h17 H => ?_
    obtain ⟨s68c, rfl, hL17, H⟩ := H
    exact H
   have H := H.1 hb12
   obtain ⟨hi9, H⟩ := H
   refine pop_index sli33 siz3 .i64 out7_1 s48c hi9 ?_
   obtain ⟨s52c, hc6, H⟩ := H
   refine rop_one one3 (VI s52c) hc6 ?_
   obtain ⟨hi10, H⟩ := H
   refine pop_index sli33 siz3 .i64 out7_1 least10_3 hi10 ?_
   obtain ⟨s57c, hc5, H⟩ := H
   refine rop_one one3 (VI s57c) hc5 ?_
   refine pop_lss .i64 s52c s57c ?_
   refine condM_b (fun hb13 => ?_) (fun hb13 => ?_)
   ·have H := H.1 hb13
    refine pop_add .i64 s48c 1 ?_
    obtain ⟨m_6, hm_6, H⟩ := H
    exact hn4 _ _ ⟨m_6, hm_6, s48c, (w64 (s48c + 1)), rfl, H, hL15⟩
   have H := H.2 hb13
   refine pop_add .i64 s48c 1 ?_
   obtain ⟨m_7, hm_7, H⟩ := H
   exact hn4 _ _ ⟨m_7, hm_7, least10_3, (w64 (s48c + 1)), rfl, H, hL15⟩
  have H := H.1 hb3
  refine gy hb3 ?_
  refine pop_geq .i64 q8_1 0 ?_
  refine pop_pickt' hb3 ?_
  refine guardM_st (fun hb4 => ?_) (fun hb4 => ?_)
  rotate_left
  ·have H := H.2 hb4
   refine gm hb4 ?_
   refine gm hb4 ?_
   refine pop_pickf' hb4 ?_
   refine condM_f ?_
   refine pop_ine .i64 _ _ q8_1 p2_1 ?_
   refine condM_b (fun hb8 => ?_) (fun hb8 => ?_)
   ·exact H.1 hb8
   have H := H.2 hb8
   refine pop_len out7_1 _ _ sli33 ?_
   obtain ⟨J3, ⟨n5, h0_2⟩, HB2⟩ := H
   refine loop_intro (J := fun (n : Nat) (vs : List Value) (h' : Heap) => ∃ least10_2 : Int, ∃ s48b : Int, vs = [(VI least10_2), (VI s48b)] /\ J3 n least10_2 s48b h' /\ Vars h' [(b2, [s1_1.v]), (b1, [g0_1.v])]) n5 ⟨0, 0, rfl, h0_2, hL5⟩ ?_
   intro I2 mu2 hI2 junk3 tv3 tv4 h12 hi5
   obtain ⟨n4, ⟨least10_2, s48b, hv, hJ3, hL12⟩, hn3⟩ := hI2 _ _ hi5
   cases hv
   have H := HB2 n4 least10_2 s48b h12 hJ3 hL12
   refine pop_lss .i64 s48b (out7_1.n : Int) ?_
   refine condM_b (fun hb9 => ?_) (fun hb9 => ?_)
   rotate_left
   ·have H := H.2 hb9
    refine H.mono fun r10 H => ?_
    obtain ⟨s63b, rfl, H⟩ := H
    refine H.mono fun r11 H => ?_
    obtain ⟨s67b, rfl, H⟩ := H
    refine H.mono fun r12 h13 H => ?_
    obtain ⟨s64b, rfl, hL13, H⟩ := H
    refine H.mono fun r13 h14 H => ?_
    obtain ⟨s68b, rfl, hL14, H⟩ := H
    exact H
   have H := H.1 hb9
   obtain ⟨hi6, H⟩ := H
   refine pop_index sli33 siz3 .i64 out7_1 s48b hi6 ?_
   obtain ⟨s52b, hc4, H⟩ := H
   refine rop_one one3 (VI s52b) hc4 ?_
   obtain ⟨hi7, H⟩ := H
   refine pop_index sli33 siz3 .i64 out7_1 least10_2 hi7 ?_
   obtain ⟨s57b, hc3, H⟩ := H
   refine rop_one one3 (VI s57b) hc3 ?_
   refine pop_lss .i64 s52b s57b ?_
   refine condM_b (fun hb10 => ?_) (fun hb10 => ?_)
   ·have H := H.1 hb10
    refine pop_add .i64 s48b 1 ?_
    obtain ⟨m_4, hm_4, H⟩ := H
    exact hn3 _ _ ⟨m_4, hm_4, s48b, (w64 (s48b + 1)), rfl, H, hL12⟩
   have H := H.2 hb10
   refine pop_add .i64 s48b 1 ?_
   obtain ⟨m_5, hm_5, H⟩ := H
   exact hn3 _ _ ⟨m_5, hm_5, least10_2, (w64 (s48b + 1)), rfl, H, hL12⟩
  have H := H.1 hb4
  refine gy hb4 ?_
  refine gy hb4 ?_
  refine pop_ine .i64 _ _ q8_1 p2_1 ?_
  refine pop_pickt' hb4 ?_
  refine condM_b (fun hb5 => ?_) (fun hb5 => ?_)
  ·have H := H.1 hb5
   refine H.mono fun r3 h6 H => ?_
   obtain ⟨s37, rfl, hL6, H⟩ := H
   refine H.mono fun r4 h7 H => ?_
   obtain ⟨s38, rfl, hL7, H⟩ := H
   refine ra agg26 hL7 1 0 [g0_1.v] ?_
   refine ra agg28 hL7 0 0 [s1_1.v] ?_
   refine H.mono fun r5 h8 H => ?_
   obtain ⟨s42, rfl, hL8, H⟩ := H
   refine pop_add .i64 n9_1 1 ?_
   obtain ⟨m_1, hm_1, H⟩ := H
   exact hn1 _ _ ⟨m_1, hm_1, s38, s42, (w64 (n9_1 + 1)), rfl, H, hL8⟩
  have H := H.2 hb5
  refine pop_ine .i64 _ _ q8_1 p2_1 ?_
  refine condM_f' hb5 ?_
  refine pop_len out7_1 _ _ sli33 ?_
  obtain ⟨J2, ⟨n3, h0_1⟩, HB1⟩ := H
  refine loop_intro (J := fun (n : Nat) (vs : List Value) (h' : Heap) => ∃ least10_1 : Int, ∃ s48 : Int, vs = [(VI least10_1), (VI s48)] /\ J2 n least10_1 s48 h' /\ Vars h' [(b2, [s1_1.v]), (b1, [g0_1.v])]) n3 ⟨0, 0, rfl, h0_1, hL5⟩ ?_
  intro I1 mu1 hI1 junk2 tv1 tv2 h9 hi2
  obtain ⟨n2, ⟨least10_1, s48, hv, hJ2, hL9⟩, hn2⟩ := hI1 _ _ hi2
  cases hv
  have H := HB1 n2 least10_1 s48 h9 hJ2 hL9
  refine pop_lss .i64 s48 (out7_1.n : Int) ?_
  refine condM_b (fun hb6 => ?_) (fun hb6 => ?_)
  rotate_left
  ·have H := H.2 hb6
   refine H.mono fun r6 H => ?_
   obtain ⟨s63, rfl, H⟩ := H
   refine H.mono fun r7 H => ?_
   obtain ⟨s67, rfl, H⟩ := H
   refine H.mono fun r8 h10 H => ?_
   obtain ⟨s64, rfl, hL10, H⟩ := H
   refine H.mono fun r9 h11 H => ?_
   obtain ⟨s68, rfl, hL11, H⟩ := H
   exact H
  have H := H.1 hb6
  obtain ⟨hi3, H⟩ := H
  refine pop_index sli33 siz3 .i64 out7_1 s48 hi3 ?_
  obtain ⟨s52, hc2, H⟩ := H
  refine rop_one one3 (VI s52) hc2 ?_
  obtain ⟨hi4, H⟩ := H
  refine pop_index sli33 siz3 .i64 out7_1 least10_1 hi4 ?_
  obtain ⟨s57, hc1, H⟩ := H
  refine rop_one one3 (VI s57) hc1 ?_
  refine pop_lss .i64 s52 s57 ?_
  refine condM_b (fun hb7 => ?_) (fun hb7 => ?_)
  ·have H := H.1 hb7
   refine pop_add .i64 s48 1 ?_
   obtain ⟨m_2, hm_2, H⟩ := H
   exact hn2 _ _ ⟨m_2, hm_2, s48, (w64 (s48 + 1)), rfl, H, hL9⟩
  have H := H.2 hb7
  refine pop_add .i64 s48 1 ?_
  obtain ⟨m_3, hm_3, H⟩ := H
  exact hn2 _ _ ⟨m_3, hm_3, least10_1, (w64 (s48 + 1)), rfl, H, hL9⟩
def u66 (P : Program) (s0_1 : Sl) (cycle1_1 : Sl) (h : Heap) (K : Value -> Heap -> Prop) : Prop :=
 ∀ (b1 : Nat) (b2 : Nat) (b3 : Nat) (h4 : Heap), h.size ≤ b1 -> h.size ≤ b2 -> h.size ≤ b3 -> Fr (In []) h h4 -> Vars h4 [(b3, [nilSl.v]), (b2, [nilSl.v]), (b1, [s0_1.v])] ->
 ∃ J1 : Nat -> Int -> Sl -> Heap -> Prop, (∃ n0 : Nat, J1 n0 0 nilSl h4) /\
 ∀ (n1 : Nat) (s12 : Int) (y1 : Sl) (h5 : Heap), J1 n1 s12 y1 h5 -> Vars h5 [(b3, [y1.v]), (b2, [nilSl.v]), (b1, [s0_1.v])] ->
 ((decide (s12 < (s0_1.n : Int))) = true ->
 InB s0_1 s12 /\
 ∃ s16 : Sl, hcell h5 (Sl.at s0_1 s12 1) = some s16.v /\
 ∃ J2 : Sl -> Heap -> Prop, (callM P 120 #[cycle1_1.v, (VI s12)] h5 fun r1 h6 => ∃ s19 : Bool, r1 = (VB s19) /\ Vars h6 [(b3, [y1.v]), (b2, [nilSl.v]), (b1, [s0_1.v])] /\
 (s19 = true ->
 pop P (Instr.sliceAt 33 s16.v (some (.int .i64 1)) none none) fun r2 => ∃ s21 : Sl, r2 = s21.v /\ 
 J2 s21 h6) /\
 (s19 = false ->
 J2 s16 h6)) /\
 ∀ (y2 : Sl) (h7 : Heap), J2 y2 h7 -> Vars h7 [(b3, [y1.v]), (b2, [nilSl.v]), (b1, [s0_1.v])] ->
 callM P 119 #[y2.v] h7 fun r3 h8 => ∃ s25 : Sl, r3 = s25.v /\ Vars h8 [(b3, [y1.v]), (b2, [nilSl.v]), (b1, [s0_1.v])] /\
 eop P (Instr.buildSlice 24 1 #[(0, s25.v)]) h8 fun r4 h9 => ∃ s26 : Sl, r4 = s26.v /\ Vars h9 [(b3, [y1.v]), (b2, [nilSl.v]), (b1, [s0_1.v])] /\
 eop P (appS 24 24 24 y1.v s26.v) h9 fun r5 h10 => ∃ s27 : Sl, r5 = s27.v /\ Vars h10 [(b3, [y1.v]), (b2, [nilSl.v]), (b1, [s0_1.v])] /\
 ∀ (h11 : Heap), Fr (In [b3]) h10 h11 -> Vars h11 [(b3, [s27.v]), (b2, [nilSl.v]), (b1, [s0_1.v])] ->
 ∃ m : Nat, m < n1 /\ J1 m (w64 (s12 + 1)) s27 h11) /\
 ((decide (s12 < (s0_1.n : Int))) = false ->
 ∀ (h12 : Heap), Fr (In [b2]) h5 h12 -> Vars h12 [(b3, [y1.v]), (b2, [y1.v]), (b1, [s0_1.v])] ->
 K (.agg #[y1.v]) h12)
theorem v66 (s0_1 : Sl) (cycle1_1 : Sl) (h : Heap) (K : Value -> Heap -> Prop) (H : u66 Tryz.prog s0_1 cycle1_1 h K) : callM Tryz.prog 66 #[(Value.agg #[s0_1.v]), cycle1_1.v] h K := by
  refine c66 (Value.agg #[s0_1.v]) cycle1_1.v h K ?_
  unfold u66 at H
  unfold t66
  have hL : Vars h [] := .nil
  refine eop_box 28 (Value.agg #[s0_1.v]) rfl hL (fun b1 h1 hb1 hf1 hL1 => ?_)
  refine eop_alloc 28 zer28 rfl hL1 (fun b2 h2 hb2 hf2 hL2 => ?_)
  refine pop.mk' (v := (Value.agg #[nilSl.v])) (fun w => by kernel_rfl) ?_
  refine eop_alloc 28 zer28 rfl hL2 (fun b3 h3 hb3 hf3 hL3 => ?_)
  refine ul siz28 hL3 0 0 [nilSl.v] [(b3, [nilSl.v]), (b2, [nilSl.v]), (b1, [s0_1.v])] (fun h4 hf4 hL4 => ?_)
  refine pop_field 0 fld28_0 b1 0 ?_
  refine rl one24 hL4 2 0 s0_1.v ?_
  refine pop_len s0_1 _ _ sli24 ?_
  have H := H b1 b2 b3 h4 hb1 (Nat.le_trans (Fr.size (Fr.no' (Fr.r (In []) _) hf1)) hb2) (Nat.le_trans (Fr.size (Fr.no' (Fr.no' (Fr.r (In []) _) hf1) hf2)) hb3) (Fr.new (Fr.no' (Fr.no' (Fr.no' (Fr.r (In []) _) hf1) hf2) hf3) (Nat.le_trans (Fr.size (Fr.no' (Fr.no' (Fr.r (In []) _) hf1) hf2)) hb3) hf4) hL4
  obtain ⟨J1, ⟨n2, h0_1⟩, HB2⟩ := H
  refine loop_intro (J := fun (n : Nat) (vs : List Value) (h' : Heap) => ∃ s12 : Int, ∃ y1 : Sl, vs = [(VI s12)] /\ J1 n s12 y1 h' /\ Vars h' [(b3, [y1.v]), (b2, [nilSl.v]), (b1, [s0_1.v])]) n2 ⟨0, nilSl, rfl, h0_1, hL4⟩ ?_
  intro I1 mu1 hI1 junk1 tv2 h5 hi1
  obtain ⟨n1, ⟨s12, y1, hv, hJ1, hL5⟩, hn1⟩ := hI1 _ _ hi1
  cases hv
  have H := HB2 n1 s12 y1 h5 hJ1 hL5
  refine pop_lss .i64 s12 (s0_1.n : Int) ?_
  refine condM_b (fun hb4 => ?_) (fun hb4 => ?_)
  rotate_left
  ·have H := H.2 hb4
   refine ra agg28 hL5 0 0 [y1.v] ?_
   refine ul siz28 hL5 1 0 [y1.v] [(b3, [y1.v]), (b2, [y1.v]), (b1, [s0_1.v])] (fun h12 hf6 hL12 => ?_)
   refine ra agg28 hL12 1 0 [y1.v] ?_
   have H := H  h12  (Fr.old (Fr.r (In []) _) hf6) hL12
   exact H
  have H := H.1 hb4
  obtain ⟨hi2, H⟩ := H
  refine pop_index sli24 siz33 .i64 s0_1 s12 hi2 ?_
  obtain ⟨s16, hc1, H⟩ := H
  refine rop_one one33 s16.v hc1 ?_
  obtain ⟨J2, H, HB1⟩ := H
  refine ⟨fun (vs : List Value) (h' : Heap) => ∃ y2 : Sl, vs = [y2.v] /\ J2 y2 h' /\ Vars h' [(b3, [y1.v]), (b2, [nilSl.v]), (b1, [s0_1.v])], ?_, ?_⟩
  ·refine H.mono fun r1 h6 H => ?_
   obtain ⟨s19, rfl, hL6, H⟩ := H
   refine condM_b (fun hb5 => ?_) (fun hb5 => ?_)
   rotate_left
   ·have H := H.2 hb5
    exact ⟨s16, rfl, H, hL6⟩
   have H := H.1 hb5
   refine H.mono fun r2 H => ?_
   obtain ⟨s21, rfl, H⟩ := H
   exact ⟨s21, rfl, H, hL6⟩
  intro junk2 tv1 h7
  rintro ⟨y2, hv, hJ2, hL7⟩
  cases hv
  have H := HB1 y2 h7 hJ2 hL7
  refine pop_field 0 fld28_0 b3 0 ?_
  refine rl one24 hL7 0 0 y1.v ?_
  refine H.mono fun r3 h8 H => ?_
  obtain ⟨s25, rfl, hL8, H⟩ := H
  refine ⟨?_, ?_⟩
  ·exact still_loc one24 hL8 0 rfl 0 (v := y1.v) rfl
  refine H.mono fun r4 h9 H => ?_
  obtain ⟨s26, rfl, hL9, H⟩ := H
  refine ⟨?_, ?_⟩
  ·exact still_loc one24 hL9 0 rfl 0 (v := y1.v) rfl
  refine H.mono fun r5 h10 H => ?_
  obtain ⟨s27, rfl, hL10, H⟩ := H
  refine pop_field 0 fld28_0 b3 0 ?_
  refine ul siz24 hL10 0 0 [s27.v] [(b3, [s27.v]), (b2, [nilSl.v]), (b1, [s0_1.v])] (fun h11 hf5 hL11 => ?_)
  refine pop_add .i64 s12 1 ?_
  have H := H  h11  (Fr.old (Fr.r (In []) _) hf5) hL11
  obtain ⟨m_1, hm_1, H⟩ := H
  exact hn1 _ _ ⟨m_1, hm_1, (w64 (s12 + 1)), s27, rfl, H, hL11⟩
def u67 (P : Program) (b1 : Nat) (c0_1 : Sl) (c0_2 : Int) (c0_3 : Int) (h : Heap) (K : Value -> Heap -> Prop) : Prop :=
 ∀ (b2 : Nat) (b3 : Nat) (h2 : Heap), h.size ≤ b2 -> h.size ≤ b3 -> Fr (In []) h h2 -> Vars h2 [(b3, [nilSl.v, (VI 0)]), (b2, [nilSl.v]), (b1, [c0_1.v, (VI c0_2), (Value.int .u64 c0_3)])] ->
 callM P 121 #[(VP b1 0)] h2 fun r1 h3 => ∃ y1 : Sl, ∃ y2 : Int, ∃ y3 : Int, ∃ s7 : Sl, r1 = (.agg #[s7.v]) /\ Vars h3 [(b3, [nilSl.v, (VI 0)]), (b2, [nilSl.v]), (b1, [y1.v, (VI y2), (Value.int .u64 y3)])] /\
 ∀ (b4 : Nat) (h5 : Heap), h3.size ≤ b4 -> Fr (In []) h3 h5 -> Vars h5 [(b4, [s7.v]), (b3, [nilSl.v, (VI 0)]), (b2, [nilSl.v]), (b1, [y1.v, (VI y2), (Value.int .u64 y3)])] ->
 callM P 82 #[(.agg #[s7.v])] h5 fun r2 h6 => ∃ s9 : Bool, r2 = (VB s9) /\ Vars h6 [(b4, [s7.v]), (b3, [nilSl.v, (VI 0)]), (b2, [nilSl.v]), (b1, [y1.v, (VI y2), (Value.int .u64 y3)])] /\
 ((!s9) = true ->
 ∀ (h8 : Heap), Fr (In [b3, b2]) h6 h8 -> Vars h8 [(b4, [s7.v]), (b3, [nilSl.v, (VI 0)]), (b2, [s7.v]), (b1, [y1.v, (VI y2), (Value.int .u64 y3)])] ->
 K (.tuple #[(.agg #[s7.v]), (.agg #[nilSl.v, (VI 0)])]) h8) /\
 ((!s9) = false ->
 callM P 83 #[(VP b1 0), (.agg #[s7.v])] h6 fun r3 h9 => ∃ y4 : Sl, ∃ y5 : Int, ∃ y6 : Int, ∃ s15 : Sl, ∃ s15b : Int, r3 = (.agg #[s15.v, (VI s15b)]) /\ Vars h9 [(b4, [s7.v]), (b3, [nilSl.v, (VI 0)]), (b2, [nilSl.v]), (b1, [y4.v, (VI y5), (Value.int .u64 y6)])] /\
 ∀ (b5 : Nat) (h11 : Heap), h9.size ≤ b5 -> Fr (In []) h9 h11 -> Vars h11 [(b5, [s15.v, (VI s15b)]), (b4, [s7.v]), (b3, [nilSl.v, (VI 0)]), (b2, [nilSl.v]), (b1, [y4.v, (VI y5), (Value.int .u64 y6)])] ->
 ∃ J1 : Sl -> Int -> Sl -> Int -> Int -> Heap -> Prop, (callM P 70 #[(VP b1 0), (VI 16)] h11 fun r4 h12 => ∃ y12 : Sl, ∃ y13 : Int, ∃ y14 : Int, ∃ s17 : Int, r4 = (VI s17) /\ Vars h12 [(b5, [s15.v, (VI s15b)]), (b4, [s7.v]), (b3, [nilSl.v, (VI 0)]), (b2, [nilSl.v]), (b1, [y12.v, (VI y13), (Value.int .u64 y14)])] /\
 ((decide (s17 = 0)) = true ->
 eop P (Instr.buildSlice 33 3 #[(0, (.int .i64 (-1))), (1, (VI (s7.n : Int))), (2, (.int .i64 4611686018427387904))]) h12 fun r5 h13 => ∃ s24 : Sl, r5 = s24.v /\ Vars h13 [(b5, [s15.v, (VI s15b)]), (b4, [s7.v]), (b3, [nilSl.v, (VI 0)]), (b2, [nilSl.v]), (b1, [y12.v, (VI y13), (Value.int .u64 y14)])] /\
 callM P 69 #[(VP b1 0), s24.v] h13 fun r6 h14 => ∃ y15 : Sl, ∃ y16 : Int, ∃ y17 : Int, ∃ s25 : Int, r6 = (VI s25) /\ Vars h14 [(b5, [s15.v, (VI s15b)]), (b4, [s7.v]), (b3, [nilSl.v, (VI 0)]), (b2, [nilSl.v]), (b1, [y15.v, (VI y16), (Value.int .u64 y17)])] /\
 ∀ (h15 : Heap), Fr (In [b5]) h14 h15 -> Vars h15 [(b5, [s15.v, (VI s25)]), (b4, [s7.v]), (b3, [nilSl.v, (VI 0)]), (b2, [nilSl.v]), (b1, [y15.v, (VI y16), (Value.int .u64 y17)])] ->
 J1 s15 s25 y15 y16 y17 h15) /\
 ((decide (s17 = 0)) = false ->
 ((decide (s17 = 1)) = true ->
 (callM P 70 #[(VP b1 0), (VI (s15.n : Int))] h12 fun r7 h16 => ∃ y18 : Sl, ∃ y19 : Int, ∃ y20 : Int, ∃ s35 : Int, r7 = (VI s35) /\ Vars h16 [(b5, [s15.v, (VI s15b)]), (b4, [s7.v]), (b3, [nilSl.v, (VI 0)]), (b2, [nilSl.v]), (b1, [y18.v, (VI y19), (Value.int .u64 y20)])] /\
 eop P (Instr.buildSlice 33 3 #[(0, (.int .i64 (-1))), (1, (.int .i64 4)), (2, (.int .i64 5))]) h16 fun r8 h17 => ∃ s37 : Sl, r8 = s37.v /\ Vars h17 [(b5, [s15.v, (VI s15b)]), (b4, [s7.v]), (b3, [nilSl.v, (VI 0)]), (b2, [nilSl.v]), (b1, [y18.v, (VI y19), (Value.int .u64 y20)])] /\
 callM P 69 #[(VP b1 0), s37.v] h17 fun r9 h18 => ∃ y21 : Sl, ∃ y22 : Int, ∃ y23 : Int, ∃ s38 : Int, r9 = (VI s38) /\ Vars h18 [(b5, [s15.v, (VI s15b)]), (b4, [s7.v]), (b3, [nilSl.v, (VI 0)]), (b2, [nilSl.v]), (b1, [y21.v, (VI y22), (Value.int .u64 y23)])] /\
 InB s15 s35 /\
 Writable h18 (Sl.at s15 s35 1) /\ Vars (hset h18 (Sl.at s15 s35 1) (VI s38)) [(b5, [s15.v, (VI s15b)]), (b4, [s7.v]), (b3, [nilSl.v, (VI 0)]), (b2, [nilSl.v]), (b1, [y21.v, (VI y22), (Value.int .u64 y23)])] /\
 ∀ h19 : Heap, h19 = hset h18 (Sl.at s15 s35 1) (VI s38) -> Vars h19 [(b5, [s15.v, (VI s15b)]), (b4, [s7.v]), (b3, [nilSl.v, (VI 0)]), (b2, [nilSl.v]), (b1, [y21.v, (VI y22), (Value.int .u64 y23)])] ->
 J1 s15 s15b y21 y22 y23 h19) /\
 (eop P (Instr.buildSlice 33 3 #[(0, (.int .i64 (-1))), (1, (.int .i64 4)), (2, (.int .i64 5))]) h12 fun r10 h20 => ∃ s37b : Sl, r10 = s37b.v /\ Vars h20 [(b5, [s15.v, (VI s15b)]), (b4, [s7.v]), (b3, [nilSl.v, (VI 0)]), (b2, [nilSl.v]), (b1, [y12.v, (VI y13), (Value.int .u64 y14)])] /\
 callM P 70 #[(VP b1 0), (VI (s15.n : Int))] h20 fun r11 h21 => ∃ y24 : Sl, ∃ y25 : Int, ∃ y26 : Int, ∃ s35b : Int, r11 = (VI s35b) /\ Vars h21 [(b5, [s15.v, (VI s15b)]), (b4, [s7.v]), (b3, [nilSl.v, (VI 0)]), (b2, [nilSl.v]), (b1, [y24.v, (VI y25), (Value.int .u64 y26)])] /\
 callM P 69 #[(VP b1 0), s37b.v] h21 fun r12 h22 => ∃ y27 : Sl, ∃ y28 : Int, ∃ y29 : Int, ∃ s38b : Int, r12 = (VI s38b) /\ Vars h22 [(b5, [s15.v, (VI s15b)]), (b4, [s7.v]), (b3, [nilSl.v, (VI 0)]), (b2, [nilSl.v]), (b1, [y27.v, (VI y28), (Value.int .u64 y29)])] /\
 InB s15 s35b /\
 Writable h22 (Sl.at s15 s35b 1) /\ Vars (hset h22 (Sl.at s15 s35b 1) (VI s38b)) [(b5, [s15.v, (VI s15b)]), (b4, [s7.v]), (b3, [nilSl.v, (VI 0)]), (b2, [nilSl.v]), (b1, [y27.v, (VI y28), (Value.int .u64 y29)])] /\
 ∀ h23 : Heap, h23 = hset h22 (Sl.at s15 s35b 1) (VI s38b) -> Vars h23 [(b5, [s15.v, (VI s15b)]), (b4, [s7.v]), (b3, [nilSl.v, (VI 0)]), (b2, [nilSl.v]), (b1, [y27.v, (VI y28), (Value.int .u64 y29)])] ->
 J1 s15 s15b y27 y28 y29 h23)) /\
 ((decide (s17 = 1)) = false ->
 ((decide (s17 = 2)) = true ->
 eop P (Instr.buildSlice 33 1 #[(0, (.int .i64 0))]) h12 fun r13 h24 => ∃ s44 : Sl, r13 = s44.v /\ Vars h24 [(b5, [s15.v, (VI s15b)]), (b4, [s7.v]), (b3, [nilSl.v, (VI 0)]), (b2, [nilSl.v]), (b1, [y12.v, (VI y13), (Value.int .u64 y14)])] /\
 eop P (appS 33 33 33 s15.v s44.v) h24 fun r14 h25 => ∃ s45 : Sl, r14 = s45.v /\ Vars h25 [(b5, [s15.v, (VI s15b)]), (b4, [s7.v]), (b3, [nilSl.v, (VI 0)]), (b2, [nilSl.v]), (b1, [y12.v, (VI y13), (Value.int .u64 y14)])] /\
 ∀ (h26 : Heap), Fr (In [b5]) h25 h26 -> Vars h26 [(b5, [s45.v, (VI s15b)]), (b4, [s7.v]), (b3, [nilSl.v, (VI 0)]), (b2, [nilSl.v]), (b1, [y12.v, (VI y13), (Value.int .u64 y14)])] ->
 J1 s45 s15b y12 y13 y14 h26) /\
 ((decide (s17 = 2)) = false ->
 J1 s15 s15b y12 y13 y14 h12)))) /\
 ∀ (y7 : Sl) (y8 : Int) (y9 : Sl) (y10 : Int) (y11 : Int) (h27 : Heap), J1 y7 y8 y9 y10 y11 h27 -> Vars h27 [(b5, [y7.v, (VI y8)]), (b4, [s7.v]), (b3, [nilSl.v, (VI 0)]), (b2, [nilSl.v]), (b1, [y9.v, (VI y10), (Value.int .u64 y11)])] ->
 ∀ (h28 : Heap), Fr (In [b2]) h27 h28 -> Vars h28 [(b5, [y7.v, (VI y8)]), (b4, [s7.v]), (b3, [nilSl.v, (VI 0)]), (b2, [s7.v]), (b1, [y9.v, (VI y10), (Value.int .u64 y11)])] ->
 ∀ (h29 : Heap), Fr (In [b3]) h28 h29 -> Vars h29 [(b5, [y7.v, (VI y8)]), (b4, [s7.v]), (b3, [y7.v, (VI y8)]), (b2, [s7.v]), (b1, [y9.v, (VI y10), (Value.int .u64 y11)])] ->
 K (.tuple #[(.agg #[s7.v]), (.agg #[y7.v, (VI y8)])]) h29)
end Go.Proofs.YtkjkfjkapbpgiaaGreatDoor
