import Derived.Test.YtkjkfjkapbpgiaaGraphsReachedU1
import Derived.Test.YtkjkfjkapbpgiaaGraphsReachedT
import Derived.Test.YtkjkfjkapbpgiaaM2
set_option linter.unusedVariables false
set_option linter.unusedSimpArgs false
set_option maxRecDepth 100000
set_option maxHeartbeats 16000000
namespace Go.Proofs.Ytkjkfjkapbpgiaa
open Go Go.Mx
def u23 (P : Program) (code0_1 : Sl) (more1_1 : Sl) (h : Heap) (K : Value → Heap → Prop) : Prop :=
  ((decide (1048576 < (code0_1.n : Int))) = true →
  K (VB true) h) ∧
  ((decide (1048576 < (code0_1.n : Int))) = false →
  K (VB (decide ((w64 (1048576 - (code0_1.n : Int))) < (more1_1.n : Int)))) h)
theorem v23 (code0_1 : Sl) (more1_1 : Sl) (h : Heap) (K : Value → Heap → Prop) (H : u23 Try.prog code0_1 more1_1 h K) : callM Try.prog 23 #[(Sl.v code0_1), (Sl.v more1_1)] h K := by
  refine c23 (Sl.v code0_1) (Sl.v more1_1) h K ?_
  unfold u23 at H
  unfold t23
  have hL : Vars h [] := .nil
  refine pop_len code0_1 _ _ sli46 ?_
  refine pop_gtr .i64 (code0_1.n : Int) 1048576 ?_
  refine guardM_sf (fun hb_1 => ?_) (fun hb_1 => ?_)
  rotate_left
  ·have H := H.1 hb_1
   refine guardM_n' hb_1 (by decide) ?_
   refine guardM_n' hb_1 (by decide) ?_
   refine guardM_n' hb_1 (by decide) ?_
   refine guardM_n' hb_1 (by decide) ?_
   refine guardM_n' hb_1 (by decide) ?_
   refine pop_pickt' hb_1 ?_
   exact H
  have H := H.2 hb_1
  refine guardM_y' hb_1 ?_
  refine pop_len more1_1 _ _ sli46 ?_
  refine guardM_y' hb_1 ?_
  refine guardM_y' hb_1 ?_
  refine pop_len code0_1 _ _ sli46 ?_
  refine guardM_y' hb_1 ?_
  refine pop_sub .i64 1048576 (code0_1.n : Int) ?_
  refine guardM_y' hb_1 ?_
  refine pop_gtr .i64 (more1_1.n : Int) (w64 (1048576 - (code0_1.n : Int))) ?_
  refine pop_pickf' hb_1 ?_
  exact H
def u24 (P : Program) (code0_1 : Sl) (h : Heap) (K : Value → Heap → Prop) : Prop :=
  ∀ (b_1 : Nat) (b_2 : Nat) (h_2 : Heap), h.size ≤ b_1 → h.size ≤ b_2 → Fr (In []) h h_2 → Vars h_2 [(b_2, [(Sl.v code0_1), (VI 0), (Value.int .u64 0)]), (b_1, [(Sl.v nilSl)])] →
  callM P 63 #[(VP b_2 0)] h_2 fun rv_1 h_3 => ∃ x_1 : Sl, ∃ x_2 : Int, ∃ x_3 : Int, ∃ t11_1 : Sl, rv_1 = (Value.agg #[(Sl.v t11_1)]) ∧ Vars h_3 [(b_2, [(Sl.v x_1), (VI x_2), (Value.int .u64 x_3)]), (b_1, [(Sl.v nilSl)])] ∧
  ∀ (b_3 : Nat) (h_5 : Heap), h_3.size ≤ b_3 → Fr (In []) h_3 h_5 → Vars h_5 [(b_3, [(Sl.v t11_1)]), (b_2, [(Sl.v x_1), (VI x_2), (Value.int .u64 x_3)]), (b_1, [(Sl.v nilSl)])] →
  callM P 64 #[(VP b_2 0), (Value.agg #[(Sl.v t11_1)])] h_5 fun rv_2 h_6 => ∃ x_4 : Sl, ∃ x_5 : Int, ∃ x_6 : Int, ∃ t15_1 : Int, rv_2 = (VI t15_1) ∧ Vars h_6 [(b_3, [(Sl.v t11_1)]), (b_2, [(Sl.v x_4), (VI x_5), (Value.int .u64 x_6)]), (b_1, [(Sl.v nilSl)])] ∧
  callM P 64 #[(VP b_2 0), (Value.agg #[(Sl.v t11_1)])] h_6 fun rv_3 h_7 => ∃ x_7 : Sl, ∃ x_8 : Int, ∃ x_9 : Int, ∃ t18_1 : Int, rv_3 = (VI t18_1) ∧ Vars h_7 [(b_3, [(Sl.v t11_1)]), (b_2, [(Sl.v x_7), (VI x_8), (Value.int .u64 x_9)]), (b_1, [(Sl.v nilSl)])] ∧
  ∀ (h_8 : Heap), Fr (In [b_1]) h_7 h_8 → Vars h_8 [(b_3, [(Sl.v t11_1)]), (b_2, [(Sl.v x_7), (VI x_8), (Value.int .u64 x_9)]), (b_1, [(Sl.v t11_1)])] →
  K (Value.tuple #[(Value.agg #[(Sl.v t11_1)]), (VI t15_1), (VI t18_1)]) h_8
theorem v24 (code0_1 : Sl) (h : Heap) (K : Value → Heap → Prop) (H : u24 Try.prog code0_1 h K) : callM Try.prog 24 #[(Sl.v code0_1)] h K := by
  refine c24 (Sl.v code0_1) h K ?_
  unfold u24 at H
  unfold t24
  have hL : Vars h [] := .nil
  refine eop_alloc 32 zer32 rfl hL (fun b_1 h_1 hb_1 hf_1 hL_1 => ?_)
  refine pop.mk' (v := (Value.agg #[(Sl.v code0_1), (VI 0), (Value.int .u64 0)])) (fun w => by kernel_rfl) ?_
  refine eop_box 86 (Value.agg #[(Sl.v code0_1), (VI 0), (Value.int .u64 0)]) rfl hL_1 (fun b_2 h_2 hb_2 hf_2 hL_2 => ?_)
  have H := H b_1 b_2 h_2 (Nat.le_trans (Fr.size (Fr.r (In []) _)) hb_1) (Nat.le_trans (Fr.size (Fr.no' (Fr.r (In []) _) hf_1)) hb_2) (Fr.no' (Fr.no' (Fr.r (In []) _) hf_1) hf_2) hL_2
  refine H.mono fun rv_1 h_3 H => ?_
  obtain ⟨x_1, x_2, x_3, t11_1, rfl, hL_3, H⟩ := H
  refine eop_alloc 32 zer32 rfl hL_3 (fun b_3 h_4 hb_3 hf_3 hL_4 => ?_)
  refine uop_loc siz32 hL_4 0 rfl 0 [(Sl.v t11_1)] rfl rfl rfl (Nat.le_of_ble_eq_true rfl) (L' := [(b_3, [(Sl.v t11_1)]), (b_2, [(Sl.v x_1), (VI x_2), (Value.int .u64 x_3)]), (b_1, [(Sl.v nilSl)])]) rfl (fun h_5 hf_4 hL_5 => ?_)
  refine rop_locA agg32 hL_5 0 rfl 0 (vs := [(Sl.v t11_1)]) rfl rfl ?_
  refine rop_locA agg32 hL_5 0 rfl 0 (vs := [(Sl.v t11_1)]) rfl rfl ?_
  refine rop_locA agg32 hL_5 0 rfl 0 (vs := [(Sl.v t11_1)]) rfl rfl ?_
  have H := H b_3 h_5 (Nat.le_trans (Fr.size (Fr.r (In []) _)) hb_3) (Fr.new (Fr.no' (Fr.r (In []) _) hf_3) (Nat.le_trans (Fr.size (Fr.r (In []) _)) hb_3) hf_4) hL_5
  refine H.mono fun rv_2 h_6 H => ?_
  obtain ⟨x_4, x_5, x_6, t15_1, rfl, hL_6, H⟩ := H
  refine ⟨?_, ?_⟩
  ·exact still_locA agg32 hL_6 0 rfl 0 (vs := [(Sl.v t11_1)]) rfl rfl
  refine ⟨?_, ?_⟩
  ·exact still_locA agg32 hL_6 0 rfl 0 (vs := [(Sl.v t11_1)]) rfl rfl
  refine H.mono fun rv_3 h_7 H => ?_
  obtain ⟨x_7, x_8, x_9, t18_1, rfl, hL_7, H⟩ := H
  refine ⟨?_, ?_⟩
  ·exact still_locA agg32 hL_7 0 rfl 0 (vs := [(Sl.v t11_1)]) rfl rfl
  refine uop_loc siz32 hL_7 2 rfl 0 [(Sl.v t11_1)] rfl rfl rfl (Nat.le_of_ble_eq_true rfl) (L' := [(b_3, [(Sl.v t11_1)]), (b_2, [(Sl.v x_7), (VI x_8), (Value.int .u64 x_9)]), (b_1, [(Sl.v t11_1)])]) rfl (fun h_8 hf_5 hL_8 => ?_)
  refine rop_locA agg32 hL_8 2 rfl 0 (vs := [(Sl.v t11_1)]) rfl rfl ?_
  have H := H  h_8  (Fr.old (Fr.r (In []) _) hf_5) hL_8
  exact H
def u25 (P : Program) (g0_1 : Sl) (p1_1 : Int) (q2_1 : Int) (h : Heap) (K : Value → Heap → Prop) : Prop :=
  ∀ (b_1 : Nat) (h_1 : Heap), h.size ≤ b_1 → Fr (In []) h h_1 → Vars h_1 [(b_1, [(Sl.v g0_1)])] →
  eop P (Instr.buildSlice 27 2 #[(0, (VI p1_1)), (1, (VI q2_1))]) h_1 fun rv_1 h_2 => ∃ t11_1 : Sl, rv_1 = (Sl.v t11_1) ∧ Vars h_2 [(b_1, [(Sl.v g0_1)])] ∧
  callM P 65 #[(Value.agg #[(Sl.v g0_1)]), (Sl.v t11_1)] h_2 fun rv_2 h_3 => ∃ t12_1 : Bool, rv_2 = (VB t12_1) ∧ Vars h_3 [(b_1, [(Sl.v g0_1)])] ∧
  ((!t12_1) = true →
  K (Value.tuple #[(VI 0), (VB false)]) h_3) ∧
  ((!t12_1) = false →
  callM P 66 #[(Value.agg #[(Sl.v g0_1)]), (VI p1_1)] h_3 fun rv_3 h_4 => ∃ t17_1 : Sl, rv_3 = (Sl.v t17_1) ∧ Vars h_4 [(b_1, [(Sl.v g0_1)])] ∧
  InB t17_1 q2_1 ∧
  ∃ t20_1 : Int, hcell h_4 (Sl.at t17_1 q2_1 1) = some (VI t20_1) ∧
  ((decide (t20_1 < 0)) = true →
  K (Value.tuple #[(VI 0), (VB false)]) h_4) ∧
  ((decide (t20_1 < 0)) = false →
  callM P 66 #[(Value.agg #[(Sl.v g0_1)]), (VI p1_1)] h_4 fun rv_4 h_5 => ∃ t25_1 : Sl, rv_4 = (Sl.v t25_1) ∧ Vars h_5 [(b_1, [(Sl.v g0_1)])] ∧
  InB t25_1 q2_1 ∧
  ∃ t28_1 : Int, hcell h_5 (Sl.at t25_1 q2_1 1) = some (VI t28_1) ∧
  K (Value.tuple #[(VI t28_1), (VB true)]) h_5))
theorem v25 (g0_1 : Sl) (p1_1 : Int) (q2_1 : Int) (h : Heap) (K : Value → Heap → Prop) (H : u25 Try.prog g0_1 p1_1 q2_1 h K) : callM Try.prog 25 #[(Value.agg #[(Sl.v g0_1)]), (VI p1_1), (VI q2_1)] h K := by
  refine c25 (Value.agg #[(Sl.v g0_1)]) (VI p1_1) (VI q2_1) h K ?_
  unfold u25 at H
  unfold t25
  have hL : Vars h [] := .nil
  refine eop_box 32 (Value.agg #[(Sl.v g0_1)]) rfl hL (fun b_1 h_1 hb_1 hf_1 hL_1 => ?_)
  refine rop_locA agg32 hL_1 0 rfl 0 (vs := [(Sl.v g0_1)]) rfl rfl ?_
  have H := H b_1 h_1 (Nat.le_trans (Fr.size (Fr.r (In []) _)) hb_1) (Fr.no' (Fr.r (In []) _) hf_1) hL_1
  refine H.mono fun rv_1 h_2 H => ?_
  obtain ⟨t11_1, rfl, hL_2, H⟩ := H
  refine H.mono fun rv_2 h_3 H => ?_
  obtain ⟨t12_1, rfl, hL_3, H⟩ := H
  refine pop_not t12_1 ?_
  refine guardM_sf (fun hb_2 => ?_) (fun hb_2 => ?_)
  rotate_left
  ·have H := H.1 hb_2
   refine guardM_n' hb_2 (by decide) ?_
   refine guardM_n' hb_2 (by decide) ?_
   refine guardM_n' hb_2 (by decide) ?_
   refine guardM_n' hb_2 (by decide) ?_
   refine guardM_n' hb_2 (by decide) ?_
   refine guardM_n' hb_2 (by decide) ?_
   refine pop_pickt' hb_2 ?_
   refine condM_t ?_
   exact H
  have H := H.2 hb_2
  refine rop_locA agg32 hL_3 0 rfl 0 (vs := [(Sl.v g0_1)]) rfl rfl ?_
  refine guardM_y' hb_2 ?_
  refine guardM_y' hb_2 ?_
  refine H.mono fun rv_3 h_4 H => ?_
  obtain ⟨t17_1, rfl, hL_4, H⟩ := H
  refine guardM_y' hb_2 ?_
  refine guardM_y' hb_2 ?_
  obtain ⟨hi_1, H⟩ := H
  refine pop_index sli27 siz3 .i64 t17_1 q2_1 hi_1 ?_
  refine guardM_y' hb_2 ?_
  obtain ⟨t20_1, hc_2, H⟩ := H
  refine rop_one one3 (VI t20_1) hc_2 ?_
  refine guardM_y' hb_2 ?_
  refine pop_lss .i64 t20_1 0 ?_
  refine pop_pickf' hb_2 ?_
  refine condM_b (fun hb_3 => ?_) (fun hb_3 => ?_)
  ·have H := H.1 hb_3
   exact H
  have H := H.2 hb_3
  refine rop_locA agg32 hL_4 0 rfl 0 (vs := [(Sl.v g0_1)]) rfl rfl ?_
  refine H.mono fun rv_4 h_5 H => ?_
  obtain ⟨t25_1, rfl, hL_5, H⟩ := H
  obtain ⟨hi_2, H⟩ := H
  refine pop_index sli27 siz3 .i64 t25_1 q2_1 hi_2 ?_
  obtain ⟨t28_1, hc_1, H⟩ := H
  refine rop_one one3 (VI t28_1) hc_1 ?_
  exact H
def u26 (P : Program) (g0_1 : Sl) (p1_1 : Int) (q2_1 : Int) (h : Heap) (K : Value → Heap → Prop) : Prop :=
  ∀ (b_1 : Nat) (h_1 : Heap), h.size ≤ b_1 → Fr (In []) h h_1 → Vars h_1 [(b_1, [(Sl.v g0_1)])] →
  callM P 67 #[(Value.agg #[(Sl.v g0_1)]), (VI p1_1)] h_1 fun rv_1 h_2 => ∃ t10_1 : Bool, rv_1 = (VB t10_1) ∧ Vars h_2 [(b_1, [(Sl.v g0_1)])] ∧
  ((!t10_1) = true →
  K (Value.tuple #[(VI 0), (VB false)]) h_2) ∧
  ((!t10_1) = false →
  callM P 67 #[(Value.agg #[(Sl.v g0_1)]), (VI q2_1)] h_2 fun rv_2 h_3 => ∃ t15_1 : Bool, rv_2 = (VB t15_1) ∧ Vars h_3 [(b_1, [(Sl.v g0_1)])] ∧
  ((!t15_1) = true →
  K (Value.tuple #[(VI 0), (VB false)]) h_3) ∧
  ((!t15_1) = false →
  callM P 68 #[(Value.agg #[(Sl.v g0_1)]), (VI p1_1)] h_3 fun rv_3 h_4 => ∃ t21_1 : Sl, rv_3 = (Sl.v t21_1) ∧ Vars h_4 [(b_1, [(Sl.v g0_1)])] ∧
  InB t21_1 q2_1 ∧
  ∃ t24_1 : Int, hcell h_4 (Sl.at t21_1 q2_1 1) = some (VI t24_1) ∧
  ((decide (t24_1 < 0)) = true →
  K (Value.tuple #[(VI 0), (VB false)]) h_4) ∧
  ((decide (t24_1 < 0)) = false →
  callM P 68 #[(Value.agg #[(Sl.v g0_1)]), (VI p1_1)] h_4 fun rv_4 h_5 => ∃ t29_1 : Sl, rv_4 = (Sl.v t29_1) ∧ Vars h_5 [(b_1, [(Sl.v g0_1)])] ∧
  InB t29_1 q2_1 ∧
  ∃ t32_1 : Int, hcell h_5 (Sl.at t29_1 q2_1 1) = some (VI t32_1) ∧
  K (Value.tuple #[(VI t32_1), (VB true)]) h_5)))
theorem v26 (g0_1 : Sl) (p1_1 : Int) (q2_1 : Int) (h : Heap) (K : Value → Heap → Prop) (H : u26 Try.prog g0_1 p1_1 q2_1 h K) : callM Try.prog 26 #[(Value.agg #[(Sl.v g0_1)]), (VI p1_1), (VI q2_1)] h K := by
  refine c26 (Value.agg #[(Sl.v g0_1)]) (VI p1_1) (VI q2_1) h K ?_
  unfold u26 at H
  unfold t26
  have hL : Vars h [] := .nil
  refine eop_box 32 (Value.agg #[(Sl.v g0_1)]) rfl hL (fun b_1 h_1 hb_1 hf_1 hL_1 => ?_)
  refine rop_locA agg32 hL_1 0 rfl 0 (vs := [(Sl.v g0_1)]) rfl rfl ?_
  have H := H b_1 h_1 (Nat.le_trans (Fr.size (Fr.r (In []) _)) hb_1) (Fr.no' (Fr.r (In []) _) hf_1) hL_1
  refine H.mono fun rv_1 h_2 H => ?_
  obtain ⟨t10_1, rfl, hL_2, H⟩ := H
  refine pop_not t10_1 ?_
  refine guardM_sf (fun hb_2 => ?_) (fun hb_2 => ?_)
  rotate_left
  ·have H := H.1 hb_2
   refine guardM_n' hb_2 (by decide) ?_
   refine guardM_n' hb_2 (by decide) ?_
   refine guardM_n' hb_2 (by decide) ?_
   refine pop_pickt' hb_2 ?_
   refine guardM_n (by decide) ?_
   refine guardM_n (by decide) ?_
   refine guardM_n (by decide) ?_
   refine guardM_n (by decide) ?_
   refine guardM_n (by decide) ?_
   refine guardM_n (by decide) ?_
   refine guardM_n (by decide) ?_
   refine pop_pickt _ _ ?_
   refine condM_t ?_
   exact H
  have H := H.2 hb_2
  refine rop_locA agg32 hL_2 0 rfl 0 (vs := [(Sl.v g0_1)]) rfl rfl ?_
  refine guardM_y' hb_2 ?_
  refine guardM_y' hb_2 ?_
  refine H.mono fun rv_2 h_3 H => ?_
  obtain ⟨t15_1, rfl, hL_3, H⟩ := H
  refine guardM_y' hb_2 ?_
  refine pop_not t15_1 ?_
  refine pop_pickf' hb_2 ?_
  refine guardM_sf (fun hb_3 => ?_) (fun hb_3 => ?_)
  rotate_left
  ·have H := H.1 hb_3
   refine guardM_n' hb_3 (by decide) ?_
   refine guardM_n' hb_3 (by decide) ?_
   refine guardM_n' hb_3 (by decide) ?_
   refine guardM_n' hb_3 (by decide) ?_
   refine guardM_n' hb_3 (by decide) ?_
   refine guardM_n' hb_3 (by decide) ?_
   refine pop_pickt' hb_3 ?_
   refine condM_t ?_
   exact H
  have H := H.2 hb_3
  refine rop_locA agg32 hL_3 0 rfl 0 (vs := [(Sl.v g0_1)]) rfl rfl ?_
  refine guardM_y' hb_3 ?_
  refine guardM_y' hb_3 ?_
  refine H.mono fun rv_3 h_4 H => ?_
  obtain ⟨t21_1, rfl, hL_4, H⟩ := H
  refine guardM_y' hb_3 ?_
  refine guardM_y' hb_3 ?_
  obtain ⟨hi_1, H⟩ := H
  refine pop_index sli27 siz3 .i64 t21_1 q2_1 hi_1 ?_
  refine guardM_y' hb_3 ?_
  obtain ⟨t24_1, hc_2, H⟩ := H
  refine rop_one one3 (VI t24_1) hc_2 ?_
  refine guardM_y' hb_3 ?_
  refine pop_lss .i64 t24_1 0 ?_
  refine pop_pickf' hb_3 ?_
  refine condM_b (fun hb_4 => ?_) (fun hb_4 => ?_)
  ·have H := H.1 hb_4
   exact H
  have H := H.2 hb_4
  refine rop_locA agg32 hL_4 0 rfl 0 (vs := [(Sl.v g0_1)]) rfl rfl ?_
  refine H.mono fun rv_4 h_5 H => ?_
  obtain ⟨t29_1, rfl, hL_5, H⟩ := H
  obtain ⟨hi_2, H⟩ := H
  refine pop_index sli27 siz3 .i64 t29_1 q2_1 hi_2 ?_
  obtain ⟨t32_1, hc_1, H⟩ := H
  refine rop_one one3 (VI t32_1) hc_1 ?_
  exact H
def u27 (P : Program) (g0_1 : Sl) (p1_1 : Int) (h : Heap) (K : Value → Heap → Prop) : Prop :=
  ∀ (b_1 : Nat) (h_1 : Heap), h.size ≤ b_1 → Fr (In []) h h_1 → Vars h_1 [(b_1, [(Sl.v g0_1)])] →
  eop P (Instr.buildSlice 27 1 #[(0, (VI p1_1))]) h_1 fun rv_1 h_2 => ∃ t8_1 : Sl, rv_1 = (Sl.v t8_1) ∧ Vars h_2 [(b_1, [(Sl.v g0_1)])] ∧
  callM P 65 #[(Value.agg #[(Sl.v g0_1)]), (Sl.v t8_1)] h_2 fun rv_2 h_3 => ∃ t9_1 : Bool, rv_2 = (VB t9_1) ∧ Vars h_3 [(b_1, [(Sl.v g0_1)])] ∧
  ((!t9_1) = true →
  K (Value.tuple #[(Sl.v nilSl), (VB false)]) h_3) ∧
  ((!t9_1) = false →
  callM P 69 #[(Value.agg #[(Sl.v g0_1)]), (VI p1_1)] h_3 fun rv_3 h_4 => ∃ t13_1 : Sl, rv_3 = (Sl.v t13_1) ∧ Vars h_4 [(b_1, [(Sl.v g0_1)])] ∧
  K (Value.tuple #[(Sl.v t13_1), (VB true)]) h_4)
theorem v27 (g0_1 : Sl) (p1_1 : Int) (h : Heap) (K : Value → Heap → Prop) (H : u27 Try.prog g0_1 p1_1 h K) : callM Try.prog 27 #[(Value.agg #[(Sl.v g0_1)]), (VI p1_1)] h K := by
  refine c27 (Value.agg #[(Sl.v g0_1)]) (VI p1_1) h K ?_
  unfold u27 at H
  unfold t27
  have hL : Vars h [] := .nil
  refine eop_box 32 (Value.agg #[(Sl.v g0_1)]) rfl hL (fun b_1 h_1 hb_1 hf_1 hL_1 => ?_)
  refine rop_locA agg32 hL_1 0 rfl 0 (vs := [(Sl.v g0_1)]) rfl rfl ?_
  have H := H b_1 h_1 (Nat.le_trans (Fr.size (Fr.r (In []) _)) hb_1) (Fr.no' (Fr.r (In []) _) hf_1) hL_1
  refine H.mono fun rv_1 h_2 H => ?_
  obtain ⟨t8_1, rfl, hL_2, H⟩ := H
  refine H.mono fun rv_2 h_3 H => ?_
  obtain ⟨t9_1, rfl, hL_3, H⟩ := H
  refine pop_not t9_1 ?_
  refine condM_b (fun hb_2 => ?_) (fun hb_2 => ?_)
  ·have H := H.1 hb_2
   exact H
  have H := H.2 hb_2
  refine rop_locA agg32 hL_3 0 rfl 0 (vs := [(Sl.v g0_1)]) rfl rfl ?_
  refine H.mono fun rv_3 h_4 H => ?_
  obtain ⟨t13_1, rfl, hL_4, H⟩ := H
  exact H
def u28 (P : Program) (g0_1 : Sl) (p1_1 : Int) (h : Heap) (K : Value → Heap → Prop) : Prop :=
  ∀ (b_1 : Nat) (h_1 : Heap), h.size ≤ b_1 → Fr (In []) h h_1 → Vars h_1 [(b_1, [(Sl.v g0_1)])] →
  callM P 67 #[(Value.agg #[(Sl.v g0_1)]), (VI p1_1)] h_1 fun rv_1 h_2 => ∃ t8_1 : Bool, rv_1 = (VB t8_1) ∧ Vars h_2 [(b_1, [(Sl.v g0_1)])] ∧
  ((!t8_1) = true →
  K (Value.tuple #[(Sl.v nilSl), (VB false)]) h_2) ∧
  ((!t8_1) = false →
  callM P 70 #[(Value.agg #[(Sl.v g0_1)]), (VI p1_1)] h_2 fun rv_2 h_3 => ∃ t12_1 : Sl, rv_2 = (Sl.v t12_1) ∧ Vars h_3 [(b_1, [(Sl.v g0_1)])] ∧
  K (Value.tuple #[(Sl.v t12_1), (VB true)]) h_3)
theorem v28 (g0_1 : Sl) (p1_1 : Int) (h : Heap) (K : Value → Heap → Prop) (H : u28 Try.prog g0_1 p1_1 h K) : callM Try.prog 28 #[(Value.agg #[(Sl.v g0_1)]), (VI p1_1)] h K := by
  refine c28 (Value.agg #[(Sl.v g0_1)]) (VI p1_1) h K ?_
  unfold u28 at H
  unfold t28
  have hL : Vars h [] := .nil
  refine eop_box 32 (Value.agg #[(Sl.v g0_1)]) rfl hL (fun b_1 h_1 hb_1 hf_1 hL_1 => ?_)
  refine rop_locA agg32 hL_1 0 rfl 0 (vs := [(Sl.v g0_1)]) rfl rfl ?_
  have H := H b_1 h_1 (Nat.le_trans (Fr.size (Fr.r (In []) _)) hb_1) (Fr.no' (Fr.r (In []) _) hf_1) hL_1
  refine H.mono fun rv_1 h_2 H => ?_
  obtain ⟨t8_1, rfl, hL_2, H⟩ := H
  refine pop_not t8_1 ?_
  refine condM_b (fun hb_2 => ?_) (fun hb_2 => ?_)
  ·have H := H.1 hb_2
   exact H
  have H := H.2 hb_2
  refine rop_locA agg32 hL_2 0 rfl 0 (vs := [(Sl.v g0_1)]) rfl rfl ?_
  refine H.mono fun rv_2 h_3 H => ?_
  obtain ⟨t12_1, rfl, hL_3, H⟩ := H
  exact H
def u29 (P : Program) (a0_1 : Sl) (b1_1 : Sl) (h : Heap) (K : Value → Heap → Prop) : Prop :=
  ((!decide ((a0_1.n : Int) = (b1_1.n : Int))) = true →
  K (VB false) h) ∧
  ((!decide ((a0_1.n : Int) = (b1_1.n : Int))) = false →
  ∃ J_1 : Nat → Int → Heap → Prop, (∃ n0 : Nat, J_1 n0 0 h) ∧
  ∀ (n_1 : Nat) (t13_1 : Int) (h_1 : Heap), J_1 n_1 t13_1 h_1 → Vars h_1 [] →
  ((decide (t13_1 < (a0_1.n : Int))) = true →
  InB a0_1 t13_1 ∧
  ∃ t19_1 : Int, hcell h_1 (Sl.at a0_1 t13_1 1) = some (VI t19_1) ∧
  InB b1_1 t13_1 ∧
  ∃ t23_1 : Int, hcell h_1 (Sl.at b1_1 t13_1 1) = some (VI t23_1) ∧
  ((!decide (t19_1 = t23_1)) = true →
  K (VB false) h_1) ∧
  ((!decide (t19_1 = t23_1)) = false →
  ∃ m : Nat, m < n_1 ∧ J_1 m (w64 (t13_1 + 1)) h_1)) ∧
  ((decide (t13_1 < (a0_1.n : Int))) = false →
  K (VB true) h_1))
theorem v29 (a0_1 : Sl) (b1_1 : Sl) (h : Heap) (K : Value → Heap → Prop) (H : u29 Try.prog a0_1 b1_1 h K) : callM Try.prog 29 #[(Sl.v a0_1), (Sl.v b1_1)] h K := by
  refine c29 (Sl.v a0_1) (Sl.v b1_1) h K ?_
  unfold u29 at H
  unfold t29
  have hL : Vars h [] := .nil
  refine pop_len a0_1 _ _ sli27 ?_
  refine pop_len b1_1 _ _ sli27 ?_
  refine pop_ine .i64 _ _ (a0_1.n : Int) (b1_1.n : Int) ?_
  refine condM_b (fun hb_1 => ?_) (fun hb_1 => ?_)
  ·have H := H.1 hb_1
   exact H
  have H := H.2 hb_1
  refine pop_len a0_1 _ _ sli27 ?_
  obtain ⟨J_1, ⟨n_2, h0_1⟩, HB_1⟩ := H
  refine loop_intro (J := fun (n : Nat) (vs : List Value) (h' : Heap) => ∃ t13_1 : Int, vs = [(VI t13_1)] ∧ J_1 n t13_1 h' ∧ Vars h' []) n_2 ⟨0, rfl, h0_1, hL⟩ ?_
  intro I_1 mu_1 hI_1 junk_1 tv_1 h_1 hi_1
  obtain ⟨n_1, ⟨t13_1, hv, hJ_1, hL_1⟩, hn_1⟩ := hI_1 _ _ hi_1
  cases hv
  have H := HB_1 n_1 t13_1 h_1 hJ_1 hL_1
  refine pop_lss .i64 t13_1 (a0_1.n : Int) ?_
  refine condM_b (fun hb_2 => ?_) (fun hb_2 => ?_)
  rotate_left
  ·have H := H.2 hb_2
   exact H
  have H := H.1 hb_2
  obtain ⟨hi_2, H⟩ := H
  refine pop_index sli27 siz3 .i64 a0_1 t13_1 hi_2 ?_
  obtain ⟨t19_1, hc_2, H⟩ := H
  refine rop_one one3 (VI t19_1) hc_2 ?_
  obtain ⟨hi_3, H⟩ := H
  refine pop_index sli27 siz3 .i64 b1_1 t13_1 hi_3 ?_
  obtain ⟨t23_1, hc_1, H⟩ := H
  refine rop_one one3 (VI t23_1) hc_1 ?_
  refine pop_ine .i64 _ _ t19_1 t23_1 ?_
  refine condM_b (fun hb_3 => ?_) (fun hb_3 => ?_)
  ·have H := H.1 hb_3
   exact H
  have H := H.2 hb_3
  refine pop_add .i64 t13_1 1 ?_
  obtain ⟨m_1, hm_1, H⟩ := H
  exact hn_1 _ _ ⟨m_1, hm_1, (w64 (t13_1 + 1)), rfl, H, hL_1⟩
def u30 (P : Program) (g0_1 : Sl) (h : Heap) (K : Value → Heap → Prop) : Prop :=
  ∀ (b_1 : Nat) (h_1 : Heap), h.size ≤ b_1 → Fr (In []) h h_1 → Vars h_1 [(b_1, [(Sl.v g0_1)])] →
  callM P 56 #[(Value.agg #[(Sl.v g0_1)])] h_1 fun rv_1 h_2 => ∃ t4_1 : Bool, rv_1 = (VB t4_1) ∧ Vars h_2 [(b_1, [(Sl.v g0_1)])] ∧
  K (VB t4_1) h_2
theorem v30 (g0_1 : Sl) (h : Heap) (K : Value → Heap → Prop) (H : u30 Try.prog g0_1 h K) : callM Try.prog 30 #[(Value.agg #[(Sl.v g0_1)])] h K := by
  refine c30 (Value.agg #[(Sl.v g0_1)]) h K ?_
  unfold u30 at H
  unfold t30
  have hL : Vars h [] := .nil
  refine eop_box 32 (Value.agg #[(Sl.v g0_1)]) rfl hL (fun b_1 h_1 hb_1 hf_1 hL_1 => ?_)
  refine rop_locA agg32 hL_1 0 rfl 0 (vs := [(Sl.v g0_1)]) rfl rfl ?_
  have H := H b_1 h_1 (Nat.le_trans (Fr.size (Fr.r (In []) _)) hb_1) (Fr.no' (Fr.r (In []) _) hf_1) hL_1
  refine H.mono fun rv_1 h_2 H => ?_
  obtain ⟨t4_1, rfl, hL_2, H⟩ := H
  exact H
def u31 (P : Program) (a0_1 : Sl) (n1_1 : Int) (h : Heap) (K : Value → Heap → Prop) : Prop :=
  ∃ J_1 : Nat → Int → Heap → Prop, (∃ n0 : Nat, J_1 n0 0 h) ∧
  ∀ (n_1 : Nat) (t9_1 : Int) (h_1 : Heap), J_1 n_1 t9_1 h_1 → Vars h_1 [] →
  ((decide (t9_1 < (a0_1.n : Int))) = true →
  InB a0_1 t9_1 ∧
  ∃ t12_1 : Int, hcell h_1 (Sl.at a0_1 t9_1 1) = some (VI t12_1) ∧
  ((decide (t12_1 = n1_1)) = true →
  K (VB true) h_1) ∧
  ((decide (t12_1 = n1_1)) = false →
  ∃ m : Nat, m < n_1 ∧ J_1 m (w64 (t9_1 + 1)) h_1)) ∧
  ((decide (t9_1 < (a0_1.n : Int))) = false →
  K (VB false) h_1)
theorem v31 (a0_1 : Sl) (n1_1 : Int) (h : Heap) (K : Value → Heap → Prop) (H : u31 Try.prog a0_1 n1_1 h K) : callM Try.prog 31 #[(Sl.v a0_1), (VI n1_1)] h K := by
  refine c31 (Sl.v a0_1) (VI n1_1) h K ?_
  unfold u31 at H
  unfold t31
  have hL : Vars h [] := .nil
  refine pop_len a0_1 _ _ sli27 ?_
  obtain ⟨J_1, ⟨n_2, h0_1⟩, HB_1⟩ := H
  refine loop_intro (J := fun (n : Nat) (vs : List Value) (h' : Heap) => ∃ t9_1 : Int, vs = [(VI t9_1)] ∧ J_1 n t9_1 h' ∧ Vars h' []) n_2 ⟨0, rfl, h0_1, hL⟩ ?_
  intro I_1 mu_1 hI_1 junk_1 tv_1 h_1 hi_1
  obtain ⟨n_1, ⟨t9_1, hv, hJ_1, hL_1⟩, hn_1⟩ := hI_1 _ _ hi_1
  cases hv
  have H := HB_1 n_1 t9_1 h_1 hJ_1 hL_1
  refine pop_lss .i64 t9_1 (a0_1.n : Int) ?_
  refine condM_b (fun hb_1 => ?_) (fun hb_1 => ?_)
  rotate_left
  ·have H := H.2 hb_1
   exact H
  have H := H.1 hb_1
  obtain ⟨hi_2, H⟩ := H
  refine pop_index sli27 siz3 .i64 a0_1 t9_1 hi_2 ?_
  obtain ⟨t12_1, hc_1, H⟩ := H
  refine rop_one one3 (VI t12_1) hc_1 ?_
  refine pop_ieq .i64 _ _ t12_1 n1_1 ?_
  refine condM_b (fun hb_2 => ?_) (fun hb_2 => ?_)
  ·have H := H.1 hb_2
   exact H
  have H := H.2 hb_2
  refine pop_add .i64 t9_1 1 ?_
  obtain ⟨m_1, hm_1, H⟩ := H
  exact hn_1 _ _ ⟨m_1, hm_1, (w64 (t9_1 + 1)), rfl, H, hL_1⟩
def u32 (P : Program) (code0_1 : Sl) (h : Heap) (K : Value → Heap → Prop) : Prop :=
  ∀ (b_1 : Nat) (h_1 : Heap), h.size ≤ b_1 → Fr (In []) h h_1 → Vars h_1 [(b_1, [(Sl.v nilSl)])] →
  callM P 71 #[(Sl.v code0_1)] h_1 fun rv_1 h_2 => ∃ t4_1 : Sl, rv_1 = (Value.agg #[(Sl.v t4_1)]) ∧ Vars h_2 [(b_1, [(Sl.v nilSl)])] ∧
  ∀ (h_3 : Heap), Fr (In [b_1]) h_2 h_3 → Vars h_3 [(b_1, [(Sl.v t4_1)])] →
  K (Value.agg #[(Sl.v t4_1)]) h_3
theorem v32 (code0_1 : Sl) (h : Heap) (K : Value → Heap → Prop) (H : u32 Try.prog code0_1 h K) : callM Try.prog 32 #[(Sl.v code0_1)] h K := by
  refine c32 (Sl.v code0_1) h K ?_
  unfold u32 at H
  unfold t32
  have hL : Vars h [] := .nil
  refine eop_alloc 32 zer32 rfl hL (fun b_1 h_1 hb_1 hf_1 hL_1 => ?_)
  have H := H b_1 h_1 (Nat.le_trans (Fr.size (Fr.r (In []) _)) hb_1) (Fr.no' (Fr.r (In []) _) hf_1) hL_1
  refine H.mono fun rv_1 h_2 H => ?_
  obtain ⟨t4_1, rfl, hL_2, H⟩ := H
  refine uop_loc siz32 hL_2 0 rfl 0 [(Sl.v t4_1)] rfl rfl rfl (Nat.le_of_ble_eq_true rfl) (L' := [(b_1, [(Sl.v t4_1)])]) rfl (fun h_3 hf_2 hL_3 => ?_)
  refine rop_locA agg32 hL_3 0 rfl 0 (vs := [(Sl.v t4_1)]) rfl rfl ?_
  have H := H  h_3  (Fr.old (Fr.r (In []) _) hf_2) hL_3
  exact H
def u33 (P : Program) (g0_1 : Sl) (h : Heap) (K : Value → Heap → Prop) : Prop :=
  ∀ (b_1 : Nat) (h_1 : Heap), h.size ≤ b_1 → Fr (In []) h h_1 → Vars h_1 [(b_1, [(Sl.v g0_1)])] →
  callM P 56 #[(Value.agg #[(Sl.v g0_1)])] h_1 fun rv_1 h_2 => ∃ t11_1 : Bool, rv_1 = (VB t11_1) ∧ Vars h_2 [(b_1, [(Sl.v g0_1)])] ∧
  ((!t11_1) = true →
  K (Value.tuple #[(Sl.v nilSl), (VB false)]) h_2) ∧
  ((!t11_1) = false →
  ∃ J_1 : Sl → Sl → Heap → Prop, ((eop P (Instr.buildSlice 22 0 #[]) h_2 fun rv_2 h_3 => ∃ t13_1 : Sl, rv_2 = (Sl.v t13_1) ∧ Vars h_3 [(b_1, [(Sl.v g0_1)])] ∧
  eop P (Instr.makeSlice 93 (VI (g0_1.n : Int)) (VI (g0_1.n : Int))) h_3 fun rv_3 h_4 => ∃ t17_1 : Sl, rv_3 = (Sl.v t17_1) ∧ Vars h_4 [(b_1, [(Sl.v g0_1)])] ∧
  J_1 t13_1 t17_1 h_4) ∧
  (eop P (Instr.makeSlice 93 (VI (g0_1.n : Int)) (VI (g0_1.n : Int))) h_2 fun rv_4 h_5 => ∃ t17_2 : Sl, rv_4 = (Sl.v t17_2) ∧ Vars h_5 [(b_1, [(Sl.v g0_1)])] ∧
  eop P (Instr.buildSlice 22 0 #[]) h_5 fun rv_5 h_6 => ∃ t13_2 : Sl, rv_5 = (Sl.v t13_2) ∧ Vars h_6 [(b_1, [(Sl.v g0_1)])] ∧
  J_1 t13_2 t17_2 h_6)) ∧
  ∀ (x_1 : Sl) (x_2 : Sl) (h_7 : Heap), J_1 x_1 x_2 h_7 → Vars h_7 [(b_1, [(Sl.v g0_1)])] →
  ∃ J_2 : Nat → Sl → Int → Heap → Prop, (∃ n0 : Nat, J_2 n0 x_1 0 h_7) ∧
  ∀ (n_1 : Nat) (out4_1 : Sl) (t21_1 : Int) (h_8 : Heap), J_2 n_1 out4_1 t21_1 h_8 → Vars h_8 [(b_1, [(Sl.v g0_1)])] →
  ((decide (t21_1 < (g0_1.n : Int))) = true →
  InB x_2 t21_1 ∧
  ∃ t27_1 : Bool, hcell h_8 (Sl.at x_2 t21_1 1) = some (VB t27_1) ∧
  (t27_1 = true →
  ∃ m : Nat, m < n_1 ∧ J_2 m out4_1 (w64 (t21_1 + 1)) h_8) ∧
  (t27_1 = false →
  eop P (Instr.buildSlice 27 0 #[]) h_8 fun rv_6 h_9 => ∃ t28_1 : Sl, rv_6 = (Sl.v t28_1) ∧ Vars h_9 [(b_1, [(Sl.v g0_1)])] ∧
  callM P 69 #[(Value.agg #[(Sl.v g0_1)]), (VI t21_1)] h_9 fun rv_7 h_10 => ∃ t31_1 : Sl, rv_7 = (Sl.v t31_1) ∧ Vars h_10 [(b_1, [(Sl.v g0_1)])] ∧
  ∃ J_3 : Nat → Sl → Int → Heap → Prop, (∃ n0 : Nat, J_3 n0 t28_1 0 h_10) ∧
  ∀ (n_2 : Nat) (part7_1 : Sl) (t33_1 : Int) (h_11 : Heap), J_3 n_2 part7_1 t33_1 h_11 → Vars h_11 [(b_1, [(Sl.v g0_1)])] →
  ((decide (t33_1 < (t31_1.n : Int))) = true →
  InB t31_1 t33_1 ∧
  ∃ t36_1 : Int, hcell h_11 (Sl.at t31_1 t33_1 1) = some (VI t36_1) ∧
  callM P 69 #[(Value.agg #[(Sl.v g0_1)]), (VI t36_1)] h_11 fun rv_8 h_12 => ∃ t39_1 : Sl, rv_8 = (Sl.v t39_1) ∧ Vars h_12 [(b_1, [(Sl.v g0_1)])] ∧
  callM P 72 #[(Sl.v t39_1), (VI t21_1)] h_12 fun rv_9 h_13 => ∃ t41_1 : Bool, rv_9 = (VB t41_1) ∧ Vars h_13 [(b_1, [(Sl.v g0_1)])] ∧
  (t41_1 = true →
  eop P (Instr.buildSlice 27 1 #[(0, (VI t36_1))]) h_13 fun rv_10 h_14 => ∃ t46_1 : Sl, rv_10 = (Sl.v t46_1) ∧ Vars h_14 [(b_1, [(Sl.v g0_1)])] ∧
  eop P (appS 27 27 27 (Sl.v part7_1) (Sl.v t46_1)) h_14 fun rv_11 h_15 => ∃ t47_1 : Sl, rv_11 = (Sl.v t47_1) ∧ Vars h_15 [(b_1, [(Sl.v g0_1)])] ∧
  InB x_2 t36_1 ∧
  Writable h_15 (Sl.at x_2 t36_1 1) ∧ Vars (hset h_15 (Sl.at x_2 t36_1 1) (VB true)) [(b_1, [(Sl.v g0_1)])] ∧
  ∀ h_16 : Heap, h_16 = hset h_15 (Sl.at x_2 t36_1 1) (VB true) → Vars h_16 [(b_1, [(Sl.v g0_1)])] →
  ∃ m : Nat, m < n_2 ∧ J_3 m t47_1 (w64 (t33_1 + 1)) h_16) ∧
  (t41_1 = false →
  ∃ m : Nat, m < n_2 ∧ J_3 m part7_1 (w64 (t33_1 + 1)) h_13)) ∧
  ((decide (t33_1 < (t31_1.n : Int))) = false →
  eop P (Instr.buildSlice 22 1 #[(0, (Sl.v part7_1))]) h_11 fun rv_12 h_17 => ∃ t52_1 : Sl, rv_12 = (Sl.v t52_1) ∧ Vars h_17 [(b_1, [(Sl.v g0_1)])] ∧
  eop P (appS 22 22 22 (Sl.v out4_1) (Sl.v t52_1)) h_17 fun rv_13 h_18 => ∃ t53_1 : Sl, rv_13 = (Sl.v t53_1) ∧ Vars h_18 [(b_1, [(Sl.v g0_1)])] ∧
  ∃ m : Nat, m < n_1 ∧ J_2 m t53_1 (w64 (t21_1 + 1)) h_18))) ∧
  ((decide (t21_1 < (g0_1.n : Int))) = false →
  K (Value.tuple #[(Sl.v out4_1), (VB true)]) h_8))
theorem v33 (g0_1 : Sl) (h : Heap) (K : Value → Heap → Prop) (H : u33 Try.prog g0_1 h K) : callM Try.prog 33 #[(Value.agg #[(Sl.v g0_1)])] h K := by
  refine c33 (Value.agg #[(Sl.v g0_1)]) h K ?_
  unfold u33 at H
  unfold t33
  have hL : Vars h [] := .nil
  refine eop_box 32 (Value.agg #[(Sl.v g0_1)]) rfl hL (fun b_1 h_1 hb_1 hf_1 hL_1 => ?_)
  refine rop_locA agg32 hL_1 0 rfl 0 (vs := [(Sl.v g0_1)]) rfl rfl ?_
  have H := H b_1 h_1 (Nat.le_trans (Fr.size (Fr.r (In []) _)) hb_1) (Fr.no' (Fr.r (In []) _) hf_1) hL_1
  refine H.mono fun rv_1 h_2 H => ?_
  obtain ⟨t11_1, rfl, hL_2, H⟩ := H
  refine pop_not t11_1 ?_
  refine condM_b (fun hb_2 => ?_) (fun hb_2 => ?_)
  ·have H := H.1 hb_2
   exact H
  have H := H.2 hb_2
  obtain ⟨J_1, H, HB_3⟩ := H
  refine ⟨fun (vs : List Value) (h' : Heap) => ∃ x_1 : Sl, ∃ x_2 : Sl, vs = [(Sl.v x_1), (Sl.v x_2)] ∧ J_1 x_1 x_2 h' ∧ Vars h' [(b_1, [(Sl.v g0_1)])], ?_, ?_⟩
  ·refine pop_field 0 fld32_0 b_1 0 ?_
   refine rop_loc one22 hL_2 0 rfl 0 (v := (Sl.v g0_1)) rfl ?_
   refine pop_len g0_1 _ _ sli22 ?_
   refine ⟨?_, ?_⟩
   ·have H := H.1
    refine H.mono fun rv_2 h_3 H => ?_
    obtain ⟨t13_1, rfl, hL_3, H⟩ := H
    refine ⟨?_, ?_⟩
    ·exact still_loc one22 hL_3 0 rfl 0 (v := (Sl.v g0_1)) rfl
    refine H.mono fun rv_3 h_4 H => ?_
    obtain ⟨t17_1, rfl, hL_4, H⟩ := H
    refine ⟨?_, ?_⟩
    ·exact still_loc one22 hL_4 0 rfl 0 (v := (Sl.v g0_1)) rfl
    exact ⟨t13_1, t17_1, rfl, H, hL_4⟩
   have H := H.2
   refine H.mono fun rv_4 h_5 H => ?_
   obtain ⟨t17_2, rfl, hL_5, H⟩ := H
   refine ⟨?_, ?_⟩
   ·exact still_loc one22 hL_5 0 rfl 0 (v := (Sl.v g0_1)) rfl
   refine H.mono fun rv_5 h_6 H => ?_
   obtain ⟨t13_2, rfl, hL_6, H⟩ := H
   refine ⟨?_, ?_⟩
   ·exact still_loc one22 hL_6 0 rfl 0 (v := (Sl.v g0_1)) rfl
   exact ⟨t13_2, t17_2, rfl, H, hL_6⟩
  intro junk_1 tv_1 tv_2 h_7
  rintro ⟨x_1, x_2, hv, hJ_1, hL_7⟩
  cases hv
  have H := HB_3 x_1 x_2 h_7 hJ_1 hL_7
  refine pop_field 0 fld32_0 b_1 0 ?_
  refine rop_loc one22 hL_7 0 rfl 0 (v := (Sl.v g0_1)) rfl ?_
  refine pop_len g0_1 _ _ sli22 ?_
  obtain ⟨J_2, ⟨n_4, h0_2⟩, HB_2⟩ := H
  refine loop_intro (J := fun (n : Nat) (vs : List Value) (h' : Heap) => ∃ out4_1 : Sl, ∃ t21_1 : Int, vs = [(Sl.v out4_1), (VI t21_1)] ∧ J_2 n out4_1 t21_1 h' ∧ Vars h' [(b_1, [(Sl.v g0_1)])]) n_4 ⟨x_1, 0, rfl, h0_2, hL_7⟩ ?_
  intro I_2 mu_2 hI_2 junk_2 tv_5 tv_6 h_8 hi_1
  obtain ⟨n_1, ⟨out4_1, t21_1, hv, hJ_2, hL_8⟩, hn_1⟩ := hI_2 _ _ hi_1
  cases hv
  have H := HB_2 n_1 out4_1 t21_1 h_8 hJ_2 hL_8
  refine pop_lss .i64 t21_1 (g0_1.n : Int) ?_
  refine condM_b (fun hb_3 => ?_) (fun hb_3 => ?_)
  rotate_left
  ·have H := H.2 hb_3
   exact H
  have H := H.1 hb_3
  obtain ⟨hi_2, H⟩ := H
  refine pop_index sli93 siz4 .i64 x_2 t21_1 hi_2 ?_
  obtain ⟨t27_1, hc_2, H⟩ := H
  refine rop_one one4 (VB t27_1) hc_2 ?_
  refine condM_b (fun hb_4 => ?_) (fun hb_4 => ?_)
  ·have H := H.1 hb_4
   refine pop_add .i64 t21_1 1 ?_
   obtain ⟨m_1, hm_1, H⟩ := H
   exact hn_1 _ _ ⟨m_1, hm_1, out4_1, (w64 (t21_1 + 1)), rfl, H, hL_8⟩
  have H := H.2 hb_4
  refine H.mono fun rv_6 h_9 H => ?_
  obtain ⟨t28_1, rfl, hL_9, H⟩ := H
  refine rop_locA agg32 hL_9 0 rfl 0 (vs := [(Sl.v g0_1)]) rfl rfl ?_
  refine H.mono fun rv_7 h_10 H => ?_
  obtain ⟨t31_1, rfl, hL_10, H⟩ := H
  refine pop_len t31_1 _ _ sli27 ?_
  obtain ⟨J_3, ⟨n_3, h0_1⟩, HB_1⟩ := H
  refine loop_intro (J := fun (n : Nat) (vs : List Value) (h' : Heap) => ∃ part7_1 : Sl, ∃ t33_1 : Int, vs = [(Sl.v part7_1), (VI t33_1)] ∧ J_3 n part7_1 t33_1 h' ∧ Vars h' [(b_1, [(Sl.v g0_1)])]) n_3 ⟨t28_1, 0, rfl, h0_1, hL_10⟩ ?_
  intro I_1 mu_1 hI_1 junk_3 tv_3 tv_4 h_11 hi_3
  obtain ⟨n_2, ⟨part7_1, t33_1, hv, hJ_3, hL_11⟩, hn_2⟩ := hI_1 _ _ hi_3
  cases hv
  have H := HB_1 n_2 part7_1 t33_1 h_11 hJ_3 hL_11
  refine pop_lss .i64 t33_1 (t31_1.n : Int) ?_
  refine condM_b (fun hb_5 => ?_) (fun hb_5 => ?_)
  rotate_left
  ·have H := H.2 hb_5
   refine H.mono fun rv_12 h_17 H => ?_
   obtain ⟨t52_1, rfl, hL_17, H⟩ := H
   refine H.mono fun rv_13 h_18 H => ?_
   obtain ⟨t53_1, rfl, hL_18, H⟩ := H
   refine pop_add .i64 t21_1 1 ?_
   obtain ⟨m_4, hm_4, H⟩ := H
   exact hn_1 _ _ ⟨m_4, hm_4, t53_1, (w64 (t21_1 + 1)), rfl, H, hL_18⟩
  have H := H.1 hb_5
  obtain ⟨hi_4, H⟩ := H
  refine pop_index sli27 siz3 .i64 t31_1 t33_1 hi_4 ?_
  obtain ⟨t36_1, hc_1, H⟩ := H
  refine rop_one one3 (VI t36_1) hc_1 ?_
  refine rop_locA agg32 hL_11 0 rfl 0 (vs := [(Sl.v g0_1)]) rfl rfl ?_
  refine H.mono fun rv_8 h_12 H => ?_
  obtain ⟨t39_1, rfl, hL_12, H⟩ := H
  refine H.mono fun rv_9 h_13 H => ?_
  obtain ⟨t41_1, rfl, hL_13, H⟩ := H
  refine condM_b (fun hb_6 => ?_) (fun hb_6 => ?_)
  rotate_left
  ·have H := H.2 hb_6
   refine pop_add .i64 t33_1 1 ?_
   obtain ⟨m_3, hm_3, H⟩ := H
   exact hn_2 _ _ ⟨m_3, hm_3, part7_1, (w64 (t33_1 + 1)), rfl, H, hL_13⟩
  have H := H.1 hb_6
  refine H.mono fun rv_10 h_14 H => ?_
  obtain ⟨t46_1, rfl, hL_14, H⟩ := H
  refine H.mono fun rv_11 h_15 H => ?_
  obtain ⟨t47_1, rfl, hL_15, H⟩ := H
  obtain ⟨hi_5, H⟩ := H
  refine pop_index sli93 siz4 .i64 x_2 t36_1 hi_5 ?_
  obtain ⟨hw_1, hL_16, H⟩ := H
  refine uop_cell (v := (VB true)) siz4 hw_1 rfl (fun h_16 he_1 => ?_)
  rw [← he_1] at hL_16
  have H := H h_16 he_1 hL_16
  refine pop_add .i64 t33_1 1 ?_
  obtain ⟨m_2, hm_2, H⟩ := H
  exact hn_2 _ _ ⟨m_2, hm_2, t47_1, (w64 (t33_1 + 1)), rfl, H, hL_16⟩
def u34 (P : Program) (g0_1 : Sl) (h : Heap) (K : Value → Heap → Prop) : Prop :=
  ∀ (b_1 : Nat) (h_1 : Heap), h.size ≤ b_1 → Fr (In []) h h_1 → Vars h_1 [(b_1, [(Sl.v g0_1)])] →
  callM P 73 #[(Value.agg #[(Sl.v g0_1)])] h_1 fun rv_1 h_2 => ∃ t11_1 : Bool, rv_1 = (VB t11_1) ∧ Vars h_2 [(b_1, [(Sl.v g0_1)])] ∧
  ((!t11_1) = true →
  K (Value.tuple #[(Sl.v nilSl), (VB false)]) h_2) ∧
  ((!t11_1) = false →
  eop P (Instr.makeSlice 93 (VI (g0_1.n : Int)) (VI (g0_1.n : Int))) h_2 fun rv_2 h_3 => ∃ t16_1 : Sl, rv_2 = (Sl.v t16_1) ∧ Vars h_3 [(b_1, [(Sl.v g0_1)])] ∧
  ∃ J_1 : Nat → Sl → Int → Heap → Prop, (∃ n0 : Nat, J_1 n0 nilSl 0 h_3) ∧
  ∀ (n_1 : Nat) (out4_1 : Sl) (t20_1 : Int) (h_4 : Heap), J_1 n_1 out4_1 t20_1 h_4 → Vars h_4 [(b_1, [(Sl.v g0_1)])] →
  ((decide (t20_1 < (g0_1.n : Int))) = true →
  InB t16_1 t20_1 ∧
  ∃ t26_1 : Bool, hcell h_4 (Sl.at t16_1 t20_1 1) = some (VB t26_1) ∧
  (t26_1 = true →
  ∃ m : Nat, m < n_1 ∧ J_1 m out4_1 (w64 (t20_1 + 1)) h_4) ∧
  (t26_1 = false →
  callM P 70 #[(Value.agg #[(Sl.v g0_1)]), (VI t20_1)] h_4 fun rv_3 h_5 => ∃ t29_1 : Sl, rv_3 = (Sl.v t29_1) ∧ Vars h_5 [(b_1, [(Sl.v g0_1)])] ∧
  ∃ J_2 : Nat → Sl → Int → Heap → Prop, (∃ n0 : Nat, J_2 n0 nilSl 0 h_5) ∧
  ∀ (n_2 : Nat) (part7_1 : Sl) (t31_1 : Int) (h_6 : Heap), J_2 n_2 part7_1 t31_1 h_6 → Vars h_6 [(b_1, [(Sl.v g0_1)])] →
  ((decide (t31_1 < (t29_1.n : Int))) = true →
  InB t29_1 t31_1 ∧
  ∃ t34_1 : Int, hcell h_6 (Sl.at t29_1 t31_1 1) = some (VI t34_1) ∧
  callM P 70 #[(Value.agg #[(Sl.v g0_1)]), (VI t34_1)] h_6 fun rv_4 h_7 => ∃ t37_1 : Sl, rv_4 = (Sl.v t37_1) ∧ Vars h_7 [(b_1, [(Sl.v g0_1)])] ∧
  callM P 74 #[(Sl.v t37_1), (VI t20_1)] h_7 fun rv_5 h_8 => ∃ t39_1 : Bool, rv_5 = (VB t39_1) ∧ Vars h_8 [(b_1, [(Sl.v g0_1)])] ∧
  (t39_1 = true →
  eop P (Instr.buildSlice 27 1 #[(0, (VI t34_1))]) h_8 fun rv_6 h_9 => ∃ t42_1 : Sl, rv_6 = (Sl.v t42_1) ∧ Vars h_9 [(b_1, [(Sl.v g0_1)])] ∧
  eop P (appS 27 27 27 (Sl.v part7_1) (Sl.v t42_1)) h_9 fun rv_7 h_10 => ∃ t43_1 : Sl, rv_7 = (Sl.v t43_1) ∧ Vars h_10 [(b_1, [(Sl.v g0_1)])] ∧
  InB t16_1 t34_1 ∧
  Writable h_10 (Sl.at t16_1 t34_1 1) ∧ Vars (hset h_10 (Sl.at t16_1 t34_1 1) (VB true)) [(b_1, [(Sl.v g0_1)])] ∧
  ∀ h_11 : Heap, h_11 = hset h_10 (Sl.at t16_1 t34_1 1) (VB true) → Vars h_11 [(b_1, [(Sl.v g0_1)])] →
  ∃ m : Nat, m < n_2 ∧ J_2 m t43_1 (w64 (t31_1 + 1)) h_11) ∧
  (t39_1 = false →
  ∃ m : Nat, m < n_2 ∧ J_2 m part7_1 (w64 (t31_1 + 1)) h_8)) ∧
  ((decide (t31_1 < (t29_1.n : Int))) = false →
  eop P (Instr.buildSlice 22 1 #[(0, (Sl.v part7_1))]) h_6 fun rv_8 h_12 => ∃ t50_1 : Sl, rv_8 = (Sl.v t50_1) ∧ Vars h_12 [(b_1, [(Sl.v g0_1)])] ∧
  eop P (appS 22 22 22 (Sl.v out4_1) (Sl.v t50_1)) h_12 fun rv_9 h_13 => ∃ t51_1 : Sl, rv_9 = (Sl.v t51_1) ∧ Vars h_13 [(b_1, [(Sl.v g0_1)])] ∧
  ∃ m : Nat, m < n_1 ∧ J_1 m t51_1 (w64 (t20_1 + 1)) h_13))) ∧
  ((decide (t20_1 < (g0_1.n : Int))) = false →
  K (Value.tuple #[(Sl.v out4_1), (VB true)]) h_4))
theorem v34 (g0_1 : Sl) (h : Heap) (K : Value → Heap → Prop) (H : u34 Try.prog g0_1 h K) : callM Try.prog 34 #[(Value.agg #[(Sl.v g0_1)])] h K := by
  refine c34 (Value.agg #[(Sl.v g0_1)]) h K ?_
  unfold u34 at H
  unfold t34
  have hL : Vars h [] := .nil
  refine eop_box 32 (Value.agg #[(Sl.v g0_1)]) rfl hL (fun b_1 h_1 hb_1 hf_1 hL_1 => ?_)
  refine rop_locA agg32 hL_1 0 rfl 0 (vs := [(Sl.v g0_1)]) rfl rfl ?_
  have H := H b_1 h_1 (Nat.le_trans (Fr.size (Fr.r (In []) _)) hb_1) (Fr.no' (Fr.r (In []) _) hf_1) hL_1
  refine H.mono fun rv_1 h_2 H => ?_
  obtain ⟨t11_1, rfl, hL_2, H⟩ := H
  refine pop_not t11_1 ?_
  refine condM_b (fun hb_2 => ?_) (fun hb_2 => ?_)
  ·have H := H.1 hb_2
   exact H
  have H := H.2 hb_2
  refine pop_field 0 fld32_0 b_1 0 ?_
  refine rop_loc one22 hL_2 0 rfl 0 (v := (Sl.v g0_1)) rfl ?_
  refine pop_len g0_1 _ _ sli22 ?_
  refine H.mono fun rv_2 h_3 H => ?_
  obtain ⟨t16_1, rfl, hL_3, H⟩ := H
  refine pop_field 0 fld32_0 b_1 0 ?_
  refine rop_loc one22 hL_3 0 rfl 0 (v := (Sl.v g0_1)) rfl ?_
  refine pop_len g0_1 _ _ sli22 ?_
  obtain ⟨J_1, ⟨n_4, h0_2⟩, HB_2⟩ := H
  refine loop_intro (J := fun (n : Nat) (vs : List Value) (h' : Heap) => ∃ out4_1 : Sl, ∃ t20_1 : Int, vs = [(Sl.v out4_1), (VI t20_1)] ∧ J_1 n out4_1 t20_1 h' ∧ Vars h' [(b_1, [(Sl.v g0_1)])]) n_4 ⟨nilSl, 0, rfl, h0_2, hL_3⟩ ?_
  intro I_2 mu_2 hI_2 junk_1 tv_3 tv_4 h_4 hi_1
  obtain ⟨n_1, ⟨out4_1, t20_1, hv, hJ_1, hL_4⟩, hn_1⟩ := hI_2 _ _ hi_1
  cases hv
  have H := HB_2 n_1 out4_1 t20_1 h_4 hJ_1 hL_4
  refine pop_lss .i64 t20_1 (g0_1.n : Int) ?_
  refine condM_b (fun hb_3 => ?_) (fun hb_3 => ?_)
  rotate_left
  ·have H := H.2 hb_3
   exact H
  have H := H.1 hb_3
  obtain ⟨hi_2, H⟩ := H
  refine pop_index sli93 siz4 .i64 t16_1 t20_1 hi_2 ?_
  obtain ⟨t26_1, hc_2, H⟩ := H
  refine rop_one one4 (VB t26_1) hc_2 ?_
  refine condM_b (fun hb_4 => ?_) (fun hb_4 => ?_)
  ·have H := H.1 hb_4
   refine pop_add .i64 t20_1 1 ?_
   obtain ⟨m_1, hm_1, H⟩ := H
   exact hn_1 _ _ ⟨m_1, hm_1, out4_1, (w64 (t20_1 + 1)), rfl, H, hL_4⟩
  have H := H.2 hb_4
  refine rop_locA agg32 hL_4 0 rfl 0 (vs := [(Sl.v g0_1)]) rfl rfl ?_
  refine H.mono fun rv_3 h_5 H => ?_
  obtain ⟨t29_1, rfl, hL_5, H⟩ := H
  refine pop_len t29_1 _ _ sli27 ?_
  obtain ⟨J_2, ⟨n_3, h0_1⟩, HB_1⟩ := H
  refine loop_intro (J := fun (n : Nat) (vs : List Value) (h' : Heap) => ∃ part7_1 : Sl, ∃ t31_1 : Int, vs = [(Sl.v part7_1), (VI t31_1)] ∧ J_2 n part7_1 t31_1 h' ∧ Vars h' [(b_1, [(Sl.v g0_1)])]) n_3 ⟨nilSl, 0, rfl, h0_1, hL_5⟩ ?_
  intro I_1 mu_1 hI_1 junk_2 tv_1 tv_2 h_6 hi_3
  obtain ⟨n_2, ⟨part7_1, t31_1, hv, hJ_2, hL_6⟩, hn_2⟩ := hI_1 _ _ hi_3
  cases hv
  have H := HB_1 n_2 part7_1 t31_1 h_6 hJ_2 hL_6
  refine pop_lss .i64 t31_1 (t29_1.n : Int) ?_
  refine condM_b (fun hb_5 => ?_) (fun hb_5 => ?_)
  rotate_left
  ·have H := H.2 hb_5
   refine H.mono fun rv_8 h_12 H => ?_
   obtain ⟨t50_1, rfl, hL_12, H⟩ := H
   refine H.mono fun rv_9 h_13 H => ?_
   obtain ⟨t51_1, rfl, hL_13, H⟩ := H
   refine pop_add .i64 t20_1 1 ?_
   obtain ⟨m_4, hm_4, H⟩ := H
   exact hn_1 _ _ ⟨m_4, hm_4, t51_1, (w64 (t20_1 + 1)), rfl, H, hL_13⟩
  have H := H.1 hb_5
  obtain ⟨hi_4, H⟩ := H
  refine pop_index sli27 siz3 .i64 t29_1 t31_1 hi_4 ?_
  obtain ⟨t34_1, hc_1, H⟩ := H
  refine rop_one one3 (VI t34_1) hc_1 ?_
  refine rop_locA agg32 hL_6 0 rfl 0 (vs := [(Sl.v g0_1)]) rfl rfl ?_
  refine H.mono fun rv_4 h_7 H => ?_
  obtain ⟨t37_1, rfl, hL_7, H⟩ := H
  refine H.mono fun rv_5 h_8 H => ?_
  obtain ⟨t39_1, rfl, hL_8, H⟩ := H
  refine condM_b (fun hb_6 => ?_) (fun hb_6 => ?_)
  rotate_left
  ·have H := H.2 hb_6
   refine pop_add .i64 t31_1 1 ?_
   obtain ⟨m_3, hm_3, H⟩ := H
   exact hn_2 _ _ ⟨m_3, hm_3, part7_1, (w64 (t31_1 + 1)), rfl, H, hL_8⟩
  have H := H.1 hb_6
  refine H.mono fun rv_6 h_9 H => ?_
  obtain ⟨t42_1, rfl, hL_9, H⟩ := H
  refine H.mono fun rv_7 h_10 H => ?_
  obtain ⟨t43_1, rfl, hL_10, H⟩ := H
  obtain ⟨hi_5, H⟩ := H
  refine pop_index sli93 siz4 .i64 t16_1 t34_1 hi_5 ?_
  obtain ⟨hw_1, hL_11, H⟩ := H
  refine uop_cell (v := (VB true)) siz4 hw_1 rfl (fun h_11 he_1 => ?_)
  rw [← he_1] at hL_11
  have H := H h_11 he_1 hL_11
  refine pop_add .i64 t31_1 1 ?_
  obtain ⟨m_2, hm_2, H⟩ := H
  exact hn_2 _ _ ⟨m_2, hm_2, t43_1, (w64 (t31_1 + 1)), rfl, H, hL_11⟩
def u35 (P : Program) (g0_1 : Sl) (h : Heap) (K : Value → Heap → Prop) : Prop :=
  ∀ (b_1 : Nat) (h_1 : Heap), h.size ≤ b_1 → Fr (In []) h h_1 → Vars h_1 [(b_1, [(Sl.v g0_1)])] →
  callM P 56 #[(Value.agg #[(Sl.v g0_1)])] h_1 fun rv_1 h_2 => ∃ t5_1 : Bool, rv_1 = (VB t5_1) ∧ Vars h_2 [(b_1, [(Sl.v g0_1)])] ∧
  ((!t5_1) = true →
  K (Value.tuple #[(VB false), (VB false)]) h_2) ∧
  ((!t5_1) = false →
  callM P 75 #[(Value.agg #[(Sl.v g0_1)])] h_2 fun rv_2 h_3 => ∃ t8_1 : Bool, rv_2 = (VB t8_1) ∧ Vars h_3 [(b_1, [(Sl.v g0_1)])] ∧
  K (Value.tuple #[(VB t8_1), (VB true)]) h_3)
theorem v35 (g0_1 : Sl) (h : Heap) (K : Value → Heap → Prop) (H : u35 Try.prog g0_1 h K) : callM Try.prog 35 #[(Value.agg #[(Sl.v g0_1)])] h K := by
  refine c35 (Value.agg #[(Sl.v g0_1)]) h K ?_
  unfold u35 at H
  unfold t35
  have hL : Vars h [] := .nil
  refine eop_box 32 (Value.agg #[(Sl.v g0_1)]) rfl hL (fun b_1 h_1 hb_1 hf_1 hL_1 => ?_)
  refine rop_locA agg32 hL_1 0 rfl 0 (vs := [(Sl.v g0_1)]) rfl rfl ?_
  have H := H b_1 h_1 (Nat.le_trans (Fr.size (Fr.r (In []) _)) hb_1) (Fr.no' (Fr.r (In []) _) hf_1) hL_1
  refine H.mono fun rv_1 h_2 H => ?_
  obtain ⟨t5_1, rfl, hL_2, H⟩ := H
  refine pop_not t5_1 ?_
  refine condM_b (fun hb_2 => ?_) (fun hb_2 => ?_)
  ·have H := H.1 hb_2
   exact H
  have H := H.2 hb_2
  refine rop_locA agg32 hL_2 0 rfl 0 (vs := [(Sl.v g0_1)]) rfl rfl ?_
  refine H.mono fun rv_2 h_3 H => ?_
  obtain ⟨t8_1, rfl, hL_3, H⟩ := H
  exact H
def u36 (P : Program) (g0_1 : Sl) (h : Heap) (K : Value → Heap → Prop) : Prop :=
  ∀ (b_1 : Nat) (h_1 : Heap), h.size ≤ b_1 → Fr (In []) h h_1 → Vars h_1 [(b_1, [(Sl.v g0_1)])] →
  callM P 73 #[(Value.agg #[(Sl.v g0_1)])] h_1 fun rv_1 h_2 => ∃ t5_1 : Bool, rv_1 = (VB t5_1) ∧ Vars h_2 [(b_1, [(Sl.v g0_1)])] ∧
  ((!t5_1) = true →
  K (Value.tuple #[(VB false), (VB false)]) h_2) ∧
  ((!t5_1) = false →
  callM P 76 #[(Value.agg #[(Sl.v g0_1)])] h_2 fun rv_2 h_3 => ∃ t8_1 : Bool, rv_2 = (VB t8_1) ∧ Vars h_3 [(b_1, [(Sl.v g0_1)])] ∧
  K (Value.tuple #[(VB t8_1), (VB true)]) h_3)
theorem v36 (g0_1 : Sl) (h : Heap) (K : Value → Heap → Prop) (H : u36 Try.prog g0_1 h K) : callM Try.prog 36 #[(Value.agg #[(Sl.v g0_1)])] h K := by
  refine c36 (Value.agg #[(Sl.v g0_1)]) h K ?_
  unfold u36 at H
  unfold t36
  have hL : Vars h [] := .nil
  refine eop_box 32 (Value.agg #[(Sl.v g0_1)]) rfl hL (fun b_1 h_1 hb_1 hf_1 hL_1 => ?_)
  refine rop_locA agg32 hL_1 0 rfl 0 (vs := [(Sl.v g0_1)]) rfl rfl ?_
  have H := H b_1 h_1 (Nat.le_trans (Fr.size (Fr.r (In []) _)) hb_1) (Fr.no' (Fr.r (In []) _) hf_1) hL_1
  refine H.mono fun rv_1 h_2 H => ?_
  obtain ⟨t5_1, rfl, hL_2, H⟩ := H
  refine pop_not t5_1 ?_
  refine condM_b (fun hb_2 => ?_) (fun hb_2 => ?_)
  ·have H := H.1 hb_2
   exact H
  have H := H.2 hb_2
  refine rop_locA agg32 hL_2 0 rfl 0 (vs := [(Sl.v g0_1)]) rfl rfl ?_
  refine H.mono fun rv_2 h_3 H => ?_
  obtain ⟨t8_1, rfl, hL_3, H⟩ := H
  exact H
def u37 (P : Program) (a0_1 : Sl) (b1_1 : Sl) (h : Heap) (K : Value → Heap → Prop) : Prop :=
  ((!decide ((a0_1.n : Int) = (b1_1.n : Int))) = true →
  K (VB false) h) ∧
  ((!decide ((a0_1.n : Int) = (b1_1.n : Int))) = false →
  ∃ J_1 : Nat → Int → Heap → Prop, (∃ n0 : Nat, J_1 n0 0 h) ∧
  ∀ (n_1 : Nat) (t13_1 : Int) (h_1 : Heap), J_1 n_1 t13_1 h_1 → Vars h_1 [] →
  ((decide (t13_1 < (a0_1.n : Int))) = true →
  InB a0_1 t13_1 ∧
  ∃ t19_1 : Sl, hcell h_1 (Sl.at a0_1 t13_1 1) = some (Sl.v t19_1) ∧
  InB b1_1 t13_1 ∧
  ∃ t23_1 : Sl, hcell h_1 (Sl.at b1_1 t13_1 1) = some (Sl.v t23_1) ∧
  callM P 29 #[(Sl.v t19_1), (Sl.v t23_1)] h_1 fun rv_1 h_2 => ∃ t24_1 : Bool, rv_1 = (VB t24_1) ∧ Vars h_2 [] ∧
  ((!t24_1) = true →
  K (VB false) h_2) ∧
  ((!t24_1) = false →
  ∃ m : Nat, m < n_1 ∧ J_1 m (w64 (t13_1 + 1)) h_2)) ∧
  ((decide (t13_1 < (a0_1.n : Int))) = false →
  K (VB true) h_1))
theorem v37 (a0_1 : Sl) (b1_1 : Sl) (h : Heap) (K : Value → Heap → Prop) (H : u37 Try.prog a0_1 b1_1 h K) : callM Try.prog 37 #[(Sl.v a0_1), (Sl.v b1_1)] h K := by
  refine c37 (Sl.v a0_1) (Sl.v b1_1) h K ?_
  unfold u37 at H
  unfold t37
  have hL : Vars h [] := .nil
  refine pop_len a0_1 _ _ sli22 ?_
  refine pop_len b1_1 _ _ sli22 ?_
  refine pop_ine .i64 _ _ (a0_1.n : Int) (b1_1.n : Int) ?_
  refine condM_b (fun hb_1 => ?_) (fun hb_1 => ?_)
  ·have H := H.1 hb_1
   exact H
  have H := H.2 hb_1
  refine pop_len a0_1 _ _ sli22 ?_
  obtain ⟨J_1, ⟨n_2, h0_1⟩, HB_1⟩ := H
  refine loop_intro (J := fun (n : Nat) (vs : List Value) (h' : Heap) => ∃ t13_1 : Int, vs = [(VI t13_1)] ∧ J_1 n t13_1 h' ∧ Vars h' []) n_2 ⟨0, rfl, h0_1, hL⟩ ?_
  intro I_1 mu_1 hI_1 junk_1 tv_1 h_1 hi_1
  obtain ⟨n_1, ⟨t13_1, hv, hJ_1, hL_1⟩, hn_1⟩ := hI_1 _ _ hi_1
  cases hv
  have H := HB_1 n_1 t13_1 h_1 hJ_1 hL_1
  refine pop_lss .i64 t13_1 (a0_1.n : Int) ?_
  refine condM_b (fun hb_2 => ?_) (fun hb_2 => ?_)
  rotate_left
  ·have H := H.2 hb_2
   exact H
  have H := H.1 hb_2
  obtain ⟨hi_2, H⟩ := H
  refine pop_index sli22 siz27 .i64 a0_1 t13_1 hi_2 ?_
  obtain ⟨t19_1, hc_2, H⟩ := H
  refine rop_one one27 (Sl.v t19_1) hc_2 ?_
  obtain ⟨hi_3, H⟩ := H
  refine pop_index sli22 siz27 .i64 b1_1 t13_1 hi_3 ?_
  obtain ⟨t23_1, hc_1, H⟩ := H
  refine rop_one one27 (Sl.v t23_1) hc_1 ?_
  refine H.mono fun rv_1 h_2 H => ?_
  obtain ⟨t24_1, rfl, hL_2, H⟩ := H
  refine pop_not t24_1 ?_
  refine condM_b (fun hb_3 => ?_) (fun hb_3 => ?_)
  ·have H := H.1 hb_3
   exact H
  have H := H.2 hb_3
  refine pop_add .i64 t13_1 1 ?_
  obtain ⟨m_1, hm_1, H⟩ := H
  exact hn_1 _ _ ⟨m_1, hm_1, (w64 (t13_1 + 1)), rfl, H, hL_2⟩
def u38 (P : Program) (code0_1 : Sl) (h : Heap) (K : Value → Heap → Prop) : Prop :=
  ∀ (b_1 : Nat) (b_2 : Nat) (h_2 : Heap), h.size ≤ b_1 → h.size ≤ b_2 → Fr (In []) h h_2 → Vars h_2 [(b_2, [(Sl.v code0_1), (VI 0), (Value.int .u64 0)]), (b_1, [(Sl.v nilSl)])] →
  callM P 63 #[(VP b_2 0)] h_2 fun rv_1 h_3 => ∃ x_1 : Sl, ∃ x_2 : Int, ∃ x_3 : Int, ∃ t11_1 : Sl, rv_1 = (Value.agg #[(Sl.v t11_1)]) ∧ Vars h_3 [(b_2, [(Sl.v x_1), (VI x_2), (Value.int .u64 x_3)]), (b_1, [(Sl.v nilSl)])] ∧
  ∀ (b_3 : Nat) (h_5 : Heap), h_3.size ≤ b_3 → Fr (In []) h_3 h_5 → Vars h_5 [(b_3, [(Sl.v t11_1)]), (b_2, [(Sl.v x_1), (VI x_2), (Value.int .u64 x_3)]), (b_1, [(Sl.v nilSl)])] →
  callM P 77 #[(VP b_2 0), (VI (t11_1.n : Int))] h_5 fun rv_2 h_6 => ∃ x_4 : Sl, ∃ x_5 : Int, ∃ x_6 : Int, ∃ t16_1 : Sl, rv_2 = (Sl.v t16_1) ∧ Vars h_6 [(b_3, [(Sl.v t11_1)]), (b_2, [(Sl.v x_4), (VI x_5), (Value.int .u64 x_6)]), (b_1, [(Sl.v nilSl)])] ∧
  ∃ J_1 : Sl → Int → Int → Heap → Prop, (((decide (0 < (t16_1.n : Int))) = true →
  callM P 78 #[(VP b_2 0), (VI 8)] h_6 fun rv_3 h_7 => ∃ x_10 : Sl, ∃ x_11 : Int, ∃ x_12 : Int, ∃ t22_1 : Bool, rv_3 = (VB t22_1) ∧ Vars h_7 [(b_3, [(Sl.v t11_1)]), (b_2, [(Sl.v x_10), (VI x_11), (Value.int .u64 x_12)]), (b_1, [(Sl.v nilSl)])] ∧
  (t22_1 = true →
  eop P (Instr.buildSlice 27 4 #[(0, (Value.int IntKind.i64 (-1))), (1, (Value.int IntKind.i64 0)), (2, (Value.int IntKind.i64 1)), (3, (VI (t16_1.n : Int)))]) h_7 fun rv_4 h_8 => ∃ t28_1 : Sl, rv_4 = (Sl.v t28_1) ∧ Vars h_8 [(b_3, [(Sl.v t11_1)]), (b_2, [(Sl.v x_10), (VI x_11), (Value.int .u64 x_12)]), (b_1, [(Sl.v nilSl)])] ∧
  callM P 79 #[(VP b_2 0), (Sl.v t28_1)] h_8 fun rv_5 h_9 => ∃ x_13 : Sl, ∃ x_14 : Int, ∃ x_15 : Int, ∃ t29_1 : Int, rv_5 = (VI t29_1) ∧ Vars h_9 [(b_3, [(Sl.v t11_1)]), (b_2, [(Sl.v x_13), (VI x_14), (Value.int .u64 x_15)]), (b_1, [(Sl.v nilSl)])] ∧
  InB t16_1 0 ∧
  Writable h_9 (Sl.at t16_1 0 1) ∧ Vars (hset h_9 (Sl.at t16_1 0 1) (VI t29_1)) [(b_3, [(Sl.v t11_1)]), (b_2, [(Sl.v x_13), (VI x_14), (Value.int .u64 x_15)]), (b_1, [(Sl.v nilSl)])] ∧
  ∀ h_10 : Heap, h_10 = hset h_9 (Sl.at t16_1 0 1) (VI t29_1) → Vars h_10 [(b_3, [(Sl.v t11_1)]), (b_2, [(Sl.v x_13), (VI x_14), (Value.int .u64 x_15)]), (b_1, [(Sl.v nilSl)])] →
  J_1 x_13 x_14 x_15 h_10) ∧
  (t22_1 = false →
  J_1 x_10 x_11 x_12 h_7)) ∧
  ((decide (0 < (t16_1.n : Int))) = false →
  J_1 x_4 x_5 x_6 h_6)) ∧
  ∀ (x_7 : Sl) (x_8 : Int) (x_9 : Int) (h_11 : Heap), J_1 x_7 x_8 x_9 h_11 → Vars h_11 [(b_3, [(Sl.v t11_1)]), (b_2, [(Sl.v x_7), (VI x_8), (Value.int .u64 x_9)]), (b_1, [(Sl.v nilSl)])] →
  ∀ (h_12 : Heap), Fr (In [b_1]) h_11 h_12 → Vars h_12 [(b_3, [(Sl.v t11_1)]), (b_2, [(Sl.v x_7), (VI x_8), (Value.int .u64 x_9)]), (b_1, [(Sl.v t11_1)])] →
  K (Value.tuple #[(Value.agg #[(Sl.v t11_1)]), (Sl.v t16_1)]) h_12
theorem v38 (code0_1 : Sl) (h : Heap) (K : Value → Heap → Prop) (H : u38 Try.prog code0_1 h K) : callM Try.prog 38 #[(Sl.v code0_1)] h K := by
  refine c38 (Sl.v code0_1) h K ?_
  unfold u38 at H
  unfold t38
  have hL : Vars h [] := .nil
  refine eop_alloc 32 zer32 rfl hL (fun b_1 h_1 hb_1 hf_1 hL_1 => ?_)
  refine pop.mk' (v := (Value.agg #[(Sl.v code0_1), (VI 0), (Value.int .u64 0)])) (fun w => by kernel_rfl) ?_
  refine eop_box 86 (Value.agg #[(Sl.v code0_1), (VI 0), (Value.int .u64 0)]) rfl hL_1 (fun b_2 h_2 hb_2 hf_2 hL_2 => ?_)
  have H := H b_1 b_2 h_2 (Nat.le_trans (Fr.size (Fr.r (In []) _)) hb_1) (Nat.le_trans (Fr.size (Fr.no' (Fr.r (In []) _) hf_1)) hb_2) (Fr.no' (Fr.no' (Fr.r (In []) _) hf_1) hf_2) hL_2
  refine H.mono fun rv_1 h_3 H => ?_
  obtain ⟨x_1, x_2, x_3, t11_1, rfl, hL_3, H⟩ := H
  refine eop_alloc 32 zer32 rfl hL_3 (fun b_3 h_4 hb_3 hf_3 hL_4 => ?_)
  refine uop_loc siz32 hL_4 0 rfl 0 [(Sl.v t11_1)] rfl rfl rfl (Nat.le_of_ble_eq_true rfl) (L' := [(b_3, [(Sl.v t11_1)]), (b_2, [(Sl.v x_1), (VI x_2), (Value.int .u64 x_3)]), (b_1, [(Sl.v nilSl)])]) rfl (fun h_5 hf_4 hL_5 => ?_)
  refine pop_field 0 fld32_0 b_3 0 ?_
  refine rop_loc one22 hL_5 0 rfl 0 (v := (Sl.v t11_1)) rfl ?_
  refine pop_len t11_1 _ _ sli22 ?_
  have H := H b_3 h_5 (Nat.le_trans (Fr.size (Fr.r (In []) _)) hb_3) (Fr.new (Fr.no' (Fr.r (In []) _) hf_3) (Nat.le_trans (Fr.size (Fr.r (In []) _)) hb_3) hf_4) hL_5
  refine H.mono fun rv_2 h_6 H => ?_
  obtain ⟨x_4, x_5, x_6, t16_1, rfl, hL_6, H⟩ := H
  obtain ⟨J_1, H, HB_1⟩ := H
  refine ⟨fun (vs : List Value) (h' : Heap) => ∃ x_7 : Sl, ∃ x_8 : Int, ∃ x_9 : Int, vs = [] ∧ J_1 x_7 x_8 x_9 h' ∧ Vars h' [(b_3, [(Sl.v t11_1)]), (b_2, [(Sl.v x_7), (VI x_8), (Value.int .u64 x_9)]), (b_1, [(Sl.v nilSl)])], ?_, ?_⟩
  ·refine pop_len t16_1 _ _ sli27 ?_
   refine pop_gtr .i64 (t16_1.n : Int) 0 ?_
   refine guardM_st (fun hb_4 => ?_) (fun hb_4 => ?_)
   rotate_left
   ·have H := H.2 hb_4
    refine guardM_n' hb_4 (by decide) ?_
    refine pop_pickf' hb_4 ?_
    refine condM_f ?_
    exact ⟨x_4, x_5, x_6, rfl, H, hL_6⟩
   have H := H.1 hb_4
   refine guardM_y' hb_4 ?_
   refine H.mono fun rv_3 h_7 H => ?_
   obtain ⟨x_10, x_11, x_12, t22_1, rfl, hL_7, H⟩ := H
   refine pop_pickt' hb_4 ?_
   refine condM_b (fun hb_5 => ?_) (fun hb_5 => ?_)
   rotate_left
   ·have H := H.2 hb_5
    exact ⟨x_10, x_11, x_12, rfl, H, hL_7⟩
   have H := H.1 hb_5
   refine pop_len t16_1 _ _ sli27 ?_
   refine H.mono fun rv_4 h_8 H => ?_
   obtain ⟨t28_1, rfl, hL_8, H⟩ := H
   refine H.mono fun rv_5 h_9 H => ?_
   obtain ⟨x_13, x_14, x_15, t29_1, rfl, hL_9, H⟩ := H
   obtain ⟨hi_1, H⟩ := H
   refine pop_index sli27 siz3 .i64 t16_1 0 hi_1 ?_
   obtain ⟨hw_1, hL_10, H⟩ := H
   refine uop_cell (v := (VI t29_1)) siz3 hw_1 rfl (fun h_10 he_1 => ?_)
   rw [← he_1] at hL_10
   have H := H h_10 he_1 hL_10
   exact ⟨x_13, x_14, x_15, rfl, H, hL_10⟩
  intro junk_1  h_11
  rintro ⟨x_7, x_8, x_9, hv, hJ_1, hL_11⟩
  have H := HB_1 x_7 x_8 x_9 h_11 hJ_1 hL_11
  refine rop_locA agg32 hL_11 0 rfl 0 (vs := [(Sl.v t11_1)]) rfl rfl ?_
  refine uop_loc siz32 hL_11 2 rfl 0 [(Sl.v t11_1)] rfl rfl rfl (Nat.le_of_ble_eq_true rfl) (L' := [(b_3, [(Sl.v t11_1)]), (b_2, [(Sl.v x_7), (VI x_8), (Value.int .u64 x_9)]), (b_1, [(Sl.v t11_1)])]) rfl (fun h_12 hf_5 hL_12 => ?_)
  refine rop_locA agg32 hL_12 2 rfl 0 (vs := [(Sl.v t11_1)]) rfl rfl ?_
  have H := H  h_12  (Fr.old (Fr.r (In []) _) hf_5) hL_12
  exact H
def u39 (P : Program) (g0_1 : Sl) (names1_1 : Sl) (h : Heap) (K : Value → Heap → Prop) : Prop :=
  ∀ (b_1 : Nat) (b_2 : Nat) (h_2 : Heap), h.size ≤ b_1 → h.size ≤ b_2 → Fr (In []) h h_2 → Vars h_2 [(b_2, [(Sl.v nilSl)]), (b_1, [(Sl.v g0_1)])] →
  callM P 56 #[(Value.agg #[(Sl.v g0_1)])] h_2 fun rv_1 h_3 => ∃ t12_1 : Bool, rv_1 = (VB t12_1) ∧ Vars h_3 [(b_2, [(Sl.v nilSl)]), (b_1, [(Sl.v g0_1)])] ∧
  ((!t12_1) = true →
  ∀ (h_15 : Heap), Fr (In [b_2]) h_3 h_15 → Vars h_15 [(b_2, [(Sl.v nilSl)]), (b_1, [(Sl.v g0_1)])] →
  K (Value.tuple #[(Value.agg #[(Sl.v nilSl)]), (VB false)]) h_15) ∧
  ((!t12_1) = false →
  callM P 57 #[(Value.agg #[(Sl.v g0_1)]), (Sl.v names1_1)] h_3 fun rv_2 h_4 => ∃ t17_1 : Bool, rv_2 = (VB t17_1) ∧ Vars h_4 [(b_2, [(Sl.v nilSl)]), (b_1, [(Sl.v g0_1)])] ∧
  ((!t17_1) = true →
  ∀ (h_5 : Heap), Fr (In [b_2]) h_4 h_5 → Vars h_5 [(b_2, [(Sl.v nilSl)]), (b_1, [(Sl.v g0_1)])] →
  K (Value.tuple #[(Value.agg #[(Sl.v nilSl)]), (VB false)]) h_5) ∧
  ((!t17_1) = false →
  eop P (Instr.makeSlice 22 (VI (g0_1.n : Int)) (VI (g0_1.n : Int))) h_4 fun rv_3 h_6 => ∃ t24_1 : Sl, rv_3 = (Sl.v t24_1) ∧ Vars h_6 [(b_2, [(Sl.v nilSl)]), (b_1, [(Sl.v g0_1)])] ∧
  ∀ (b_3 : Nat) (h_8 : Heap), h_6.size ≤ b_3 → Fr (In []) h_6 h_8 → Vars h_8 [(b_3, [(Sl.v t24_1)]), (b_2, [(Sl.v nilSl)]), (b_1, [(Sl.v g0_1)])] →
  ∃ J_1 : Nat → Int → Heap → Prop, (∃ n0 : Nat, J_1 n0 0 h_8) ∧
  ∀ (n_1 : Nat) (t29_1 : Int) (h_9 : Heap), J_1 n_1 t29_1 h_9 → Vars h_9 [(b_3, [(Sl.v t24_1)]), (b_2, [(Sl.v nilSl)]), (b_1, [(Sl.v g0_1)])] →
  ((decide (t29_1 < (g0_1.n : Int))) = true →
  InB g0_1 t29_1 ∧
  ∃ t33_1 : Sl, hcell h_9 (Sl.at g0_1 t29_1 1) = some (Sl.v t33_1) ∧
  ∃ J_2 : Nat → Int → Heap → Prop, (∃ n0 : Nat, J_2 n0 0 h_9) ∧
  ∀ (n_2 : Nat) (t36_1 : Int) (h_10 : Heap), J_2 n_2 t36_1 h_10 → Vars h_10 [(b_3, [(Sl.v t24_1)]), (b_2, [(Sl.v nilSl)]), (b_1, [(Sl.v g0_1)])] →
  ((decide (t36_1 < (t33_1.n : Int))) = true →
  InB t33_1 t36_1 ∧
  ∃ t39_1 : Int, hcell h_10 (Sl.at t33_1 t36_1 1) = some (VI t39_1) ∧
  InB names1_1 t29_1 ∧
  ∃ t45_1 : Int, hcell h_10 (Sl.at names1_1 t29_1 1) = some (VI t45_1) ∧
  InB names1_1 t29_1 ∧
  ∃ t51_1 : Int, hcell h_10 (Sl.at names1_1 t29_1 1) = some (VI t51_1) ∧
  InB t24_1 t51_1 ∧
  ∃ t53_1 : Sl, hcell h_10 (Sl.at t24_1 t51_1 1) = some (Sl.v t53_1) ∧
  InB names1_1 t39_1 ∧
  ∃ t57_1 : Int, hcell h_10 (Sl.at names1_1 t39_1 1) = some (VI t57_1) ∧
  eop P (Instr.buildSlice 27 1 #[(0, (VI t57_1))]) h_10 fun rv_4 h_11 => ∃ t58_1 : Sl, rv_4 = (Sl.v t58_1) ∧ Vars h_11 [(b_3, [(Sl.v t24_1)]), (b_2, [(Sl.v nilSl)]), (b_1, [(Sl.v g0_1)])] ∧
  hcell h_11 (Sl.at t24_1 t51_1 1) = some (Sl.v t53_1) ∧
  hcell h_11 (Sl.at names1_1 t29_1 1) = some (VI t51_1) ∧
  hcell h_11 (Sl.at names1_1 t29_1 1) = some (VI t45_1) ∧
  eop P (appS 27 27 27 (Sl.v t53_1) (Sl.v t58_1)) h_11 fun rv_5 h_12 => ∃ t59_1 : Sl, rv_5 = (Sl.v t59_1) ∧ Vars h_12 [(b_3, [(Sl.v t24_1)]), (b_2, [(Sl.v nilSl)]), (b_1, [(Sl.v g0_1)])] ∧
  hcell h_12 (Sl.at names1_1 t29_1 1) = some (VI t51_1) ∧
  hcell h_12 (Sl.at names1_1 t29_1 1) = some (VI t45_1) ∧
  InB t24_1 t45_1 ∧
  Writable h_12 (Sl.at t24_1 t45_1 1) ∧ Vars (hset h_12 (Sl.at t24_1 t45_1 1) (Sl.v t59_1)) [(b_3, [(Sl.v t24_1)]), (b_2, [(Sl.v nilSl)]), (b_1, [(Sl.v g0_1)])] ∧
  ∀ h_13 : Heap, h_13 = hset h_12 (Sl.at t24_1 t45_1 1) (Sl.v t59_1) → Vars h_13 [(b_3, [(Sl.v t24_1)]), (b_2, [(Sl.v nilSl)]), (b_1, [(Sl.v g0_1)])] →
  ∃ m : Nat, m < n_2 ∧ J_2 m (w64 (t36_1 + 1)) h_13) ∧
  ((decide (t36_1 < (t33_1.n : Int))) = false →
  ∃ m : Nat, m < n_1 ∧ J_1 m (w64 (t29_1 + 1)) h_10)) ∧
  ((decide (t29_1 < (g0_1.n : Int))) = false →
  ∀ (h_14 : Heap), Fr (In [b_2]) h_9 h_14 → Vars h_14 [(b_3, [(Sl.v t24_1)]), (b_2, [(Sl.v t24_1)]), (b_1, [(Sl.v g0_1)])] →
  K (Value.tuple #[(Value.agg #[(Sl.v t24_1)]), (VB true)]) h_14)))
theorem v39 (g0_1 : Sl) (names1_1 : Sl) (h : Heap) (K : Value → Heap → Prop) (H : u39 Try.prog g0_1 names1_1 h K) : callM Try.prog 39 #[(Value.agg #[(Sl.v g0_1)]), (Sl.v names1_1)] h K := by
  refine c39 (Value.agg #[(Sl.v g0_1)]) (Sl.v names1_1) h K ?_
  unfold u39 at H
  unfold t39
  have hL : Vars h [] := .nil
  refine eop_box 32 (Value.agg #[(Sl.v g0_1)]) rfl hL (fun b_1 h_1 hb_1 hf_1 hL_1 => ?_)
  refine eop_alloc 32 zer32 rfl hL_1 (fun b_2 h_2 hb_2 hf_2 hL_2 => ?_)
  refine rop_locA agg32 hL_2 1 rfl 0 (vs := [(Sl.v g0_1)]) rfl rfl ?_
  have H := H b_1 b_2 h_2 (Nat.le_trans (Fr.size (Fr.r (In []) _)) hb_1) (Nat.le_trans (Fr.size (Fr.no' (Fr.r (In []) _) hf_1)) hb_2) (Fr.no' (Fr.no' (Fr.r (In []) _) hf_1) hf_2) hL_2
  refine H.mono fun rv_1 h_3 H => ?_
  obtain ⟨t12_1, rfl, hL_3, H⟩ := H
  refine pop_not t12_1 ?_
  refine guardM_sf (fun hb_3 => ?_) (fun hb_3 => ?_)
  rotate_left
  ·have H := H.1 hb_3
   refine guardM_n' hb_3 (by decide) ?_
   refine guardM_n' hb_3 (by decide) ?_
   refine guardM_n' hb_3 (by decide) ?_
   refine pop_pickt' hb_3 ?_
   refine condM_t ?_
   refine pop.mk' (v := (Value.agg #[(Sl.v nilSl)])) (fun w => by kernel_rfl) ?_
   refine uop_loc siz32 hL_3 0 rfl 0 [(Sl.v nilSl)] rfl rfl rfl (Nat.le_of_ble_eq_true rfl) (L' := [(b_2, [(Sl.v nilSl)]), (b_1, [(Sl.v g0_1)])]) rfl (fun h_15 hf_7 hL_15 => ?_)
   refine rop_locA agg32 hL_15 0 rfl 0 (vs := [(Sl.v nilSl)]) rfl rfl ?_
   have H := H  h_15  (Fr.old (Fr.r (In []) _) hf_7) hL_15
   exact H
  have H := H.2 hb_3
  refine rop_locA agg32 hL_3 1 rfl 0 (vs := [(Sl.v g0_1)]) rfl rfl ?_
  refine guardM_y' hb_3 ?_
  refine guardM_y' hb_3 ?_
  refine H.mono fun rv_2 h_4 H => ?_
  obtain ⟨t17_1, rfl, hL_4, H⟩ := H
  refine guardM_y' hb_3 ?_
  refine pop_not t17_1 ?_
  refine pop_pickf' hb_3 ?_
  refine condM_b (fun hb_4 => ?_) (fun hb_4 => ?_)
  ·have H := H.1 hb_4
   refine pop.mk' (v := (Value.agg #[(Sl.v nilSl)])) (fun w => by kernel_rfl) ?_
   refine uop_loc siz32 hL_4 0 rfl 0 [(Sl.v nilSl)] rfl rfl rfl (Nat.le_of_ble_eq_true rfl) (L' := [(b_2, [(Sl.v nilSl)]), (b_1, [(Sl.v g0_1)])]) rfl (fun h_5 hf_3 hL_5 => ?_)
   refine rop_locA agg32 hL_5 0 rfl 0 (vs := [(Sl.v nilSl)]) rfl rfl ?_
   have H := H  h_5  (Fr.old (Fr.r (In []) _) hf_3) hL_5
   exact H
  have H := H.2 hb_4
  refine pop_field 0 fld32_0 b_1 0 ?_
  refine rop_loc one22 hL_4 1 rfl 0 (v := (Sl.v g0_1)) rfl ?_
  refine pop_len g0_1 _ _ sli22 ?_
  refine H.mono fun rv_3 h_6 H => ?_
  obtain ⟨t24_1, rfl, hL_6, H⟩ := H
  refine pop.mk' (v := (Value.agg #[(Sl.v t24_1)])) (fun w => by kernel_rfl) ?_
  refine eop_alloc 32 zer32 rfl hL_6 (fun b_3 h_7 hb_5 hf_4 hL_7 => ?_)
  refine uop_loc siz32 hL_7 0 rfl 0 [(Sl.v t24_1)] rfl rfl rfl (Nat.le_of_ble_eq_true rfl) (L' := [(b_3, [(Sl.v t24_1)]), (b_2, [(Sl.v nilSl)]), (b_1, [(Sl.v g0_1)])]) rfl (fun h_8 hf_5 hL_8 => ?_)
  refine pop_field 0 fld32_0 b_1 0 ?_
  refine rop_loc one22 hL_8 2 rfl 0 (v := (Sl.v g0_1)) rfl ?_
  refine pop_len g0_1 _ _ sli22 ?_
  have H := H b_3 h_8 (Nat.le_trans (Fr.size (Fr.r (In []) _)) hb_5) (Fr.new (Fr.no' (Fr.r (In []) _) hf_4) (Nat.le_trans (Fr.size (Fr.r (In []) _)) hb_5) hf_5) hL_8
  obtain ⟨J_1, ⟨n_4, h0_2⟩, HB_2⟩ := H
  refine loop_intro (J := fun (n : Nat) (vs : List Value) (h' : Heap) => ∃ t29_1 : Int, vs = [(VI t29_1)] ∧ J_1 n t29_1 h' ∧ Vars h' [(b_3, [(Sl.v t24_1)]), (b_2, [(Sl.v nilSl)]), (b_1, [(Sl.v g0_1)])]) n_4 ⟨0, rfl, h0_2, hL_8⟩ ?_
  intro I_2 mu_2 hI_2 junk_1 tv_2 h_9 hi_1
  obtain ⟨n_1, ⟨t29_1, hv, hJ_1, hL_9⟩, hn_1⟩ := hI_2 _ _ hi_1
  cases hv
  have H := HB_2 n_1 t29_1 h_9 hJ_1 hL_9
  refine pop_lss .i64 t29_1 (g0_1.n : Int) ?_
  refine condM_b (fun hb_6 => ?_) (fun hb_6 => ?_)
  rotate_left
  ·have H := H.2 hb_6
   refine rop_locA agg32 hL_9 0 rfl 0 (vs := [(Sl.v t24_1)]) rfl rfl ?_
   refine uop_loc siz32 hL_9 1 rfl 0 [(Sl.v t24_1)] rfl rfl rfl (Nat.le_of_ble_eq_true rfl) (L' := [(b_3, [(Sl.v t24_1)]), (b_2, [(Sl.v t24_1)]), (b_1, [(Sl.v g0_1)])]) rfl (fun h_14 hf_6 hL_14 => ?_)
   refine rop_locA agg32 hL_14 1 rfl 0 (vs := [(Sl.v t24_1)]) rfl rfl ?_
   have H := H  h_14  (Fr.old (Fr.r (In []) _) hf_6) hL_14
   exact H
  have H := H.1 hb_6
  obtain ⟨hi_2, H⟩ := H
  refine pop_index sli22 siz27 .i64 g0_1 t29_1 hi_2 ?_
  obtain ⟨t33_1, hc_11, H⟩ := H
  refine rop_one one27 (Sl.v t33_1) hc_11 ?_
  refine pop_len t33_1 _ _ sli27 ?_
  obtain ⟨J_2, ⟨n_3, h0_1⟩, HB_1⟩ := H
  refine loop_intro (J := fun (n : Nat) (vs : List Value) (h' : Heap) => ∃ t36_1 : Int, vs = [(VI t36_1)] ∧ J_2 n t36_1 h' ∧ Vars h' [(b_3, [(Sl.v t24_1)]), (b_2, [(Sl.v nilSl)]), (b_1, [(Sl.v g0_1)])]) n_3 ⟨0, rfl, h0_1, hL_9⟩ ?_
  intro I_1 mu_1 hI_1 junk_2 tv_1 h_10 hi_3
  obtain ⟨n_2, ⟨t36_1, hv, hJ_2, hL_10⟩, hn_2⟩ := hI_1 _ _ hi_3
  cases hv
  have H := HB_1 n_2 t36_1 h_10 hJ_2 hL_10
  refine pop_lss .i64 t36_1 (t33_1.n : Int) ?_
  refine condM_b (fun hb_7 => ?_) (fun hb_7 => ?_)
  rotate_left
  ·have H := H.2 hb_7
   refine pop_add .i64 t29_1 1 ?_
   obtain ⟨m_2, hm_2, H⟩ := H
   exact hn_1 _ _ ⟨m_2, hm_2, (w64 (t29_1 + 1)), rfl, H, hL_10⟩
  have H := H.1 hb_7
  obtain ⟨hi_4, H⟩ := H
  refine pop_index sli27 siz3 .i64 t33_1 t36_1 hi_4 ?_
  obtain ⟨t39_1, hc_10, H⟩ := H
  refine rop_one one3 (VI t39_1) hc_10 ?_
  refine pop_field 0 fld32_0 b_3 0 ?_
  refine rop_loc one22 hL_10 0 rfl 0 (v := (Sl.v t24_1)) rfl ?_
  obtain ⟨hi_5, H⟩ := H
  refine pop_index sli27 siz3 .i64 names1_1 t29_1 hi_5 ?_
  obtain ⟨t45_1, hc_9, H⟩ := H
  refine rop_one one3 (VI t45_1) hc_9 ?_
  refine pop_field 0 fld32_0 b_3 0 ?_
  refine rop_loc one22 hL_10 0 rfl 0 (v := (Sl.v t24_1)) rfl ?_
  obtain ⟨hi_6, H⟩ := H
  refine pop_index sli27 siz3 .i64 names1_1 t29_1 hi_6 ?_
  obtain ⟨t51_1, hc_8, H⟩ := H
  refine rop_one one3 (VI t51_1) hc_8 ?_
  obtain ⟨hi_7, H⟩ := H
  refine pop_index sli22 siz27 .i64 t24_1 t51_1 hi_7 ?_
  obtain ⟨t53_1, hc_7, H⟩ := H
  refine rop_one one27 (Sl.v t53_1) hc_7 ?_
  obtain ⟨hi_8, H⟩ := H
  refine pop_index sli27 siz3 .i64 names1_1 t39_1 hi_8 ?_
  obtain ⟨t57_1, hc_6, H⟩ := H
  refine rop_one one3 (VI t57_1) hc_6 ?_
  refine H.mono fun rv_4 h_11 H => ?_
  obtain ⟨t58_1, rfl, hL_11, H⟩ := H
  refine ⟨?_, ?_⟩
  ·exact still_one one27 H.1
  obtain ⟨hc_1, H⟩ := H
  refine ⟨?_, ?_⟩
  ·exact still_one one3 H.1
  obtain ⟨hc_2, H⟩ := H
  refine ⟨?_, ?_⟩
  ·exact still_loc one22 hL_11 0 rfl 0 (v := (Sl.v t24_1)) rfl
  refine ⟨?_, ?_⟩
  ·exact still_one one3 H.1
  obtain ⟨hc_3, H⟩ := H
  refine ⟨?_, ?_⟩
  ·exact still_loc one22 hL_11 0 rfl 0 (v := (Sl.v t24_1)) rfl
  refine H.mono fun rv_5 h_12 H => ?_
  obtain ⟨t59_1, rfl, hL_12, H⟩ := H
  refine ⟨?_, ?_⟩
  ·exact still_one one3 H.1
  obtain ⟨hc_4, H⟩ := H
  refine ⟨?_, ?_⟩
  ·exact still_loc one22 hL_12 0 rfl 0 (v := (Sl.v t24_1)) rfl
  refine ⟨?_, ?_⟩
  ·exact still_one one3 H.1
  obtain ⟨hc_5, H⟩ := H
  refine ⟨?_, ?_⟩
  ·exact still_loc one22 hL_12 0 rfl 0 (v := (Sl.v t24_1)) rfl
  obtain ⟨hi_9, H⟩ := H
  refine pop_index sli22 siz27 .i64 t24_1 t45_1 hi_9 ?_
  obtain ⟨hw_1, hL_13, H⟩ := H
  refine uop_cell (v := (Sl.v t59_1)) siz27 hw_1 rfl (fun h_13 he_1 => ?_)
  rw [← he_1] at hL_13
  have H := H h_13 he_1 hL_13
  refine pop_add .i64 t36_1 1 ?_
  obtain ⟨m_1, hm_1, H⟩ := H
  exact hn_2 _ _ ⟨m_1, hm_1, (w64 (t36_1 + 1)), rfl, H, hL_13⟩
def u40 (P : Program) (g0_1 : Sl) (names1_1 : Sl) (h : Heap) (K : Value → Heap → Prop) : Prop :=
  ∀ (b_1 : Nat) (b_2 : Nat) (h_2 : Heap), h.size ≤ b_1 → h.size ≤ b_2 → Fr (In []) h h_2 → Vars h_2 [(b_2, [(Sl.v nilSl)]), (b_1, [(Sl.v g0_1)])] →
  callM P 73 #[(Value.agg #[(Sl.v g0_1)])] h_2 fun rv_1 h_3 => ∃ t7_1 : Bool, rv_1 = (VB t7_1) ∧ Vars h_3 [(b_2, [(Sl.v nilSl)]), (b_1, [(Sl.v g0_1)])] ∧
  ((!t7_1) = true →
  ∀ (h_8 : Heap), Fr (In [b_2]) h_3 h_8 → Vars h_8 [(b_2, [(Sl.v nilSl)]), (b_1, [(Sl.v g0_1)])] →
  K (Value.tuple #[(Value.agg #[(Sl.v nilSl)]), (VB false)]) h_8) ∧
  ((!t7_1) = false →
  callM P 52 #[(Sl.v names1_1), (VI (g0_1.n : Int))] h_3 fun rv_2 h_4 => ∃ t14_1 : Bool, rv_2 = (VB t14_1) ∧ Vars h_4 [(b_2, [(Sl.v nilSl)]), (b_1, [(Sl.v g0_1)])] ∧
  ((!t14_1) = true →
  ∀ (h_5 : Heap), Fr (In [b_2]) h_4 h_5 → Vars h_5 [(b_2, [(Sl.v nilSl)]), (b_1, [(Sl.v g0_1)])] →
  K (Value.tuple #[(Value.agg #[(Sl.v nilSl)]), (VB false)]) h_5) ∧
  ((!t14_1) = false →
  callM P 80 #[(Value.agg #[(Sl.v g0_1)]), (Sl.v names1_1)] h_4 fun rv_3 h_6 => ∃ t20_1 : Sl, rv_3 = (Value.agg #[(Sl.v t20_1)]) ∧ Vars h_6 [(b_2, [(Sl.v nilSl)]), (b_1, [(Sl.v g0_1)])] ∧
  ∀ (h_7 : Heap), Fr (In [b_2]) h_6 h_7 → Vars h_7 [(b_2, [(Sl.v t20_1)]), (b_1, [(Sl.v g0_1)])] →
  K (Value.tuple #[(Value.agg #[(Sl.v t20_1)]), (VB true)]) h_7))
theorem v40 (g0_1 : Sl) (names1_1 : Sl) (h : Heap) (K : Value → Heap → Prop) (H : u40 Try.prog g0_1 names1_1 h K) : callM Try.prog 40 #[(Value.agg #[(Sl.v g0_1)]), (Sl.v names1_1)] h K := by
  refine c40 (Value.agg #[(Sl.v g0_1)]) (Sl.v names1_1) h K ?_
  unfold u40 at H
  unfold t40
  have hL : Vars h [] := .nil
  refine eop_box 32 (Value.agg #[(Sl.v g0_1)]) rfl hL (fun b_1 h_1 hb_1 hf_1 hL_1 => ?_)
  refine eop_alloc 32 zer32 rfl hL_1 (fun b_2 h_2 hb_2 hf_2 hL_2 => ?_)
  refine rop_locA agg32 hL_2 1 rfl 0 (vs := [(Sl.v g0_1)]) rfl rfl ?_
  have H := H b_1 b_2 h_2 (Nat.le_trans (Fr.size (Fr.r (In []) _)) hb_1) (Nat.le_trans (Fr.size (Fr.no' (Fr.r (In []) _) hf_1)) hb_2) (Fr.no' (Fr.no' (Fr.r (In []) _) hf_1) hf_2) hL_2
  refine H.mono fun rv_1 h_3 H => ?_
  obtain ⟨t7_1, rfl, hL_3, H⟩ := H
  refine pop_not t7_1 ?_
  refine guardM_sf (fun hb_3 => ?_) (fun hb_3 => ?_)
  rotate_left
  ·have H := H.1 hb_3
   refine guardM_n' hb_3 (by decide) ?_
   refine guardM_n' hb_3 (by decide) ?_
   refine guardM_n' hb_3 (by decide) ?_
   refine guardM_n' hb_3 (by decide) ?_
   refine guardM_n' hb_3 (by decide) ?_
   refine pop_pickt' hb_3 ?_
   refine condM_t ?_
   refine pop.mk' (v := (Value.agg #[(Sl.v nilSl)])) (fun w => by kernel_rfl) ?_
   refine uop_loc siz32 hL_3 0 rfl 0 [(Sl.v nilSl)] rfl rfl rfl (Nat.le_of_ble_eq_true rfl) (L' := [(b_2, [(Sl.v nilSl)]), (b_1, [(Sl.v g0_1)])]) rfl (fun h_8 hf_5 hL_8 => ?_)
   refine rop_locA agg32 hL_8 0 rfl 0 (vs := [(Sl.v nilSl)]) rfl rfl ?_
   have H := H  h_8  (Fr.old (Fr.r (In []) _) hf_5) hL_8
   exact H
  have H := H.2 hb_3
  refine guardM_y' hb_3 ?_
  refine pop_field 0 fld32_0 b_1 0 ?_
  refine guardM_y' hb_3 ?_
  refine rop_loc one22 hL_3 1 rfl 0 (v := (Sl.v g0_1)) rfl ?_
  refine guardM_y' hb_3 ?_
  refine pop_len g0_1 _ _ sli22 ?_
  refine guardM_y' hb_3 ?_
  refine H.mono fun rv_2 h_4 H => ?_
  obtain ⟨t14_1, rfl, hL_4, H⟩ := H
  refine guardM_y' hb_3 ?_
  refine pop_not t14_1 ?_
  refine pop_pickf' hb_3 ?_
  refine condM_b (fun hb_4 => ?_) (fun hb_4 => ?_)
  ·have H := H.1 hb_4
   refine pop.mk' (v := (Value.agg #[(Sl.v nilSl)])) (fun w => by kernel_rfl) ?_
   refine uop_loc siz32 hL_4 0 rfl 0 [(Sl.v nilSl)] rfl rfl rfl (Nat.le_of_ble_eq_true rfl) (L' := [(b_2, [(Sl.v nilSl)]), (b_1, [(Sl.v g0_1)])]) rfl (fun h_5 hf_3 hL_5 => ?_)
   refine rop_locA agg32 hL_5 0 rfl 0 (vs := [(Sl.v nilSl)]) rfl rfl ?_
   have H := H  h_5  (Fr.old (Fr.r (In []) _) hf_3) hL_5
   exact H
  have H := H.2 hb_4
  refine rop_locA agg32 hL_4 1 rfl 0 (vs := [(Sl.v g0_1)]) rfl rfl ?_
  refine H.mono fun rv_3 h_6 H => ?_
  obtain ⟨t20_1, rfl, hL_6, H⟩ := H
  refine uop_loc siz32 hL_6 0 rfl 0 [(Sl.v t20_1)] rfl rfl rfl (Nat.le_of_ble_eq_true rfl) (L' := [(b_2, [(Sl.v t20_1)]), (b_1, [(Sl.v g0_1)])]) rfl (fun h_7 hf_4 hL_7 => ?_)
  refine rop_locA agg32 hL_7 0 rfl 0 (vs := [(Sl.v t20_1)]) rfl rfl ?_
  have H := H  h_7  (Fr.old (Fr.r (In []) _) hf_4) hL_7
  exact H
def u41 (P : Program) (a0_1 : Sl) (b1_1 : Sl) (h : Heap) (K : Value → Heap → Prop) : Prop :=
  ∀ (b_1 : Nat) (b_2 : Nat) (h_2 : Heap), h.size ≤ b_1 → h.size ≤ b_2 → Fr (In []) h h_2 → Vars h_2 [(b_2, [(Sl.v b1_1)]), (b_1, [(Sl.v a0_1)])] →
  callM P 37 #[(Sl.v a0_1), (Sl.v b1_1)] h_2 fun rv_1 h_3 => ∃ t9_1 : Bool, rv_1 = (VB t9_1) ∧ Vars h_3 [(b_2, [(Sl.v b1_1)]), (b_1, [(Sl.v a0_1)])] ∧
  K (VB t9_1) h_3
theorem v41 (a0_1 : Sl) (b1_1 : Sl) (h : Heap) (K : Value → Heap → Prop) (H : u41 Try.prog a0_1 b1_1 h K) : callM Try.prog 41 #[(Value.agg #[(Sl.v a0_1)]), (Value.agg #[(Sl.v b1_1)])] h K := by
  refine c41 (Value.agg #[(Sl.v a0_1)]) (Value.agg #[(Sl.v b1_1)]) h K ?_
  unfold u41 at H
  unfold t41
  have hL : Vars h [] := .nil
  refine eop_box 32 (Value.agg #[(Sl.v a0_1)]) rfl hL (fun b_1 h_1 hb_1 hf_1 hL_1 => ?_)
  refine eop_box 32 (Value.agg #[(Sl.v b1_1)]) rfl hL_1 (fun b_2 h_2 hb_2 hf_2 hL_2 => ?_)
  refine pop_field 0 fld32_0 b_1 0 ?_
  refine rop_loc one22 hL_2 1 rfl 0 (v := (Sl.v a0_1)) rfl ?_
  refine pop_field 0 fld32_0 b_2 0 ?_
  refine rop_loc one22 hL_2 0 rfl 0 (v := (Sl.v b1_1)) rfl ?_
  have H := H b_1 b_2 h_2 (Nat.le_trans (Fr.size (Fr.r (In []) _)) hb_1) (Nat.le_trans (Fr.size (Fr.no' (Fr.r (In []) _) hf_1)) hb_2) (Fr.no' (Fr.no' (Fr.r (In []) _) hf_1) hf_2) hL_2
  refine H.mono fun rv_1 h_3 H => ?_
  obtain ⟨t9_1, rfl, hL_3, H⟩ := H
  exact H
def u42 (P : Program) (code0_1 : Sl) (h : Heap) (K : Value → Heap → Prop) : Prop :=
  ∀ (b_1 : Nat) (h_1 : Heap), h.size ≤ b_1 → Fr (In []) h h_1 → Vars h_1 [(b_1, [(Sl.v nilSl)])] →
  callM P 81 #[(Sl.v code0_1)] h_1 fun rv_1 h_2 => ∃ t5_1 : Sl, ∃ t5_2 : Int, rv_1 = (Value.tuple #[(Value.agg #[(Sl.v t5_1)]), (VI t5_2)]) ∧ Vars h_2 [(b_1, [(Sl.v nilSl)])] ∧
  ∀ (h_3 : Heap), Fr (In [b_1]) h_2 h_3 → Vars h_3 [(b_1, [(Sl.v t5_1)])] →
  K (Value.tuple #[(Value.agg #[(Sl.v t5_1)]), (VI t5_2)]) h_3
theorem v42 (code0_1 : Sl) (h : Heap) (K : Value → Heap → Prop) (H : u42 Try.prog code0_1 h K) : callM Try.prog 42 #[(Sl.v code0_1)] h K := by
  refine c42 (Sl.v code0_1) h K ?_
  unfold u42 at H
  unfold t42
  have hL : Vars h [] := .nil
  refine eop_alloc 32 zer32 rfl hL (fun b_1 h_1 hb_1 hf_1 hL_1 => ?_)
  have H := H b_1 h_1 (Nat.le_trans (Fr.size (Fr.r (In []) _)) hb_1) (Fr.no' (Fr.r (In []) _) hf_1) hL_1
  refine H.mono fun rv_1 h_2 H => ?_
  obtain ⟨t5_1, t5_2, rfl, hL_2, H⟩ := H
  refine pop_ext (v := (Value.agg #[(Sl.v t5_1)])) rfl ?_
  refine pop_ext (v := (VI t5_2)) rfl ?_
  refine uop_loc siz32 hL_2 0 rfl 0 [(Sl.v t5_1)] rfl rfl rfl (Nat.le_of_ble_eq_true rfl) (L' := [(b_1, [(Sl.v t5_1)])]) rfl (fun h_3 hf_2 hL_3 => ?_)
  refine rop_locA agg32 hL_3 0 rfl 0 (vs := [(Sl.v t5_1)]) rfl rfl ?_
  have H := H  h_3  (Fr.old (Fr.r (In []) _) hf_2) hL_3
  exact H
def u43 (P : Program) (g0_1 : Sl) (p1_1 : Int) (h : Heap) (K : Value → Heap → Prop) : Prop :=
  ∀ (b_1 : Nat) (h_1 : Heap), h.size ≤ b_1 → Fr (In []) h h_1 → Vars h_1 [(b_1, [(Sl.v g0_1)])] →
  eop P (Instr.buildSlice 27 1 #[(0, (VI p1_1))]) h_1 fun rv_1 h_2 => ∃ t8_1 : Sl, rv_1 = (Sl.v t8_1) ∧ Vars h_2 [(b_1, [(Sl.v g0_1)])] ∧
  callM P 65 #[(Value.agg #[(Sl.v g0_1)]), (Sl.v t8_1)] h_2 fun rv_2 h_3 => ∃ t9_1 : Bool, rv_2 = (VB t9_1) ∧ Vars h_3 [(b_1, [(Sl.v g0_1)])] ∧
  ((!t9_1) = true →
  K (Value.tuple #[(VB false), (VB false)]) h_3) ∧
  ((!t9_1) = false →
  callM P 82 #[(Value.agg #[(Sl.v g0_1)]), (VI p1_1)] h_3 fun rv_3 h_4 => ∃ t13_1 : Bool, rv_3 = (VB t13_1) ∧ Vars h_4 [(b_1, [(Sl.v g0_1)])] ∧
  K (Value.tuple #[(VB t13_1), (VB true)]) h_4)
theorem v43 (g0_1 : Sl) (p1_1 : Int) (h : Heap) (K : Value → Heap → Prop) (H : u43 Try.prog g0_1 p1_1 h K) : callM Try.prog 43 #[(Value.agg #[(Sl.v g0_1)]), (VI p1_1)] h K := by
  refine c43 (Value.agg #[(Sl.v g0_1)]) (VI p1_1) h K ?_
  unfold u43 at H
  unfold t43
  have hL : Vars h [] := .nil
  refine eop_box 32 (Value.agg #[(Sl.v g0_1)]) rfl hL (fun b_1 h_1 hb_1 hf_1 hL_1 => ?_)
  refine rop_locA agg32 hL_1 0 rfl 0 (vs := [(Sl.v g0_1)]) rfl rfl ?_
  have H := H b_1 h_1 (Nat.le_trans (Fr.size (Fr.r (In []) _)) hb_1) (Fr.no' (Fr.r (In []) _) hf_1) hL_1
  refine H.mono fun rv_1 h_2 H => ?_
  obtain ⟨t8_1, rfl, hL_2, H⟩ := H
  refine H.mono fun rv_2 h_3 H => ?_
  obtain ⟨t9_1, rfl, hL_3, H⟩ := H
  refine pop_not t9_1 ?_
  refine condM_b (fun hb_2 => ?_) (fun hb_2 => ?_)
  ·have H := H.1 hb_2
   exact H
  have H := H.2 hb_2
  refine rop_locA agg32 hL_3 0 rfl 0 (vs := [(Sl.v g0_1)]) rfl rfl ?_
  refine H.mono fun rv_3 h_4 H => ?_
  obtain ⟨t13_1, rfl, hL_4, H⟩ := H
  exact H
def u44 (P : Program) (g0_1 : Sl) (p1_1 : Int) (h : Heap) (K : Value → Heap → Prop) : Prop :=
  ∀ (b_1 : Nat) (h_1 : Heap), h.size ≤ b_1 → Fr (In []) h h_1 → Vars h_1 [(b_1, [(Sl.v g0_1)])] →
  callM P 67 #[(Value.agg #[(Sl.v g0_1)]), (VI p1_1)] h_1 fun rv_1 h_2 => ∃ t8_1 : Bool, rv_1 = (VB t8_1) ∧ Vars h_2 [(b_1, [(Sl.v g0_1)])] ∧
  ((!t8_1) = true →
  K (Value.tuple #[(VB false), (VB false)]) h_2) ∧
  ((!t8_1) = false →
  callM P 83 #[(Value.agg #[(Sl.v g0_1)]), (VI p1_1)] h_2 fun rv_2 h_3 => ∃ t12_1 : Bool, rv_2 = (VB t12_1) ∧ Vars h_3 [(b_1, [(Sl.v g0_1)])] ∧
  K (Value.tuple #[(VB t12_1), (VB true)]) h_3)
theorem v44 (g0_1 : Sl) (p1_1 : Int) (h : Heap) (K : Value → Heap → Prop) (H : u44 Try.prog g0_1 p1_1 h K) : callM Try.prog 44 #[(Value.agg #[(Sl.v g0_1)]), (VI p1_1)] h K := by
  refine c44 (Value.agg #[(Sl.v g0_1)]) (VI p1_1) h K ?_
  unfold u44 at H
  unfold t44
  have hL : Vars h [] := .nil
  refine eop_box 32 (Value.agg #[(Sl.v g0_1)]) rfl hL (fun b_1 h_1 hb_1 hf_1 hL_1 => ?_)
  refine rop_locA agg32 hL_1 0 rfl 0 (vs := [(Sl.v g0_1)]) rfl rfl ?_
  have H := H b_1 h_1 (Nat.le_trans (Fr.size (Fr.r (In []) _)) hb_1) (Fr.no' (Fr.r (In []) _) hf_1) hL_1
  refine H.mono fun rv_1 h_2 H => ?_
  obtain ⟨t8_1, rfl, hL_2, H⟩ := H
  refine pop_not t8_1 ?_
  refine condM_b (fun hb_2 => ?_) (fun hb_2 => ?_)
  ·have H := H.1 hb_2
   exact H
  have H := H.2 hb_2
  refine rop_locA agg32 hL_2 0 rfl 0 (vs := [(Sl.v g0_1)]) rfl rfl ?_
  refine H.mono fun rv_2 h_3 H => ?_
  obtain ⟨t12_1, rfl, hL_3, H⟩ := H
  exact H
def u52 (P : Program) (names0_1 : Sl) (n1_1 : Int) (h : Heap) (K : Value → Heap → Prop) : Prop :=
  ((!decide ((names0_1.n : Int) = n1_1)) = true →
  K (VB false) h) ∧
  ((!decide ((names0_1.n : Int) = n1_1)) = false →
  callM P 96 #[(Sl.v names0_1), (VI 0), (VI (w64 (n1_1 - 1)))] h fun rv_1 h_1 => ∃ t15_1 : Bool, rv_1 = (VB t15_1) ∧ Vars h_1 [] ∧
  ((!t15_1) = true →
  K (VB false) h_1) ∧
  ((!t15_1) = false →
  ∃ J_1 : Nat → Int → Heap → Prop, (∃ n0 : Nat, J_1 n0 0 h_1) ∧
  ∀ (n_1 : Nat) (t20_1 : Int) (h_2 : Heap), J_1 n_1 t20_1 h_2 → Vars h_2 [] →
  ((decide (t20_1 < (names0_1.n : Int))) = true →
  InB names0_1 t20_1 ∧
  ∃ t24_1 : Int, hcell h_2 (Sl.at names0_1 t20_1 1) = some (VI t24_1) ∧
  pop P (Instr.sliceAt 27 (Sl.v names0_1) none (some (VI t20_1)) none) fun rv_2 => ∃ t27_1 : Sl, rv_2 = (Sl.v t27_1) ∧ 
  callM P 74 #[(Sl.v t27_1), (VI t24_1)] h_2 fun rv_3 h_3 => ∃ t29_1 : Bool, rv_3 = (VB t29_1) ∧ Vars h_3 [] ∧
  (t29_1 = true →
  K (VB false) h_3) ∧
  (t29_1 = false →
  ∃ m : Nat, m < n_1 ∧ J_1 m (w64 (t20_1 + 1)) h_3)) ∧
  ((decide (t20_1 < (names0_1.n : Int))) = false →
  K (VB true) h_2)))
theorem v52 (names0_1 : Sl) (n1_1 : Int) (h : Heap) (K : Value → Heap → Prop) (H : u52 Try.prog names0_1 n1_1 h K) : callM Try.prog 52 #[(Sl.v names0_1), (VI n1_1)] h K := by
  refine c52 (Sl.v names0_1) (VI n1_1) h K ?_
  unfold u52 at H
  unfold t52
  have hL : Vars h [] := .nil
  refine pop_len names0_1 _ _ sli27 ?_
  refine pop_ine .i64 _ _ (names0_1.n : Int) n1_1 ?_
  refine guardM_sf (fun hb_1 => ?_) (fun hb_1 => ?_)
  rotate_left
  ·have H := H.1 hb_1
   refine guardM_n' hb_1 (by decide) ?_
   refine guardM_n' hb_1 (by decide) ?_
   refine guardM_n' hb_1 (by decide) ?_
   refine guardM_n' hb_1 (by decide) ?_
   refine pop_pickt' hb_1 ?_
   refine condM_t ?_
   exact H
  have H := H.2 hb_1
  refine guardM_y' hb_1 ?_
  refine guardM_y' hb_1 ?_
  refine pop_sub .i64 n1_1 1 ?_
  refine guardM_y' hb_1 ?_
  refine H.mono fun rv_1 h_1 H => ?_
  obtain ⟨t15_1, rfl, hL_1, H⟩ := H
  refine guardM_y' hb_1 ?_
  refine pop_not t15_1 ?_
  refine pop_pickf' hb_1 ?_
  refine condM_b (fun hb_2 => ?_) (fun hb_2 => ?_)
  ·have H := H.1 hb_2
   exact H
  have H := H.2 hb_2
  refine pop_len names0_1 _ _ sli27 ?_
  obtain ⟨J_1, ⟨n_2, h0_1⟩, HB_1⟩ := H
  refine loop_intro (J := fun (n : Nat) (vs : List Value) (h' : Heap) => ∃ t20_1 : Int, vs = [(VI t20_1)] ∧ J_1 n t20_1 h' ∧ Vars h' []) n_2 ⟨0, rfl, h0_1, hL_1⟩ ?_
  intro I_1 mu_1 hI_1 junk_1 tv_1 h_2 hi_1
  obtain ⟨n_1, ⟨t20_1, hv, hJ_1, hL_2⟩, hn_1⟩ := hI_1 _ _ hi_1
  cases hv
  have H := HB_1 n_1 t20_1 h_2 hJ_1 hL_2
  refine pop_lss .i64 t20_1 (names0_1.n : Int) ?_
  refine condM_b (fun hb_3 => ?_) (fun hb_3 => ?_)
  rotate_left
  ·have H := H.2 hb_3
   exact H
  have H := H.1 hb_3
  obtain ⟨hi_2, H⟩ := H
  refine pop_index sli27 siz3 .i64 names0_1 t20_1 hi_2 ?_
  obtain ⟨t24_1, hc_1, H⟩ := H
  refine rop_one one3 (VI t24_1) hc_1 ?_
  refine H.mono fun rv_2 H => ?_
  obtain ⟨t27_1, rfl, H⟩ := H
  refine H.mono fun rv_3 h_3 H => ?_
  obtain ⟨t29_1, rfl, hL_3, H⟩ := H
  refine condM_b (fun hb_4 => ?_) (fun hb_4 => ?_)
  ·have H := H.1 hb_4
   exact H
  have H := H.2 hb_4
  refine pop_add .i64 t20_1 1 ?_
  obtain ⟨m_1, hm_1, H⟩ := H
  exact hn_1 _ _ ⟨m_1, hm_1, (w64 (t20_1 + 1)), rfl, H, hL_3⟩
def u56 (P : Program) (g0_1 : Sl) (h : Heap) (K : Value → Heap → Prop) : Prop :=
  ∀ (b_1 : Nat) (b_2 : Nat) (h_3 : Heap), h.size ≤ b_1 → h.size ≤ b_2 → Fr (In []) h h_3 → Vars h_3 [(b_2, [(VI (g0_1.n : Int))]), (b_1, [(Sl.v g0_1)])] →
  callM P 102 #[(VI (g0_1.n : Int)), (VI 1), (VI 8)] h_3 fun rv_1 h_4 => ∃ t10_1 : Bool, rv_1 = (VB t10_1) ∧ Vars h_4 [(b_2, [(VI (g0_1.n : Int))]), (b_1, [(Sl.v g0_1)])] ∧
  ((!t10_1) = true →
  K (VB false) h_4) ∧
  ((!t10_1) = false →
  ∃ J_1 : Nat → Int → Int → Heap → Prop, (∃ n0 : Nat, J_1 n0 0 (g0_1.n : Int) h_4) ∧
  ∀ (n_1 : Nat) (t15_1 : Int) (x_1 : Int) (h_5 : Heap), J_1 n_1 t15_1 x_1 h_5 → Vars h_5 [(b_2, [(VI x_1)]), (b_1, [(Sl.v g0_1)])] →
  ((decide (t15_1 < (g0_1.n : Int))) = true →
  InB g0_1 t15_1 ∧
  ∃ t18_1 : Sl, hcell h_5 (Sl.at g0_1 t15_1 1) = some (Sl.v t18_1) ∧
  ((decide (5 < (t18_1.n : Int))) = true →
  K (VB false) h_5) ∧
  ((decide (5 < (t18_1.n : Int))) = false →
  callM P 103 #[(Sl.v t18_1), (Value.func (Fn.func 104) #[] #[(VP b_2 0)])] h_5 fun rv_2 h_6 => ∃ x_2 : Int, ∃ t25_1 : Bool, rv_2 = (VB t25_1) ∧ Vars h_6 [(b_2, [(VI x_2)]), (b_1, [(Sl.v g0_1)])] ∧
  (t25_1 = true →
  K (VB false) h_6) ∧
  (t25_1 = false →
  ∃ m : Nat, m < n_1 ∧ J_1 m (w64 (t15_1 + 1)) x_2 h_6))) ∧
  ((decide (t15_1 < (g0_1.n : Int))) = false →
  K (VB true) h_5))
theorem v56 (g0_1 : Sl) (h : Heap) (K : Value → Heap → Prop) (H : u56 Try.prog g0_1 h K) : callM Try.prog 56 #[(Value.agg #[(Sl.v g0_1)])] h K := by
  refine c56 (Value.agg #[(Sl.v g0_1)]) h K ?_
  unfold u56 at H
  unfold t56
  have hL : Vars h [] := .nil
  refine eop_box 32 (Value.agg #[(Sl.v g0_1)]) rfl hL (fun b_1 h_1 hb_1 hf_1 hL_1 => ?_)
  refine pop_field 0 fld32_0 b_1 0 ?_
  refine rop_loc one22 hL_1 0 rfl 0 (v := (Sl.v g0_1)) rfl ?_
  refine pop_len g0_1 _ _ sli22 ?_
  refine eop_alloc 3 zer3 rfl hL_1 (fun b_2 h_2 hb_2 hf_2 hL_2 => ?_)
  refine uop_loc siz3 hL_2 0 rfl 0 [(VI (g0_1.n : Int))] rfl rfl rfl (Nat.le_of_ble_eq_true rfl) (L' := [(b_2, [(VI (g0_1.n : Int))]), (b_1, [(Sl.v g0_1)])]) rfl (fun h_3 hf_3 hL_3 => ?_)
  refine rop_loc one3 hL_3 0 rfl 0 (v := (VI (g0_1.n : Int))) rfl ?_
  have H := H b_1 b_2 h_3 (Nat.le_trans (Fr.size (Fr.r (In []) _)) hb_1) (Nat.le_trans (Fr.size (Fr.no' (Fr.r (In []) _) hf_1)) hb_2) (Fr.new (Fr.no' (Fr.no' (Fr.r (In []) _) hf_1) hf_2) (Nat.le_trans (Fr.size (Fr.no' (Fr.r (In []) _) hf_1)) hb_2) hf_3) hL_3
  refine H.mono fun rv_1 h_4 H => ?_
  obtain ⟨t10_1, rfl, hL_4, H⟩ := H
  refine pop_not t10_1 ?_
  refine condM_b (fun hb_3 => ?_) (fun hb_3 => ?_)
  ·have H := H.1 hb_3
   exact H
  have H := H.2 hb_3
  refine pop_field 0 fld32_0 b_1 0 ?_
  refine rop_loc one22 hL_4 1 rfl 0 (v := (Sl.v g0_1)) rfl ?_
  refine pop_len g0_1 _ _ sli22 ?_
  obtain ⟨J_1, ⟨n_2, h0_1⟩, HB_1⟩ := H
  refine loop_intro (J := fun (n : Nat) (vs : List Value) (h' : Heap) => ∃ t15_1 : Int, ∃ x_1 : Int, vs = [(VI t15_1)] ∧ J_1 n t15_1 x_1 h' ∧ Vars h' [(b_2, [(VI x_1)]), (b_1, [(Sl.v g0_1)])]) n_2 ⟨0, (g0_1.n : Int), rfl, h0_1, hL_4⟩ ?_
  intro I_1 mu_1 hI_1 junk_1 tv_1 h_5 hi_1
  obtain ⟨n_1, ⟨t15_1, x_1, hv, hJ_1, hL_5⟩, hn_1⟩ := hI_1 _ _ hi_1
  cases hv
  have H := HB_1 n_1 t15_1 x_1 h_5 hJ_1 hL_5
  refine pop_lss .i64 t15_1 (g0_1.n : Int) ?_
  refine condM_b (fun hb_4 => ?_) (fun hb_4 => ?_)
  rotate_left
  ·have H := H.2 hb_4
   exact H
  have H := H.1 hb_4
  obtain ⟨hi_2, H⟩ := H
  refine pop_index sli22 siz27 .i64 g0_1 t15_1 hi_2 ?_
  obtain ⟨t18_1, hc_1, H⟩ := H
  refine rop_one one27 (Sl.v t18_1) hc_1 ?_
  refine pop_len t18_1 _ _ sli27 ?_
  refine pop_gtr .i64 (t18_1.n : Int) 5 ?_
  refine guardM_sf (fun hb_5 => ?_) (fun hb_5 => ?_)
  rotate_left
  ·have H := H.1 hb_5
   refine guardM_n' hb_5 (by decide) ?_
   refine guardM_n' hb_5 (by decide) ?_
   refine pop_pickt' hb_5 ?_
   refine condM_t ?_
   exact H
  have H := H.2 hb_5
  refine guardM_y' hb_5 ?_
  refine pop_func _ _ _ ?_
  refine guardM_y' hb_5 ?_
  refine H.mono fun rv_2 h_6 H => ?_
  obtain ⟨x_2, t25_1, rfl, hL_6, H⟩ := H
  refine pop_pickf' hb_5 ?_
  refine condM_b (fun hb_6 => ?_) (fun hb_6 => ?_)
  ·have H := H.1 hb_6
   exact H
  have H := H.2 hb_6
  refine pop_add .i64 t15_1 1 ?_
  obtain ⟨m_1, hm_1, H⟩ := H
  exact hn_1 _ _ ⟨m_1, hm_1, (w64 (t15_1 + 1)), x_2, rfl, H, hL_6⟩
def u57 (P : Program) (g0_1 : Sl) (names1_1 : Sl) (h : Heap) (K : Value → Heap → Prop) : Prop :=
  ((!decide ((names1_1.n : Int) = (g0_1.n : Int))) = true →
  ∀ (b_1 : Nat) (h_1 : Heap), h.size ≤ b_1 → Fr (In []) h h_1 → Vars h_1 [(b_1, [(Sl.v g0_1)])] →
  K (VB false) h_1) ∧
  ((!decide ((names1_1.n : Int) = (g0_1.n : Int))) = false →
  ∀ (b_1 : Nat) (h_1 : Heap), h.size ≤ b_1 → Fr (In []) h h_1 → Vars h_1 [(b_1, [(Sl.v g0_1)])] →
  callM P 106 #[(Sl.v names1_1)] h_1 fun rv_1 h_2 => ∃ t14_1 : Value, rv_1 = t14_1 ∧ Vars h_2 [(b_1, [(Sl.v g0_1)])] ∧
  callM P 105 #[t14_1] h_2 fun rv_2 h_3 => ∃ t15_1 : Sl, rv_2 = (Sl.v t15_1) ∧ Vars h_3 [(b_1, [(Sl.v g0_1)])] ∧
  ∃ J_1 : Nat → Int → Heap → Prop, (∃ n0 : Nat, J_1 n0 0 h_3) ∧
  ∀ (n_1 : Nat) (t17_1 : Int) (h_4 : Heap), J_1 n_1 t17_1 h_4 → Vars h_4 [(b_1, [(Sl.v g0_1)])] →
  ((decide (t17_1 < (t15_1.n : Int))) = true →
  InB t15_1 t17_1 ∧
  ∃ t21_1 : Int, hcell h_4 (Sl.at t15_1 t17_1 1) = some (VI t21_1) ∧
  ((!decide (t17_1 = t21_1)) = true →
  K (VB false) h_4) ∧
  ((!decide (t17_1 = t21_1)) = false →
  ∃ m : Nat, m < n_1 ∧ J_1 m (w64 (t17_1 + 1)) h_4)) ∧
  ((decide (t17_1 < (t15_1.n : Int))) = false →
  K (VB true) h_4))
theorem v57 (g0_1 : Sl) (names1_1 : Sl) (h : Heap) (K : Value → Heap → Prop) (H : u57 Try.prog g0_1 names1_1 h K) : callM Try.prog 57 #[(Value.agg #[(Sl.v g0_1)]), (Sl.v names1_1)] h K := by
  refine c57 (Value.agg #[(Sl.v g0_1)]) (Sl.v names1_1) h K ?_
  unfold u57 at H
  unfold t57
  have hL : Vars h [] := .nil
  refine eop_box 32 (Value.agg #[(Sl.v g0_1)]) rfl hL (fun b_1 h_1 hb_1 hf_1 hL_1 => ?_)
  refine pop_len names1_1 _ _ sli27 ?_
  refine pop_field 0 fld32_0 b_1 0 ?_
  refine rop_loc one22 hL_1 0 rfl 0 (v := (Sl.v g0_1)) rfl ?_
  refine pop_len g0_1 _ _ sli22 ?_
  refine pop_ine .i64 _ _ (names1_1.n : Int) (g0_1.n : Int) ?_
  refine condM_b (fun hb_2 => ?_) (fun hb_2 => ?_)
  ·have H := H.1 hb_2
   have H := H b_1 h_1 (Nat.le_trans (Fr.size (Fr.r (In []) _)) hb_1) (Fr.no' (Fr.r (In []) _) hf_1) hL_1
   exact H
  have H := H.2 hb_2
  have H := H b_1 h_1 (Nat.le_trans (Fr.size (Fr.r (In []) _)) hb_1) (Fr.no' (Fr.r (In []) _) hf_1) hL_1
  refine H.mono fun rv_1 h_2 H => ?_
  obtain ⟨t14_1, rfl, hL_2, H⟩ := H
  refine H.mono fun rv_2 h_3 H => ?_
  obtain ⟨t15_1, rfl, hL_3, H⟩ := H
  refine pop_len t15_1 _ _ sli27 ?_
  obtain ⟨J_1, ⟨n_2, h0_1⟩, HB_1⟩ := H
  refine loop_intro (J := fun (n : Nat) (vs : List Value) (h' : Heap) => ∃ t17_1 : Int, vs = [(VI t17_1)] ∧ J_1 n t17_1 h' ∧ Vars h' [(b_1, [(Sl.v g0_1)])]) n_2 ⟨0, rfl, h0_1, hL_3⟩ ?_
  intro I_1 mu_1 hI_1 junk_1 tv_1 h_4 hi_1
  obtain ⟨n_1, ⟨t17_1, hv, hJ_1, hL_4⟩, hn_1⟩ := hI_1 _ _ hi_1
  cases hv
  have H := HB_1 n_1 t17_1 h_4 hJ_1 hL_4
  refine pop_lss .i64 t17_1 (t15_1.n : Int) ?_
  refine condM_b (fun hb_3 => ?_) (fun hb_3 => ?_)
  rotate_left
  ·have H := H.2 hb_3
   exact H
  have H := H.1 hb_3
  obtain ⟨hi_2, H⟩ := H
  refine pop_index sli27 siz3 .i64 t15_1 t17_1 hi_2 ?_
  obtain ⟨t21_1, hc_1, H⟩ := H
  refine rop_one one3 (VI t21_1) hc_1 ?_
  refine pop_ine .i64 _ _ t17_1 t21_1 ?_
  refine condM_b (fun hb_4 => ?_) (fun hb_4 => ?_)
  ·have H := H.1 hb_4
   exact H
  have H := H.2 hb_4
  refine pop_add .i64 t17_1 1 ?_
  obtain ⟨m_1, hm_1, H⟩ := H
  exact hn_1 _ _ ⟨m_1, hm_1, (w64 (t17_1 + 1)), rfl, H, hL_4⟩
def u63 (P : Program) (b_1 : Nat) (c0_1 : Sl) (c0_2 : Int) (c0_3 : Int) (h : Heap) (K : Value → Heap → Prop) : Prop :=
  ∀ (b_2 : Nat) (h_1 : Heap), h.size ≤ b_2 → Fr (In []) h h_1 → Vars h_1 [(b_2, [(Sl.v nilSl)]), (b_1, [(Sl.v c0_1), (VI c0_2), (Value.int .u64 c0_3)])] →
  callM P 109 #[(VP b_1 0), (VI 6)] h_1 fun rv_1 h_2 => ∃ x_1 : Sl, ∃ x_2 : Int, ∃ x_3 : Int, ∃ t5_1 : Sl, rv_1 = (Value.agg #[(Sl.v t5_1)]) ∧ Vars h_2 [(b_2, [(Sl.v nilSl)]), (b_1, [(Sl.v x_1), (VI x_2), (Value.int .u64 x_3)])] ∧
  ∀ (b_3 : Nat) (h_4 : Heap), h_2.size ≤ b_3 → Fr (In []) h_2 h_4 → Vars h_4 [(b_3, [(Sl.v t5_1)]), (b_2, [(Sl.v nilSl)]), (b_1, [(Sl.v x_1), (VI x_2), (Value.int .u64 x_3)])] →
  callM P 110 #[(VP b_1 0), (VI 16)] h_4 fun rv_2 h_5 => ∃ x_4 : Sl, ∃ x_5 : Int, ∃ x_6 : Int, ∃ t7_1 : Int, rv_2 = (VI t7_1) ∧ Vars h_5 [(b_3, [(Sl.v t5_1)]), (b_2, [(Sl.v nilSl)]), (b_1, [(Sl.v x_4), (VI x_5), (Value.int .u64 x_6)])] ∧
  ((decide (t7_1 = 0)) = true →
  InB t5_1 0 ∧
  ∃ t15_1 : Sl, hcell h_5 (Sl.at t5_1 0 1) = some (Sl.v t15_1) ∧
  eop P (Instr.buildSlice 27 3 #[(0, (Value.int IntKind.i64 (-1))), (1, (VI (t5_1.n : Int))), (2, (Value.int IntKind.i64 4611686018427387904))]) h_5 fun rv_3 h_6 => ∃ t20_1 : Sl, rv_3 = (Sl.v t20_1) ∧ Vars h_6 [(b_3, [(Sl.v t5_1)]), (b_2, [(Sl.v nilSl)]), (b_1, [(Sl.v x_4), (VI x_5), (Value.int .u64 x_6)])] ∧
  hcell h_6 (Sl.at t5_1 0 1) = some (Sl.v t15_1) ∧
  callM P 79 #[(VP b_1 0), (Sl.v t20_1)] h_6 fun rv_4 h_7 => ∃ x_7 : Sl, ∃ x_8 : Int, ∃ x_9 : Int, ∃ t21_1 : Int, rv_4 = (VI t21_1) ∧ Vars h_7 [(b_3, [(Sl.v t5_1)]), (b_2, [(Sl.v nilSl)]), (b_1, [(Sl.v x_7), (VI x_8), (Value.int .u64 x_9)])] ∧
  hcell h_7 (Sl.at t5_1 0 1) = some (Sl.v t15_1) ∧
  eop P (Instr.buildSlice 27 1 #[(0, (VI t21_1))]) h_7 fun rv_5 h_8 => ∃ t22_1 : Sl, rv_5 = (Sl.v t22_1) ∧ Vars h_8 [(b_3, [(Sl.v t5_1)]), (b_2, [(Sl.v nilSl)]), (b_1, [(Sl.v x_7), (VI x_8), (Value.int .u64 x_9)])] ∧
  hcell h_8 (Sl.at t5_1 0 1) = some (Sl.v t15_1) ∧
  eop P (appS 27 27 27 (Sl.v t15_1) (Sl.v t22_1)) h_8 fun rv_6 h_9 => ∃ t23_1 : Sl, rv_6 = (Sl.v t23_1) ∧ Vars h_9 [(b_3, [(Sl.v t5_1)]), (b_2, [(Sl.v nilSl)]), (b_1, [(Sl.v x_7), (VI x_8), (Value.int .u64 x_9)])] ∧
  InB t5_1 0 ∧
  Writable h_9 (Sl.at t5_1 0 1) ∧ Vars (hset h_9 (Sl.at t5_1 0 1) (Sl.v t23_1)) [(b_3, [(Sl.v t5_1)]), (b_2, [(Sl.v nilSl)]), (b_1, [(Sl.v x_7), (VI x_8), (Value.int .u64 x_9)])] ∧
  ∀ h_10 : Heap, h_10 = hset h_9 (Sl.at t5_1 0 1) (Sl.v t23_1) → Vars h_10 [(b_3, [(Sl.v t5_1)]), (b_2, [(Sl.v nilSl)]), (b_1, [(Sl.v x_7), (VI x_8), (Value.int .u64 x_9)])] →
  ∀ (h_11 : Heap), Fr (In [b_2]) h_10 h_11 → Vars h_11 [(b_3, [(Sl.v t5_1)]), (b_2, [(Sl.v t5_1)]), (b_1, [(Sl.v x_7), (VI x_8), (Value.int .u64 x_9)])] →
  K (Value.agg #[(Sl.v t5_1)]) h_11) ∧
  ((decide (t7_1 = 0)) = false →
  ((decide (t7_1 = 1)) = true →
  callM P 110 #[(VP b_1 0), (VI 2)] h_5 fun rv_7 h_12 => ∃ x_10 : Sl, ∃ x_11 : Int, ∃ x_12 : Int, ∃ t30_1 : Int, rv_7 = (VI t30_1) ∧ Vars h_12 [(b_3, [(Sl.v t5_1)]), (b_2, [(Sl.v nilSl)]), (b_1, [(Sl.v x_10), (VI x_11), (Value.int .u64 x_12)])] ∧
  eop P (Instr.makeSlice 27 (VI (w64 (5 + t30_1))) (VI (w64 (5 + t30_1)))) h_12 fun rv_8 h_13 => ∃ t32_1 : Sl, rv_8 = (Sl.v t32_1) ∧ Vars h_13 [(b_3, [(Sl.v t5_1)]), (b_2, [(Sl.v nilSl)]), (b_1, [(Sl.v x_10), (VI x_11), (Value.int .u64 x_12)])] ∧
  InB t5_1 0 ∧
  Writable h_13 (Sl.at t5_1 0 1) ∧ Vars (hset h_13 (Sl.at t5_1 0 1) (Sl.v t32_1)) [(b_3, [(Sl.v t5_1)]), (b_2, [(Sl.v nilSl)]), (b_1, [(Sl.v x_10), (VI x_11), (Value.int .u64 x_12)])] ∧
  ∀ h_14 : Heap, h_14 = hset h_13 (Sl.at t5_1 0 1) (Sl.v t32_1) → Vars h_14 [(b_3, [(Sl.v t5_1)]), (b_2, [(Sl.v nilSl)]), (b_1, [(Sl.v x_10), (VI x_11), (Value.int .u64 x_12)])] →
  ∀ (h_15 : Heap), Fr (In [b_2]) h_14 h_15 → Vars h_15 [(b_3, [(Sl.v t5_1)]), (b_2, [(Sl.v t5_1)]), (b_1, [(Sl.v x_10), (VI x_11), (Value.int .u64 x_12)])] →
  K (Value.agg #[(Sl.v t5_1)]) h_15) ∧
  ((decide (t7_1 = 1)) = false →
  ((decide (t7_1 = 2)) = true →
  ∃ J_1 : Nat → Sl → Sl → Int → Int → Heap → Prop, (∃ n0 : Nat, J_1 n0 t5_1 x_4 x_5 x_6 h_5) ∧
  ∀ (n_1 : Nat) (x_13 : Sl) (x_14 : Sl) (x_15 : Int) (x_16 : Int) (h_16 : Heap), J_1 n_1 x_13 x_14 x_15 x_16 h_16 → Vars h_16 [(b_3, [(Sl.v x_13)]), (b_2, [(Sl.v nilSl)]), (b_1, [(Sl.v x_14), (VI x_15), (Value.int .u64 x_16)])] →
  callM P 110 #[(VP b_1 0), (VI 2)] h_16 fun rv_9 h_17 => ∃ x_17 : Sl, ∃ x_18 : Int, ∃ x_19 : Int, ∃ t40_1 : Int, rv_9 = (VI t40_1) ∧ Vars h_17 [(b_3, [(Sl.v x_13)]), (b_2, [(Sl.v nilSl)]), (b_1, [(Sl.v x_17), (VI x_18), (Value.int .u64 x_19)])] ∧
  ((decide ((x_13.n : Int) < (w64 (8 + t40_1)))) = true →
  eop P (Instr.buildSlice 27 1 #[(0, (Value.int IntKind.i64 0))]) h_17 fun rv_10 h_18 => ∃ t45_1 : Sl, rv_10 = (Sl.v t45_1) ∧ Vars h_18 [(b_3, [(Sl.v x_13)]), (b_2, [(Sl.v nilSl)]), (b_1, [(Sl.v x_17), (VI x_18), (Value.int .u64 x_19)])] ∧
  eop P (Instr.buildSlice 22 1 #[(0, (Sl.v t45_1))]) h_18 fun rv_11 h_19 => ∃ t46_1 : Sl, rv_11 = (Sl.v t46_1) ∧ Vars h_19 [(b_3, [(Sl.v x_13)]), (b_2, [(Sl.v nilSl)]), (b_1, [(Sl.v x_17), (VI x_18), (Value.int .u64 x_19)])] ∧
  eop P (appS 22 22 22 (Sl.v x_13) (Sl.v t46_1)) h_19 fun rv_12 h_20 => ∃ t47_1 : Sl, rv_12 = (Sl.v t47_1) ∧ Vars h_20 [(b_3, [(Sl.v x_13)]), (b_2, [(Sl.v nilSl)]), (b_1, [(Sl.v x_17), (VI x_18), (Value.int .u64 x_19)])] ∧
  ∀ (h_21 : Heap), Fr (In [b_3]) h_20 h_21 → Vars h_21 [(b_3, [(Sl.v t47_1)]), (b_2, [(Sl.v nilSl)]), (b_1, [(Sl.v x_17), (VI x_18), (Value.int .u64 x_19)])] →
  ∃ m : Nat, m < n_1 ∧ J_1 m t47_1 x_17 x_18 x_19 h_21) ∧
  ((decide ((x_13.n : Int) < (w64 (8 + t40_1)))) = false →
  ∀ (h_22 : Heap), Fr (In [b_2]) h_17 h_22 → Vars h_22 [(b_3, [(Sl.v x_13)]), (b_2, [(Sl.v x_13)]), (b_1, [(Sl.v x_17), (VI x_18), (Value.int .u64 x_19)])] →
  K (Value.agg #[(Sl.v x_13)]) h_22)) ∧
  ((decide (t7_1 = 2)) = false →
  ((decide (t7_1 = 3)) = true →
  ∀ (h_24 : Heap), Fr (In [b_2, b_3]) h_5 h_24 → Vars h_24 [(b_3, [(Sl.v nilSl)]), (b_2, [(Sl.v nilSl)]), (b_1, [(Sl.v x_4), (VI x_5), (Value.int .u64 x_6)])] →
  K (Value.agg #[(Sl.v nilSl)]) h_24) ∧
  ((decide (t7_1 = 3)) = false →
  ∀ (h_25 : Heap), Fr (In [b_2]) h_5 h_25 → Vars h_25 [(b_3, [(Sl.v t5_1)]), (b_2, [(Sl.v t5_1)]), (b_1, [(Sl.v x_4), (VI x_5), (Value.int .u64 x_6)])] →
  K (Value.agg #[(Sl.v t5_1)]) h_25))))
theorem v63 (b_1 : Nat) (c0_1 : Sl) (c0_2 : Int) (c0_3 : Int) (h : Heap) (K : Value → Heap → Prop) (hL : Vars h [(b_1, [(Sl.v c0_1), (VI c0_2), (Value.int .u64 c0_3)])]) (H : u63 Try.prog b_1 c0_1 c0_2 c0_3 h K) : callM Try.prog 63 #[(VP b_1 0)] h K := by
  refine c63 (VP b_1 0) h K ?_
  unfold u63 at H
  unfold t63
  refine eop_alloc 32 zer32 rfl hL (fun b_2 h_1 hb_1 hf_1 hL_1 => ?_)
  have H := H b_2 h_1 (Nat.le_trans (Fr.size (Fr.r (In []) _)) hb_1) (Fr.no' (Fr.r (In []) _) hf_1) hL_1
  refine H.mono fun rv_1 h_2 H => ?_
  obtain ⟨x_1, x_2, x_3, t5_1, rfl, hL_2, H⟩ := H
  refine eop_alloc 32 zer32 rfl hL_2 (fun b_3 h_3 hb_2 hf_2 hL_3 => ?_)
  refine uop_loc siz32 hL_3 0 rfl 0 [(Sl.v t5_1)] rfl rfl rfl (Nat.le_of_ble_eq_true rfl) (L' := [(b_3, [(Sl.v t5_1)]), (b_2, [(Sl.v nilSl)]), (b_1, [(Sl.v x_1), (VI x_2), (Value.int .u64 x_3)])]) rfl (fun h_4 hf_3 hL_4 => ?_)
  have H := H b_3 h_4 (Nat.le_trans (Fr.size (Fr.r (In []) _)) hb_2) (Fr.new (Fr.no' (Fr.r (In []) _) hf_2) (Nat.le_trans (Fr.size (Fr.r (In []) _)) hb_2) hf_3) hL_4
  refine H.mono fun rv_2 h_5 H => ?_
  obtain ⟨x_4, x_5, x_6, t7_1, rfl, hL_5, H⟩ := H
  refine pop_ieq .i64 _ _ t7_1 0 ?_
  refine condM_b (fun hb_3 => ?_) (fun hb_3 => ?_)
  ·have H := H.1 hb_3
   refine pop_field 0 fld32_0 b_3 0 ?_
   refine rop_loc one22 hL_5 0 rfl 0 (v := (Sl.v t5_1)) rfl ?_
   refine pop_field 0 fld32_0 b_3 0 ?_
   refine rop_loc one22 hL_5 0 rfl 0 (v := (Sl.v t5_1)) rfl ?_
   obtain ⟨hi_1, H⟩ := H
   refine pop_index sli22 siz27 .i64 t5_1 0 hi_1 ?_
   obtain ⟨t15_1, hc_4, H⟩ := H
   refine rop_one one27 (Sl.v t15_1) hc_4 ?_
   refine pop_field 0 fld32_0 b_3 0 ?_
   refine rop_loc one22 hL_5 0 rfl 0 (v := (Sl.v t5_1)) rfl ?_
   refine pop_len t5_1 _ _ sli22 ?_
   refine H.mono fun rv_3 h_6 H => ?_
   obtain ⟨t20_1, rfl, hL_6, H⟩ := H
   refine ⟨?_, ?_⟩
   ·exact still_loc one22 hL_6 0 rfl 0 (v := (Sl.v t5_1)) rfl
   refine ⟨?_, ?_⟩
   ·exact still_one one27 H.1
   obtain ⟨hc_1, H⟩ := H
   refine ⟨?_, ?_⟩
   ·exact still_loc one22 hL_6 0 rfl 0 (v := (Sl.v t5_1)) rfl
   refine ⟨?_, ?_⟩
   ·exact still_loc one22 hL_6 0 rfl 0 (v := (Sl.v t5_1)) rfl
   refine H.mono fun rv_4 h_7 H => ?_
   obtain ⟨x_7, x_8, x_9, t21_1, rfl, hL_7, H⟩ := H
   refine ⟨?_, ?_⟩
   ·exact still_loc one22 hL_7 0 rfl 0 (v := (Sl.v t5_1)) rfl
   refine ⟨?_, ?_⟩
   ·exact still_one one27 H.1
   obtain ⟨hc_2, H⟩ := H
   refine ⟨?_, ?_⟩
   ·exact still_loc one22 hL_7 0 rfl 0 (v := (Sl.v t5_1)) rfl
   refine ⟨?_, ?_⟩
   ·exact still_loc one22 hL_7 0 rfl 0 (v := (Sl.v t5_1)) rfl
   refine H.mono fun rv_5 h_8 H => ?_
   obtain ⟨t22_1, rfl, hL_8, H⟩ := H
   refine ⟨?_, ?_⟩
   ·exact still_loc one22 hL_8 0 rfl 0 (v := (Sl.v t5_1)) rfl
   refine ⟨?_, ?_⟩
   ·exact still_one one27 H.1
   obtain ⟨hc_3, H⟩ := H
   refine ⟨?_, ?_⟩
   ·exact still_loc one22 hL_8 0 rfl 0 (v := (Sl.v t5_1)) rfl
   refine ⟨?_, ?_⟩
   ·exact still_loc one22 hL_8 0 rfl 0 (v := (Sl.v t5_1)) rfl
   refine H.mono fun rv_6 h_9 H => ?_
   obtain ⟨t23_1, rfl, hL_9, H⟩ := H
   refine ⟨?_, ?_⟩
   ·exact still_loc one22 hL_9 0 rfl 0 (v := (Sl.v t5_1)) rfl
   refine ⟨?_, ?_⟩
   ·exact still_loc one22 hL_9 0 rfl 0 (v := (Sl.v t5_1)) rfl
   refine ⟨?_, ?_⟩
   ·exact still_loc one22 hL_9 0 rfl 0 (v := (Sl.v t5_1)) rfl
   obtain ⟨hi_2, H⟩ := H
   refine pop_index sli22 siz27 .i64 t5_1 0 hi_2 ?_
   obtain ⟨hw_1, hL_10, H⟩ := H
   refine uop_cell (v := (Sl.v t23_1)) siz27 hw_1 rfl (fun h_10 he_1 => ?_)
   rw [← he_1] at hL_10
   have H := H h_10 he_1 hL_10
   refine rop_locA agg32 hL_10 0 rfl 0 (vs := [(Sl.v t5_1)]) rfl rfl ?_
   refine uop_loc siz32 hL_10 1 rfl 0 [(Sl.v t5_1)] rfl rfl rfl (Nat.le_of_ble_eq_true rfl) (L' := [(b_3, [(Sl.v t5_1)]), (b_2, [(Sl.v t5_1)]), (b_1, [(Sl.v x_7), (VI x_8), (Value.int .u64 x_9)])]) rfl (fun h_11 hf_4 hL_11 => ?_)
   refine rop_locA agg32 hL_11 1 rfl 0 (vs := [(Sl.v t5_1)]) rfl rfl ?_
   have H := H  h_11  (Fr.old (Fr.r (In []) _) hf_4) hL_11
   exact H
  have H := H.2 hb_3
  refine pop_ieq .i64 _ _ t7_1 1 ?_
  refine condM_b (fun hb_4 => ?_) (fun hb_4 => ?_)
  ·have H := H.1 hb_4
   refine pop_field 0 fld32_0 b_3 0 ?_
   refine rop_loc one22 hL_5 0 rfl 0 (v := (Sl.v t5_1)) rfl ?_
   refine H.mono fun rv_7 h_12 H => ?_
   obtain ⟨x_10, x_11, x_12, t30_1, rfl, hL_12, H⟩ := H
   refine ⟨?_, ?_⟩
   ·exact still_loc one22 hL_12 0 rfl 0 (v := (Sl.v t5_1)) rfl
   refine pop_add .i64 5 t30_1 ?_
   refine H.mono fun rv_8 h_13 H => ?_
   obtain ⟨t32_1, rfl, hL_13, H⟩ := H
   refine ⟨?_, ?_⟩
   ·exact still_loc one22 hL_13 0 rfl 0 (v := (Sl.v t5_1)) rfl
   obtain ⟨hi_3, H⟩ := H
   refine pop_index sli22 siz27 .i64 t5_1 0 hi_3 ?_
   obtain ⟨hw_2, hL_14, H⟩ := H
   refine uop_cell (v := (Sl.v t32_1)) siz27 hw_2 rfl (fun h_14 he_2 => ?_)
   rw [← he_2] at hL_14
   have H := H h_14 he_2 hL_14
   refine rop_locA agg32 hL_14 0 rfl 0 (vs := [(Sl.v t5_1)]) rfl rfl ?_
   refine uop_loc siz32 hL_14 1 rfl 0 [(Sl.v t5_1)] rfl rfl rfl (Nat.le_of_ble_eq_true rfl) (L' := [(b_3, [(Sl.v t5_1)]), (b_2, [(Sl.v t5_1)]), (b_1, [(Sl.v x_10), (VI x_11), (Value.int .u64 x_12)])]) rfl (fun h_15 hf_5 hL_15 => ?_)
   refine rop_locA agg32 hL_15 1 rfl 0 (vs := [(Sl.v t5_1)]) rfl rfl ?_
   have H := H  h_15  (Fr.old (Fr.r (In []) _) hf_5) hL_15
   exact H
  have H := H.2 hb_4
  refine pop_ieq .i64 _ _ t7_1 2 ?_
  refine condM_b (fun hb_5 => ?_) (fun hb_5 => ?_)
  rotate_left
  ·have H := H.2 hb_5
   refine pop_ieq .i64 _ _ t7_1 3 ?_
   refine condM_b (fun hb_7 => ?_) (fun hb_7 => ?_)
   rotate_left
   ·have H := H.2 hb_7
    refine rop_locA agg32 hL_5 0 rfl 0 (vs := [(Sl.v t5_1)]) rfl rfl ?_
    refine uop_loc siz32 hL_5 1 rfl 0 [(Sl.v t5_1)] rfl rfl rfl (Nat.le_of_ble_eq_true rfl) (L' := [(b_3, [(Sl.v t5_1)]), (b_2, [(Sl.v t5_1)]), (b_1, [(Sl.v x_4), (VI x_5), (Value.int .u64 x_6)])]) rfl (fun h_25 hf_10 hL_25 => ?_)
    refine rop_locA agg32 hL_25 1 rfl 0 (vs := [(Sl.v t5_1)]) rfl rfl ?_
    have H := H  h_25  (Fr.old (Fr.r (In []) _) hf_10) hL_25
    exact H
   have H := H.1 hb_7
   refine pop.mk' (v := (Value.agg #[(Sl.v nilSl)])) (fun w => by kernel_rfl) ?_
   refine uop_loc siz32 hL_5 0 rfl 0 [(Sl.v nilSl)] rfl rfl rfl (Nat.le_of_ble_eq_true rfl) (L' := [(b_3, [(Sl.v nilSl)]), (b_2, [(Sl.v nilSl)]), (b_1, [(Sl.v x_4), (VI x_5), (Value.int .u64 x_6)])]) rfl (fun h_23 hf_8 hL_23 => ?_)
   refine rop_locA agg32 hL_23 0 rfl 0 (vs := [(Sl.v nilSl)]) rfl rfl ?_
   refine uop_loc siz32 hL_23 1 rfl 0 [(Sl.v nilSl)] rfl rfl rfl (Nat.le_of_ble_eq_true rfl) (L' := [(b_3, [(Sl.v nilSl)]), (b_2, [(Sl.v nilSl)]), (b_1, [(Sl.v x_4), (VI x_5), (Value.int .u64 x_6)])]) rfl (fun h_24 hf_9 hL_24 => ?_)
   refine rop_locA agg32 hL_24 1 rfl 0 (vs := [(Sl.v nilSl)]) rfl rfl ?_
   have H := H  h_24  (Fr.old (Fr.old (Fr.r (In []) _) hf_8) hf_9) hL_24
   exact H
  have H := H.1 hb_5
  obtain ⟨J_1, ⟨n_2, h0_1⟩, HB_1⟩ := H
  refine loop_intro (J := fun (n : Nat) (vs : List Value) (h' : Heap) => ∃ x_13 : Sl, ∃ x_14 : Sl, ∃ x_15 : Int, ∃ x_16 : Int, vs = [] ∧ J_1 n x_13 x_14 x_15 x_16 h' ∧ Vars h' [(b_3, [(Sl.v x_13)]), (b_2, [(Sl.v nilSl)]), (b_1, [(Sl.v x_14), (VI x_15), (Value.int .u64 x_16)])]) n_2 ⟨t5_1, x_4, x_5, x_6, rfl, h0_1, hL_5⟩ ?_
  intro I_1 mu_1 hI_1 junk_1  h_16 hi_4
  obtain ⟨n_1, ⟨x_13, x_14, x_15, x_16, hv, hJ_1, hL_16⟩, hn_1⟩ := hI_1 _ _ hi_4
  cases hv
  have H := HB_1 n_1 x_13 x_14 x_15 x_16 h_16 hJ_1 hL_16
  refine pop_field 0 fld32_0 b_3 0 ?_
  refine rop_loc one22 hL_16 0 rfl 0 (v := (Sl.v x_13)) rfl ?_
  refine pop_len x_13 _ _ sli22 ?_
  refine H.mono fun rv_9 h_17 H => ?_
  obtain ⟨x_17, x_18, x_19, t40_1, rfl, hL_17, H⟩ := H
  refine ⟨?_, ?_⟩
  ·exact still_loc one22 hL_17 0 rfl 0 (v := (Sl.v x_13)) rfl
  refine pop_add .i64 8 t40_1 ?_
  refine pop_lss .i64 (x_13.n : Int) (w64 (8 + t40_1)) ?_
  refine condM_b (fun hb_6 => ?_) (fun hb_6 => ?_)
  rotate_left
  ·have H := H.2 hb_6
   refine rop_locA agg32 hL_17 0 rfl 0 (vs := [(Sl.v x_13)]) rfl rfl ?_
   refine uop_loc siz32 hL_17 1 rfl 0 [(Sl.v x_13)] rfl rfl rfl (Nat.le_of_ble_eq_true rfl) (L' := [(b_3, [(Sl.v x_13)]), (b_2, [(Sl.v x_13)]), (b_1, [(Sl.v x_17), (VI x_18), (Value.int .u64 x_19)])]) rfl (fun h_22 hf_7 hL_22 => ?_)
   refine rop_locA agg32 hL_22 1 rfl 0 (vs := [(Sl.v x_13)]) rfl rfl ?_
   have H := H  h_22  (Fr.old (Fr.r (In []) _) hf_7) hL_22
   exact H
  have H := H.1 hb_6
  refine pop_field 0 fld32_0 b_3 0 ?_
  refine rop_loc one22 hL_17 0 rfl 0 (v := (Sl.v x_13)) rfl ?_
  refine H.mono fun rv_10 h_18 H => ?_
  obtain ⟨t45_1, rfl, hL_18, H⟩ := H
  refine H.mono fun rv_11 h_19 H => ?_
  obtain ⟨t46_1, rfl, hL_19, H⟩ := H
  refine H.mono fun rv_12 h_20 H => ?_
  obtain ⟨t47_1, rfl, hL_20, H⟩ := H
  refine pop_field 0 fld32_0 b_3 0 ?_
  refine uop_loc siz22 hL_20 0 rfl 0 [(Sl.v t47_1)] rfl rfl rfl (Nat.le_of_ble_eq_true rfl) (L' := [(b_3, [(Sl.v t47_1)]), (b_2, [(Sl.v nilSl)]), (b_1, [(Sl.v x_17), (VI x_18), (Value.int .u64 x_19)])]) rfl (fun h_21 hf_6 hL_21 => ?_)
  have H := H  h_21  (Fr.old (Fr.r (In []) _) hf_6) hL_21
  obtain ⟨m_1, hm_1, H⟩ := H
  exact hn_1 _ _ ⟨m_1, hm_1, t47_1, x_17, x_18, x_19, rfl, H, hL_21⟩
def u64 (P : Program) (b_1 : Nat) (c0_1 : Sl) (c0_2 : Int) (c0_3 : Int) (g1_1 : Sl) (h : Heap) (K : Value → Heap → Prop) : Prop :=
  ((decide ((g1_1.n : Int) = 0)) = true →
  ∀ (b_2 : Nat) (h_1 : Heap), h.size ≤ b_2 → Fr (In []) h h_1 → Vars h_1 [(b_2, [(Sl.v g1_1)]), (b_1, [(Sl.v c0_1), (VI c0_2), (Value.int .u64 c0_3)])] →
  eop P (Instr.buildSlice 27 4 #[(0, (Value.int IntKind.i64 (-1))), (1, (Value.int IntKind.i64 0)), (2, (VI (g1_1.n : Int))), (3, (Value.int IntKind.i64 4611686018427387904))]) h_1 fun rv_5 h_6 => ∃ t17_2 : Sl, rv_5 = (Sl.v t17_2) ∧ Vars h_6 [(b_2, [(Sl.v g1_1)]), (b_1, [(Sl.v c0_1), (VI c0_2), (Value.int .u64 c0_3)])] ∧
  callM P 79 #[(VP b_1 0), (Sl.v t17_2)] h_6 fun rv_6 h_7 => ∃ x_10 : Sl, ∃ x_11 : Int, ∃ x_12 : Int, ∃ t18_2 : Int, rv_6 = (VI t18_2) ∧ Vars h_7 [(b_2, [(Sl.v g1_1)]), (b_1, [(Sl.v x_10), (VI x_11), (Value.int .u64 x_12)])] ∧
  K (VI t18_2) h_7) ∧
  ((decide ((g1_1.n : Int) = 0)) = false →
  ∀ (b_2 : Nat) (h_1 : Heap), h.size ≤ b_2 → Fr (In []) h h_1 → Vars h_1 [(b_2, [(Sl.v g1_1)]), (b_1, [(Sl.v c0_1), (VI c0_2), (Value.int .u64 c0_3)])] →
  callM P 78 #[(VP b_1 0), (VI 14)] h_1 fun rv_1 h_2 => ∃ x_1 : Sl, ∃ x_2 : Int, ∃ x_3 : Int, ∃ t11_1 : Bool, rv_1 = (VB t11_1) ∧ Vars h_2 [(b_2, [(Sl.v g1_1)]), (b_1, [(Sl.v x_1), (VI x_2), (Value.int .u64 x_3)])] ∧
  (t11_1 = true →
  eop P (Instr.buildSlice 27 4 #[(0, (Value.int IntKind.i64 (-1))), (1, (Value.int IntKind.i64 0)), (2, (VI (g1_1.n : Int))), (3, (Value.int IntKind.i64 4611686018427387904))]) h_2 fun rv_2 h_3 => ∃ t17_1 : Sl, rv_2 = (Sl.v t17_1) ∧ Vars h_3 [(b_2, [(Sl.v g1_1)]), (b_1, [(Sl.v x_1), (VI x_2), (Value.int .u64 x_3)])] ∧
  callM P 79 #[(VP b_1 0), (Sl.v t17_1)] h_3 fun rv_3 h_4 => ∃ x_4 : Sl, ∃ x_5 : Int, ∃ x_6 : Int, ∃ t18_1 : Int, rv_3 = (VI t18_1) ∧ Vars h_4 [(b_2, [(Sl.v g1_1)]), (b_1, [(Sl.v x_4), (VI x_5), (Value.int .u64 x_6)])] ∧
  K (VI t18_1) h_4) ∧
  (t11_1 = false →
  callM P 110 #[(VP b_1 0), (VI (g1_1.n : Int))] h_2 fun rv_4 h_5 => ∃ x_7 : Sl, ∃ x_8 : Int, ∃ x_9 : Int, ∃ t23_1 : Int, rv_4 = (VI t23_1) ∧ Vars h_5 [(b_2, [(Sl.v g1_1)]), (b_1, [(Sl.v x_7), (VI x_8), (Value.int .u64 x_9)])] ∧
  K (VI t23_1) h_5))
theorem v64 (b_1 : Nat) (c0_1 : Sl) (c0_2 : Int) (c0_3 : Int) (g1_1 : Sl) (h : Heap) (K : Value → Heap → Prop) (hL : Vars h [(b_1, [(Sl.v c0_1), (VI c0_2), (Value.int .u64 c0_3)])]) (H : u64 Try.prog b_1 c0_1 c0_2 c0_3 g1_1 h K) : callM Try.prog 64 #[(VP b_1 0), (Value.agg #[(Sl.v g1_1)])] h K := by
  refine c64 (VP b_1 0) (Value.agg #[(Sl.v g1_1)]) h K ?_
  unfold u64 at H
  unfold t64
  refine eop_box 32 (Value.agg #[(Sl.v g1_1)]) rfl hL (fun b_2 h_1 hb_1 hf_1 hL_1 => ?_)
  refine pop_field 0 fld32_0 b_2 0 ?_
  refine rop_loc one22 hL_1 0 rfl 0 (v := (Sl.v g1_1)) rfl ?_
  refine pop_len g1_1 _ _ sli22 ?_
  refine pop_ieq .i64 _ _ (g1_1.n : Int) 0 ?_
  refine guardM_sf (fun hb_2 => ?_) (fun hb_2 => ?_)
  rotate_left
  ·have H := H.1 hb_2
   refine guardM_n' hb_2 (by decide) ?_
   refine pop_pickt' hb_2 ?_
   refine condM_t ?_
   refine pop_field 0 fld32_0 b_2 0 ?_
   refine rop_loc one22 hL_1 0 rfl 0 (v := (Sl.v g1_1)) rfl ?_
   refine pop_len g1_1 _ _ sli22 ?_
   have H := H b_2 h_1 (Nat.le_trans (Fr.size (Fr.r (In []) _)) hb_1) (Fr.no' (Fr.r (In []) _) hf_1) hL_1
   refine H.mono fun rv_5 h_6 H => ?_
   obtain ⟨t17_2, rfl, hL_6, H⟩ := H
   refine H.mono fun rv_6 h_7 H => ?_
   obtain ⟨x_10, x_11, x_12, t18_2, rfl, hL_7, H⟩ := H
   exact H
  have H := H.2 hb_2
  refine guardM_y' hb_2 ?_
  have H := H b_2 h_1 (Nat.le_trans (Fr.size (Fr.r (In []) _)) hb_1) (Fr.no' (Fr.r (In []) _) hf_1) hL_1
  refine H.mono fun rv_1 h_2 H => ?_
  obtain ⟨x_1, x_2, x_3, t11_1, rfl, hL_2, H⟩ := H
  refine pop_pickf' hb_2 ?_
  refine condM_b (fun hb_3 => ?_) (fun hb_3 => ?_)
  rotate_left
  ·have H := H.2 hb_3
   refine pop_field 0 fld32_0 b_2 0 ?_
   refine rop_loc one22 hL_2 0 rfl 0 (v := (Sl.v g1_1)) rfl ?_
   refine pop_len g1_1 _ _ sli22 ?_
   refine H.mono fun rv_4 h_5 H => ?_
   obtain ⟨x_7, x_8, x_9, t23_1, rfl, hL_5, H⟩ := H
   exact H
  have H := H.1 hb_3
  refine pop_field 0 fld32_0 b_2 0 ?_
  refine rop_loc one22 hL_2 0 rfl 0 (v := (Sl.v g1_1)) rfl ?_
  refine pop_len g1_1 _ _ sli22 ?_
  refine H.mono fun rv_2 h_3 H => ?_
  obtain ⟨t17_1, rfl, hL_3, H⟩ := H
  refine H.mono fun rv_3 h_4 H => ?_
  obtain ⟨x_4, x_5, x_6, t18_1, rfl, hL_4, H⟩ := H
  exact H
def u65 (P : Program) (g0_1 : Sl) (places1_1 : Sl) (h : Heap) (K : Value → Heap → Prop) : Prop :=
  ∀ (b_1 : Nat) (h_1 : Heap), h.size ≤ b_1 → Fr (In []) h h_1 → Vars h_1 [(b_1, [(Sl.v g0_1)])] →
  callM P 56 #[(Value.agg #[(Sl.v g0_1)])] h_1 fun rv_1 h_2 => ∃ t6_1 : Bool, rv_1 = (VB t6_1) ∧ Vars h_2 [(b_1, [(Sl.v g0_1)])] ∧
  (t6_1 = true →
  callM P 103 #[(Sl.v places1_1), (Value.func (Fn.func 111) #[] #[(VP b_1 0)])] h_2 fun rv_2 h_3 => ∃ x_1 : Sl, ∃ t10_1 : Bool, rv_2 = (VB t10_1) ∧ Vars h_3 [(b_1, [(Sl.v x_1)])] ∧
  K (VB (!t10_1)) h_3) ∧
  (t6_1 = false →
  K (VB false) h_2)
theorem v65 (g0_1 : Sl) (places1_1 : Sl) (h : Heap) (K : Value → Heap → Prop) (H : u65 Try.prog g0_1 places1_1 h K) : callM Try.prog 65 #[(Value.agg #[(Sl.v g0_1)]), (Sl.v places1_1)] h K := by
  refine c65 (Value.agg #[(Sl.v g0_1)]) (Sl.v places1_1) h K ?_
  unfold u65 at H
  unfold t65
  have hL : Vars h [] := .nil
  refine eop_box 32 (Value.agg #[(Sl.v g0_1)]) rfl hL (fun b_1 h_1 hb_1 hf_1 hL_1 => ?_)
  refine rop_locA agg32 hL_1 0 rfl 0 (vs := [(Sl.v g0_1)]) rfl rfl ?_
  have H := H b_1 h_1 (Nat.le_trans (Fr.size (Fr.r (In []) _)) hb_1) (Fr.no' (Fr.r (In []) _) hf_1) hL_1
  refine H.mono fun rv_1 h_2 H => ?_
  obtain ⟨t6_1, rfl, hL_2, H⟩ := H
  refine guardM_st (fun hb_2 => ?_) (fun hb_2 => ?_)
  rotate_left
  ·have H := H.2 hb_2
   refine guardM_n' hb_2 (by decide) ?_
   refine guardM_n' hb_2 (by decide) ?_
   refine guardM_n' hb_2 (by decide) ?_
   refine pop_pickf' hb_2 ?_
   exact H
  have H := H.1 hb_2
  refine guardM_y' hb_2 ?_
  refine pop_func _ _ _ ?_
  refine guardM_y' hb_2 ?_
  refine H.mono fun rv_2 h_3 H => ?_
  obtain ⟨x_1, t10_1, rfl, hL_3, H⟩ := H
  refine guardM_y' hb_2 ?_
  refine pop_not t10_1 ?_
  refine pop_pickt' hb_2 ?_
  exact H
def u66 (P : Program) (g0_1 : Sl) (p1_1 : Int) (h : Heap) (K : Value → Heap → Prop) : Prop :=
  ∀ (b_1 : Nat) (h_1 : Heap), h.size ≤ b_1 → Fr (In []) h h_1 → Vars h_1 [(b_1, [(Sl.v g0_1)])] →
  eop P (Instr.buildSlice 27 1 #[(0, (Value.int IntKind.i64 (-1)))]) h_1 fun rv_1 h_2 => ∃ t9_1 : Sl, rv_1 = (Sl.v t9_1) ∧ Vars h_2 [(b_1, [(Sl.v g0_1)])] ∧
  callM P 112 #[(Sl.v t9_1), (VI (g0_1.n : Int))] h_2 fun rv_2 h_3 => ∃ t13_1 : Sl, rv_2 = (Sl.v t13_1) ∧ Vars h_3 [(b_1, [(Sl.v g0_1)])] ∧
  InB t13_1 p1_1 ∧
  Writable h_3 (Sl.at t13_1 p1_1 1) ∧ Vars (hset h_3 (Sl.at t13_1 p1_1 1) (VI 0)) [(b_1, [(Sl.v g0_1)])] ∧
  ∀ h_4 : Heap, h_4 = hset h_3 (Sl.at t13_1 p1_1 1) (VI 0) → Vars h_4 [(b_1, [(Sl.v g0_1)])] →
  eop P (Instr.buildSlice 27 1 #[(0, (VI p1_1))]) h_4 fun rv_3 h_5 => ∃ t18_1 : Sl, rv_3 = (Sl.v t18_1) ∧ Vars h_5 [(b_1, [(Sl.v g0_1)])] ∧
  ∃ J_1 : Nat → Sl → Heap → Prop, (∃ n0 : Nat, J_1 n0 t18_1 h_5) ∧
  ∀ (n_1 : Nat) (list6_1 : Sl) (h_6 : Heap), J_1 n_1 list6_1 h_6 → Vars h_6 [(b_1, [(Sl.v g0_1)])] →
  ((decide (0 < (list6_1.n : Int))) = true →
  InB list6_1 0 ∧
  ∃ t28_1 : Int, hcell h_6 (Sl.at list6_1 0 1) = some (VI t28_1) ∧
  InB g0_1 t28_1 ∧
  ∃ t30_1 : Sl, hcell h_6 (Sl.at g0_1 t28_1 1) = some (Sl.v t30_1) ∧
  ∃ J_2 : Nat → Sl → Int → Heap → Prop, (∃ n0 : Nat, J_2 n0 list6_1 0 h_6) ∧
  ∀ (n_2 : Nat) (list6_2 : Sl) (t32_1 : Int) (h_7 : Heap), J_2 n_2 list6_2 t32_1 h_7 → Vars h_7 [(b_1, [(Sl.v g0_1)])] →
  ((decide (t32_1 < (t30_1.n : Int))) = true →
  InB t30_1 t32_1 ∧
  ∃ t35_1 : Int, hcell h_7 (Sl.at t30_1 t32_1 1) = some (VI t35_1) ∧
  InB t13_1 t35_1 ∧
  ∃ t39_1 : Int, hcell h_7 (Sl.at t13_1 t35_1 1) = some (VI t39_1) ∧
  ((decide (t39_1 < 0)) = true →
  InB list6_2 0 ∧
  ∃ t46_1 : Int, hcell h_7 (Sl.at list6_2 0 1) = some (VI t46_1) ∧
  InB t13_1 t46_1 ∧
  ∃ t48_1 : Int, hcell h_7 (Sl.at t13_1 t46_1 1) = some (VI t48_1) ∧
  InB t13_1 t35_1 ∧
  Writable h_7 (Sl.at t13_1 t35_1 1) ∧ Vars (hset h_7 (Sl.at t13_1 t35_1 1) (VI (w64 (t48_1 + 1)))) [(b_1, [(Sl.v g0_1)])] ∧
  ∀ h_8 : Heap, h_8 = hset h_7 (Sl.at t13_1 t35_1 1) (VI (w64 (t48_1 + 1))) → Vars h_8 [(b_1, [(Sl.v g0_1)])] →
  eop P (Instr.buildSlice 27 1 #[(0, (VI t35_1))]) h_8 fun rv_4 h_9 => ∃ t53_1 : Sl, rv_4 = (Sl.v t53_1) ∧ Vars h_9 [(b_1, [(Sl.v g0_1)])] ∧
  eop P (appS 27 27 27 (Sl.v list6_2) (Sl.v t53_1)) h_9 fun rv_5 h_10 => ∃ t54_1 : Sl, rv_5 = (Sl.v t54_1) ∧ Vars h_10 [(b_1, [(Sl.v g0_1)])] ∧
  ∃ m : Nat, m < n_2 ∧ J_2 m t54_1 (w64 (t32_1 + 1)) h_10) ∧
  ((decide (t39_1 < 0)) = false →
  ∃ m : Nat, m < n_2 ∧ J_2 m list6_2 (w64 (t32_1 + 1)) h_7)) ∧
  ((decide (t32_1 < (t30_1.n : Int))) = false →
  pop P (Instr.sliceAt 27 (Sl.v list6_2) (some (Value.int IntKind.i64 1)) none none) fun rv_6 => ∃ t23_1 : Sl, rv_6 = (Sl.v t23_1) ∧ 
  ∃ m : Nat, m < n_1 ∧ J_1 m t23_1 h_7)) ∧
  ((decide (0 < (list6_1.n : Int))) = false →
  K (Sl.v t13_1) h_6)
theorem v66 (g0_1 : Sl) (p1_1 : Int) (h : Heap) (K : Value → Heap → Prop) (H : u66 Try.prog g0_1 p1_1 h K) : callM Try.prog 66 #[(Value.agg #[(Sl.v g0_1)]), (VI p1_1)] h K := by
  refine c66 (Value.agg #[(Sl.v g0_1)]) (VI p1_1) h K ?_
  unfold u66 at H
  unfold t66
  have hL : Vars h [] := .nil
  refine eop_box 32 (Value.agg #[(Sl.v g0_1)]) rfl hL (fun b_1 h_1 hb_1 hf_1 hL_1 => ?_)
  have H := H b_1 h_1 (Nat.le_trans (Fr.size (Fr.r (In []) _)) hb_1) (Fr.no' (Fr.r (In []) _) hf_1) hL_1
  refine H.mono fun rv_1 h_2 H => ?_
  obtain ⟨t9_1, rfl, hL_2, H⟩ := H
  refine pop_field 0 fld32_0 b_1 0 ?_
  refine rop_loc one22 hL_2 0 rfl 0 (v := (Sl.v g0_1)) rfl ?_
  refine pop_len g0_1 _ _ sli22 ?_
  refine H.mono fun rv_2 h_3 H => ?_
  obtain ⟨t13_1, rfl, hL_3, H⟩ := H
  obtain ⟨hi_1, H⟩ := H
  refine pop_index sli27 siz3 .i64 t13_1 p1_1 hi_1 ?_
  obtain ⟨hw_1, hL_4, H⟩ := H
  refine uop_cell (v := (VI 0)) siz3 hw_1 rfl (fun h_4 he_1 => ?_)
  rw [← he_1] at hL_4
  have H := H h_4 he_1 hL_4
  refine H.mono fun rv_3 h_5 H => ?_
  obtain ⟨t18_1, rfl, hL_5, H⟩ := H
  obtain ⟨J_1, ⟨n_4, h0_2⟩, HB_2⟩ := H
  refine loop_intro (J := fun (n : Nat) (vs : List Value) (h' : Heap) => ∃ list6_1 : Sl, vs = [(Sl.v list6_1)] ∧ J_1 n list6_1 h' ∧ Vars h' [(b_1, [(Sl.v g0_1)])]) n_4 ⟨t18_1, rfl, h0_2, hL_5⟩ ?_
  intro I_2 mu_2 hI_2 junk_1 tv_3 h_6 hi_2
  obtain ⟨n_1, ⟨list6_1, hv, hJ_1, hL_6⟩, hn_1⟩ := hI_2 _ _ hi_2
  cases hv
  have H := HB_2 n_1 list6_1 h_6 hJ_1 hL_6
  refine pop_len list6_1 _ _ sli27 ?_
  refine pop_gtr .i64 (list6_1.n : Int) 0 ?_
  refine condM_b (fun hb_2 => ?_) (fun hb_2 => ?_)
  rotate_left
  ·have H := H.2 hb_2
   exact H
  have H := H.1 hb_2
  refine pop_field 0 fld32_0 b_1 0 ?_
  refine rop_loc one22 hL_6 0 rfl 0 (v := (Sl.v g0_1)) rfl ?_
  obtain ⟨hi_3, H⟩ := H
  refine pop_index sli27 siz3 .i64 list6_1 0 hi_3 ?_
  obtain ⟨t28_1, hc_6, H⟩ := H
  refine rop_one one3 (VI t28_1) hc_6 ?_
  obtain ⟨hi_4, H⟩ := H
  refine pop_index sli22 siz27 .i64 g0_1 t28_1 hi_4 ?_
  obtain ⟨t30_1, hc_5, H⟩ := H
  refine rop_one one27 (Sl.v t30_1) hc_5 ?_
  refine pop_len t30_1 _ _ sli27 ?_
  obtain ⟨J_2, ⟨n_3, h0_1⟩, HB_1⟩ := H
  refine loop_intro (J := fun (n : Nat) (vs : List Value) (h' : Heap) => ∃ list6_2 : Sl, ∃ t32_1 : Int, vs = [(Sl.v list6_2), (VI t32_1)] ∧ J_2 n list6_2 t32_1 h' ∧ Vars h' [(b_1, [(Sl.v g0_1)])]) n_3 ⟨list6_1, 0, rfl, h0_1, hL_6⟩ ?_
  intro I_1 mu_1 hI_1 junk_2 tv_1 tv_2 h_7 hi_5
  obtain ⟨n_2, ⟨list6_2, t32_1, hv, hJ_2, hL_7⟩, hn_2⟩ := hI_1 _ _ hi_5
  cases hv
  have H := HB_1 n_2 list6_2 t32_1 h_7 hJ_2 hL_7
  refine pop_lss .i64 t32_1 (t30_1.n : Int) ?_
  refine condM_b (fun hb_3 => ?_) (fun hb_3 => ?_)
  rotate_left
  ·have H := H.2 hb_3
   refine H.mono fun rv_6 H => ?_
   obtain ⟨t23_1, rfl, H⟩ := H
   obtain ⟨m_3, hm_3, H⟩ := H
   exact hn_1 _ _ ⟨m_3, hm_3, t23_1, rfl, H, hL_7⟩
  have H := H.1 hb_3
  obtain ⟨hi_6, H⟩ := H
  refine pop_index sli27 siz3 .i64 t30_1 t32_1 hi_6 ?_
  obtain ⟨t35_1, hc_4, H⟩ := H
  refine rop_one one3 (VI t35_1) hc_4 ?_
  obtain ⟨hi_7, H⟩ := H
  refine pop_index sli27 siz3 .i64 t13_1 t35_1 hi_7 ?_
  obtain ⟨t39_1, hc_3, H⟩ := H
  refine rop_one one3 (VI t39_1) hc_3 ?_
  refine pop_lss .i64 t39_1 0 ?_
  refine condM_b (fun hb_4 => ?_) (fun hb_4 => ?_)
  rotate_left
  ·have H := H.2 hb_4
   refine pop_add .i64 t32_1 1 ?_
   obtain ⟨m_2, hm_2, H⟩ := H
   exact hn_2 _ _ ⟨m_2, hm_2, list6_2, (w64 (t32_1 + 1)), rfl, H, hL_7⟩
  have H := H.1 hb_4
  obtain ⟨hi_8, H⟩ := H
  refine pop_index sli27 siz3 .i64 list6_2 0 hi_8 ?_
  obtain ⟨t46_1, hc_2, H⟩ := H
  refine rop_one one3 (VI t46_1) hc_2 ?_
  obtain ⟨hi_9, H⟩ := H
  refine pop_index sli27 siz3 .i64 t13_1 t46_1 hi_9 ?_
  obtain ⟨t48_1, hc_1, H⟩ := H
  refine rop_one one3 (VI t48_1) hc_1 ?_
  refine pop_add .i64 t48_1 1 ?_
  obtain ⟨hi_10, H⟩ := H
  refine pop_index sli27 siz3 .i64 t13_1 t35_1 hi_10 ?_
  obtain ⟨hw_2, hL_8, H⟩ := H
  refine uop_cell (v := (VI (w64 (t48_1 + 1)))) siz3 hw_2 rfl (fun h_8 he_2 => ?_)
  rw [← he_2] at hL_8
  have H := H h_8 he_2 hL_8
  refine H.mono fun rv_4 h_9 H => ?_
  obtain ⟨t53_1, rfl, hL_9, H⟩ := H
  refine H.mono fun rv_5 h_10 H => ?_
  obtain ⟨t54_1, rfl, hL_10, H⟩ := H
  refine pop_add .i64 t32_1 1 ?_
  obtain ⟨m_1, hm_1, H⟩ := H
  exact hn_2 _ _ ⟨m_1, hm_1, t54_1, (w64 (t32_1 + 1)), rfl, H, hL_10⟩
def u67 (P : Program) (g0_1 : Sl) (p1_1 : Int) (h : Heap) (K : Value → Heap → Prop) : Prop :=
  ∀ (b_1 : Nat) (h_1 : Heap), h.size ≤ b_1 → Fr (In []) h h_1 → Vars h_1 [(b_1, [(Sl.v g0_1)])] →
  callM P 73 #[(Value.agg #[(Sl.v g0_1)])] h_1 fun rv_1 h_2 => ∃ t6_1 : Bool, rv_1 = (VB t6_1) ∧ Vars h_2 [(b_1, [(Sl.v g0_1)])] ∧
  (t6_1 = true →
  callM P 113 #[(VI p1_1), (VI 0), (VI (w64 ((g0_1.n : Int) - 1)))] h_2 fun rv_2 h_3 => ∃ t13_1 : Bool, rv_2 = (VB t13_1) ∧ Vars h_3 [(b_1, [(Sl.v g0_1)])] ∧
  K (VB t13_1) h_3) ∧
  (t6_1 = false →
  K (VB false) h_2)
theorem v67 (g0_1 : Sl) (p1_1 : Int) (h : Heap) (K : Value → Heap → Prop) (H : u67 Try.prog g0_1 p1_1 h K) : callM Try.prog 67 #[(Value.agg #[(Sl.v g0_1)]), (VI p1_1)] h K := by
  refine c67 (Value.agg #[(Sl.v g0_1)]) (VI p1_1) h K ?_
  unfold u67 at H
  unfold t67
  have hL : Vars h [] := .nil
  refine eop_box 32 (Value.agg #[(Sl.v g0_1)]) rfl hL (fun b_1 h_1 hb_1 hf_1 hL_1 => ?_)
  refine rop_locA agg32 hL_1 0 rfl 0 (vs := [(Sl.v g0_1)]) rfl rfl ?_
  have H := H b_1 h_1 (Nat.le_trans (Fr.size (Fr.r (In []) _)) hb_1) (Fr.no' (Fr.r (In []) _) hf_1) hL_1
  refine H.mono fun rv_1 h_2 H => ?_
  obtain ⟨t6_1, rfl, hL_2, H⟩ := H
  refine guardM_st (fun hb_2 => ?_) (fun hb_2 => ?_)
  rotate_left
  ·have H := H.2 hb_2
   refine guardM_n' hb_2 (by decide) ?_
   refine guardM_n' hb_2 (by decide) ?_
   refine guardM_n' hb_2 (by decide) ?_
   refine guardM_n' hb_2 (by decide) ?_
   refine guardM_n' hb_2 (by decide) ?_
   refine pop_pickf' hb_2 ?_
   exact H
  have H := H.1 hb_2
  refine guardM_y' hb_2 ?_
  refine pop_field 0 fld32_0 b_1 0 ?_
  refine guardM_y' hb_2 ?_
  refine rop_loc one22 hL_2 0 rfl 0 (v := (Sl.v g0_1)) rfl ?_
  refine guardM_y' hb_2 ?_
  refine pop_len g0_1 _ _ sli22 ?_
  refine guardM_y' hb_2 ?_
  refine pop_sub .i64 (g0_1.n : Int) 1 ?_
  refine guardM_y' hb_2 ?_
  refine H.mono fun rv_2 h_3 H => ?_
  obtain ⟨t13_1, rfl, hL_3, H⟩ := H
  refine pop_pickt' hb_2 ?_
  exact H
def u68 (P : Program) (g0_1 : Sl) (p1_1 : Int) (h : Heap) (K : Value → Heap → Prop) : Prop :=
  ∀ (b_1 : Nat) (h_1 : Heap), h.size ≤ b_1 → Fr (In []) h h_1 → Vars h_1 [(b_1, [(Sl.v g0_1)])] →
  eop P (Instr.makeSlice 27 (VI (g0_1.n : Int)) (VI (g0_1.n : Int))) h_1 fun rv_1 h_2 => ∃ t14_1 : Sl, rv_1 = (Sl.v t14_1) ∧ Vars h_2 [(b_1, [(Sl.v g0_1)])] ∧
  ∃ J_1 : Nat → Int → Heap → Prop, (∃ n0 : Nat, J_1 n0 0 h_2) ∧
  ∀ (n_1 : Nat) (t17_1 : Int) (h_3 : Heap), J_1 n_1 t17_1 h_3 → Vars h_3 [(b_1, [(Sl.v g0_1)])] →
  ((decide (t17_1 < (t14_1.n : Int))) = true →
  InB t14_1 t17_1 ∧
  Writable h_3 (Sl.at t14_1 t17_1 1) ∧ Vars (hset h_3 (Sl.at t14_1 t17_1 1) (VI (-1))) [(b_1, [(Sl.v g0_1)])] ∧
  ∀ h_4 : Heap, h_4 = hset h_3 (Sl.at t14_1 t17_1 1) (VI (-1)) → Vars h_4 [(b_1, [(Sl.v g0_1)])] →
  ∃ m : Nat, m < n_1 ∧ J_1 m (w64 (t17_1 + 1)) h_4) ∧
  ((decide (t17_1 < (t14_1.n : Int))) = false →
  InB t14_1 p1_1 ∧
  Writable h_3 (Sl.at t14_1 p1_1 1) ∧ Vars (hset h_3 (Sl.at t14_1 p1_1 1) (VI 0)) [(b_1, [(Sl.v g0_1)])] ∧
  ∀ h_5 : Heap, h_5 = hset h_3 (Sl.at t14_1 p1_1 1) (VI 0) → Vars h_5 [(b_1, [(Sl.v g0_1)])] →
  eop P (Instr.buildSlice 27 1 #[(0, (VI p1_1))]) h_5 fun rv_2 h_6 => ∃ t28_1 : Sl, rv_2 = (Sl.v t28_1) ∧ Vars h_6 [(b_1, [(Sl.v g0_1)])] ∧
  ∃ J_2 : Nat → Sl → Int → Heap → Prop, (∃ n0 : Nat, J_2 n0 t28_1 0 h_6) ∧
  ∀ (n_2 : Nat) (queue7_1 : Sl) (k8_1 : Int) (h_7 : Heap), J_2 n_2 queue7_1 k8_1 h_7 → Vars h_7 [(b_1, [(Sl.v g0_1)])] →
  ((decide (k8_1 < (queue7_1.n : Int))) = true →
  InB queue7_1 k8_1 ∧
  ∃ t40_1 : Int, hcell h_7 (Sl.at queue7_1 k8_1 1) = some (VI t40_1) ∧
  InB g0_1 t40_1 ∧
  ∃ t42_1 : Sl, hcell h_7 (Sl.at g0_1 t40_1 1) = some (Sl.v t42_1) ∧
  ∃ J_3 : Nat → Sl → Int → Heap → Prop, (∃ n0 : Nat, J_3 n0 queue7_1 0 h_7) ∧
  ∀ (n_3 : Nat) (queue7_2 : Sl) (t44_1 : Int) (h_8 : Heap), J_3 n_3 queue7_2 t44_1 h_8 → Vars h_8 [(b_1, [(Sl.v g0_1)])] →
  ((decide (t44_1 < (t42_1.n : Int))) = true →
  InB t42_1 t44_1 ∧
  ∃ t47_1 : Int, hcell h_8 (Sl.at t42_1 t44_1 1) = some (VI t47_1) ∧
  InB t14_1 t47_1 ∧
  ∃ t51_1 : Int, hcell h_8 (Sl.at t14_1 t47_1 1) = some (VI t51_1) ∧
  ((decide (t51_1 < 0)) = true →
  InB queue7_2 k8_1 ∧
  ∃ t59_1 : Int, hcell h_8 (Sl.at queue7_2 k8_1 1) = some (VI t59_1) ∧
  InB t14_1 t59_1 ∧
  ∃ t61_1 : Int, hcell h_8 (Sl.at t14_1 t59_1 1) = some (VI t61_1) ∧
  InB t14_1 t47_1 ∧
  Writable h_8 (Sl.at t14_1 t47_1 1) ∧ Vars (hset h_8 (Sl.at t14_1 t47_1 1) (VI (w64 (t61_1 + 1)))) [(b_1, [(Sl.v g0_1)])] ∧
  ∀ h_9 : Heap, h_9 = hset h_8 (Sl.at t14_1 t47_1 1) (VI (w64 (t61_1 + 1))) → Vars h_9 [(b_1, [(Sl.v g0_1)])] →
  eop P (Instr.buildSlice 27 1 #[(0, (VI t47_1))]) h_9 fun rv_3 h_10 => ∃ t66_1 : Sl, rv_3 = (Sl.v t66_1) ∧ Vars h_10 [(b_1, [(Sl.v g0_1)])] ∧
  eop P (appS 27 27 27 (Sl.v queue7_2) (Sl.v t66_1)) h_10 fun rv_4 h_11 => ∃ t67_1 : Sl, rv_4 = (Sl.v t67_1) ∧ Vars h_11 [(b_1, [(Sl.v g0_1)])] ∧
  ∃ m : Nat, m < n_3 ∧ J_3 m t67_1 (w64 (t44_1 + 1)) h_11) ∧
  ((decide (t51_1 < 0)) = false →
  ∃ m : Nat, m < n_3 ∧ J_3 m queue7_2 (w64 (t44_1 + 1)) h_8)) ∧
  ((decide (t44_1 < (t42_1.n : Int))) = false →
  ∃ m : Nat, m < n_2 ∧ J_2 m queue7_2 (w64 (k8_1 + 1)) h_8)) ∧
  ((decide (k8_1 < (queue7_1.n : Int))) = false →
  K (Sl.v t14_1) h_7))
theorem v68 (g0_1 : Sl) (p1_1 : Int) (h : Heap) (K : Value → Heap → Prop) (H : u68 Try.prog g0_1 p1_1 h K) : callM Try.prog 68 #[(Value.agg #[(Sl.v g0_1)]), (VI p1_1)] h K := by
  refine c68 (Value.agg #[(Sl.v g0_1)]) (VI p1_1) h K ?_
  unfold u68 at H
  unfold t68
  have hL : Vars h [] := .nil
  refine eop_box 32 (Value.agg #[(Sl.v g0_1)]) rfl hL (fun b_1 h_1 hb_1 hf_1 hL_1 => ?_)
  refine pop_field 0 fld32_0 b_1 0 ?_
  refine rop_loc one22 hL_1 0 rfl 0 (v := (Sl.v g0_1)) rfl ?_
  refine pop_len g0_1 _ _ sli22 ?_
  have H := H b_1 h_1 (Nat.le_trans (Fr.size (Fr.r (In []) _)) hb_1) (Fr.no' (Fr.r (In []) _) hf_1) hL_1
  refine H.mono fun rv_1 h_2 H => ?_
  obtain ⟨t14_1, rfl, hL_2, H⟩ := H
  refine pop_len t14_1 _ _ sli27 ?_
  obtain ⟨J_1, ⟨n_6, h0_3⟩, HB_3⟩ := H
  refine loop_intro (J := fun (n : Nat) (vs : List Value) (h' : Heap) => ∃ t17_1 : Int, vs = [(VI t17_1)] ∧ J_1 n t17_1 h' ∧ Vars h' [(b_1, [(Sl.v g0_1)])]) n_6 ⟨0, rfl, h0_3, hL_2⟩ ?_
  intro I_3 mu_3 hI_3 junk_1 tv_5 h_3 hi_1
  obtain ⟨n_1, ⟨t17_1, hv, hJ_1, hL_3⟩, hn_1⟩ := hI_3 _ _ hi_1
  cases hv
  have H := HB_3 n_1 t17_1 h_3 hJ_1 hL_3
  refine pop_lss .i64 t17_1 (t14_1.n : Int) ?_
  refine condM_b (fun hb_2 => ?_) (fun hb_2 => ?_)
  ·have H := H.1 hb_2
   obtain ⟨hi_2, H⟩ := H
   refine pop_index sli27 siz3 .i64 t14_1 t17_1 hi_2 ?_
   obtain ⟨hw_1, hL_4, H⟩ := H
   refine uop_cell (v := (VI (-1))) siz3 hw_1 rfl (fun h_4 he_1 => ?_)
   rw [← he_1] at hL_4
   have H := H h_4 he_1 hL_4
   refine pop_add .i64 t17_1 1 ?_
   obtain ⟨m_1, hm_1, H⟩ := H
   exact hn_1 _ _ ⟨m_1, hm_1, (w64 (t17_1 + 1)), rfl, H, hL_4⟩
  have H := H.2 hb_2
  obtain ⟨hi_3, H⟩ := H
  refine pop_index sli27 siz3 .i64 t14_1 p1_1 hi_3 ?_
  obtain ⟨hw_2, hL_5, H⟩ := H
  refine uop_cell (v := (VI 0)) siz3 hw_2 rfl (fun h_5 he_2 => ?_)
  rw [← he_2] at hL_5
  have H := H h_5 he_2 hL_5
  refine H.mono fun rv_2 h_6 H => ?_
  obtain ⟨t28_1, rfl, hL_6, H⟩ := H
  obtain ⟨J_2, ⟨n_5, h0_2⟩, HB_2⟩ := H
  refine loop_intro (J := fun (n : Nat) (vs : List Value) (h' : Heap) => ∃ queue7_1 : Sl, ∃ k8_1 : Int, vs = [(Sl.v queue7_1), (VI k8_1)] ∧ J_2 n queue7_1 k8_1 h' ∧ Vars h' [(b_1, [(Sl.v g0_1)])]) n_5 ⟨t28_1, 0, rfl, h0_2, hL_6⟩ ?_
  intro I_2 mu_2 hI_2 junk_2 tv_3 tv_4 h_7 hi_4
  obtain ⟨n_2, ⟨queue7_1, k8_1, hv, hJ_2, hL_7⟩, hn_2⟩ := hI_2 _ _ hi_4
  cases hv
  have H := HB_2 n_2 queue7_1 k8_1 h_7 hJ_2 hL_7
  refine pop_len queue7_1 _ _ sli27 ?_
  refine pop_lss .i64 k8_1 (queue7_1.n : Int) ?_
  refine condM_b (fun hb_3 => ?_) (fun hb_3 => ?_)
  rotate_left
  ·have H := H.2 hb_3
   exact H
  have H := H.1 hb_3
  refine pop_field 0 fld32_0 b_1 0 ?_
  refine rop_loc one22 hL_7 0 rfl 0 (v := (Sl.v g0_1)) rfl ?_
  obtain ⟨hi_5, H⟩ := H
  refine pop_index sli27 siz3 .i64 queue7_1 k8_1 hi_5 ?_
  obtain ⟨t40_1, hc_6, H⟩ := H
  refine rop_one one3 (VI t40_1) hc_6 ?_
  obtain ⟨hi_6, H⟩ := H
  refine pop_index sli22 siz27 .i64 g0_1 t40_1 hi_6 ?_
  obtain ⟨t42_1, hc_5, H⟩ := H
  refine rop_one one27 (Sl.v t42_1) hc_5 ?_
  refine pop_len t42_1 _ _ sli27 ?_
  obtain ⟨J_3, ⟨n_4, h0_1⟩, HB_1⟩ := H
  refine loop_intro (J := fun (n : Nat) (vs : List Value) (h' : Heap) => ∃ queue7_2 : Sl, ∃ t44_1 : Int, vs = [(Sl.v queue7_2), (VI t44_1)] ∧ J_3 n queue7_2 t44_1 h' ∧ Vars h' [(b_1, [(Sl.v g0_1)])]) n_4 ⟨queue7_1, 0, rfl, h0_1, hL_7⟩ ?_
  intro I_1 mu_1 hI_1 junk_3 tv_1 tv_2 h_8 hi_7
  obtain ⟨n_3, ⟨queue7_2, t44_1, hv, hJ_3, hL_8⟩, hn_3⟩ := hI_1 _ _ hi_7
  cases hv
  have H := HB_1 n_3 queue7_2 t44_1 h_8 hJ_3 hL_8
  refine pop_lss .i64 t44_1 (t42_1.n : Int) ?_
  refine condM_b (fun hb_4 => ?_) (fun hb_4 => ?_)
  rotate_left
  ·have H := H.2 hb_4
   refine pop_add .i64 k8_1 1 ?_
   obtain ⟨m_4, hm_4, H⟩ := H
   exact hn_2 _ _ ⟨m_4, hm_4, queue7_2, (w64 (k8_1 + 1)), rfl, H, hL_8⟩
  have H := H.1 hb_4
  obtain ⟨hi_8, H⟩ := H
  refine pop_index sli27 siz3 .i64 t42_1 t44_1 hi_8 ?_
  obtain ⟨t47_1, hc_4, H⟩ := H
  refine rop_one one3 (VI t47_1) hc_4 ?_
  obtain ⟨hi_9, H⟩ := H
  refine pop_index sli27 siz3 .i64 t14_1 t47_1 hi_9 ?_
  obtain ⟨t51_1, hc_3, H⟩ := H
  refine rop_one one3 (VI t51_1) hc_3 ?_
  refine pop_lss .i64 t51_1 0 ?_
  refine condM_b (fun hb_5 => ?_) (fun hb_5 => ?_)
  rotate_left
  ·have H := H.2 hb_5
   refine pop_add .i64 t44_1 1 ?_
   obtain ⟨m_3, hm_3, H⟩ := H
   exact hn_3 _ _ ⟨m_3, hm_3, queue7_2, (w64 (t44_1 + 1)), rfl, H, hL_8⟩
  have H := H.1 hb_5
  obtain ⟨hi_10, H⟩ := H
  refine pop_index sli27 siz3 .i64 queue7_2 k8_1 hi_10 ?_
  obtain ⟨t59_1, hc_2, H⟩ := H
  refine rop_one one3 (VI t59_1) hc_2 ?_
  obtain ⟨hi_11, H⟩ := H
  refine pop_index sli27 siz3 .i64 t14_1 t59_1 hi_11 ?_
  obtain ⟨t61_1, hc_1, H⟩ := H
  refine rop_one one3 (VI t61_1) hc_1 ?_
  refine pop_add .i64 t61_1 1 ?_
  obtain ⟨hi_12, H⟩ := H
  refine pop_index sli27 siz3 .i64 t14_1 t47_1 hi_12 ?_
  obtain ⟨hw_3, hL_9, H⟩ := H
  refine uop_cell (v := (VI (w64 (t61_1 + 1)))) siz3 hw_3 rfl (fun h_9 he_3 => ?_)
  rw [← he_3] at hL_9
  have H := H h_9 he_3 hL_9
  refine H.mono fun rv_3 h_10 H => ?_
  obtain ⟨t66_1, rfl, hL_10, H⟩ := H
  refine H.mono fun rv_4 h_11 H => ?_
  obtain ⟨t67_1, rfl, hL_11, H⟩ := H
  refine pop_add .i64 t44_1 1 ?_
  obtain ⟨m_2, hm_2, H⟩ := H
  exact hn_3 _ _ ⟨m_2, hm_2, t67_1, (w64 (t44_1 + 1)), rfl, H, hL_11⟩
def u69 (P : Program) (g0_1 : Sl) (p1_1 : Int) (h : Heap) (K : Value → Heap → Prop) : Prop :=
  ∀ (b_1 : Nat) (h_1 : Heap), h.size ≤ b_1 → Fr (In []) h h_1 → Vars h_1 [(b_1, [(Sl.v g0_1)])] →
  eop P (Instr.buildSlice 27 0 #[]) h_1 fun rv_1 h_2 => ∃ t8_1 : Sl, rv_1 = (Sl.v t8_1) ∧ Vars h_2 [(b_1, [(Sl.v g0_1)])] ∧
  callM P 66 #[(Value.agg #[(Sl.v g0_1)]), (VI p1_1)] h_2 fun rv_2 h_3 => ∃ t11_1 : Sl, rv_2 = (Sl.v t11_1) ∧ Vars h_3 [(b_1, [(Sl.v g0_1)])] ∧
  ∃ J_1 : Nat → Sl → Int → Heap → Prop, (∃ n0 : Nat, J_1 n0 t8_1 0 h_3) ∧
  ∀ (n_1 : Nat) (out5_1 : Sl) (t13_1 : Int) (h_4 : Heap), J_1 n_1 out5_1 t13_1 h_4 → Vars h_4 [(b_1, [(Sl.v g0_1)])] →
  ((decide (t13_1 < (t11_1.n : Int))) = true →
  InB t11_1 t13_1 ∧
  ∃ t17_1 : Int, hcell h_4 (Sl.at t11_1 t13_1 1) = some (VI t17_1) ∧
  ((decide (0 ≤ t17_1)) = true →
  eop P (Instr.buildSlice 27 1 #[(0, (VI t13_1))]) h_4 fun rv_3 h_5 => ∃ t22_1 : Sl, rv_3 = (Sl.v t22_1) ∧ Vars h_5 [(b_1, [(Sl.v g0_1)])] ∧
  eop P (appS 27 27 27 (Sl.v out5_1) (Sl.v t22_1)) h_5 fun rv_4 h_6 => ∃ t23_1 : Sl, rv_4 = (Sl.v t23_1) ∧ Vars h_6 [(b_1, [(Sl.v g0_1)])] ∧
  ∃ m : Nat, m < n_1 ∧ J_1 m t23_1 (w64 (t13_1 + 1)) h_6) ∧
  ((decide (0 ≤ t17_1)) = false →
  ∃ m : Nat, m < n_1 ∧ J_1 m out5_1 (w64 (t13_1 + 1)) h_4)) ∧
  ((decide (t13_1 < (t11_1.n : Int))) = false →
  K (Sl.v out5_1) h_4)
theorem v69 (g0_1 : Sl) (p1_1 : Int) (h : Heap) (K : Value → Heap → Prop) (H : u69 Try.prog g0_1 p1_1 h K) : callM Try.prog 69 #[(Value.agg #[(Sl.v g0_1)]), (VI p1_1)] h K := by
  refine c69 (Value.agg #[(Sl.v g0_1)]) (VI p1_1) h K ?_
  unfold u69 at H
  unfold t69
  have hL : Vars h [] := .nil
  refine eop_box 32 (Value.agg #[(Sl.v g0_1)]) rfl hL (fun b_1 h_1 hb_1 hf_1 hL_1 => ?_)
  have H := H b_1 h_1 (Nat.le_trans (Fr.size (Fr.r (In []) _)) hb_1) (Fr.no' (Fr.r (In []) _) hf_1) hL_1
  refine H.mono fun rv_1 h_2 H => ?_
  obtain ⟨t8_1, rfl, hL_2, H⟩ := H
  refine rop_locA agg32 hL_2 0 rfl 0 (vs := [(Sl.v g0_1)]) rfl rfl ?_
  refine H.mono fun rv_2 h_3 H => ?_
  obtain ⟨t11_1, rfl, hL_3, H⟩ := H
  refine pop_len t11_1 _ _ sli27 ?_
  obtain ⟨J_1, ⟨n_2, h0_1⟩, HB_1⟩ := H
  refine loop_intro (J := fun (n : Nat) (vs : List Value) (h' : Heap) => ∃ out5_1 : Sl, ∃ t13_1 : Int, vs = [(Sl.v out5_1), (VI t13_1)] ∧ J_1 n out5_1 t13_1 h' ∧ Vars h' [(b_1, [(Sl.v g0_1)])]) n_2 ⟨t8_1, 0, rfl, h0_1, hL_3⟩ ?_
  intro I_1 mu_1 hI_1 junk_1 tv_1 tv_2 h_4 hi_1
  obtain ⟨n_1, ⟨out5_1, t13_1, hv, hJ_1, hL_4⟩, hn_1⟩ := hI_1 _ _ hi_1
  cases hv
  have H := HB_1 n_1 out5_1 t13_1 h_4 hJ_1 hL_4
  refine pop_lss .i64 t13_1 (t11_1.n : Int) ?_
  refine condM_b (fun hb_2 => ?_) (fun hb_2 => ?_)
  rotate_left
  ·have H := H.2 hb_2
   exact H
  have H := H.1 hb_2
  obtain ⟨hi_2, H⟩ := H
  refine pop_index sli27 siz3 .i64 t11_1 t13_1 hi_2 ?_
  obtain ⟨t17_1, hc_1, H⟩ := H
  refine rop_one one3 (VI t17_1) hc_1 ?_
  refine pop_geq .i64 t17_1 0 ?_
  refine condM_b (fun hb_3 => ?_) (fun hb_3 => ?_)
  rotate_left
  ·have H := H.2 hb_3
   refine pop_add .i64 t13_1 1 ?_
   obtain ⟨m_2, hm_2, H⟩ := H
   exact hn_1 _ _ ⟨m_2, hm_2, out5_1, (w64 (t13_1 + 1)), rfl, H, hL_4⟩
  have H := H.1 hb_3
  refine H.mono fun rv_3 h_5 H => ?_
  obtain ⟨t22_1, rfl, hL_5, H⟩ := H
  refine H.mono fun rv_4 h_6 H => ?_
  obtain ⟨t23_1, rfl, hL_6, H⟩ := H
  refine pop_add .i64 t13_1 1 ?_
  obtain ⟨m_1, hm_1, H⟩ := H
  exact hn_1 _ _ ⟨m_1, hm_1, t23_1, (w64 (t13_1 + 1)), rfl, H, hL_6⟩
def u70 (P : Program) (g0_1 : Sl) (p1_1 : Int) (h : Heap) (K : Value → Heap → Prop) : Prop :=
  ∀ (b_1 : Nat) (h_1 : Heap), h.size ≤ b_1 → Fr (In []) h h_1 → Vars h_1 [(b_1, [(Sl.v g0_1)])] →
  callM P 68 #[(Value.agg #[(Sl.v g0_1)]), (VI p1_1)] h_1 fun rv_1 h_2 => ∃ t10_1 : Sl, rv_1 = (Sl.v t10_1) ∧ Vars h_2 [(b_1, [(Sl.v g0_1)])] ∧
  ∃ J_1 : Nat → Sl → Int → Heap → Prop, (∃ n0 : Nat, J_1 n0 nilSl 0 h_2) ∧
  ∀ (n_1 : Nat) (out5_1 : Sl) (t12_1 : Int) (h_3 : Heap), J_1 n_1 out5_1 t12_1 h_3 → Vars h_3 [(b_1, [(Sl.v g0_1)])] →
  ((decide (t12_1 < (t10_1.n : Int))) = true →
  InB t10_1 t12_1 ∧
  ∃ t16_1 : Int, hcell h_3 (Sl.at t10_1 t12_1 1) = some (VI t16_1) ∧
  ((decide (0 ≤ t16_1)) = true →
  eop P (Instr.buildSlice 27 1 #[(0, (VI t12_1))]) h_3 fun rv_2 h_4 => ∃ t21_1 : Sl, rv_2 = (Sl.v t21_1) ∧ Vars h_4 [(b_1, [(Sl.v g0_1)])] ∧
  eop P (appS 27 27 27 (Sl.v out5_1) (Sl.v t21_1)) h_4 fun rv_3 h_5 => ∃ t22_1 : Sl, rv_3 = (Sl.v t22_1) ∧ Vars h_5 [(b_1, [(Sl.v g0_1)])] ∧
  ∃ m : Nat, m < n_1 ∧ J_1 m t22_1 (w64 (t12_1 + 1)) h_5) ∧
  ((decide (0 ≤ t16_1)) = false →
  ∃ m : Nat, m < n_1 ∧ J_1 m out5_1 (w64 (t12_1 + 1)) h_3)) ∧
  ((decide (t12_1 < (t10_1.n : Int))) = false →
  K (Sl.v out5_1) h_3)
theorem v70 (g0_1 : Sl) (p1_1 : Int) (h : Heap) (K : Value → Heap → Prop) (H : u70 Try.prog g0_1 p1_1 h K) : callM Try.prog 70 #[(Value.agg #[(Sl.v g0_1)]), (VI p1_1)] h K := by
  refine c70 (Value.agg #[(Sl.v g0_1)]) (VI p1_1) h K ?_
  unfold u70 at H
  unfold t70
  have hL : Vars h [] := .nil
  refine eop_box 32 (Value.agg #[(Sl.v g0_1)]) rfl hL (fun b_1 h_1 hb_1 hf_1 hL_1 => ?_)
  refine rop_locA agg32 hL_1 0 rfl 0 (vs := [(Sl.v g0_1)]) rfl rfl ?_
  have H := H b_1 h_1 (Nat.le_trans (Fr.size (Fr.r (In []) _)) hb_1) (Fr.no' (Fr.r (In []) _) hf_1) hL_1
  refine H.mono fun rv_1 h_2 H => ?_
  obtain ⟨t10_1, rfl, hL_2, H⟩ := H
  refine pop_len t10_1 _ _ sli27 ?_
  obtain ⟨J_1, ⟨n_2, h0_1⟩, HB_1⟩ := H
  refine loop_intro (J := fun (n : Nat) (vs : List Value) (h' : Heap) => ∃ out5_1 : Sl, ∃ t12_1 : Int, vs = [(Sl.v out5_1), (VI t12_1)] ∧ J_1 n out5_1 t12_1 h' ∧ Vars h' [(b_1, [(Sl.v g0_1)])]) n_2 ⟨nilSl, 0, rfl, h0_1, hL_2⟩ ?_
  intro I_1 mu_1 hI_1 junk_1 tv_1 tv_2 h_3 hi_1
  obtain ⟨n_1, ⟨out5_1, t12_1, hv, hJ_1, hL_3⟩, hn_1⟩ := hI_1 _ _ hi_1
  cases hv
  have H := HB_1 n_1 out5_1 t12_1 h_3 hJ_1 hL_3
  refine pop_lss .i64 t12_1 (t10_1.n : Int) ?_
  refine condM_b (fun hb_2 => ?_) (fun hb_2 => ?_)
  rotate_left
  ·have H := H.2 hb_2
   exact H
  have H := H.1 hb_2
  obtain ⟨hi_2, H⟩ := H
  refine pop_index sli27 siz3 .i64 t10_1 t12_1 hi_2 ?_
  obtain ⟨t16_1, hc_1, H⟩ := H
  refine rop_one one3 (VI t16_1) hc_1 ?_
  refine pop_geq .i64 t16_1 0 ?_
  refine condM_b (fun hb_3 => ?_) (fun hb_3 => ?_)
  rotate_left
  ·have H := H.2 hb_3
   refine pop_add .i64 t12_1 1 ?_
   obtain ⟨m_2, hm_2, H⟩ := H
   exact hn_1 _ _ ⟨m_2, hm_2, out5_1, (w64 (t12_1 + 1)), rfl, H, hL_3⟩
  have H := H.1 hb_3
  refine H.mono fun rv_2 h_4 H => ?_
  obtain ⟨t21_1, rfl, hL_4, H⟩ := H
  refine H.mono fun rv_3 h_5 H => ?_
  obtain ⟨t22_1, rfl, hL_5, H⟩ := H
  refine pop_add .i64 t12_1 1 ?_
  obtain ⟨m_1, hm_1, H⟩ := H
  exact hn_1 _ _ ⟨m_1, hm_1, t22_1, (w64 (t12_1 + 1)), rfl, H, hL_5⟩
def u71 (P : Program) (code0_1 : Sl) (h : Heap) (K : Value → Heap → Prop) : Prop :=
  ∀ (b_1 : Nat) (b_2 : Nat) (h_2 : Heap), h.size ≤ b_1 → h.size ≤ b_2 → Fr (In []) h h_2 → Vars h_2 [(b_2, [(Sl.v code0_1), (VI 0), (Value.int .u64 0)]), (b_1, [(Sl.v nilSl)])] →
  callM P 63 #[(VP b_2 0)] h_2 fun rv_1 h_3 => ∃ x_1 : Sl, ∃ x_2 : Int, ∃ x_3 : Int, ∃ t8_1 : Sl, rv_1 = (Value.agg #[(Sl.v t8_1)]) ∧ Vars h_3 [(b_2, [(Sl.v x_1), (VI x_2), (Value.int .u64 x_3)]), (b_1, [(Sl.v nilSl)])] ∧
  ∀ (h_4 : Heap), Fr (In [b_1]) h_3 h_4 → Vars h_4 [(b_2, [(Sl.v x_1), (VI x_2), (Value.int .u64 x_3)]), (b_1, [(Sl.v t8_1)])] →
  K (Value.agg #[(Sl.v t8_1)]) h_4
theorem v71 (code0_1 : Sl) (h : Heap) (K : Value → Heap → Prop) (H : u71 Try.prog code0_1 h K) : callM Try.prog 71 #[(Sl.v code0_1)] h K := by
  refine c71 (Sl.v code0_1) h K ?_
  unfold u71 at H
  unfold t71
  have hL : Vars h [] := .nil
  refine eop_alloc 32 zer32 rfl hL (fun b_1 h_1 hb_1 hf_1 hL_1 => ?_)
  refine pop.mk' (v := (Value.agg #[(Sl.v code0_1), (VI 0), (Value.int .u64 0)])) (fun w => by kernel_rfl) ?_
  refine eop_box 86 (Value.agg #[(Sl.v code0_1), (VI 0), (Value.int .u64 0)]) rfl hL_1 (fun b_2 h_2 hb_2 hf_2 hL_2 => ?_)
  have H := H b_1 b_2 h_2 (Nat.le_trans (Fr.size (Fr.r (In []) _)) hb_1) (Nat.le_trans (Fr.size (Fr.no' (Fr.r (In []) _) hf_1)) hb_2) (Fr.no' (Fr.no' (Fr.r (In []) _) hf_1) hf_2) hL_2
  refine H.mono fun rv_1 h_3 H => ?_
  obtain ⟨x_1, x_2, x_3, t8_1, rfl, hL_3, H⟩ := H
  refine uop_loc siz32 hL_3 1 rfl 0 [(Sl.v t8_1)] rfl rfl rfl (Nat.le_of_ble_eq_true rfl) (L' := [(b_2, [(Sl.v x_1), (VI x_2), (Value.int .u64 x_3)]), (b_1, [(Sl.v t8_1)])]) rfl (fun h_4 hf_3 hL_4 => ?_)
  refine rop_locA agg32 hL_4 1 rfl 0 (vs := [(Sl.v t8_1)]) rfl rfl ?_
  have H := H  h_4  (Fr.old (Fr.r (In []) _) hf_3) hL_4
  exact H
def u72 (P : Program) (s0_1 : Sl) (v1_1 : Int) (h : Heap) (K : Value → Heap → Prop) : Prop :=
  callM P 114 #[(Sl.v s0_1), (VI v1_1)] h fun rv_1 h_1 => ∃ t7_1 : Int, rv_1 = (VI t7_1) ∧ Vars h_1 [] ∧
  K (VB (decide (0 ≤ t7_1))) h_1
theorem v72 (s0_1 : Sl) (v1_1 : Int) (h : Heap) (K : Value → Heap → Prop) (H : u72 Try.prog s0_1 v1_1 h K) : callM Try.prog 72 #[(Sl.v s0_1), (VI v1_1)] h K := by
  refine c72 (Sl.v s0_1) (VI v1_1) h K ?_
  unfold u72 at H
  unfold t72
  have hL : Vars h [] := .nil
  refine H.mono fun rv_1 h_1 H => ?_
  obtain ⟨t7_1, rfl, hL_1, H⟩ := H
  refine pop_geq .i64 t7_1 0 ?_
  exact H
def u73 (P : Program) (g0_1 : Sl) (h : Heap) (K : Value → Heap → Prop) : Prop :=
  ∀ (b_1 : Nat) (h_1 : Heap), h.size ≤ b_1 → Fr (In []) h h_1 → Vars h_1 [(b_1, [(Sl.v g0_1)])] →
  callM P 113 #[(VI (g0_1.n : Int)), (VI 1), (VI 8)] h_1 fun rv_1 h_2 => ∃ t10_1 : Bool, rv_1 = (VB t10_1) ∧ Vars h_2 [(b_1, [(Sl.v g0_1)])] ∧
  ((!t10_1) = true →
  K (VB false) h_2) ∧
  ((!t10_1) = false →
  ∃ J_1 : Nat → Int → Heap → Prop, (∃ n0 : Nat, J_1 n0 0 h_2) ∧
  ∀ (n_1 : Nat) (t15_1 : Int) (h_3 : Heap), J_1 n_1 t15_1 h_3 → Vars h_3 [(b_1, [(Sl.v g0_1)])] →
  ((decide (t15_1 < (g0_1.n : Int))) = true →
  InB g0_1 t15_1 ∧
  ∃ t18_1 : Sl, hcell h_3 (Sl.at g0_1 t15_1 1) = some (Sl.v t18_1) ∧
  ((decide (5 < (t18_1.n : Int))) = true →
  K (VB false) h_3) ∧
  ((decide (5 < (t18_1.n : Int))) = false →
  callM P 96 #[(Sl.v t18_1), (VI 0), (VI (w64 ((g0_1.n : Int) - 1)))] h_3 fun rv_2 h_4 => ∃ t26_1 : Bool, rv_2 = (VB t26_1) ∧ Vars h_4 [(b_1, [(Sl.v g0_1)])] ∧
  ((!t26_1) = true →
  K (VB false) h_4) ∧
  ((!t26_1) = false →
  ∃ m : Nat, m < n_1 ∧ J_1 m (w64 (t15_1 + 1)) h_4))) ∧
  ((decide (t15_1 < (g0_1.n : Int))) = false →
  K (VB true) h_3))
theorem v73 (g0_1 : Sl) (h : Heap) (K : Value → Heap → Prop) (H : u73 Try.prog g0_1 h K) : callM Try.prog 73 #[(Value.agg #[(Sl.v g0_1)])] h K := by
  refine c73 (Value.agg #[(Sl.v g0_1)]) h K ?_
  unfold u73 at H
  unfold t73
  have hL : Vars h [] := .nil
  refine eop_box 32 (Value.agg #[(Sl.v g0_1)]) rfl hL (fun b_1 h_1 hb_1 hf_1 hL_1 => ?_)
  refine pop_field 0 fld32_0 b_1 0 ?_
  refine rop_loc one22 hL_1 0 rfl 0 (v := (Sl.v g0_1)) rfl ?_
  refine pop_len g0_1 _ _ sli22 ?_
  have H := H b_1 h_1 (Nat.le_trans (Fr.size (Fr.r (In []) _)) hb_1) (Fr.no' (Fr.r (In []) _) hf_1) hL_1
  refine H.mono fun rv_1 h_2 H => ?_
  obtain ⟨t10_1, rfl, hL_2, H⟩ := H
  refine pop_not t10_1 ?_
  refine condM_b (fun hb_2 => ?_) (fun hb_2 => ?_)
  ·have H := H.1 hb_2
   exact H
  have H := H.2 hb_2
  refine pop_field 0 fld32_0 b_1 0 ?_
  refine rop_loc one22 hL_2 0 rfl 0 (v := (Sl.v g0_1)) rfl ?_
  refine pop_len g0_1 _ _ sli22 ?_
  obtain ⟨J_1, ⟨n_2, h0_1⟩, HB_1⟩ := H
  refine loop_intro (J := fun (n : Nat) (vs : List Value) (h' : Heap) => ∃ t15_1 : Int, vs = [(VI t15_1)] ∧ J_1 n t15_1 h' ∧ Vars h' [(b_1, [(Sl.v g0_1)])]) n_2 ⟨0, rfl, h0_1, hL_2⟩ ?_
  intro I_1 mu_1 hI_1 junk_1 tv_1 h_3 hi_1
  obtain ⟨n_1, ⟨t15_1, hv, hJ_1, hL_3⟩, hn_1⟩ := hI_1 _ _ hi_1
  cases hv
  have H := HB_1 n_1 t15_1 h_3 hJ_1 hL_3
  refine pop_lss .i64 t15_1 (g0_1.n : Int) ?_
  refine condM_b (fun hb_3 => ?_) (fun hb_3 => ?_)
  rotate_left
  ·have H := H.2 hb_3
   exact H
  have H := H.1 hb_3
  obtain ⟨hi_2, H⟩ := H
  refine pop_index sli22 siz27 .i64 g0_1 t15_1 hi_2 ?_
  obtain ⟨t18_1, hc_1, H⟩ := H
  refine rop_one one27 (Sl.v t18_1) hc_1 ?_
  refine pop_len t18_1 _ _ sli27 ?_
  refine pop_gtr .i64 (t18_1.n : Int) 5 ?_
  refine guardM_sf (fun hb_4 => ?_) (fun hb_4 => ?_)
  rotate_left
  ·have H := H.1 hb_4
   refine guardM_n' hb_4 (by decide) ?_
   refine guardM_n' hb_4 (by decide) ?_
   refine guardM_n' hb_4 (by decide) ?_
   refine guardM_n' hb_4 (by decide) ?_
   refine pop_pickt' hb_4 ?_
   refine condM_t ?_
   exact H
  have H := H.2 hb_4
  refine guardM_y' hb_4 ?_
  refine guardM_y' hb_4 ?_
  refine pop_sub .i64 (g0_1.n : Int) 1 ?_
  refine guardM_y' hb_4 ?_
  refine H.mono fun rv_2 h_4 H => ?_
  obtain ⟨t26_1, rfl, hL_4, H⟩ := H
  refine guardM_y' hb_4 ?_
  refine pop_not t26_1 ?_
  refine pop_pickf' hb_4 ?_
  refine condM_b (fun hb_5 => ?_) (fun hb_5 => ?_)
  ·have H := H.1 hb_5
   exact H
  have H := H.2 hb_5
  refine pop_add .i64 t15_1 1 ?_
  obtain ⟨m_1, hm_1, H⟩ := H
  exact hn_1 _ _ ⟨m_1, hm_1, (w64 (t15_1 + 1)), rfl, H, hL_4⟩
def u74 (P : Program) (l0_1 : Sl) (n1_1 : Int) (h : Heap) (K : Value → Heap → Prop) : Prop :=
  ∃ J_1 : Nat → Int → Heap → Prop, (∃ n0 : Nat, J_1 n0 0 h) ∧
  ∀ (n_1 : Nat) (t9_1 : Int) (h_1 : Heap), J_1 n_1 t9_1 h_1 → Vars h_1 [] →
  ((decide (t9_1 < (l0_1.n : Int))) = true →
  InB l0_1 t9_1 ∧
  ∃ t12_1 : Int, hcell h_1 (Sl.at l0_1 t9_1 1) = some (VI t12_1) ∧
  ((decide (t12_1 = n1_1)) = true →
  K (VB true) h_1) ∧
  ((decide (t12_1 = n1_1)) = false →
  ∃ m : Nat, m < n_1 ∧ J_1 m (w64 (t9_1 + 1)) h_1)) ∧
  ((decide (t9_1 < (l0_1.n : Int))) = false →
  K (VB false) h_1)
theorem v74 (l0_1 : Sl) (n1_1 : Int) (h : Heap) (K : Value → Heap → Prop) (H : u74 Try.prog l0_1 n1_1 h K) : callM Try.prog 74 #[(Sl.v l0_1), (VI n1_1)] h K := by
  refine c74 (Sl.v l0_1) (VI n1_1) h K ?_
  unfold u74 at H
  unfold t74
  have hL : Vars h [] := .nil
  refine pop_len l0_1 _ _ sli27 ?_
  obtain ⟨J_1, ⟨n_2, h0_1⟩, HB_1⟩ := H
  refine loop_intro (J := fun (n : Nat) (vs : List Value) (h' : Heap) => ∃ t9_1 : Int, vs = [(VI t9_1)] ∧ J_1 n t9_1 h' ∧ Vars h' []) n_2 ⟨0, rfl, h0_1, hL⟩ ?_
  intro I_1 mu_1 hI_1 junk_1 tv_1 h_1 hi_1
  obtain ⟨n_1, ⟨t9_1, hv, hJ_1, hL_1⟩, hn_1⟩ := hI_1 _ _ hi_1
  cases hv
  have H := HB_1 n_1 t9_1 h_1 hJ_1 hL_1
  refine pop_lss .i64 t9_1 (l0_1.n : Int) ?_
  refine condM_b (fun hb_1 => ?_) (fun hb_1 => ?_)
  rotate_left
  ·have H := H.2 hb_1
   exact H
  have H := H.1 hb_1
  obtain ⟨hi_2, H⟩ := H
  refine pop_index sli27 siz3 .i64 l0_1 t9_1 hi_2 ?_
  obtain ⟨t12_1, hc_1, H⟩ := H
  refine rop_one one3 (VI t12_1) hc_1 ?_
  refine pop_ieq .i64 _ _ t12_1 n1_1 ?_
  refine condM_b (fun hb_2 => ?_) (fun hb_2 => ?_)
  ·have H := H.1 hb_2
   exact H
  have H := H.2 hb_2
  refine pop_add .i64 t9_1 1 ?_
  obtain ⟨m_1, hm_1, H⟩ := H
  exact hn_1 _ _ ⟨m_1, hm_1, (w64 (t9_1 + 1)), rfl, H, hL_1⟩
def u75 (P : Program) (g0_1 : Sl) (h : Heap) (K : Value → Heap → Prop) : Prop :=
  ∀ (b_1 : Nat) (h_1 : Heap), h.size ≤ b_1 → Fr (In []) h h_1 → Vars h_1 [(b_1, [(Sl.v g0_1)])] →
  ∃ J_1 : Nat → Int → Heap → Prop, (∃ n0 : Nat, J_1 n0 0 h_1) ∧
  ∀ (n_1 : Nat) (t7_1 : Int) (h_2 : Heap), J_1 n_1 t7_1 h_2 → Vars h_2 [(b_1, [(Sl.v g0_1)])] →
  ((decide (t7_1 < (g0_1.n : Int))) = true →
  callM P 69 #[(Value.agg #[(Sl.v g0_1)]), (VI t7_1)] h_2 fun rv_1 h_3 => ∃ t12_1 : Sl, rv_1 = (Sl.v t12_1) ∧ Vars h_3 [(b_1, [(Sl.v g0_1)])] ∧
  ((!decide ((t12_1.n : Int) = (g0_1.n : Int))) = true →
  K (VB false) h_3) ∧
  ((!decide ((t12_1.n : Int) = (g0_1.n : Int))) = false →
  ∃ m : Nat, m < n_1 ∧ J_1 m (w64 (t7_1 + 1)) h_3)) ∧
  ((decide (t7_1 < (g0_1.n : Int))) = false →
  K (VB true) h_2)
theorem v75 (g0_1 : Sl) (h : Heap) (K : Value → Heap → Prop) (H : u75 Try.prog g0_1 h K) : callM Try.prog 75 #[(Value.agg #[(Sl.v g0_1)])] h K := by
  refine c75 (Value.agg #[(Sl.v g0_1)]) h K ?_
  unfold u75 at H
  unfold t75
  have hL : Vars h [] := .nil
  refine eop_box 32 (Value.agg #[(Sl.v g0_1)]) rfl hL (fun b_1 h_1 hb_1 hf_1 hL_1 => ?_)
  refine pop_field 0 fld32_0 b_1 0 ?_
  refine rop_loc one22 hL_1 0 rfl 0 (v := (Sl.v g0_1)) rfl ?_
  refine pop_len g0_1 _ _ sli22 ?_
  have H := H b_1 h_1 (Nat.le_trans (Fr.size (Fr.r (In []) _)) hb_1) (Fr.no' (Fr.r (In []) _) hf_1) hL_1
  obtain ⟨J_1, ⟨n_2, h0_1⟩, HB_1⟩ := H
  refine loop_intro (J := fun (n : Nat) (vs : List Value) (h' : Heap) => ∃ t7_1 : Int, vs = [(VI t7_1)] ∧ J_1 n t7_1 h' ∧ Vars h' [(b_1, [(Sl.v g0_1)])]) n_2 ⟨0, rfl, h0_1, hL_1⟩ ?_
  intro I_1 mu_1 hI_1 junk_1 tv_1 h_2 hi_1
  obtain ⟨n_1, ⟨t7_1, hv, hJ_1, hL_2⟩, hn_1⟩ := hI_1 _ _ hi_1
  cases hv
  have H := HB_1 n_1 t7_1 h_2 hJ_1 hL_2
  refine pop_lss .i64 t7_1 (g0_1.n : Int) ?_
  refine condM_b (fun hb_2 => ?_) (fun hb_2 => ?_)
  rotate_left
  ·have H := H.2 hb_2
   exact H
  have H := H.1 hb_2
  refine rop_locA agg32 hL_2 0 rfl 0 (vs := [(Sl.v g0_1)]) rfl rfl ?_
  refine pop_field 0 fld32_0 b_1 0 ?_
  refine rop_loc one22 hL_2 0 rfl 0 (v := (Sl.v g0_1)) rfl ?_
  refine pop_len g0_1 _ _ sli22 ?_
  refine H.mono fun rv_1 h_3 H => ?_
  obtain ⟨t12_1, rfl, hL_3, H⟩ := H
  refine ⟨?_, ?_⟩
  ·exact still_loc one22 hL_3 0 rfl 0 (v := (Sl.v g0_1)) rfl
  refine pop_len t12_1 _ _ sli27 ?_
  refine pop_ine .i64 _ _ (t12_1.n : Int) (g0_1.n : Int) ?_
  refine condM_b (fun hb_3 => ?_) (fun hb_3 => ?_)
  ·have H := H.1 hb_3
   exact H
  have H := H.2 hb_3
  refine pop_add .i64 t7_1 1 ?_
  obtain ⟨m_1, hm_1, H⟩ := H
  exact hn_1 _ _ ⟨m_1, hm_1, (w64 (t7_1 + 1)), rfl, H, hL_3⟩
def u76 (P : Program) (g0_1 : Sl) (h : Heap) (K : Value → Heap → Prop) : Prop :=
  ∀ (b_1 : Nat) (h_1 : Heap), h.size ≤ b_1 → Fr (In []) h h_1 → Vars h_1 [(b_1, [(Sl.v g0_1)])] →
  ∃ J_1 : Nat → Int → Heap → Prop, (∃ n0 : Nat, J_1 n0 0 h_1) ∧
  ∀ (n_1 : Nat) (t7_1 : Int) (h_2 : Heap), J_1 n_1 t7_1 h_2 → Vars h_2 [(b_1, [(Sl.v g0_1)])] →
  ((decide (t7_1 < (g0_1.n : Int))) = true →
  callM P 70 #[(Value.agg #[(Sl.v g0_1)]), (VI t7_1)] h_2 fun rv_1 h_3 => ∃ t12_1 : Sl, rv_1 = (Sl.v t12_1) ∧ Vars h_3 [(b_1, [(Sl.v g0_1)])] ∧
  ((!decide ((t12_1.n : Int) = (g0_1.n : Int))) = true →
  K (VB false) h_3) ∧
  ((!decide ((t12_1.n : Int) = (g0_1.n : Int))) = false →
  ∃ m : Nat, m < n_1 ∧ J_1 m (w64 (t7_1 + 1)) h_3)) ∧
  ((decide (t7_1 < (g0_1.n : Int))) = false →
  K (VB true) h_2)
theorem v76 (g0_1 : Sl) (h : Heap) (K : Value → Heap → Prop) (H : u76 Try.prog g0_1 h K) : callM Try.prog 76 #[(Value.agg #[(Sl.v g0_1)])] h K := by
  refine c76 (Value.agg #[(Sl.v g0_1)]) h K ?_
  unfold u76 at H
  unfold t76
  have hL : Vars h [] := .nil
  refine eop_box 32 (Value.agg #[(Sl.v g0_1)]) rfl hL (fun b_1 h_1 hb_1 hf_1 hL_1 => ?_)
  refine pop_field 0 fld32_0 b_1 0 ?_
  refine rop_loc one22 hL_1 0 rfl 0 (v := (Sl.v g0_1)) rfl ?_
  refine pop_len g0_1 _ _ sli22 ?_
  have H := H b_1 h_1 (Nat.le_trans (Fr.size (Fr.r (In []) _)) hb_1) (Fr.no' (Fr.r (In []) _) hf_1) hL_1
  obtain ⟨J_1, ⟨n_2, h0_1⟩, HB_1⟩ := H
  refine loop_intro (J := fun (n : Nat) (vs : List Value) (h' : Heap) => ∃ t7_1 : Int, vs = [(VI t7_1)] ∧ J_1 n t7_1 h' ∧ Vars h' [(b_1, [(Sl.v g0_1)])]) n_2 ⟨0, rfl, h0_1, hL_1⟩ ?_
  intro I_1 mu_1 hI_1 junk_1 tv_1 h_2 hi_1
  obtain ⟨n_1, ⟨t7_1, hv, hJ_1, hL_2⟩, hn_1⟩ := hI_1 _ _ hi_1
  cases hv
  have H := HB_1 n_1 t7_1 h_2 hJ_1 hL_2
  refine pop_lss .i64 t7_1 (g0_1.n : Int) ?_
  refine condM_b (fun hb_2 => ?_) (fun hb_2 => ?_)
  rotate_left
  ·have H := H.2 hb_2
   exact H
  have H := H.1 hb_2
  refine rop_locA agg32 hL_2 0 rfl 0 (vs := [(Sl.v g0_1)]) rfl rfl ?_
  refine pop_field 0 fld32_0 b_1 0 ?_
  refine rop_loc one22 hL_2 0 rfl 0 (v := (Sl.v g0_1)) rfl ?_
  refine pop_len g0_1 _ _ sli22 ?_
  refine H.mono fun rv_1 h_3 H => ?_
  obtain ⟨t12_1, rfl, hL_3, H⟩ := H
  refine ⟨?_, ?_⟩
  ·exact still_loc one22 hL_3 0 rfl 0 (v := (Sl.v g0_1)) rfl
  refine pop_len t12_1 _ _ sli27 ?_
  refine pop_ine .i64 _ _ (t12_1.n : Int) (g0_1.n : Int) ?_
  refine condM_b (fun hb_3 => ?_) (fun hb_3 => ?_)
  ·have H := H.1 hb_3
   exact H
  have H := H.2 hb_3
  refine pop_add .i64 t7_1 1 ?_
  obtain ⟨m_1, hm_1, H⟩ := H
  exact hn_1 _ _ ⟨m_1, hm_1, (w64 (t7_1 + 1)), rfl, H, hL_3⟩
def u77 (P : Program) (b_1 : Nat) (c0_1 : Sl) (c0_2 : Int) (c0_3 : Int) (n1_1 : Int) (h : Heap) (K : Value → Heap → Prop) : Prop :=
  ∃ J_1 : Nat → Sl → Int → Heap → Prop, (∃ n0 : Nat, J_1 n0 nilSl 0 h) ∧
  ∀ (n_1 : Nat) (out5_1 : Sl) (p6_1 : Int) (h_1 : Heap), J_1 n_1 out5_1 p6_1 h_1 → Vars h_1 [(b_1, [(Sl.v c0_1), (VI c0_2), (Value.int .u64 c0_3)])] →
  ((decide (p6_1 < n1_1)) = true →
  eop P (Instr.buildSlice 27 1 #[(0, (VI p6_1))]) h_1 fun rv_1 h_2 => ∃ t17_1 : Sl, rv_1 = (Sl.v t17_1) ∧ Vars h_2 [(b_1, [(Sl.v c0_1), (VI c0_2), (Value.int .u64 c0_3)])] ∧
  eop P (appS 27 27 27 (Sl.v out5_1) (Sl.v t17_1)) h_2 fun rv_2 h_3 => ∃ t18_1 : Sl, rv_2 = (Sl.v t18_1) ∧ Vars h_3 [(b_1, [(Sl.v c0_1), (VI c0_2), (Value.int .u64 c0_3)])] ∧
  ∃ m : Nat, m < n_1 ∧ J_1 m t18_1 (w64 (p6_1 + 1)) h_3) ∧
  ((decide (p6_1 < n1_1)) = false →
  ∃ J_2 : Nat → Int → Sl → Int → Int → Heap → Prop, (∃ n0 : Nat, J_2 n0 0 c0_1 c0_2 c0_3 h_1) ∧
  ∀ (n_2 : Nat) (t21_1 : Int) (x_1 : Sl) (x_2 : Int) (x_3 : Int) (h_4 : Heap), J_2 n_2 t21_1 x_1 x_2 x_3 h_4 → Vars h_4 [(b_1, [(Sl.v x_1), (VI x_2), (Value.int .u64 x_3)])] →
  ((decide (t21_1 < (out5_1.n : Int))) = true →
  callM P 110 #[(VP b_1 0), (VI n1_1)] h_4 fun rv_3 h_5 => ∃ x_4 : Sl, ∃ x_5 : Int, ∃ x_6 : Int, ∃ t26_1 : Int, rv_3 = (VI t26_1) ∧ Vars h_5 [(b_1, [(Sl.v x_4), (VI x_5), (Value.int .u64 x_6)])] ∧
  InB out5_1 t21_1 ∧
  ∃ t30_1 : Int, hcell h_5 (Sl.at out5_1 t21_1 1) = some (VI t30_1) ∧
  InB out5_1 t26_1 ∧
  ∃ t36_1 : Int, hcell h_5 (Sl.at out5_1 t26_1 1) = some (VI t36_1) ∧
  InB out5_1 t21_1 ∧
  Writable h_5 (Sl.at out5_1 t21_1 1) ∧ Vars (hset h_5 (Sl.at out5_1 t21_1 1) (VI t36_1)) [(b_1, [(Sl.v x_4), (VI x_5), (Value.int .u64 x_6)])] ∧
  ∀ h_6 : Heap, h_6 = hset h_5 (Sl.at out5_1 t21_1 1) (VI t36_1) → Vars h_6 [(b_1, [(Sl.v x_4), (VI x_5), (Value.int .u64 x_6)])] →
  InB out5_1 t26_1 ∧
  Writable h_6 (Sl.at out5_1 t26_1 1) ∧ Vars (hset h_6 (Sl.at out5_1 t26_1 1) (VI t30_1)) [(b_1, [(Sl.v x_4), (VI x_5), (Value.int .u64 x_6)])] ∧
  ∀ h_7 : Heap, h_7 = hset h_6 (Sl.at out5_1 t26_1 1) (VI t30_1) → Vars h_7 [(b_1, [(Sl.v x_4), (VI x_5), (Value.int .u64 x_6)])] →
  ∃ m : Nat, m < n_2 ∧ J_2 m (w64 (t21_1 + 1)) x_4 x_5 x_6 h_7) ∧
  ((decide (t21_1 < (out5_1.n : Int))) = false →
  K (Sl.v out5_1) h_4))
theorem v77 (b_1 : Nat) (c0_1 : Sl) (c0_2 : Int) (c0_3 : Int) (n1_1 : Int) (h : Heap) (K : Value → Heap → Prop) (hL : Vars h [(b_1, [(Sl.v c0_1), (VI c0_2), (Value.int .u64 c0_3)])]) (H : u77 Try.prog b_1 c0_1 c0_2 c0_3 n1_1 h K) : callM Try.prog 77 #[(VP b_1 0), (VI n1_1)] h K := by
  refine c77 (VP b_1 0) (VI n1_1) h K ?_
  unfold u77 at H
  unfold t77
  obtain ⟨J_1, ⟨n_4, h0_2⟩, HB_2⟩ := H
  refine loop_intro (J := fun (n : Nat) (vs : List Value) (h' : Heap) => ∃ out5_1 : Sl, ∃ p6_1 : Int, vs = [(Sl.v out5_1), (VI p6_1)] ∧ J_1 n out5_1 p6_1 h' ∧ Vars h' [(b_1, [(Sl.v c0_1), (VI c0_2), (Value.int .u64 c0_3)])]) n_4 ⟨nilSl, 0, rfl, h0_2, hL⟩ ?_
  intro I_2 mu_2 hI_2 junk_1 tv_2 tv_3 h_1 hi_1
  obtain ⟨n_1, ⟨out5_1, p6_1, hv, hJ_1, hL_1⟩, hn_1⟩ := hI_2 _ _ hi_1
  cases hv
  have H := HB_2 n_1 out5_1 p6_1 h_1 hJ_1 hL_1
  refine pop_lss .i64 p6_1 n1_1 ?_
  refine condM_b (fun hb_1 => ?_) (fun hb_1 => ?_)
  ·have H := H.1 hb_1
   refine H.mono fun rv_1 h_2 H => ?_
   obtain ⟨t17_1, rfl, hL_2, H⟩ := H
   refine H.mono fun rv_2 h_3 H => ?_
   obtain ⟨t18_1, rfl, hL_3, H⟩ := H
   refine pop_add .i64 p6_1 1 ?_
   obtain ⟨m_1, hm_1, H⟩ := H
   exact hn_1 _ _ ⟨m_1, hm_1, t18_1, (w64 (p6_1 + 1)), rfl, H, hL_3⟩
  have H := H.2 hb_1
  refine pop_len out5_1 _ _ sli27 ?_
  obtain ⟨J_2, ⟨n_3, h0_1⟩, HB_1⟩ := H
  refine loop_intro (J := fun (n : Nat) (vs : List Value) (h' : Heap) => ∃ t21_1 : Int, ∃ x_1 : Sl, ∃ x_2 : Int, ∃ x_3 : Int, vs = [(VI t21_1)] ∧ J_2 n t21_1 x_1 x_2 x_3 h' ∧ Vars h' [(b_1, [(Sl.v x_1), (VI x_2), (Value.int .u64 x_3)])]) n_3 ⟨0, c0_1, c0_2, c0_3, rfl, h0_1, hL_1⟩ ?_
  intro I_1 mu_1 hI_1 junk_2 tv_1 h_4 hi_2
  obtain ⟨n_2, ⟨t21_1, x_1, x_2, x_3, hv, hJ_2, hL_4⟩, hn_2⟩ := hI_1 _ _ hi_2
  cases hv
  have H := HB_1 n_2 t21_1 x_1 x_2 x_3 h_4 hJ_2 hL_4
  refine pop_lss .i64 t21_1 (out5_1.n : Int) ?_
  refine condM_b (fun hb_2 => ?_) (fun hb_2 => ?_)
  rotate_left
  ·have H := H.2 hb_2
   exact H
  have H := H.1 hb_2
  refine H.mono fun rv_3 h_5 H => ?_
  obtain ⟨x_4, x_5, x_6, t26_1, rfl, hL_5, H⟩ := H
  obtain ⟨hi_3, H⟩ := H
  refine pop_index sli27 siz3 .i64 out5_1 t21_1 hi_3 ?_
  obtain ⟨t30_1, hc_2, H⟩ := H
  refine rop_one one3 (VI t30_1) hc_2 ?_
  obtain ⟨hi_4, H⟩ := H
  refine pop_index sli27 siz3 .i64 out5_1 t26_1 hi_4 ?_
  obtain ⟨t36_1, hc_1, H⟩ := H
  refine rop_one one3 (VI t36_1) hc_1 ?_
  obtain ⟨hi_5, H⟩ := H
  refine pop_index sli27 siz3 .i64 out5_1 t21_1 hi_5 ?_
  obtain ⟨hw_1, hL_6, H⟩ := H
  refine uop_cell (v := (VI t36_1)) siz3 hw_1 rfl (fun h_6 he_1 => ?_)
  rw [← he_1] at hL_6
  have H := H h_6 he_1 hL_6
  obtain ⟨hi_6, H⟩ := H
  refine pop_index sli27 siz3 .i64 out5_1 t26_1 hi_6 ?_
  obtain ⟨hw_2, hL_7, H⟩ := H
  refine uop_cell (v := (VI t30_1)) siz3 hw_2 rfl (fun h_7 he_2 => ?_)
  rw [← he_2] at hL_7
  have H := H h_7 he_2 hL_7
  refine pop_add .i64 t21_1 1 ?_
  obtain ⟨m_2, hm_2, H⟩ := H
  exact hn_2 _ _ ⟨m_2, hm_2, (w64 (t21_1 + 1)), x_4, x_5, x_6, rfl, H, hL_7⟩
def u78 (P : Program) (b_1 : Nat) (c0_1 : Sl) (c0_2 : Int) (c0_3 : Int) (n1_1 : Int) (h : Heap) (K : Value → Heap → Prop) : Prop :=
  callM P 110 #[(VP b_1 0), (VI n1_1)] h fun rv_1 h_1 => ∃ x_1 : Sl, ∃ x_2 : Int, ∃ x_3 : Int, ∃ t7_1 : Int, rv_1 = (VI t7_1) ∧ Vars h_1 [(b_1, [(Sl.v x_1), (VI x_2), (Value.int .u64 x_3)])] ∧
  K (VB (decide (t7_1 = 0))) h_1
theorem v78 (b_1 : Nat) (c0_1 : Sl) (c0_2 : Int) (c0_3 : Int) (n1_1 : Int) (h : Heap) (K : Value → Heap → Prop) (hL : Vars h [(b_1, [(Sl.v c0_1), (VI c0_2), (Value.int .u64 c0_3)])]) (H : u78 Try.prog b_1 c0_1 c0_2 c0_3 n1_1 h K) : callM Try.prog 78 #[(VP b_1 0), (VI n1_1)] h K := by
  refine c78 (VP b_1 0) (VI n1_1) h K ?_
  unfold u78 at H
  unfold t78
  refine H.mono fun rv_1 h_1 H => ?_
  obtain ⟨x_1, x_2, x_3, t7_1, rfl, hL_1, H⟩ := H
  refine pop_ieq .i64 _ _ t7_1 0 ?_
  exact H
def u79 (P : Program) (b_1 : Nat) (c0_1 : Sl) (c0_2 : Int) (c0_3 : Int) (list1_1 : Sl) (h : Heap) (K : Value → Heap → Prop) : Prop :=
  callM P 110 #[(VP b_1 0), (VI (list1_1.n : Int))] h fun rv_1 h_1 => ∃ x_1 : Sl, ∃ x_2 : Int, ∃ x_3 : Int, ∃ t9_1 : Int, rv_1 = (VI t9_1) ∧ Vars h_1 [(b_1, [(Sl.v x_1), (VI x_2), (Value.int .u64 x_3)])] ∧
  InB list1_1 t9_1 ∧
  ∃ t11_1 : Int, hcell h_1 (Sl.at list1_1 t9_1 1) = some (VI t11_1) ∧
  K (VI t11_1) h_1
theorem v79 (b_1 : Nat) (c0_1 : Sl) (c0_2 : Int) (c0_3 : Int) (list1_1 : Sl) (h : Heap) (K : Value → Heap → Prop) (hL : Vars h [(b_1, [(Sl.v c0_1), (VI c0_2), (Value.int .u64 c0_3)])]) (H : u79 Try.prog b_1 c0_1 c0_2 c0_3 list1_1 h K) : callM Try.prog 79 #[(VP b_1 0), (Sl.v list1_1)] h K := by
  refine c79 (VP b_1 0) (Sl.v list1_1) h K ?_
  unfold u79 at H
  unfold t79
  refine pop_len list1_1 _ _ sli27 ?_
  refine H.mono fun rv_1 h_1 H => ?_
  obtain ⟨x_1, x_2, x_3, t9_1, rfl, hL_1, H⟩ := H
  obtain ⟨hi_1, H⟩ := H
  refine pop_index sli27 siz3 .i64 list1_1 t9_1 hi_1 ?_
  obtain ⟨t11_1, hc_1, H⟩ := H
  refine rop_one one3 (VI t11_1) hc_1 ?_
  exact H
def u80 (P : Program) (g0_1 : Sl) (names1_1 : Sl) (h : Heap) (K : Value → Heap → Prop) : Prop :=
  ∀ (b_1 : Nat) (b_2 : Nat) (h_2 : Heap), h.size ≤ b_1 → h.size ≤ b_2 → Fr (In []) h h_2 → Vars h_2 [(b_2, [(Sl.v nilSl)]), (b_1, [(Sl.v g0_1)])] →
  eop P (Instr.makeSlice 22 (VI (g0_1.n : Int)) (VI (g0_1.n : Int))) h_2 fun rv_1 h_3 => ∃ t13_1 : Sl, rv_1 = (Sl.v t13_1) ∧ Vars h_3 [(b_2, [(Sl.v nilSl)]), (b_1, [(Sl.v g0_1)])] ∧
  ∀ (b_3 : Nat) (h_5 : Heap), h_3.size ≤ b_3 → Fr (In []) h_3 h_5 → Vars h_5 [(b_3, [(Sl.v t13_1)]), (b_2, [(Sl.v nilSl)]), (b_1, [(Sl.v g0_1)])] →
  ∃ J_1 : Nat → Int → Heap → Prop, (∃ n0 : Nat, J_1 n0 0 h_5) ∧
  ∀ (n_1 : Nat) (t18_1 : Int) (h_6 : Heap), J_1 n_1 t18_1 h_6 → Vars h_6 [(b_3, [(Sl.v t13_1)]), (b_2, [(Sl.v nilSl)]), (b_1, [(Sl.v g0_1)])] →
  ((decide (t18_1 < (g0_1.n : Int))) = true →
  InB g0_1 t18_1 ∧
  ∃ t22_1 : Sl, hcell h_6 (Sl.at g0_1 t18_1 1) = some (Sl.v t22_1) ∧
  ∃ J_2 : Nat → Int → Heap → Prop, (∃ n0 : Nat, J_2 n0 0 h_6) ∧
  ∀ (n_2 : Nat) (t25_1 : Int) (h_7 : Heap), J_2 n_2 t25_1 h_7 → Vars h_7 [(b_3, [(Sl.v t13_1)]), (b_2, [(Sl.v nilSl)]), (b_1, [(Sl.v g0_1)])] →
  ((decide (t25_1 < (t22_1.n : Int))) = true →
  InB t22_1 t25_1 ∧
  ∃ t28_1 : Int, hcell h_7 (Sl.at t22_1 t25_1 1) = some (VI t28_1) ∧
  InB names1_1 t18_1 ∧
  ∃ t34_1 : Int, hcell h_7 (Sl.at names1_1 t18_1 1) = some (VI t34_1) ∧
  InB names1_1 t18_1 ∧
  ∃ t40_1 : Int, hcell h_7 (Sl.at names1_1 t18_1 1) = some (VI t40_1) ∧
  InB t13_1 t40_1 ∧
  ∃ t42_1 : Sl, hcell h_7 (Sl.at t13_1 t40_1 1) = some (Sl.v t42_1) ∧
  InB names1_1 t28_1 ∧
  ∃ t46_1 : Int, hcell h_7 (Sl.at names1_1 t28_1 1) = some (VI t46_1) ∧
  eop P (Instr.buildSlice 27 1 #[(0, (VI t46_1))]) h_7 fun rv_2 h_8 => ∃ t47_1 : Sl, rv_2 = (Sl.v t47_1) ∧ Vars h_8 [(b_3, [(Sl.v t13_1)]), (b_2, [(Sl.v nilSl)]), (b_1, [(Sl.v g0_1)])] ∧
  hcell h_8 (Sl.at t13_1 t40_1 1) = some (Sl.v t42_1) ∧
  hcell h_8 (Sl.at names1_1 t18_1 1) = some (VI t40_1) ∧
  hcell h_8 (Sl.at names1_1 t18_1 1) = some (VI t34_1) ∧
  eop P (appS 27 27 27 (Sl.v t42_1) (Sl.v t47_1)) h_8 fun rv_3 h_9 => ∃ t48_1 : Sl, rv_3 = (Sl.v t48_1) ∧ Vars h_9 [(b_3, [(Sl.v t13_1)]), (b_2, [(Sl.v nilSl)]), (b_1, [(Sl.v g0_1)])] ∧
  hcell h_9 (Sl.at names1_1 t18_1 1) = some (VI t40_1) ∧
  hcell h_9 (Sl.at names1_1 t18_1 1) = some (VI t34_1) ∧
  InB t13_1 t34_1 ∧
  Writable h_9 (Sl.at t13_1 t34_1 1) ∧ Vars (hset h_9 (Sl.at t13_1 t34_1 1) (Sl.v t48_1)) [(b_3, [(Sl.v t13_1)]), (b_2, [(Sl.v nilSl)]), (b_1, [(Sl.v g0_1)])] ∧
  ∀ h_10 : Heap, h_10 = hset h_9 (Sl.at t13_1 t34_1 1) (Sl.v t48_1) → Vars h_10 [(b_3, [(Sl.v t13_1)]), (b_2, [(Sl.v nilSl)]), (b_1, [(Sl.v g0_1)])] →
  ∃ m : Nat, m < n_2 ∧ J_2 m (w64 (t25_1 + 1)) h_10) ∧
  ((decide (t25_1 < (t22_1.n : Int))) = false →
  ∃ m : Nat, m < n_1 ∧ J_1 m (w64 (t18_1 + 1)) h_7)) ∧
  ((decide (t18_1 < (g0_1.n : Int))) = false →
  ∀ (h_11 : Heap), Fr (In [b_2]) h_6 h_11 → Vars h_11 [(b_3, [(Sl.v t13_1)]), (b_2, [(Sl.v t13_1)]), (b_1, [(Sl.v g0_1)])] →
  K (Value.agg #[(Sl.v t13_1)]) h_11)
theorem v80 (g0_1 : Sl) (names1_1 : Sl) (h : Heap) (K : Value → Heap → Prop) (H : u80 Try.prog g0_1 names1_1 h K) : callM Try.prog 80 #[(Value.agg #[(Sl.v g0_1)]), (Sl.v names1_1)] h K := by
  refine c80 (Value.agg #[(Sl.v g0_1)]) (Sl.v names1_1) h K ?_
  unfold u80 at H
  unfold t80
  have hL : Vars h [] := .nil
  refine eop_box 32 (Value.agg #[(Sl.v g0_1)]) rfl hL (fun b_1 h_1 hb_1 hf_1 hL_1 => ?_)
  refine eop_alloc 32 zer32 rfl hL_1 (fun b_2 h_2 hb_2 hf_2 hL_2 => ?_)
  refine pop_field 0 fld32_0 b_1 0 ?_
  refine rop_loc one22 hL_2 1 rfl 0 (v := (Sl.v g0_1)) rfl ?_
  refine pop_len g0_1 _ _ sli22 ?_
  have H := H b_1 b_2 h_2 (Nat.le_trans (Fr.size (Fr.r (In []) _)) hb_1) (Nat.le_trans (Fr.size (Fr.no' (Fr.r (In []) _) hf_1)) hb_2) (Fr.no' (Fr.no' (Fr.r (In []) _) hf_1) hf_2) hL_2
  refine H.mono fun rv_1 h_3 H => ?_
  obtain ⟨t13_1, rfl, hL_3, H⟩ := H
  refine pop.mk' (v := (Value.agg #[(Sl.v t13_1)])) (fun w => by kernel_rfl) ?_
  refine eop_alloc 32 zer32 rfl hL_3 (fun b_3 h_4 hb_3 hf_3 hL_4 => ?_)
  refine uop_loc siz32 hL_4 0 rfl 0 [(Sl.v t13_1)] rfl rfl rfl (Nat.le_of_ble_eq_true rfl) (L' := [(b_3, [(Sl.v t13_1)]), (b_2, [(Sl.v nilSl)]), (b_1, [(Sl.v g0_1)])]) rfl (fun h_5 hf_4 hL_5 => ?_)
  refine pop_field 0 fld32_0 b_1 0 ?_
  refine rop_loc one22 hL_5 2 rfl 0 (v := (Sl.v g0_1)) rfl ?_
  refine pop_len g0_1 _ _ sli22 ?_
  have H := H b_3 h_5 (Nat.le_trans (Fr.size (Fr.r (In []) _)) hb_3) (Fr.new (Fr.no' (Fr.r (In []) _) hf_3) (Nat.le_trans (Fr.size (Fr.r (In []) _)) hb_3) hf_4) hL_5
  obtain ⟨J_1, ⟨n_4, h0_2⟩, HB_2⟩ := H
  refine loop_intro (J := fun (n : Nat) (vs : List Value) (h' : Heap) => ∃ t18_1 : Int, vs = [(VI t18_1)] ∧ J_1 n t18_1 h' ∧ Vars h' [(b_3, [(Sl.v t13_1)]), (b_2, [(Sl.v nilSl)]), (b_1, [(Sl.v g0_1)])]) n_4 ⟨0, rfl, h0_2, hL_5⟩ ?_
  intro I_2 mu_2 hI_2 junk_1 tv_2 h_6 hi_1
  obtain ⟨n_1, ⟨t18_1, hv, hJ_1, hL_6⟩, hn_1⟩ := hI_2 _ _ hi_1
  cases hv
  have H := HB_2 n_1 t18_1 h_6 hJ_1 hL_6
  refine pop_lss .i64 t18_1 (g0_1.n : Int) ?_
  refine condM_b (fun hb_4 => ?_) (fun hb_4 => ?_)
  rotate_left
  ·have H := H.2 hb_4
   refine rop_locA agg32 hL_6 0 rfl 0 (vs := [(Sl.v t13_1)]) rfl rfl ?_
   refine uop_loc siz32 hL_6 1 rfl 0 [(Sl.v t13_1)] rfl rfl rfl (Nat.le_of_ble_eq_true rfl) (L' := [(b_3, [(Sl.v t13_1)]), (b_2, [(Sl.v t13_1)]), (b_1, [(Sl.v g0_1)])]) rfl (fun h_11 hf_5 hL_11 => ?_)
   refine rop_locA agg32 hL_11 1 rfl 0 (vs := [(Sl.v t13_1)]) rfl rfl ?_
   have H := H  h_11  (Fr.old (Fr.r (In []) _) hf_5) hL_11
   exact H
  have H := H.1 hb_4
  obtain ⟨hi_2, H⟩ := H
  refine pop_index sli22 siz27 .i64 g0_1 t18_1 hi_2 ?_
  obtain ⟨t22_1, hc_11, H⟩ := H
  refine rop_one one27 (Sl.v t22_1) hc_11 ?_
  refine pop_len t22_1 _ _ sli27 ?_
  obtain ⟨J_2, ⟨n_3, h0_1⟩, HB_1⟩ := H
  refine loop_intro (J := fun (n : Nat) (vs : List Value) (h' : Heap) => ∃ t25_1 : Int, vs = [(VI t25_1)] ∧ J_2 n t25_1 h' ∧ Vars h' [(b_3, [(Sl.v t13_1)]), (b_2, [(Sl.v nilSl)]), (b_1, [(Sl.v g0_1)])]) n_3 ⟨0, rfl, h0_1, hL_6⟩ ?_
  intro I_1 mu_1 hI_1 junk_2 tv_1 h_7 hi_3
  obtain ⟨n_2, ⟨t25_1, hv, hJ_2, hL_7⟩, hn_2⟩ := hI_1 _ _ hi_3
  cases hv
  have H := HB_1 n_2 t25_1 h_7 hJ_2 hL_7
  refine pop_lss .i64 t25_1 (t22_1.n : Int) ?_
  refine condM_b (fun hb_5 => ?_) (fun hb_5 => ?_)
  rotate_left
  ·have H := H.2 hb_5
   refine pop_add .i64 t18_1 1 ?_
   obtain ⟨m_2, hm_2, H⟩ := H
   exact hn_1 _ _ ⟨m_2, hm_2, (w64 (t18_1 + 1)), rfl, H, hL_7⟩
  have H := H.1 hb_5
  obtain ⟨hi_4, H⟩ := H
  refine pop_index sli27 siz3 .i64 t22_1 t25_1 hi_4 ?_
  obtain ⟨t28_1, hc_10, H⟩ := H
  refine rop_one one3 (VI t28_1) hc_10 ?_
  refine pop_field 0 fld32_0 b_3 0 ?_
  refine rop_loc one22 hL_7 0 rfl 0 (v := (Sl.v t13_1)) rfl ?_
  obtain ⟨hi_5, H⟩ := H
  refine pop_index sli27 siz3 .i64 names1_1 t18_1 hi_5 ?_
  obtain ⟨t34_1, hc_9, H⟩ := H
  refine rop_one one3 (VI t34_1) hc_9 ?_
  refine pop_field 0 fld32_0 b_3 0 ?_
  refine rop_loc one22 hL_7 0 rfl 0 (v := (Sl.v t13_1)) rfl ?_
  obtain ⟨hi_6, H⟩ := H
  refine pop_index sli27 siz3 .i64 names1_1 t18_1 hi_6 ?_
  obtain ⟨t40_1, hc_8, H⟩ := H
  refine rop_one one3 (VI t40_1) hc_8 ?_
  obtain ⟨hi_7, H⟩ := H
  refine pop_index sli22 siz27 .i64 t13_1 t40_1 hi_7 ?_
  obtain ⟨t42_1, hc_7, H⟩ := H
  refine rop_one one27 (Sl.v t42_1) hc_7 ?_
  obtain ⟨hi_8, H⟩ := H
  refine pop_index sli27 siz3 .i64 names1_1 t28_1 hi_8 ?_
  obtain ⟨t46_1, hc_6, H⟩ := H
  refine rop_one one3 (VI t46_1) hc_6 ?_
  refine H.mono fun rv_2 h_8 H => ?_
  obtain ⟨t47_1, rfl, hL_8, H⟩ := H
  refine ⟨?_, ?_⟩
  ·exact still_one one27 H.1
  obtain ⟨hc_1, H⟩ := H
  refine ⟨?_, ?_⟩
  ·exact still_one one3 H.1
  obtain ⟨hc_2, H⟩ := H
  refine ⟨?_, ?_⟩
  ·exact still_loc one22 hL_8 0 rfl 0 (v := (Sl.v t13_1)) rfl
  refine ⟨?_, ?_⟩
  ·exact still_one one3 H.1
  obtain ⟨hc_3, H⟩ := H
  refine ⟨?_, ?_⟩
  ·exact still_loc one22 hL_8 0 rfl 0 (v := (Sl.v t13_1)) rfl
  refine H.mono fun rv_3 h_9 H => ?_
  obtain ⟨t48_1, rfl, hL_9, H⟩ := H
  refine ⟨?_, ?_⟩
  ·exact still_one one3 H.1
  obtain ⟨hc_4, H⟩ := H
  refine ⟨?_, ?_⟩
  ·exact still_loc one22 hL_9 0 rfl 0 (v := (Sl.v t13_1)) rfl
  refine ⟨?_, ?_⟩
  ·exact still_one one3 H.1
  obtain ⟨hc_5, H⟩ := H
  refine ⟨?_, ?_⟩
  ·exact still_loc one22 hL_9 0 rfl 0 (v := (Sl.v t13_1)) rfl
  obtain ⟨hi_9, H⟩ := H
  refine pop_index sli22 siz27 .i64 t13_1 t34_1 hi_9 ?_
  obtain ⟨hw_1, hL_10, H⟩ := H
  refine uop_cell (v := (Sl.v t48_1)) siz27 hw_1 rfl (fun h_10 he_1 => ?_)
  rw [← he_1] at hL_10
  have H := H h_10 he_1 hL_10
  refine pop_add .i64 t25_1 1 ?_
  obtain ⟨m_1, hm_1, H⟩ := H
  exact hn_2 _ _ ⟨m_1, hm_1, (w64 (t25_1 + 1)), rfl, H, hL_10⟩
def u81 (P : Program) (code0_1 : Sl) (h : Heap) (K : Value → Heap → Prop) : Prop :=
  ∀ (b_1 : Nat) (b_2 : Nat) (h_2 : Heap), h.size ≤ b_1 → h.size ≤ b_2 → Fr (In []) h h_2 → Vars h_2 [(b_2, [(Sl.v code0_1), (VI 0), (Value.int .u64 0)]), (b_1, [(Sl.v nilSl)])] →
  callM P 63 #[(VP b_2 0)] h_2 fun rv_1 h_3 => ∃ x_1 : Sl, ∃ x_2 : Int, ∃ x_3 : Int, ∃ t10_1 : Sl, rv_1 = (Value.agg #[(Sl.v t10_1)]) ∧ Vars h_3 [(b_2, [(Sl.v x_1), (VI x_2), (Value.int .u64 x_3)]), (b_1, [(Sl.v nilSl)])] ∧
  ∀ (b_3 : Nat) (h_5 : Heap), h_3.size ≤ b_3 → Fr (In []) h_3 h_5 → Vars h_5 [(b_3, [(Sl.v t10_1)]), (b_2, [(Sl.v x_1), (VI x_2), (Value.int .u64 x_3)]), (b_1, [(Sl.v nilSl)])] →
  callM P 64 #[(VP b_2 0), (Value.agg #[(Sl.v t10_1)])] h_5 fun rv_2 h_6 => ∃ x_4 : Sl, ∃ x_5 : Int, ∃ x_6 : Int, ∃ t14_1 : Int, rv_2 = (VI t14_1) ∧ Vars h_6 [(b_3, [(Sl.v t10_1)]), (b_2, [(Sl.v x_4), (VI x_5), (Value.int .u64 x_6)]), (b_1, [(Sl.v nilSl)])] ∧
  ∀ (h_7 : Heap), Fr (In [b_1]) h_6 h_7 → Vars h_7 [(b_3, [(Sl.v t10_1)]), (b_2, [(Sl.v x_4), (VI x_5), (Value.int .u64 x_6)]), (b_1, [(Sl.v t10_1)])] →
  K (Value.tuple #[(Value.agg #[(Sl.v t10_1)]), (VI t14_1)]) h_7
theorem v81 (code0_1 : Sl) (h : Heap) (K : Value → Heap → Prop) (H : u81 Try.prog code0_1 h K) : callM Try.prog 81 #[(Sl.v code0_1)] h K := by
  refine c81 (Sl.v code0_1) h K ?_
  unfold u81 at H
  unfold t81
  have hL : Vars h [] := .nil
  refine eop_alloc 32 zer32 rfl hL (fun b_1 h_1 hb_1 hf_1 hL_1 => ?_)
  refine pop.mk' (v := (Value.agg #[(Sl.v code0_1), (VI 0), (Value.int .u64 0)])) (fun w => by kernel_rfl) ?_
  refine eop_box 86 (Value.agg #[(Sl.v code0_1), (VI 0), (Value.int .u64 0)]) rfl hL_1 (fun b_2 h_2 hb_2 hf_2 hL_2 => ?_)
  have H := H b_1 b_2 h_2 (Nat.le_trans (Fr.size (Fr.r (In []) _)) hb_1) (Nat.le_trans (Fr.size (Fr.no' (Fr.r (In []) _) hf_1)) hb_2) (Fr.no' (Fr.no' (Fr.r (In []) _) hf_1) hf_2) hL_2
  refine H.mono fun rv_1 h_3 H => ?_
  obtain ⟨x_1, x_2, x_3, t10_1, rfl, hL_3, H⟩ := H
  refine eop_alloc 32 zer32 rfl hL_3 (fun b_3 h_4 hb_3 hf_3 hL_4 => ?_)
  refine uop_loc siz32 hL_4 0 rfl 0 [(Sl.v t10_1)] rfl rfl rfl (Nat.le_of_ble_eq_true rfl) (L' := [(b_3, [(Sl.v t10_1)]), (b_2, [(Sl.v x_1), (VI x_2), (Value.int .u64 x_3)]), (b_1, [(Sl.v nilSl)])]) rfl (fun h_5 hf_4 hL_5 => ?_)
  refine rop_locA agg32 hL_5 0 rfl 0 (vs := [(Sl.v t10_1)]) rfl rfl ?_
  refine rop_locA agg32 hL_5 0 rfl 0 (vs := [(Sl.v t10_1)]) rfl rfl ?_
  have H := H b_3 h_5 (Nat.le_trans (Fr.size (Fr.r (In []) _)) hb_3) (Fr.new (Fr.no' (Fr.r (In []) _) hf_3) (Nat.le_trans (Fr.size (Fr.r (In []) _)) hb_3) hf_4) hL_5
  refine H.mono fun rv_2 h_6 H => ?_
  obtain ⟨x_4, x_5, x_6, t14_1, rfl, hL_6, H⟩ := H
  refine ⟨?_, ?_⟩
  ·exact still_locA agg32 hL_6 0 rfl 0 (vs := [(Sl.v t10_1)]) rfl rfl
  refine uop_loc siz32 hL_6 2 rfl 0 [(Sl.v t10_1)] rfl rfl rfl (Nat.le_of_ble_eq_true rfl) (L' := [(b_3, [(Sl.v t10_1)]), (b_2, [(Sl.v x_4), (VI x_5), (Value.int .u64 x_6)]), (b_1, [(Sl.v t10_1)])]) rfl (fun h_7 hf_5 hL_7 => ?_)
  refine rop_locA agg32 hL_7 2 rfl 0 (vs := [(Sl.v t10_1)]) rfl rfl ?_
  have H := H  h_7  (Fr.old (Fr.r (In []) _) hf_5) hL_7
  exact H
def u82 (P : Program) (g0_1 : Sl) (p1_1 : Int) (h : Heap) (K : Value → Heap → Prop) : Prop :=
  ∀ (b_1 : Nat) (h_1 : Heap), h.size ≤ b_1 → Fr (In []) h h_1 → Vars h_1 [(b_1, [(Sl.v g0_1)])] →
  ∃ J_1 : Nat → Int → Heap → Prop, (∃ n0 : Nat, J_1 n0 0 h_1) ∧
  ∀ (n_1 : Nat) (t9_1 : Int) (h_2 : Heap), J_1 n_1 t9_1 h_2 → Vars h_2 [(b_1, [(Sl.v g0_1)])] →
  ((decide (t9_1 < (g0_1.n : Int))) = true →
  callM P 66 #[(Value.agg #[(Sl.v g0_1)]), (VI t9_1)] h_2 fun rv_1 h_3 => ∃ t14_1 : Sl, rv_1 = (Sl.v t14_1) ∧ Vars h_3 [(b_1, [(Sl.v g0_1)])] ∧
  InB t14_1 p1_1 ∧
  ∃ t17_1 : Int, hcell h_3 (Sl.at t14_1 p1_1 1) = some (VI t17_1) ∧
  ((decide (t17_1 < 0)) = true →
  K (VB false) h_3) ∧
  ((decide (t17_1 < 0)) = false →
  ∃ m : Nat, m < n_1 ∧ J_1 m (w64 (t9_1 + 1)) h_3)) ∧
  ((decide (t9_1 < (g0_1.n : Int))) = false →
  K (VB true) h_2)
theorem v82 (g0_1 : Sl) (p1_1 : Int) (h : Heap) (K : Value → Heap → Prop) (H : u82 Try.prog g0_1 p1_1 h K) : callM Try.prog 82 #[(Value.agg #[(Sl.v g0_1)]), (VI p1_1)] h K := by
  refine c82 (Value.agg #[(Sl.v g0_1)]) (VI p1_1) h K ?_
  unfold u82 at H
  unfold t82
  have hL : Vars h [] := .nil
  refine eop_box 32 (Value.agg #[(Sl.v g0_1)]) rfl hL (fun b_1 h_1 hb_1 hf_1 hL_1 => ?_)
  refine pop_field 0 fld32_0 b_1 0 ?_
  refine rop_loc one22 hL_1 0 rfl 0 (v := (Sl.v g0_1)) rfl ?_
  refine pop_len g0_1 _ _ sli22 ?_
  have H := H b_1 h_1 (Nat.le_trans (Fr.size (Fr.r (In []) _)) hb_1) (Fr.no' (Fr.r (In []) _) hf_1) hL_1
  obtain ⟨J_1, ⟨n_2, h0_1⟩, HB_1⟩ := H
  refine loop_intro (J := fun (n : Nat) (vs : List Value) (h' : Heap) => ∃ t9_1 : Int, vs = [(VI t9_1)] ∧ J_1 n t9_1 h' ∧ Vars h' [(b_1, [(Sl.v g0_1)])]) n_2 ⟨0, rfl, h0_1, hL_1⟩ ?_
  intro I_1 mu_1 hI_1 junk_1 tv_1 h_2 hi_1
  obtain ⟨n_1, ⟨t9_1, hv, hJ_1, hL_2⟩, hn_1⟩ := hI_1 _ _ hi_1
  cases hv
  have H := HB_1 n_1 t9_1 h_2 hJ_1 hL_2
  refine pop_lss .i64 t9_1 (g0_1.n : Int) ?_
  refine condM_b (fun hb_2 => ?_) (fun hb_2 => ?_)
  rotate_left
  ·have H := H.2 hb_2
   exact H
  have H := H.1 hb_2
  refine rop_locA agg32 hL_2 0 rfl 0 (vs := [(Sl.v g0_1)]) rfl rfl ?_
  refine H.mono fun rv_1 h_3 H => ?_
  obtain ⟨t14_1, rfl, hL_3, H⟩ := H
  obtain ⟨hi_2, H⟩ := H
  refine pop_index sli27 siz3 .i64 t14_1 p1_1 hi_2 ?_
  obtain ⟨t17_1, hc_1, H⟩ := H
  refine rop_one one3 (VI t17_1) hc_1 ?_
  refine pop_lss .i64 t17_1 0 ?_
  refine condM_b (fun hb_3 => ?_) (fun hb_3 => ?_)
  ·have H := H.1 hb_3
   exact H
  have H := H.2 hb_3
  refine pop_add .i64 t9_1 1 ?_
  obtain ⟨m_1, hm_1, H⟩ := H
  exact hn_1 _ _ ⟨m_1, hm_1, (w64 (t9_1 + 1)), rfl, H, hL_3⟩
def u83 (P : Program) (g0_1 : Sl) (p1_1 : Int) (h : Heap) (K : Value → Heap → Prop) : Prop :=
  ∀ (b_1 : Nat) (h_1 : Heap), h.size ≤ b_1 → Fr (In []) h h_1 → Vars h_1 [(b_1, [(Sl.v g0_1)])] →
  ∃ J_1 : Nat → Int → Heap → Prop, (∃ n0 : Nat, J_1 n0 0 h_1) ∧
  ∀ (n_1 : Nat) (t9_1 : Int) (h_2 : Heap), J_1 n_1 t9_1 h_2 → Vars h_2 [(b_1, [(Sl.v g0_1)])] →
  ((decide (t9_1 < (g0_1.n : Int))) = true →
  callM P 68 #[(Value.agg #[(Sl.v g0_1)]), (VI t9_1)] h_2 fun rv_1 h_3 => ∃ t14_1 : Sl, rv_1 = (Sl.v t14_1) ∧ Vars h_3 [(b_1, [(Sl.v g0_1)])] ∧
  InB t14_1 p1_1 ∧
  ∃ t17_1 : Int, hcell h_3 (Sl.at t14_1 p1_1 1) = some (VI t17_1) ∧
  ((decide (t17_1 < 0)) = true →
  K (VB false) h_3) ∧
  ((decide (t17_1 < 0)) = false →
  ∃ m : Nat, m < n_1 ∧ J_1 m (w64 (t9_1 + 1)) h_3)) ∧
  ((decide (t9_1 < (g0_1.n : Int))) = false →
  K (VB true) h_2)
theorem v83 (g0_1 : Sl) (p1_1 : Int) (h : Heap) (K : Value → Heap → Prop) (H : u83 Try.prog g0_1 p1_1 h K) : callM Try.prog 83 #[(Value.agg #[(Sl.v g0_1)]), (VI p1_1)] h K := by
  refine c83 (Value.agg #[(Sl.v g0_1)]) (VI p1_1) h K ?_
  unfold u83 at H
  unfold t83
  have hL : Vars h [] := .nil
  refine eop_box 32 (Value.agg #[(Sl.v g0_1)]) rfl hL (fun b_1 h_1 hb_1 hf_1 hL_1 => ?_)
  refine pop_field 0 fld32_0 b_1 0 ?_
  refine rop_loc one22 hL_1 0 rfl 0 (v := (Sl.v g0_1)) rfl ?_
  refine pop_len g0_1 _ _ sli22 ?_
  have H := H b_1 h_1 (Nat.le_trans (Fr.size (Fr.r (In []) _)) hb_1) (Fr.no' (Fr.r (In []) _) hf_1) hL_1
  obtain ⟨J_1, ⟨n_2, h0_1⟩, HB_1⟩ := H
  refine loop_intro (J := fun (n : Nat) (vs : List Value) (h' : Heap) => ∃ t9_1 : Int, vs = [(VI t9_1)] ∧ J_1 n t9_1 h' ∧ Vars h' [(b_1, [(Sl.v g0_1)])]) n_2 ⟨0, rfl, h0_1, hL_1⟩ ?_
  intro I_1 mu_1 hI_1 junk_1 tv_1 h_2 hi_1
  obtain ⟨n_1, ⟨t9_1, hv, hJ_1, hL_2⟩, hn_1⟩ := hI_1 _ _ hi_1
  cases hv
  have H := HB_1 n_1 t9_1 h_2 hJ_1 hL_2
  refine pop_lss .i64 t9_1 (g0_1.n : Int) ?_
  refine condM_b (fun hb_2 => ?_) (fun hb_2 => ?_)
  rotate_left
  ·have H := H.2 hb_2
   exact H
  have H := H.1 hb_2
  refine rop_locA agg32 hL_2 0 rfl 0 (vs := [(Sl.v g0_1)]) rfl rfl ?_
  refine H.mono fun rv_1 h_3 H => ?_
  obtain ⟨t14_1, rfl, hL_3, H⟩ := H
  obtain ⟨hi_2, H⟩ := H
  refine pop_index sli27 siz3 .i64 t14_1 p1_1 hi_2 ?_
  obtain ⟨t17_1, hc_1, H⟩ := H
  refine rop_one one3 (VI t17_1) hc_1 ?_
  refine pop_lss .i64 t17_1 0 ?_
  refine condM_b (fun hb_3 => ?_) (fun hb_3 => ?_)
  ·have H := H.1 hb_3
   exact H
  have H := H.2 hb_3
  refine pop_add .i64 t9_1 1 ?_
  obtain ⟨m_1, hm_1, H⟩ := H
  exact hn_1 _ _ ⟨m_1, hm_1, (w64 (t9_1 + 1)), rfl, H, hL_3⟩
def u96 (P : Program) (l0_1 : Sl) (lo1_1 : Int) (hi2_1 : Int) (h : Heap) (K : Value → Heap → Prop) : Prop :=
  ∃ J_1 : Nat → Int → Heap → Prop, (∃ n0 : Nat, J_1 n0 0 h) ∧
  ∀ (n_1 : Nat) (t11_1 : Int) (h_1 : Heap), J_1 n_1 t11_1 h_1 → Vars h_1 [] →
  ((decide (t11_1 < (l0_1.n : Int))) = true →
  InB l0_1 t11_1 ∧
  ∃ t14_1 : Int, hcell h_1 (Sl.at l0_1 t11_1 1) = some (VI t14_1) ∧
  callM P 113 #[(VI t14_1), (VI lo1_1), (VI hi2_1)] h_1 fun rv_1 h_2 => ∃ t18_1 : Bool, rv_1 = (VB t18_1) ∧ Vars h_2 [] ∧
  ((!t18_1) = true →
  K (VB false) h_2) ∧
  ((!t18_1) = false →
  ∃ m : Nat, m < n_1 ∧ J_1 m (w64 (t11_1 + 1)) h_2)) ∧
  ((decide (t11_1 < (l0_1.n : Int))) = false →
  K (VB true) h_1)
theorem v96 (l0_1 : Sl) (lo1_1 : Int) (hi2_1 : Int) (h : Heap) (K : Value → Heap → Prop) (H : u96 Try.prog l0_1 lo1_1 hi2_1 h K) : callM Try.prog 96 #[(Sl.v l0_1), (VI lo1_1), (VI hi2_1)] h K := by
  refine c96 (Sl.v l0_1) (VI lo1_1) (VI hi2_1) h K ?_
  unfold u96 at H
  unfold t96
  have hL : Vars h [] := .nil
  refine pop_len l0_1 _ _ sli27 ?_
  obtain ⟨J_1, ⟨n_2, h0_1⟩, HB_1⟩ := H
  refine loop_intro (J := fun (n : Nat) (vs : List Value) (h' : Heap) => ∃ t11_1 : Int, vs = [(VI t11_1)] ∧ J_1 n t11_1 h' ∧ Vars h' []) n_2 ⟨0, rfl, h0_1, hL⟩ ?_
  intro I_1 mu_1 hI_1 junk_1 tv_1 h_1 hi_1
  obtain ⟨n_1, ⟨t11_1, hv, hJ_1, hL_1⟩, hn_1⟩ := hI_1 _ _ hi_1
  cases hv
  have H := HB_1 n_1 t11_1 h_1 hJ_1 hL_1
  refine pop_lss .i64 t11_1 (l0_1.n : Int) ?_
  refine condM_b (fun hb_1 => ?_) (fun hb_1 => ?_)
  rotate_left
  ·have H := H.2 hb_1
   exact H
  have H := H.1 hb_1
  obtain ⟨hi_2, H⟩ := H
  refine pop_index sli27 siz3 .i64 l0_1 t11_1 hi_2 ?_
  obtain ⟨t14_1, hc_1, H⟩ := H
  refine rop_one one3 (VI t14_1) hc_1 ?_
  refine H.mono fun rv_1 h_2 H => ?_
  obtain ⟨t18_1, rfl, hL_2, H⟩ := H
  refine pop_not t18_1 ?_
  refine condM_b (fun hb_2 => ?_) (fun hb_2 => ?_)
  ·have H := H.1 hb_2
   exact H
  have H := H.2 hb_2
  refine pop_add .i64 t11_1 1 ?_
  obtain ⟨m_1, hm_1, H⟩ := H
  exact hn_1 _ _ ⟨m_1, hm_1, (w64 (t11_1 + 1)), rfl, H, hL_2⟩
def u102 (P : Program) (n0_1 : Int) (low1_1 : Int) (high2_1 : Int) (h : Heap) (K : Value → Heap → Prop) : Prop :=
  ((decide (low1_1 ≤ n0_1)) = true →
  K (VB (decide (n0_1 ≤ high2_1))) h) ∧
  ((decide (low1_1 ≤ n0_1)) = false →
  K (VB false) h)
theorem v102 (n0_1 : Int) (low1_1 : Int) (high2_1 : Int) (h : Heap) (K : Value → Heap → Prop) (H : u102 Try.prog n0_1 low1_1 high2_1 h K) : callM Try.prog 102 #[(VI n0_1), (VI low1_1), (VI high2_1)] h K := by
  refine c102 (VI n0_1) (VI low1_1) (VI high2_1) h K ?_
  unfold u102 at H
  unfold t102
  have hL : Vars h [] := .nil
  refine pop_leq .i64 low1_1 n0_1 ?_
  refine guardM_st (fun hb_1 => ?_) (fun hb_1 => ?_)
  rotate_left
  ·have H := H.2 hb_1
   refine guardM_n' hb_1 (by decide) ?_
   refine guardM_n' hb_1 (by decide) ?_
   refine pop_pickf' hb_1 ?_
   exact H
  have H := H.1 hb_1
  refine guardM_y' hb_1 ?_
  refine guardM_y' hb_1 ?_
  refine pop_leq .i64 n0_1 high2_1 ?_
  refine pop_pickt' hb_1 ?_
  exact H
def u103 (P : Program) (s0_1 : Sl) (f1_1 : Value) (h : Heap) (K : Value → Heap → Prop) : Prop :=
  callM P 121 #[(Sl.v s0_1), f1_1] h fun rv_1 h_1 => ∃ t7_1 : Int, rv_1 = (VI t7_1) ∧ Vars h_1 [] ∧
  K (VB (decide (0 ≤ t7_1))) h_1
theorem v103 (s0_1 : Sl) (f1_1 : Value) (h : Heap) (K : Value → Heap → Prop) (H : u103 Try.prog s0_1 f1_1 h K) : callM Try.prog 103 #[(Sl.v s0_1), f1_1] h K := by
  refine c103 (Sl.v s0_1) f1_1 h K ?_
  unfold u103 at H
  unfold t103
  have hL : Vars h [] := .nil
  refine H.mono fun rv_1 h_1 H => ?_
  obtain ⟨t7_1, rfl, hL_1, H⟩ := H
  refine pop_geq .i64 t7_1 0 ?_
  exact H
def u104 (P : Program) (q0_1 : Int) (b_1 : Nat) (t1_1 : Int) (h : Heap) (K : Value → Heap → Prop) : Prop :=
  callM P 102 #[(VI q0_1), (VI 0), (VI (w64 (t1_1 - 1)))] h fun rv_1 h_1 => ∃ t7_1 : Bool, rv_1 = (VB t7_1) ∧ Vars h_1 [(b_1, [(VI t1_1)])] ∧
  K (VB (!t7_1)) h_1
theorem v104 (q0_1 : Int) (b_1 : Nat) (t1_1 : Int) (h : Heap) (K : Value → Heap → Prop) (hL : Vars h [(b_1, [(VI t1_1)])]) (H : u104 Try.prog q0_1 b_1 t1_1 h K) : callM Try.prog 104 #[(VI q0_1), (VP b_1 0)] h K := by
  refine c104 (VI q0_1) (VP b_1 0) h K ?_
  unfold u104 at H
  unfold t104
  refine rop_loc one3 hL 0 rfl 0 (v := (VI t1_1)) rfl ?_
  refine pop_sub .i64 t1_1 1 ?_
  refine H.mono fun rv_1 h_1 H => ?_
  obtain ⟨t7_1, rfl, hL_1, H⟩ := H
  refine pop_not t7_1 ?_
  exact H
def u105 (P : Program) (seq0_1 : Value) (h : Heap) (K : Value → Heap → Prop) : Prop :=
  callM P 122 #[seq0_1] h fun rv_1 h_1 => ∃ t5_1 : Sl, rv_1 = (Sl.v t5_1) ∧ Vars h_1 [] ∧
  callM P 123 #[(Sl.v t5_1)] h_1 fun rv_2 h_2 => Vars h_2 [] ∧
  K (Sl.v t5_1) h_2
theorem v105 (seq0_1 : Value) (h : Heap) (K : Value → Heap → Prop) (H : u105 Try.prog seq0_1 h K) : callM Try.prog 105 #[seq0_1] h K := by
  refine c105 seq0_1 h K ?_
  unfold u105 at H
  unfold t105
  have hL : Vars h [] := .nil
  refine H.mono fun rv_1 h_1 H => ?_
  obtain ⟨t5_1, rfl, hL_1, H⟩ := H
  refine H.mono fun rv_2 h_2 H => ?_
  obtain ⟨hL_2, H⟩ := H
  exact H
def u106 (P : Program) (s0_1 : Sl) (h : Heap) (K : Value → Heap → Prop) : Prop :=
  ∀ (b_1 : Nat) (h_1 : Heap), h.size ≤ b_1 → Fr (In []) h h_1 → Vars h_1 [(b_1, [(Sl.v s0_1)])] →
  K (Value.func (Fn.func 124) #[] #[(VP b_1 0)]) h_1
theorem v106 (s0_1 : Sl) (h : Heap) (K : Value → Heap → Prop) (H : u106 Try.prog s0_1 h K) : callM Try.prog 106 #[(Sl.v s0_1)] h K := by
  refine c106 (Sl.v s0_1) h K ?_
  unfold u106 at H
  unfold t106
  have hL : Vars h [] := .nil
  refine eop_box 27 (Sl.v s0_1) rfl hL (fun b_1 h_1 hb_1 hf_1 hL_1 => ?_)
  refine pop_func _ _ _ ?_
  have H := H b_1 h_1 (Nat.le_trans (Fr.size (Fr.r (In []) _)) hb_1) (Fr.no' (Fr.r (In []) _) hf_1) hL_1
  exact H
def u109 (P : Program) (b_1 : Nat) (c0_1 : Sl) (c0_2 : Int) (c0_3 : Int) (most1_1 : Int) (h : Heap) (K : Value → Heap → Prop) : Prop :=
  ∀ (b_2 : Nat) (h_1 : Heap), h.size ≤ b_2 → Fr (In []) h h_1 → Vars h_1 [(b_2, [(Sl.v nilSl)]), (b_1, [(Sl.v c0_1), (VI c0_2), (Value.int .u64 c0_3)])] →
  callM P 110 #[(VP b_1 0), (VI most1_1)] h_1 fun rv_1 h_2 => ∃ x_1 : Sl, ∃ x_2 : Int, ∃ x_3 : Int, ∃ t13_1 : Int, rv_1 = (VI t13_1) ∧ Vars h_2 [(b_2, [(Sl.v nilSl)]), (b_1, [(Sl.v x_1), (VI x_2), (Value.int .u64 x_3)])] ∧
  callM P 78 #[(VP b_1 0), (VI 4)] h_2 fun rv_2 h_3 => ∃ x_4 : Sl, ∃ x_5 : Int, ∃ x_6 : Int, ∃ t16_1 : Bool, rv_2 = (VB t16_1) ∧ Vars h_3 [(b_2, [(Sl.v nilSl)]), (b_1, [(Sl.v x_4), (VI x_5), (Value.int .u64 x_6)])] ∧
  (t16_1 = true →
  callM P 78 #[(VP b_1 0), (VI 2)] h_3 fun rv_3 h_4 => ∃ x_7 : Sl, ∃ x_8 : Int, ∃ x_9 : Int, ∃ t19_1 : Bool, rv_3 = (VB t19_1) ∧ Vars h_4 [(b_2, [(Sl.v nilSl)]), (b_1, [(Sl.v x_7), (VI x_8), (Value.int .u64 x_9)])] ∧
  callM P 130 #[(VI (w64 (1 + t13_1))), (VB t19_1)] h_4 fun rv_4 h_5 => ∃ t20_1 : Sl, rv_4 = (Value.agg #[(Sl.v t20_1)]) ∧ Vars h_5 [(b_2, [(Sl.v nilSl)]), (b_1, [(Sl.v x_7), (VI x_8), (Value.int .u64 x_9)])] ∧
  ∀ (h_6 : Heap), Fr (In [b_2]) h_5 h_6 → Vars h_6 [(b_2, [(Sl.v t20_1)]), (b_1, [(Sl.v x_7), (VI x_8), (Value.int .u64 x_9)])] →
  K (Value.agg #[(Sl.v t20_1)]) h_6) ∧
  (t16_1 = false →
  ∀ (b_3 : Nat) (h_8 : Heap), h_3.size ≤ b_3 → Fr (In []) h_3 h_8 → Vars h_8 [(b_3, [(Sl.v nilSl)]), (b_2, [(Sl.v nilSl)]), (b_1, [(Sl.v x_4), (VI x_5), (Value.int .u64 x_6)])] →
  ∃ J_1 : Nat → Int → Sl → Sl → Int → Int → Heap → Prop, (∃ n0 : Nat, J_1 n0 0 nilSl x_4 x_5 x_6 h_8) ∧
  ∀ (n_1 : Nat) (p7_1 : Int) (x_10 : Sl) (x_11 : Sl) (x_12 : Int) (x_13 : Int) (h_9 : Heap), J_1 n_1 p7_1 x_10 x_11 x_12 x_13 h_9 → Vars h_9 [(b_3, [(Sl.v x_10)]), (b_2, [(Sl.v nilSl)]), (b_1, [(Sl.v x_11), (VI x_12), (Value.int .u64 x_13)])] →
  ((decide (p7_1 < (w64 (1 + t13_1)))) = true →
  callM P 110 #[(VP b_1 0), (VI 3)] h_9 fun rv_5 h_10 => ∃ x_14 : Sl, ∃ x_15 : Int, ∃ x_16 : Int, ∃ t28_1 : Int, rv_5 = (VI t28_1) ∧ Vars h_10 [(b_3, [(Sl.v x_10)]), (b_2, [(Sl.v nilSl)]), (b_1, [(Sl.v x_14), (VI x_15), (Value.int .u64 x_16)])] ∧
  ∃ J_2 : Nat → Sl → Int → Sl → Int → Int → Heap → Prop, (∃ n0 : Nat, J_2 n0 nilSl (w64 (1 + t28_1)) x_14 x_15 x_16 h_10) ∧
  ∀ (n_2 : Nat) (list8_1 : Sl) (k9_1 : Int) (x_17 : Sl) (x_18 : Int) (x_19 : Int) (h_11 : Heap), J_2 n_2 list8_1 k9_1 x_17 x_18 x_19 h_11 → Vars h_11 [(b_3, [(Sl.v x_10)]), (b_2, [(Sl.v nilSl)]), (b_1, [(Sl.v x_17), (VI x_18), (Value.int .u64 x_19)])] →
  ((decide (0 < k9_1)) = true →
  callM P 110 #[(VP b_1 0), (VI (w64 (1 + t13_1)))] h_11 fun rv_6 h_12 => ∃ x_20 : Sl, ∃ x_21 : Int, ∃ x_22 : Int, ∃ t37_1 : Int, rv_6 = (VI t37_1) ∧ Vars h_12 [(b_3, [(Sl.v x_10)]), (b_2, [(Sl.v nilSl)]), (b_1, [(Sl.v x_20), (VI x_21), (Value.int .u64 x_22)])] ∧
  eop P (Instr.buildSlice 27 1 #[(0, (VI t37_1))]) h_12 fun rv_7 h_13 => ∃ t38_1 : Sl, rv_7 = (Sl.v t38_1) ∧ Vars h_13 [(b_3, [(Sl.v x_10)]), (b_2, [(Sl.v nilSl)]), (b_1, [(Sl.v x_20), (VI x_21), (Value.int .u64 x_22)])] ∧
  eop P (appS 27 27 27 (Sl.v list8_1) (Sl.v t38_1)) h_13 fun rv_8 h_14 => ∃ t39_1 : Sl, rv_8 = (Sl.v t39_1) ∧ Vars h_14 [(b_3, [(Sl.v x_10)]), (b_2, [(Sl.v nilSl)]), (b_1, [(Sl.v x_20), (VI x_21), (Value.int .u64 x_22)])] ∧
  ∃ m : Nat, m < n_2 ∧ J_2 m t39_1 (w64 (k9_1 - 1)) x_20 x_21 x_22 h_14) ∧
  ((decide (0 < k9_1)) = false →
  ∃ J_3 : Sl → Sl → Int → Int → Heap → Prop, (callM P 78 #[(VP b_1 0), (VI 8)] h_11 fun rv_9 h_15 => ∃ x_27 : Sl, ∃ x_28 : Int, ∃ x_29 : Int, ∃ t41_1 : Bool, rv_9 = (VB t41_1) ∧ Vars h_15 [(b_3, [(Sl.v x_10)]), (b_2, [(Sl.v nilSl)]), (b_1, [(Sl.v x_27), (VI x_28), (Value.int .u64 x_29)])] ∧
  (t41_1 = true →
  J_3 nilSl x_27 x_28 x_29 h_15) ∧
  (t41_1 = false →
  J_3 list8_1 x_27 x_28 x_29 h_15)) ∧
  ∀ (x_23 : Sl) (x_24 : Sl) (x_25 : Int) (x_26 : Int) (h_16 : Heap), J_3 x_23 x_24 x_25 x_26 h_16 → Vars h_16 [(b_3, [(Sl.v x_10)]), (b_2, [(Sl.v nilSl)]), (b_1, [(Sl.v x_24), (VI x_25), (Value.int .u64 x_26)])] →
  eop P (Instr.buildSlice 22 1 #[(0, (Sl.v x_23))]) h_16 fun rv_10 h_17 => ∃ t45_1 : Sl, rv_10 = (Sl.v t45_1) ∧ Vars h_17 [(b_3, [(Sl.v x_10)]), (b_2, [(Sl.v nilSl)]), (b_1, [(Sl.v x_24), (VI x_25), (Value.int .u64 x_26)])] ∧
  eop P (appS 22 22 22 (Sl.v x_10) (Sl.v t45_1)) h_17 fun rv_11 h_18 => ∃ t46_1 : Sl, rv_11 = (Sl.v t46_1) ∧ Vars h_18 [(b_3, [(Sl.v x_10)]), (b_2, [(Sl.v nilSl)]), (b_1, [(Sl.v x_24), (VI x_25), (Value.int .u64 x_26)])] ∧
  ∀ (h_19 : Heap), Fr (In [b_3]) h_18 h_19 → Vars h_19 [(b_3, [(Sl.v t46_1)]), (b_2, [(Sl.v nilSl)]), (b_1, [(Sl.v x_24), (VI x_25), (Value.int .u64 x_26)])] →
  ∃ m : Nat, m < n_1 ∧ J_1 m (w64 (p7_1 + 1)) t46_1 x_24 x_25 x_26 h_19)) ∧
  ((decide (p7_1 < (w64 (1 + t13_1)))) = false →
  callM P 78 #[(VP b_1 0), (VI 2)] h_9 fun rv_12 h_20 => ∃ x_30 : Sl, ∃ x_31 : Int, ∃ x_32 : Int, ∃ t49_1 : Bool, rv_12 = (VB t49_1) ∧ Vars h_20 [(b_3, [(Sl.v x_10)]), (b_2, [(Sl.v nilSl)]), (b_1, [(Sl.v x_30), (VI x_31), (Value.int .u64 x_32)])] ∧
  (t49_1 = true →
  ∃ J_4 : Nat → Int → Heap → Prop, (∃ n0 : Nat, J_4 n0 0 h_20) ∧
  ∀ (n_4 : Nat) (t53_1 : Int) (h_21 : Heap), J_4 n_4 t53_1 h_21 → Vars h_21 [(b_3, [(Sl.v x_10)]), (b_2, [(Sl.v nilSl)]), (b_1, [(Sl.v x_30), (VI x_31), (Value.int .u64 x_32)])] →
  ((decide (t53_1 < (x_10.n : Int))) = true →
  InB x_10 t53_1 ∧
  ∃ t63_1 : Sl, hcell h_21 (Sl.at x_10 t53_1 1) = some (Sl.v t63_1) ∧
  (w64 (1 + t13_1)) ≠ 0 ∧
  eop P (Instr.buildSlice 27 1 #[(0, (VI (Int.tmod (w64 (t53_1 + 1)) (w64 (1 + t13_1)))))]) h_21 fun rv_13 h_22 => ∃ t68_1 : Sl, rv_13 = (Sl.v t68_1) ∧ Vars h_22 [(b_3, [(Sl.v x_10)]), (b_2, [(Sl.v nilSl)]), (b_1, [(Sl.v x_30), (VI x_31), (Value.int .u64 x_32)])] ∧
  hcell h_22 (Sl.at x_10 t53_1 1) = some (Sl.v t63_1) ∧
  eop P (appS 27 27 27 (Sl.v t63_1) (Sl.v t68_1)) h_22 fun rv_14 h_23 => ∃ t69_1 : Sl, rv_14 = (Sl.v t69_1) ∧ Vars h_23 [(b_3, [(Sl.v x_10)]), (b_2, [(Sl.v nilSl)]), (b_1, [(Sl.v x_30), (VI x_31), (Value.int .u64 x_32)])] ∧
  InB x_10 t53_1 ∧
  Writable h_23 (Sl.at x_10 t53_1 1) ∧ Vars (hset h_23 (Sl.at x_10 t53_1 1) (Sl.v t69_1)) [(b_3, [(Sl.v x_10)]), (b_2, [(Sl.v nilSl)]), (b_1, [(Sl.v x_30), (VI x_31), (Value.int .u64 x_32)])] ∧
  ∀ h_24 : Heap, h_24 = hset h_23 (Sl.at x_10 t53_1 1) (Sl.v t69_1) → Vars h_24 [(b_3, [(Sl.v x_10)]), (b_2, [(Sl.v nilSl)]), (b_1, [(Sl.v x_30), (VI x_31), (Value.int .u64 x_32)])] →
  ∃ m : Nat, m < n_4 ∧ J_4 m (w64 (t53_1 + 1)) h_24) ∧
  ((decide (t53_1 < (x_10.n : Int))) = false →
  ∀ (h_25 : Heap), Fr (In [b_2]) h_21 h_25 → Vars h_25 [(b_3, [(Sl.v x_10)]), (b_2, [(Sl.v x_10)]), (b_1, [(Sl.v x_30), (VI x_31), (Value.int .u64 x_32)])] →
  K (Value.agg #[(Sl.v x_10)]) h_25)) ∧
  (t49_1 = false →
  ∀ (h_26 : Heap), Fr (In [b_2]) h_20 h_26 → Vars h_26 [(b_3, [(Sl.v x_10)]), (b_2, [(Sl.v x_10)]), (b_1, [(Sl.v x_30), (VI x_31), (Value.int .u64 x_32)])] →
  K (Value.agg #[(Sl.v x_10)]) h_26)))
theorem v109 (b_1 : Nat) (c0_1 : Sl) (c0_2 : Int) (c0_3 : Int) (most1_1 : Int) (h : Heap) (K : Value → Heap → Prop) (hL : Vars h [(b_1, [(Sl.v c0_1), (VI c0_2), (Value.int .u64 c0_3)])]) (H : u109 Try.prog b_1 c0_1 c0_2 c0_3 most1_1 h K) : callM Try.prog 109 #[(VP b_1 0), (VI most1_1)] h K := by
  refine c109 (VP b_1 0) (VI most1_1) h K ?_
  unfold u109 at H
  unfold t109
  refine eop_alloc 32 zer32 rfl hL (fun b_2 h_1 hb_1 hf_1 hL_1 => ?_)
  have H := H b_2 h_1 (Nat.le_trans (Fr.size (Fr.r (In []) _)) hb_1) (Fr.no' (Fr.r (In []) _) hf_1) hL_1
  refine H.mono fun rv_1 h_2 H => ?_
  obtain ⟨x_1, x_2, x_3, t13_1, rfl, hL_2, H⟩ := H
  refine pop_add .i64 1 t13_1 ?_
  refine H.mono fun rv_2 h_3 H => ?_
  obtain ⟨x_4, x_5, x_6, t16_1, rfl, hL_3, H⟩ := H
  refine condM_b (fun hb_2 => ?_) (fun hb_2 => ?_)
  ·have H := H.1 hb_2
   refine H.mono fun rv_3 h_4 H => ?_
   obtain ⟨x_7, x_8, x_9, t19_1, rfl, hL_4, H⟩ := H
   refine H.mono fun rv_4 h_5 H => ?_
   obtain ⟨t20_1, rfl, hL_5, H⟩ := H
   refine uop_loc siz32 hL_5 0 rfl 0 [(Sl.v t20_1)] rfl rfl rfl (Nat.le_of_ble_eq_true rfl) (L' := [(b_2, [(Sl.v t20_1)]), (b_1, [(Sl.v x_7), (VI x_8), (Value.int .u64 x_9)])]) rfl (fun h_6 hf_2 hL_6 => ?_)
   refine rop_locA agg32 hL_6 0 rfl 0 (vs := [(Sl.v t20_1)]) rfl rfl ?_
   have H := H  h_6  (Fr.old (Fr.r (In []) _) hf_2) hL_6
   exact H
  have H := H.2 hb_2
  refine pop.mk' (v := (Value.agg #[(Sl.v nilSl)])) (fun w => by kernel_rfl) ?_
  refine eop_alloc 32 zer32 rfl hL_3 (fun b_3 h_7 hb_3 hf_3 hL_7 => ?_)
  refine uop_loc siz32 hL_7 0 rfl 0 [(Sl.v nilSl)] rfl rfl rfl (Nat.le_of_ble_eq_true rfl) (L' := [(b_3, [(Sl.v nilSl)]), (b_2, [(Sl.v nilSl)]), (b_1, [(Sl.v x_4), (VI x_5), (Value.int .u64 x_6)])]) rfl (fun h_8 hf_4 hL_8 => ?_)
  have H := H b_3 h_8 (Nat.le_trans (Fr.size (Fr.r (In []) _)) hb_3) (Fr.new (Fr.no' (Fr.r (In []) _) hf_3) (Nat.le_trans (Fr.size (Fr.r (In []) _)) hb_3) hf_4) hL_8
  obtain ⟨J_1, ⟨n_6, h0_3⟩, HB_4⟩ := H
  refine loop_intro (J := fun (n : Nat) (vs : List Value) (h' : Heap) => ∃ p7_1 : Int, ∃ x_10 : Sl, ∃ x_11 : Sl, ∃ x_12 : Int, ∃ x_13 : Int, vs = [(VI p7_1)] ∧ J_1 n p7_1 x_10 x_11 x_12 x_13 h' ∧ Vars h' [(b_3, [(Sl.v x_10)]), (b_2, [(Sl.v nilSl)]), (b_1, [(Sl.v x_11), (VI x_12), (Value.int .u64 x_13)])]) n_6 ⟨0, nilSl, x_4, x_5, x_6, rfl, h0_3, hL_8⟩ ?_
  intro I_3 mu_3 hI_3 junk_1 tv_5 h_9 hi_1
  obtain ⟨n_1, ⟨p7_1, x_10, x_11, x_12, x_13, hv, hJ_1, hL_9⟩, hn_1⟩ := hI_3 _ _ hi_1
  cases hv
  have H := HB_4 n_1 p7_1 x_10 x_11 x_12 x_13 h_9 hJ_1 hL_9
  refine pop_lss .i64 p7_1 (w64 (1 + t13_1)) ?_
  refine condM_b (fun hb_4 => ?_) (fun hb_4 => ?_)
  ·have H := H.1 hb_4
   refine H.mono fun rv_5 h_10 H => ?_
   obtain ⟨x_14, x_15, x_16, t28_1, rfl, hL_10, H⟩ := H
   refine pop_add .i64 1 t28_1 ?_
   obtain ⟨J_2, ⟨n_3, h0_1⟩, HB_2⟩ := H
   refine loop_intro (J := fun (n : Nat) (vs : List Value) (h' : Heap) => ∃ list8_1 : Sl, ∃ k9_1 : Int, ∃ x_17 : Sl, ∃ x_18 : Int, ∃ x_19 : Int, vs = [(Sl.v list8_1), (VI k9_1)] ∧ J_2 n list8_1 k9_1 x_17 x_18 x_19 h' ∧ Vars h' [(b_3, [(Sl.v x_10)]), (b_2, [(Sl.v nilSl)]), (b_1, [(Sl.v x_17), (VI x_18), (Value.int .u64 x_19)])]) n_3 ⟨nilSl, (w64 (1 + t28_1)), x_14, x_15, x_16, rfl, h0_1, hL_10⟩ ?_
   intro I_1 mu_1 hI_1 junk_2 tv_2 tv_3 h_11 hi_2
   obtain ⟨n_2, ⟨list8_1, k9_1, x_17, x_18, x_19, hv, hJ_2, hL_11⟩, hn_2⟩ := hI_1 _ _ hi_2
   cases hv
   have H := HB_2 n_2 list8_1 k9_1 x_17 x_18 x_19 h_11 hJ_2 hL_11
   refine pop_gtr .i64 k9_1 0 ?_
   refine condM_b (fun hb_5 => ?_) (fun hb_5 => ?_)
   ·have H := H.1 hb_5
    refine H.mono fun rv_6 h_12 H => ?_
    obtain ⟨x_20, x_21, x_22, t37_1, rfl, hL_12, H⟩ := H
    refine H.mono fun rv_7 h_13 H => ?_
    obtain ⟨t38_1, rfl, hL_13, H⟩ := H
    refine H.mono fun rv_8 h_14 H => ?_
    obtain ⟨t39_1, rfl, hL_14, H⟩ := H
    refine pop_sub .i64 k9_1 1 ?_
    obtain ⟨m_1, hm_1, H⟩ := H
    exact hn_2 _ _ ⟨m_1, hm_1, t39_1, (w64 (k9_1 - 1)), x_20, x_21, x_22, rfl, H, hL_14⟩
   have H := H.2 hb_5
   obtain ⟨J_3, H, HB_1⟩ := H
   refine ⟨fun (vs : List Value) (h' : Heap) => ∃ x_23 : Sl, ∃ x_24 : Sl, ∃ x_25 : Int, ∃ x_26 : Int, vs = [(Sl.v x_23)] ∧ J_3 x_23 x_24 x_25 x_26 h' ∧ Vars h' [(b_3, [(Sl.v x_10)]), (b_2, [(Sl.v nilSl)]), (b_1, [(Sl.v x_24), (VI x_25), (Value.int .u64 x_26)])], ?_, ?_⟩
   ·refine H.mono fun rv_9 h_15 H => ?_
    obtain ⟨x_27, x_28, x_29, t41_1, rfl, hL_15, H⟩ := H
    refine condM_b (fun hb_6 => ?_) (fun hb_6 => ?_)
    ·have H := H.1 hb_6
     exact ⟨nilSl, x_27, x_28, x_29, rfl, H, hL_15⟩
    have H := H.2 hb_6
    exact ⟨list8_1, x_27, x_28, x_29, rfl, H, hL_15⟩
   intro junk_3 tv_1 h_16
   rintro ⟨x_23, x_24, x_25, x_26, hv, hJ_3, hL_16⟩
   cases hv
   have H := HB_1 x_23 x_24 x_25 x_26 h_16 hJ_3 hL_16
   refine pop_field 0 fld32_0 b_3 0 ?_
   refine rop_loc one22 hL_16 0 rfl 0 (v := (Sl.v x_10)) rfl ?_
   refine H.mono fun rv_10 h_17 H => ?_
   obtain ⟨t45_1, rfl, hL_17, H⟩ := H
   refine H.mono fun rv_11 h_18 H => ?_
   obtain ⟨t46_1, rfl, hL_18, H⟩ := H
   refine pop_field 0 fld32_0 b_3 0 ?_
   refine uop_loc siz22 hL_18 0 rfl 0 [(Sl.v t46_1)] rfl rfl rfl (Nat.le_of_ble_eq_true rfl) (L' := [(b_3, [(Sl.v t46_1)]), (b_2, [(Sl.v nilSl)]), (b_1, [(Sl.v x_24), (VI x_25), (Value.int .u64 x_26)])]) rfl (fun h_19 hf_5 hL_19 => ?_)
   refine pop_add .i64 p7_1 1 ?_
   have H := H  h_19  (Fr.old (Fr.r (In []) _) hf_5) hL_19
   obtain ⟨m_2, hm_2, H⟩ := H
   exact hn_1 _ _ ⟨m_2, hm_2, (w64 (p7_1 + 1)), t46_1, x_24, x_25, x_26, rfl, H, hL_19⟩
  have H := H.2 hb_4
  refine H.mono fun rv_12 h_20 H => ?_
  obtain ⟨x_30, x_31, x_32, t49_1, rfl, hL_20, H⟩ := H
  refine condM_b (fun hb_7 => ?_) (fun hb_7 => ?_)
  rotate_left
  ·have H := H.2 hb_7
   refine rop_locA agg32 hL_20 0 rfl 0 (vs := [(Sl.v x_10)]) rfl rfl ?_
   refine uop_loc siz32 hL_20 1 rfl 0 [(Sl.v x_10)] rfl rfl rfl (Nat.le_of_ble_eq_true rfl) (L' := [(b_3, [(Sl.v x_10)]), (b_2, [(Sl.v x_10)]), (b_1, [(Sl.v x_30), (VI x_31), (Value.int .u64 x_32)])]) rfl (fun h_26 hf_7 hL_26 => ?_)
   refine rop_locA agg32 hL_26 1 rfl 0 (vs := [(Sl.v x_10)]) rfl rfl ?_
   have H := H  h_26  (Fr.old (Fr.r (In []) _) hf_7) hL_26
   exact H
  have H := H.1 hb_7
  refine pop_field 0 fld32_0 b_3 0 ?_
  refine rop_loc one22 hL_20 0 rfl 0 (v := (Sl.v x_10)) rfl ?_
  refine pop_len x_10 _ _ sli22 ?_
  obtain ⟨J_4, ⟨n_5, h0_2⟩, HB_3⟩ := H
  refine loop_intro (J := fun (n : Nat) (vs : List Value) (h' : Heap) => ∃ t53_1 : Int, vs = [(VI t53_1)] ∧ J_4 n t53_1 h' ∧ Vars h' [(b_3, [(Sl.v x_10)]), (b_2, [(Sl.v nilSl)]), (b_1, [(Sl.v x_30), (VI x_31), (Value.int .u64 x_32)])]) n_5 ⟨0, rfl, h0_2, hL_20⟩ ?_
  intro I_2 mu_2 hI_2 junk_4 tv_4 h_21 hi_3
  obtain ⟨n_4, ⟨t53_1, hv, hJ_4, hL_21⟩, hn_3⟩ := hI_2 _ _ hi_3
  cases hv
  have H := HB_3 n_4 t53_1 h_21 hJ_4 hL_21
  refine pop_lss .i64 t53_1 (x_10.n : Int) ?_
  refine condM_b (fun hb_8 => ?_) (fun hb_8 => ?_)
  rotate_left
  ·have H := H.2 hb_8
   refine rop_locA agg32 hL_21 0 rfl 0 (vs := [(Sl.v x_10)]) rfl rfl ?_
   refine uop_loc siz32 hL_21 1 rfl 0 [(Sl.v x_10)] rfl rfl rfl (Nat.le_of_ble_eq_true rfl) (L' := [(b_3, [(Sl.v x_10)]), (b_2, [(Sl.v x_10)]), (b_1, [(Sl.v x_30), (VI x_31), (Value.int .u64 x_32)])]) rfl (fun h_25 hf_6 hL_25 => ?_)
   refine rop_locA agg32 hL_25 1 rfl 0 (vs := [(Sl.v x_10)]) rfl rfl ?_
   have H := H  h_25  (Fr.old (Fr.r (In []) _) hf_6) hL_25
   exact H
  have H := H.1 hb_8
  refine pop_field 0 fld32_0 b_3 0 ?_
  refine rop_loc one22 hL_21 0 rfl 0 (v := (Sl.v x_10)) rfl ?_
  refine pop_field 0 fld32_0 b_3 0 ?_
  refine rop_loc one22 hL_21 0 rfl 0 (v := (Sl.v x_10)) rfl ?_
  obtain ⟨hi_4, H⟩ := H
  refine pop_index sli22 siz27 .i64 x_10 t53_1 hi_4 ?_
  obtain ⟨t63_1, hc_2, H⟩ := H
  refine rop_one one27 (Sl.v t63_1) hc_2 ?_
  refine pop_add .i64 t53_1 1 ?_
  obtain ⟨hz_1, H⟩ := H
  refine pop_rem .i64 (w64 (t53_1 + 1)) (w64 (1 + t13_1)) hz_1 ?_
  refine H.mono fun rv_13 h_22 H => ?_
  obtain ⟨t68_1, rfl, hL_22, H⟩ := H
  refine ⟨?_, ?_⟩
  ·exact still_one one27 H.1
  obtain ⟨hc_1, H⟩ := H
  refine ⟨?_, ?_⟩
  ·exact still_loc one22 hL_22 0 rfl 0 (v := (Sl.v x_10)) rfl
  refine ⟨?_, ?_⟩
  ·exact still_loc one22 hL_22 0 rfl 0 (v := (Sl.v x_10)) rfl
  refine H.mono fun rv_14 h_23 H => ?_
  obtain ⟨t69_1, rfl, hL_23, H⟩ := H
  refine ⟨?_, ?_⟩
  ·exact still_loc one22 hL_23 0 rfl 0 (v := (Sl.v x_10)) rfl
  refine ⟨?_, ?_⟩
  ·exact still_loc one22 hL_23 0 rfl 0 (v := (Sl.v x_10)) rfl
  obtain ⟨hi_5, H⟩ := H
  refine pop_index sli22 siz27 .i64 x_10 t53_1 hi_5 ?_
  obtain ⟨hw_1, hL_24, H⟩ := H
  refine uop_cell (v := (Sl.v t69_1)) siz27 hw_1 rfl (fun h_24 he_1 => ?_)
  rw [← he_1] at hL_24
  have H := H h_24 he_1 hL_24
  refine pop_add .i64 t53_1 1 ?_
  obtain ⟨m_3, hm_3, H⟩ := H
  exact hn_3 _ _ ⟨m_3, hm_3, (w64 (t53_1 + 1)), rfl, H, hL_24⟩
def u110 (P : Program) (b_1 : Nat) (c0_1 : Sl) (c0_2 : Int) (c0_3 : Int) (n1_1 : Int) (h : Heap) (K : Value → Heap → Prop) : Prop :=
  ((decide (n1_1 ≤ 1)) = true →
  K (VI 0) h) ∧
  ((decide (n1_1 ≤ 1)) = false →
  callM P 131 #[(VP b_1 0)] h fun rv_1 h_1 => ∃ x_1 : Sl, ∃ x_2 : Int, ∃ x_3 : Int, ∃ t9_1 : Int, rv_1 = (VI t9_1) ∧ Vars h_1 [(b_1, [(Sl.v x_1), (VI x_2), (Value.int .u64 x_3)])] ∧
  ∃ J_1 : Int → Sl → Int → Int → Heap → Prop, (((decide (200 < n1_1)) = true →
  callM P 131 #[(VP b_1 0)] h_1 fun rv_2 h_2 => ∃ x_8 : Sl, ∃ x_9 : Int, ∃ x_10 : Int, ∃ t15_1 : Int, rv_2 = (VI t15_1) ∧ Vars h_2 [(b_1, [(Sl.v x_8), (VI x_9), (Value.int .u64 x_10)])] ∧
  J_1 (w64 ((w64 (t9_1 * 256)) + t15_1)) x_8 x_9 x_10 h_2) ∧
  ((decide (200 < n1_1)) = false →
  J_1 t9_1 x_1 x_2 x_3 h_1)) ∧
  ∀ (x_4 : Int) (x_5 : Sl) (x_6 : Int) (x_7 : Int) (h_3 : Heap), J_1 x_4 x_5 x_6 x_7 h_3 → Vars h_3 [(b_1, [(Sl.v x_5), (VI x_6), (Value.int .u64 x_7)])] →
  n1_1 ≠ 0 ∧
  K (VI (Int.tmod x_4 n1_1)) h_3)
theorem v110 (b_1 : Nat) (c0_1 : Sl) (c0_2 : Int) (c0_3 : Int) (n1_1 : Int) (h : Heap) (K : Value → Heap → Prop) (hL : Vars h [(b_1, [(Sl.v c0_1), (VI c0_2), (Value.int .u64 c0_3)])]) (H : u110 Try.prog b_1 c0_1 c0_2 c0_3 n1_1 h K) : callM Try.prog 110 #[(VP b_1 0), (VI n1_1)] h K := by
  refine c110 (VP b_1 0) (VI n1_1) h K ?_
  unfold u110 at H
  unfold t110
  refine pop_leq .i64 n1_1 1 ?_
  refine condM_b (fun hb_1 => ?_) (fun hb_1 => ?_)
  ·have H := H.1 hb_1
   exact H
  have H := H.2 hb_1
  refine H.mono fun rv_1 h_1 H => ?_
  obtain ⟨x_1, x_2, x_3, t9_1, rfl, hL_1, H⟩ := H
  obtain ⟨J_1, H, HB_1⟩ := H
  refine ⟨fun (vs : List Value) (h' : Heap) => ∃ x_4 : Int, ∃ x_5 : Sl, ∃ x_6 : Int, ∃ x_7 : Int, vs = [(VI x_4)] ∧ J_1 x_4 x_5 x_6 x_7 h' ∧ Vars h' [(b_1, [(Sl.v x_5), (VI x_6), (Value.int .u64 x_7)])], ?_, ?_⟩
  ·refine pop_gtr .i64 n1_1 200 ?_
   refine condM_b (fun hb_2 => ?_) (fun hb_2 => ?_)
   rotate_left
   ·have H := H.2 hb_2
    exact ⟨t9_1, x_1, x_2, x_3, rfl, H, hL_1⟩
   have H := H.1 hb_2
   refine pop_mul .i64 t9_1 256 ?_
   refine H.mono fun rv_2 h_2 H => ?_
   obtain ⟨x_8, x_9, x_10, t15_1, rfl, hL_2, H⟩ := H
   refine pop_add .i64 (w64 (t9_1 * 256)) t15_1 ?_
   exact ⟨(w64 ((w64 (t9_1 * 256)) + t15_1)), x_8, x_9, x_10, rfl, H, hL_2⟩
  intro junk_1 tv_1 h_3
  rintro ⟨x_4, x_5, x_6, x_7, hv, hJ_1, hL_3⟩
  cases hv
  have H := HB_1 x_4 x_5 x_6 x_7 h_3 hJ_1 hL_3
  obtain ⟨hz_1, H⟩ := H
  refine pop_rem .i64 x_4 n1_1 hz_1 ?_
  exact H
def u111 (P : Program) (p0_1 : Int) (b_1 : Nat) (t1_1 : Sl) (h : Heap) (K : Value → Heap → Prop) : Prop :=
  callM P 102 #[(VI p0_1), (VI 0), (VI (w64 ((t1_1.n : Int) - 1)))] h fun rv_1 h_1 => ∃ t9_1 : Bool, rv_1 = (VB t9_1) ∧ Vars h_1 [(b_1, [(Sl.v t1_1)])] ∧
  K (VB (!t9_1)) h_1
theorem v111 (p0_1 : Int) (b_1 : Nat) (t1_1 : Sl) (h : Heap) (K : Value → Heap → Prop) (hL : Vars h [(b_1, [(Sl.v t1_1)])]) (H : u111 Try.prog p0_1 b_1 t1_1 h K) : callM Try.prog 111 #[(VI p0_1), (VP b_1 0)] h K := by
  refine c111 (VI p0_1) (VP b_1 0) h K ?_
  unfold u111 at H
  unfold t111
  refine pop_field 0 fld32_0 b_1 0 ?_
  refine rop_loc one22 hL 0 rfl 0 (v := (Sl.v t1_1)) rfl ?_
  refine pop_len t1_1 _ _ sli22 ?_
  refine pop_sub .i64 (t1_1.n : Int) 1 ?_
  refine H.mono fun rv_1 h_1 H => ?_
  obtain ⟨t9_1, rfl, hL_1, H⟩ := H
  refine pop_not t9_1 ?_
  exact H
def u112 (P : Program) (x0_1 : Sl) (count1_1 : Int) (h : Heap) (K : Value → Heap → Prop) : Prop :=
  ∃ J_1 : Heap → Prop, (((decide (count1_1 < 0)) = true →
  pop P (Instr.makeInterface 9 (Value.string { data := #[99, 97, 110, 110, 111, 116, 32, 98, 101, 32, 110, 101, 103, 97, 116, 105, 118, 101] })) fun rv_1 => ∃ t11_1 : Value, rv_1 = t11_1 ∧ 
  False) ∧
  ((decide (count1_1 < 0)) = false →
  J_1  h)) ∧
  ∀ (h_1 : Heap), J_1  h_1 → Vars h_1 [] →
  rop P (convert 3 133 (VI (x0_1.n : Int))) h_1 fun rv_2 => ∃ t15_1 : Int, rv_2 = (Value.int .u64 t15_1) ∧ 
  rop P (convert 3 133 (VI count1_1)) h_1 fun rv_3 => ∃ t17_1 : Int, rv_3 = (Value.int .u64 t17_1) ∧ 
  callM P 132 #[(Value.int .u64 t15_1), (Value.int .u64 t17_1)] h_1 fun rv_4 h_2 => ∃ t18_1 : Int, ∃ t18_2 : Int, rv_4 = (Value.tuple #[(Value.int .u64 t18_1), (Value.int .u64 t18_2)]) ∧ Vars h_2 [] ∧
  ∃ J_2 : Heap → Prop, (((decide (0 < t18_1)) = true →
  pop P (Instr.makeInterface 9 (Value.string { data := #[116, 104, 101, 32, 114, 101, 115, 117, 108, 116, 32, 111, 102, 32, 40, 108, 101, 110, 40, 120, 41, 32, 42, 32, 99, 111, 117, 110, 116, 41, 32, 111, 118, 101, 114, 102, 108, 111, 119, 115] })) fun rv_6 => ∃ t27_2 : Value, rv_6 = t27_2 ∧ 
  False) ∧
  ((decide (0 < t18_1)) = false →
  ((decide (9223372036854775807 < t18_2)) = true →
  pop P (Instr.makeInterface 9 (Value.string { data := #[116, 104, 101, 32, 114, 101, 115, 117, 108, 116, 32, 111, 102, 32, 40, 108, 101, 110, 40, 120, 41, 32, 42, 32, 99, 111, 117, 110, 116, 41, 32, 111, 118, 101, 114, 102, 108, 111, 119, 115] })) fun rv_5 => ∃ t27_1 : Value, rv_5 = t27_1 ∧ 
  False) ∧
  ((decide (9223372036854775807 < t18_2)) = false →
  J_2  h_2))) ∧
  ∀ (h_3 : Heap), J_2  h_3 → Vars h_3 [] →
  rop P (convert 133 3 (Value.int .u64 t18_2)) h_3 fun rv_7 => ∃ t29_1 : Int, rv_7 = (VI t29_1) ∧ 
  eop P (Instr.makeSlice 27 (VI t29_1) (VI t29_1)) h_3 fun rv_8 h_4 => ∃ t30_1 : Sl, rv_8 = (Sl.v t30_1) ∧ Vars h_4 [] ∧
  eop P (Builtin.copy_ #[27, 27] 3 #[(Sl.v t30_1), (Sl.v x0_1)]) h_4 fun rv_9 h_5 => ∃ t33_1 : Int, rv_9 = (VI t33_1) ∧ Vars h_5 [] ∧
  ∃ J_3 : Nat → Int → Heap → Prop, (∃ n0 : Nat, J_3 n0 t33_1 h_5) ∧
  ∀ (n_1 : Nat) (n8_1 : Int) (h_6 : Heap), J_3 n_1 n8_1 h_6 → Vars h_6 [] →
  ((decide (n8_1 < (t30_1.n : Int))) = true →
  pop P (Instr.sliceAt 27 (Sl.v t30_1) (some (VI n8_1)) none none) fun rv_10 => ∃ t41_1 : Sl, rv_10 = (Sl.v t41_1) ∧ 
  pop P (Instr.sliceAt 27 (Sl.v t30_1) none (some (VI n8_1)) none) fun rv_11 => ∃ t44_1 : Sl, rv_11 = (Sl.v t44_1) ∧ 
  eop P (Builtin.copy_ #[27, 27] 3 #[(Sl.v t41_1), (Sl.v t44_1)]) h_6 fun rv_12 h_7 => ∃ t45_1 : Int, rv_12 = (VI t45_1) ∧ Vars h_7 [] ∧
  ∃ m : Nat, m < n_1 ∧ J_3 m (w64 (n8_1 + t45_1)) h_7) ∧
  ((decide (n8_1 < (t30_1.n : Int))) = false →
  K (Sl.v t30_1) h_6)
theorem v112 (x0_1 : Sl) (count1_1 : Int) (h : Heap) (K : Value → Heap → Prop) (H : u112 Try.prog x0_1 count1_1 h K) : callM Try.prog 112 #[(Sl.v x0_1), (VI count1_1)] h K := by
  refine c112 (Sl.v x0_1) (VI count1_1) h K ?_
  unfold u112 at H
  unfold t112
  have hL : Vars h [] := .nil
  obtain ⟨J_1, H, HB_3⟩ := H
  refine ⟨fun (vs : List Value) (h' : Heap) => vs = [] ∧ J_1  h' ∧ Vars h' [], ?_, ?_⟩
  ·refine pop_lss .i64 count1_1 0 ?_
   refine condM_b (fun hb_1 => ?_) (fun hb_1 => ?_)
   rotate_left
   ·have H := H.2 hb_1
    exact ⟨rfl, H, hL⟩
   have H := H.1 hb_1
   refine H.mono fun rv_1 H => ?_
   obtain ⟨t11_1, rfl, H⟩ := H
   exact H.elim
  intro junk_1  h_1
  rintro ⟨hv, hJ_1, hL_1⟩
  have H := HB_3  h_1 hJ_1 hL_1
  refine pop_len x0_1 _ _ sli27 ?_
  refine H.mono fun rv_2 H => ?_
  obtain ⟨t15_1, rfl, H⟩ := H
  refine H.mono fun rv_3 H => ?_
  obtain ⟨t17_1, rfl, H⟩ := H
  refine H.mono fun rv_4 h_2 H => ?_
  obtain ⟨t18_1, t18_2, rfl, hL_2, H⟩ := H
  refine pop_ext (v := (Value.int .u64 t18_1)) rfl ?_
  refine pop_ext (v := (Value.int .u64 t18_2)) rfl ?_
  obtain ⟨J_2, H, HB_2⟩ := H
  refine ⟨fun (vs : List Value) (h' : Heap) => vs = [] ∧ J_2  h' ∧ Vars h' [], ?_, ?_⟩
  ·refine pop_gtr .u64 t18_1 0 ?_
   refine guardM_sf (fun hb_2 => ?_) (fun hb_2 => ?_)
   rotate_left
   ·have H := H.1 hb_2
    refine guardM_n' hb_2 (by decide) ?_
    refine pop_pickt' hb_2 ?_
    refine condM_t ?_
    refine H.mono fun rv_6 H => ?_
    obtain ⟨t27_2, rfl, H⟩ := H
    exact H.elim
   have H := H.2 hb_2
   refine guardM_y' hb_2 ?_
   refine pop_gtr .u64 t18_2 9223372036854775807 ?_
   refine pop_pickf' hb_2 ?_
   refine condM_b (fun hb_3 => ?_) (fun hb_3 => ?_)
   rotate_left
   ·have H := H.2 hb_3
    exact ⟨rfl, H, hL_2⟩
   have H := H.1 hb_3
   refine H.mono fun rv_5 H => ?_
   obtain ⟨t27_1, rfl, H⟩ := H
   exact H.elim
  intro junk_2  h_3
  rintro ⟨hv, hJ_2, hL_3⟩
  have H := HB_2  h_3 hJ_2 hL_3
  refine H.mono fun rv_7 H => ?_
  obtain ⟨t29_1, rfl, H⟩ := H
  refine H.mono fun rv_8 h_4 H => ?_
  obtain ⟨t30_1, rfl, hL_4, H⟩ := H
  refine H.mono fun rv_9 h_5 H => ?_
  obtain ⟨t33_1, rfl, hL_5, H⟩ := H
  obtain ⟨J_3, ⟨n_2, h0_1⟩, HB_1⟩ := H
  refine loop_intro (J := fun (n : Nat) (vs : List Value) (h' : Heap) => ∃ n8_1 : Int, vs = [(VI n8_1)] ∧ J_3 n n8_1 h' ∧ Vars h' []) n_2 ⟨t33_1, rfl, h0_1, hL_5⟩ ?_
  intro I_1 mu_1 hI_1 junk_3 tv_1 h_6 hi_1
  obtain ⟨n_1, ⟨n8_1, hv, hJ_3, hL_6⟩, hn_1⟩ := hI_1 _ _ hi_1
  cases hv
  have H := HB_1 n_1 n8_1 h_6 hJ_3 hL_6
  refine pop_len t30_1 _ _ sli27 ?_
  refine pop_lss .i64 n8_1 (t30_1.n : Int) ?_
  refine condM_b (fun hb_4 => ?_) (fun hb_4 => ?_)
  rotate_left
  ·have H := H.2 hb_4
   exact H
  have H := H.1 hb_4
  refine H.mono fun rv_10 H => ?_
  obtain ⟨t41_1, rfl, H⟩ := H
  refine H.mono fun rv_11 H => ?_
  obtain ⟨t44_1, rfl, H⟩ := H
  refine H.mono fun rv_12 h_7 H => ?_
  obtain ⟨t45_1, rfl, hL_7, H⟩ := H
  refine pop_add .i64 n8_1 t45_1 ?_
  obtain ⟨m_1, hm_1, H⟩ := H
  exact hn_1 _ _ ⟨m_1, hm_1, (w64 (n8_1 + t45_1)), rfl, H, hL_7⟩
def u113 (P : Program) (n0_1 : Int) (lo1_1 : Int) (hi2_1 : Int) (h : Heap) (K : Value → Heap → Prop) : Prop :=
  ((decide (lo1_1 ≤ n0_1)) = true →
  K (VB (decide (n0_1 ≤ hi2_1))) h) ∧
  ((decide (lo1_1 ≤ n0_1)) = false →
  K (VB false) h)
theorem v113 (n0_1 : Int) (lo1_1 : Int) (hi2_1 : Int) (h : Heap) (K : Value → Heap → Prop) (H : u113 Try.prog n0_1 lo1_1 hi2_1 h K) : callM Try.prog 113 #[(VI n0_1), (VI lo1_1), (VI hi2_1)] h K := by
  refine c113 (VI n0_1) (VI lo1_1) (VI hi2_1) h K ?_
  unfold u113 at H
  unfold t113
  have hL : Vars h [] := .nil
  refine pop_geq .i64 n0_1 lo1_1 ?_
  refine guardM_st (fun hb_1 => ?_) (fun hb_1 => ?_)
  rotate_left
  ·have H := H.2 hb_1
   refine guardM_n' hb_1 (by decide) ?_
   refine guardM_n' hb_1 (by decide) ?_
   refine pop_pickf' hb_1 ?_
   exact H
  have H := H.1 hb_1
  refine guardM_y' hb_1 ?_
  refine guardM_y' hb_1 ?_
  refine pop_leq .i64 n0_1 hi2_1 ?_
  refine pop_pickt' hb_1 ?_
  exact H
def u114 (P : Program) (s0_1 : Sl) (v1_1 : Int) (h : Heap) (K : Value → Heap → Prop) : Prop :=
  ∃ J_1 : Nat → Int → Heap → Prop, (∃ n0 : Nat, J_1 n0 0 h) ∧
  ∀ (n_1 : Nat) (t8_1 : Int) (h_1 : Heap), J_1 n_1 t8_1 h_1 → Vars h_1 [] →
  ((decide (t8_1 < (s0_1.n : Int))) = true →
  InB s0_1 t8_1 ∧
  ∃ t15_1 : Int, hcell h_1 (Sl.at s0_1 t8_1 1) = some (VI t15_1) ∧
  ((decide (v1_1 = t15_1)) = true →
  K (VI t8_1) h_1) ∧
  ((decide (v1_1 = t15_1)) = false →
  ∃ m : Nat, m < n_1 ∧ J_1 m (w64 (t8_1 + 1)) h_1)) ∧
  ((decide (t8_1 < (s0_1.n : Int))) = false →
  K (VI (-1)) h_1)
theorem v114 (s0_1 : Sl) (v1_1 : Int) (h : Heap) (K : Value → Heap → Prop) (H : u114 Try.prog s0_1 v1_1 h K) : callM Try.prog 114 #[(Sl.v s0_1), (VI v1_1)] h K := by
  refine c114 (Sl.v s0_1) (VI v1_1) h K ?_
  unfold u114 at H
  unfold t114
  have hL : Vars h [] := .nil
  refine pop_len s0_1 _ _ sli27 ?_
  obtain ⟨J_1, ⟨n_2, h0_1⟩, HB_1⟩ := H
  refine loop_intro (J := fun (n : Nat) (vs : List Value) (h' : Heap) => ∃ t8_1 : Int, vs = [(VI t8_1)] ∧ J_1 n t8_1 h' ∧ Vars h' []) n_2 ⟨0, rfl, h0_1, hL⟩ ?_
  intro I_1 mu_1 hI_1 junk_1 tv_1 h_1 hi_1
  obtain ⟨n_1, ⟨t8_1, hv, hJ_1, hL_1⟩, hn_1⟩ := hI_1 _ _ hi_1
  cases hv
  have H := HB_1 n_1 t8_1 h_1 hJ_1 hL_1
  refine pop_lss .i64 t8_1 (s0_1.n : Int) ?_
  refine condM_b (fun hb_1 => ?_) (fun hb_1 => ?_)
  rotate_left
  ·have H := H.2 hb_1
   exact H
  have H := H.1 hb_1
  obtain ⟨hi_2, H⟩ := H
  refine pop_index sli27 siz3 .i64 s0_1 t8_1 hi_2 ?_
  obtain ⟨t15_1, hc_1, H⟩ := H
  refine rop_one one3 (VI t15_1) hc_1 ?_
  refine pop_ieq .i64 _ _ v1_1 t15_1 ?_
  refine condM_b (fun hb_2 => ?_) (fun hb_2 => ?_)
  ·have H := H.1 hb_2
   exact H
  have H := H.2 hb_2
  refine pop_add .i64 t8_1 1 ?_
  obtain ⟨m_1, hm_1, H⟩ := H
  exact hn_1 _ _ ⟨m_1, hm_1, (w64 (t8_1 + 1)), rfl, H, hL_1⟩
def u121 (P : Program) (s0_1 : Sl) (f1_1 : Value) (h : Heap) (K : Value → Heap → Prop) : Prop :=
  ∃ J_1 : Nat → Int → Heap → Prop, (∃ n0 : Nat, J_1 n0 0 h) ∧
  ∀ (n_1 : Nat) (t8_1 : Int) (h_1 : Heap), J_1 n_1 t8_1 h_1 → Vars h_1 [] →
  ((decide (t8_1 < (s0_1.n : Int))) = true →
  InB s0_1 t8_1 ∧
  ∃ t15_1 : Int, hcell h_1 (Sl.at s0_1 t8_1 1) = some (VI t15_1) ∧
  callV P f1_1 [(VI t15_1)] h_1 fun rv_1 h_2 => ∃ t16_1 : Bool, rv_1 = (VB t16_1) ∧ Vars h_2 [] ∧
  (t16_1 = true →
  K (VI t8_1) h_2) ∧
  (t16_1 = false →
  ∃ m : Nat, m < n_1 ∧ J_1 m (w64 (t8_1 + 1)) h_2)) ∧
  ((decide (t8_1 < (s0_1.n : Int))) = false →
  K (VI (-1)) h_1)
theorem v121 (s0_1 : Sl) (f1_1 : Value) (h : Heap) (K : Value → Heap → Prop) (H : u121 Try.prog s0_1 f1_1 h K) : callM Try.prog 121 #[(Sl.v s0_1), f1_1] h K := by
  refine c121 (Sl.v s0_1) f1_1 h K ?_
  unfold u121 at H
  unfold t121
  have hL : Vars h [] := .nil
  refine pop_len s0_1 _ _ sli27 ?_
  obtain ⟨J_1, ⟨n_2, h0_1⟩, HB_1⟩ := H
  refine loop_intro (J := fun (n : Nat) (vs : List Value) (h' : Heap) => ∃ t8_1 : Int, vs = [(VI t8_1)] ∧ J_1 n t8_1 h' ∧ Vars h' []) n_2 ⟨0, rfl, h0_1, hL⟩ ?_
  intro I_1 mu_1 hI_1 junk_1 tv_1 h_1 hi_1
  obtain ⟨n_1, ⟨t8_1, hv, hJ_1, hL_1⟩, hn_1⟩ := hI_1 _ _ hi_1
  cases hv
  have H := HB_1 n_1 t8_1 h_1 hJ_1 hL_1
  refine pop_lss .i64 t8_1 (s0_1.n : Int) ?_
  refine condM_b (fun hb_1 => ?_) (fun hb_1 => ?_)
  rotate_left
  ·have H := H.2 hb_1
   exact H
  have H := H.1 hb_1
  obtain ⟨hi_2, H⟩ := H
  refine pop_index sli27 siz3 .i64 s0_1 t8_1 hi_2 ?_
  obtain ⟨t15_1, hc_1, H⟩ := H
  refine rop_one one3 (VI t15_1) hc_1 ?_
  refine H.mono fun rv_1 h_2 H => ?_
  obtain ⟨t16_1, rfl, hL_2, H⟩ := H
  refine condM_b (fun hb_2 => ?_) (fun hb_2 => ?_)
  ·have H := H.1 hb_2
   exact H
  have H := H.2 hb_2
  refine pop_add .i64 t8_1 1 ?_
  obtain ⟨m_1, hm_1, H⟩ := H
  exact hn_1 _ _ ⟨m_1, hm_1, (w64 (t8_1 + 1)), rfl, H, hL_2⟩
def u122 (P : Program) (seq0_1 : Value) (h : Heap) (K : Value → Heap → Prop) : Prop :=
  callM P 136 #[(Sl.v nilSl), seq0_1] h fun rv_1 h_1 => ∃ t4_1 : Sl, rv_1 = (Sl.v t4_1) ∧ Vars h_1 [] ∧
  K (Sl.v t4_1) h_1
theorem v122 (seq0_1 : Value) (h : Heap) (K : Value → Heap → Prop) (H : u122 Try.prog seq0_1 h K) : callM Try.prog 122 #[seq0_1] h K := by
  refine c122 seq0_1 h K ?_
  unfold u122 at H
  unfold t122
  have hL : Vars h [] := .nil
  refine H.mono fun rv_1 h_1 H => ?_
  obtain ⟨t4_1, rfl, hL_1, H⟩ := H
  exact H
def u123 (P : Program) (x0_1 : Sl) (h : Heap) (K : Value → Heap → Prop) : Prop :=
  rop P (convert 3 133 (VI (x0_1.n : Int))) h fun rv_1 => ∃ t8_1 : Int, rv_1 = (Value.int .u64 t8_1) ∧ 
  callM P 138 #[(Value.int .u64 t8_1)] h fun rv_2 h_1 => ∃ t9_1 : Int, rv_2 = (VI t9_1) ∧ Vars h_1 [] ∧
  callM P 137 #[(Sl.v x0_1), (VI 0), (VI (x0_1.n : Int)), (VI t9_1)] h_1 fun rv_3 h_2 => Vars h_2 [] ∧
  K (Value.tuple #[]) h_2
theorem v123 (x0_1 : Sl) (h : Heap) (K : Value → Heap → Prop) (H : u123 Try.prog x0_1 h K) : callM Try.prog 123 #[(Sl.v x0_1)] h K := by
  refine c123 (Sl.v x0_1) h K ?_
  unfold u123 at H
  unfold t123
  have hL : Vars h [] := .nil
  refine pop_len x0_1 _ _ sli27 ?_
  refine H.mono fun rv_1 H => ?_
  obtain ⟨t8_1, rfl, H⟩ := H
  refine H.mono fun rv_2 h_1 H => ?_
  obtain ⟨t9_1, rfl, hL_1, H⟩ := H
  refine H.mono fun rv_3 h_2 H => ?_
  obtain ⟨hL_2, H⟩ := H
  exact H
def u130 (P : Program) (n0_1 : Int) (both1_1 : Bool) (h : Heap) (K : Value → Heap → Prop) : Prop :=
  ∀ (b_1 : Nat) (b_2 : Nat) (h_3 : Heap), h.size ≤ b_1 → h.size ≤ b_2 → Fr (In []) h h_3 → Vars h_3 [(b_2, [(Sl.v nilSl)]), (b_1, [(Sl.v nilSl)])] →
  ∃ J_1 : Nat → Int → Sl → Heap → Prop, (∃ n0 : Nat, J_1 n0 0 nilSl h_3) ∧
  ∀ (n_1 : Nat) (p6_1 : Int) (x_1 : Sl) (h_4 : Heap), J_1 n_1 p6_1 x_1 h_4 → Vars h_4 [(b_2, [(Sl.v x_1)]), (b_1, [(Sl.v nilSl)])] →
  ((decide (p6_1 < n0_1)) = true →
  n0_1 ≠ 0 ∧
  eop P (Instr.buildSlice 27 1 #[(0, (VI (Int.tmod (w64 (p6_1 + 1)) n0_1)))]) h_4 fun rv_1 h_5 => ∃ t18_1 : Sl, rv_1 = (Sl.v t18_1) ∧ Vars h_5 [(b_2, [(Sl.v x_1)]), (b_1, [(Sl.v nilSl)])] ∧
  ∃ J_2 : Sl → Heap → Prop, ((both1_1 = true →
  n0_1 ≠ 0 ∧
  eop P (Instr.buildSlice 27 1 #[(0, (VI (Int.tmod (w64 ((w64 (p6_1 + n0_1)) - 1)) n0_1)))]) h_5 fun rv_2 h_6 => ∃ t27_1 : Sl, rv_2 = (Sl.v t27_1) ∧ Vars h_6 [(b_2, [(Sl.v x_1)]), (b_1, [(Sl.v nilSl)])] ∧
  eop P (appS 27 27 27 (Sl.v t18_1) (Sl.v t27_1)) h_6 fun rv_3 h_7 => ∃ t28_1 : Sl, rv_3 = (Sl.v t28_1) ∧ Vars h_7 [(b_2, [(Sl.v x_1)]), (b_1, [(Sl.v nilSl)])] ∧
  J_2 t28_1 h_7) ∧
  (both1_1 = false →
  J_2 t18_1 h_5)) ∧
  ∀ (x_2 : Sl) (h_8 : Heap), J_2 x_2 h_8 → Vars h_8 [(b_2, [(Sl.v x_1)]), (b_1, [(Sl.v nilSl)])] →
  eop P (Instr.buildSlice 22 1 #[(0, (Sl.v x_2))]) h_8 fun rv_4 h_9 => ∃ t32_1 : Sl, rv_4 = (Sl.v t32_1) ∧ Vars h_9 [(b_2, [(Sl.v x_1)]), (b_1, [(Sl.v nilSl)])] ∧
  eop P (appS 22 22 22 (Sl.v x_1) (Sl.v t32_1)) h_9 fun rv_5 h_10 => ∃ t33_1 : Sl, rv_5 = (Sl.v t33_1) ∧ Vars h_10 [(b_2, [(Sl.v x_1)]), (b_1, [(Sl.v nilSl)])] ∧
  ∀ (h_11 : Heap), Fr (In [b_2]) h_10 h_11 → Vars h_11 [(b_2, [(Sl.v t33_1)]), (b_1, [(Sl.v nilSl)])] →
  ∃ m : Nat, m < n_1 ∧ J_1 m (w64 (p6_1 + 1)) t33_1 h_11) ∧
  ((decide (p6_1 < n0_1)) = false →
  ∀ (h_12 : Heap), Fr (In [b_1]) h_4 h_12 → Vars h_12 [(b_2, [(Sl.v x_1)]), (b_1, [(Sl.v x_1)])] →
  K (Value.agg #[(Sl.v x_1)]) h_12)
theorem v130 (n0_1 : Int) (both1_1 : Bool) (h : Heap) (K : Value → Heap → Prop) (H : u130 Try.prog n0_1 both1_1 h K) : callM Try.prog 130 #[(VI n0_1), (VB both1_1)] h K := by
  refine c130 (VI n0_1) (VB both1_1) h K ?_
  unfold u130 at H
  unfold t130
  have hL : Vars h [] := .nil
  refine eop_alloc 32 zer32 rfl hL (fun b_1 h_1 hb_1 hf_1 hL_1 => ?_)
  refine pop.mk' (v := (Value.agg #[(Sl.v nilSl)])) (fun w => by kernel_rfl) ?_
  refine eop_alloc 32 zer32 rfl hL_1 (fun b_2 h_2 hb_2 hf_2 hL_2 => ?_)
  refine uop_loc siz32 hL_2 0 rfl 0 [(Sl.v nilSl)] rfl rfl rfl (Nat.le_of_ble_eq_true rfl) (L' := [(b_2, [(Sl.v nilSl)]), (b_1, [(Sl.v nilSl)])]) rfl (fun h_3 hf_3 hL_3 => ?_)
  have H := H b_1 b_2 h_3 (Nat.le_trans (Fr.size (Fr.r (In []) _)) hb_1) (Nat.le_trans (Fr.size (Fr.no' (Fr.r (In []) _) hf_1)) hb_2) (Fr.new (Fr.no' (Fr.no' (Fr.r (In []) _) hf_1) hf_2) (Nat.le_trans (Fr.size (Fr.no' (Fr.r (In []) _) hf_1)) hb_2) hf_3) hL_3
  obtain ⟨J_1, ⟨n_2, h0_1⟩, HB_2⟩ := H
  refine loop_intro (J := fun (n : Nat) (vs : List Value) (h' : Heap) => ∃ p6_1 : Int, ∃ x_1 : Sl, vs = [(VI p6_1)] ∧ J_1 n p6_1 x_1 h' ∧ Vars h' [(b_2, [(Sl.v x_1)]), (b_1, [(Sl.v nilSl)])]) n_2 ⟨0, nilSl, rfl, h0_1, hL_3⟩ ?_
  intro I_1 mu_1 hI_1 junk_1 tv_2 h_4 hi_1
  obtain ⟨n_1, ⟨p6_1, x_1, hv, hJ_1, hL_4⟩, hn_1⟩ := hI_1 _ _ hi_1
  cases hv
  have H := HB_2 n_1 p6_1 x_1 h_4 hJ_1 hL_4
  refine pop_lss .i64 p6_1 n0_1 ?_
  refine condM_b (fun hb_3 => ?_) (fun hb_3 => ?_)
  rotate_left
  ·have H := H.2 hb_3
   refine rop_locA agg32 hL_4 0 rfl 0 (vs := [(Sl.v x_1)]) rfl rfl ?_
   refine uop_loc siz32 hL_4 1 rfl 0 [(Sl.v x_1)] rfl rfl rfl (Nat.le_of_ble_eq_true rfl) (L' := [(b_2, [(Sl.v x_1)]), (b_1, [(Sl.v x_1)])]) rfl (fun h_12 hf_5 hL_12 => ?_)
   refine rop_locA agg32 hL_12 1 rfl 0 (vs := [(Sl.v x_1)]) rfl rfl ?_
   have H := H  h_12  (Fr.old (Fr.r (In []) _) hf_5) hL_12
   exact H
  have H := H.1 hb_3
  refine pop_add .i64 p6_1 1 ?_
  obtain ⟨hz_1, H⟩ := H
  refine pop_rem .i64 (w64 (p6_1 + 1)) n0_1 hz_1 ?_
  refine H.mono fun rv_1 h_5 H => ?_
  obtain ⟨t18_1, rfl, hL_5, H⟩ := H
  obtain ⟨J_2, H, HB_1⟩ := H
  refine ⟨fun (vs : List Value) (h' : Heap) => ∃ x_2 : Sl, vs = [(Sl.v x_2)] ∧ J_2 x_2 h' ∧ Vars h' [(b_2, [(Sl.v x_1)]), (b_1, [(Sl.v nilSl)])], ?_, ?_⟩
  ·refine condM_b (fun hb_4 => ?_) (fun hb_4 => ?_)
   rotate_left
   ·have H := H.2 hb_4
    exact ⟨t18_1, rfl, H, hL_5⟩
   have H := H.1 hb_4
   refine pop_add .i64 p6_1 n0_1 ?_
   refine pop_sub .i64 (w64 (p6_1 + n0_1)) 1 ?_
   obtain ⟨hz_2, H⟩ := H
   refine pop_rem .i64 (w64 ((w64 (p6_1 + n0_1)) - 1)) n0_1 hz_2 ?_
   refine H.mono fun rv_2 h_6 H => ?_
   obtain ⟨t27_1, rfl, hL_6, H⟩ := H
   refine H.mono fun rv_3 h_7 H => ?_
   obtain ⟨t28_1, rfl, hL_7, H⟩ := H
   exact ⟨t28_1, rfl, H, hL_7⟩
  intro junk_2 tv_1 h_8
  rintro ⟨x_2, hv, hJ_2, hL_8⟩
  cases hv
  have H := HB_1 x_2 h_8 hJ_2 hL_8
  refine pop_field 0 fld32_0 b_2 0 ?_
  refine rop_loc one22 hL_8 0 rfl 0 (v := (Sl.v x_1)) rfl ?_
  refine H.mono fun rv_4 h_9 H => ?_
  obtain ⟨t32_1, rfl, hL_9, H⟩ := H
  refine H.mono fun rv_5 h_10 H => ?_
  obtain ⟨t33_1, rfl, hL_10, H⟩ := H
  refine pop_field 0 fld32_0 b_2 0 ?_
  refine uop_loc siz22 hL_10 0 rfl 0 [(Sl.v t33_1)] rfl rfl rfl (Nat.le_of_ble_eq_true rfl) (L' := [(b_2, [(Sl.v t33_1)]), (b_1, [(Sl.v nilSl)])]) rfl (fun h_11 hf_4 hL_11 => ?_)
  refine pop_add .i64 p6_1 1 ?_
  have H := H  h_11  (Fr.old (Fr.r (In []) _) hf_4) hL_11
  obtain ⟨m_1, hm_1, H⟩ := H
  exact hn_1 _ _ ⟨m_1, hm_1, (w64 (p6_1 + 1)), t33_1, rfl, H, hL_11⟩
def u131 (P : Program) (b_1 : Nat) (c0_1 : Sl) (c0_2 : Int) (c0_3 : Int) (h : Heap) (K : Value → Heap → Prop) : Prop :=
  ∃ J_1 : Int → Heap → Prop, (((decide (c0_2 < (c0_1.n : Int))) = true →
  InB c0_1 c0_2 ∧
  ∃ t23_1 : Int, hcell h (Sl.at c0_1 c0_2 1) = some (Value.int .u8 t23_1) ∧
  rop P (convert 5 3 (Value.int .u8 t23_1)) h fun rv_1 => ∃ t24_1 : Int, rv_1 = (VI t24_1) ∧ 
  J_1 t24_1 h) ∧
  ((decide (c0_2 < (c0_1.n : Int))) = false →
  J_1 0 h)) ∧
  ∀ (x_1 : Int) (h_1 : Heap), J_1 x_1 h_1 → Vars h_1 [(b_1, [(Sl.v c0_1), (VI c0_2), (Value.int .u64 c0_3)])] →
  ∀ (h_2 : Heap), Fr (In [b_1]) h_1 h_2 → Vars h_2 [(b_1, [(Sl.v c0_1), (VI (w64 (c0_2 + 1))), (Value.int .u64 c0_3)])] →
  rop P (convert 3 84 (VI x_1)) h_2 fun rv_2 => ∃ t39_1 : Int, rv_2 = (Value.int .u64 t39_1) ∧ 
  ((decide ((w64 (c0_2 + 1)) ≤ (c0_1.n : Int))) = true →
  ∀ (h_3 : Heap), Fr (In [b_1]) h_2 h_3 → Vars h_3 [(b_1, [(Sl.v c0_1), (VI (w64 (c0_2 + 1))), (Value.int .u64 (IntKind.wrap .u64 ((IntKind.wrap .u64 ((IntKind.wrap .u64 (c0_3 * 6364136223846793005)) + t39_1)) + 1442695040888963407)))])] →
  K (VI x_1) h_3) ∧
  ((decide ((w64 (c0_2 + 1)) ≤ (c0_1.n : Int))) = false →
  pop P (binA .shr 84 (Value.int .u64 (IntKind.wrap .u64 ((IntKind.wrap .u64 ((IntKind.wrap .u64 (c0_3 * 6364136223846793005)) + t39_1)) + 1442695040888963407))) (Value.int IntKind.u64 40)) fun rv_3 => ∃ t59_1 : Int, rv_3 = (Value.int .u64 t59_1) ∧ 
  pop P (binA .and 84 (Value.int .u64 t59_1) (Value.int IntKind.u64 255)) fun rv_4 => ∃ t60_1 : Int, rv_4 = (Value.int .u64 t60_1) ∧ 
  ∀ (h_3 : Heap), Fr (In [b_1]) h_2 h_3 → Vars h_3 [(b_1, [(Sl.v c0_1), (VI (w64 (c0_2 + 1))), (Value.int .u64 (IntKind.wrap .u64 ((IntKind.wrap .u64 ((IntKind.wrap .u64 (c0_3 * 6364136223846793005)) + t39_1)) + 1442695040888963407)))])] →
  rop P (convert 84 3 (Value.int .u64 t60_1)) h_3 fun rv_5 => ∃ t61_1 : Int, rv_5 = (VI t61_1) ∧ 
  K (VI t61_1) h_3)
theorem v131 (b_1 : Nat) (c0_1 : Sl) (c0_2 : Int) (c0_3 : Int) (h : Heap) (K : Value → Heap → Prop) (hL : Vars h [(b_1, [(Sl.v c0_1), (VI c0_2), (Value.int .u64 c0_3)])]) (H : u131 Try.prog b_1 c0_1 c0_2 c0_3 h K) : callM Try.prog 131 #[(VP b_1 0)] h K := by
  refine c131 (VP b_1 0) h K ?_
  unfold u131 at H
  unfold t131
  obtain ⟨J_1, H, HB_1⟩ := H
  refine ⟨fun (vs : List Value) (h' : Heap) => ∃ x_1 : Int, vs = [(VI x_1)] ∧ J_1 x_1 h' ∧ Vars h' [(b_1, [(Sl.v c0_1), (VI c0_2), (Value.int .u64 c0_3)])], ?_, ?_⟩
  ·refine pop_nil _ ?_
   refine pop_field 1 fld86_1 b_1 0 ?_
   refine rop_loc one3 hL 0 rfl 1 (v := (VI c0_2)) rfl ?_
   refine pop_nil _ ?_
   refine pop_field 0 fld86_0 b_1 0 ?_
   refine rop_loc one46 hL 0 rfl 0 (v := (Sl.v c0_1)) rfl ?_
   refine pop_len c0_1 _ _ sli46 ?_
   refine pop_lss .i64 c0_2 (c0_1.n : Int) ?_
   refine condM_b (fun hb_1 => ?_) (fun hb_1 => ?_)
   rotate_left
   ·have H := H.2 hb_1
    exact ⟨0, rfl, H, hL⟩
   have H := H.1 hb_1
   refine pop_nil _ ?_
   refine pop_field 0 fld86_0 b_1 0 ?_
   refine rop_loc one46 hL 0 rfl 0 (v := (Sl.v c0_1)) rfl ?_
   refine pop_nil _ ?_
   refine pop_field 1 fld86_1 b_1 0 ?_
   refine rop_loc one3 hL 0 rfl 1 (v := (VI c0_2)) rfl ?_
   obtain ⟨hi_1, H⟩ := H
   refine pop_index sli46 siz5 .i64 c0_1 c0_2 hi_1 ?_
   obtain ⟨t23_1, hc_1, H⟩ := H
   refine rop_one one5 (Value.int .u8 t23_1) hc_1 ?_
   refine H.mono fun rv_1 H => ?_
   obtain ⟨t24_1, rfl, H⟩ := H
   exact ⟨t24_1, rfl, H, hL⟩
  intro junk_1 tv_1 h_1
  rintro ⟨x_1, hv, hJ_1, hL_1⟩
  cases hv
  have H := HB_1 x_1 h_1 hJ_1 hL_1
  refine pop_nil _ ?_
  refine pop_field 1 fld86_1 b_1 0 ?_
  refine rop_loc one3 hL_1 0 rfl 1 (v := (VI c0_2)) rfl ?_
  refine pop_add .i64 c0_2 1 ?_
  refine pop_nil _ ?_
  refine pop_field 1 fld86_1 b_1 0 ?_
  refine uop_loc siz3 hL_1 0 rfl 1 [(VI (w64 (c0_2 + 1)))] rfl rfl rfl (Nat.le_of_ble_eq_true rfl) (L' := [(b_1, [(Sl.v c0_1), (VI (w64 (c0_2 + 1))), (Value.int .u64 c0_3)])]) rfl (fun h_2 hf_1 hL_2 => ?_)
  refine pop_nil _ ?_
  refine pop_field 2 fld86_2 b_1 0 ?_
  refine rop_loc one84 hL_2 0 rfl 2 (v := (Value.int .u64 c0_3)) rfl ?_
  refine pop_mul .u64 c0_3 6364136223846793005 ?_
  have H := H  h_2  (Fr.old (Fr.r (In []) _) hf_1) hL_2
  refine H.mono fun rv_2 H => ?_
  obtain ⟨t39_1, rfl, H⟩ := H
  refine pop_add .u64 (IntKind.wrap .u64 (c0_3 * 6364136223846793005)) t39_1 ?_
  refine pop_add .u64 (IntKind.wrap .u64 ((IntKind.wrap .u64 (c0_3 * 6364136223846793005)) + t39_1)) 1442695040888963407 ?_
  refine pop_nil _ ?_
  refine pop_field 2 fld86_2 b_1 0 ?_
  refine uop_loc siz84 hL_2 0 rfl 2 [(Value.int .u64 (IntKind.wrap .u64 ((IntKind.wrap .u64 ((IntKind.wrap .u64 (c0_3 * 6364136223846793005)) + t39_1)) + 1442695040888963407)))] rfl rfl rfl (Nat.le_of_ble_eq_true rfl) (L' := [(b_1, [(Sl.v c0_1), (VI (w64 (c0_2 + 1))), (Value.int .u64 (IntKind.wrap .u64 ((IntKind.wrap .u64 ((IntKind.wrap .u64 (c0_3 * 6364136223846793005)) + t39_1)) + 1442695040888963407)))])]) rfl (fun h_3 hf_2 hL_3 => ?_)
  refine pop_nil _ ?_
  refine pop_field 1 fld86_1 b_1 0 ?_
  refine rop_loc one3 hL_3 0 rfl 1 (v := (VI (w64 (c0_2 + 1)))) rfl ?_
  refine pop_nil _ ?_
  refine pop_field 0 fld86_0 b_1 0 ?_
  refine rop_loc one46 hL_3 0 rfl 0 (v := (Sl.v c0_1)) rfl ?_
  refine pop_len c0_1 _ _ sli46 ?_
  refine pop_leq .i64 (w64 (c0_2 + 1)) (c0_1.n : Int) ?_
  refine condM_b (fun hb_2 => ?_) (fun hb_2 => ?_)
  ·have H := H.1 hb_2
   have H := H  h_3  (Fr.old (Fr.r (In []) _) hf_2) hL_3
   exact H
  have H := H.2 hb_2
  refine pop_nil _ ?_
  refine pop_field 2 fld86_2 b_1 0 ?_
  refine rop_loc one84 hL_3 0 rfl 2 (v := (Value.int .u64 (IntKind.wrap .u64 ((IntKind.wrap .u64 ((IntKind.wrap .u64 (c0_3 * 6364136223846793005)) + t39_1)) + 1442695040888963407)))) rfl ?_
  refine H.mono fun rv_3 H => ?_
  obtain ⟨t59_1, rfl, H⟩ := H
  refine H.mono fun rv_4 H => ?_
  obtain ⟨t60_1, rfl, H⟩ := H
  have H := H  h_3  (Fr.old (Fr.r (In []) _) hf_2) hL_3
  refine H.mono fun rv_5 H => ?_
  obtain ⟨t61_1, rfl, H⟩ := H
  exact H
def u132 (P : Program) (x0_1 : Int) (y1_1 : Int) (h : Heap) (K : Value → Heap → Prop) : Prop :=
  callM P 142 #[(Value.int .u64 x0_1), (Value.int .u64 y1_1)] h fun rv_1 h_1 => ∃ t25_1 : Int, ∃ t25_2 : Int, rv_1 = (Value.tuple #[(Value.int .u64 t25_1), (Value.int .u64 t25_2)]) ∧ Vars h_1 [] ∧
  K (Value.tuple #[(Value.int .u64 t25_1), (Value.int .u64 t25_2)]) h_1
theorem v132 (x0_1 : Int) (y1_1 : Int) (h : Heap) (K : Value → Heap → Prop) (H : u132 Try.prog x0_1 y1_1 h K) : callM Try.prog 132 #[(Value.int .u64 x0_1), (Value.int .u64 y1_1)] h K := by
  refine c132 (Value.int .u64 x0_1) (Value.int .u64 y1_1) h K ?_
  unfold u132 at H
  unfold t132
  have hL : Vars h [] := .nil
  refine condM_f ?_
  refine H.mono fun rv_1 h_1 H => ?_
  obtain ⟨t25_1, t25_2, rfl, hL_1, H⟩ := H
  refine pop_ext (v := (Value.int .u64 t25_1)) rfl ?_
  refine pop_ext (v := (Value.int .u64 t25_2)) rfl ?_
  exact H
def u137 (P : Program) (data0_1 : Sl) (a1_1 : Int) (b2_1 : Int) (limit3_1 : Int) (h : Heap) (K : Value → Heap → Prop) : Prop :=
  ∃ J_1 : Nat → Int → Int → Int → Bool → Bool → Heap → Prop, (∃ n0 : Nat, J_1 n0 a1_1 b2_1 limit3_1 true true h) ∧
  ∀ (n_1 : Nat) (a1_2 : Int) (b2_2 : Int) (limit3_2 : Int) (wasBalanced8_1 : Bool) (wasPartitioned9_1 : Bool) (h_1 : Heap), J_1 n_1 a1_2 b2_2 limit3_2 wasBalanced8_1 wasPartitioned9_1 h_1 → Vars h_1 [] →
  ((decide ((w64 (b2_2 - a1_2)) ≤ 12)) = true →
  callM P 144 #[(Sl.v data0_1), (VI a1_2), (VI b2_2)] h_1 fun rv_1 h_2 => Vars h_2 [] ∧
  K (Value.tuple #[]) h_2) ∧
  ((decide ((w64 (b2_2 - a1_2)) ≤ 12)) = false →
  ((decide (limit3_2 = 0)) = true →
  callM P 145 #[(Sl.v data0_1), (VI a1_2), (VI b2_2)] h_1 fun rv_2 h_3 => Vars h_3 [] ∧
  K (Value.tuple #[]) h_3) ∧
  ((decide (limit3_2 = 0)) = false →
  ∃ J_2 : Int → Heap → Prop, (((!wasBalanced8_1) = true →
  callM P 146 #[(Sl.v data0_1), (VI a1_2), (VI b2_2)] h_1 fun rv_3 h_4 => Vars h_4 [] ∧
  J_2 (w64 (limit3_2 - 1)) h_4) ∧
  ((!wasBalanced8_1) = false →
  J_2 limit3_2 h_1)) ∧
  ∀ (x_1 : Int) (h_5 : Heap), J_2 x_1 h_5 → Vars h_5 [] →
  callM P 147 #[(Sl.v data0_1), (VI a1_2), (VI b2_2)] h_5 fun rv_4 h_6 => ∃ t46_1 : Int, ∃ t46_2 : Int, rv_4 = (Value.tuple #[(VI t46_1), (VI t46_2)]) ∧ Vars h_6 [] ∧
  ∃ J_3 : Int → Int → Heap → Prop, (((decide (t46_2 = 2)) = true →
  callM P 148 #[(Sl.v data0_1), (VI a1_2), (VI b2_2)] h_6 fun rv_5 h_7 => Vars h_7 [] ∧
  J_3 (w64 ((w64 (b2_2 - 1)) - (w64 (t46_1 - a1_2)))) 1 h_7) ∧
  ((decide (t46_2 = 2)) = false →
  J_3 t46_1 t46_2 h_6)) ∧
  ∀ (x_2 : Int) (x_3 : Int) (h_8 : Heap), J_3 x_2 x_3 h_8 → Vars h_8 [] →
  ∃ J_4 : Heap → Prop, ((wasBalanced8_1 = true →
  (wasPartitioned9_1 = true →
  ((decide (x_3 = 1)) = true →
  callM P 149 #[(Sl.v data0_1), (VI a1_2), (VI b2_2)] h_8 fun rv_6 h_9 => ∃ t72_1 : Bool, rv_6 = (VB t72_1) ∧ Vars h_9 [] ∧
  (t72_1 = true →
  K (Value.tuple #[]) h_9) ∧
  (t72_1 = false →
  J_4  h_9)) ∧
  ((decide (x_3 = 1)) = false →
  J_4  h_8)) ∧
  (wasPartitioned9_1 = false →
  J_4  h_8)) ∧
  (wasBalanced8_1 = false →
  J_4  h_8)) ∧
  ∀ (h_10 : Heap), J_4  h_10 → Vars h_10 [] →
  ((decide (0 < a1_2)) = true →
  InB data0_1 (w64 (a1_2 - 1)) ∧
  ∃ t80_1 : Int, hcell h_10 (Sl.at data0_1 (w64 (a1_2 - 1)) 1) = some (VI t80_1) ∧
  InB data0_1 x_2 ∧
  ∃ t84_1 : Int, hcell h_10 (Sl.at data0_1 x_2 1) = some (VI t84_1) ∧
  callM P 150 #[(VI t80_1), (VI t84_1)] h_10 fun rv_7 h_11 => ∃ t85_1 : Bool, rv_7 = (VB t85_1) ∧ Vars h_11 [] ∧
  ((!t85_1) = true →
  callM P 151 #[(Sl.v data0_1), (VI a1_2), (VI b2_2), (VI x_2)] h_11 fun rv_8 h_12 => ∃ t92_1 : Int, rv_8 = (VI t92_1) ∧ Vars h_12 [] ∧
  ∃ m : Nat, m < n_1 ∧ J_1 m t92_1 b2_2 x_1 wasBalanced8_1 wasPartitioned9_1 h_12) ∧
  ((!t85_1) = false →
  callM P 152 #[(Sl.v data0_1), (VI a1_2), (VI b2_2), (VI x_2)] h_11 fun rv_9 h_13 => ∃ t99_1 : Int, ∃ t99_2 : Bool, rv_9 = (Value.tuple #[(VI t99_1), (VB t99_2)]) ∧ Vars h_13 [] ∧
  ((decide ((w64 (t99_1 - a1_2)) < (w64 (b2_2 - t99_1)))) = true →
  callM P 137 #[(Sl.v data0_1), (VI a1_2), (VI t99_1), (VI x_1)] h_13 fun rv_10 h_14 => Vars h_14 [] ∧
  ∃ m : Nat, m < n_1 ∧ J_1 m (w64 (t99_1 + 1)) b2_2 x_1 (decide ((w64 (Int.tdiv (w64 (b2_2 - a1_2)) 8)) ≤ (w64 (t99_1 - a1_2)))) t99_2 h_14) ∧
  ((decide ((w64 (t99_1 - a1_2)) < (w64 (b2_2 - t99_1)))) = false →
  callM P 137 #[(Sl.v data0_1), (VI (w64 (t99_1 + 1))), (VI b2_2), (VI x_1)] h_13 fun rv_11 h_15 => Vars h_15 [] ∧
  ∃ m : Nat, m < n_1 ∧ J_1 m a1_2 t99_1 x_1 (decide ((w64 (Int.tdiv (w64 (b2_2 - a1_2)) 8)) ≤ (w64 (b2_2 - t99_1)))) t99_2 h_15))) ∧
  ((decide (0 < a1_2)) = false →
  callM P 152 #[(Sl.v data0_1), (VI a1_2), (VI b2_2), (VI x_2)] h_10 fun rv_12 h_16 => ∃ t99_3 : Int, ∃ t99_4 : Bool, rv_12 = (Value.tuple #[(VI t99_3), (VB t99_4)]) ∧ Vars h_16 [] ∧
  ((decide ((w64 (t99_3 - a1_2)) < (w64 (b2_2 - t99_3)))) = true →
  callM P 137 #[(Sl.v data0_1), (VI a1_2), (VI t99_3), (VI x_1)] h_16 fun rv_13 h_17 => Vars h_17 [] ∧
  ∃ m : Nat, m < n_1 ∧ J_1 m (w64 (t99_3 + 1)) b2_2 x_1 (decide ((w64 (Int.tdiv (w64 (b2_2 - a1_2)) 8)) ≤ (w64 (t99_3 - a1_2)))) t99_4 h_17) ∧
  ((decide ((w64 (t99_3 - a1_2)) < (w64 (b2_2 - t99_3)))) = false →
  callM P 137 #[(Sl.v data0_1), (VI (w64 (t99_3 + 1))), (VI b2_2), (VI x_1)] h_16 fun rv_14 h_18 => Vars h_18 [] ∧
  ∃ m : Nat, m < n_1 ∧ J_1 m a1_2 t99_3 x_1 (decide ((w64 (Int.tdiv (w64 (b2_2 - a1_2)) 8)) ≤ (w64 (b2_2 - t99_3)))) t99_4 h_18))))
theorem v137 (data0_1 : Sl) (a1_1 : Int) (b2_1 : Int) (limit3_1 : Int) (h : Heap) (K : Value → Heap → Prop) (H : u137 Try.prog data0_1 a1_1 b2_1 limit3_1 h K) : callM Try.prog 137 #[(Sl.v data0_1), (VI a1_1), (VI b2_1), (VI limit3_1)] h K := by
  refine c137 (Sl.v data0_1) (VI a1_1) (VI b2_1) (VI limit3_1) h K ?_
  unfold u137 at H
  unfold t137
  have hL : Vars h [] := .nil
  obtain ⟨J_1, ⟨n_2, h0_1⟩, HB_4⟩ := H
  refine loop_intro (J := fun (n : Nat) (vs : List Value) (h' : Heap) => ∃ a1_2 : Int, ∃ b2_2 : Int, ∃ limit3_2 : Int, ∃ wasBalanced8_1 : Bool, ∃ wasPartitioned9_1 : Bool, vs = [(VI a1_2), (VI b2_2), (VI limit3_2), (VB wasBalanced8_1), (VB wasPartitioned9_1)] ∧ J_1 n a1_2 b2_2 limit3_2 wasBalanced8_1 wasPartitioned9_1 h' ∧ Vars h' []) n_2 ⟨a1_1, b2_1, limit3_1, true, true, rfl, h0_1, hL⟩ ?_
  intro I_1 mu_1 hI_1 junk_1 tv_4 tv_5 tv_6 tv_7 tv_8 h_1 hi_1
  obtain ⟨n_1, ⟨a1_2, b2_2, limit3_2, wasBalanced8_1, wasPartitioned9_1, hv, hJ_1, hL_1⟩, hn_1⟩ := hI_1 _ _ hi_1
  cases hv
  have H := HB_4 n_1 a1_2 b2_2 limit3_2 wasBalanced8_1 wasPartitioned9_1 h_1 hJ_1 hL_1
  refine pop_sub .i64 b2_2 a1_2 ?_
  refine pop_leq .i64 (w64 (b2_2 - a1_2)) 12 ?_
  refine condM_b (fun hb_1 => ?_) (fun hb_1 => ?_)
  ·have H := H.1 hb_1
   refine H.mono fun rv_1 h_2 H => ?_
   obtain ⟨hL_2, H⟩ := H
   exact H
  have H := H.2 hb_1
  refine pop_ieq .i64 _ _ limit3_2 0 ?_
  refine condM_b (fun hb_2 => ?_) (fun hb_2 => ?_)
  ·have H := H.1 hb_2
   refine H.mono fun rv_2 h_3 H => ?_
   obtain ⟨hL_3, H⟩ := H
   exact H
  have H := H.2 hb_2
  obtain ⟨J_2, H, HB_3⟩ := H
  refine ⟨fun (vs : List Value) (h' : Heap) => ∃ x_1 : Int, vs = [(VI x_1)] ∧ J_2 x_1 h' ∧ Vars h' [], ?_, ?_⟩
  ·refine pop_not wasBalanced8_1 ?_
   refine condM_b (fun hb_3 => ?_) (fun hb_3 => ?_)
   rotate_left
   ·have H := H.2 hb_3
    exact ⟨limit3_2, rfl, H, hL_1⟩
   have H := H.1 hb_3
   refine H.mono fun rv_3 h_4 H => ?_
   obtain ⟨hL_4, H⟩ := H
   refine pop_sub .i64 limit3_2 1 ?_
   exact ⟨(w64 (limit3_2 - 1)), rfl, H, hL_4⟩
  intro junk_2 tv_1 h_5
  rintro ⟨x_1, hv, hJ_2, hL_5⟩
  cases hv
  have H := HB_3 x_1 h_5 hJ_2 hL_5
  refine H.mono fun rv_4 h_6 H => ?_
  obtain ⟨t46_1, t46_2, rfl, hL_6, H⟩ := H
  refine pop_ext (v := (VI t46_1)) rfl ?_
  refine pop_ext (v := (VI t46_2)) rfl ?_
  obtain ⟨J_3, H, HB_2⟩ := H
  refine ⟨fun (vs : List Value) (h' : Heap) => ∃ x_2 : Int, ∃ x_3 : Int, vs = [(VI x_2), (VI x_3)] ∧ J_3 x_2 x_3 h' ∧ Vars h' [], ?_, ?_⟩
  ·refine pop_ieq .i64 _ _ t46_2 2 ?_
   refine condM_b (fun hb_4 => ?_) (fun hb_4 => ?_)
   rotate_left
   ·have H := H.2 hb_4
    exact ⟨t46_1, t46_2, rfl, H, hL_6⟩
   have H := H.1 hb_4
   refine H.mono fun rv_5 h_7 H => ?_
   obtain ⟨hL_7, H⟩ := H
   refine pop_sub .i64 b2_2 1 ?_
   refine pop_sub .i64 t46_1 a1_2 ?_
   refine pop_sub .i64 (w64 (b2_2 - 1)) (w64 (t46_1 - a1_2)) ?_
   exact ⟨(w64 ((w64 (b2_2 - 1)) - (w64 (t46_1 - a1_2)))), 1, rfl, H, hL_7⟩
  intro junk_3 tv_2 tv_3 h_8
  rintro ⟨x_2, x_3, hv, hJ_3, hL_8⟩
  cases hv
  have H := HB_2 x_2 x_3 h_8 hJ_3 hL_8
  obtain ⟨J_4, H, HB_1⟩ := H
  refine ⟨fun (vs : List Value) (h' : Heap) => vs = [] ∧ J_4  h' ∧ Vars h' [], ?_, ?_⟩
  ·refine guardM_st (fun hb_5 => ?_) (fun hb_5 => ?_)
   rotate_left
   ·have H := H.2 hb_5
    refine pop_pickf' hb_5 ?_
    refine guardM_n (by decide) ?_
    refine guardM_n (by decide) ?_
    refine pop_pickf _ _ ?_
    refine condM_f ?_
    exact ⟨rfl, H, hL_8⟩
   have H := H.1 hb_5
   refine pop_pickt' hb_5 ?_
   refine guardM_st (fun hb_6 => ?_) (fun hb_6 => ?_)
   rotate_left
   ·have H := H.2 hb_6
    refine guardM_n' hb_6 (by decide) ?_
    refine pop_pickf' hb_6 ?_
    refine condM_f ?_
    exact ⟨rfl, H, hL_8⟩
   have H := H.1 hb_6
   refine guardM_y' hb_6 ?_
   refine pop_ieq .i64 _ _ x_3 1 ?_
   refine pop_pickt' hb_6 ?_
   refine condM_b (fun hb_7 => ?_) (fun hb_7 => ?_)
   rotate_left
   ·have H := H.2 hb_7
    exact ⟨rfl, H, hL_8⟩
   have H := H.1 hb_7
   refine H.mono fun rv_6 h_9 H => ?_
   obtain ⟨t72_1, rfl, hL_9, H⟩ := H
   refine condM_b (fun hb_8 => ?_) (fun hb_8 => ?_)
   ·have H := H.1 hb_8
    exact H
   have H := H.2 hb_8
   exact ⟨rfl, H, hL_9⟩
  intro junk_4  h_10
  rintro ⟨hv, hJ_4, hL_10⟩
  have H := HB_1  h_10 hJ_4 hL_10
  refine pop_gtr .i64 a1_2 0 ?_
  refine guardM_st (fun hb_9 => ?_) (fun hb_9 => ?_)
  rotate_left
  ·have H := H.2 hb_9
   refine guardM_n' hb_9 (by decide) ?_
   refine guardM_n' hb_9 (by decide) ?_
   refine guardM_n' hb_9 (by decide) ?_
   refine guardM_n' hb_9 (by decide) ?_
   refine guardM_n' hb_9 (by decide) ?_
   refine guardM_n' hb_9 (by decide) ?_
   refine guardM_n' hb_9 (by decide) ?_
   refine guardM_n' hb_9 (by decide) ?_
   refine guardM_n' hb_9 (by decide) ?_
   refine guardM_n' hb_9 (by decide) ?_
   refine pop_pickf' hb_9 ?_
   refine condM_f ?_
   refine H.mono fun rv_12 h_16 H => ?_
   obtain ⟨t99_3, t99_4, rfl, hL_16, H⟩ := H
   refine pop_ext (v := (VI t99_3)) rfl ?_
   refine pop_ext (v := (VB t99_4)) rfl ?_
   refine pop_sub .i64 t99_3 a1_2 ?_
   refine pop_sub .i64 b2_2 t99_3 ?_
   refine pop_quo .i64 (w64 (b2_2 - a1_2)) 8 (by decide) ?_
   refine pop_lss .i64 (w64 (t99_3 - a1_2)) (w64 (b2_2 - t99_3)) ?_
   refine condM_b (fun hb_12 => ?_) (fun hb_12 => ?_)
   ·have H := H.1 hb_12
    refine pop_geq .i64 (w64 (t99_3 - a1_2)) (w64 (Int.tdiv (w64 (b2_2 - a1_2)) 8)) ?_
    refine H.mono fun rv_13 h_17 H => ?_
    obtain ⟨hL_17, H⟩ := H
    refine pop_add .i64 t99_3 1 ?_
    obtain ⟨m_4, hm_4, H⟩ := H
    exact hn_1 _ _ ⟨m_4, hm_4, (w64 (t99_3 + 1)), b2_2, x_1, (decide ((w64 (Int.tdiv (w64 (b2_2 - a1_2)) 8)) ≤ (w64 (t99_3 - a1_2)))), t99_4, rfl, H, hL_17⟩
   have H := H.2 hb_12
   refine pop_geq .i64 (w64 (b2_2 - t99_3)) (w64 (Int.tdiv (w64 (b2_2 - a1_2)) 8)) ?_
   refine pop_add .i64 t99_3 1 ?_
   refine H.mono fun rv_14 h_18 H => ?_
   obtain ⟨hL_18, H⟩ := H
   obtain ⟨m_5, hm_5, H⟩ := H
   exact hn_1 _ _ ⟨m_5, hm_5, a1_2, t99_3, x_1, (decide ((w64 (Int.tdiv (w64 (b2_2 - a1_2)) 8)) ≤ (w64 (b2_2 - t99_3)))), t99_4, rfl, H, hL_18⟩
  have H := H.1 hb_9
  refine guardM_y' hb_9 ?_
  refine guardM_y' hb_9 ?_
  refine pop_sub .i64 a1_2 1 ?_
  refine guardM_y' hb_9 ?_
  obtain ⟨hi_2, H⟩ := H
  refine pop_index sli27 siz3 .i64 data0_1 (w64 (a1_2 - 1)) hi_2 ?_
  refine guardM_y' hb_9 ?_
  obtain ⟨t80_1, hc_2, H⟩ := H
  refine rop_one one3 (VI t80_1) hc_2 ?_
  refine guardM_y' hb_9 ?_
  refine guardM_y' hb_9 ?_
  refine guardM_y' hb_9 ?_
  obtain ⟨hi_3, H⟩ := H
  refine pop_index sli27 siz3 .i64 data0_1 x_2 hi_3 ?_
  refine guardM_y' hb_9 ?_
  obtain ⟨t84_1, hc_1, H⟩ := H
  refine rop_one one3 (VI t84_1) hc_1 ?_
  refine guardM_y' hb_9 ?_
  refine H.mono fun rv_7 h_11 H => ?_
  obtain ⟨t85_1, rfl, hL_11, H⟩ := H
  refine guardM_y' hb_9 ?_
  refine pop_not t85_1 ?_
  refine pop_pickt' hb_9 ?_
  refine condM_b (fun hb_10 => ?_) (fun hb_10 => ?_)
  ·have H := H.1 hb_10
   refine H.mono fun rv_8 h_12 H => ?_
   obtain ⟨t92_1, rfl, hL_12, H⟩ := H
   obtain ⟨m_1, hm_1, H⟩ := H
   exact hn_1 _ _ ⟨m_1, hm_1, t92_1, b2_2, x_1, wasBalanced8_1, wasPartitioned9_1, rfl, H, hL_12⟩
  have H := H.2 hb_10
  refine H.mono fun rv_9 h_13 H => ?_
  obtain ⟨t99_1, t99_2, rfl, hL_13, H⟩ := H
  refine pop_ext (v := (VI t99_1)) rfl ?_
  refine pop_ext (v := (VB t99_2)) rfl ?_
  refine pop_sub .i64 t99_1 a1_2 ?_
  refine pop_sub .i64 b2_2 t99_1 ?_
  refine pop_quo .i64 (w64 (b2_2 - a1_2)) 8 (by decide) ?_
  refine pop_lss .i64 (w64 (t99_1 - a1_2)) (w64 (b2_2 - t99_1)) ?_
  refine condM_b (fun hb_11 => ?_) (fun hb_11 => ?_)
  ·have H := H.1 hb_11
   refine pop_geq .i64 (w64 (t99_1 - a1_2)) (w64 (Int.tdiv (w64 (b2_2 - a1_2)) 8)) ?_
   refine H.mono fun rv_10 h_14 H => ?_
   obtain ⟨hL_14, H⟩ := H
   refine pop_add .i64 t99_1 1 ?_
   obtain ⟨m_2, hm_2, H⟩ := H
   exact hn_1 _ _ ⟨m_2, hm_2, (w64 (t99_1 + 1)), b2_2, x_1, (decide ((w64 (Int.tdiv (w64 (b2_2 - a1_2)) 8)) ≤ (w64 (t99_1 - a1_2)))), t99_2, rfl, H, hL_14⟩
  have H := H.2 hb_11
  refine pop_geq .i64 (w64 (b2_2 - t99_1)) (w64 (Int.tdiv (w64 (b2_2 - a1_2)) 8)) ?_
  refine pop_add .i64 t99_1 1 ?_
  refine H.mono fun rv_11 h_15 H => ?_
  obtain ⟨hL_15, H⟩ := H
  obtain ⟨m_3, hm_3, H⟩ := H
  exact hn_1 _ _ ⟨m_3, hm_3, a1_2, t99_1, x_1, (decide ((w64 (Int.tdiv (w64 (b2_2 - a1_2)) 8)) ≤ (w64 (b2_2 - t99_1)))), t99_2, rfl, H, hL_15⟩
def u138 (P : Program) (x0_1 : Int) (h : Heap) (K : Value → Heap → Prop) : Prop :=
  callM P 154 #[(Value.int .u64 x0_1)] h fun rv_1 h_1 => ∃ t7_1 : Int, rv_1 = (VI t7_1) ∧ Vars h_1 [] ∧
  K (VI t7_1) h_1
theorem v138 (x0_1 : Int) (h : Heap) (K : Value → Heap → Prop) (H : u138 Try.prog x0_1 h K) : callM Try.prog 138 #[(Value.int .u64 x0_1)] h K := by
  refine c138 (Value.int .u64 x0_1) h K ?_
  unfold u138 at H
  unfold t138
  have hL : Vars h [] := .nil
  refine condM_f ?_
  refine H.mono fun rv_1 h_1 H => ?_
  obtain ⟨t7_1, rfl, hL_1, H⟩ := H
  exact H
end Go.Proofs.Ytkjkfjkapbpgiaa
