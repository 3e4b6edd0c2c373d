/-
  The same over typed data. Written by a program.
-/
import Derived.Test.YtkjkfjkapbpgiaaDoorEulerTourU
import Derived.Test.YtkjkfjkapbpgiaaDoorEulerTourT
import Derived.Test.YtkjkfjkapbpgiaaDoorM2
set_option linter.unusedVariables false
set_option linter.unusedSimpArgs false
set_option maxRecDepth 100000
set_option maxHeartbeats 16000000
namespace Go.Proofs.YtkjkfjkapbpgiaaDoor
open Go Go.Mx
theorem v102 (g0_1 : Sl) (w1_1 : Sl) (w1_2 : Int) (most2_1 : Int) (h : Heap) (K : Value → Heap → Prop) (H : u102 Tryd.prog g0_1 w1_1 w1_2 most2_1 h K) : callM Tryd.prog 102 #[(Value.agg #[(Sl.v g0_1)]), (Value.agg #[(Sl.v w1_1), (VI w1_2)]), (VI most2_1)] h K := by
  refine c102 (Value.agg #[(Sl.v g0_1)]) (Value.agg #[(Sl.v w1_1), (VI w1_2)]) (VI most2_1) h K ?_
  unfold u102 at H
  unfold t102
  have hL : Vars h [] := .nil
  refine eop_box 41 (Value.agg #[(Sl.v g0_1)]) rfl hL (fun b_1 h_1 hb_1 hf_1 hL_1 => ?_)
  refine eop_box 43 (Value.agg #[(Sl.v w1_1), (VI w1_2)]) rfl hL_1 (fun b_2 h_2 hb_2 hf_2 hL_2 => ?_)
  refine rop_locA agg43 hL_2 0 rfl 0 (vs := [(Sl.v w1_1), (VI w1_2)]) rfl rfl ?_
  refine eop_alloc 43 zer43 rfl hL_2 (fun b_3 h_3 hb_3 hf_3 hL_3 => ?_)
  refine uop_loc siz43 hL_3 0 rfl 0 [(Sl.v w1_1), (VI w1_2)] rfl rfl rfl (Nat.le_of_ble_eq_true rfl) (L' := [(b_3, [(Sl.v w1_1), (VI w1_2)]), (b_2, [(Sl.v w1_1), (VI w1_2)]), (b_1, [(Sl.v g0_1)])]) rfl (fun h_4 hf_4 hL_4 => ?_)
  have H := H b_1 b_2 b_3 h_4 (Nat.le_trans (Fr.size (Fr.r (In []) _)) hb_1) (Nat.le_trans (Fr.size (Fr.no' (Fr.r (In []) _) hf_1)) hb_2) (Nat.le_trans (Fr.size (Fr.no' (Fr.no' (Fr.r (In []) _) hf_1) hf_2)) hb_3) (Fr.new (Fr.no' (Fr.no' (Fr.no' (Fr.r (In []) _) hf_1) hf_2) hf_3) (Nat.le_trans (Fr.size (Fr.no' (Fr.no' (Fr.r (In []) _) hf_1) hf_2)) hb_3) hf_4) hL_4
  obtain ⟨J_1, ⟨n_2, h0_1⟩, HB_1⟩ := H
  refine loop_intro (J := fun (n : Nat) (vs : List Value) (h' : Heap) => ∃ n8_1 : Int, ∃ x_1 : Sl, ∃ x_2 : Int, vs = [(VI n8_1)] ∧ J_1 n n8_1 x_1 x_2 h' ∧ Vars h' [(b_3, [(Sl.v x_1), (VI x_2)]), (b_2, [(Sl.v w1_1), (VI w1_2)]), (b_1, [(Sl.v g0_1)])]) n_2 ⟨1, w1_1, w1_2, rfl, h0_1, hL_4⟩ ?_
  intro I_1 mu_1 hI_1 junk_1 tv_1 h_5 hi_1
  obtain ⟨n_1, ⟨n8_1, x_1, x_2, hv, hJ_1, hL_5⟩, hn_1⟩ := hI_1 _ _ hi_1
  cases hv
  have H := HB_1 n_1 n8_1 x_1 x_2 h_5 hJ_1 hL_5
  refine pop_leq .i64 n8_1 most2_1 ?_
  refine condM_b (fun hb_4 => ?_) (fun hb_4 => ?_)
  rotate_left
  ·have H := H.2 hb_4
   exact H
  have H := H.1 hb_4
  refine rop_locA agg41 hL_5 2 rfl 0 (vs := [(Sl.v g0_1)]) rfl rfl ?_
  refine rop_locA agg43 hL_5 0 rfl 0 (vs := [(Sl.v x_1), (VI x_2)]) rfl rfl ?_
  refine H.mono fun rv_1 h_6 H => ?_
  obtain ⟨t20_1, t20_2, t20_3, rfl, hL_6, H⟩ := H
  refine pop_ext (v := (Value.agg #[(Sl.v t20_1), (VI t20_2)])) rfl ?_
  refine pop_ext (v := (VB t20_3)) rfl ?_
  refine eop_alloc 43 zer43 rfl hL_6 (fun b_4 h_7 hb_5 hf_5 hL_7 => ?_)
  refine uop_loc siz43 hL_7 0 rfl 0 [(Sl.v t20_1), (VI t20_2)] rfl rfl rfl (Nat.le_of_ble_eq_true rfl) (L' := [(b_4, [(Sl.v t20_1), (VI t20_2)]), (b_3, [(Sl.v x_1), (VI x_2)]), (b_2, [(Sl.v w1_1), (VI w1_2)]), (b_1, [(Sl.v g0_1)])]) rfl (fun h_8 hf_6 hL_8 => ?_)
  refine pop_not t20_3 ?_
  refine condM_b (fun hb_6 => ?_) (fun hb_6 => ?_)
  ·have H := H.1 hb_6
   have H := H b_4 h_8 (Nat.le_trans (Fr.size (Fr.r (In []) _)) hb_5) (Fr.new (Fr.no' (Fr.r (In []) _) hf_5) (Nat.le_trans (Fr.size (Fr.r (In []) _)) hb_5) hf_6) hL_8
   exact H
  have H := H.2 hb_6
  refine rop_locA agg43 hL_8 0 rfl 0 (vs := [(Sl.v t20_1), (VI t20_2)]) rfl rfl ?_
  refine uop_loc siz43 hL_8 1 rfl 0 [(Sl.v t20_1), (VI t20_2)] rfl rfl rfl (Nat.le_of_ble_eq_true rfl) (L' := [(b_4, [(Sl.v t20_1), (VI t20_2)]), (b_3, [(Sl.v t20_1), (VI t20_2)]), (b_2, [(Sl.v w1_1), (VI w1_2)]), (b_1, [(Sl.v g0_1)])]) rfl (fun h_9 hf_7 hL_9 => ?_)
  refine rop_locA agg43 hL_9 1 rfl 0 (vs := [(Sl.v t20_1), (VI t20_2)]) rfl rfl ?_
  refine rop_locA agg43 hL_9 2 rfl 0 (vs := [(Sl.v w1_1), (VI w1_2)]) rfl rfl ?_
  have H := H b_4 h_9 (Nat.le_trans (Fr.size (Fr.r (In []) _)) hb_5) (Fr.old (Fr.new (Fr.no' (Fr.r (In []) _) hf_5) (Nat.le_trans (Fr.size (Fr.r (In []) _)) hb_5) hf_6) hf_7) hL_9
  refine H.mono fun rv_2 h_10 H => ?_
  obtain ⟨t28_1, rfl, hL_10, H⟩ := H
  refine condM_b (fun hb_7 => ?_) (fun hb_7 => ?_)
  ·have H := H.1 hb_7
   exact H
  have H := H.2 hb_7
  refine pop_add .i64 n8_1 1 ?_
  obtain ⟨m_1, hm_1, H⟩ := H
  exact hn_1 _ _ ⟨m_1, hm_1, (w64 (n8_1 + 1)), t20_1, t20_2, rfl, H, (Vars.tail hL_10)⟩

/-! slices.Clone[[]int,int] -/
def u105 (P : Program) (s0_1 : Sl) (h : Heap) (K : Value → Heap → Prop) : Prop :=
  pop P (binE .eql 34 (.tmp 3) (.const (Value.slice none 0 0)) (Sl.v s0_1) (Value.slice none 0 0)) fun rv_1 => ∃ t4_1 : Bool, rv_1 = (VB t4_1) ∧ 
  (t4_1 = true →
  K (Sl.v nilSl) h) ∧
  (t4_1 = false →
  eop P (Instr.buildSlice 34 0 #[]) h fun rv_2 h_1 => ∃ t5_1 : Sl, rv_2 = (Sl.v t5_1) ∧ Vars h_1 [] ∧
  eop P (appS 34 34 34 (Sl.v t5_1) (Sl.v s0_1)) h_1 fun rv_3 h_2 => ∃ t7_1 : Sl, rv_3 = (Sl.v t7_1) ∧ Vars h_2 [] ∧
  K (Sl.v t7_1) h_2)
theorem v105 (s0_1 : Sl) (h : Heap) (K : Value → Heap → Prop) (H : u105 Tryd.prog s0_1 h K) : callM Tryd.prog 105 #[(Sl.v s0_1)] h K := by
  refine c105 (Sl.v s0_1) h K ?_
  unfold u105 at H
  unfold t105
  have hL : Vars h [] := .nil
  refine H.mono fun rv_1 H => ?_
  obtain ⟨t4_1, rfl, H⟩ := H
  refine condM_b (fun hb_1 => ?_) (fun hb_1 => ?_)
  ·have H := H.1 hb_1
   exact H
  have H := H.2 hb_1
  refine H.mono fun rv_2 h_1 H => ?_
  obtain ⟨t5_1, rfl, hL_1, H⟩ := H
  refine H.mono fun rv_3 h_2 H => ?_
  obtain ⟨t7_1, rfl, hL_2, H⟩ := H
  exact H

/-! spec.grGood -/
def u106 (P : Program) (g0_1 : Sl) (h : Heap) (K : Value → Heap → Prop) : Prop :=
  ∀ (b_1 : Nat) (h_1 : Heap), h.size ≤ b_1 → Fr (In []) h h_1 → Vars h_1 [(b_1, [(Sl.v g0_1)])] →
  callM P 51 #[(VI (g0_1.n : Int)), (VI 1), (VI 8)] h_1 fun rv_1 h_2 => ∃ t10_1 : Bool, rv_1 = (VB t10_1) ∧ Vars h_2 [(b_1, [(Sl.v g0_1)])] ∧
  ((!t10_1) = true →
  K (VB false) h_2) ∧
  ((!t10_1) = false →
  ∃ J_1 : Nat → Int → Heap → Prop, (∃ n0 : Nat, J_1 n0 0 h_2) ∧
  ∀ (n_1 : Nat) (t15_1 : Int) (h_3 : Heap), J_1 n_1 t15_1 h_3 → Vars h_3 [(b_1, [(Sl.v g0_1)])] →
  ((decide (t15_1 < (g0_1.n : Int))) = true →
  InB g0_1 t15_1 ∧
  ∃ t18_1 : Sl, hcell h_3 (Sl.at g0_1 t15_1 1) = some (Sl.v t18_1) ∧
  ((decide (5 < (t18_1.n : Int))) = true →
  K (VB false) h_3) ∧
  ((decide (5 < (t18_1.n : Int))) = false →
  callM P 52 #[(Sl.v t18_1), (VI 0), (VI (w64 ((g0_1.n : Int) - 1)))] h_3 fun rv_2 h_4 => ∃ t26_1 : Bool, rv_2 = (VB t26_1) ∧ Vars h_4 [(b_1, [(Sl.v g0_1)])] ∧
  ((!t26_1) = true →
  K (VB false) h_4) ∧
  ((!t26_1) = false →
  ∃ m : Nat, m < n_1 ∧ J_1 m (w64 (t15_1 + 1)) h_4))) ∧
  ((decide (t15_1 < (g0_1.n : Int))) = false →
  K (VB true) h_3))
theorem v106 (g0_1 : Sl) (h : Heap) (K : Value → Heap → Prop) (H : u106 Tryd.prog g0_1 h K) : callM Tryd.prog 106 #[(Value.agg #[(Sl.v g0_1)])] h K := by
  refine c106 (Value.agg #[(Sl.v g0_1)]) h K ?_
  unfold u106 at H
  unfold t106
  have hL : Vars h [] := .nil
  refine eop_box 41 (Value.agg #[(Sl.v g0_1)]) rfl hL (fun b_1 h_1 hb_1 hf_1 hL_1 => ?_)
  refine pop_field 0 fld41_0 b_1 0 ?_
  refine rop_loc one22 hL_1 0 rfl 0 (v := (Sl.v g0_1)) rfl ?_
  refine pop_len g0_1 _ _ sli22 ?_
  have H := H b_1 h_1 (Nat.le_trans (Fr.size (Fr.r (In []) _)) hb_1) (Fr.no' (Fr.r (In []) _) hf_1) hL_1
  refine H.mono fun rv_1 h_2 H => ?_
  obtain ⟨t10_1, rfl, hL_2, H⟩ := H
  refine pop_not t10_1 ?_
  refine condM_b (fun hb_2 => ?_) (fun hb_2 => ?_)
  ·have H := H.1 hb_2
   exact H
  have H := H.2 hb_2
  refine pop_field 0 fld41_0 b_1 0 ?_
  refine rop_loc one22 hL_2 0 rfl 0 (v := (Sl.v g0_1)) rfl ?_
  refine pop_len g0_1 _ _ sli22 ?_
  obtain ⟨J_1, ⟨n_2, h0_1⟩, HB_1⟩ := H
  refine loop_intro (J := fun (n : Nat) (vs : List Value) (h' : Heap) => ∃ t15_1 : Int, vs = [(VI t15_1)] ∧ J_1 n t15_1 h' ∧ Vars h' [(b_1, [(Sl.v g0_1)])]) n_2 ⟨0, rfl, h0_1, hL_2⟩ ?_
  intro I_1 mu_1 hI_1 junk_1 tv_1 h_3 hi_1
  obtain ⟨n_1, ⟨t15_1, hv, hJ_1, hL_3⟩, hn_1⟩ := hI_1 _ _ hi_1
  cases hv
  have H := HB_1 n_1 t15_1 h_3 hJ_1 hL_3
  refine pop_lss .i64 t15_1 (g0_1.n : Int) ?_
  refine condM_b (fun hb_3 => ?_) (fun hb_3 => ?_)
  rotate_left
  ·have H := H.2 hb_3
   exact H
  have H := H.1 hb_3
  obtain ⟨hi_2, H⟩ := H
  refine pop_index sli22 siz34 .i64 g0_1 t15_1 hi_2 ?_
  obtain ⟨t18_1, hc_1, H⟩ := H
  refine rop_one one34 (Sl.v t18_1) hc_1 ?_
  refine pop_len t18_1 _ _ sli34 ?_
  refine pop_gtr .i64 (t18_1.n : Int) 5 ?_
  refine guardM_sf (fun hb_4 => ?_) (fun hb_4 => ?_)
  rotate_left
  ·have H := H.1 hb_4
   refine guardM_n' hb_4 (by decide) ?_
   refine guardM_n' hb_4 (by decide) ?_
   refine guardM_n' hb_4 (by decide) ?_
   refine guardM_n' hb_4 (by decide) ?_
   refine pop_pickt' hb_4 ?_
   refine condM_t ?_
   exact H
  have H := H.2 hb_4
  refine guardM_y' hb_4 ?_
  refine guardM_y' hb_4 ?_
  refine pop_sub .i64 (g0_1.n : Int) 1 ?_
  refine guardM_y' hb_4 ?_
  refine H.mono fun rv_2 h_4 H => ?_
  obtain ⟨t26_1, rfl, hL_4, H⟩ := H
  refine guardM_y' hb_4 ?_
  refine pop_not t26_1 ?_
  refine pop_pickf' hb_4 ?_
  refine condM_b (fun hb_5 => ?_) (fun hb_5 => ?_)
  ·have H := H.1 hb_5
   exact H
  have H := H.2 hb_5
  refine pop_add .i64 t15_1 1 ?_
  obtain ⟨m_1, hm_1, H⟩ := H
  exact hn_1 _ _ ⟨m_1, hm_1, (w64 (t15_1 + 1)), rfl, H, hL_4⟩

/-! spec.grReach -/
def u107 (P : Program) (g0_1 : Sl) (p1_1 : Int) (h : Heap) (K : Value → Heap → Prop) : Prop :=
  ∀ (b_1 : Nat) (h_1 : Heap), h.size ≤ b_1 → Fr (In []) h h_1 → Vars h_1 [(b_1, [(Sl.v g0_1)])] →
  callM P 122 #[(Value.agg #[(Sl.v g0_1)]), (VI p1_1)] h_1 fun rv_1 h_2 => ∃ t10_1 : Sl, rv_1 = (Sl.v t10_1) ∧ Vars h_2 [(b_1, [(Sl.v g0_1)])] ∧
  ∃ J_1 : Nat → Sl → Int → Heap → Prop, (∃ n0 : Nat, J_1 n0 nilSl 0 h_2) ∧
  ∀ (n_1 : Nat) (out5_1 : Sl) (t12_1 : Int) (h_3 : Heap), J_1 n_1 out5_1 t12_1 h_3 → Vars h_3 [(b_1, [(Sl.v g0_1)])] →
  ((decide (t12_1 < (t10_1.n : Int))) = true →
  InB t10_1 t12_1 ∧
  ∃ t16_1 : Int, hcell h_3 (Sl.at t10_1 t12_1 1) = some (VI t16_1) ∧
  ((decide (0 ≤ t16_1)) = true →
  eop P (Instr.buildSlice 34 1 #[(0, (VI t12_1))]) h_3 fun rv_2 h_4 => ∃ t21_1 : Sl, rv_2 = (Sl.v t21_1) ∧ Vars h_4 [(b_1, [(Sl.v g0_1)])] ∧
  eop P (appS 34 34 34 (Sl.v out5_1) (Sl.v t21_1)) h_4 fun rv_3 h_5 => ∃ t22_1 : Sl, rv_3 = (Sl.v t22_1) ∧ Vars h_5 [(b_1, [(Sl.v g0_1)])] ∧
  ∃ m : Nat, m < n_1 ∧ J_1 m t22_1 (w64 (t12_1 + 1)) h_5) ∧
  ((decide (0 ≤ t16_1)) = false →
  ∃ m : Nat, m < n_1 ∧ J_1 m out5_1 (w64 (t12_1 + 1)) h_3)) ∧
  ((decide (t12_1 < (t10_1.n : Int))) = false →
  K (Sl.v out5_1) h_3)
theorem v107 (g0_1 : Sl) (p1_1 : Int) (h : Heap) (K : Value → Heap → Prop) (H : u107 Tryd.prog g0_1 p1_1 h K) : callM Tryd.prog 107 #[(Value.agg #[(Sl.v g0_1)]), (VI p1_1)] h K := by
  refine c107 (Value.agg #[(Sl.v g0_1)]) (VI p1_1) h K ?_
  unfold u107 at H
  unfold t107
  have hL : Vars h [] := .nil
  refine eop_box 41 (Value.agg #[(Sl.v g0_1)]) rfl hL (fun b_1 h_1 hb_1 hf_1 hL_1 => ?_)
  refine rop_locA agg41 hL_1 0 rfl 0 (vs := [(Sl.v g0_1)]) rfl rfl ?_
  have H := H b_1 h_1 (Nat.le_trans (Fr.size (Fr.r (In []) _)) hb_1) (Fr.no' (Fr.r (In []) _) hf_1) hL_1
  refine H.mono fun rv_1 h_2 H => ?_
  obtain ⟨t10_1, rfl, hL_2, H⟩ := H
  refine pop_len t10_1 _ _ sli34 ?_
  obtain ⟨J_1, ⟨n_2, h0_1⟩, HB_1⟩ := H
  refine loop_intro (J := fun (n : Nat) (vs : List Value) (h' : Heap) => ∃ out5_1 : Sl, ∃ t12_1 : Int, vs = [(Sl.v out5_1), (VI t12_1)] ∧ J_1 n out5_1 t12_1 h' ∧ Vars h' [(b_1, [(Sl.v g0_1)])]) n_2 ⟨nilSl, 0, rfl, h0_1, hL_2⟩ ?_
  intro I_1 mu_1 hI_1 junk_1 tv_1 tv_2 h_3 hi_1
  obtain ⟨n_1, ⟨out5_1, t12_1, hv, hJ_1, hL_3⟩, hn_1⟩ := hI_1 _ _ hi_1
  cases hv
  have H := HB_1 n_1 out5_1 t12_1 h_3 hJ_1 hL_3
  refine pop_lss .i64 t12_1 (t10_1.n : Int) ?_
  refine condM_b (fun hb_2 => ?_) (fun hb_2 => ?_)
  rotate_left
  ·have H := H.2 hb_2
   exact H
  have H := H.1 hb_2
  obtain ⟨hi_2, H⟩ := H
  refine pop_index sli34 siz3 .i64 t10_1 t12_1 hi_2 ?_
  obtain ⟨t16_1, hc_1, H⟩ := H
  refine rop_one one3 (VI t16_1) hc_1 ?_
  refine pop_geq .i64 t16_1 0 ?_
  refine condM_b (fun hb_3 => ?_) (fun hb_3 => ?_)
  rotate_left
  ·have H := H.2 hb_3
   refine pop_add .i64 t12_1 1 ?_
   obtain ⟨m_2, hm_2, H⟩ := H
   exact hn_1 _ _ ⟨m_2, hm_2, out5_1, (w64 (t12_1 + 1)), rfl, H, hL_3⟩
  have H := H.1 hb_3
  refine H.mono fun rv_2 h_4 H => ?_
  obtain ⟨t21_1, rfl, hL_4, H⟩ := H
  refine H.mono fun rv_3 h_5 H => ?_
  obtain ⟨t22_1, rfl, hL_5, H⟩ := H
  refine pop_add .i64 t12_1 1 ?_
  obtain ⟨m_1, hm_1, H⟩ := H
  exact hn_1 _ _ ⟨m_1, hm_1, t22_1, (w64 (t12_1 + 1)), rfl, H, hL_5⟩

/-! spec.grEntries -/
def u108 (P : Program) (g0_1 : Sl) (p1_1 : Int) (h : Heap) (K : Value → Heap → Prop) : Prop :=
  ∀ (b_1 : Nat) (h_1 : Heap), h.size ≤ b_1 → Fr (In []) h h_1 → Vars h_1 [(b_1, [(Sl.v g0_1)])] →
  ∃ J_1 : Nat → Int → Int → Heap → Prop, (∃ n0 : Nat, J_1 n0 0 0 h_1) ∧
  ∀ (n_1 : Nat) (n5_1 : Int) (t13_1 : Int) (h_2 : Heap), J_1 n_1 n5_1 t13_1 h_2 → Vars h_2 [(b_1, [(Sl.v g0_1)])] →
  ((decide (t13_1 < (g0_1.n : Int))) = true →
  InB g0_1 t13_1 ∧
  ∃ t16_1 : Sl, hcell h_2 (Sl.at g0_1 t13_1 1) = some (Sl.v t16_1) ∧
  ∃ J_2 : Nat → Int → Int → Heap → Prop, (∃ n0 : Nat, J_2 n0 n5_1 0 h_2) ∧
  ∀ (n_2 : Nat) (n5_2 : Int) (t19_1 : Int) (h_3 : Heap), J_2 n_2 n5_2 t19_1 h_3 → Vars h_3 [(b_1, [(Sl.v g0_1)])] →
  ((decide (t19_1 < (t16_1.n : Int))) = true →
  InB t16_1 t19_1 ∧
  ∃ t22_1 : Int, hcell h_3 (Sl.at t16_1 t19_1 1) = some (VI t22_1) ∧
  ((decide (t22_1 = p1_1)) = true →
  ∃ m : Nat, m < n_2 ∧ J_2 m (w64 (n5_2 + 1)) (w64 (t19_1 + 1)) h_3) ∧
  ((decide (t22_1 = p1_1)) = false →
  ∃ m : Nat, m < n_2 ∧ J_2 m n5_2 (w64 (t19_1 + 1)) h_3)) ∧
  ((decide (t19_1 < (t16_1.n : Int))) = false →
  ∃ m : Nat, m < n_1 ∧ J_1 m n5_2 (w64 (t13_1 + 1)) h_3)) ∧
  ((decide (t13_1 < (g0_1.n : Int))) = false →
  K (VI n5_1) h_2)
theorem v108 (g0_1 : Sl) (p1_1 : Int) (h : Heap) (K : Value → Heap → Prop) (H : u108 Tryd.prog g0_1 p1_1 h K) : callM Tryd.prog 108 #[(Value.agg #[(Sl.v g0_1)]), (VI p1_1)] h K := by
  refine c108 (Value.agg #[(Sl.v g0_1)]) (VI p1_1) h K ?_
  unfold u108 at H
  unfold t108
  have hL : Vars h [] := .nil
  refine eop_box 41 (Value.agg #[(Sl.v g0_1)]) rfl hL (fun b_1 h_1 hb_1 hf_1 hL_1 => ?_)
  refine pop_field 0 fld41_0 b_1 0 ?_
  refine rop_loc one22 hL_1 0 rfl 0 (v := (Sl.v g0_1)) rfl ?_
  refine pop_len g0_1 _ _ sli22 ?_
  have H := H b_1 h_1 (Nat.le_trans (Fr.size (Fr.r (In []) _)) hb_1) (Fr.no' (Fr.r (In []) _) hf_1) hL_1
  obtain ⟨J_1, ⟨n_4, h0_2⟩, HB_2⟩ := H
  refine loop_intro (J := fun (n : Nat) (vs : List Value) (h' : Heap) => ∃ n5_1 : Int, ∃ t13_1 : Int, vs = [(VI n5_1), (VI t13_1)] ∧ J_1 n n5_1 t13_1 h' ∧ Vars h' [(b_1, [(Sl.v g0_1)])]) n_4 ⟨0, 0, rfl, h0_2, hL_1⟩ ?_
  intro I_2 mu_2 hI_2 junk_1 tv_3 tv_4 h_2 hi_1
  obtain ⟨n_1, ⟨n5_1, t13_1, hv, hJ_1, hL_2⟩, hn_1⟩ := hI_2 _ _ hi_1
  cases hv
  have H := HB_2 n_1 n5_1 t13_1 h_2 hJ_1 hL_2
  refine pop_lss .i64 t13_1 (g0_1.n : Int) ?_
  refine condM_b (fun hb_2 => ?_) (fun hb_2 => ?_)
  rotate_left
  ·have H := H.2 hb_2
   exact H
  have H := H.1 hb_2
  obtain ⟨hi_2, H⟩ := H
  refine pop_index sli22 siz34 .i64 g0_1 t13_1 hi_2 ?_
  obtain ⟨t16_1, hc_2, H⟩ := H
  refine rop_one one34 (Sl.v t16_1) hc_2 ?_
  refine pop_len t16_1 _ _ sli34 ?_
  obtain ⟨J_2, ⟨n_3, h0_1⟩, HB_1⟩ := H
  refine loop_intro (J := fun (n : Nat) (vs : List Value) (h' : Heap) => ∃ n5_2 : Int, ∃ t19_1 : Int, vs = [(VI n5_2), (VI t19_1)] ∧ J_2 n n5_2 t19_1 h' ∧ Vars h' [(b_1, [(Sl.v g0_1)])]) n_3 ⟨n5_1, 0, rfl, h0_1, hL_2⟩ ?_
  intro I_1 mu_1 hI_1 junk_2 tv_1 tv_2 h_3 hi_3
  obtain ⟨n_2, ⟨n5_2, t19_1, hv, hJ_2, hL_3⟩, hn_2⟩ := hI_1 _ _ hi_3
  cases hv
  have H := HB_1 n_2 n5_2 t19_1 h_3 hJ_2 hL_3
  refine pop_lss .i64 t19_1 (t16_1.n : Int) ?_
  refine condM_b (fun hb_3 => ?_) (fun hb_3 => ?_)
  rotate_left
  ·have H := H.2 hb_3
   refine pop_add .i64 t13_1 1 ?_
   obtain ⟨m_3, hm_3, H⟩ := H
   exact hn_1 _ _ ⟨m_3, hm_3, n5_2, (w64 (t13_1 + 1)), rfl, H, hL_3⟩
  have H := H.1 hb_3
  obtain ⟨hi_4, H⟩ := H
  refine pop_index sli34 siz3 .i64 t16_1 t19_1 hi_4 ?_
  obtain ⟨t22_1, hc_1, H⟩ := H
  refine rop_one one3 (VI t22_1) hc_1 ?_
  refine pop_ieq .i64 _ _ t22_1 p1_1 ?_
  refine condM_b (fun hb_4 => ?_) (fun hb_4 => ?_)
  rotate_left
  ·have H := H.2 hb_4
   refine pop_add .i64 t19_1 1 ?_
   obtain ⟨m_2, hm_2, H⟩ := H
   exact hn_2 _ _ ⟨m_2, hm_2, n5_2, (w64 (t19_1 + 1)), rfl, H, hL_3⟩
  have H := H.1 hb_4
  refine pop_add .i64 n5_2 1 ?_
  refine pop_add .i64 t19_1 1 ?_
  obtain ⟨m_1, hm_1, H⟩ := H
  exact hn_2 _ _ ⟨m_1, hm_1, (w64 (n5_2 + 1)), (w64 (t19_1 + 1)), rfl, H, hL_3⟩

/-! impl.isGraph -/
def u109 (P : Program) (g0_1 : Sl) (h : Heap) (K : Value → Heap → Prop) : Prop :=
  ∀ (b_1 : Nat) (b_2 : Nat) (h_3 : Heap), h.size ≤ b_1 → h.size ≤ b_2 → Fr (In []) h h_3 → Vars h_3 [(b_2, [(VI (g0_1.n : Int))]), (b_1, [(Sl.v g0_1)])] →
  callM P 55 #[(VI (g0_1.n : Int)), (VI 1), (VI 8)] h_3 fun rv_1 h_4 => ∃ t10_1 : Bool, rv_1 = (VB t10_1) ∧ Vars h_4 [(b_2, [(VI (g0_1.n : Int))]), (b_1, [(Sl.v g0_1)])] ∧
  ((!t10_1) = true →
  K (VB false) h_4) ∧
  ((!t10_1) = false →
  ∃ J_1 : Nat → Int → Int → Heap → Prop, (∃ n0 : Nat, J_1 n0 0 (g0_1.n : Int) h_4) ∧
  ∀ (n_1 : Nat) (t15_1 : Int) (x_1 : Int) (h_5 : Heap), J_1 n_1 t15_1 x_1 h_5 → Vars h_5 [(b_2, [(VI x_1)]), (b_1, [(Sl.v g0_1)])] →
  ((decide (t15_1 < (g0_1.n : Int))) = true →
  InB g0_1 t15_1 ∧
  ∃ t18_1 : Sl, hcell h_5 (Sl.at g0_1 t15_1 1) = some (Sl.v t18_1) ∧
  ((decide (5 < (t18_1.n : Int))) = true →
  K (VB false) h_5) ∧
  ((decide (5 < (t18_1.n : Int))) = false →
  callM P 56 #[(Sl.v t18_1), (Value.func (Fn.func 123) #[] #[(VP b_2 0)])] h_5 fun rv_2 h_6 => ∃ x_2 : Int, ∃ t25_1 : Bool, rv_2 = (VB t25_1) ∧ Vars h_6 [(b_2, [(VI x_2)]), (b_1, [(Sl.v g0_1)])] ∧
  (t25_1 = true →
  K (VB false) h_6) ∧
  (t25_1 = false →
  ∃ m : Nat, m < n_1 ∧ J_1 m (w64 (t15_1 + 1)) x_2 h_6))) ∧
  ((decide (t15_1 < (g0_1.n : Int))) = false →
  K (VB true) h_5))
theorem v109 (g0_1 : Sl) (h : Heap) (K : Value → Heap → Prop) (H : u109 Tryd.prog g0_1 h K) : callM Tryd.prog 109 #[(Value.agg #[(Sl.v g0_1)])] h K := by
  refine c109 (Value.agg #[(Sl.v g0_1)]) h K ?_
  unfold u109 at H
  unfold t109
  have hL : Vars h [] := .nil
  refine eop_box 41 (Value.agg #[(Sl.v g0_1)]) rfl hL (fun b_1 h_1 hb_1 hf_1 hL_1 => ?_)
  refine pop_field 0 fld41_0 b_1 0 ?_
  refine rop_loc one22 hL_1 0 rfl 0 (v := (Sl.v g0_1)) rfl ?_
  refine pop_len g0_1 _ _ sli22 ?_
  refine eop_alloc 3 zer3 rfl hL_1 (fun b_2 h_2 hb_2 hf_2 hL_2 => ?_)
  refine uop_loc siz3 hL_2 0 rfl 0 [(VI (g0_1.n : Int))] rfl rfl rfl (Nat.le_of_ble_eq_true rfl) (L' := [(b_2, [(VI (g0_1.n : Int))]), (b_1, [(Sl.v g0_1)])]) rfl (fun h_3 hf_3 hL_3 => ?_)
  refine rop_loc one3 hL_3 0 rfl 0 (v := (VI (g0_1.n : Int))) rfl ?_
  have H := H b_1 b_2 h_3 (Nat.le_trans (Fr.size (Fr.r (In []) _)) hb_1) (Nat.le_trans (Fr.size (Fr.no' (Fr.r (In []) _) hf_1)) hb_2) (Fr.new (Fr.no' (Fr.no' (Fr.r (In []) _) hf_1) hf_2) (Nat.le_trans (Fr.size (Fr.no' (Fr.r (In []) _) hf_1)) hb_2) hf_3) hL_3
  refine H.mono fun rv_1 h_4 H => ?_
  obtain ⟨t10_1, rfl, hL_4, H⟩ := H
  refine pop_not t10_1 ?_
  refine condM_b (fun hb_3 => ?_) (fun hb_3 => ?_)
  ·have H := H.1 hb_3
   exact H
  have H := H.2 hb_3
  refine pop_field 0 fld41_0 b_1 0 ?_
  refine rop_loc one22 hL_4 1 rfl 0 (v := (Sl.v g0_1)) rfl ?_
  refine pop_len g0_1 _ _ sli22 ?_
  obtain ⟨J_1, ⟨n_2, h0_1⟩, HB_1⟩ := H
  refine loop_intro (J := fun (n : Nat) (vs : List Value) (h' : Heap) => ∃ t15_1 : Int, ∃ x_1 : Int, vs = [(VI t15_1)] ∧ J_1 n t15_1 x_1 h' ∧ Vars h' [(b_2, [(VI x_1)]), (b_1, [(Sl.v g0_1)])]) n_2 ⟨0, (g0_1.n : Int), rfl, h0_1, hL_4⟩ ?_
  intro I_1 mu_1 hI_1 junk_1 tv_1 h_5 hi_1
  obtain ⟨n_1, ⟨t15_1, x_1, hv, hJ_1, hL_5⟩, hn_1⟩ := hI_1 _ _ hi_1
  cases hv
  have H := HB_1 n_1 t15_1 x_1 h_5 hJ_1 hL_5
  refine pop_lss .i64 t15_1 (g0_1.n : Int) ?_
  refine condM_b (fun hb_4 => ?_) (fun hb_4 => ?_)
  rotate_left
  ·have H := H.2 hb_4
   exact H
  have H := H.1 hb_4
  obtain ⟨hi_2, H⟩ := H
  refine pop_index sli22 siz34 .i64 g0_1 t15_1 hi_2 ?_
  obtain ⟨t18_1, hc_1, H⟩ := H
  refine rop_one one34 (Sl.v t18_1) hc_1 ?_
  refine pop_len t18_1 _ _ sli34 ?_
  refine pop_gtr .i64 (t18_1.n : Int) 5 ?_
  refine guardM_sf (fun hb_5 => ?_) (fun hb_5 => ?_)
  rotate_left
  ·have H := H.1 hb_5
   refine guardM_n' hb_5 (by decide) ?_
   refine guardM_n' hb_5 (by decide) ?_
   refine pop_pickt' hb_5 ?_
   refine condM_t ?_
   exact H
  have H := H.2 hb_5
  refine guardM_y' hb_5 ?_
  refine pop_func _ _ _ ?_
  refine guardM_y' hb_5 ?_
  refine H.mono fun rv_2 h_6 H => ?_
  obtain ⟨x_2, t25_1, rfl, hL_6, H⟩ := H
  refine pop_pickf' hb_5 ?_
  refine condM_b (fun hb_6 => ?_) (fun hb_6 => ?_)
  ·have H := H.1 hb_6
   exact H
  have H := H.2 hb_6
  refine pop_add .i64 t15_1 1 ?_
  obtain ⟨m_1, hm_1, H⟩ := H
  exact hn_1 _ _ ⟨m_1, hm_1, (w64 (t15_1 + 1)), x_2, rfl, H, hL_6⟩

/-! impl.has$1 -/
def u110 (P : Program) (p0_1 : Int) (b_1 : Nat) (t1_1 : Sl) (h : Heap) (K : Value → Heap → Prop) : Prop :=
  callM P 55 #[(VI p0_1), (VI 0), (VI (w64 ((t1_1.n : Int) - 1)))] h fun rv_1 h_1 => ∃ t9_1 : Bool, rv_1 = (VB t9_1) ∧ Vars h_1 [(b_1, [(Sl.v t1_1)])] ∧
  K (VB (!t9_1)) h_1
theorem v110 (p0_1 : Int) (b_1 : Nat) (t1_1 : Sl) (h : Heap) (K : Value → Heap → Prop) (hL : Vars h [(b_1, [(Sl.v t1_1)])]) (H : u110 Tryd.prog p0_1 b_1 t1_1 h K) : callM Tryd.prog 110 #[(VI p0_1), (VP b_1 0)] h K := by
  refine c110 (VI p0_1) (VP b_1 0) h K ?_
  unfold u110 at H
  unfold t110
  refine pop_field 0 fld41_0 b_1 0 ?_
  refine rop_loc one22 hL 0 rfl 0 (v := (Sl.v t1_1)) rfl ?_
  refine pop_len t1_1 _ _ sli22 ?_
  refine pop_sub .i64 (t1_1.n : Int) 1 ?_
  refine H.mono fun rv_1 h_1 H => ?_
  obtain ⟨t9_1, rfl, hL_1, H⟩ := H
  refine pop_not t9_1 ?_
  exact H

/-! (impl.Graph).reach -/
def u111 (P : Program) (g0_1 : Sl) (p1_1 : Int) (h : Heap) (K : Value → Heap → Prop) : Prop :=
  ∀ (b_1 : Nat) (h_1 : Heap), h.size ≤ b_1 → Fr (In []) h h_1 → Vars h_1 [(b_1, [(Sl.v g0_1)])] →
  eop P (Instr.buildSlice 34 0 #[]) h_1 fun rv_1 h_2 => ∃ t8_1 : Sl, rv_1 = (Sl.v t8_1) ∧ Vars h_2 [(b_1, [(Sl.v g0_1)])] ∧
  callM P 124 #[(Value.agg #[(Sl.v g0_1)]), (VI p1_1)] h_2 fun rv_2 h_3 => ∃ t11_1 : Sl, rv_2 = (Sl.v t11_1) ∧ Vars h_3 [(b_1, [(Sl.v g0_1)])] ∧
  ∃ J_1 : Nat → Sl → Int → Heap → Prop, (∃ n0 : Nat, J_1 n0 t8_1 0 h_3) ∧
  ∀ (n_1 : Nat) (out5_1 : Sl) (t13_1 : Int) (h_4 : Heap), J_1 n_1 out5_1 t13_1 h_4 → Vars h_4 [(b_1, [(Sl.v g0_1)])] →
  ((decide (t13_1 < (t11_1.n : Int))) = true →
  InB t11_1 t13_1 ∧
  ∃ t17_1 : Int, hcell h_4 (Sl.at t11_1 t13_1 1) = some (VI t17_1) ∧
  ((decide (0 ≤ t17_1)) = true →
  eop P (Instr.buildSlice 34 1 #[(0, (VI t13_1))]) h_4 fun rv_3 h_5 => ∃ t22_1 : Sl, rv_3 = (Sl.v t22_1) ∧ Vars h_5 [(b_1, [(Sl.v g0_1)])] ∧
  eop P (appS 34 34 34 (Sl.v out5_1) (Sl.v t22_1)) h_5 fun rv_4 h_6 => ∃ t23_1 : Sl, rv_4 = (Sl.v t23_1) ∧ Vars h_6 [(b_1, [(Sl.v g0_1)])] ∧
  ∃ m : Nat, m < n_1 ∧ J_1 m t23_1 (w64 (t13_1 + 1)) h_6) ∧
  ((decide (0 ≤ t17_1)) = false →
  ∃ m : Nat, m < n_1 ∧ J_1 m out5_1 (w64 (t13_1 + 1)) h_4)) ∧
  ((decide (t13_1 < (t11_1.n : Int))) = false →
  K (Sl.v out5_1) h_4)
theorem v111 (g0_1 : Sl) (p1_1 : Int) (h : Heap) (K : Value → Heap → Prop) (H : u111 Tryd.prog g0_1 p1_1 h K) : callM Tryd.prog 111 #[(Value.agg #[(Sl.v g0_1)]), (VI p1_1)] h K := by
  refine c111 (Value.agg #[(Sl.v g0_1)]) (VI p1_1) h K ?_
  unfold u111 at H
  unfold t111
  have hL : Vars h [] := .nil
  refine eop_box 41 (Value.agg #[(Sl.v g0_1)]) rfl hL (fun b_1 h_1 hb_1 hf_1 hL_1 => ?_)
  have H := H b_1 h_1 (Nat.le_trans (Fr.size (Fr.r (In []) _)) hb_1) (Fr.no' (Fr.r (In []) _) hf_1) hL_1
  refine H.mono fun rv_1 h_2 H => ?_
  obtain ⟨t8_1, rfl, hL_2, H⟩ := H
  refine rop_locA agg41 hL_2 0 rfl 0 (vs := [(Sl.v g0_1)]) rfl rfl ?_
  refine H.mono fun rv_2 h_3 H => ?_
  obtain ⟨t11_1, rfl, hL_3, H⟩ := H
  refine pop_len t11_1 _ _ sli34 ?_
  obtain ⟨J_1, ⟨n_2, h0_1⟩, HB_1⟩ := H
  refine loop_intro (J := fun (n : Nat) (vs : List Value) (h' : Heap) => ∃ out5_1 : Sl, ∃ t13_1 : Int, vs = [(Sl.v out5_1), (VI t13_1)] ∧ J_1 n out5_1 t13_1 h' ∧ Vars h' [(b_1, [(Sl.v g0_1)])]) n_2 ⟨t8_1, 0, rfl, h0_1, hL_3⟩ ?_
  intro I_1 mu_1 hI_1 junk_1 tv_1 tv_2 h_4 hi_1
  obtain ⟨n_1, ⟨out5_1, t13_1, hv, hJ_1, hL_4⟩, hn_1⟩ := hI_1 _ _ hi_1
  cases hv
  have H := HB_1 n_1 out5_1 t13_1 h_4 hJ_1 hL_4
  refine pop_lss .i64 t13_1 (t11_1.n : Int) ?_
  refine condM_b (fun hb_2 => ?_) (fun hb_2 => ?_)
  rotate_left
  ·have H := H.2 hb_2
   exact H
  have H := H.1 hb_2
  obtain ⟨hi_2, H⟩ := H
  refine pop_index sli34 siz3 .i64 t11_1 t13_1 hi_2 ?_
  obtain ⟨t17_1, hc_1, H⟩ := H
  refine rop_one one3 (VI t17_1) hc_1 ?_
  refine pop_geq .i64 t17_1 0 ?_
  refine condM_b (fun hb_3 => ?_) (fun hb_3 => ?_)
  rotate_left
  ·have H := H.2 hb_3
   refine pop_add .i64 t13_1 1 ?_
   obtain ⟨m_2, hm_2, H⟩ := H
   exact hn_1 _ _ ⟨m_2, hm_2, out5_1, (w64 (t13_1 + 1)), rfl, H, hL_4⟩
  have H := H.1 hb_3
  refine H.mono fun rv_3 h_5 H => ?_
  obtain ⟨t22_1, rfl, hL_5, H⟩ := H
  refine H.mono fun rv_4 h_6 H => ?_
  obtain ⟨t23_1, rfl, hL_6, H⟩ := H
  refine pop_add .i64 t13_1 1 ?_
  obtain ⟨m_1, hm_1, H⟩ := H
  exact hn_1 _ _ ⟨m_1, hm_1, t23_1, (w64 (t13_1 + 1)), rfl, H, hL_6⟩

/-! (impl.Graph).entries -/
def u112 (P : Program) (g0_1 : Sl) (p1_1 : Int) (h : Heap) (K : Value → Heap → Prop) : Prop :=
  ∀ (b_1 : Nat) (h_1 : Heap), h.size ≤ b_1 → Fr (In []) h h_1 → Vars h_1 [(b_1, [(Sl.v g0_1)])] →
  callM P 90 #[(Sl.v g0_1)] h_1 fun rv_1 h_2 => ∃ t10_1 : Sl, rv_1 = (Sl.v t10_1) ∧ Vars h_2 [(b_1, [(Sl.v g0_1)])] ∧
  ∃ J_1 : Nat → Int → Int → Heap → Prop, (∃ n0 : Nat, J_1 n0 0 0 h_2) ∧
  ∀ (n_1 : Nat) (many5_1 : Int) (t12_1 : Int) (h_3 : Heap), J_1 n_1 many5_1 t12_1 h_3 → Vars h_3 [(b_1, [(Sl.v g0_1)])] →
  ((decide (t12_1 < (t10_1.n : Int))) = true →
  InB t10_1 t12_1 ∧
  ∃ t15_1 : Int, hcell h_3 (Sl.at t10_1 t12_1 1) = some (VI t15_1) ∧
  ((decide (t15_1 = p1_1)) = true →
  ∃ m : Nat, m < n_1 ∧ J_1 m (w64 (many5_1 + 1)) (w64 (t12_1 + 1)) h_3) ∧
  ((decide (t15_1 = p1_1)) = false →
  ∃ m : Nat, m < n_1 ∧ J_1 m many5_1 (w64 (t12_1 + 1)) h_3)) ∧
  ((decide (t12_1 < (t10_1.n : Int))) = false →
  K (VI many5_1) h_3)
theorem v112 (g0_1 : Sl) (p1_1 : Int) (h : Heap) (K : Value → Heap → Prop) (H : u112 Tryd.prog g0_1 p1_1 h K) : callM Tryd.prog 112 #[(Value.agg #[(Sl.v g0_1)]), (VI p1_1)] h K := by
  refine c112 (Value.agg #[(Sl.v g0_1)]) (VI p1_1) h K ?_
  unfold u112 at H
  unfold t112
  have hL : Vars h [] := .nil
  refine eop_box 41 (Value.agg #[(Sl.v g0_1)]) rfl hL (fun b_1 h_1 hb_1 hf_1 hL_1 => ?_)
  refine pop_field 0 fld41_0 b_1 0 ?_
  refine rop_loc one22 hL_1 0 rfl 0 (v := (Sl.v g0_1)) rfl ?_
  have H := H b_1 h_1 (Nat.le_trans (Fr.size (Fr.r (In []) _)) hb_1) (Fr.no' (Fr.r (In []) _) hf_1) hL_1
  refine H.mono fun rv_1 h_2 H => ?_
  obtain ⟨t10_1, rfl, hL_2, H⟩ := H
  refine pop_len t10_1 _ _ sli34 ?_
  obtain ⟨J_1, ⟨n_2, h0_1⟩, HB_1⟩ := H
  refine loop_intro (J := fun (n : Nat) (vs : List Value) (h' : Heap) => ∃ many5_1 : Int, ∃ t12_1 : Int, vs = [(VI many5_1), (VI t12_1)] ∧ J_1 n many5_1 t12_1 h' ∧ Vars h' [(b_1, [(Sl.v g0_1)])]) n_2 ⟨0, 0, rfl, h0_1, hL_2⟩ ?_
  intro I_1 mu_1 hI_1 junk_1 tv_1 tv_2 h_3 hi_1
  obtain ⟨n_1, ⟨many5_1, t12_1, hv, hJ_1, hL_3⟩, hn_1⟩ := hI_1 _ _ hi_1
  cases hv
  have H := HB_1 n_1 many5_1 t12_1 h_3 hJ_1 hL_3
  refine pop_lss .i64 t12_1 (t10_1.n : Int) ?_
  refine condM_b (fun hb_2 => ?_) (fun hb_2 => ?_)
  rotate_left
  ·have H := H.2 hb_2
   exact H
  have H := H.1 hb_2
  obtain ⟨hi_2, H⟩ := H
  refine pop_index sli34 siz3 .i64 t10_1 t12_1 hi_2 ?_
  obtain ⟨t15_1, hc_1, H⟩ := H
  refine rop_one one3 (VI t15_1) hc_1 ?_
  refine pop_ieq .i64 _ _ t15_1 p1_1 ?_
  refine condM_b (fun hb_3 => ?_) (fun hb_3 => ?_)
  rotate_left
  ·have H := H.2 hb_3
   refine pop_add .i64 t12_1 1 ?_
   obtain ⟨m_2, hm_2, H⟩ := H
   exact hn_1 _ _ ⟨m_2, hm_2, many5_1, (w64 (t12_1 + 1)), rfl, H, hL_3⟩
  have H := H.1 hb_3
  refine pop_add .i64 many5_1 1 ?_
  refine pop_add .i64 t12_1 1 ?_
  obtain ⟨m_1, hm_1, H⟩ := H
  exact hn_1 _ _ ⟨m_1, hm_1, (w64 (many5_1 + 1)), (w64 (t12_1 + 1)), rfl, H, hL_3⟩

/-! slices.Grow[[]int,int] -/
def u113 (P : Program) (s0_1 : Sl) (n1_1 : Int) (h : Heap) (K : Value → Heap → Prop) : Prop :=
  ∃ J_1 : Heap → Prop, (((decide (n1_1 < 0)) = true →
  pop P (Instr.makeInterface 9 (Value.string { data := #[99, 97, 110, 110, 111, 116, 32, 98, 101, 32, 110, 101, 103, 97, 116, 105, 118, 101] })) fun rv_1 => ∃ t7_1 : Value, rv_1 = t7_1 ∧ 
  False) ∧
  ((decide (n1_1 < 0)) = false →
  J_1  h)) ∧
  ∀ (h_1 : Heap), J_1  h_1 → Vars h_1 [] →
  pop P (Builtin.cap_ #[34] 3 #[(Sl.v s0_1)]) fun rv_2 => ∃ t10_1 : Int, rv_2 = (VI t10_1) ∧ 
  ((decide (0 < (w64 (n1_1 - (w64 (t10_1 - (s0_1.n : Int))))))) = true →
  pop P (Builtin.cap_ #[34] 3 #[(Sl.v s0_1)]) fun rv_3 => ∃ t19_1 : Int, rv_3 = (VI t19_1) ∧ 
  pop P (Instr.sliceAt 34 (Sl.v s0_1) none (some (VI t19_1)) none) fun rv_4 => ∃ t20_1 : Sl, rv_4 = (Sl.v t20_1) ∧ 
  eop P (appS 34 3 34 (Sl.v t20_1) (VI (w64 (n1_1 - (w64 (t10_1 - (s0_1.n : Int))))))) h_1 fun rv_5 h_2 => ∃ t22_1 : Sl, rv_5 = (Sl.v t22_1) ∧ Vars h_2 [] ∧
  pop P (Instr.sliceAt 34 (Sl.v t22_1) none (some (VI (s0_1.n : Int))) none) fun rv_6 => ∃ t25_1 : Sl, rv_6 = (Sl.v t25_1) ∧ 
  K (Sl.v t25_1) h_2) ∧
  ((decide (0 < (w64 (n1_1 - (w64 (t10_1 - (s0_1.n : Int))))))) = false →
  K (Sl.v s0_1) h_1)
theorem v113 (s0_1 : Sl) (n1_1 : Int) (h : Heap) (K : Value → Heap → Prop) (H : u113 Tryd.prog s0_1 n1_1 h K) : callM Tryd.prog 113 #[(Sl.v s0_1), (VI n1_1)] h K := by
  refine c113 (Sl.v s0_1) (VI n1_1) h K ?_
  unfold u113 at H
  unfold t113
  have hL : Vars h [] := .nil
  obtain ⟨J_1, H, HB_1⟩ := H
  refine ⟨fun (vs : List Value) (h' : Heap) => vs = [] ∧ J_1  h' ∧ Vars h' [], ?_, ?_⟩
  ·refine pop_lss .i64 n1_1 0 ?_
   refine condM_b (fun hb_1 => ?_) (fun hb_1 => ?_)
   rotate_left
   ·have H := H.2 hb_1
    exact ⟨rfl, H, hL⟩
   have H := H.1 hb_1
   refine H.mono fun rv_1 H => ?_
   obtain ⟨t7_1, rfl, H⟩ := H
   exact H.elim
  intro junk_1  h_1
  rintro ⟨hv, hJ_1, hL_1⟩
  have H := HB_1  h_1 hJ_1 hL_1
  refine H.mono fun rv_2 H => ?_
  obtain ⟨t10_1, rfl, H⟩ := H
  refine pop_len s0_1 _ _ sli34 ?_
  refine pop_sub .i64 t10_1 (s0_1.n : Int) ?_
  refine pop_sub .i64 n1_1 (w64 (t10_1 - (s0_1.n : Int))) ?_
  refine pop_gtr .i64 (w64 (n1_1 - (w64 (t10_1 - (s0_1.n : Int))))) 0 ?_
  refine condM_b (fun hb_2 => ?_) (fun hb_2 => ?_)
  rotate_left
  ·have H := H.2 hb_2
   exact H
  have H := H.1 hb_2
  refine H.mono fun rv_3 H => ?_
  obtain ⟨t19_1, rfl, H⟩ := H
  refine H.mono fun rv_4 H => ?_
  obtain ⟨t20_1, rfl, H⟩ := H
  refine H.mono fun rv_5 h_2 H => ?_
  obtain ⟨t22_1, rfl, hL_2, H⟩ := H
  refine pop_len s0_1 _ _ sli34 ?_
  refine H.mono fun rv_6 H => ?_
  obtain ⟨t25_1, rfl, H⟩ := H
  exact H

/-! spec.grFar -/
def u122 (P : Program) (g0_1 : Sl) (p1_1 : Int) (h : Heap) (K : Value → Heap → Prop) : Prop :=
  ∀ (b_1 : Nat) (h_1 : Heap), h.size ≤ b_1 → Fr (In []) h h_1 → Vars h_1 [(b_1, [(Sl.v g0_1)])] →
  eop P (Instr.makeSlice 34 (VI (g0_1.n : Int)) (VI (g0_1.n : Int))) h_1 fun rv_1 h_2 => ∃ t14_1 : Sl, rv_1 = (Sl.v t14_1) ∧ Vars h_2 [(b_1, [(Sl.v g0_1)])] ∧
  ∃ J_1 : Nat → Int → Heap → Prop, (∃ n0 : Nat, J_1 n0 0 h_2) ∧
  ∀ (n_1 : Nat) (t17_1 : Int) (h_3 : Heap), J_1 n_1 t17_1 h_3 → Vars h_3 [(b_1, [(Sl.v g0_1)])] →
  ((decide (t17_1 < (t14_1.n : Int))) = true →
  InB t14_1 t17_1 ∧
  Writable h_3 (Sl.at t14_1 t17_1 1) ∧ Vars (hset h_3 (Sl.at t14_1 t17_1 1) (VI (-1))) [(b_1, [(Sl.v g0_1)])] ∧
  ∀ h_4 : Heap, h_4 = hset h_3 (Sl.at t14_1 t17_1 1) (VI (-1)) → Vars h_4 [(b_1, [(Sl.v g0_1)])] →
  ∃ m : Nat, m < n_1 ∧ J_1 m (w64 (t17_1 + 1)) h_4) ∧
  ((decide (t17_1 < (t14_1.n : Int))) = false →
  InB t14_1 p1_1 ∧
  Writable h_3 (Sl.at t14_1 p1_1 1) ∧ Vars (hset h_3 (Sl.at t14_1 p1_1 1) (VI 0)) [(b_1, [(Sl.v g0_1)])] ∧
  ∀ h_5 : Heap, h_5 = hset h_3 (Sl.at t14_1 p1_1 1) (VI 0) → Vars h_5 [(b_1, [(Sl.v g0_1)])] →
  eop P (Instr.buildSlice 34 1 #[(0, (VI p1_1))]) h_5 fun rv_2 h_6 => ∃ t28_1 : Sl, rv_2 = (Sl.v t28_1) ∧ Vars h_6 [(b_1, [(Sl.v g0_1)])] ∧
  ∃ J_2 : Nat → Sl → Int → Heap → Prop, (∃ n0 : Nat, J_2 n0 t28_1 0 h_6) ∧
  ∀ (n_2 : Nat) (queue7_1 : Sl) (k8_1 : Int) (h_7 : Heap), J_2 n_2 queue7_1 k8_1 h_7 → Vars h_7 [(b_1, [(Sl.v g0_1)])] →
  ((decide (k8_1 < (queue7_1.n : Int))) = true →
  InB queue7_1 k8_1 ∧
  ∃ t40_1 : Int, hcell h_7 (Sl.at queue7_1 k8_1 1) = some (VI t40_1) ∧
  InB g0_1 t40_1 ∧
  ∃ t42_1 : Sl, hcell h_7 (Sl.at g0_1 t40_1 1) = some (Sl.v t42_1) ∧
  ∃ J_3 : Nat → Sl → Int → Heap → Prop, (∃ n0 : Nat, J_3 n0 queue7_1 0 h_7) ∧
  ∀ (n_3 : Nat) (queue7_2 : Sl) (t44_1 : Int) (h_8 : Heap), J_3 n_3 queue7_2 t44_1 h_8 → Vars h_8 [(b_1, [(Sl.v g0_1)])] →
  ((decide (t44_1 < (t42_1.n : Int))) = true →
  InB t42_1 t44_1 ∧
  ∃ t47_1 : Int, hcell h_8 (Sl.at t42_1 t44_1 1) = some (VI t47_1) ∧
  InB t14_1 t47_1 ∧
  ∃ t51_1 : Int, hcell h_8 (Sl.at t14_1 t47_1 1) = some (VI t51_1) ∧
  ((decide (t51_1 < 0)) = true →
  InB queue7_2 k8_1 ∧
  ∃ t59_1 : Int, hcell h_8 (Sl.at queue7_2 k8_1 1) = some (VI t59_1) ∧
  InB t14_1 t59_1 ∧
  ∃ t61_1 : Int, hcell h_8 (Sl.at t14_1 t59_1 1) = some (VI t61_1) ∧
  InB t14_1 t47_1 ∧
  Writable h_8 (Sl.at t14_1 t47_1 1) ∧ Vars (hset h_8 (Sl.at t14_1 t47_1 1) (VI (w64 (t61_1 + 1)))) [(b_1, [(Sl.v g0_1)])] ∧
  ∀ h_9 : Heap, h_9 = hset h_8 (Sl.at t14_1 t47_1 1) (VI (w64 (t61_1 + 1))) → Vars h_9 [(b_1, [(Sl.v g0_1)])] →
  eop P (Instr.buildSlice 34 1 #[(0, (VI t47_1))]) h_9 fun rv_3 h_10 => ∃ t66_1 : Sl, rv_3 = (Sl.v t66_1) ∧ Vars h_10 [(b_1, [(Sl.v g0_1)])] ∧
  eop P (appS 34 34 34 (Sl.v queue7_2) (Sl.v t66_1)) h_10 fun rv_4 h_11 => ∃ t67_1 : Sl, rv_4 = (Sl.v t67_1) ∧ Vars h_11 [(b_1, [(Sl.v g0_1)])] ∧
  ∃ m : Nat, m < n_3 ∧ J_3 m t67_1 (w64 (t44_1 + 1)) h_11) ∧
  ((decide (t51_1 < 0)) = false →
  ∃ m : Nat, m < n_3 ∧ J_3 m queue7_2 (w64 (t44_1 + 1)) h_8)) ∧
  ((decide (t44_1 < (t42_1.n : Int))) = false →
  ∃ m : Nat, m < n_2 ∧ J_2 m queue7_2 (w64 (k8_1 + 1)) h_8)) ∧
  ((decide (k8_1 < (queue7_1.n : Int))) = false →
  K (Sl.v t14_1) h_7))
theorem v122 (g0_1 : Sl) (p1_1 : Int) (h : Heap) (K : Value → Heap → Prop) (H : u122 Tryd.prog g0_1 p1_1 h K) : callM Tryd.prog 122 #[(Value.agg #[(Sl.v g0_1)]), (VI p1_1)] h K := by
  refine c122 (Value.agg #[(Sl.v g0_1)]) (VI p1_1) h K ?_
  unfold u122 at H
  unfold t122
  have hL : Vars h [] := .nil
  refine eop_box 41 (Value.agg #[(Sl.v g0_1)]) rfl hL (fun b_1 h_1 hb_1 hf_1 hL_1 => ?_)
  refine pop_field 0 fld41_0 b_1 0 ?_
  refine rop_loc one22 hL_1 0 rfl 0 (v := (Sl.v g0_1)) rfl ?_
  refine pop_len g0_1 _ _ sli22 ?_
  have H := H b_1 h_1 (Nat.le_trans (Fr.size (Fr.r (In []) _)) hb_1) (Fr.no' (Fr.r (In []) _) hf_1) hL_1
  refine H.mono fun rv_1 h_2 H => ?_
  obtain ⟨t14_1, rfl, hL_2, H⟩ := H
  refine pop_len t14_1 _ _ sli34 ?_
  obtain ⟨J_1, ⟨n_6, h0_3⟩, HB_3⟩ := H
  refine loop_intro (J := fun (n : Nat) (vs : List Value) (h' : Heap) => ∃ t17_1 : Int, vs = [(VI t17_1)] ∧ J_1 n t17_1 h' ∧ Vars h' [(b_1, [(Sl.v g0_1)])]) n_6 ⟨0, rfl, h0_3, hL_2⟩ ?_
  intro I_3 mu_3 hI_3 junk_1 tv_5 h_3 hi_1
  obtain ⟨n_1, ⟨t17_1, hv, hJ_1, hL_3⟩, hn_1⟩ := hI_3 _ _ hi_1
  cases hv
  have H := HB_3 n_1 t17_1 h_3 hJ_1 hL_3
  refine pop_lss .i64 t17_1 (t14_1.n : Int) ?_
  refine condM_b (fun hb_2 => ?_) (fun hb_2 => ?_)
  ·have H := H.1 hb_2
   obtain ⟨hi_2, H⟩ := H
   refine pop_index sli34 siz3 .i64 t14_1 t17_1 hi_2 ?_
   obtain ⟨hw_1, hL_4, H⟩ := H
   refine uop_cell (v := (VI (-1))) siz3 hw_1 rfl (fun h_4 he_1 => ?_)
   rw [← he_1] at hL_4
   have H := H h_4 he_1 hL_4
   refine pop_add .i64 t17_1 1 ?_
   obtain ⟨m_1, hm_1, H⟩ := H
   exact hn_1 _ _ ⟨m_1, hm_1, (w64 (t17_1 + 1)), rfl, H, hL_4⟩
  have H := H.2 hb_2
  obtain ⟨hi_3, H⟩ := H
  refine pop_index sli34 siz3 .i64 t14_1 p1_1 hi_3 ?_
  obtain ⟨hw_2, hL_5, H⟩ := H
  refine uop_cell (v := (VI 0)) siz3 hw_2 rfl (fun h_5 he_2 => ?_)
  rw [← he_2] at hL_5
  have H := H h_5 he_2 hL_5
  refine H.mono fun rv_2 h_6 H => ?_
  obtain ⟨t28_1, rfl, hL_6, H⟩ := H
  obtain ⟨J_2, ⟨n_5, h0_2⟩, HB_2⟩ := H
  refine loop_intro (J := fun (n : Nat) (vs : List Value) (h' : Heap) => ∃ queue7_1 : Sl, ∃ k8_1 : Int, vs = [(Sl.v queue7_1), (VI k8_1)] ∧ J_2 n queue7_1 k8_1 h' ∧ Vars h' [(b_1, [(Sl.v g0_1)])]) n_5 ⟨t28_1, 0, rfl, h0_2, hL_6⟩ ?_
  intro I_2 mu_2 hI_2 junk_2 tv_3 tv_4 h_7 hi_4
  obtain ⟨n_2, ⟨queue7_1, k8_1, hv, hJ_2, hL_7⟩, hn_2⟩ := hI_2 _ _ hi_4
  cases hv
  have H := HB_2 n_2 queue7_1 k8_1 h_7 hJ_2 hL_7
  refine pop_len queue7_1 _ _ sli34 ?_
  refine pop_lss .i64 k8_1 (queue7_1.n : Int) ?_
  refine condM_b (fun hb_3 => ?_) (fun hb_3 => ?_)
  rotate_left
  ·have H := H.2 hb_3
   exact H
  have H := H.1 hb_3
  refine pop_field 0 fld41_0 b_1 0 ?_
  refine rop_loc one22 hL_7 0 rfl 0 (v := (Sl.v g0_1)) rfl ?_
  obtain ⟨hi_5, H⟩ := H
  refine pop_index sli34 siz3 .i64 queue7_1 k8_1 hi_5 ?_
  obtain ⟨t40_1, hc_6, H⟩ := H
  refine rop_one one3 (VI t40_1) hc_6 ?_
  obtain ⟨hi_6, H⟩ := H
  refine pop_index sli22 siz34 .i64 g0_1 t40_1 hi_6 ?_
  obtain ⟨t42_1, hc_5, H⟩ := H
  refine rop_one one34 (Sl.v t42_1) hc_5 ?_
  refine pop_len t42_1 _ _ sli34 ?_
  obtain ⟨J_3, ⟨n_4, h0_1⟩, HB_1⟩ := H
  refine loop_intro (J := fun (n : Nat) (vs : List Value) (h' : Heap) => ∃ queue7_2 : Sl, ∃ t44_1 : Int, vs = [(Sl.v queue7_2), (VI t44_1)] ∧ J_3 n queue7_2 t44_1 h' ∧ Vars h' [(b_1, [(Sl.v g0_1)])]) n_4 ⟨queue7_1, 0, rfl, h0_1, hL_7⟩ ?_
  intro I_1 mu_1 hI_1 junk_3 tv_1 tv_2 h_8 hi_7
  obtain ⟨n_3, ⟨queue7_2, t44_1, hv, hJ_3, hL_8⟩, hn_3⟩ := hI_1 _ _ hi_7
  cases hv
  have H := HB_1 n_3 queue7_2 t44_1 h_8 hJ_3 hL_8
  refine pop_lss .i64 t44_1 (t42_1.n : Int) ?_
  refine condM_b (fun hb_4 => ?_) (fun hb_4 => ?_)
  rotate_left
  ·have H := H.2 hb_4
   refine pop_add .i64 k8_1 1 ?_
   obtain ⟨m_4, hm_4, H⟩ := H
   exact hn_2 _ _ ⟨m_4, hm_4, queue7_2, (w64 (k8_1 + 1)), rfl, H, hL_8⟩
  have H := H.1 hb_4
  obtain ⟨hi_8, H⟩ := H
  refine pop_index sli34 siz3 .i64 t42_1 t44_1 hi_8 ?_
  obtain ⟨t47_1, hc_4, H⟩ := H
  refine rop_one one3 (VI t47_1) hc_4 ?_
  obtain ⟨hi_9, H⟩ := H
  refine pop_index sli34 siz3 .i64 t14_1 t47_1 hi_9 ?_
  obtain ⟨t51_1, hc_3, H⟩ := H
  refine rop_one one3 (VI t51_1) hc_3 ?_
  refine pop_lss .i64 t51_1 0 ?_
  refine condM_b (fun hb_5 => ?_) (fun hb_5 => ?_)
  rotate_left
  ·have H := H.2 hb_5
   refine pop_add .i64 t44_1 1 ?_
   obtain ⟨m_3, hm_3, H⟩ := H
   exact hn_3 _ _ ⟨m_3, hm_3, queue7_2, (w64 (t44_1 + 1)), rfl, H, hL_8⟩
  have H := H.1 hb_5
  obtain ⟨hi_10, H⟩ := H
  refine pop_index sli34 siz3 .i64 queue7_2 k8_1 hi_10 ?_
  obtain ⟨t59_1, hc_2, H⟩ := H
  refine rop_one one3 (VI t59_1) hc_2 ?_
  obtain ⟨hi_11, H⟩ := H
  refine pop_index sli34 siz3 .i64 t14_1 t59_1 hi_11 ?_
  obtain ⟨t61_1, hc_1, H⟩ := H
  refine rop_one one3 (VI t61_1) hc_1 ?_
  refine pop_add .i64 t61_1 1 ?_
  obtain ⟨hi_12, H⟩ := H
  refine pop_index sli34 siz3 .i64 t14_1 t47_1 hi_12 ?_
  obtain ⟨hw_3, hL_9, H⟩ := H
  refine uop_cell (v := (VI (w64 (t61_1 + 1)))) siz3 hw_3 rfl (fun h_9 he_3 => ?_)
  rw [← he_3] at hL_9
  have H := H h_9 he_3 hL_9
  refine H.mono fun rv_3 h_10 H => ?_
  obtain ⟨t66_1, rfl, hL_10, H⟩ := H
  refine H.mono fun rv_4 h_11 H => ?_
  obtain ⟨t67_1, rfl, hL_11, H⟩ := H
  refine pop_add .i64 t44_1 1 ?_
  obtain ⟨m_2, hm_2, H⟩ := H
  exact hn_3 _ _ ⟨m_2, hm_2, t67_1, (w64 (t44_1 + 1)), rfl, H, hL_11⟩

/-! impl.isGraph$1 -/
def u123 (P : Program) (q0_1 : Int) (b_1 : Nat) (t1_1 : Int) (h : Heap) (K : Value → Heap → Prop) : Prop :=
  callM P 55 #[(VI q0_1), (VI 0), (VI (w64 (t1_1 - 1)))] h fun rv_1 h_1 => ∃ t7_1 : Bool, rv_1 = (VB t7_1) ∧ Vars h_1 [(b_1, [(VI t1_1)])] ∧
  K (VB (!t7_1)) h_1
theorem v123 (q0_1 : Int) (b_1 : Nat) (t1_1 : Int) (h : Heap) (K : Value → Heap → Prop) (hL : Vars h [(b_1, [(VI t1_1)])]) (H : u123 Tryd.prog q0_1 b_1 t1_1 h K) : callM Tryd.prog 123 #[(VI q0_1), (VP b_1 0)] h K := by
  refine c123 (VI q0_1) (VP b_1 0) h K ?_
  unfold u123 at H
  unfold t123
  refine rop_loc one3 hL 0 rfl 0 (v := (VI t1_1)) rfl ?_
  refine pop_sub .i64 t1_1 1 ?_
  refine H.mono fun rv_1 h_1 H => ?_
  obtain ⟨t7_1, rfl, hL_1, H⟩ := H
  refine pop_not t7_1 ?_
  exact H

/-! (impl.Graph).lengths -/
def u124 (P : Program) (g0_1 : Sl) (p1_1 : Int) (h : Heap) (K : Value → Heap → Prop) : Prop :=
  ∀ (b_1 : Nat) (h_1 : Heap), h.size ≤ b_1 → Fr (In []) h h_1 → Vars h_1 [(b_1, [(Sl.v g0_1)])] →
  eop P (Instr.buildSlice 34 1 #[(0, (Value.int IntKind.i64 (-1)))]) h_1 fun rv_1 h_2 => ∃ t9_1 : Sl, rv_1 = (Sl.v t9_1) ∧ Vars h_2 [(b_1, [(Sl.v g0_1)])] ∧
  callM P 130 #[(Sl.v t9_1), (VI (g0_1.n : Int))] h_2 fun rv_2 h_3 => ∃ t13_1 : Sl, rv_2 = (Sl.v t13_1) ∧ Vars h_3 [(b_1, [(Sl.v g0_1)])] ∧
  InB t13_1 p1_1 ∧
  Writable h_3 (Sl.at t13_1 p1_1 1) ∧ Vars (hset h_3 (Sl.at t13_1 p1_1 1) (VI 0)) [(b_1, [(Sl.v g0_1)])] ∧
  ∀ h_4 : Heap, h_4 = hset h_3 (Sl.at t13_1 p1_1 1) (VI 0) → Vars h_4 [(b_1, [(Sl.v g0_1)])] →
  eop P (Instr.buildSlice 34 1 #[(0, (VI p1_1))]) h_4 fun rv_3 h_5 => ∃ t18_1 : Sl, rv_3 = (Sl.v t18_1) ∧ Vars h_5 [(b_1, [(Sl.v g0_1)])] ∧
  ∃ J_1 : Nat → Sl → Heap → Prop, (∃ n0 : Nat, J_1 n0 t18_1 h_5) ∧
  ∀ (n_1 : Nat) (list6_1 : Sl) (h_6 : Heap), J_1 n_1 list6_1 h_6 → Vars h_6 [(b_1, [(Sl.v g0_1)])] →
  ((decide (0 < (list6_1.n : Int))) = true →
  InB list6_1 0 ∧
  ∃ t28_1 : Int, hcell h_6 (Sl.at list6_1 0 1) = some (VI t28_1) ∧
  InB g0_1 t28_1 ∧
  ∃ t30_1 : Sl, hcell h_6 (Sl.at g0_1 t28_1 1) = some (Sl.v t30_1) ∧
  ∃ J_2 : Nat → Sl → Int → Heap → Prop, (∃ n0 : Nat, J_2 n0 list6_1 0 h_6) ∧
  ∀ (n_2 : Nat) (list6_2 : Sl) (t32_1 : Int) (h_7 : Heap), J_2 n_2 list6_2 t32_1 h_7 → Vars h_7 [(b_1, [(Sl.v g0_1)])] →
  ((decide (t32_1 < (t30_1.n : Int))) = true →
  InB t30_1 t32_1 ∧
  ∃ t35_1 : Int, hcell h_7 (Sl.at t30_1 t32_1 1) = some (VI t35_1) ∧
  InB t13_1 t35_1 ∧
  ∃ t39_1 : Int, hcell h_7 (Sl.at t13_1 t35_1 1) = some (VI t39_1) ∧
  ((decide (t39_1 < 0)) = true →
  InB list6_2 0 ∧
  ∃ t46_1 : Int, hcell h_7 (Sl.at list6_2 0 1) = some (VI t46_1) ∧
  InB t13_1 t46_1 ∧
  ∃ t48_1 : Int, hcell h_7 (Sl.at t13_1 t46_1 1) = some (VI t48_1) ∧
  InB t13_1 t35_1 ∧
  Writable h_7 (Sl.at t13_1 t35_1 1) ∧ Vars (hset h_7 (Sl.at t13_1 t35_1 1) (VI (w64 (t48_1 + 1)))) [(b_1, [(Sl.v g0_1)])] ∧
  ∀ h_8 : Heap, h_8 = hset h_7 (Sl.at t13_1 t35_1 1) (VI (w64 (t48_1 + 1))) → Vars h_8 [(b_1, [(Sl.v g0_1)])] →
  eop P (Instr.buildSlice 34 1 #[(0, (VI t35_1))]) h_8 fun rv_4 h_9 => ∃ t53_1 : Sl, rv_4 = (Sl.v t53_1) ∧ Vars h_9 [(b_1, [(Sl.v g0_1)])] ∧
  eop P (appS 34 34 34 (Sl.v list6_2) (Sl.v t53_1)) h_9 fun rv_5 h_10 => ∃ t54_1 : Sl, rv_5 = (Sl.v t54_1) ∧ Vars h_10 [(b_1, [(Sl.v g0_1)])] ∧
  ∃ m : Nat, m < n_2 ∧ J_2 m t54_1 (w64 (t32_1 + 1)) h_10) ∧
  ((decide (t39_1 < 0)) = false →
  ∃ m : Nat, m < n_2 ∧ J_2 m list6_2 (w64 (t32_1 + 1)) h_7)) ∧
  ((decide (t32_1 < (t30_1.n : Int))) = false →
  pop P (Instr.sliceAt 34 (Sl.v list6_2) (some (Value.int IntKind.i64 1)) none none) fun rv_6 => ∃ t23_1 : Sl, rv_6 = (Sl.v t23_1) ∧ 
  ∃ m : Nat, m < n_1 ∧ J_1 m t23_1 h_7)) ∧
  ((decide (0 < (list6_1.n : Int))) = false →
  K (Sl.v t13_1) h_6)
theorem v124 (g0_1 : Sl) (p1_1 : Int) (h : Heap) (K : Value → Heap → Prop) (H : u124 Tryd.prog g0_1 p1_1 h K) : callM Tryd.prog 124 #[(Value.agg #[(Sl.v g0_1)]), (VI p1_1)] h K := by
  refine c124 (Value.agg #[(Sl.v g0_1)]) (VI p1_1) h K ?_
  unfold u124 at H
  unfold t124
  have hL : Vars h [] := .nil
  refine eop_box 41 (Value.agg #[(Sl.v g0_1)]) rfl hL (fun b_1 h_1 hb_1 hf_1 hL_1 => ?_)
  have H := H b_1 h_1 (Nat.le_trans (Fr.size (Fr.r (In []) _)) hb_1) (Fr.no' (Fr.r (In []) _) hf_1) hL_1
  refine H.mono fun rv_1 h_2 H => ?_
  obtain ⟨t9_1, rfl, hL_2, H⟩ := H
  refine pop_field 0 fld41_0 b_1 0 ?_
  refine rop_loc one22 hL_2 0 rfl 0 (v := (Sl.v g0_1)) rfl ?_
  refine pop_len g0_1 _ _ sli22 ?_
  refine H.mono fun rv_2 h_3 H => ?_
  obtain ⟨t13_1, rfl, hL_3, H⟩ := H
  obtain ⟨hi_1, H⟩ := H
  refine pop_index sli34 siz3 .i64 t13_1 p1_1 hi_1 ?_
  obtain ⟨hw_1, hL_4, H⟩ := H
  refine uop_cell (v := (VI 0)) siz3 hw_1 rfl (fun h_4 he_1 => ?_)
  rw [← he_1] at hL_4
  have H := H h_4 he_1 hL_4
  refine H.mono fun rv_3 h_5 H => ?_
  obtain ⟨t18_1, rfl, hL_5, H⟩ := H
  obtain ⟨J_1, ⟨n_4, h0_2⟩, HB_2⟩ := H
  refine loop_intro (J := fun (n : Nat) (vs : List Value) (h' : Heap) => ∃ list6_1 : Sl, vs = [(Sl.v list6_1)] ∧ J_1 n list6_1 h' ∧ Vars h' [(b_1, [(Sl.v g0_1)])]) n_4 ⟨t18_1, rfl, h0_2, hL_5⟩ ?_
  intro I_2 mu_2 hI_2 junk_1 tv_3 h_6 hi_2
  obtain ⟨n_1, ⟨list6_1, hv, hJ_1, hL_6⟩, hn_1⟩ := hI_2 _ _ hi_2
  cases hv
  have H := HB_2 n_1 list6_1 h_6 hJ_1 hL_6
  refine pop_len list6_1 _ _ sli34 ?_
  refine pop_gtr .i64 (list6_1.n : Int) 0 ?_
  refine condM_b (fun hb_2 => ?_) (fun hb_2 => ?_)
  rotate_left
  ·have H := H.2 hb_2
   exact H
  have H := H.1 hb_2
  refine pop_field 0 fld41_0 b_1 0 ?_
  refine rop_loc one22 hL_6 0 rfl 0 (v := (Sl.v g0_1)) rfl ?_
  obtain ⟨hi_3, H⟩ := H
  refine pop_index sli34 siz3 .i64 list6_1 0 hi_3 ?_
  obtain ⟨t28_1, hc_6, H⟩ := H
  refine rop_one one3 (VI t28_1) hc_6 ?_
  obtain ⟨hi_4, H⟩ := H
  refine pop_index sli22 siz34 .i64 g0_1 t28_1 hi_4 ?_
  obtain ⟨t30_1, hc_5, H⟩ := H
  refine rop_one one34 (Sl.v t30_1) hc_5 ?_
  refine pop_len t30_1 _ _ sli34 ?_
  obtain ⟨J_2, ⟨n_3, h0_1⟩, HB_1⟩ := H
  refine loop_intro (J := fun (n : Nat) (vs : List Value) (h' : Heap) => ∃ list6_2 : Sl, ∃ t32_1 : Int, vs = [(Sl.v list6_2), (VI t32_1)] ∧ J_2 n list6_2 t32_1 h' ∧ Vars h' [(b_1, [(Sl.v g0_1)])]) n_3 ⟨list6_1, 0, rfl, h0_1, hL_6⟩ ?_
  intro I_1 mu_1 hI_1 junk_2 tv_1 tv_2 h_7 hi_5
  obtain ⟨n_2, ⟨list6_2, t32_1, hv, hJ_2, hL_7⟩, hn_2⟩ := hI_1 _ _ hi_5
  cases hv
  have H := HB_1 n_2 list6_2 t32_1 h_7 hJ_2 hL_7
  refine pop_lss .i64 t32_1 (t30_1.n : Int) ?_
  refine condM_b (fun hb_3 => ?_) (fun hb_3 => ?_)
  rotate_left
  ·have H := H.2 hb_3
   refine H.mono fun rv_6 H => ?_
   obtain ⟨t23_1, rfl, H⟩ := H
   obtain ⟨m_3, hm_3, H⟩ := H
   exact hn_1 _ _ ⟨m_3, hm_3, t23_1, rfl, H, hL_7⟩
  have H := H.1 hb_3
  obtain ⟨hi_6, H⟩ := H
  refine pop_index sli34 siz3 .i64 t30_1 t32_1 hi_6 ?_
  obtain ⟨t35_1, hc_4, H⟩ := H
  refine rop_one one3 (VI t35_1) hc_4 ?_
  obtain ⟨hi_7, H⟩ := H
  refine pop_index sli34 siz3 .i64 t13_1 t35_1 hi_7 ?_
  obtain ⟨t39_1, hc_3, H⟩ := H
  refine rop_one one3 (VI t39_1) hc_3 ?_
  refine pop_lss .i64 t39_1 0 ?_
  refine condM_b (fun hb_4 => ?_) (fun hb_4 => ?_)
  rotate_left
  ·have H := H.2 hb_4
   refine pop_add .i64 t32_1 1 ?_
   obtain ⟨m_2, hm_2, H⟩ := H
   exact hn_2 _ _ ⟨m_2, hm_2, list6_2, (w64 (t32_1 + 1)), rfl, H, hL_7⟩
  have H := H.1 hb_4
  obtain ⟨hi_8, H⟩ := H
  refine pop_index sli34 siz3 .i64 list6_2 0 hi_8 ?_
  obtain ⟨t46_1, hc_2, H⟩ := H
  refine rop_one one3 (VI t46_1) hc_2 ?_
  obtain ⟨hi_9, H⟩ := H
  refine pop_index sli34 siz3 .i64 t13_1 t46_1 hi_9 ?_
  obtain ⟨t48_1, hc_1, H⟩ := H
  refine rop_one one3 (VI t48_1) hc_1 ?_
  refine pop_add .i64 t48_1 1 ?_
  obtain ⟨hi_10, H⟩ := H
  refine pop_index sli34 siz3 .i64 t13_1 t35_1 hi_10 ?_
  obtain ⟨hw_2, hL_8, H⟩ := H
  refine uop_cell (v := (VI (w64 (t48_1 + 1)))) siz3 hw_2 rfl (fun h_8 he_2 => ?_)
  rw [← he_2] at hL_8
  have H := H h_8 he_2 hL_8
  refine H.mono fun rv_4 h_9 H => ?_
  obtain ⟨t53_1, rfl, hL_9, H⟩ := H
  refine H.mono fun rv_5 h_10 H => ?_
  obtain ⟨t54_1, rfl, hL_10, H⟩ := H
  refine pop_add .i64 t32_1 1 ?_
  obtain ⟨m_1, hm_1, H⟩ := H
  exact hn_2 _ _ ⟨m_1, hm_1, t54_1, (w64 (t32_1 + 1)), rfl, H, hL_10⟩

/-! slices.Repeat[[]int,int] -/
def u130 (P : Program) (x0_1 : Sl) (count1_1 : Int) (h : Heap) (K : Value → Heap → Prop) : Prop :=
  ∃ J_1 : Heap → Prop, (((decide (count1_1 < 0)) = true →
  pop P (Instr.makeInterface 9 (Value.string { data := #[99, 97, 110, 110, 111, 116, 32, 98, 101, 32, 110, 101, 103, 97, 116, 105, 118, 101] })) fun rv_1 => ∃ t11_1 : Value, rv_1 = t11_1 ∧ 
  False) ∧
  ((decide (count1_1 < 0)) = false →
  J_1  h)) ∧
  ∀ (h_1 : Heap), J_1  h_1 → Vars h_1 [] →
  rop P (convert 3 144 (VI (x0_1.n : Int))) h_1 fun rv_2 => ∃ t15_1 : Int, rv_2 = (Value.int .u64 t15_1) ∧ 
  rop P (convert 3 144 (VI count1_1)) h_1 fun rv_3 => ∃ t17_1 : Int, rv_3 = (Value.int .u64 t17_1) ∧ 
  callM P 136 #[(Value.int .u64 t15_1), (Value.int .u64 t17_1)] h_1 fun rv_4 h_2 => ∃ t18_1 : Int, ∃ t18_2 : Int, rv_4 = (Value.tuple #[(Value.int .u64 t18_1), (Value.int .u64 t18_2)]) ∧ Vars h_2 [] ∧
  ∃ J_2 : Heap → Prop, (((decide (0 < t18_1)) = true →
  pop P (Instr.makeInterface 9 (Value.string { data := #[116, 104, 101, 32, 114, 101, 115, 117, 108, 116, 32, 111, 102, 32, 40, 108, 101, 110, 40, 120, 41, 32, 42, 32, 99, 111, 117, 110, 116, 41, 32, 111, 118, 101, 114, 102, 108, 111, 119, 115] })) fun rv_6 => ∃ t27_2 : Value, rv_6 = t27_2 ∧ 
  False) ∧
  ((decide (0 < t18_1)) = false →
  ((decide (9223372036854775807 < t18_2)) = true →
  pop P (Instr.makeInterface 9 (Value.string { data := #[116, 104, 101, 32, 114, 101, 115, 117, 108, 116, 32, 111, 102, 32, 40, 108, 101, 110, 40, 120, 41, 32, 42, 32, 99, 111, 117, 110, 116, 41, 32, 111, 118, 101, 114, 102, 108, 111, 119, 115] })) fun rv_5 => ∃ t27_1 : Value, rv_5 = t27_1 ∧ 
  False) ∧
  ((decide (9223372036854775807 < t18_2)) = false →
  J_2  h_2))) ∧
  ∀ (h_3 : Heap), J_2  h_3 → Vars h_3 [] →
  rop P (convert 144 3 (Value.int .u64 t18_2)) h_3 fun rv_7 => ∃ t29_1 : Int, rv_7 = (VI t29_1) ∧ 
  eop P (Instr.makeSlice 34 (VI t29_1) (VI t29_1)) h_3 fun rv_8 h_4 => ∃ t30_1 : Sl, rv_8 = (Sl.v t30_1) ∧ Vars h_4 [] ∧
  eop P (Builtin.copy_ #[34, 34] 3 #[(Sl.v t30_1), (Sl.v x0_1)]) h_4 fun rv_9 h_5 => ∃ t33_1 : Int, rv_9 = (VI t33_1) ∧ Vars h_5 [] ∧
  ∃ J_3 : Nat → Int → Heap → Prop, (∃ n0 : Nat, J_3 n0 t33_1 h_5) ∧
  ∀ (n_1 : Nat) (n8_1 : Int) (h_6 : Heap), J_3 n_1 n8_1 h_6 → Vars h_6 [] →
  ((decide (n8_1 < (t30_1.n : Int))) = true →
  pop P (Instr.sliceAt 34 (Sl.v t30_1) (some (VI n8_1)) none none) fun rv_10 => ∃ t41_1 : Sl, rv_10 = (Sl.v t41_1) ∧ 
  pop P (Instr.sliceAt 34 (Sl.v t30_1) none (some (VI n8_1)) none) fun rv_11 => ∃ t44_1 : Sl, rv_11 = (Sl.v t44_1) ∧ 
  eop P (Builtin.copy_ #[34, 34] 3 #[(Sl.v t41_1), (Sl.v t44_1)]) h_6 fun rv_12 h_7 => ∃ t45_1 : Int, rv_12 = (VI t45_1) ∧ Vars h_7 [] ∧
  ∃ m : Nat, m < n_1 ∧ J_3 m (w64 (n8_1 + t45_1)) h_7) ∧
  ((decide (n8_1 < (t30_1.n : Int))) = false →
  K (Sl.v t30_1) h_6)
theorem v130 (x0_1 : Sl) (count1_1 : Int) (h : Heap) (K : Value → Heap → Prop) (H : u130 Tryd.prog x0_1 count1_1 h K) : callM Tryd.prog 130 #[(Sl.v x0_1), (VI count1_1)] h K := by
  refine c130 (Sl.v x0_1) (VI count1_1) h K ?_
  unfold u130 at H
  unfold t130
  have hL : Vars h [] := .nil
  obtain ⟨J_1, H, HB_3⟩ := H
  refine ⟨fun (vs : List Value) (h' : Heap) => vs = [] ∧ J_1  h' ∧ Vars h' [], ?_, ?_⟩
  ·refine pop_lss .i64 count1_1 0 ?_
   refine condM_b (fun hb_1 => ?_) (fun hb_1 => ?_)
   rotate_left
   ·have H := H.2 hb_1
    exact ⟨rfl, H, hL⟩
   have H := H.1 hb_1
   refine H.mono fun rv_1 H => ?_
   obtain ⟨t11_1, rfl, H⟩ := H
   exact H.elim
  intro junk_1  h_1
  rintro ⟨hv, hJ_1, hL_1⟩
  have H := HB_3  h_1 hJ_1 hL_1
  refine pop_len x0_1 _ _ sli34 ?_
  refine H.mono fun rv_2 H => ?_
  obtain ⟨t15_1, rfl, H⟩ := H
  refine H.mono fun rv_3 H => ?_
  obtain ⟨t17_1, rfl, H⟩ := H
  refine H.mono fun rv_4 h_2 H => ?_
  obtain ⟨t18_1, t18_2, rfl, hL_2, H⟩ := H
  refine pop_ext (v := (Value.int .u64 t18_1)) rfl ?_
  refine pop_ext (v := (Value.int .u64 t18_2)) rfl ?_
  obtain ⟨J_2, H, HB_2⟩ := H
  refine ⟨fun (vs : List Value) (h' : Heap) => vs = [] ∧ J_2  h' ∧ Vars h' [], ?_, ?_⟩
  ·refine pop_gtr .u64 t18_1 0 ?_
   refine guardM_sf (fun hb_2 => ?_) (fun hb_2 => ?_)
   rotate_left
   ·have H := H.1 hb_2
    refine guardM_n' hb_2 (by decide) ?_
    refine pop_pickt' hb_2 ?_
    refine condM_t ?_
    refine H.mono fun rv_6 H => ?_
    obtain ⟨t27_2, rfl, H⟩ := H
    exact H.elim
   have H := H.2 hb_2
   refine guardM_y' hb_2 ?_
   refine pop_gtr .u64 t18_2 9223372036854775807 ?_
   refine pop_pickf' hb_2 ?_
   refine condM_b (fun hb_3 => ?_) (fun hb_3 => ?_)
   rotate_left
   ·have H := H.2 hb_3
    exact ⟨rfl, H, hL_2⟩
   have H := H.1 hb_3
   refine H.mono fun rv_5 H => ?_
   obtain ⟨t27_1, rfl, H⟩ := H
   exact H.elim
  intro junk_2  h_3
  rintro ⟨hv, hJ_2, hL_3⟩
  have H := HB_2  h_3 hJ_2 hL_3
  refine H.mono fun rv_7 H => ?_
  obtain ⟨t29_1, rfl, H⟩ := H
  refine H.mono fun rv_8 h_4 H => ?_
  obtain ⟨t30_1, rfl, hL_4, H⟩ := H
  refine H.mono fun rv_9 h_5 H => ?_
  obtain ⟨t33_1, rfl, hL_5, H⟩ := H
  obtain ⟨J_3, ⟨n_2, h0_1⟩, HB_1⟩ := H
  refine loop_intro (J := fun (n : Nat) (vs : List Value) (h' : Heap) => ∃ n8_1 : Int, vs = [(VI n8_1)] ∧ J_3 n n8_1 h' ∧ Vars h' []) n_2 ⟨t33_1, rfl, h0_1, hL_5⟩ ?_
  intro I_1 mu_1 hI_1 junk_3 tv_1 h_6 hi_1
  obtain ⟨n_1, ⟨n8_1, hv, hJ_3, hL_6⟩, hn_1⟩ := hI_1 _ _ hi_1
  cases hv
  have H := HB_1 n_1 n8_1 h_6 hJ_3 hL_6
  refine pop_len t30_1 _ _ sli34 ?_
  refine pop_lss .i64 n8_1 (t30_1.n : Int) ?_
  refine condM_b (fun hb_4 => ?_) (fun hb_4 => ?_)
  rotate_left
  ·have H := H.2 hb_4
   exact H
  have H := H.1 hb_4
  refine H.mono fun rv_10 H => ?_
  obtain ⟨t41_1, rfl, H⟩ := H
  refine H.mono fun rv_11 H => ?_
  obtain ⟨t44_1, rfl, H⟩ := H
  refine H.mono fun rv_12 h_7 H => ?_
  obtain ⟨t45_1, rfl, hL_7, H⟩ := H
  refine pop_add .i64 n8_1 t45_1 ?_
  obtain ⟨m_1, hm_1, H⟩ := H
  exact hn_1 _ _ ⟨m_1, hm_1, (w64 (n8_1 + t45_1)), rfl, H, hL_7⟩

/-! math/bits.Mul -/
def u136 (P : Program) (x0_1 : Int) (y1_1 : Int) (h : Heap) (K : Value → Heap → Prop) : Prop :=
  callM P 143 #[(Value.int .u64 x0_1), (Value.int .u64 y1_1)] h fun rv_1 h_1 => ∃ t25_1 : Int, ∃ t25_2 : Int, rv_1 = (Value.tuple #[(Value.int .u64 t25_1), (Value.int .u64 t25_2)]) ∧ Vars h_1 [] ∧
  K (Value.tuple #[(Value.int .u64 t25_1), (Value.int .u64 t25_2)]) h_1
theorem v136 (x0_1 : Int) (y1_1 : Int) (h : Heap) (K : Value → Heap → Prop) (H : u136 Tryd.prog x0_1 y1_1 h K) : callM Tryd.prog 136 #[(Value.int .u64 x0_1), (Value.int .u64 y1_1)] h K := by
  refine c136 (Value.int .u64 x0_1) (Value.int .u64 y1_1) h K ?_
  unfold u136 at H
  unfold t136
  have hL : Vars h [] := .nil
  refine condM_f ?_
  refine H.mono fun rv_1 h_1 H => ?_
  obtain ⟨t25_1, t25_2, rfl, hL_1, H⟩ := H
  refine pop_ext (v := (Value.int .u64 t25_1)) rfl ?_
  refine pop_ext (v := (Value.int .u64 t25_2)) rfl ?_
  exact H

/-! math/bits.Mul32 -/
def u142 (P : Program) (x0_1 : Int) (y1_1 : Int) (h : Heap) (K : Value → Heap → Prop) : Prop :=
  rop P (convert 149 121 (Value.int .u32 x0_1)) h fun rv_1 => ∃ t8_1 : Int, rv_1 = (Value.int .u64 t8_1) ∧ 
  rop P (convert 149 121 (Value.int .u32 y1_1)) h fun rv_2 => ∃ t10_1 : Int, rv_2 = (Value.int .u64 t10_1) ∧ 
  pop P (binA .shr 121 (Value.int .u64 (IntKind.wrap .u64 (t8_1 * t10_1))) (Value.int IntKind.u64 32)) fun rv_3 => ∃ t13_1 : Int, rv_3 = (Value.int .u64 t13_1) ∧ 
  rop P (convert 121 149 (Value.int .u64 t13_1)) h fun rv_4 => ∃ t14_1 : Int, rv_4 = (Value.int .u32 t14_1) ∧ 
  rop P (convert 121 149 (Value.int .u64 (IntKind.wrap .u64 (t8_1 * t10_1)))) h fun rv_5 => ∃ t16_1 : Int, rv_5 = (Value.int .u32 t16_1) ∧ 
  K (Value.tuple #[(Value.int .u32 t14_1), (Value.int .u32 t16_1)]) h
theorem v142 (x0_1 : Int) (y1_1 : Int) (h : Heap) (K : Value → Heap → Prop) (H : u142 Tryd.prog x0_1 y1_1 h K) : callM Tryd.prog 142 #[(Value.int .u32 x0_1), (Value.int .u32 y1_1)] h K := by
  refine c142 (Value.int .u32 x0_1) (Value.int .u32 y1_1) h K ?_
  unfold u142 at H
  unfold t142
  have hL : Vars h [] := .nil
  refine H.mono fun rv_1 H => ?_
  obtain ⟨t8_1, rfl, H⟩ := H
  refine H.mono fun rv_2 H => ?_
  obtain ⟨t10_1, rfl, H⟩ := H
  refine pop_mul .u64 t8_1 t10_1 ?_
  refine H.mono fun rv_3 H => ?_
  obtain ⟨t13_1, rfl, H⟩ := H
  refine H.mono fun rv_4 H => ?_
  obtain ⟨t14_1, rfl, H⟩ := H
  refine H.mono fun rv_5 H => ?_
  obtain ⟨t16_1, rfl, H⟩ := H
  exact H

/-! math/bits.Mul64 -/
def u143 (P : Program) (x0_1 : Int) (y1_1 : Int) (h : Heap) (K : Value → Heap → Prop) : Prop :=
  pop P (binA .and 121 (Value.int .u64 x0_1) (Value.int IntKind.u64 4294967295)) fun rv_1 => ∃ t15_1 : Int, rv_1 = (Value.int .u64 t15_1) ∧ 
  pop P (binA .shr 121 (Value.int .u64 x0_1) (Value.int IntKind.u64 32)) fun rv_2 => ∃ t17_1 : Int, rv_2 = (Value.int .u64 t17_1) ∧ 
  pop P (binA .and 121 (Value.int .u64 y1_1) (Value.int IntKind.u64 4294967295)) fun rv_3 => ∃ t19_1 : Int, rv_3 = (Value.int .u64 t19_1) ∧ 
  pop P (binA .shr 121 (Value.int .u64 y1_1) (Value.int IntKind.u64 32)) fun rv_4 => ∃ t21_1 : Int, rv_4 = (Value.int .u64 t21_1) ∧ 
  pop P (binA .shr 121 (Value.int .u64 (IntKind.wrap .u64 (t15_1 * t19_1))) (Value.int IntKind.u64 32)) fun rv_5 => ∃ t29_1 : Int, rv_5 = (Value.int .u64 t29_1) ∧ 
  pop P (binA .and 121 (Value.int .u64 (IntKind.wrap .u64 ((IntKind.wrap .u64 (t17_1 * t19_1)) + t29_1))) (Value.int IntKind.u64 4294967295)) fun rv_6 => ∃ t32_1 : Int, rv_6 = (Value.int .u64 t32_1) ∧ 
  pop P (binA .shr 121 (Value.int .u64 (IntKind.wrap .u64 ((IntKind.wrap .u64 (t17_1 * t19_1)) + t29_1))) (Value.int IntKind.u64 32)) fun rv_7 => ∃ t34_1 : Int, rv_7 = (Value.int .u64 t34_1) ∧ 
  pop P (binA .shr 121 (Value.int .u64 (IntKind.wrap .u64 (t32_1 + (IntKind.wrap .u64 (t15_1 * t21_1))))) (Value.int IntKind.u64 32)) fun rv_8 => ∃ t46_1 : Int, rv_8 = (Value.int .u64 t46_1) ∧ 
  K (Value.tuple #[(Value.int .u64 (IntKind.wrap .u64 ((IntKind.wrap .u64 ((IntKind.wrap .u64 (t17_1 * t21_1)) + t34_1)) + t46_1))), (Value.int .u64 (IntKind.wrap .u64 (x0_1 * y1_1)))]) h
theorem v143 (x0_1 : Int) (y1_1 : Int) (h : Heap) (K : Value → Heap → Prop) (H : u143 Tryd.prog x0_1 y1_1 h K) : callM Tryd.prog 143 #[(Value.int .u64 x0_1), (Value.int .u64 y1_1)] h K := by
  refine c143 (Value.int .u64 x0_1) (Value.int .u64 y1_1) h K ?_
  unfold u143 at H
  unfold t143
  have hL : Vars h [] := .nil
  refine H.mono fun rv_1 H => ?_
  obtain ⟨t15_1, rfl, H⟩ := H
  refine H.mono fun rv_2 H => ?_
  obtain ⟨t17_1, rfl, H⟩ := H
  refine H.mono fun rv_3 H => ?_
  obtain ⟨t19_1, rfl, H⟩ := H
  refine H.mono fun rv_4 H => ?_
  obtain ⟨t21_1, rfl, H⟩ := H
  refine pop_mul .u64 t15_1 t19_1 ?_
  refine pop_mul .u64 t17_1 t19_1 ?_
  refine H.mono fun rv_5 H => ?_
  obtain ⟨t29_1, rfl, H⟩ := H
  refine pop_add .u64 (IntKind.wrap .u64 (t17_1 * t19_1)) t29_1 ?_
  refine H.mono fun rv_6 H => ?_
  obtain ⟨t32_1, rfl, H⟩ := H
  refine H.mono fun rv_7 H => ?_
  obtain ⟨t34_1, rfl, H⟩ := H
  refine pop_mul .u64 t15_1 t21_1 ?_
  refine pop_add .u64 t32_1 (IntKind.wrap .u64 (t15_1 * t21_1)) ?_
  refine pop_mul .u64 t17_1 t21_1 ?_
  refine pop_add .u64 (IntKind.wrap .u64 (t17_1 * t21_1)) t34_1 ?_
  refine H.mono fun rv_8 H => ?_
  obtain ⟨t46_1, rfl, H⟩ := H
  refine pop_add .u64 (IntKind.wrap .u64 ((IntKind.wrap .u64 (t17_1 * t21_1)) + t34_1)) t46_1 ?_
  refine pop_mul .u64 x0_1 y1_1 ?_
  exact H

end Go.Proofs.YtkjkfjkapbpgiaaDoor
