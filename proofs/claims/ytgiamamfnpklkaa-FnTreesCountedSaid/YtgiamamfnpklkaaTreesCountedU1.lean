/-
  The same over typed data. Written by a program.
-/
import Derived.Test.YtgiamamfnpklkaaTreesCountedU
import Derived.Test.YtgiamamfnpklkaaTreesCountedT
import Derived.Test.YtgiamamfnpklkaaM2
set_option linter.unusedVariables false
set_option linter.unusedSimpArgs false
set_option maxRecDepth 100000
set_option maxHeartbeats 16000000
namespace Go.Proofs.Ytgiamamfnpklkaa
open Go Go.Mx
theorem v92 (g0_1 : Sl) (sink1_1 : Int) (h : Heap) (K : Value → Heap → Prop) (H : u92 Try.prog g0_1 sink1_1 h K) : callM Try.prog 92 #[(Value.agg #[(Sl.v g0_1)]), (VI sink1_1)] h K := by
  refine c92 (Value.agg #[(Sl.v g0_1)]) (VI sink1_1) h K ?_
  unfold u92 at H
  unfold t92
  have hL : Vars h [] := .nil
  refine eop_box 26 (Value.agg #[(Sl.v g0_1)]) rfl hL (fun b_1 h_1 hb_1 hf_1 hL_1 => ?_)
  refine pop_field 0 fld26_0 b_1 0 ?_
  refine rop_loc one24 hL_1 0 rfl 0 (v := (Sl.v g0_1)) rfl ?_
  refine pop_len g0_1 _ _ sli24 ?_
  have H := H b_1 h_1 (Nat.le_trans (Fr.size (Fr.r (In []) _)) hb_1) (Fr.no' (Fr.r (In []) _) hf_1) hL_1
  obtain ⟨J_1, ⟨n_4, h0_2⟩, HB_2⟩ := H
  refine loop_intro (J := fun (n : Nat) (vs : List Value) (h' : Heap) => ∃ out5_1 : Sl, ∃ t14_1 : Int, vs = [(Sl.v out5_1), (VI t14_1)] ∧ J_1 n out5_1 t14_1 h' ∧ Vars h' [(b_1, [(Sl.v g0_1)])]) n_4 ⟨nilSl, 0, rfl, h0_2, hL_1⟩ ?_
  intro I_2 mu_2 hI_2 junk_1 tv_2 tv_3 h_2 hi_1
  obtain ⟨n_1, ⟨out5_1, t14_1, hv, hJ_1, hL_2⟩, hn_1⟩ := hI_2 _ _ hi_1
  cases hv
  have H := HB_2 n_1 out5_1 t14_1 h_2 hJ_1 hL_2
  refine pop_lss .i64 t14_1 (g0_1.n : Int) ?_
  refine condM_b (fun hb_2 => ?_) (fun hb_2 => ?_)
  rotate_left
  ·have H := H.2 hb_2
   exact H
  have H := H.1 hb_2
  obtain ⟨hi_2, H⟩ := H
  refine pop_index sli24 siz37 .i64 g0_1 t14_1 hi_2 ?_
  obtain ⟨t18_1, hc_3, H⟩ := H
  refine rop_one one37 (Sl.v t18_1) hc_3 ?_
  refine pop_ieq .i64 _ _ t14_1 sink1_1 ?_
  refine condM_b (fun hb_3 => ?_) (fun hb_3 => ?_)
  ·have H := H.1 hb_3
   refine pop_add .i64 t14_1 1 ?_
   obtain ⟨m_1, hm_1, H⟩ := H
   exact hn_1 _ _ ⟨m_1, hm_1, out5_1, (w64 (t14_1 + 1)), rfl, H, hL_2⟩
  have H := H.2 hb_3
  refine pop_field 0 fld26_0 b_1 0 ?_
  refine rop_loc one24 hL_2 0 rfl 0 (v := (Sl.v g0_1)) rfl ?_
  refine pop_len g0_1 _ _ sli24 ?_
  refine H.mono fun rv_1 h_3 H => ?_
  obtain ⟨t25_1, rfl, hL_3, H⟩ := H
  refine pop_len t18_1 _ _ sli37 ?_
  obtain ⟨hi_3, H⟩ := H
  refine pop_index sli37 siz3 .i64 t25_1 t14_1 hi_3 ?_
  obtain ⟨hw_1, hL_4, H⟩ := H
  refine uop_cell (v := (VI (t18_1.n : Int))) siz3 hw_1 rfl (fun h_4 he_1 => ?_)
  rw [← he_1] at hL_4
  have H := H h_4 he_1 hL_4
  refine pop_len t18_1 _ _ sli37 ?_
  obtain ⟨J_2, ⟨n_3, h0_1⟩, HB_1⟩ := H
  refine loop_intro (J := fun (n : Nat) (vs : List Value) (h' : Heap) => ∃ t33_1 : Int, vs = [(VI t33_1)] ∧ J_2 n t33_1 h' ∧ Vars h' [(b_1, [(Sl.v g0_1)])]) n_3 ⟨0, rfl, h0_1, hL_4⟩ ?_
  intro I_1 mu_1 hI_1 junk_2 tv_1 h_5 hi_4
  obtain ⟨n_2, ⟨t33_1, hv, hJ_2, hL_5⟩, hn_2⟩ := hI_1 _ _ hi_4
  cases hv
  have H := HB_1 n_2 t33_1 h_5 hJ_2 hL_5
  refine pop_lss .i64 t33_1 (t18_1.n : Int) ?_
  refine condM_b (fun hb_4 => ?_) (fun hb_4 => ?_)
  rotate_left
  ·have H := H.2 hb_4
   refine H.mono fun rv_2 H => ?_
   obtain ⟨t47_1, rfl, H⟩ := H
   refine pop_add .i64 sink1_1 1 ?_
   refine H.mono fun rv_3 H => ?_
   obtain ⟨t52_1, rfl, H⟩ := H
   refine H.mono fun rv_4 h_7 H => ?_
   obtain ⟨t48_1, rfl, hL_7, H⟩ := H
   refine H.mono fun rv_5 h_8 H => ?_
   obtain ⟨t53_1, rfl, hL_8, H⟩ := H
   refine H.mono fun rv_6 h_9 H => ?_
   obtain ⟨t54_1, rfl, hL_9, H⟩ := H
   refine H.mono fun rv_7 h_10 H => ?_
   obtain ⟨t55_1, rfl, hL_10, H⟩ := H
   refine pop_add .i64 t14_1 1 ?_
   obtain ⟨m_3, hm_3, H⟩ := H
   exact hn_1 _ _ ⟨m_3, hm_3, t55_1, (w64 (t14_1 + 1)), rfl, H, hL_10⟩
  have H := H.1 hb_4
  obtain ⟨hi_5, H⟩ := H
  refine pop_index sli37 siz3 .i64 t18_1 t33_1 hi_5 ?_
  obtain ⟨t36_1, hc_2, H⟩ := H
  refine rop_one one3 (VI t36_1) hc_2 ?_
  obtain ⟨hi_6, H⟩ := H
  refine pop_index sli37 siz3 .i64 t25_1 t36_1 hi_6 ?_
  obtain ⟨t40_1, hc_1, H⟩ := H
  refine rop_one one3 (VI t40_1) hc_1 ?_
  refine pop_sub .i64 t40_1 1 ?_
  obtain ⟨hi_7, H⟩ := H
  refine pop_index sli37 siz3 .i64 t25_1 t36_1 hi_7 ?_
  obtain ⟨hw_2, hL_6, H⟩ := H
  refine uop_cell (v := (VI (w64 (t40_1 - 1)))) siz3 hw_2 rfl (fun h_6 he_2 => ?_)
  rw [← he_2] at hL_6
  have H := H h_6 he_2 hL_6
  refine pop_add .i64 t33_1 1 ?_
  obtain ⟨m_2, hm_2, H⟩ := H
  exact hn_2 _ _ ⟨m_2, hm_2, (w64 (t33_1 + 1)), rfl, H, hL_6⟩

/-! spec.trAll -/
def u93 (P : Program) (g0_1 : Sl) (sink1_1 : Int) (most2_1 : Int) (h : Heap) (K : Value → Heap → Prop) : Prop :=
  ∀ (b_1 : Nat) (h_1 : Heap), h.size ≤ b_1 → Fr (In []) h h_1 → Vars h_1 [(b_1, [(Sl.v g0_1)])] →
  eop P (Instr.makeSlice 37 (VI (g0_1.n : Int)) (VI (g0_1.n : Int))) h_1 fun rv_1 h_2 => ∃ t13_1 : Sl, rv_1 = (Sl.v t13_1) ∧ Vars h_2 [(b_1, [(Sl.v g0_1)])] ∧
  ∀ (b_2 : Nat) (h_3 : Heap), h_2.size ≤ b_2 → Fr (In []) h_2 h_3 → Vars h_3 [(b_2, [(Sl.v g0_1), (VI sink1_1), (Sl.v t13_1), (Sl.v nilSl), (VI most2_1)]), (b_1, [(Sl.v g0_1)])] →
  callM P 131 #[(VP b_2 0), (VI 0)] h_3 fun rv_2 h_4 => ∃ x_1 : Sl, ∃ x_2 : Int, ∃ x_3 : Sl, ∃ x_4 : Sl, ∃ x_5 : Int, Vars h_4 [(b_2, [(Sl.v x_1), (VI x_2), (Sl.v x_3), (Sl.v x_4), (VI x_5)]), (b_1, [(Sl.v g0_1)])] ∧
  K (Sl.v x_4) h_4
theorem v93 (g0_1 : Sl) (sink1_1 : Int) (most2_1 : Int) (h : Heap) (K : Value → Heap → Prop) (H : u93 Try.prog g0_1 sink1_1 most2_1 h K) : callM Try.prog 93 #[(Value.agg #[(Sl.v g0_1)]), (VI sink1_1), (VI most2_1)] h K := by
  refine c93 (Value.agg #[(Sl.v g0_1)]) (VI sink1_1) (VI most2_1) h K ?_
  unfold u93 at H
  unfold t93
  have hL : Vars h [] := .nil
  refine eop_box 26 (Value.agg #[(Sl.v g0_1)]) rfl hL (fun b_1 h_1 hb_1 hf_1 hL_1 => ?_)
  refine rop_locA agg26 hL_1 0 rfl 0 (vs := [(Sl.v g0_1)]) rfl rfl ?_
  refine pop_field 0 fld26_0 b_1 0 ?_
  refine rop_loc one24 hL_1 0 rfl 0 (v := (Sl.v g0_1)) rfl ?_
  refine pop_len g0_1 _ _ sli24 ?_
  have H := H b_1 h_1 (Nat.le_trans (Fr.size (Fr.r (In []) _)) hb_1) (Fr.no' (Fr.r (In []) _) hf_1) hL_1
  refine H.mono fun rv_1 h_2 H => ?_
  obtain ⟨t13_1, rfl, hL_2, H⟩ := H
  refine ⟨?_, ?_⟩
  ·exact still_loc one24 hL_2 0 rfl 0 (v := (Sl.v g0_1)) rfl
  refine ⟨?_, ?_⟩
  ·exact still_locA agg26 hL_2 0 rfl 0 (vs := [(Sl.v g0_1)]) rfl rfl
  refine pop.mk' (v := (Value.agg #[(Sl.v g0_1), (VI sink1_1), (Sl.v t13_1), (Sl.v nilSl), (VI most2_1)])) (fun w => by kernel_rfl) ?_
  refine eop_box 126 (Value.agg #[(Sl.v g0_1), (VI sink1_1), (Sl.v t13_1), (Sl.v nilSl), (VI most2_1)]) rfl hL_2 (fun b_2 h_3 hb_2 hf_2 hL_3 => ?_)
  have H := H b_2 h_3 (Nat.le_trans (Fr.size (Fr.r (In []) _)) hb_2) (Fr.no' (Fr.r (In []) _) hf_2) hL_3
  refine ⟨?_, ?_⟩
  ·exact still_loc one24 hL_3 1 rfl 0 (v := (Sl.v g0_1)) rfl
  refine ⟨?_, ?_⟩
  ·exact still_locA agg26 hL_3 1 rfl 0 (vs := [(Sl.v g0_1)]) rfl rfl
  refine H.mono fun rv_2 h_4 H => ?_
  obtain ⟨x_1, x_2, x_3, x_4, x_5, hL_4, H⟩ := H
  refine pop_nil _ ?_
  refine pop_field 3 fld126_3 b_2 0 ?_
  refine rop_loc one24 hL_4 0 rfl 3 (v := (Sl.v x_4)) rfl ?_
  exact H

/-! impl.hasSink -/
def u94 (P : Program) (g0_1 : Sl) (sink1_1 : Int) (h : Heap) (K : Value → Heap → Prop) : Prop :=
  ∀ (b_1 : Nat) (h_1 : Heap), h.size ≤ b_1 → Fr (In []) h h_1 → Vars h_1 [(b_1, [(Sl.v g0_1)])] →
  eop P (Instr.buildSlice 37 1 #[(0, (VI sink1_1))]) h_1 fun rv_1 h_2 => ∃ t7_1 : Sl, rv_1 = (Sl.v t7_1) ∧ Vars h_2 [(b_1, [(Sl.v g0_1)])] ∧
  callM P 63 #[(Value.agg #[(Sl.v g0_1)]), (Sl.v t7_1)] h_2 fun rv_2 h_3 => ∃ t8_1 : Bool, rv_2 = (VB t8_1) ∧ Vars h_3 [(b_1, [(Sl.v g0_1)])] ∧
  (t8_1 = true →
  callM P 98 #[(Value.agg #[(Sl.v g0_1)]), (VI sink1_1)] h_3 fun rv_3 h_4 => ∃ t12_1 : Bool, rv_3 = (VB t12_1) ∧ Vars h_4 [(b_1, [(Sl.v g0_1)])] ∧
  K (VB t12_1) h_4) ∧
  (t8_1 = false →
  K (VB false) h_3)
theorem v94 (g0_1 : Sl) (sink1_1 : Int) (h : Heap) (K : Value → Heap → Prop) (H : u94 Try.prog g0_1 sink1_1 h K) : callM Try.prog 94 #[(Value.agg #[(Sl.v g0_1)]), (VI sink1_1)] h K := by
  refine c94 (Value.agg #[(Sl.v g0_1)]) (VI sink1_1) h K ?_
  unfold u94 at H
  unfold t94
  have hL : Vars h [] := .nil
  refine eop_box 26 (Value.agg #[(Sl.v g0_1)]) rfl hL (fun b_1 h_1 hb_1 hf_1 hL_1 => ?_)
  refine rop_locA agg26 hL_1 0 rfl 0 (vs := [(Sl.v g0_1)]) rfl rfl ?_
  have H := H b_1 h_1 (Nat.le_trans (Fr.size (Fr.r (In []) _)) hb_1) (Fr.no' (Fr.r (In []) _) hf_1) hL_1
  refine H.mono fun rv_1 h_2 H => ?_
  obtain ⟨t7_1, rfl, hL_2, H⟩ := H
  refine H.mono fun rv_2 h_3 H => ?_
  obtain ⟨t8_1, rfl, hL_3, H⟩ := H
  refine guardM_st (fun hb_2 => ?_) (fun hb_2 => ?_)
  rotate_left
  ·have H := H.2 hb_2
   refine guardM_n' hb_2 (by decide) ?_
   refine guardM_n' hb_2 (by decide) ?_
   refine pop_pickf' hb_2 ?_
   exact H
  have H := H.1 hb_2
  refine rop_locA agg26 hL_3 0 rfl 0 (vs := [(Sl.v g0_1)]) rfl rfl ?_
  refine guardM_y' hb_2 ?_
  refine guardM_y' hb_2 ?_
  refine H.mono fun rv_3 h_4 H => ?_
  obtain ⟨t12_1, rfl, hL_4, H⟩ := H
  refine pop_pickt' hb_2 ?_
  exact H

/-! spec.grLeads -/
def u95 (P : Program) (g0_1 : Sl) (p1_1 : Int) (h : Heap) (K : Value → Heap → Prop) : Prop :=
  ∀ (b_1 : Nat) (h_1 : Heap), h.size ≤ b_1 → Fr (In []) h h_1 → Vars h_1 [(b_1, [(Sl.v g0_1)])] →
  ∃ J_1 : Nat → Int → Heap → Prop, (∃ n0 : Nat, J_1 n0 0 h_1) ∧
  ∀ (n_1 : Nat) (t9_1 : Int) (h_2 : Heap), J_1 n_1 t9_1 h_2 → Vars h_2 [(b_1, [(Sl.v g0_1)])] →
  ((decide (t9_1 < (g0_1.n : Int))) = true →
  callM P 115 #[(Value.agg #[(Sl.v g0_1)]), (VI t9_1)] h_2 fun rv_1 h_3 => ∃ t14_1 : Sl, rv_1 = (Sl.v t14_1) ∧ Vars h_3 [(b_1, [(Sl.v g0_1)])] ∧
  InB t14_1 p1_1 ∧
  ∃ t17_1 : Int, hcell h_3 (Sl.at t14_1 p1_1 1) = some (VI t17_1) ∧
  ((decide (t17_1 < 0)) = true →
  K (VB false) h_3) ∧
  ((decide (t17_1 < 0)) = false →
  ∃ m : Nat, m < n_1 ∧ J_1 m (w64 (t9_1 + 1)) h_3)) ∧
  ((decide (t9_1 < (g0_1.n : Int))) = false →
  K (VB true) h_2)
theorem v95 (g0_1 : Sl) (p1_1 : Int) (h : Heap) (K : Value → Heap → Prop) (H : u95 Try.prog g0_1 p1_1 h K) : callM Try.prog 95 #[(Value.agg #[(Sl.v g0_1)]), (VI p1_1)] h K := by
  refine c95 (Value.agg #[(Sl.v g0_1)]) (VI p1_1) h K ?_
  unfold u95 at H
  unfold t95
  have hL : Vars h [] := .nil
  refine eop_box 26 (Value.agg #[(Sl.v g0_1)]) rfl hL (fun b_1 h_1 hb_1 hf_1 hL_1 => ?_)
  refine pop_field 0 fld26_0 b_1 0 ?_
  refine rop_loc one24 hL_1 0 rfl 0 (v := (Sl.v g0_1)) rfl ?_
  refine pop_len g0_1 _ _ sli24 ?_
  have H := H b_1 h_1 (Nat.le_trans (Fr.size (Fr.r (In []) _)) hb_1) (Fr.no' (Fr.r (In []) _) hf_1) hL_1
  obtain ⟨J_1, ⟨n_2, h0_1⟩, HB_1⟩ := H
  refine loop_intro (J := fun (n : Nat) (vs : List Value) (h' : Heap) => ∃ t9_1 : Int, vs = [(VI t9_1)] ∧ J_1 n t9_1 h' ∧ Vars h' [(b_1, [(Sl.v g0_1)])]) n_2 ⟨0, rfl, h0_1, hL_1⟩ ?_
  intro I_1 mu_1 hI_1 junk_1 tv_1 h_2 hi_1
  obtain ⟨n_1, ⟨t9_1, hv, hJ_1, hL_2⟩, hn_1⟩ := hI_1 _ _ hi_1
  cases hv
  have H := HB_1 n_1 t9_1 h_2 hJ_1 hL_2
  refine pop_lss .i64 t9_1 (g0_1.n : Int) ?_
  refine condM_b (fun hb_2 => ?_) (fun hb_2 => ?_)
  rotate_left
  ·have H := H.2 hb_2
   exact H
  have H := H.1 hb_2
  refine rop_locA agg26 hL_2 0 rfl 0 (vs := [(Sl.v g0_1)]) rfl rfl ?_
  refine H.mono fun rv_1 h_3 H => ?_
  obtain ⟨t14_1, rfl, hL_3, H⟩ := H
  obtain ⟨hi_2, H⟩ := H
  refine pop_index sli37 siz3 .i64 t14_1 p1_1 hi_2 ?_
  obtain ⟨t17_1, hc_1, H⟩ := H
  refine rop_one one3 (VI t17_1) hc_1 ?_
  refine pop_lss .i64 t17_1 0 ?_
  refine condM_b (fun hb_3 => ?_) (fun hb_3 => ?_)
  ·have H := H.1 hb_3
   exact H
  have H := H.2 hb_3
  refine pop_add .i64 t9_1 1 ?_
  obtain ⟨m_1, hm_1, H⟩ := H
  exact hn_1 _ _ ⟨m_1, hm_1, (w64 (t9_1 + 1)), rfl, H, hL_3⟩

/-! slices.ContainsFunc[[]int,int] -/
def u96 (P : Program) (s0_1 : Sl) (f1_1 : Value) (h : Heap) (K : Value → Heap → Prop) : Prop :=
  callM P 132 #[(Sl.v s0_1), f1_1] h fun rv_1 h_1 => ∃ t7_1 : Int, rv_1 = (VI t7_1) ∧ Vars h_1 [] ∧
  K (VB (decide (0 ≤ t7_1))) h_1
theorem v96 (s0_1 : Sl) (f1_1 : Value) (h : Heap) (K : Value → Heap → Prop) (H : u96 Try.prog s0_1 f1_1 h K) : callM Try.prog 96 #[(Sl.v s0_1), f1_1] h K := by
  refine c96 (Sl.v s0_1) f1_1 h K ?_
  unfold u96 at H
  unfold t96
  have hL : Vars h [] := .nil
  refine H.mono fun rv_1 h_1 H => ?_
  obtain ⟨t7_1, rfl, hL_1, H⟩ := H
  refine pop_geq .i64 t7_1 0 ?_
  exact H

/-! impl.DeterminantOf$1 -/
def u97 (P : Program) (x0_1 : Int) (h : Heap) (K : Value → Heap → Prop) : Prop :=
  callM P 71 #[(VI x0_1), (VI (-10)), (VI 10)] h fun rv_1 h_1 => ∃ t4_1 : Bool, rv_1 = (VB t4_1) ∧ Vars h_1 [] ∧
  K (VB (!t4_1)) h_1
theorem v97 (x0_1 : Int) (h : Heap) (K : Value → Heap → Prop) (H : u97 Try.prog x0_1 h K) : callM Try.prog 97 #[(VI x0_1)] h K := by
  refine c97 (VI x0_1) h K ?_
  unfold u97 at H
  unfold t97
  have hL : Vars h [] := .nil
  refine H.mono fun rv_1 h_1 H => ?_
  obtain ⟨t4_1, rfl, hL_1, H⟩ := H
  refine pop_not t4_1 ?_
  exact H

/-! (impl.Graph).leadsTo -/
def u98 (P : Program) (g0_1 : Sl) (p1_1 : Int) (h : Heap) (K : Value → Heap → Prop) : Prop :=
  ∀ (b_1 : Nat) (h_1 : Heap), h.size ≤ b_1 → Fr (In []) h h_1 → Vars h_1 [(b_1, [(Sl.v g0_1)])] →
  ∃ J_1 : Nat → Int → Heap → Prop, (∃ n0 : Nat, J_1 n0 0 h_1) ∧
  ∀ (n_1 : Nat) (t9_1 : Int) (h_2 : Heap), J_1 n_1 t9_1 h_2 → Vars h_2 [(b_1, [(Sl.v g0_1)])] →
  ((decide (t9_1 < (g0_1.n : Int))) = true →
  callM P 110 #[(Value.agg #[(Sl.v g0_1)]), (VI t9_1)] h_2 fun rv_1 h_3 => ∃ t14_1 : Sl, rv_1 = (Sl.v t14_1) ∧ Vars h_3 [(b_1, [(Sl.v g0_1)])] ∧
  InB t14_1 p1_1 ∧
  ∃ t17_1 : Int, hcell h_3 (Sl.at t14_1 p1_1 1) = some (VI t17_1) ∧
  ((decide (t17_1 < 0)) = true →
  K (VB false) h_3) ∧
  ((decide (t17_1 < 0)) = false →
  ∃ m : Nat, m < n_1 ∧ J_1 m (w64 (t9_1 + 1)) h_3)) ∧
  ((decide (t9_1 < (g0_1.n : Int))) = false →
  K (VB true) h_2)
theorem v98 (g0_1 : Sl) (p1_1 : Int) (h : Heap) (K : Value → Heap → Prop) (H : u98 Try.prog g0_1 p1_1 h K) : callM Try.prog 98 #[(Value.agg #[(Sl.v g0_1)]), (VI p1_1)] h K := by
  refine c98 (Value.agg #[(Sl.v g0_1)]) (VI p1_1) h K ?_
  unfold u98 at H
  unfold t98
  have hL : Vars h [] := .nil
  refine eop_box 26 (Value.agg #[(Sl.v g0_1)]) rfl hL (fun b_1 h_1 hb_1 hf_1 hL_1 => ?_)
  refine pop_field 0 fld26_0 b_1 0 ?_
  refine rop_loc one24 hL_1 0 rfl 0 (v := (Sl.v g0_1)) rfl ?_
  refine pop_len g0_1 _ _ sli24 ?_
  have H := H b_1 h_1 (Nat.le_trans (Fr.size (Fr.r (In []) _)) hb_1) (Fr.no' (Fr.r (In []) _) hf_1) hL_1
  obtain ⟨J_1, ⟨n_2, h0_1⟩, HB_1⟩ := H
  refine loop_intro (J := fun (n : Nat) (vs : List Value) (h' : Heap) => ∃ t9_1 : Int, vs = [(VI t9_1)] ∧ J_1 n t9_1 h' ∧ Vars h' [(b_1, [(Sl.v g0_1)])]) n_2 ⟨0, rfl, h0_1, hL_1⟩ ?_
  intro I_1 mu_1 hI_1 junk_1 tv_1 h_2 hi_1
  obtain ⟨n_1, ⟨t9_1, hv, hJ_1, hL_2⟩, hn_1⟩ := hI_1 _ _ hi_1
  cases hv
  have H := HB_1 n_1 t9_1 h_2 hJ_1 hL_2
  refine pop_lss .i64 t9_1 (g0_1.n : Int) ?_
  refine condM_b (fun hb_2 => ?_) (fun hb_2 => ?_)
  rotate_left
  ·have H := H.2 hb_2
   exact H
  have H := H.1 hb_2
  refine rop_locA agg26 hL_2 0 rfl 0 (vs := [(Sl.v g0_1)]) rfl rfl ?_
  refine H.mono fun rv_1 h_3 H => ?_
  obtain ⟨t14_1, rfl, hL_3, H⟩ := H
  obtain ⟨hi_2, H⟩ := H
  refine pop_index sli37 siz3 .i64 t14_1 p1_1 hi_2 ?_
  obtain ⟨t17_1, hc_1, H⟩ := H
  refine rop_one one3 (VI t17_1) hc_1 ?_
  refine pop_lss .i64 t17_1 0 ?_
  refine condM_b (fun hb_3 => ?_) (fun hb_3 => ?_)
  ·have H := H.1 hb_3
   exact H
  have H := H.2 hb_3
  refine pop_add .i64 t9_1 1 ?_
  obtain ⟨m_1, hm_1, H⟩ := H
  exact hn_1 _ _ ⟨m_1, hm_1, (w64 (t9_1 + 1)), rfl, H, hL_3⟩

/-! impl.areSinkRotors -/
def u99 (P : Program) (g0_1 : Sl) (sink1_1 : Int) (rotors2_1 : Sl) (h : Heap) (K : Value → Heap → Prop) : Prop :=
  ∀ (b_1 : Nat) (h_1 : Heap), h.size ≤ b_1 → Fr (In []) h h_1 → Vars h_1 [(b_1, [(Sl.v g0_1)])] →
  eop P (Instr.buildSlice 37 1 #[(0, (VI sink1_1))]) h_1 fun rv_1 h_2 => ∃ t9_1 : Sl, rv_1 = (Sl.v t9_1) ∧ Vars h_2 [(b_1, [(Sl.v g0_1)])] ∧
  callM P 63 #[(Value.agg #[(Sl.v g0_1)]), (Sl.v t9_1)] h_2 fun rv_2 h_3 => ∃ t10_1 : Bool, rv_2 = (VB t10_1) ∧ Vars h_3 [(b_1, [(Sl.v g0_1)])] ∧
  (t10_1 = true →
  callM P 123 #[(Value.agg #[(Sl.v g0_1)]), (Sl.v rotors2_1)] h_3 fun rv_3 h_4 => ∃ t14_1 : Bool, rv_3 = (VB t14_1) ∧ Vars h_4 [(b_1, [(Sl.v g0_1)])] ∧
  (t14_1 = true →
  InB rotors2_1 sink1_1 ∧
  ∃ t20_1 : Int, hcell h_4 (Sl.at rotors2_1 sink1_1 1) = some (VI t20_1) ∧
  K (VB (decide (t20_1 = 0))) h_4) ∧
  (t14_1 = false →
  K (VB false) h_4)) ∧
  (t10_1 = false →
  K (VB false) h_3)
theorem v99 (g0_1 : Sl) (sink1_1 : Int) (rotors2_1 : Sl) (h : Heap) (K : Value → Heap → Prop) (H : u99 Try.prog g0_1 sink1_1 rotors2_1 h K) : callM Try.prog 99 #[(Value.agg #[(Sl.v g0_1)]), (VI sink1_1), (Sl.v rotors2_1)] h K := by
  refine c99 (Value.agg #[(Sl.v g0_1)]) (VI sink1_1) (Sl.v rotors2_1) h K ?_
  unfold u99 at H
  unfold t99
  have hL : Vars h [] := .nil
  refine eop_box 26 (Value.agg #[(Sl.v g0_1)]) rfl hL (fun b_1 h_1 hb_1 hf_1 hL_1 => ?_)
  refine rop_locA agg26 hL_1 0 rfl 0 (vs := [(Sl.v g0_1)]) rfl rfl ?_
  have H := H b_1 h_1 (Nat.le_trans (Fr.size (Fr.r (In []) _)) hb_1) (Fr.no' (Fr.r (In []) _) hf_1) hL_1
  refine H.mono fun rv_1 h_2 H => ?_
  obtain ⟨t9_1, rfl, hL_2, H⟩ := H
  refine H.mono fun rv_2 h_3 H => ?_
  obtain ⟨t10_1, rfl, hL_3, H⟩ := H
  refine guardM_st (fun hb_2 => ?_) (fun hb_2 => ?_)
  rotate_left
  ·have H := H.2 hb_2
   refine guardM_n' hb_2 (by decide) ?_
   refine guardM_n' hb_2 (by decide) ?_
   refine pop_pickf' hb_2 ?_
   refine guardM_n (by decide) ?_
   refine guardM_n (by decide) ?_
   refine guardM_n (by decide) ?_
   refine guardM_n (by decide) ?_
   refine guardM_n (by decide) ?_
   refine pop_pickf _ _ ?_
   exact H
  have H := H.1 hb_2
  refine rop_locA agg26 hL_3 0 rfl 0 (vs := [(Sl.v g0_1)]) rfl rfl ?_
  refine guardM_y' hb_2 ?_
  refine guardM_y' hb_2 ?_
  refine H.mono fun rv_3 h_4 H => ?_
  obtain ⟨t14_1, rfl, hL_4, H⟩ := H
  refine pop_pickt' hb_2 ?_
  refine guardM_st (fun hb_3 => ?_) (fun hb_3 => ?_)
  rotate_left
  ·have H := H.2 hb_3
   refine guardM_n' hb_3 (by decide) ?_
   refine guardM_n' hb_3 (by decide) ?_
   refine guardM_n' hb_3 (by decide) ?_
   refine guardM_n' hb_3 (by decide) ?_
   refine pop_pickf' hb_3 ?_
   exact H
  have H := H.1 hb_3
  refine guardM_y' hb_3 ?_
  refine guardM_y' hb_3 ?_
  obtain ⟨hi_1, H⟩ := H
  refine pop_index sli37 siz3 .i64 rotors2_1 sink1_1 hi_1 ?_
  refine guardM_y' hb_3 ?_
  obtain ⟨t20_1, hc_1, H⟩ := H
  refine rop_one one3 (VI t20_1) hc_1 ?_
  refine guardM_y' hb_3 ?_
  refine pop_ieq .i64 _ _ t20_1 0 ?_
  refine pop_pickt' hb_3 ?_
  exact H

/-! (impl.Graph).isTree -/
def u100 (P : Program) (g0_1 : Sl) (sink1_1 : Int) (rotors2_1 : Sl) (h : Heap) (K : Value → Heap → Prop) : Prop :=
  ∀ (b_1 : Nat) (h_1 : Heap), h.size ≤ b_1 → Fr (In []) h h_1 → Vars h_1 [(b_1, [(Sl.v g0_1)])] →
  callM P 104 #[(Value.agg #[(Sl.v g0_1)]), (VI sink1_1), (Sl.v rotors2_1)] h_1 fun rv_1 h_2 => ∃ t13_1 : Sl, ∃ t13_2 : Bool, rv_1 = (Value.tuple #[(Sl.v t13_1), (VB t13_2)]) ∧ Vars h_2 [(b_1, [(Sl.v g0_1)])] ∧
  K (VB t13_2) h_2
theorem v100 (g0_1 : Sl) (sink1_1 : Int) (rotors2_1 : Sl) (h : Heap) (K : Value → Heap → Prop) (H : u100 Try.prog g0_1 sink1_1 rotors2_1 h K) : callM Try.prog 100 #[(Value.agg #[(Sl.v g0_1)]), (VI sink1_1), (Sl.v rotors2_1)] h K := by
  refine c100 (Value.agg #[(Sl.v g0_1)]) (VI sink1_1) (Sl.v rotors2_1) h K ?_
  unfold u100 at H
  unfold t100
  have hL : Vars h [] := .nil
  refine eop_box 26 (Value.agg #[(Sl.v g0_1)]) rfl hL (fun b_1 h_1 hb_1 hf_1 hL_1 => ?_)
  refine rop_locA agg26 hL_1 0 rfl 0 (vs := [(Sl.v g0_1)]) rfl rfl ?_
  have H := H b_1 h_1 (Nat.le_trans (Fr.size (Fr.r (In []) _)) hb_1) (Fr.no' (Fr.r (In []) _) hf_1) hL_1
  refine H.mono fun rv_1 h_2 H => ?_
  obtain ⟨t13_1, t13_2, rfl, hL_2, H⟩ := H
  refine pop_ext (v := (Sl.v t13_1)) rfl ?_
  refine pop_ext (v := (VB t13_2)) rfl ?_
  exact H

/-! (*spec.l1Cur).rooted -/
def u101 (P : Program) (b_1 : Nat) (c0_1 : Sl) (c0_2 : Int) (c0_3 : Int) (h : Heap) (K : Value → Heap → Prop) : Prop :=
  ∀ (b_2 : Nat) (h_1 : Heap), h.size ≤ b_2 → Fr (In []) h h_1 → Vars h_1 [(b_2, [(Sl.v nilSl)]), (b_1, [(Sl.v c0_1), (VI c0_2), (Value.int .u64 c0_3)])] →
  callM P 127 #[(VP b_1 0)] h_1 fun rv_1 h_2 => ∃ x_1 : Sl, ∃ x_2 : Int, ∃ x_3 : Int, ∃ t11_1 : Sl, ∃ t11_2 : Int, rv_1 = (Value.tuple #[(Value.agg #[(Sl.v t11_1)]), (VI t11_2)]) ∧ Vars h_2 [(b_2, [(Sl.v nilSl)]), (b_1, [(Sl.v x_1), (VI x_2), (Value.int .u64 x_3)])] ∧
  ∀ (b_3 : Nat) (h_4 : Heap), h_2.size ≤ b_3 → Fr (In []) h_2 h_4 → Vars h_4 [(b_3, [(Sl.v t11_1)]), (b_2, [(Sl.v nilSl)]), (b_1, [(Sl.v x_1), (VI x_2), (Value.int .u64 x_3)])] →
  callM P 72 #[(Value.agg #[(Sl.v t11_1)]), (VI t11_2)] h_4 fun rv_2 h_5 => ∃ t16_1 : Bool, rv_2 = (VB t16_1) ∧ Vars h_5 [(b_3, [(Sl.v t11_1)]), (b_2, [(Sl.v nilSl)]), (b_1, [(Sl.v x_1), (VI x_2), (Value.int .u64 x_3)])] ∧
  ((!t16_1) = true →
  ∀ (h_6 : Heap), Fr (In [b_2]) h_5 h_6 → Vars h_6 [(b_3, [(Sl.v t11_1)]), (b_2, [(Sl.v t11_1)]), (b_1, [(Sl.v x_1), (VI x_2), (Value.int .u64 x_3)])] →
  K (Value.tuple #[(Value.agg #[(Sl.v t11_1)]), (VI t11_2), (Sl.v nilSl)]) h_6) ∧
  ((!t16_1) = false →
  callM P 95 #[(Value.agg #[(Sl.v t11_1)]), (VI t11_2)] h_5 fun rv_3 h_7 => ∃ t22_1 : Bool, rv_3 = (VB t22_1) ∧ Vars h_7 [(b_3, [(Sl.v t11_1)]), (b_2, [(Sl.v nilSl)]), (b_1, [(Sl.v x_1), (VI x_2), (Value.int .u64 x_3)])] ∧
  (t22_1 = true →
  callM P 106 #[(VP b_1 0), (VI 3)] h_7 fun rv_4 h_8 => ∃ x_4 : Sl, ∃ x_5 : Int, ∃ x_6 : Int, ∃ t25_1 : Bool, rv_4 = (VB t25_1) ∧ Vars h_8 [(b_3, [(Sl.v t11_1)]), (b_2, [(Sl.v nilSl)]), (b_1, [(Sl.v x_4), (VI x_5), (Value.int .u64 x_6)])] ∧
  ((!t25_1) = true →
  callM P 93 #[(Value.agg #[(Sl.v t11_1)]), (VI t11_2), (VI 20)] h_8 fun rv_5 h_9 => ∃ t30_1 : Sl, rv_5 = (Sl.v t30_1) ∧ Vars h_9 [(b_3, [(Sl.v t11_1)]), (b_2, [(Sl.v nilSl)]), (b_1, [(Sl.v x_4), (VI x_5), (Value.int .u64 x_6)])] ∧
  callM P 70 #[(VP b_1 0), (VI (t30_1.n : Int))] h_9 fun rv_6 h_10 => ∃ x_7 : Sl, ∃ x_8 : Int, ∃ x_9 : Int, ∃ t37_1 : Int, rv_6 = (VI t37_1) ∧ Vars h_10 [(b_3, [(Sl.v t11_1)]), (b_2, [(Sl.v nilSl)]), (b_1, [(Sl.v x_7), (VI x_8), (Value.int .u64 x_9)])] ∧
  InB t30_1 t37_1 ∧
  ∃ t39_1 : Sl, hcell h_10 (Sl.at t30_1 t37_1 1) = some (Sl.v t39_1) ∧
  callM P 121 #[(Sl.v t39_1)] h_10 fun rv_7 h_11 => ∃ t40_1 : Sl, rv_7 = (Sl.v t40_1) ∧ Vars h_11 [(b_3, [(Sl.v t11_1)]), (b_2, [(Sl.v nilSl)]), (b_1, [(Sl.v x_7), (VI x_8), (Value.int .u64 x_9)])] ∧
  ∀ (h_12 : Heap), Fr (In [b_2]) h_11 h_12 → Vars h_12 [(b_3, [(Sl.v t11_1)]), (b_2, [(Sl.v t11_1)]), (b_1, [(Sl.v x_7), (VI x_8), (Value.int .u64 x_9)])] →
  K (Value.tuple #[(Value.agg #[(Sl.v t11_1)]), (VI t11_2), (Sl.v t40_1)]) h_12) ∧
  ((!t25_1) = false →
  callM P 122 #[(VP b_1 0), (Value.agg #[(Sl.v t11_1)])] h_8 fun rv_8 h_13 => ∃ x_10 : Sl, ∃ x_11 : Int, ∃ x_12 : Int, ∃ t43_1 : Sl, ∃ t43_2 : Int, rv_8 = (Value.agg #[(Sl.v t43_1), (VI t43_2)]) ∧ Vars h_13 [(b_3, [(Sl.v t11_1)]), (b_2, [(Sl.v nilSl)]), (b_1, [(Sl.v x_10), (VI x_11), (Value.int .u64 x_12)])] ∧
  ∀ (b_4 : Nat) (h_15 : Heap), h_13.size ≤ b_4 → Fr (In []) h_13 h_15 → Vars h_15 [(b_4, [(Sl.v t43_1), (VI t43_2)]), (b_3, [(Sl.v t11_1)]), (b_2, [(Sl.v nilSl)]), (b_1, [(Sl.v x_10), (VI x_11), (Value.int .u64 x_12)])] →
  ∃ J_1 : Sl → Int → Int → Heap → Prop, (callM P 106 #[(VP b_1 0), (VI 8)] h_15 fun rv_9 h_16 => ∃ x_16 : Sl, ∃ x_17 : Int, ∃ x_18 : Int, ∃ t45_1 : Bool, rv_9 = (VB t45_1) ∧ Vars h_16 [(b_4, [(Sl.v t43_1), (VI t43_2)]), (b_3, [(Sl.v t11_1)]), (b_2, [(Sl.v nilSl)]), (b_1, [(Sl.v x_16), (VI x_17), (Value.int .u64 x_18)])] ∧
  ((!t45_1) = true →
  InB t43_1 t11_2 ∧
  Writable h_16 (Sl.at t43_1 t11_2 1) ∧ Vars (hset h_16 (Sl.at t43_1 t11_2 1) (VI 0)) [(b_4, [(Sl.v t43_1), (VI t43_2)]), (b_3, [(Sl.v t11_1)]), (b_2, [(Sl.v nilSl)]), (b_1, [(Sl.v x_16), (VI x_17), (Value.int .u64 x_18)])] ∧
  ∀ h_17 : Heap, h_17 = hset h_16 (Sl.at t43_1 t11_2 1) (VI 0) → Vars h_17 [(b_4, [(Sl.v t43_1), (VI t43_2)]), (b_3, [(Sl.v t11_1)]), (b_2, [(Sl.v nilSl)]), (b_1, [(Sl.v x_16), (VI x_17), (Value.int .u64 x_18)])] →
  J_1 x_16 x_17 x_18 h_17) ∧
  ((!t45_1) = false →
  J_1 x_16 x_17 x_18 h_16)) ∧
  ∀ (x_13 : Sl) (x_14 : Int) (x_15 : Int) (h_18 : Heap), J_1 x_13 x_14 x_15 h_18 → Vars h_18 [(b_4, [(Sl.v t43_1), (VI t43_2)]), (b_3, [(Sl.v t11_1)]), (b_2, [(Sl.v nilSl)]), (b_1, [(Sl.v x_13), (VI x_14), (Value.int .u64 x_15)])] →
  ∀ (h_19 : Heap), Fr (In [b_2]) h_18 h_19 → Vars h_19 [(b_4, [(Sl.v t43_1), (VI t43_2)]), (b_3, [(Sl.v t11_1)]), (b_2, [(Sl.v t11_1)]), (b_1, [(Sl.v x_13), (VI x_14), (Value.int .u64 x_15)])] →
  K (Value.tuple #[(Value.agg #[(Sl.v t11_1)]), (VI t11_2), (Sl.v t43_1)]) h_19)) ∧
  (t22_1 = false →
  callM P 122 #[(VP b_1 0), (Value.agg #[(Sl.v t11_1)])] h_7 fun rv_10 h_20 => ∃ x_19 : Sl, ∃ x_20 : Int, ∃ x_21 : Int, ∃ t43_3 : Sl, ∃ t43_4 : Int, rv_10 = (Value.agg #[(Sl.v t43_3), (VI t43_4)]) ∧ Vars h_20 [(b_3, [(Sl.v t11_1)]), (b_2, [(Sl.v nilSl)]), (b_1, [(Sl.v x_19), (VI x_20), (Value.int .u64 x_21)])] ∧
  ∀ (b_5 : Nat) (h_22 : Heap), h_20.size ≤ b_5 → Fr (In []) h_20 h_22 → Vars h_22 [(b_5, [(Sl.v t43_3), (VI t43_4)]), (b_3, [(Sl.v t11_1)]), (b_2, [(Sl.v nilSl)]), (b_1, [(Sl.v x_19), (VI x_20), (Value.int .u64 x_21)])] →
  ∃ J_2 : Sl → Int → Int → Heap → Prop, (callM P 106 #[(VP b_1 0), (VI 8)] h_22 fun rv_11 h_23 => ∃ x_25 : Sl, ∃ x_26 : Int, ∃ x_27 : Int, ∃ t45_2 : Bool, rv_11 = (VB t45_2) ∧ Vars h_23 [(b_5, [(Sl.v t43_3), (VI t43_4)]), (b_3, [(Sl.v t11_1)]), (b_2, [(Sl.v nilSl)]), (b_1, [(Sl.v x_25), (VI x_26), (Value.int .u64 x_27)])] ∧
  ((!t45_2) = true →
  InB t43_3 t11_2 ∧
  Writable h_23 (Sl.at t43_3 t11_2 1) ∧ Vars (hset h_23 (Sl.at t43_3 t11_2 1) (VI 0)) [(b_5, [(Sl.v t43_3), (VI t43_4)]), (b_3, [(Sl.v t11_1)]), (b_2, [(Sl.v nilSl)]), (b_1, [(Sl.v x_25), (VI x_26), (Value.int .u64 x_27)])] ∧
  ∀ h_24 : Heap, h_24 = hset h_23 (Sl.at t43_3 t11_2 1) (VI 0) → Vars h_24 [(b_5, [(Sl.v t43_3), (VI t43_4)]), (b_3, [(Sl.v t11_1)]), (b_2, [(Sl.v nilSl)]), (b_1, [(Sl.v x_25), (VI x_26), (Value.int .u64 x_27)])] →
  J_2 x_25 x_26 x_27 h_24) ∧
  ((!t45_2) = false →
  J_2 x_25 x_26 x_27 h_23)) ∧
  ∀ (x_22 : Sl) (x_23 : Int) (x_24 : Int) (h_25 : Heap), J_2 x_22 x_23 x_24 h_25 → Vars h_25 [(b_5, [(Sl.v t43_3), (VI t43_4)]), (b_3, [(Sl.v t11_1)]), (b_2, [(Sl.v nilSl)]), (b_1, [(Sl.v x_22), (VI x_23), (Value.int .u64 x_24)])] →
  ∀ (h_26 : Heap), Fr (In [b_2]) h_25 h_26 → Vars h_26 [(b_5, [(Sl.v t43_3), (VI t43_4)]), (b_3, [(Sl.v t11_1)]), (b_2, [(Sl.v t11_1)]), (b_1, [(Sl.v x_22), (VI x_23), (Value.int .u64 x_24)])] →
  K (Value.tuple #[(Value.agg #[(Sl.v t11_1)]), (VI t11_2), (Sl.v t43_3)]) h_26))
theorem v101 (b_1 : Nat) (c0_1 : Sl) (c0_2 : Int) (c0_3 : Int) (h : Heap) (K : Value → Heap → Prop) (hL : Vars h [(b_1, [(Sl.v c0_1), (VI c0_2), (Value.int .u64 c0_3)])]) (H : u101 Try.prog b_1 c0_1 c0_2 c0_3 h K) : callM Try.prog 101 #[(VP b_1 0)] h K := by
  refine c101 (VP b_1 0) h K ?_
  unfold u101 at H
  unfold t101
  refine eop_alloc 26 zer26 rfl hL (fun b_2 h_1 hb_1 hf_1 hL_1 => ?_)
  have H := H b_2 h_1 (Nat.le_trans (Fr.size (Fr.r (In []) _)) hb_1) (Fr.no' (Fr.r (In []) _) hf_1) hL_1
  refine H.mono fun rv_1 h_2 H => ?_
  obtain ⟨x_1, x_2, x_3, t11_1, t11_2, rfl, hL_2, H⟩ := H
  refine pop_ext (v := (Value.agg #[(Sl.v t11_1)])) rfl ?_
  refine pop_ext (v := (VI t11_2)) rfl ?_
  refine eop_alloc 26 zer26 rfl hL_2 (fun b_3 h_3 hb_2 hf_2 hL_3 => ?_)
  refine uop_loc siz26 hL_3 0 rfl 0 [(Sl.v t11_1)] rfl rfl rfl (Nat.le_of_ble_eq_true rfl) (L' := [(b_3, [(Sl.v t11_1)]), (b_2, [(Sl.v nilSl)]), (b_1, [(Sl.v x_1), (VI x_2), (Value.int .u64 x_3)])]) rfl (fun h_4 hf_3 hL_4 => ?_)
  refine rop_locA agg26 hL_4 0 rfl 0 (vs := [(Sl.v t11_1)]) rfl rfl ?_
  have H := H b_3 h_4 (Nat.le_trans (Fr.size (Fr.r (In []) _)) hb_2) (Fr.new (Fr.no' (Fr.r (In []) _) hf_2) (Nat.le_trans (Fr.size (Fr.r (In []) _)) hb_2) hf_3) hL_4
  refine H.mono fun rv_2 h_5 H => ?_
  obtain ⟨t16_1, rfl, hL_5, H⟩ := H
  refine pop_not t16_1 ?_
  refine condM_b (fun hb_3 => ?_) (fun hb_3 => ?_)
  ·have H := H.1 hb_3
   refine rop_locA agg26 hL_5 0 rfl 0 (vs := [(Sl.v t11_1)]) rfl rfl ?_
   refine uop_loc siz26 hL_5 1 rfl 0 [(Sl.v t11_1)] rfl rfl rfl (Nat.le_of_ble_eq_true rfl) (L' := [(b_3, [(Sl.v t11_1)]), (b_2, [(Sl.v t11_1)]), (b_1, [(Sl.v x_1), (VI x_2), (Value.int .u64 x_3)])]) rfl (fun h_6 hf_4 hL_6 => ?_)
   refine rop_locA agg26 hL_6 1 rfl 0 (vs := [(Sl.v t11_1)]) rfl rfl ?_
   have H := H  h_6  (Fr.old (Fr.r (In []) _) hf_4) hL_6
   exact H
  have H := H.2 hb_3
  refine rop_locA agg26 hL_5 0 rfl 0 (vs := [(Sl.v t11_1)]) rfl rfl ?_
  refine H.mono fun rv_3 h_7 H => ?_
  obtain ⟨t22_1, rfl, hL_7, H⟩ := H
  refine guardM_st (fun hb_4 => ?_) (fun hb_4 => ?_)
  rotate_left
  ·have H := H.2 hb_4
   refine guardM_n' hb_4 (by decide) ?_
   refine guardM_n' hb_4 (by decide) ?_
   refine pop_pickf' hb_4 ?_
   refine condM_f ?_
   refine rop_locA agg26 hL_7 0 rfl 0 (vs := [(Sl.v t11_1)]) rfl rfl ?_
   refine H.mono fun rv_10 h_20 H => ?_
   obtain ⟨x_19, x_20, x_21, t43_3, t43_4, rfl, hL_20, H⟩ := H
   refine eop_alloc 114 zer114 rfl hL_20 (fun b_5 h_21 hb_8 hf_9 hL_21 => ?_)
   refine uop_loc siz114 hL_21 0 rfl 0 [(Sl.v t43_3), (VI t43_4)] rfl rfl rfl (Nat.le_of_ble_eq_true rfl) (L' := [(b_5, [(Sl.v t43_3), (VI t43_4)]), (b_3, [(Sl.v t11_1)]), (b_2, [(Sl.v nilSl)]), (b_1, [(Sl.v x_19), (VI x_20), (Value.int .u64 x_21)])]) rfl (fun h_22 hf_10 hL_22 => ?_)
   have H := H b_5 h_22 (Nat.le_trans (Fr.size (Fr.r (In []) _)) hb_8) (Fr.new (Fr.no' (Fr.r (In []) _) hf_9) (Nat.le_trans (Fr.size (Fr.r (In []) _)) hb_8) hf_10) hL_22
   obtain ⟨J_2, H, HB_2⟩ := H
   refine ⟨fun (vs : List Value) (h' : Heap) => ∃ x_22 : Sl, ∃ x_23 : Int, ∃ x_24 : Int, vs = [] ∧ J_2 x_22 x_23 x_24 h' ∧ Vars h' [(b_5, [(Sl.v t43_3), (VI t43_4)]), (b_3, [(Sl.v t11_1)]), (b_2, [(Sl.v nilSl)]), (b_1, [(Sl.v x_22), (VI x_23), (Value.int .u64 x_24)])], ?_, ?_⟩
   ·refine H.mono fun rv_11 h_23 H => ?_
    obtain ⟨x_25, x_26, x_27, t45_2, rfl, hL_23, H⟩ := H
    refine pop_not t45_2 ?_
    refine condM_b (fun hb_9 => ?_) (fun hb_9 => ?_)
    rotate_left
    ·have H := H.2 hb_9
     exact ⟨x_25, x_26, x_27, rfl, H, hL_23⟩
    have H := H.1 hb_9
    refine pop_field 0 fld114_0 b_5 0 ?_
    refine rop_loc one37 hL_23 0 rfl 0 (v := (Sl.v t43_3)) rfl ?_
    obtain ⟨hi_3, H⟩ := H
    refine pop_index sli37 siz3 .i64 t43_3 t11_2 hi_3 ?_
    obtain ⟨hw_2, hL_24, H⟩ := H
    refine uop_cell (v := (VI 0)) siz3 hw_2 rfl (fun h_24 he_2 => ?_)
    rw [← he_2] at hL_24
    have H := H h_24 he_2 hL_24
    exact ⟨x_25, x_26, x_27, rfl, H, hL_24⟩
   intro junk_2  h_25
   rintro ⟨x_22, x_23, x_24, hv, hJ_2, hL_25⟩
   have H := HB_2 x_22 x_23 x_24 h_25 hJ_2 hL_25
   refine rop_locA agg26 hL_25 1 rfl 0 (vs := [(Sl.v t11_1)]) rfl rfl ?_
   refine pop_field 0 fld114_0 b_5 0 ?_
   refine rop_loc one37 hL_25 0 rfl 0 (v := (Sl.v t43_3)) rfl ?_
   refine uop_loc siz26 hL_25 2 rfl 0 [(Sl.v t11_1)] rfl rfl rfl (Nat.le_of_ble_eq_true rfl) (L' := [(b_5, [(Sl.v t43_3), (VI t43_4)]), (b_3, [(Sl.v t11_1)]), (b_2, [(Sl.v t11_1)]), (b_1, [(Sl.v x_22), (VI x_23), (Value.int .u64 x_24)])]) rfl (fun h_26 hf_11 hL_26 => ?_)
   have H := H  h_26  (Fr.old (Fr.r (In []) _) hf_11) hL_26
   refine ⟨?_, ?_⟩
   ·exact still_loc one37 hL_26 0 rfl 0 (v := (Sl.v t43_3)) rfl
   refine rop_locA agg26 hL_26 2 rfl 0 (vs := [(Sl.v t11_1)]) rfl rfl ?_
   exact H
  have H := H.1 hb_4
  refine guardM_y' hb_4 ?_
  refine H.mono fun rv_4 h_8 H => ?_
  obtain ⟨x_4, x_5, x_6, t25_1, rfl, hL_8, H⟩ := H
  refine guardM_y' hb_4 ?_
  refine pop_not t25_1 ?_
  refine pop_pickt' hb_4 ?_
  refine condM_b (fun hb_5 => ?_) (fun hb_5 => ?_)
  ·have H := H.1 hb_5
   refine rop_locA agg26 hL_8 0 rfl 0 (vs := [(Sl.v t11_1)]) rfl rfl ?_
   refine H.mono fun rv_5 h_9 H => ?_
   obtain ⟨t30_1, rfl, hL_9, H⟩ := H
   refine rop_locA agg26 hL_9 0 rfl 0 (vs := [(Sl.v t11_1)]) rfl rfl ?_
   refine pop_len t30_1 _ _ sli24 ?_
   refine H.mono fun rv_6 h_10 H => ?_
   obtain ⟨x_7, x_8, x_9, t37_1, rfl, hL_10, H⟩ := H
   refine ⟨?_, ?_⟩
   ·exact still_locA agg26 hL_10 0 rfl 0 (vs := [(Sl.v t11_1)]) rfl rfl
   obtain ⟨hi_1, H⟩ := H
   refine pop_index sli24 siz37 .i64 t30_1 t37_1 hi_1 ?_
   obtain ⟨t39_1, hc_1, H⟩ := H
   refine rop_one one37 (Sl.v t39_1) hc_1 ?_
   refine H.mono fun rv_7 h_11 H => ?_
   obtain ⟨t40_1, rfl, hL_11, H⟩ := H
   refine ⟨?_, ?_⟩
   ·exact still_locA agg26 hL_11 0 rfl 0 (vs := [(Sl.v t11_1)]) rfl rfl
   refine uop_loc siz26 hL_11 1 rfl 0 [(Sl.v t11_1)] rfl rfl rfl (Nat.le_of_ble_eq_true rfl) (L' := [(b_3, [(Sl.v t11_1)]), (b_2, [(Sl.v t11_1)]), (b_1, [(Sl.v x_7), (VI x_8), (Value.int .u64 x_9)])]) rfl (fun h_12 hf_5 hL_12 => ?_)
   refine rop_locA agg26 hL_12 1 rfl 0 (vs := [(Sl.v t11_1)]) rfl rfl ?_
   have H := H  h_12  (Fr.old (Fr.r (In []) _) hf_5) hL_12
   exact H
  have H := H.2 hb_5
  refine rop_locA agg26 hL_8 0 rfl 0 (vs := [(Sl.v t11_1)]) rfl rfl ?_
  refine H.mono fun rv_8 h_13 H => ?_
  obtain ⟨x_10, x_11, x_12, t43_1, t43_2, rfl, hL_13, H⟩ := H
  refine eop_alloc 114 zer114 rfl hL_13 (fun b_4 h_14 hb_6 hf_6 hL_14 => ?_)
  refine uop_loc siz114 hL_14 0 rfl 0 [(Sl.v t43_1), (VI t43_2)] rfl rfl rfl (Nat.le_of_ble_eq_true rfl) (L' := [(b_4, [(Sl.v t43_1), (VI t43_2)]), (b_3, [(Sl.v t11_1)]), (b_2, [(Sl.v nilSl)]), (b_1, [(Sl.v x_10), (VI x_11), (Value.int .u64 x_12)])]) rfl (fun h_15 hf_7 hL_15 => ?_)
  have H := H b_4 h_15 (Nat.le_trans (Fr.size (Fr.r (In []) _)) hb_6) (Fr.new (Fr.no' (Fr.r (In []) _) hf_6) (Nat.le_trans (Fr.size (Fr.r (In []) _)) hb_6) hf_7) hL_15
  obtain ⟨J_1, H, HB_1⟩ := H
  refine ⟨fun (vs : List Value) (h' : Heap) => ∃ x_13 : Sl, ∃ x_14 : Int, ∃ x_15 : Int, vs = [] ∧ J_1 x_13 x_14 x_15 h' ∧ Vars h' [(b_4, [(Sl.v t43_1), (VI t43_2)]), (b_3, [(Sl.v t11_1)]), (b_2, [(Sl.v nilSl)]), (b_1, [(Sl.v x_13), (VI x_14), (Value.int .u64 x_15)])], ?_, ?_⟩
  ·refine H.mono fun rv_9 h_16 H => ?_
   obtain ⟨x_16, x_17, x_18, t45_1, rfl, hL_16, H⟩ := H
   refine pop_not t45_1 ?_
   refine condM_b (fun hb_7 => ?_) (fun hb_7 => ?_)
   rotate_left
   ·have H := H.2 hb_7
    exact ⟨x_16, x_17, x_18, rfl, H, hL_16⟩
   have H := H.1 hb_7
   refine pop_field 0 fld114_0 b_4 0 ?_
   refine rop_loc one37 hL_16 0 rfl 0 (v := (Sl.v t43_1)) rfl ?_
   obtain ⟨hi_2, H⟩ := H
   refine pop_index sli37 siz3 .i64 t43_1 t11_2 hi_2 ?_
   obtain ⟨hw_1, hL_17, H⟩ := H
   refine uop_cell (v := (VI 0)) siz3 hw_1 rfl (fun h_17 he_1 => ?_)
   rw [← he_1] at hL_17
   have H := H h_17 he_1 hL_17
   exact ⟨x_16, x_17, x_18, rfl, H, hL_17⟩
  intro junk_1  h_18
  rintro ⟨x_13, x_14, x_15, hv, hJ_1, hL_18⟩
  have H := HB_1 x_13 x_14 x_15 h_18 hJ_1 hL_18
  refine rop_locA agg26 hL_18 1 rfl 0 (vs := [(Sl.v t11_1)]) rfl rfl ?_
  refine pop_field 0 fld114_0 b_4 0 ?_
  refine rop_loc one37 hL_18 0 rfl 0 (v := (Sl.v t43_1)) rfl ?_
  refine uop_loc siz26 hL_18 2 rfl 0 [(Sl.v t11_1)] rfl rfl rfl (Nat.le_of_ble_eq_true rfl) (L' := [(b_4, [(Sl.v t43_1), (VI t43_2)]), (b_3, [(Sl.v t11_1)]), (b_2, [(Sl.v t11_1)]), (b_1, [(Sl.v x_13), (VI x_14), (Value.int .u64 x_15)])]) rfl (fun h_19 hf_8 hL_19 => ?_)
  have H := H  h_19  (Fr.old (Fr.r (In []) _) hf_8) hL_19
  refine ⟨?_, ?_⟩
  ·exact still_loc one37 hL_19 0 rfl 0 (v := (Sl.v t43_1)) rfl
  refine rop_locA agg26 hL_19 2 rfl 0 (vs := [(Sl.v t11_1)]) rfl rfl ?_
  exact H

/-! spec.trGood -/
def u102 (P : Program) (g0_1 : Sl) (sink1_1 : Int) (rotors2_1 : Sl) (h : Heap) (K : Value → Heap → Prop) : Prop :=
  ∀ (b_1 : Nat) (h_1 : Heap), h.size ≤ b_1 → Fr (In []) h h_1 → Vars h_1 [(b_1, [(Sl.v g0_1)])] →
  callM P 72 #[(Value.agg #[(Sl.v g0_1)]), (VI sink1_1)] h_1 fun rv_1 h_2 => ∃ t9_1 : Bool, rv_1 = (VB t9_1) ∧ Vars h_2 [(b_1, [(Sl.v g0_1)])] ∧
  (t9_1 = true →
  callM P 125 #[(Value.agg #[(Sl.v g0_1)]), (Value.agg #[(Sl.v rotors2_1), (VI sink1_1)])] h_2 fun rv_2 h_3 => ∃ t15_1 : Bool, rv_2 = (VB t15_1) ∧ Vars h_3 [(b_1, [(Sl.v g0_1)])] ∧
  (t15_1 = true →
  InB rotors2_1 sink1_1 ∧
  ∃ t21_1 : Int, hcell h_3 (Sl.at rotors2_1 sink1_1 1) = some (VI t21_1) ∧
  K (VB (decide (t21_1 = 0))) h_3) ∧
  (t15_1 = false →
  K (VB false) h_3)) ∧
  (t9_1 = false →
  K (VB false) h_2)
theorem v102 (g0_1 : Sl) (sink1_1 : Int) (rotors2_1 : Sl) (h : Heap) (K : Value → Heap → Prop) (H : u102 Try.prog g0_1 sink1_1 rotors2_1 h K) : callM Try.prog 102 #[(Value.agg #[(Sl.v g0_1)]), (VI sink1_1), (Sl.v rotors2_1)] h K := by
  refine c102 (Value.agg #[(Sl.v g0_1)]) (VI sink1_1) (Sl.v rotors2_1) h K ?_
  unfold u102 at H
  unfold t102
  have hL : Vars h [] := .nil
  refine eop_box 26 (Value.agg #[(Sl.v g0_1)]) rfl hL (fun b_1 h_1 hb_1 hf_1 hL_1 => ?_)
  refine rop_locA agg26 hL_1 0 rfl 0 (vs := [(Sl.v g0_1)]) rfl rfl ?_
  have H := H b_1 h_1 (Nat.le_trans (Fr.size (Fr.r (In []) _)) hb_1) (Fr.no' (Fr.r (In []) _) hf_1) hL_1
  refine H.mono fun rv_1 h_2 H => ?_
  obtain ⟨t9_1, rfl, hL_2, H⟩ := H
  refine guardM_st (fun hb_2 => ?_) (fun hb_2 => ?_)
  rotate_left
  ·have H := H.2 hb_2
   refine guardM_n' hb_2 (by decide) ?_
   refine guardM_n' hb_2 (by decide) ?_
   refine guardM_n' hb_2 (by decide) ?_
   refine guardM_n' hb_2 (by decide) ?_
   refine pop_pickf' hb_2 ?_
   refine guardM_n (by decide) ?_
   refine guardM_n (by decide) ?_
   refine guardM_n (by decide) ?_
   refine guardM_n (by decide) ?_
   refine guardM_n (by decide) ?_
   refine pop_pickf _ _ ?_
   exact H
  have H := H.1 hb_2
  refine rop_locA agg26 hL_2 0 rfl 0 (vs := [(Sl.v g0_1)]) rfl rfl ?_
  refine guardM_y' hb_2 ?_
  refine guardM_y' hb_2 ?_
  refine guardM_y' hb_2 ?_
  refine pop.mk' (v := (Value.agg #[(Sl.v rotors2_1), (VI sink1_1)])) (fun w => by kernel_rfl) ?_
  refine guardM_y' hb_2 ?_
  refine H.mono fun rv_2 h_3 H => ?_
  obtain ⟨t15_1, rfl, hL_3, H⟩ := H
  refine pop_pickt' hb_2 ?_
  refine guardM_st (fun hb_3 => ?_) (fun hb_3 => ?_)
  rotate_left
  ·have H := H.2 hb_3
   refine guardM_n' hb_3 (by decide) ?_
   refine guardM_n' hb_3 (by decide) ?_
   refine guardM_n' hb_3 (by decide) ?_
   refine guardM_n' hb_3 (by decide) ?_
   refine pop_pickf' hb_3 ?_
   exact H
  have H := H.1 hb_3
  refine guardM_y' hb_3 ?_
  refine guardM_y' hb_3 ?_
  obtain ⟨hi_1, H⟩ := H
  refine pop_index sli37 siz3 .i64 rotors2_1 sink1_1 hi_1 ?_
  refine guardM_y' hb_3 ?_
  obtain ⟨t21_1, hc_1, H⟩ := H
  refine rop_one one3 (VI t21_1) hc_1 ?_
  refine guardM_y' hb_3 ?_
  refine pop_ieq .i64 _ _ t21_1 0 ?_
  refine pop_pickt' hb_3 ?_
  exact H

/-! spec.trIs -/
def u103 (P : Program) (g0_1 : Sl) (sink1_1 : Int) (rotors2_1 : Sl) (h : Heap) (K : Value → Heap → Prop) : Prop :=
  ∀ (b_1 : Nat) (h_1 : Heap), h.size ≤ b_1 → Fr (In []) h h_1 → Vars h_1 [(b_1, [(Sl.v g0_1)])] →
  ∃ J_1 : Nat → Int → Heap → Prop, (∃ n0 : Nat, J_1 n0 0 h_1) ∧
  ∀ (n_1 : Nat) (t11_1 : Int) (h_2 : Heap), J_1 n_1 t11_1 h_2 → Vars h_2 [(b_1, [(Sl.v g0_1)])] →
  ((decide (t11_1 < (g0_1.n : Int))) = true →
  callM P 105 #[(Value.agg #[(Sl.v g0_1)]), (VI sink1_1), (Sl.v rotors2_1), (VI t11_1)] h_2 fun rv_1 h_3 => ∃ t18_1 : Int, rv_1 = (VI t18_1) ∧ Vars h_3 [(b_1, [(Sl.v g0_1)])] ∧
  ((decide (t18_1 < 0)) = true →
  K (VB false) h_3) ∧
  ((decide (t18_1 < 0)) = false →
  ∃ m : Nat, m < n_1 ∧ J_1 m (w64 (t11_1 + 1)) h_3)) ∧
  ((decide (t11_1 < (g0_1.n : Int))) = false →
  K (VB true) h_2)
theorem v103 (g0_1 : Sl) (sink1_1 : Int) (rotors2_1 : Sl) (h : Heap) (K : Value → Heap → Prop) (H : u103 Try.prog g0_1 sink1_1 rotors2_1 h K) : callM Try.prog 103 #[(Value.agg #[(Sl.v g0_1)]), (VI sink1_1), (Sl.v rotors2_1)] h K := by
  refine c103 (Value.agg #[(Sl.v g0_1)]) (VI sink1_1) (Sl.v rotors2_1) h K ?_
  unfold u103 at H
  unfold t103
  have hL : Vars h [] := .nil
  refine eop_box 26 (Value.agg #[(Sl.v g0_1)]) rfl hL (fun b_1 h_1 hb_1 hf_1 hL_1 => ?_)
  refine pop_field 0 fld26_0 b_1 0 ?_
  refine rop_loc one24 hL_1 0 rfl 0 (v := (Sl.v g0_1)) rfl ?_
  refine pop_len g0_1 _ _ sli24 ?_
  have H := H b_1 h_1 (Nat.le_trans (Fr.size (Fr.r (In []) _)) hb_1) (Fr.no' (Fr.r (In []) _) hf_1) hL_1
  obtain ⟨J_1, ⟨n_2, h0_1⟩, HB_1⟩ := H
  refine loop_intro (J := fun (n : Nat) (vs : List Value) (h' : Heap) => ∃ t11_1 : Int, vs = [(VI t11_1)] ∧ J_1 n t11_1 h' ∧ Vars h' [(b_1, [(Sl.v g0_1)])]) n_2 ⟨0, rfl, h0_1, hL_1⟩ ?_
  intro I_1 mu_1 hI_1 junk_1 tv_1 h_2 hi_1
  obtain ⟨n_1, ⟨t11_1, hv, hJ_1, hL_2⟩, hn_1⟩ := hI_1 _ _ hi_1
  cases hv
  have H := HB_1 n_1 t11_1 h_2 hJ_1 hL_2
  refine pop_lss .i64 t11_1 (g0_1.n : Int) ?_
  refine condM_b (fun hb_2 => ?_) (fun hb_2 => ?_)
  rotate_left
  ·have H := H.2 hb_2
   exact H
  have H := H.1 hb_2
  refine rop_locA agg26 hL_2 0 rfl 0 (vs := [(Sl.v g0_1)]) rfl rfl ?_
  refine H.mono fun rv_1 h_3 H => ?_
  obtain ⟨t18_1, rfl, hL_3, H⟩ := H
  refine pop_lss .i64 t18_1 0 ?_
  refine condM_b (fun hb_3 => ?_) (fun hb_3 => ?_)
  ·have H := H.1 hb_3
   exact H
  have H := H.2 hb_3
  refine pop_add .i64 t11_1 1 ?_
  obtain ⟨m_1, hm_1, H⟩ := H
  exact hn_1 _ _ ⟨m_1, hm_1, (w64 (t11_1 + 1)), rfl, H, hL_3⟩

/-! (impl.Graph).treeWays -/
def u104 (P : Program) (g0_1 : Sl) (sink1_1 : Int) (rotors2_1 : Sl) (h : Heap) (K : Value → Heap → Prop) : Prop :=
  ∀ (b_1 : Nat) (h_1 : Heap), h.size ≤ b_1 → Fr (In []) h h_1 → Vars h_1 [(b_1, [(Sl.v g0_1)])] →
  eop P (Instr.buildSlice 37 0 #[]) h_1 fun rv_1 h_2 => ∃ t12_1 : Sl, rv_1 = (Sl.v t12_1) ∧ Vars h_2 [(b_1, [(Sl.v g0_1)])] ∧
  ∃ J_1 : Nat → Sl → Int → Heap → Prop, (∃ n0 : Nat, J_1 n0 t12_1 0 h_2) ∧
  ∀ (n_1 : Nat) (out8_1 : Sl) (t16_1 : Int) (h_3 : Heap), J_1 n_1 out8_1 t16_1 h_3 → Vars h_3 [(b_1, [(Sl.v g0_1)])] →
  ((decide (t16_1 < (g0_1.n : Int))) = true →
  ∃ J_2 : Nat → Int → Int → Heap → Prop, (∃ n0 : Nat, J_2 n0 0 t16_1 h_3) ∧
  ∀ (n_2 : Nat) (many10_1 : Int) (at11_1 : Int) (h_4 : Heap), J_2 n_2 many10_1 at11_1 h_4 → Vars h_4 [(b_1, [(Sl.v g0_1)])] →
  ((!decide (at11_1 = sink1_1)) = true →
  callM P 133 #[(Value.agg #[(Sl.v g0_1)]), (Sl.v rotors2_1), (VI at11_1)] h_4 fun rv_2 h_5 => ∃ t28_1 : Int, rv_2 = (VI t28_1) ∧ Vars h_5 [(b_1, [(Sl.v g0_1)])] ∧
  ((decide (t28_1 < 0)) = true →
  K (Value.tuple #[(Sl.v nilSl), (VB false)]) h_5) ∧
  ((decide (t28_1 < 0)) = false →
  ((decide ((g0_1.n : Int) < many10_1)) = true →
  K (Value.tuple #[(Sl.v nilSl), (VB false)]) h_5) ∧
  ((decide ((g0_1.n : Int) < many10_1)) = false →
  ∃ m : Nat, m < n_2 ∧ J_2 m (w64 (many10_1 + 1)) t28_1 h_5))) ∧
  ((!decide (at11_1 = sink1_1)) = false →
  eop P (Instr.buildSlice 37 1 #[(0, (VI many10_1))]) h_4 fun rv_3 h_6 => ∃ t40_1 : Sl, rv_3 = (Sl.v t40_1) ∧ Vars h_6 [(b_1, [(Sl.v g0_1)])] ∧
  eop P (appS 37 37 37 (Sl.v out8_1) (Sl.v t40_1)) h_6 fun rv_4 h_7 => ∃ t41_1 : Sl, rv_4 = (Sl.v t41_1) ∧ Vars h_7 [(b_1, [(Sl.v g0_1)])] ∧
  ∃ m : Nat, m < n_1 ∧ J_1 m t41_1 (w64 (t16_1 + 1)) h_7)) ∧
  ((decide (t16_1 < (g0_1.n : Int))) = false →
  K (Value.tuple #[(Sl.v out8_1), (VB true)]) h_3)
theorem v104 (g0_1 : Sl) (sink1_1 : Int) (rotors2_1 : Sl) (h : Heap) (K : Value → Heap → Prop) (H : u104 Try.prog g0_1 sink1_1 rotors2_1 h K) : callM Try.prog 104 #[(Value.agg #[(Sl.v g0_1)]), (VI sink1_1), (Sl.v rotors2_1)] h K := by
  refine c104 (Value.agg #[(Sl.v g0_1)]) (VI sink1_1) (Sl.v rotors2_1) h K ?_
  unfold u104 at H
  unfold t104
  have hL : Vars h [] := .nil
  refine eop_box 26 (Value.agg #[(Sl.v g0_1)]) rfl hL (fun b_1 h_1 hb_1 hf_1 hL_1 => ?_)
  have H := H b_1 h_1 (Nat.le_trans (Fr.size (Fr.r (In []) _)) hb_1) (Fr.no' (Fr.r (In []) _) hf_1) hL_1
  refine H.mono fun rv_1 h_2 H => ?_
  obtain ⟨t12_1, rfl, hL_2, H⟩ := H
  refine pop_field 0 fld26_0 b_1 0 ?_
  refine rop_loc one24 hL_2 0 rfl 0 (v := (Sl.v g0_1)) rfl ?_
  refine pop_len g0_1 _ _ sli24 ?_
  obtain ⟨J_1, ⟨n_4, h0_2⟩, HB_2⟩ := H
  refine loop_intro (J := fun (n : Nat) (vs : List Value) (h' : Heap) => ∃ out8_1 : Sl, ∃ t16_1 : Int, vs = [(Sl.v out8_1), (VI t16_1)] ∧ J_1 n out8_1 t16_1 h' ∧ Vars h' [(b_1, [(Sl.v g0_1)])]) n_4 ⟨t12_1, 0, rfl, h0_2, hL_2⟩ ?_
  intro I_2 mu_2 hI_2 junk_1 tv_3 tv_4 h_3 hi_1
  obtain ⟨n_1, ⟨out8_1, t16_1, hv, hJ_1, hL_3⟩, hn_1⟩ := hI_2 _ _ hi_1
  cases hv
  have H := HB_2 n_1 out8_1 t16_1 h_3 hJ_1 hL_3
  refine pop_lss .i64 t16_1 (g0_1.n : Int) ?_
  refine condM_b (fun hb_2 => ?_) (fun hb_2 => ?_)
  rotate_left
  ·have H := H.2 hb_2
   exact H
  have H := H.1 hb_2
  obtain ⟨J_2, ⟨n_3, h0_1⟩, HB_1⟩ := H
  refine loop_intro (J := fun (n : Nat) (vs : List Value) (h' : Heap) => ∃ many10_1 : Int, ∃ at11_1 : Int, vs = [(VI many10_1), (VI at11_1)] ∧ J_2 n many10_1 at11_1 h' ∧ Vars h' [(b_1, [(Sl.v g0_1)])]) n_3 ⟨0, t16_1, rfl, h0_1, hL_3⟩ ?_
  intro I_1 mu_1 hI_1 junk_2 tv_1 tv_2 h_4 hi_2
  obtain ⟨n_2, ⟨many10_1, at11_1, hv, hJ_2, hL_4⟩, hn_2⟩ := hI_1 _ _ hi_2
  cases hv
  have H := HB_1 n_2 many10_1 at11_1 h_4 hJ_2 hL_4
  refine pop_ine .i64 _ _ at11_1 sink1_1 ?_
  refine condM_b (fun hb_3 => ?_) (fun hb_3 => ?_)
  rotate_left
  ·have H := H.2 hb_3
   refine H.mono fun rv_3 h_6 H => ?_
   obtain ⟨t40_1, rfl, hL_6, H⟩ := H
   refine H.mono fun rv_4 h_7 H => ?_
   obtain ⟨t41_1, rfl, hL_7, H⟩ := H
   refine pop_add .i64 t16_1 1 ?_
   obtain ⟨m_2, hm_2, H⟩ := H
   exact hn_1 _ _ ⟨m_2, hm_2, t41_1, (w64 (t16_1 + 1)), rfl, H, hL_7⟩
  have H := H.1 hb_3
  refine rop_locA agg26 hL_4 0 rfl 0 (vs := [(Sl.v g0_1)]) rfl rfl ?_
  refine H.mono fun rv_2 h_5 H => ?_
  obtain ⟨t28_1, rfl, hL_5, H⟩ := H
  refine pop_lss .i64 t28_1 0 ?_
  refine guardM_sf (fun hb_4 => ?_) (fun hb_4 => ?_)
  rotate_left
  ·have H := H.1 hb_4
   refine guardM_n' hb_4 (by decide) ?_
   refine guardM_n' hb_4 (by decide) ?_
   refine guardM_n' hb_4 (by decide) ?_
   refine guardM_n' hb_4 (by decide) ?_
   refine pop_pickt' hb_4 ?_
   refine condM_t ?_
   exact H
  have H := H.2 hb_4
  refine guardM_y' hb_4 ?_
  refine pop_field 0 fld26_0 b_1 0 ?_
  refine guardM_y' hb_4 ?_
  refine rop_loc one24 hL_5 0 rfl 0 (v := (Sl.v g0_1)) rfl ?_
  refine guardM_y' hb_4 ?_
  refine pop_len g0_1 _ _ sli24 ?_
  refine guardM_y' hb_4 ?_
  refine pop_gtr .i64 many10_1 (g0_1.n : Int) ?_
  refine pop_pickf' hb_4 ?_
  refine condM_b (fun hb_5 => ?_) (fun hb_5 => ?_)
  ·have H := H.1 hb_5
   exact H
  have H := H.2 hb_5
  refine pop_add .i64 many10_1 1 ?_
  obtain ⟨m_1, hm_1, H⟩ := H
  exact hn_2 _ _ ⟨m_1, hm_1, (w64 (many10_1 + 1)), t28_1, rfl, H, hL_5⟩

/-! spec.trFar -/
def u105 (P : Program) (g0_1 : Sl) (sink1_1 : Int) (rotors2_1 : Sl) (p3_1 : Int) (h : Heap) (K : Value → Heap → Prop) : Prop :=
  ∀ (b_1 : Nat) (h_1 : Heap), h.size ≤ b_1 → Fr (In []) h h_1 → Vars h_1 [(b_1, [(Sl.v g0_1)])] →
  ∃ J_1 : Nat → Int → Int → Heap → Prop, (∃ n0 : Nat, J_1 n0 p3_1 0 h_1) ∧
  ∀ (n_1 : Nat) (p3_2 : Int) (n9_1 : Int) (h_2 : Heap), J_1 n_1 p3_2 n9_1 h_2 → Vars h_2 [(b_1, [(Sl.v g0_1)])] →
  ((decide (n9_1 < (g0_1.n : Int))) = true →
  ((decide (p3_2 = sink1_1)) = true →
  K (VI n9_1) h_2) ∧
  ((decide (p3_2 = sink1_1)) = false →
  callM P 134 #[(Value.agg #[(Sl.v g0_1)]), (Sl.v rotors2_1), (VI p3_2)] h_2 fun rv_1 h_3 => ∃ t24_1 : Int, rv_1 = (VI t24_1) ∧ Vars h_3 [(b_1, [(Sl.v g0_1)])] ∧
  ((decide (t24_1 < 0)) = true →
  K (VI (-1)) h_3) ∧
  ((decide (t24_1 < 0)) = false →
  ∃ m : Nat, m < n_1 ∧ J_1 m t24_1 (w64 (n9_1 + 1)) h_3))) ∧
  ((decide (n9_1 < (g0_1.n : Int))) = false →
  K (VI (-1)) h_2)
theorem v105 (g0_1 : Sl) (sink1_1 : Int) (rotors2_1 : Sl) (p3_1 : Int) (h : Heap) (K : Value → Heap → Prop) (H : u105 Try.prog g0_1 sink1_1 rotors2_1 p3_1 h K) : callM Try.prog 105 #[(Value.agg #[(Sl.v g0_1)]), (VI sink1_1), (Sl.v rotors2_1), (VI p3_1)] h K := by
  refine c105 (Value.agg #[(Sl.v g0_1)]) (VI sink1_1) (Sl.v rotors2_1) (VI p3_1) h K ?_
  unfold u105 at H
  unfold t105
  have hL : Vars h [] := .nil
  refine eop_box 26 (Value.agg #[(Sl.v g0_1)]) rfl hL (fun b_1 h_1 hb_1 hf_1 hL_1 => ?_)
  have H := H b_1 h_1 (Nat.le_trans (Fr.size (Fr.r (In []) _)) hb_1) (Fr.no' (Fr.r (In []) _) hf_1) hL_1
  obtain ⟨J_1, ⟨n_2, h0_1⟩, HB_1⟩ := H
  refine loop_intro (J := fun (n : Nat) (vs : List Value) (h' : Heap) => ∃ p3_2 : Int, ∃ n9_1 : Int, vs = [(VI p3_2), (VI n9_1)] ∧ J_1 n p3_2 n9_1 h' ∧ Vars h' [(b_1, [(Sl.v g0_1)])]) n_2 ⟨p3_1, 0, rfl, h0_1, hL_1⟩ ?_
  intro I_1 mu_1 hI_1 junk_1 tv_1 tv_2 h_2 hi_1
  obtain ⟨n_1, ⟨p3_2, n9_1, hv, hJ_1, hL_2⟩, hn_1⟩ := hI_1 _ _ hi_1
  cases hv
  have H := HB_1 n_1 p3_2 n9_1 h_2 hJ_1 hL_2
  refine pop_field 0 fld26_0 b_1 0 ?_
  refine rop_loc one24 hL_2 0 rfl 0 (v := (Sl.v g0_1)) rfl ?_
  refine pop_len g0_1 _ _ sli24 ?_
  refine pop_lss .i64 n9_1 (g0_1.n : Int) ?_
  refine condM_b (fun hb_2 => ?_) (fun hb_2 => ?_)
  rotate_left
  ·have H := H.2 hb_2
   exact H
  have H := H.1 hb_2
  refine pop_ieq .i64 _ _ p3_2 sink1_1 ?_
  refine condM_b (fun hb_3 => ?_) (fun hb_3 => ?_)
  ·have H := H.1 hb_3
   exact H
  have H := H.2 hb_3
  refine rop_locA agg26 hL_2 0 rfl 0 (vs := [(Sl.v g0_1)]) rfl rfl ?_
  refine H.mono fun rv_1 h_3 H => ?_
  obtain ⟨t24_1, rfl, hL_3, H⟩ := H
  refine pop_lss .i64 t24_1 0 ?_
  refine condM_b (fun hb_4 => ?_) (fun hb_4 => ?_)
  ·have H := H.1 hb_4
   exact H
  have H := H.2 hb_4
  refine pop_add .i64 n9_1 1 ?_
  obtain ⟨m_1, hm_1, H⟩ := H
  exact hn_1 _ _ ⟨m_1, hm_1, t24_1, (w64 (n9_1 + 1)), rfl, H, hL_3⟩

/-! (*spec.l1Cur).one -/
def u106 (P : Program) (b_1 : Nat) (c0_1 : Sl) (c0_2 : Int) (c0_3 : Int) (n1_1 : Int) (h : Heap) (K : Value → Heap → Prop) : Prop :=
  callM P 70 #[(VP b_1 0), (VI n1_1)] h fun rv_1 h_1 => ∃ x_1 : Sl, ∃ x_2 : Int, ∃ x_3 : Int, ∃ t7_1 : Int, rv_1 = (VI t7_1) ∧ Vars h_1 [(b_1, [(Sl.v x_1), (VI x_2), (Value.int .u64 x_3)])] ∧
  K (VB (decide (t7_1 = 0))) h_1
theorem v106 (b_1 : Nat) (c0_1 : Sl) (c0_2 : Int) (c0_3 : Int) (n1_1 : Int) (h : Heap) (K : Value → Heap → Prop) (hL : Vars h [(b_1, [(Sl.v c0_1), (VI c0_2), (Value.int .u64 c0_3)])]) (H : u106 Try.prog b_1 c0_1 c0_2 c0_3 n1_1 h K) : callM Try.prog 106 #[(VP b_1 0), (VI n1_1)] h K := by
  refine c106 (VP b_1 0) (VI n1_1) h K ?_
  unfold u106 at H
  unfold t106
  refine H.mono fun rv_1 h_1 H => ?_
  obtain ⟨x_1, x_2, x_3, t7_1, rfl, hL_1, H⟩ := H
  refine pop_ieq .i64 _ _ t7_1 0 ?_
  exact H

/-! (*spec.l1Cur).among -/
def u107 (P : Program) (b_1 : Nat) (c0_1 : Sl) (c0_2 : Int) (c0_3 : Int) (list1_1 : Sl) (h : Heap) (K : Value → Heap → Prop) : Prop :=
  callM P 70 #[(VP b_1 0), (VI (list1_1.n : Int))] h fun rv_1 h_1 => ∃ x_1 : Sl, ∃ x_2 : Int, ∃ x_3 : Int, ∃ t9_1 : Int, rv_1 = (VI t9_1) ∧ Vars h_1 [(b_1, [(Sl.v x_1), (VI x_2), (Value.int .u64 x_3)])] ∧
  InB list1_1 t9_1 ∧
  ∃ t11_1 : Int, hcell h_1 (Sl.at list1_1 t9_1 1) = some (VI t11_1) ∧
  K (VI t11_1) h_1
theorem v107 (b_1 : Nat) (c0_1 : Sl) (c0_2 : Int) (c0_3 : Int) (list1_1 : Sl) (h : Heap) (K : Value → Heap → Prop) (hL : Vars h [(b_1, [(Sl.v c0_1), (VI c0_2), (Value.int .u64 c0_3)])]) (H : u107 Try.prog b_1 c0_1 c0_2 c0_3 list1_1 h K) : callM Try.prog 107 #[(VP b_1 0), (Sl.v list1_1)] h K := by
  refine c107 (VP b_1 0) (Sl.v list1_1) h K ?_
  unfold u107 at H
  unfold t107
  refine pop_len list1_1 _ _ sli37 ?_
  refine H.mono fun rv_1 h_1 H => ?_
  obtain ⟨x_1, x_2, x_3, t9_1, rfl, hL_1, H⟩ := H
  obtain ⟨hi_1, H⟩ := H
  refine pop_index sli37 siz3 .i64 list1_1 t9_1 hi_1 ?_
  obtain ⟨t11_1, hc_1, H⟩ := H
  refine rop_one one3 (VI t11_1) hc_1 ?_
  exact H

/-! spec.l1All -/
def u108 (P : Program) (l0_1 : Sl) (lo1_1 : Int) (hi2_1 : Int) (h : Heap) (K : Value → Heap → Prop) : Prop :=
  ∃ J_1 : Nat → Int → Heap → Prop, (∃ n0 : Nat, J_1 n0 0 h) ∧
  ∀ (n_1 : Nat) (t11_1 : Int) (h_1 : Heap), J_1 n_1 t11_1 h_1 → Vars h_1 [] →
  ((decide (t11_1 < (l0_1.n : Int))) = true →
  InB l0_1 t11_1 ∧
  ∃ t14_1 : Int, hcell h_1 (Sl.at l0_1 t11_1 1) = some (VI t14_1) ∧
  callM P 73 #[(VI t14_1), (VI lo1_1), (VI hi2_1)] h_1 fun rv_1 h_2 => ∃ t18_1 : Bool, rv_1 = (VB t18_1) ∧ Vars h_2 [] ∧
  ((!t18_1) = true →
  K (VB false) h_2) ∧
  ((!t18_1) = false →
  ∃ m : Nat, m < n_1 ∧ J_1 m (w64 (t11_1 + 1)) h_2)) ∧
  ((decide (t11_1 < (l0_1.n : Int))) = false →
  K (VB true) h_1)
theorem v108 (l0_1 : Sl) (lo1_1 : Int) (hi2_1 : Int) (h : Heap) (K : Value → Heap → Prop) (H : u108 Try.prog l0_1 lo1_1 hi2_1 h K) : callM Try.prog 108 #[(Sl.v l0_1), (VI lo1_1), (VI hi2_1)] h K := by
  refine c108 (Sl.v l0_1) (VI lo1_1) (VI hi2_1) h K ?_
  unfold u108 at H
  unfold t108
  have hL : Vars h [] := .nil
  refine pop_len l0_1 _ _ sli37 ?_
  obtain ⟨J_1, ⟨n_2, h0_1⟩, HB_1⟩ := H
  refine loop_intro (J := fun (n : Nat) (vs : List Value) (h' : Heap) => ∃ t11_1 : Int, vs = [(VI t11_1)] ∧ J_1 n t11_1 h' ∧ Vars h' []) n_2 ⟨0, rfl, h0_1, hL⟩ ?_
  intro I_1 mu_1 hI_1 junk_1 tv_1 h_1 hi_1
  obtain ⟨n_1, ⟨t11_1, hv, hJ_1, hL_1⟩, hn_1⟩ := hI_1 _ _ hi_1
  cases hv
  have H := HB_1 n_1 t11_1 h_1 hJ_1 hL_1
  refine pop_lss .i64 t11_1 (l0_1.n : Int) ?_
  refine condM_b (fun hb_1 => ?_) (fun hb_1 => ?_)
  rotate_left
  ·have H := H.2 hb_1
   exact H
  have H := H.1 hb_1
  obtain ⟨hi_2, H⟩ := H
  refine pop_index sli37 siz3 .i64 l0_1 t11_1 hi_2 ?_
  obtain ⟨t14_1, hc_1, H⟩ := H
  refine rop_one one3 (VI t14_1) hc_1 ?_
  refine H.mono fun rv_1 h_2 H => ?_
  obtain ⟨t18_1, rfl, hL_2, H⟩ := H
  refine pop_not t18_1 ?_
  refine condM_b (fun hb_2 => ?_) (fun hb_2 => ?_)
  ·have H := H.1 hb_2
   exact H
  have H := H.2 hb_2
  refine pop_add .i64 t11_1 1 ?_
  obtain ⟨m_1, hm_1, H⟩ := H
  exact hn_1 _ _ ⟨m_1, hm_1, (w64 (t11_1 + 1)), rfl, H, hL_2⟩

/-! (*spec.l1Cur).balanced -/
def u109 (P : Program) (b_1 : Nat) (c0_1 : Sl) (c0_2 : Int) (c0_3 : Int) (h : Heap) (K : Value → Heap → Prop) : Prop :=
  ∀ (b_2 : Nat) (h_1 : Heap), h.size ≤ b_2 → Fr (In []) h h_1 → Vars h_1 [(b_2, [(Sl.v nilSl)]), (b_1, [(Sl.v c0_1), (VI c0_2), (Value.int .u64 c0_3)])] →
  callM P 106 #[(VP b_1 0), (VI 6)] h_1 fun rv_1 h_2 => ∃ x_1 : Sl, ∃ x_2 : Int, ∃ x_3 : Int, ∃ t10_1 : Bool, rv_1 = (VB t10_1) ∧ Vars h_2 [(b_2, [(Sl.v nilSl)]), (b_1, [(Sl.v x_1), (VI x_2), (Value.int .u64 x_3)])] ∧
  (t10_1 = true →
  callM P 68 #[(VP b_1 0)] h_2 fun rv_2 h_3 => ∃ x_4 : Sl, ∃ x_5 : Int, ∃ x_6 : Int, ∃ t12_1 : Sl, rv_2 = (Value.agg #[(Sl.v t12_1)]) ∧ Vars h_3 [(b_2, [(Sl.v nilSl)]), (b_1, [(Sl.v x_4), (VI x_5), (Value.int .u64 x_6)])] ∧
  ∀ (h_4 : Heap), Fr (In [b_2]) h_3 h_4 → Vars h_4 [(b_2, [(Sl.v t12_1)]), (b_1, [(Sl.v x_4), (VI x_5), (Value.int .u64 x_6)])] →
  K (Value.agg #[(Sl.v t12_1)]) h_4) ∧
  (t10_1 = false →
  callM P 70 #[(VP b_1 0), (VI 5)] h_2 fun rv_3 h_5 => ∃ x_7 : Sl, ∃ x_8 : Int, ∃ x_9 : Int, ∃ t14_1 : Int, rv_3 = (VI t14_1) ∧ Vars h_5 [(b_2, [(Sl.v nilSl)]), (b_1, [(Sl.v x_7), (VI x_8), (Value.int .u64 x_9)])] ∧
  callM P 106 #[(VP b_1 0), (VI 2)] h_5 fun rv_4 h_6 => ∃ x_10 : Sl, ∃ x_11 : Int, ∃ x_12 : Int, ∃ t18_1 : Bool, rv_4 = (VB t18_1) ∧ Vars h_6 [(b_2, [(Sl.v nilSl)]), (b_1, [(Sl.v x_10), (VI x_11), (Value.int .u64 x_12)])] ∧
  callM P 135 #[(VI (w64 (1 + t14_1))), (VB t18_1)] h_6 fun rv_5 h_7 => ∃ t19_1 : Sl, rv_5 = (Value.agg #[(Sl.v t19_1)]) ∧ Vars h_7 [(b_2, [(Sl.v nilSl)]), (b_1, [(Sl.v x_10), (VI x_11), (Value.int .u64 x_12)])] ∧
  ∀ (b_3 : Nat) (h_9 : Heap), h_7.size ≤ b_3 → Fr (In []) h_7 h_9 → Vars h_9 [(b_3, [(Sl.v t19_1)]), (b_2, [(Sl.v nilSl)]), (b_1, [(Sl.v x_10), (VI x_11), (Value.int .u64 x_12)])] →
  callM P 70 #[(VP b_1 0), (VI 3)] h_9 fun rv_6 h_10 => ∃ x_13 : Sl, ∃ x_14 : Int, ∃ x_15 : Int, ∃ t21_1 : Int, rv_6 = (VI t21_1) ∧ Vars h_10 [(b_3, [(Sl.v t19_1)]), (b_2, [(Sl.v nilSl)]), (b_1, [(Sl.v x_13), (VI x_14), (Value.int .u64 x_15)])] ∧
  ∃ J_1 : Nat → Int → Sl → Int → Int → Heap → Prop, (∃ n0 : Nat, J_1 n0 t21_1 x_13 x_14 x_15 h_10) ∧
  ∀ (n_1 : Nat) (k5_1 : Int) (x_16 : Sl) (x_17 : Int) (x_18 : Int) (h_11 : Heap), J_1 n_1 k5_1 x_16 x_17 x_18 h_11 → Vars h_11 [(b_3, [(Sl.v t19_1)]), (b_2, [(Sl.v nilSl)]), (b_1, [(Sl.v x_16), (VI x_17), (Value.int .u64 x_18)])] →
  ((decide (0 < k5_1)) = true →
  callM P 136 #[(VP b_1 0), (VI (w64 (1 + t14_1)))] h_11 fun rv_7 h_12 => ∃ x_19 : Sl, ∃ x_20 : Int, ∃ x_21 : Int, ∃ t28_1 : Sl, rv_7 = (Sl.v t28_1) ∧ Vars h_12 [(b_3, [(Sl.v t19_1)]), (b_2, [(Sl.v nilSl)]), (b_1, [(Sl.v x_19), (VI x_20), (Value.int .u64 x_21)])] ∧
  callM P 70 #[(VP b_1 0), (VI (w64 (1 + t14_1)))] h_12 fun rv_8 h_13 => ∃ x_22 : Sl, ∃ x_23 : Int, ∃ x_24 : Int, ∃ t31_1 : Int, rv_8 = (VI t31_1) ∧ Vars h_13 [(b_3, [(Sl.v t19_1)]), (b_2, [(Sl.v nilSl)]), (b_1, [(Sl.v x_22), (VI x_23), (Value.int .u64 x_24)])] ∧
  ∃ J_2 : Nat → Int → Heap → Prop, (∃ n0 : Nat, J_2 n0 0 h_13) ∧
  ∀ (n_2 : Nat) (i8_1 : Int) (h_14 : Heap), J_2 n_2 i8_1 h_14 → Vars h_14 [(b_3, [(Sl.v t19_1)]), (b_2, [(Sl.v nilSl)]), (b_1, [(Sl.v x_22), (VI x_23), (Value.int .u64 x_24)])] →
  ((decide (i8_1 < (w64 (1 + t31_1)))) = true →
  InB t28_1 i8_1 ∧
  ∃ t43_1 : Int, hcell h_14 (Sl.at t28_1 i8_1 1) = some (VI t43_1) ∧
  InB t28_1 i8_1 ∧
  ∃ t49_1 : Int, hcell h_14 (Sl.at t28_1 i8_1 1) = some (VI t49_1) ∧
  InB t19_1 t49_1 ∧
  ∃ t51_1 : Sl, hcell h_14 (Sl.at t19_1 t49_1 1) = some (Sl.v t51_1) ∧
  (w64 (1 + t31_1)) ≠ 0 ∧
  InB t28_1 (Int.tmod (w64 (i8_1 + 1)) (w64 (1 + t31_1))) ∧
  ∃ t58_1 : Int, hcell h_14 (Sl.at t28_1 (Int.tmod (w64 (i8_1 + 1)) (w64 (1 + t31_1))) 1) = some (VI t58_1) ∧
  eop P (Instr.buildSlice 37 1 #[(0, (VI t58_1))]) h_14 fun rv_9 h_15 => ∃ t59_1 : Sl, rv_9 = (Sl.v t59_1) ∧ Vars h_15 [(b_3, [(Sl.v t19_1)]), (b_2, [(Sl.v nilSl)]), (b_1, [(Sl.v x_22), (VI x_23), (Value.int .u64 x_24)])] ∧
  hcell h_15 (Sl.at t19_1 t49_1 1) = some (Sl.v t51_1) ∧
  hcell h_15 (Sl.at t28_1 i8_1 1) = some (VI t49_1) ∧
  hcell h_15 (Sl.at t28_1 i8_1 1) = some (VI t43_1) ∧
  eop P (appS 37 37 37 (Sl.v t51_1) (Sl.v t59_1)) h_15 fun rv_10 h_16 => ∃ t60_1 : Sl, rv_10 = (Sl.v t60_1) ∧ Vars h_16 [(b_3, [(Sl.v t19_1)]), (b_2, [(Sl.v nilSl)]), (b_1, [(Sl.v x_22), (VI x_23), (Value.int .u64 x_24)])] ∧
  hcell h_16 (Sl.at t28_1 i8_1 1) = some (VI t49_1) ∧
  hcell h_16 (Sl.at t28_1 i8_1 1) = some (VI t43_1) ∧
  InB t19_1 t43_1 ∧
  Writable h_16 (Sl.at t19_1 t43_1 1) ∧ Vars (hset h_16 (Sl.at t19_1 t43_1 1) (Sl.v t60_1)) [(b_3, [(Sl.v t19_1)]), (b_2, [(Sl.v nilSl)]), (b_1, [(Sl.v x_22), (VI x_23), (Value.int .u64 x_24)])] ∧
  ∀ h_17 : Heap, h_17 = hset h_16 (Sl.at t19_1 t43_1 1) (Sl.v t60_1) → Vars h_17 [(b_3, [(Sl.v t19_1)]), (b_2, [(Sl.v nilSl)]), (b_1, [(Sl.v x_22), (VI x_23), (Value.int .u64 x_24)])] →
  ∃ m : Nat, m < n_2 ∧ J_2 m (w64 (i8_1 + 1)) h_17) ∧
  ((decide (i8_1 < (w64 (1 + t31_1)))) = false →
  ∃ m : Nat, m < n_1 ∧ J_1 m (w64 (k5_1 - 1)) x_22 x_23 x_24 h_14)) ∧
  ((decide (0 < k5_1)) = false →
  ∀ (h_18 : Heap), Fr (In [b_2]) h_11 h_18 → Vars h_18 [(b_3, [(Sl.v t19_1)]), (b_2, [(Sl.v t19_1)]), (b_1, [(Sl.v x_16), (VI x_17), (Value.int .u64 x_18)])] →
  K (Value.agg #[(Sl.v t19_1)]) h_18))
theorem v109 (b_1 : Nat) (c0_1 : Sl) (c0_2 : Int) (c0_3 : Int) (h : Heap) (K : Value → Heap → Prop) (hL : Vars h [(b_1, [(Sl.v c0_1), (VI c0_2), (Value.int .u64 c0_3)])]) (H : u109 Try.prog b_1 c0_1 c0_2 c0_3 h K) : callM Try.prog 109 #[(VP b_1 0)] h K := by
  refine c109 (VP b_1 0) h K ?_
  unfold u109 at H
  unfold t109
  refine eop_alloc 26 zer26 rfl hL (fun b_2 h_1 hb_1 hf_1 hL_1 => ?_)
  have H := H b_2 h_1 (Nat.le_trans (Fr.size (Fr.r (In []) _)) hb_1) (Fr.no' (Fr.r (In []) _) hf_1) hL_1
  refine H.mono fun rv_1 h_2 H => ?_
  obtain ⟨x_1, x_2, x_3, t10_1, rfl, hL_2, H⟩ := H
  refine condM_b (fun hb_2 => ?_) (fun hb_2 => ?_)
  ·have H := H.1 hb_2
   refine H.mono fun rv_2 h_3 H => ?_
   obtain ⟨x_4, x_5, x_6, t12_1, rfl, hL_3, H⟩ := H
   refine uop_loc siz26 hL_3 0 rfl 0 [(Sl.v t12_1)] rfl rfl rfl (Nat.le_of_ble_eq_true rfl) (L' := [(b_2, [(Sl.v t12_1)]), (b_1, [(Sl.v x_4), (VI x_5), (Value.int .u64 x_6)])]) rfl (fun h_4 hf_2 hL_4 => ?_)
   refine rop_locA agg26 hL_4 0 rfl 0 (vs := [(Sl.v t12_1)]) rfl rfl ?_
   have H := H  h_4  (Fr.old (Fr.r (In []) _) hf_2) hL_4
   exact H
  have H := H.2 hb_2
  refine H.mono fun rv_3 h_5 H => ?_
  obtain ⟨x_7, x_8, x_9, t14_1, rfl, hL_5, H⟩ := H
  refine pop_add .i64 1 t14_1 ?_
  refine H.mono fun rv_4 h_6 H => ?_
  obtain ⟨x_10, x_11, x_12, t18_1, rfl, hL_6, H⟩ := H
  refine H.mono fun rv_5 h_7 H => ?_
  obtain ⟨t19_1, rfl, hL_7, H⟩ := H
  refine eop_alloc 26 zer26 rfl hL_7 (fun b_3 h_8 hb_3 hf_3 hL_8 => ?_)
  refine uop_loc siz26 hL_8 0 rfl 0 [(Sl.v t19_1)] rfl rfl rfl (Nat.le_of_ble_eq_true rfl) (L' := [(b_3, [(Sl.v t19_1)]), (b_2, [(Sl.v nilSl)]), (b_1, [(Sl.v x_10), (VI x_11), (Value.int .u64 x_12)])]) rfl (fun h_9 hf_4 hL_9 => ?_)
  have H := H b_3 h_9 (Nat.le_trans (Fr.size (Fr.r (In []) _)) hb_3) (Fr.new (Fr.no' (Fr.r (In []) _) hf_3) (Nat.le_trans (Fr.size (Fr.r (In []) _)) hb_3) hf_4) hL_9
  refine H.mono fun rv_6 h_10 H => ?_
  obtain ⟨x_13, x_14, x_15, t21_1, rfl, hL_10, H⟩ := H
  obtain ⟨J_1, ⟨n_4, h0_2⟩, HB_2⟩ := H
  refine loop_intro (J := fun (n : Nat) (vs : List Value) (h' : Heap) => ∃ k5_1 : Int, ∃ x_16 : Sl, ∃ x_17 : Int, ∃ x_18 : Int, vs = [(VI k5_1)] ∧ J_1 n k5_1 x_16 x_17 x_18 h' ∧ Vars h' [(b_3, [(Sl.v t19_1)]), (b_2, [(Sl.v nilSl)]), (b_1, [(Sl.v x_16), (VI x_17), (Value.int .u64 x_18)])]) n_4 ⟨t21_1, x_13, x_14, x_15, rfl, h0_2, hL_10⟩ ?_
  intro I_2 mu_2 hI_2 junk_1 tv_2 h_11 hi_1
  obtain ⟨n_1, ⟨k5_1, x_16, x_17, x_18, hv, hJ_1, hL_11⟩, hn_1⟩ := hI_2 _ _ hi_1
  cases hv
  have H := HB_2 n_1 k5_1 x_16 x_17 x_18 h_11 hJ_1 hL_11
  refine pop_gtr .i64 k5_1 0 ?_
  refine condM_b (fun hb_4 => ?_) (fun hb_4 => ?_)
  rotate_left
  ·have H := H.2 hb_4
   refine rop_locA agg26 hL_11 0 rfl 0 (vs := [(Sl.v t19_1)]) rfl rfl ?_
   refine uop_loc siz26 hL_11 1 rfl 0 [(Sl.v t19_1)] rfl rfl rfl (Nat.le_of_ble_eq_true rfl) (L' := [(b_3, [(Sl.v t19_1)]), (b_2, [(Sl.v t19_1)]), (b_1, [(Sl.v x_16), (VI x_17), (Value.int .u64 x_18)])]) rfl (fun h_18 hf_5 hL_18 => ?_)
   refine rop_locA agg26 hL_18 1 rfl 0 (vs := [(Sl.v t19_1)]) rfl rfl ?_
   have H := H  h_18  (Fr.old (Fr.r (In []) _) hf_5) hL_18
   exact H
  have H := H.1 hb_4
  refine H.mono fun rv_7 h_12 H => ?_
  obtain ⟨x_19, x_20, x_21, t28_1, rfl, hL_12, H⟩ := H
  refine H.mono fun rv_8 h_13 H => ?_
  obtain ⟨x_22, x_23, x_24, t31_1, rfl, hL_13, H⟩ := H
  refine pop_add .i64 1 t31_1 ?_
  obtain ⟨J_2, ⟨n_3, h0_1⟩, HB_1⟩ := H
  refine loop_intro (J := fun (n : Nat) (vs : List Value) (h' : Heap) => ∃ i8_1 : Int, vs = [(VI i8_1)] ∧ J_2 n i8_1 h' ∧ Vars h' [(b_3, [(Sl.v t19_1)]), (b_2, [(Sl.v nilSl)]), (b_1, [(Sl.v x_22), (VI x_23), (Value.int .u64 x_24)])]) n_3 ⟨0, rfl, h0_1, hL_13⟩ ?_
  intro I_1 mu_1 hI_1 junk_2 tv_1 h_14 hi_2
  obtain ⟨n_2, ⟨i8_1, hv, hJ_2, hL_14⟩, hn_2⟩ := hI_1 _ _ hi_2
  cases hv
  have H := HB_1 n_2 i8_1 h_14 hJ_2 hL_14
  refine pop_lss .i64 i8_1 (w64 (1 + t31_1)) ?_
  refine condM_b (fun hb_5 => ?_) (fun hb_5 => ?_)
  rotate_left
  ·have H := H.2 hb_5
   refine pop_sub .i64 k5_1 1 ?_
   obtain ⟨m_2, hm_2, H⟩ := H
   exact hn_1 _ _ ⟨m_2, hm_2, (w64 (k5_1 - 1)), x_22, x_23, x_24, rfl, H, hL_14⟩
  have H := H.1 hb_5
  refine pop_field 0 fld26_0 b_3 0 ?_
  refine rop_loc one24 hL_14 0 rfl 0 (v := (Sl.v t19_1)) rfl ?_
  obtain ⟨hi_3, H⟩ := H
  refine pop_index sli37 siz3 .i64 t28_1 i8_1 hi_3 ?_
  obtain ⟨t43_1, hc_9, H⟩ := H
  refine rop_one one3 (VI t43_1) hc_9 ?_
  refine pop_field 0 fld26_0 b_3 0 ?_
  refine rop_loc one24 hL_14 0 rfl 0 (v := (Sl.v t19_1)) rfl ?_
  obtain ⟨hi_4, H⟩ := H
  refine pop_index sli37 siz3 .i64 t28_1 i8_1 hi_4 ?_
  obtain ⟨t49_1, hc_8, H⟩ := H
  refine rop_one one3 (VI t49_1) hc_8 ?_
  obtain ⟨hi_5, H⟩ := H
  refine pop_index sli24 siz37 .i64 t19_1 t49_1 hi_5 ?_
  obtain ⟨t51_1, hc_7, H⟩ := H
  refine rop_one one37 (Sl.v t51_1) hc_7 ?_
  refine pop_add .i64 i8_1 1 ?_
  obtain ⟨hz_1, H⟩ := H
  refine pop_rem .i64 (w64 (i8_1 + 1)) (w64 (1 + t31_1)) hz_1 ?_
  obtain ⟨hi_6, H⟩ := H
  refine pop_index sli37 siz3 .i64 t28_1 (Int.tmod (w64 (i8_1 + 1)) (w64 (1 + t31_1))) hi_6 ?_
  obtain ⟨t58_1, hc_6, H⟩ := H
  refine rop_one one3 (VI t58_1) hc_6 ?_
  refine H.mono fun rv_9 h_15 H => ?_
  obtain ⟨t59_1, rfl, hL_15, H⟩ := H
  refine ⟨?_, ?_⟩
  ·exact still_one one37 H.1
  obtain ⟨hc_1, H⟩ := H
  refine ⟨?_, ?_⟩
  ·exact still_one one3 H.1
  obtain ⟨hc_2, H⟩ := H
  refine ⟨?_, ?_⟩
  ·exact still_loc one24 hL_15 0 rfl 0 (v := (Sl.v t19_1)) rfl
  refine ⟨?_, ?_⟩
  ·exact still_one one3 H.1
  obtain ⟨hc_3, H⟩ := H
  refine ⟨?_, ?_⟩
  ·exact still_loc one24 hL_15 0 rfl 0 (v := (Sl.v t19_1)) rfl
  refine H.mono fun rv_10 h_16 H => ?_
  obtain ⟨t60_1, rfl, hL_16, H⟩ := H
  refine ⟨?_, ?_⟩
  ·exact still_one one3 H.1
  obtain ⟨hc_4, H⟩ := H
  refine ⟨?_, ?_⟩
  ·exact still_loc one24 hL_16 0 rfl 0 (v := (Sl.v t19_1)) rfl
  refine ⟨?_, ?_⟩
  ·exact still_one one3 H.1
  obtain ⟨hc_5, H⟩ := H
  refine ⟨?_, ?_⟩
  ·exact still_loc one24 hL_16 0 rfl 0 (v := (Sl.v t19_1)) rfl
  obtain ⟨hi_7, H⟩ := H
  refine pop_index sli24 siz37 .i64 t19_1 t43_1 hi_7 ?_
  obtain ⟨hw_1, hL_17, H⟩ := H
  refine uop_cell (v := (Sl.v t60_1)) siz37 hw_1 rfl (fun h_17 he_1 => ?_)
  rw [← he_1] at hL_17
  have H := H h_17 he_1 hL_17
  refine pop_add .i64 i8_1 1 ?_
  obtain ⟨m_1, hm_1, H⟩ := H
  exact hn_2 _ _ ⟨m_1, hm_1, (w64 (i8_1 + 1)), rfl, H, hL_17⟩

/-! (impl.Graph).lengths -/
def u110 (P : Program) (g0_1 : Sl) (p1_1 : Int) (h : Heap) (K : Value → Heap → Prop) : Prop :=
  ∀ (b_1 : Nat) (h_1 : Heap), h.size ≤ b_1 → Fr (In []) h h_1 → Vars h_1 [(b_1, [(Sl.v g0_1)])] →
  eop P (Instr.buildSlice 37 1 #[(0, (Value.int IntKind.i64 (-1)))]) h_1 fun rv_1 h_2 => ∃ t9_1 : Sl, rv_1 = (Sl.v t9_1) ∧ Vars h_2 [(b_1, [(Sl.v g0_1)])] ∧
  callM P 137 #[(Sl.v t9_1), (VI (g0_1.n : Int))] h_2 fun rv_2 h_3 => ∃ t13_1 : Sl, rv_2 = (Sl.v t13_1) ∧ Vars h_3 [(b_1, [(Sl.v g0_1)])] ∧
  InB t13_1 p1_1 ∧
  Writable h_3 (Sl.at t13_1 p1_1 1) ∧ Vars (hset h_3 (Sl.at t13_1 p1_1 1) (VI 0)) [(b_1, [(Sl.v g0_1)])] ∧
  ∀ h_4 : Heap, h_4 = hset h_3 (Sl.at t13_1 p1_1 1) (VI 0) → Vars h_4 [(b_1, [(Sl.v g0_1)])] →
  eop P (Instr.buildSlice 37 1 #[(0, (VI p1_1))]) h_4 fun rv_3 h_5 => ∃ t18_1 : Sl, rv_3 = (Sl.v t18_1) ∧ Vars h_5 [(b_1, [(Sl.v g0_1)])] ∧
  ∃ J_1 : Nat → Sl → Heap → Prop, (∃ n0 : Nat, J_1 n0 t18_1 h_5) ∧
  ∀ (n_1 : Nat) (list6_1 : Sl) (h_6 : Heap), J_1 n_1 list6_1 h_6 → Vars h_6 [(b_1, [(Sl.v g0_1)])] →
  ((decide (0 < (list6_1.n : Int))) = true →
  InB list6_1 0 ∧
  ∃ t28_1 : Int, hcell h_6 (Sl.at list6_1 0 1) = some (VI t28_1) ∧
  InB g0_1 t28_1 ∧
  ∃ t30_1 : Sl, hcell h_6 (Sl.at g0_1 t28_1 1) = some (Sl.v t30_1) ∧
  ∃ J_2 : Nat → Sl → Int → Heap → Prop, (∃ n0 : Nat, J_2 n0 list6_1 0 h_6) ∧
  ∀ (n_2 : Nat) (list6_2 : Sl) (t32_1 : Int) (h_7 : Heap), J_2 n_2 list6_2 t32_1 h_7 → Vars h_7 [(b_1, [(Sl.v g0_1)])] →
  ((decide (t32_1 < (t30_1.n : Int))) = true →
  InB t30_1 t32_1 ∧
  ∃ t35_1 : Int, hcell h_7 (Sl.at t30_1 t32_1 1) = some (VI t35_1) ∧
  InB t13_1 t35_1 ∧
  ∃ t39_1 : Int, hcell h_7 (Sl.at t13_1 t35_1 1) = some (VI t39_1) ∧
  ((decide (t39_1 < 0)) = true →
  InB list6_2 0 ∧
  ∃ t46_1 : Int, hcell h_7 (Sl.at list6_2 0 1) = some (VI t46_1) ∧
  InB t13_1 t46_1 ∧
  ∃ t48_1 : Int, hcell h_7 (Sl.at t13_1 t46_1 1) = some (VI t48_1) ∧
  InB t13_1 t35_1 ∧
  Writable h_7 (Sl.at t13_1 t35_1 1) ∧ Vars (hset h_7 (Sl.at t13_1 t35_1 1) (VI (w64 (t48_1 + 1)))) [(b_1, [(Sl.v g0_1)])] ∧
  ∀ h_8 : Heap, h_8 = hset h_7 (Sl.at t13_1 t35_1 1) (VI (w64 (t48_1 + 1))) → Vars h_8 [(b_1, [(Sl.v g0_1)])] →
  eop P (Instr.buildSlice 37 1 #[(0, (VI t35_1))]) h_8 fun rv_4 h_9 => ∃ t53_1 : Sl, rv_4 = (Sl.v t53_1) ∧ Vars h_9 [(b_1, [(Sl.v g0_1)])] ∧
  eop P (appS 37 37 37 (Sl.v list6_2) (Sl.v t53_1)) h_9 fun rv_5 h_10 => ∃ t54_1 : Sl, rv_5 = (Sl.v t54_1) ∧ Vars h_10 [(b_1, [(Sl.v g0_1)])] ∧
  ∃ m : Nat, m < n_2 ∧ J_2 m t54_1 (w64 (t32_1 + 1)) h_10) ∧
  ((decide (t39_1 < 0)) = false →
  ∃ m : Nat, m < n_2 ∧ J_2 m list6_2 (w64 (t32_1 + 1)) h_7)) ∧
  ((decide (t32_1 < (t30_1.n : Int))) = false →
  pop P (Instr.sliceAt 37 (Sl.v list6_2) (some (Value.int IntKind.i64 1)) none none) fun rv_6 => ∃ t23_1 : Sl, rv_6 = (Sl.v t23_1) ∧ 
  ∃ m : Nat, m < n_1 ∧ J_1 m t23_1 h_7)) ∧
  ((decide (0 < (list6_1.n : Int))) = false →
  K (Sl.v t13_1) h_6)
theorem v110 (g0_1 : Sl) (p1_1 : Int) (h : Heap) (K : Value → Heap → Prop) (H : u110 Try.prog g0_1 p1_1 h K) : callM Try.prog 110 #[(Value.agg #[(Sl.v g0_1)]), (VI p1_1)] h K := by
  refine c110 (Value.agg #[(Sl.v g0_1)]) (VI p1_1) h K ?_
  unfold u110 at H
  unfold t110
  have hL : Vars h [] := .nil
  refine eop_box 26 (Value.agg #[(Sl.v g0_1)]) rfl hL (fun b_1 h_1 hb_1 hf_1 hL_1 => ?_)
  have H := H b_1 h_1 (Nat.le_trans (Fr.size (Fr.r (In []) _)) hb_1) (Fr.no' (Fr.r (In []) _) hf_1) hL_1
  refine H.mono fun rv_1 h_2 H => ?_
  obtain ⟨t9_1, rfl, hL_2, H⟩ := H
  refine pop_field 0 fld26_0 b_1 0 ?_
  refine rop_loc one24 hL_2 0 rfl 0 (v := (Sl.v g0_1)) rfl ?_
  refine pop_len g0_1 _ _ sli24 ?_
  refine H.mono fun rv_2 h_3 H => ?_
  obtain ⟨t13_1, rfl, hL_3, H⟩ := H
  obtain ⟨hi_1, H⟩ := H
  refine pop_index sli37 siz3 .i64 t13_1 p1_1 hi_1 ?_
  obtain ⟨hw_1, hL_4, H⟩ := H
  refine uop_cell (v := (VI 0)) siz3 hw_1 rfl (fun h_4 he_1 => ?_)
  rw [← he_1] at hL_4
  have H := H h_4 he_1 hL_4
  refine H.mono fun rv_3 h_5 H => ?_
  obtain ⟨t18_1, rfl, hL_5, H⟩ := H
  obtain ⟨J_1, ⟨n_4, h0_2⟩, HB_2⟩ := H
  refine loop_intro (J := fun (n : Nat) (vs : List Value) (h' : Heap) => ∃ list6_1 : Sl, vs = [(Sl.v list6_1)] ∧ J_1 n list6_1 h' ∧ Vars h' [(b_1, [(Sl.v g0_1)])]) n_4 ⟨t18_1, rfl, h0_2, hL_5⟩ ?_
  intro I_2 mu_2 hI_2 junk_1 tv_3 h_6 hi_2
  obtain ⟨n_1, ⟨list6_1, hv, hJ_1, hL_6⟩, hn_1⟩ := hI_2 _ _ hi_2
  cases hv
  have H := HB_2 n_1 list6_1 h_6 hJ_1 hL_6
  refine pop_len list6_1 _ _ sli37 ?_
  refine pop_gtr .i64 (list6_1.n : Int) 0 ?_
  refine condM_b (fun hb_2 => ?_) (fun hb_2 => ?_)
  rotate_left
  ·have H := H.2 hb_2
   exact H
  have H := H.1 hb_2
  refine pop_field 0 fld26_0 b_1 0 ?_
  refine rop_loc one24 hL_6 0 rfl 0 (v := (Sl.v g0_1)) rfl ?_
  obtain ⟨hi_3, H⟩ := H
  refine pop_index sli37 siz3 .i64 list6_1 0 hi_3 ?_
  obtain ⟨t28_1, hc_6, H⟩ := H
  refine rop_one one3 (VI t28_1) hc_6 ?_
  obtain ⟨hi_4, H⟩ := H
  refine pop_index sli24 siz37 .i64 g0_1 t28_1 hi_4 ?_
  obtain ⟨t30_1, hc_5, H⟩ := H
  refine rop_one one37 (Sl.v t30_1) hc_5 ?_
  refine pop_len t30_1 _ _ sli37 ?_
  obtain ⟨J_2, ⟨n_3, h0_1⟩, HB_1⟩ := H
  refine loop_intro (J := fun (n : Nat) (vs : List Value) (h' : Heap) => ∃ list6_2 : Sl, ∃ t32_1 : Int, vs = [(Sl.v list6_2), (VI t32_1)] ∧ J_2 n list6_2 t32_1 h' ∧ Vars h' [(b_1, [(Sl.v g0_1)])]) n_3 ⟨list6_1, 0, rfl, h0_1, hL_6⟩ ?_
  intro I_1 mu_1 hI_1 junk_2 tv_1 tv_2 h_7 hi_5
  obtain ⟨n_2, ⟨list6_2, t32_1, hv, hJ_2, hL_7⟩, hn_2⟩ := hI_1 _ _ hi_5
  cases hv
  have H := HB_1 n_2 list6_2 t32_1 h_7 hJ_2 hL_7
  refine pop_lss .i64 t32_1 (t30_1.n : Int) ?_
  refine condM_b (fun hb_3 => ?_) (fun hb_3 => ?_)
  rotate_left
  ·have H := H.2 hb_3
   refine H.mono fun rv_6 H => ?_
   obtain ⟨t23_1, rfl, H⟩ := H
   obtain ⟨m_3, hm_3, H⟩ := H
   exact hn_1 _ _ ⟨m_3, hm_3, t23_1, rfl, H, hL_7⟩
  have H := H.1 hb_3
  obtain ⟨hi_6, H⟩ := H
  refine pop_index sli37 siz3 .i64 t30_1 t32_1 hi_6 ?_
  obtain ⟨t35_1, hc_4, H⟩ := H
  refine rop_one one3 (VI t35_1) hc_4 ?_
  obtain ⟨hi_7, H⟩ := H
  refine pop_index sli37 siz3 .i64 t13_1 t35_1 hi_7 ?_
  obtain ⟨t39_1, hc_3, H⟩ := H
  refine rop_one one3 (VI t39_1) hc_3 ?_
  refine pop_lss .i64 t39_1 0 ?_
  refine condM_b (fun hb_4 => ?_) (fun hb_4 => ?_)
  rotate_left
  ·have H := H.2 hb_4
   refine pop_add .i64 t32_1 1 ?_
   obtain ⟨m_2, hm_2, H⟩ := H
   exact hn_2 _ _ ⟨m_2, hm_2, list6_2, (w64 (t32_1 + 1)), rfl, H, hL_7⟩
  have H := H.1 hb_4
  obtain ⟨hi_8, H⟩ := H
  refine pop_index sli37 siz3 .i64 list6_2 0 hi_8 ?_
  obtain ⟨t46_1, hc_2, H⟩ := H
  refine rop_one one3 (VI t46_1) hc_2 ?_
  obtain ⟨hi_9, H⟩ := H
  refine pop_index sli37 siz3 .i64 t13_1 t46_1 hi_9 ?_
  obtain ⟨t48_1, hc_1, H⟩ := H
  refine rop_one one3 (VI t48_1) hc_1 ?_
  refine pop_add .i64 t48_1 1 ?_
  obtain ⟨hi_10, H⟩ := H
  refine pop_index sli37 siz3 .i64 t13_1 t35_1 hi_10 ?_
  obtain ⟨hw_2, hL_8, H⟩ := H
  refine uop_cell (v := (VI (w64 (t48_1 + 1)))) siz3 hw_2 rfl (fun h_8 he_2 => ?_)
  rw [← he_2] at hL_8
  have H := H h_8 he_2 hL_8
  refine H.mono fun rv_4 h_9 H => ?_
  obtain ⟨t53_1, rfl, hL_9, H⟩ := H
  refine H.mono fun rv_5 h_10 H => ?_
  obtain ⟨t54_1, rfl, hL_10, H⟩ := H
  refine pop_add .i64 t32_1 1 ?_
  obtain ⟨m_1, hm_1, H⟩ := H
  exact hn_2 _ _ ⟨m_1, hm_1, t54_1, (w64 (t32_1 + 1)), rfl, H, hL_10⟩

/-! impl.isGraph -/
def u113 (P : Program) (g0_1 : Sl) (h : Heap) (K : Value → Heap → Prop) : Prop :=
  ∀ (b_1 : Nat) (b_2 : Nat) (h_3 : Heap), h.size ≤ b_1 → h.size ≤ b_2 → Fr (In []) h h_3 → Vars h_3 [(b_2, [(VI (g0_1.n : Int))]), (b_1, [(Sl.v g0_1)])] →
  callM P 71 #[(VI (g0_1.n : Int)), (VI 1), (VI 8)] h_3 fun rv_1 h_4 => ∃ t10_1 : Bool, rv_1 = (VB t10_1) ∧ Vars h_4 [(b_2, [(VI (g0_1.n : Int))]), (b_1, [(Sl.v g0_1)])] ∧
  ((!t10_1) = true →
  K (VB false) h_4) ∧
  ((!t10_1) = false →
  ∃ J_1 : Nat → Int → Int → Heap → Prop, (∃ n0 : Nat, J_1 n0 0 (g0_1.n : Int) h_4) ∧
  ∀ (n_1 : Nat) (t15_1 : Int) (x_1 : Int) (h_5 : Heap), J_1 n_1 t15_1 x_1 h_5 → Vars h_5 [(b_2, [(VI x_1)]), (b_1, [(Sl.v g0_1)])] →
  ((decide (t15_1 < (g0_1.n : Int))) = true →
  InB g0_1 t15_1 ∧
  ∃ t18_1 : Sl, hcell h_5 (Sl.at g0_1 t15_1 1) = some (Sl.v t18_1) ∧
  ((decide (5 < (t18_1.n : Int))) = true →
  K (VB false) h_5) ∧
  ((decide (5 < (t18_1.n : Int))) = false →
  callM P 96 #[(Sl.v t18_1), (Value.func (Fn.func 138) #[] #[(VP b_2 0)])] h_5 fun rv_2 h_6 => ∃ x_2 : Int, ∃ t25_1 : Bool, rv_2 = (VB t25_1) ∧ Vars h_6 [(b_2, [(VI x_2)]), (b_1, [(Sl.v g0_1)])] ∧
  (t25_1 = true →
  K (VB false) h_6) ∧
  (t25_1 = false →
  ∃ m : Nat, m < n_1 ∧ J_1 m (w64 (t15_1 + 1)) x_2 h_6))) ∧
  ((decide (t15_1 < (g0_1.n : Int))) = false →
  K (VB true) h_5))
theorem v113 (g0_1 : Sl) (h : Heap) (K : Value → Heap → Prop) (H : u113 Try.prog g0_1 h K) : callM Try.prog 113 #[(Value.agg #[(Sl.v g0_1)])] h K := by
  refine c113 (Value.agg #[(Sl.v g0_1)]) h K ?_
  unfold u113 at H
  unfold t113
  have hL : Vars h [] := .nil
  refine eop_box 26 (Value.agg #[(Sl.v g0_1)]) rfl hL (fun b_1 h_1 hb_1 hf_1 hL_1 => ?_)
  refine pop_field 0 fld26_0 b_1 0 ?_
  refine rop_loc one24 hL_1 0 rfl 0 (v := (Sl.v g0_1)) rfl ?_
  refine pop_len g0_1 _ _ sli24 ?_
  refine eop_alloc 3 zer3 rfl hL_1 (fun b_2 h_2 hb_2 hf_2 hL_2 => ?_)
  refine uop_loc siz3 hL_2 0 rfl 0 [(VI (g0_1.n : Int))] rfl rfl rfl (Nat.le_of_ble_eq_true rfl) (L' := [(b_2, [(VI (g0_1.n : Int))]), (b_1, [(Sl.v g0_1)])]) rfl (fun h_3 hf_3 hL_3 => ?_)
  refine rop_loc one3 hL_3 0 rfl 0 (v := (VI (g0_1.n : Int))) rfl ?_
  have H := H b_1 b_2 h_3 (Nat.le_trans (Fr.size (Fr.r (In []) _)) hb_1) (Nat.le_trans (Fr.size (Fr.no' (Fr.r (In []) _) hf_1)) hb_2) (Fr.new (Fr.no' (Fr.no' (Fr.r (In []) _) hf_1) hf_2) (Nat.le_trans (Fr.size (Fr.no' (Fr.r (In []) _) hf_1)) hb_2) hf_3) hL_3
  refine H.mono fun rv_1 h_4 H => ?_
  obtain ⟨t10_1, rfl, hL_4, H⟩ := H
  refine pop_not t10_1 ?_
  refine condM_b (fun hb_3 => ?_) (fun hb_3 => ?_)
  ·have H := H.1 hb_3
   exact H
  have H := H.2 hb_3
  refine pop_field 0 fld26_0 b_1 0 ?_
  refine rop_loc one24 hL_4 1 rfl 0 (v := (Sl.v g0_1)) rfl ?_
  refine pop_len g0_1 _ _ sli24 ?_
  obtain ⟨J_1, ⟨n_2, h0_1⟩, HB_1⟩ := H
  refine loop_intro (J := fun (n : Nat) (vs : List Value) (h' : Heap) => ∃ t15_1 : Int, ∃ x_1 : Int, vs = [(VI t15_1)] ∧ J_1 n t15_1 x_1 h' ∧ Vars h' [(b_2, [(VI x_1)]), (b_1, [(Sl.v g0_1)])]) n_2 ⟨0, (g0_1.n : Int), rfl, h0_1, hL_4⟩ ?_
  intro I_1 mu_1 hI_1 junk_1 tv_1 h_5 hi_1
  obtain ⟨n_1, ⟨t15_1, x_1, hv, hJ_1, hL_5⟩, hn_1⟩ := hI_1 _ _ hi_1
  cases hv
  have H := HB_1 n_1 t15_1 x_1 h_5 hJ_1 hL_5
  refine pop_lss .i64 t15_1 (g0_1.n : Int) ?_
  refine condM_b (fun hb_4 => ?_) (fun hb_4 => ?_)
  rotate_left
  ·have H := H.2 hb_4
   exact H
  have H := H.1 hb_4
  obtain ⟨hi_2, H⟩ := H
  refine pop_index sli24 siz37 .i64 g0_1 t15_1 hi_2 ?_
  obtain ⟨t18_1, hc_1, H⟩ := H
  refine rop_one one37 (Sl.v t18_1) hc_1 ?_
  refine pop_len t18_1 _ _ sli37 ?_
  refine pop_gtr .i64 (t18_1.n : Int) 5 ?_
  refine guardM_sf (fun hb_5 => ?_) (fun hb_5 => ?_)
  rotate_left
  ·have H := H.1 hb_5
   refine guardM_n' hb_5 (by decide) ?_
   refine guardM_n' hb_5 (by decide) ?_
   refine pop_pickt' hb_5 ?_
   refine condM_t ?_
   exact H
  have H := H.2 hb_5
  refine guardM_y' hb_5 ?_
  refine pop_func _ _ _ ?_
  refine guardM_y' hb_5 ?_
  refine H.mono fun rv_2 h_6 H => ?_
  obtain ⟨x_2, t25_1, rfl, hL_6, H⟩ := H
  refine pop_pickf' hb_5 ?_
  refine condM_b (fun hb_6 => ?_) (fun hb_6 => ?_)
  ·have H := H.1 hb_6
   exact H
  have H := H.2 hb_6
  refine pop_add .i64 t15_1 1 ?_
  obtain ⟨m_1, hm_1, H⟩ := H
  exact hn_1 _ _ ⟨m_1, hm_1, (w64 (t15_1 + 1)), x_2, rfl, H, hL_6⟩

/-! impl.has$1 -/
def u114 (P : Program) (p0_1 : Int) (b_1 : Nat) (t1_1 : Sl) (h : Heap) (K : Value → Heap → Prop) : Prop :=
  callM P 71 #[(VI p0_1), (VI 0), (VI (w64 ((t1_1.n : Int) - 1)))] h fun rv_1 h_1 => ∃ t9_1 : Bool, rv_1 = (VB t9_1) ∧ Vars h_1 [(b_1, [(Sl.v t1_1)])] ∧
  K (VB (!t9_1)) h_1
theorem v114 (p0_1 : Int) (b_1 : Nat) (t1_1 : Sl) (h : Heap) (K : Value → Heap → Prop) (hL : Vars h [(b_1, [(Sl.v t1_1)])]) (H : u114 Try.prog p0_1 b_1 t1_1 h K) : callM Try.prog 114 #[(VI p0_1), (VP b_1 0)] h K := by
  refine c114 (VI p0_1) (VP b_1 0) h K ?_
  unfold u114 at H
  unfold t114
  refine pop_field 0 fld26_0 b_1 0 ?_
  refine rop_loc one24 hL 0 rfl 0 (v := (Sl.v t1_1)) rfl ?_
  refine pop_len t1_1 _ _ sli24 ?_
  refine pop_sub .i64 (t1_1.n : Int) 1 ?_
  refine H.mono fun rv_1 h_1 H => ?_
  obtain ⟨t9_1, rfl, hL_1, H⟩ := H
  refine pop_not t9_1 ?_
  exact H

/-! spec.grFar -/
def u115 (P : Program) (g0_1 : Sl) (p1_1 : Int) (h : Heap) (K : Value → Heap → Prop) : Prop :=
  ∀ (b_1 : Nat) (h_1 : Heap), h.size ≤ b_1 → Fr (In []) h h_1 → Vars h_1 [(b_1, [(Sl.v g0_1)])] →
  eop P (Instr.makeSlice 37 (VI (g0_1.n : Int)) (VI (g0_1.n : Int))) h_1 fun rv_1 h_2 => ∃ t14_1 : Sl, rv_1 = (Sl.v t14_1) ∧ Vars h_2 [(b_1, [(Sl.v g0_1)])] ∧
  ∃ J_1 : Nat → Int → Heap → Prop, (∃ n0 : Nat, J_1 n0 0 h_2) ∧
  ∀ (n_1 : Nat) (t17_1 : Int) (h_3 : Heap), J_1 n_1 t17_1 h_3 → Vars h_3 [(b_1, [(Sl.v g0_1)])] →
  ((decide (t17_1 < (t14_1.n : Int))) = true →
  InB t14_1 t17_1 ∧
  Writable h_3 (Sl.at t14_1 t17_1 1) ∧ Vars (hset h_3 (Sl.at t14_1 t17_1 1) (VI (-1))) [(b_1, [(Sl.v g0_1)])] ∧
  ∀ h_4 : Heap, h_4 = hset h_3 (Sl.at t14_1 t17_1 1) (VI (-1)) → Vars h_4 [(b_1, [(Sl.v g0_1)])] →
  ∃ m : Nat, m < n_1 ∧ J_1 m (w64 (t17_1 + 1)) h_4) ∧
  ((decide (t17_1 < (t14_1.n : Int))) = false →
  InB t14_1 p1_1 ∧
  Writable h_3 (Sl.at t14_1 p1_1 1) ∧ Vars (hset h_3 (Sl.at t14_1 p1_1 1) (VI 0)) [(b_1, [(Sl.v g0_1)])] ∧
  ∀ h_5 : Heap, h_5 = hset h_3 (Sl.at t14_1 p1_1 1) (VI 0) → Vars h_5 [(b_1, [(Sl.v g0_1)])] →
  eop P (Instr.buildSlice 37 1 #[(0, (VI p1_1))]) h_5 fun rv_2 h_6 => ∃ t28_1 : Sl, rv_2 = (Sl.v t28_1) ∧ Vars h_6 [(b_1, [(Sl.v g0_1)])] ∧
  ∃ J_2 : Nat → Sl → Int → Heap → Prop, (∃ n0 : Nat, J_2 n0 t28_1 0 h_6) ∧
  ∀ (n_2 : Nat) (queue7_1 : Sl) (k8_1 : Int) (h_7 : Heap), J_2 n_2 queue7_1 k8_1 h_7 → Vars h_7 [(b_1, [(Sl.v g0_1)])] →
  ((decide (k8_1 < (queue7_1.n : Int))) = true →
  InB queue7_1 k8_1 ∧
  ∃ t40_1 : Int, hcell h_7 (Sl.at queue7_1 k8_1 1) = some (VI t40_1) ∧
  InB g0_1 t40_1 ∧
  ∃ t42_1 : Sl, hcell h_7 (Sl.at g0_1 t40_1 1) = some (Sl.v t42_1) ∧
  ∃ J_3 : Nat → Sl → Int → Heap → Prop, (∃ n0 : Nat, J_3 n0 queue7_1 0 h_7) ∧
  ∀ (n_3 : Nat) (queue7_2 : Sl) (t44_1 : Int) (h_8 : Heap), J_3 n_3 queue7_2 t44_1 h_8 → Vars h_8 [(b_1, [(Sl.v g0_1)])] →
  ((decide (t44_1 < (t42_1.n : Int))) = true →
  InB t42_1 t44_1 ∧
  ∃ t47_1 : Int, hcell h_8 (Sl.at t42_1 t44_1 1) = some (VI t47_1) ∧
  InB t14_1 t47_1 ∧
  ∃ t51_1 : Int, hcell h_8 (Sl.at t14_1 t47_1 1) = some (VI t51_1) ∧
  ((decide (t51_1 < 0)) = true →
  InB queue7_2 k8_1 ∧
  ∃ t59_1 : Int, hcell h_8 (Sl.at queue7_2 k8_1 1) = some (VI t59_1) ∧
  InB t14_1 t59_1 ∧
  ∃ t61_1 : Int, hcell h_8 (Sl.at t14_1 t59_1 1) = some (VI t61_1) ∧
  InB t14_1 t47_1 ∧
  Writable h_8 (Sl.at t14_1 t47_1 1) ∧ Vars (hset h_8 (Sl.at t14_1 t47_1 1) (VI (w64 (t61_1 + 1)))) [(b_1, [(Sl.v g0_1)])] ∧
  ∀ h_9 : Heap, h_9 = hset h_8 (Sl.at t14_1 t47_1 1) (VI (w64 (t61_1 + 1))) → Vars h_9 [(b_1, [(Sl.v g0_1)])] →
  eop P (Instr.buildSlice 37 1 #[(0, (VI t47_1))]) h_9 fun rv_3 h_10 => ∃ t66_1 : Sl, rv_3 = (Sl.v t66_1) ∧ Vars h_10 [(b_1, [(Sl.v g0_1)])] ∧
  eop P (appS 37 37 37 (Sl.v queue7_2) (Sl.v t66_1)) h_10 fun rv_4 h_11 => ∃ t67_1 : Sl, rv_4 = (Sl.v t67_1) ∧ Vars h_11 [(b_1, [(Sl.v g0_1)])] ∧
  ∃ m : Nat, m < n_3 ∧ J_3 m t67_1 (w64 (t44_1 + 1)) h_11) ∧
  ((decide (t51_1 < 0)) = false →
  ∃ m : Nat, m < n_3 ∧ J_3 m queue7_2 (w64 (t44_1 + 1)) h_8)) ∧
  ((decide (t44_1 < (t42_1.n : Int))) = false →
  ∃ m : Nat, m < n_2 ∧ J_2 m queue7_2 (w64 (k8_1 + 1)) h_8)) ∧
  ((decide (k8_1 < (queue7_1.n : Int))) = false →
  K (Sl.v t14_1) h_7))
theorem v115 (g0_1 : Sl) (p1_1 : Int) (h : Heap) (K : Value → Heap → Prop) (H : u115 Try.prog g0_1 p1_1 h K) : callM Try.prog 115 #[(Value.agg #[(Sl.v g0_1)]), (VI p1_1)] h K := by
  refine c115 (Value.agg #[(Sl.v g0_1)]) (VI p1_1) h K ?_
  unfold u115 at H
  unfold t115
  have hL : Vars h [] := .nil
  refine eop_box 26 (Value.agg #[(Sl.v g0_1)]) rfl hL (fun b_1 h_1 hb_1 hf_1 hL_1 => ?_)
  refine pop_field 0 fld26_0 b_1 0 ?_
  refine rop_loc one24 hL_1 0 rfl 0 (v := (Sl.v g0_1)) rfl ?_
  refine pop_len g0_1 _ _ sli24 ?_
  have H := H b_1 h_1 (Nat.le_trans (Fr.size (Fr.r (In []) _)) hb_1) (Fr.no' (Fr.r (In []) _) hf_1) hL_1
  refine H.mono fun rv_1 h_2 H => ?_
  obtain ⟨t14_1, rfl, hL_2, H⟩ := H
  refine pop_len t14_1 _ _ sli37 ?_
  obtain ⟨J_1, ⟨n_6, h0_3⟩, HB_3⟩ := H
  refine loop_intro (J := fun (n : Nat) (vs : List Value) (h' : Heap) => ∃ t17_1 : Int, vs = [(VI t17_1)] ∧ J_1 n t17_1 h' ∧ Vars h' [(b_1, [(Sl.v g0_1)])]) n_6 ⟨0, rfl, h0_3, hL_2⟩ ?_
  intro I_3 mu_3 hI_3 junk_1 tv_5 h_3 hi_1
  obtain ⟨n_1, ⟨t17_1, hv, hJ_1, hL_3⟩, hn_1⟩ := hI_3 _ _ hi_1
  cases hv
  have H := HB_3 n_1 t17_1 h_3 hJ_1 hL_3
  refine pop_lss .i64 t17_1 (t14_1.n : Int) ?_
  refine condM_b (fun hb_2 => ?_) (fun hb_2 => ?_)
  ·have H := H.1 hb_2
   obtain ⟨hi_2, H⟩ := H
   refine pop_index sli37 siz3 .i64 t14_1 t17_1 hi_2 ?_
   obtain ⟨hw_1, hL_4, H⟩ := H
   refine uop_cell (v := (VI (-1))) siz3 hw_1 rfl (fun h_4 he_1 => ?_)
   rw [← he_1] at hL_4
   have H := H h_4 he_1 hL_4
   refine pop_add .i64 t17_1 1 ?_
   obtain ⟨m_1, hm_1, H⟩ := H
   exact hn_1 _ _ ⟨m_1, hm_1, (w64 (t17_1 + 1)), rfl, H, hL_4⟩
  have H := H.2 hb_2
  obtain ⟨hi_3, H⟩ := H
  refine pop_index sli37 siz3 .i64 t14_1 p1_1 hi_3 ?_
  obtain ⟨hw_2, hL_5, H⟩ := H
  refine uop_cell (v := (VI 0)) siz3 hw_2 rfl (fun h_5 he_2 => ?_)
  rw [← he_2] at hL_5
  have H := H h_5 he_2 hL_5
  refine H.mono fun rv_2 h_6 H => ?_
  obtain ⟨t28_1, rfl, hL_6, H⟩ := H
  obtain ⟨J_2, ⟨n_5, h0_2⟩, HB_2⟩ := H
  refine loop_intro (J := fun (n : Nat) (vs : List Value) (h' : Heap) => ∃ queue7_1 : Sl, ∃ k8_1 : Int, vs = [(Sl.v queue7_1), (VI k8_1)] ∧ J_2 n queue7_1 k8_1 h' ∧ Vars h' [(b_1, [(Sl.v g0_1)])]) n_5 ⟨t28_1, 0, rfl, h0_2, hL_6⟩ ?_
  intro I_2 mu_2 hI_2 junk_2 tv_3 tv_4 h_7 hi_4
  obtain ⟨n_2, ⟨queue7_1, k8_1, hv, hJ_2, hL_7⟩, hn_2⟩ := hI_2 _ _ hi_4
  cases hv
  have H := HB_2 n_2 queue7_1 k8_1 h_7 hJ_2 hL_7
  refine pop_len queue7_1 _ _ sli37 ?_
  refine pop_lss .i64 k8_1 (queue7_1.n : Int) ?_
  refine condM_b (fun hb_3 => ?_) (fun hb_3 => ?_)
  rotate_left
  ·have H := H.2 hb_3
   exact H
  have H := H.1 hb_3
  refine pop_field 0 fld26_0 b_1 0 ?_
  refine rop_loc one24 hL_7 0 rfl 0 (v := (Sl.v g0_1)) rfl ?_
  obtain ⟨hi_5, H⟩ := H
  refine pop_index sli37 siz3 .i64 queue7_1 k8_1 hi_5 ?_
  obtain ⟨t40_1, hc_6, H⟩ := H
  refine rop_one one3 (VI t40_1) hc_6 ?_
  obtain ⟨hi_6, H⟩ := H
  refine pop_index sli24 siz37 .i64 g0_1 t40_1 hi_6 ?_
  obtain ⟨t42_1, hc_5, H⟩ := H
  refine rop_one one37 (Sl.v t42_1) hc_5 ?_
  refine pop_len t42_1 _ _ sli37 ?_
  obtain ⟨J_3, ⟨n_4, h0_1⟩, HB_1⟩ := H
  refine loop_intro (J := fun (n : Nat) (vs : List Value) (h' : Heap) => ∃ queue7_2 : Sl, ∃ t44_1 : Int, vs = [(Sl.v queue7_2), (VI t44_1)] ∧ J_3 n queue7_2 t44_1 h' ∧ Vars h' [(b_1, [(Sl.v g0_1)])]) n_4 ⟨queue7_1, 0, rfl, h0_1, hL_7⟩ ?_
  intro I_1 mu_1 hI_1 junk_3 tv_1 tv_2 h_8 hi_7
  obtain ⟨n_3, ⟨queue7_2, t44_1, hv, hJ_3, hL_8⟩, hn_3⟩ := hI_1 _ _ hi_7
  cases hv
  have H := HB_1 n_3 queue7_2 t44_1 h_8 hJ_3 hL_8
  refine pop_lss .i64 t44_1 (t42_1.n : Int) ?_
  refine condM_b (fun hb_4 => ?_) (fun hb_4 => ?_)
  rotate_left
  ·have H := H.2 hb_4
   refine pop_add .i64 k8_1 1 ?_
   obtain ⟨m_4, hm_4, H⟩ := H
   exact hn_2 _ _ ⟨m_4, hm_4, queue7_2, (w64 (k8_1 + 1)), rfl, H, hL_8⟩
  have H := H.1 hb_4
  obtain ⟨hi_8, H⟩ := H
  refine pop_index sli37 siz3 .i64 t42_1 t44_1 hi_8 ?_
  obtain ⟨t47_1, hc_4, H⟩ := H
  refine rop_one one3 (VI t47_1) hc_4 ?_
  obtain ⟨hi_9, H⟩ := H
  refine pop_index sli37 siz3 .i64 t14_1 t47_1 hi_9 ?_
  obtain ⟨t51_1, hc_3, H⟩ := H
  refine rop_one one3 (VI t51_1) hc_3 ?_
  refine pop_lss .i64 t51_1 0 ?_
  refine condM_b (fun hb_5 => ?_) (fun hb_5 => ?_)
  rotate_left
  ·have H := H.2 hb_5
   refine pop_add .i64 t44_1 1 ?_
   obtain ⟨m_3, hm_3, H⟩ := H
   exact hn_3 _ _ ⟨m_3, hm_3, queue7_2, (w64 (t44_1 + 1)), rfl, H, hL_8⟩
  have H := H.1 hb_5
  obtain ⟨hi_10, H⟩ := H
  refine pop_index sli37 siz3 .i64 queue7_2 k8_1 hi_10 ?_
  obtain ⟨t59_1, hc_2, H⟩ := H
  refine rop_one one3 (VI t59_1) hc_2 ?_
  obtain ⟨hi_11, H⟩ := H
  refine pop_index sli37 siz3 .i64 t14_1 t59_1 hi_11 ?_
  obtain ⟨t61_1, hc_1, H⟩ := H
  refine rop_one one3 (VI t61_1) hc_1 ?_
  refine pop_add .i64 t61_1 1 ?_
  obtain ⟨hi_12, H⟩ := H
  refine pop_index sli37 siz3 .i64 t14_1 t47_1 hi_12 ?_
  obtain ⟨hw_3, hL_9, H⟩ := H
  refine uop_cell (v := (VI (w64 (t61_1 + 1)))) siz3 hw_3 rfl (fun h_9 he_3 => ?_)
  rw [← he_3] at hL_9
  have H := H h_9 he_3 hL_9
  refine H.mono fun rv_3 h_10 H => ?_
  obtain ⟨t66_1, rfl, hL_10, H⟩ := H
  refine H.mono fun rv_4 h_11 H => ?_
  obtain ⟨t67_1, rfl, hL_11, H⟩ := H
  refine pop_add .i64 t44_1 1 ?_
  obtain ⟨m_2, hm_2, H⟩ := H
  exact hn_3 _ _ ⟨m_2, hm_2, t67_1, (w64 (t44_1 + 1)), rfl, H, hL_11⟩

/-! slices.Clone[[]int,int] -/
def u117 (P : Program) (s0_1 : Sl) (h : Heap) (K : Value → Heap → Prop) : Prop :=
  pop P (binE .eql 37 (.tmp 3) (.const (Value.slice none 0 0)) (Sl.v s0_1) (Value.slice none 0 0)) fun rv_1 => ∃ t4_1 : Bool, rv_1 = (VB t4_1) ∧ 
  (t4_1 = true →
  K (Sl.v nilSl) h) ∧
  (t4_1 = false →
  eop P (Instr.buildSlice 37 0 #[]) h fun rv_2 h_1 => ∃ t5_1 : Sl, rv_2 = (Sl.v t5_1) ∧ Vars h_1 [] ∧
  eop P (appS 37 37 37 (Sl.v t5_1) (Sl.v s0_1)) h_1 fun rv_3 h_2 => ∃ t7_1 : Sl, rv_3 = (Sl.v t7_1) ∧ Vars h_2 [] ∧
  K (Sl.v t7_1) h_2)
theorem v117 (s0_1 : Sl) (h : Heap) (K : Value → Heap → Prop) (H : u117 Try.prog s0_1 h K) : callM Try.prog 117 #[(Sl.v s0_1)] h K := by
  refine c117 (Sl.v s0_1) h K ?_
  unfold u117 at H
  unfold t117
  have hL : Vars h [] := .nil
  refine H.mono fun rv_1 H => ?_
  obtain ⟨t4_1, rfl, H⟩ := H
  refine condM_b (fun hb_1 => ?_) (fun hb_1 => ?_)
  ·have H := H.1 hb_1
   exact H
  have H := H.2 hb_1
  refine H.mono fun rv_2 h_1 H => ?_
  obtain ⟨t5_1, rfl, hL_1, H⟩ := H
  refine H.mono fun rv_3 h_2 H => ?_
  obtain ⟨t7_1, rfl, hL_2, H⟩ := H
  exact H

/-! (*spec.l1Cur).sureGraph -/
def u118 (P : Program) (b_1 : Nat) (c0_1 : Sl) (c0_2 : Int) (c0_3 : Int) (most1_1 : Int) (h : Heap) (K : Value → Heap → Prop) : Prop :=
  ∀ (b_2 : Nat) (h_1 : Heap), h.size ≤ b_2 → Fr (In []) h h_1 → Vars h_1 [(b_2, [(Sl.v nilSl)]), (b_1, [(Sl.v c0_1), (VI c0_2), (Value.int .u64 c0_3)])] →
  callM P 70 #[(VP b_1 0), (VI most1_1)] h_1 fun rv_1 h_2 => ∃ x_1 : Sl, ∃ x_2 : Int, ∃ x_3 : Int, ∃ t13_1 : Int, rv_1 = (VI t13_1) ∧ Vars h_2 [(b_2, [(Sl.v nilSl)]), (b_1, [(Sl.v x_1), (VI x_2), (Value.int .u64 x_3)])] ∧
  callM P 106 #[(VP b_1 0), (VI 4)] h_2 fun rv_2 h_3 => ∃ x_4 : Sl, ∃ x_5 : Int, ∃ x_6 : Int, ∃ t16_1 : Bool, rv_2 = (VB t16_1) ∧ Vars h_3 [(b_2, [(Sl.v nilSl)]), (b_1, [(Sl.v x_4), (VI x_5), (Value.int .u64 x_6)])] ∧
  (t16_1 = true →
  callM P 106 #[(VP b_1 0), (VI 2)] h_3 fun rv_3 h_4 => ∃ x_7 : Sl, ∃ x_8 : Int, ∃ x_9 : Int, ∃ t19_1 : Bool, rv_3 = (VB t19_1) ∧ Vars h_4 [(b_2, [(Sl.v nilSl)]), (b_1, [(Sl.v x_7), (VI x_8), (Value.int .u64 x_9)])] ∧
  callM P 135 #[(VI (w64 (1 + t13_1))), (VB t19_1)] h_4 fun rv_4 h_5 => ∃ t20_1 : Sl, rv_4 = (Value.agg #[(Sl.v t20_1)]) ∧ Vars h_5 [(b_2, [(Sl.v nilSl)]), (b_1, [(Sl.v x_7), (VI x_8), (Value.int .u64 x_9)])] ∧
  ∀ (h_6 : Heap), Fr (In [b_2]) h_5 h_6 → Vars h_6 [(b_2, [(Sl.v t20_1)]), (b_1, [(Sl.v x_7), (VI x_8), (Value.int .u64 x_9)])] →
  K (Value.agg #[(Sl.v t20_1)]) h_6) ∧
  (t16_1 = false →
  ∀ (b_3 : Nat) (h_8 : Heap), h_3.size ≤ b_3 → Fr (In []) h_3 h_8 → Vars h_8 [(b_3, [(Sl.v nilSl)]), (b_2, [(Sl.v nilSl)]), (b_1, [(Sl.v x_4), (VI x_5), (Value.int .u64 x_6)])] →
  ∃ J_1 : Nat → Int → Sl → Sl → Int → Int → Heap → Prop, (∃ n0 : Nat, J_1 n0 0 nilSl x_4 x_5 x_6 h_8) ∧
  ∀ (n_1 : Nat) (p7_1 : Int) (x_10 : Sl) (x_11 : Sl) (x_12 : Int) (x_13 : Int) (h_9 : Heap), J_1 n_1 p7_1 x_10 x_11 x_12 x_13 h_9 → Vars h_9 [(b_3, [(Sl.v x_10)]), (b_2, [(Sl.v nilSl)]), (b_1, [(Sl.v x_11), (VI x_12), (Value.int .u64 x_13)])] →
  ((decide (p7_1 < (w64 (1 + t13_1)))) = true →
  callM P 70 #[(VP b_1 0), (VI 3)] h_9 fun rv_5 h_10 => ∃ x_14 : Sl, ∃ x_15 : Int, ∃ x_16 : Int, ∃ t28_1 : Int, rv_5 = (VI t28_1) ∧ Vars h_10 [(b_3, [(Sl.v x_10)]), (b_2, [(Sl.v nilSl)]), (b_1, [(Sl.v x_14), (VI x_15), (Value.int .u64 x_16)])] ∧
  ∃ J_2 : Nat → Sl → Int → Sl → Int → Int → Heap → Prop, (∃ n0 : Nat, J_2 n0 nilSl (w64 (1 + t28_1)) x_14 x_15 x_16 h_10) ∧
  ∀ (n_2 : Nat) (list8_1 : Sl) (k9_1 : Int) (x_17 : Sl) (x_18 : Int) (x_19 : Int) (h_11 : Heap), J_2 n_2 list8_1 k9_1 x_17 x_18 x_19 h_11 → Vars h_11 [(b_3, [(Sl.v x_10)]), (b_2, [(Sl.v nilSl)]), (b_1, [(Sl.v x_17), (VI x_18), (Value.int .u64 x_19)])] →
  ((decide (0 < k9_1)) = true →
  callM P 70 #[(VP b_1 0), (VI (w64 (1 + t13_1)))] h_11 fun rv_6 h_12 => ∃ x_20 : Sl, ∃ x_21 : Int, ∃ x_22 : Int, ∃ t37_1 : Int, rv_6 = (VI t37_1) ∧ Vars h_12 [(b_3, [(Sl.v x_10)]), (b_2, [(Sl.v nilSl)]), (b_1, [(Sl.v x_20), (VI x_21), (Value.int .u64 x_22)])] ∧
  eop P (Instr.buildSlice 37 1 #[(0, (VI t37_1))]) h_12 fun rv_7 h_13 => ∃ t38_1 : Sl, rv_7 = (Sl.v t38_1) ∧ Vars h_13 [(b_3, [(Sl.v x_10)]), (b_2, [(Sl.v nilSl)]), (b_1, [(Sl.v x_20), (VI x_21), (Value.int .u64 x_22)])] ∧
  eop P (appS 37 37 37 (Sl.v list8_1) (Sl.v t38_1)) h_13 fun rv_8 h_14 => ∃ t39_1 : Sl, rv_8 = (Sl.v t39_1) ∧ Vars h_14 [(b_3, [(Sl.v x_10)]), (b_2, [(Sl.v nilSl)]), (b_1, [(Sl.v x_20), (VI x_21), (Value.int .u64 x_22)])] ∧
  ∃ m : Nat, m < n_2 ∧ J_2 m t39_1 (w64 (k9_1 - 1)) x_20 x_21 x_22 h_14) ∧
  ((decide (0 < k9_1)) = false →
  ∃ J_3 : Sl → Sl → Int → Int → Heap → Prop, (callM P 106 #[(VP b_1 0), (VI 8)] h_11 fun rv_9 h_15 => ∃ x_27 : Sl, ∃ x_28 : Int, ∃ x_29 : Int, ∃ t41_1 : Bool, rv_9 = (VB t41_1) ∧ Vars h_15 [(b_3, [(Sl.v x_10)]), (b_2, [(Sl.v nilSl)]), (b_1, [(Sl.v x_27), (VI x_28), (Value.int .u64 x_29)])] ∧
  (t41_1 = true →
  J_3 nilSl x_27 x_28 x_29 h_15) ∧
  (t41_1 = false →
  J_3 list8_1 x_27 x_28 x_29 h_15)) ∧
  ∀ (x_23 : Sl) (x_24 : Sl) (x_25 : Int) (x_26 : Int) (h_16 : Heap), J_3 x_23 x_24 x_25 x_26 h_16 → Vars h_16 [(b_3, [(Sl.v x_10)]), (b_2, [(Sl.v nilSl)]), (b_1, [(Sl.v x_24), (VI x_25), (Value.int .u64 x_26)])] →
  eop P (Instr.buildSlice 24 1 #[(0, (Sl.v x_23))]) h_16 fun rv_10 h_17 => ∃ t45_1 : Sl, rv_10 = (Sl.v t45_1) ∧ Vars h_17 [(b_3, [(Sl.v x_10)]), (b_2, [(Sl.v nilSl)]), (b_1, [(Sl.v x_24), (VI x_25), (Value.int .u64 x_26)])] ∧
  eop P (appS 24 24 24 (Sl.v x_10) (Sl.v t45_1)) h_17 fun rv_11 h_18 => ∃ t46_1 : Sl, rv_11 = (Sl.v t46_1) ∧ Vars h_18 [(b_3, [(Sl.v x_10)]), (b_2, [(Sl.v nilSl)]), (b_1, [(Sl.v x_24), (VI x_25), (Value.int .u64 x_26)])] ∧
  ∀ (h_19 : Heap), Fr (In [b_3]) h_18 h_19 → Vars h_19 [(b_3, [(Sl.v t46_1)]), (b_2, [(Sl.v nilSl)]), (b_1, [(Sl.v x_24), (VI x_25), (Value.int .u64 x_26)])] →
  ∃ m : Nat, m < n_1 ∧ J_1 m (w64 (p7_1 + 1)) t46_1 x_24 x_25 x_26 h_19)) ∧
  ((decide (p7_1 < (w64 (1 + t13_1)))) = false →
  callM P 106 #[(VP b_1 0), (VI 2)] h_9 fun rv_12 h_20 => ∃ x_30 : Sl, ∃ x_31 : Int, ∃ x_32 : Int, ∃ t49_1 : Bool, rv_12 = (VB t49_1) ∧ Vars h_20 [(b_3, [(Sl.v x_10)]), (b_2, [(Sl.v nilSl)]), (b_1, [(Sl.v x_30), (VI x_31), (Value.int .u64 x_32)])] ∧
  (t49_1 = true →
  ∃ J_4 : Nat → Int → Heap → Prop, (∃ n0 : Nat, J_4 n0 0 h_20) ∧
  ∀ (n_4 : Nat) (t53_1 : Int) (h_21 : Heap), J_4 n_4 t53_1 h_21 → Vars h_21 [(b_3, [(Sl.v x_10)]), (b_2, [(Sl.v nilSl)]), (b_1, [(Sl.v x_30), (VI x_31), (Value.int .u64 x_32)])] →
  ((decide (t53_1 < (x_10.n : Int))) = true →
  InB x_10 t53_1 ∧
  ∃ t63_1 : Sl, hcell h_21 (Sl.at x_10 t53_1 1) = some (Sl.v t63_1) ∧
  (w64 (1 + t13_1)) ≠ 0 ∧
  eop P (Instr.buildSlice 37 1 #[(0, (VI (Int.tmod (w64 (t53_1 + 1)) (w64 (1 + t13_1)))))]) h_21 fun rv_13 h_22 => ∃ t68_1 : Sl, rv_13 = (Sl.v t68_1) ∧ Vars h_22 [(b_3, [(Sl.v x_10)]), (b_2, [(Sl.v nilSl)]), (b_1, [(Sl.v x_30), (VI x_31), (Value.int .u64 x_32)])] ∧
  hcell h_22 (Sl.at x_10 t53_1 1) = some (Sl.v t63_1) ∧
  eop P (appS 37 37 37 (Sl.v t63_1) (Sl.v t68_1)) h_22 fun rv_14 h_23 => ∃ t69_1 : Sl, rv_14 = (Sl.v t69_1) ∧ Vars h_23 [(b_3, [(Sl.v x_10)]), (b_2, [(Sl.v nilSl)]), (b_1, [(Sl.v x_30), (VI x_31), (Value.int .u64 x_32)])] ∧
  InB x_10 t53_1 ∧
  Writable h_23 (Sl.at x_10 t53_1 1) ∧ Vars (hset h_23 (Sl.at x_10 t53_1 1) (Sl.v t69_1)) [(b_3, [(Sl.v x_10)]), (b_2, [(Sl.v nilSl)]), (b_1, [(Sl.v x_30), (VI x_31), (Value.int .u64 x_32)])] ∧
  ∀ h_24 : Heap, h_24 = hset h_23 (Sl.at x_10 t53_1 1) (Sl.v t69_1) → Vars h_24 [(b_3, [(Sl.v x_10)]), (b_2, [(Sl.v nilSl)]), (b_1, [(Sl.v x_30), (VI x_31), (Value.int .u64 x_32)])] →
  ∃ m : Nat, m < n_4 ∧ J_4 m (w64 (t53_1 + 1)) h_24) ∧
  ((decide (t53_1 < (x_10.n : Int))) = false →
  ∀ (h_25 : Heap), Fr (In [b_2]) h_21 h_25 → Vars h_25 [(b_3, [(Sl.v x_10)]), (b_2, [(Sl.v x_10)]), (b_1, [(Sl.v x_30), (VI x_31), (Value.int .u64 x_32)])] →
  K (Value.agg #[(Sl.v x_10)]) h_25)) ∧
  (t49_1 = false →
  ∀ (h_26 : Heap), Fr (In [b_2]) h_20 h_26 → Vars h_26 [(b_3, [(Sl.v x_10)]), (b_2, [(Sl.v x_10)]), (b_1, [(Sl.v x_30), (VI x_31), (Value.int .u64 x_32)])] →
  K (Value.agg #[(Sl.v x_10)]) h_26)))
theorem v118 (b_1 : Nat) (c0_1 : Sl) (c0_2 : Int) (c0_3 : Int) (most1_1 : Int) (h : Heap) (K : Value → Heap → Prop) (hL : Vars h [(b_1, [(Sl.v c0_1), (VI c0_2), (Value.int .u64 c0_3)])]) (H : u118 Try.prog b_1 c0_1 c0_2 c0_3 most1_1 h K) : callM Try.prog 118 #[(VP b_1 0), (VI most1_1)] h K := by
  refine c118 (VP b_1 0) (VI most1_1) h K ?_
  unfold u118 at H
  unfold t118
  refine eop_alloc 26 zer26 rfl hL (fun b_2 h_1 hb_1 hf_1 hL_1 => ?_)
  have H := H b_2 h_1 (Nat.le_trans (Fr.size (Fr.r (In []) _)) hb_1) (Fr.no' (Fr.r (In []) _) hf_1) hL_1
  refine H.mono fun rv_1 h_2 H => ?_
  obtain ⟨x_1, x_2, x_3, t13_1, rfl, hL_2, H⟩ := H
  refine pop_add .i64 1 t13_1 ?_
  refine H.mono fun rv_2 h_3 H => ?_
  obtain ⟨x_4, x_5, x_6, t16_1, rfl, hL_3, H⟩ := H
  refine condM_b (fun hb_2 => ?_) (fun hb_2 => ?_)
  ·have H := H.1 hb_2
   refine H.mono fun rv_3 h_4 H => ?_
   obtain ⟨x_7, x_8, x_9, t19_1, rfl, hL_4, H⟩ := H
   refine H.mono fun rv_4 h_5 H => ?_
   obtain ⟨t20_1, rfl, hL_5, H⟩ := H
   refine uop_loc siz26 hL_5 0 rfl 0 [(Sl.v t20_1)] rfl rfl rfl (Nat.le_of_ble_eq_true rfl) (L' := [(b_2, [(Sl.v t20_1)]), (b_1, [(Sl.v x_7), (VI x_8), (Value.int .u64 x_9)])]) rfl (fun h_6 hf_2 hL_6 => ?_)
   refine rop_locA agg26 hL_6 0 rfl 0 (vs := [(Sl.v t20_1)]) rfl rfl ?_
   have H := H  h_6  (Fr.old (Fr.r (In []) _) hf_2) hL_6
   exact H
  have H := H.2 hb_2
  refine pop.mk' (v := (Value.agg #[(Sl.v nilSl)])) (fun w => by kernel_rfl) ?_
  refine eop_alloc 26 zer26 rfl hL_3 (fun b_3 h_7 hb_3 hf_3 hL_7 => ?_)
  refine uop_loc siz26 hL_7 0 rfl 0 [(Sl.v nilSl)] rfl rfl rfl (Nat.le_of_ble_eq_true rfl) (L' := [(b_3, [(Sl.v nilSl)]), (b_2, [(Sl.v nilSl)]), (b_1, [(Sl.v x_4), (VI x_5), (Value.int .u64 x_6)])]) rfl (fun h_8 hf_4 hL_8 => ?_)
  have H := H b_3 h_8 (Nat.le_trans (Fr.size (Fr.r (In []) _)) hb_3) (Fr.new (Fr.no' (Fr.r (In []) _) hf_3) (Nat.le_trans (Fr.size (Fr.r (In []) _)) hb_3) hf_4) hL_8
  obtain ⟨J_1, ⟨n_6, h0_3⟩, HB_4⟩ := H
  refine loop_intro (J := fun (n : Nat) (vs : List Value) (h' : Heap) => ∃ p7_1 : Int, ∃ x_10 : Sl, ∃ x_11 : Sl, ∃ x_12 : Int, ∃ x_13 : Int, vs = [(VI p7_1)] ∧ J_1 n p7_1 x_10 x_11 x_12 x_13 h' ∧ Vars h' [(b_3, [(Sl.v x_10)]), (b_2, [(Sl.v nilSl)]), (b_1, [(Sl.v x_11), (VI x_12), (Value.int .u64 x_13)])]) n_6 ⟨0, nilSl, x_4, x_5, x_6, rfl, h0_3, hL_8⟩ ?_
  intro I_3 mu_3 hI_3 junk_1 tv_5 h_9 hi_1
  obtain ⟨n_1, ⟨p7_1, x_10, x_11, x_12, x_13, hv, hJ_1, hL_9⟩, hn_1⟩ := hI_3 _ _ hi_1
  cases hv
  have H := HB_4 n_1 p7_1 x_10 x_11 x_12 x_13 h_9 hJ_1 hL_9
  refine pop_lss .i64 p7_1 (w64 (1 + t13_1)) ?_
  refine condM_b (fun hb_4 => ?_) (fun hb_4 => ?_)
  ·have H := H.1 hb_4
   refine H.mono fun rv_5 h_10 H => ?_
   obtain ⟨x_14, x_15, x_16, t28_1, rfl, hL_10, H⟩ := H
   refine pop_add .i64 1 t28_1 ?_
   obtain ⟨J_2, ⟨n_3, h0_1⟩, HB_2⟩ := H
   refine loop_intro (J := fun (n : Nat) (vs : List Value) (h' : Heap) => ∃ list8_1 : Sl, ∃ k9_1 : Int, ∃ x_17 : Sl, ∃ x_18 : Int, ∃ x_19 : Int, vs = [(Sl.v list8_1), (VI k9_1)] ∧ J_2 n list8_1 k9_1 x_17 x_18 x_19 h' ∧ Vars h' [(b_3, [(Sl.v x_10)]), (b_2, [(Sl.v nilSl)]), (b_1, [(Sl.v x_17), (VI x_18), (Value.int .u64 x_19)])]) n_3 ⟨nilSl, (w64 (1 + t28_1)), x_14, x_15, x_16, rfl, h0_1, hL_10⟩ ?_
   intro I_1 mu_1 hI_1 junk_2 tv_2 tv_3 h_11 hi_2
   obtain ⟨n_2, ⟨list8_1, k9_1, x_17, x_18, x_19, hv, hJ_2, hL_11⟩, hn_2⟩ := hI_1 _ _ hi_2
   cases hv
   have H := HB_2 n_2 list8_1 k9_1 x_17 x_18 x_19 h_11 hJ_2 hL_11
   refine pop_gtr .i64 k9_1 0 ?_
   refine condM_b (fun hb_5 => ?_) (fun hb_5 => ?_)
   ·have H := H.1 hb_5
    refine H.mono fun rv_6 h_12 H => ?_
    obtain ⟨x_20, x_21, x_22, t37_1, rfl, hL_12, H⟩ := H
    refine H.mono fun rv_7 h_13 H => ?_
    obtain ⟨t38_1, rfl, hL_13, H⟩ := H
    refine H.mono fun rv_8 h_14 H => ?_
    obtain ⟨t39_1, rfl, hL_14, H⟩ := H
    refine pop_sub .i64 k9_1 1 ?_
    obtain ⟨m_1, hm_1, H⟩ := H
    exact hn_2 _ _ ⟨m_1, hm_1, t39_1, (w64 (k9_1 - 1)), x_20, x_21, x_22, rfl, H, hL_14⟩
   have H := H.2 hb_5
   obtain ⟨J_3, H, HB_1⟩ := H
   refine ⟨fun (vs : List Value) (h' : Heap) => ∃ x_23 : Sl, ∃ x_24 : Sl, ∃ x_25 : Int, ∃ x_26 : Int, vs = [(Sl.v x_23)] ∧ J_3 x_23 x_24 x_25 x_26 h' ∧ Vars h' [(b_3, [(Sl.v x_10)]), (b_2, [(Sl.v nilSl)]), (b_1, [(Sl.v x_24), (VI x_25), (Value.int .u64 x_26)])], ?_, ?_⟩
   ·refine H.mono fun rv_9 h_15 H => ?_
    obtain ⟨x_27, x_28, x_29, t41_1, rfl, hL_15, H⟩ := H
    refine condM_b (fun hb_6 => ?_) (fun hb_6 => ?_)
    ·have H := H.1 hb_6
     exact ⟨nilSl, x_27, x_28, x_29, rfl, H, hL_15⟩
    have H := H.2 hb_6
    exact ⟨list8_1, x_27, x_28, x_29, rfl, H, hL_15⟩
   intro junk_3 tv_1 h_16
   rintro ⟨x_23, x_24, x_25, x_26, hv, hJ_3, hL_16⟩
   cases hv
   have H := HB_1 x_23 x_24 x_25 x_26 h_16 hJ_3 hL_16
   refine pop_field 0 fld26_0 b_3 0 ?_
   refine rop_loc one24 hL_16 0 rfl 0 (v := (Sl.v x_10)) rfl ?_
   refine H.mono fun rv_10 h_17 H => ?_
   obtain ⟨t45_1, rfl, hL_17, H⟩ := H
   refine H.mono fun rv_11 h_18 H => ?_
   obtain ⟨t46_1, rfl, hL_18, H⟩ := H
   refine pop_field 0 fld26_0 b_3 0 ?_
   refine uop_loc siz24 hL_18 0 rfl 0 [(Sl.v t46_1)] rfl rfl rfl (Nat.le_of_ble_eq_true rfl) (L' := [(b_3, [(Sl.v t46_1)]), (b_2, [(Sl.v nilSl)]), (b_1, [(Sl.v x_24), (VI x_25), (Value.int .u64 x_26)])]) rfl (fun h_19 hf_5 hL_19 => ?_)
   refine pop_add .i64 p7_1 1 ?_
   have H := H  h_19  (Fr.old (Fr.r (In []) _) hf_5) hL_19
   obtain ⟨m_2, hm_2, H⟩ := H
   exact hn_1 _ _ ⟨m_2, hm_2, (w64 (p7_1 + 1)), t46_1, x_24, x_25, x_26, rfl, H, hL_19⟩
  have H := H.2 hb_4
  refine H.mono fun rv_12 h_20 H => ?_
  obtain ⟨x_30, x_31, x_32, t49_1, rfl, hL_20, H⟩ := H
  refine condM_b (fun hb_7 => ?_) (fun hb_7 => ?_)
  rotate_left
  ·have H := H.2 hb_7
   refine rop_locA agg26 hL_20 0 rfl 0 (vs := [(Sl.v x_10)]) rfl rfl ?_
   refine uop_loc siz26 hL_20 1 rfl 0 [(Sl.v x_10)] rfl rfl rfl (Nat.le_of_ble_eq_true rfl) (L' := [(b_3, [(Sl.v x_10)]), (b_2, [(Sl.v x_10)]), (b_1, [(Sl.v x_30), (VI x_31), (Value.int .u64 x_32)])]) rfl (fun h_26 hf_7 hL_26 => ?_)
   refine rop_locA agg26 hL_26 1 rfl 0 (vs := [(Sl.v x_10)]) rfl rfl ?_
   have H := H  h_26  (Fr.old (Fr.r (In []) _) hf_7) hL_26
   exact H
  have H := H.1 hb_7
  refine pop_field 0 fld26_0 b_3 0 ?_
  refine rop_loc one24 hL_20 0 rfl 0 (v := (Sl.v x_10)) rfl ?_
  refine pop_len x_10 _ _ sli24 ?_
  obtain ⟨J_4, ⟨n_5, h0_2⟩, HB_3⟩ := H
  refine loop_intro (J := fun (n : Nat) (vs : List Value) (h' : Heap) => ∃ t53_1 : Int, vs = [(VI t53_1)] ∧ J_4 n t53_1 h' ∧ Vars h' [(b_3, [(Sl.v x_10)]), (b_2, [(Sl.v nilSl)]), (b_1, [(Sl.v x_30), (VI x_31), (Value.int .u64 x_32)])]) n_5 ⟨0, rfl, h0_2, hL_20⟩ ?_
  intro I_2 mu_2 hI_2 junk_4 tv_4 h_21 hi_3
  obtain ⟨n_4, ⟨t53_1, hv, hJ_4, hL_21⟩, hn_3⟩ := hI_2 _ _ hi_3
  cases hv
  have H := HB_3 n_4 t53_1 h_21 hJ_4 hL_21
  refine pop_lss .i64 t53_1 (x_10.n : Int) ?_
  refine condM_b (fun hb_8 => ?_) (fun hb_8 => ?_)
  rotate_left
  ·have H := H.2 hb_8
   refine rop_locA agg26 hL_21 0 rfl 0 (vs := [(Sl.v x_10)]) rfl rfl ?_
   refine uop_loc siz26 hL_21 1 rfl 0 [(Sl.v x_10)] rfl rfl rfl (Nat.le_of_ble_eq_true rfl) (L' := [(b_3, [(Sl.v x_10)]), (b_2, [(Sl.v x_10)]), (b_1, [(Sl.v x_30), (VI x_31), (Value.int .u64 x_32)])]) rfl (fun h_25 hf_6 hL_25 => ?_)
   refine rop_locA agg26 hL_25 1 rfl 0 (vs := [(Sl.v x_10)]) rfl rfl ?_
   have H := H  h_25  (Fr.old (Fr.r (In []) _) hf_6) hL_25
   exact H
  have H := H.1 hb_8
  refine pop_field 0 fld26_0 b_3 0 ?_
  refine rop_loc one24 hL_21 0 rfl 0 (v := (Sl.v x_10)) rfl ?_
  refine pop_field 0 fld26_0 b_3 0 ?_
  refine rop_loc one24 hL_21 0 rfl 0 (v := (Sl.v x_10)) rfl ?_
  obtain ⟨hi_4, H⟩ := H
  refine pop_index sli24 siz37 .i64 x_10 t53_1 hi_4 ?_
  obtain ⟨t63_1, hc_2, H⟩ := H
  refine rop_one one37 (Sl.v t63_1) hc_2 ?_
  refine pop_add .i64 t53_1 1 ?_
  obtain ⟨hz_1, H⟩ := H
  refine pop_rem .i64 (w64 (t53_1 + 1)) (w64 (1 + t13_1)) hz_1 ?_
  refine H.mono fun rv_13 h_22 H => ?_
  obtain ⟨t68_1, rfl, hL_22, H⟩ := H
  refine ⟨?_, ?_⟩
  ·exact still_one one37 H.1
  obtain ⟨hc_1, H⟩ := H
  refine ⟨?_, ?_⟩
  ·exact still_loc one24 hL_22 0 rfl 0 (v := (Sl.v x_10)) rfl
  refine ⟨?_, ?_⟩
  ·exact still_loc one24 hL_22 0 rfl 0 (v := (Sl.v x_10)) rfl
  refine H.mono fun rv_14 h_23 H => ?_
  obtain ⟨t69_1, rfl, hL_23, H⟩ := H
  refine ⟨?_, ?_⟩
  ·exact still_loc one24 hL_23 0 rfl 0 (v := (Sl.v x_10)) rfl
  refine ⟨?_, ?_⟩
  ·exact still_loc one24 hL_23 0 rfl 0 (v := (Sl.v x_10)) rfl
  obtain ⟨hi_5, H⟩ := H
  refine pop_index sli24 siz37 .i64 x_10 t53_1 hi_5 ?_
  obtain ⟨hw_1, hL_24, H⟩ := H
  refine uop_cell (v := (Sl.v t69_1)) siz37 hw_1 rfl (fun h_24 he_1 => ?_)
  rw [← he_1] at hL_24
  have H := H h_24 he_1 hL_24
  refine pop_add .i64 t53_1 1 ?_
  obtain ⟨m_3, hm_3, H⟩ := H
  exact hn_3 _ _ ⟨m_3, hm_3, (w64 (t53_1 + 1)), rfl, H, hL_24⟩

/-! (*spec.l1Cur).next -/
def u119 (P : Program) (b_1 : Nat) (c0_1 : Sl) (c0_2 : Int) (c0_3 : Int) (h : Heap) (K : Value → Heap → Prop) : Prop :=
  ∃ J_1 : Int → Heap → Prop, (((decide (c0_2 < (c0_1.n : Int))) = true →
  InB c0_1 c0_2 ∧
  ∃ t23_1 : Int, hcell h (Sl.at c0_1 c0_2 1) = some (Value.int .u8 t23_1) ∧
  rop P (convert 5 3 (Value.int .u8 t23_1)) h fun rv_1 => ∃ t24_1 : Int, rv_1 = (VI t24_1) ∧ 
  J_1 t24_1 h) ∧
  ((decide (c0_2 < (c0_1.n : Int))) = false →
  J_1 0 h)) ∧
  ∀ (x_1 : Int) (h_1 : Heap), J_1 x_1 h_1 → Vars h_1 [(b_1, [(Sl.v c0_1), (VI c0_2), (Value.int .u64 c0_3)])] →
  ∀ (h_2 : Heap), Fr (In [b_1]) h_1 h_2 → Vars h_2 [(b_1, [(Sl.v c0_1), (VI (w64 (c0_2 + 1))), (Value.int .u64 c0_3)])] →
  rop P (convert 3 67 (VI x_1)) h_2 fun rv_2 => ∃ t39_1 : Int, rv_2 = (Value.int .u64 t39_1) ∧ 
  ((decide ((w64 (c0_2 + 1)) ≤ (c0_1.n : Int))) = true →
  ∀ (h_3 : Heap), Fr (In [b_1]) h_2 h_3 → Vars h_3 [(b_1, [(Sl.v c0_1), (VI (w64 (c0_2 + 1))), (Value.int .u64 (IntKind.wrap .u64 ((IntKind.wrap .u64 ((IntKind.wrap .u64 (c0_3 * 6364136223846793005)) + t39_1)) + 1442695040888963407)))])] →
  K (VI x_1) h_3) ∧
  ((decide ((w64 (c0_2 + 1)) ≤ (c0_1.n : Int))) = false →
  pop P (binA .shr 67 (Value.int .u64 (IntKind.wrap .u64 ((IntKind.wrap .u64 ((IntKind.wrap .u64 (c0_3 * 6364136223846793005)) + t39_1)) + 1442695040888963407))) (Value.int IntKind.u64 40)) fun rv_3 => ∃ t59_1 : Int, rv_3 = (Value.int .u64 t59_1) ∧ 
  pop P (binA .and 67 (Value.int .u64 t59_1) (Value.int IntKind.u64 255)) fun rv_4 => ∃ t60_1 : Int, rv_4 = (Value.int .u64 t60_1) ∧ 
  ∀ (h_3 : Heap), Fr (In [b_1]) h_2 h_3 → Vars h_3 [(b_1, [(Sl.v c0_1), (VI (w64 (c0_2 + 1))), (Value.int .u64 (IntKind.wrap .u64 ((IntKind.wrap .u64 ((IntKind.wrap .u64 (c0_3 * 6364136223846793005)) + t39_1)) + 1442695040888963407)))])] →
  rop P (convert 67 3 (Value.int .u64 t60_1)) h_3 fun rv_5 => ∃ t61_1 : Int, rv_5 = (VI t61_1) ∧ 
  K (VI t61_1) h_3)
theorem v119 (b_1 : Nat) (c0_1 : Sl) (c0_2 : Int) (c0_3 : Int) (h : Heap) (K : Value → Heap → Prop) (hL : Vars h [(b_1, [(Sl.v c0_1), (VI c0_2), (Value.int .u64 c0_3)])]) (H : u119 Try.prog b_1 c0_1 c0_2 c0_3 h K) : callM Try.prog 119 #[(VP b_1 0)] h K := by
  refine c119 (VP b_1 0) h K ?_
  unfold u119 at H
  unfold t119
  obtain ⟨J_1, H, HB_1⟩ := H
  refine ⟨fun (vs : List Value) (h' : Heap) => ∃ x_1 : Int, vs = [(VI x_1)] ∧ J_1 x_1 h' ∧ Vars h' [(b_1, [(Sl.v c0_1), (VI c0_2), (Value.int .u64 c0_3)])], ?_, ?_⟩
  ·refine pop_nil _ ?_
   refine pop_field 1 fld69_1 b_1 0 ?_
   refine rop_loc one3 hL 0 rfl 1 (v := (VI c0_2)) rfl ?_
   refine pop_nil _ ?_
   refine pop_field 0 fld69_0 b_1 0 ?_
   refine rop_loc one22 hL 0 rfl 0 (v := (Sl.v c0_1)) rfl ?_
   refine pop_len c0_1 _ _ sli22 ?_
   refine pop_lss .i64 c0_2 (c0_1.n : Int) ?_
   refine condM_b (fun hb_1 => ?_) (fun hb_1 => ?_)
   rotate_left
   ·have H := H.2 hb_1
    exact ⟨0, rfl, H, hL⟩
   have H := H.1 hb_1
   refine pop_nil _ ?_
   refine pop_field 0 fld69_0 b_1 0 ?_
   refine rop_loc one22 hL 0 rfl 0 (v := (Sl.v c0_1)) rfl ?_
   refine pop_nil _ ?_
   refine pop_field 1 fld69_1 b_1 0 ?_
   refine rop_loc one3 hL 0 rfl 1 (v := (VI c0_2)) rfl ?_
   obtain ⟨hi_1, H⟩ := H
   refine pop_index sli22 siz5 .i64 c0_1 c0_2 hi_1 ?_
   obtain ⟨t23_1, hc_1, H⟩ := H
   refine rop_one one5 (Value.int .u8 t23_1) hc_1 ?_
   refine H.mono fun rv_1 H => ?_
   obtain ⟨t24_1, rfl, H⟩ := H
   exact ⟨t24_1, rfl, H, hL⟩
  intro junk_1 tv_1 h_1
  rintro ⟨x_1, hv, hJ_1, hL_1⟩
  cases hv
  have H := HB_1 x_1 h_1 hJ_1 hL_1
  refine pop_nil _ ?_
  refine pop_field 1 fld69_1 b_1 0 ?_
  refine rop_loc one3 hL_1 0 rfl 1 (v := (VI c0_2)) rfl ?_
  refine pop_add .i64 c0_2 1 ?_
  refine pop_nil _ ?_
  refine pop_field 1 fld69_1 b_1 0 ?_
  refine uop_loc siz3 hL_1 0 rfl 1 [(VI (w64 (c0_2 + 1)))] rfl rfl rfl (Nat.le_of_ble_eq_true rfl) (L' := [(b_1, [(Sl.v c0_1), (VI (w64 (c0_2 + 1))), (Value.int .u64 c0_3)])]) rfl (fun h_2 hf_1 hL_2 => ?_)
  refine pop_nil _ ?_
  refine pop_field 2 fld69_2 b_1 0 ?_
  refine rop_loc one67 hL_2 0 rfl 2 (v := (Value.int .u64 c0_3)) rfl ?_
  refine pop_mul .u64 c0_3 6364136223846793005 ?_
  have H := H  h_2  (Fr.old (Fr.r (In []) _) hf_1) hL_2
  refine H.mono fun rv_2 H => ?_
  obtain ⟨t39_1, rfl, H⟩ := H
  refine pop_add .u64 (IntKind.wrap .u64 (c0_3 * 6364136223846793005)) t39_1 ?_
  refine pop_add .u64 (IntKind.wrap .u64 ((IntKind.wrap .u64 (c0_3 * 6364136223846793005)) + t39_1)) 1442695040888963407 ?_
  refine pop_nil _ ?_
  refine pop_field 2 fld69_2 b_1 0 ?_
  refine uop_loc siz67 hL_2 0 rfl 2 [(Value.int .u64 (IntKind.wrap .u64 ((IntKind.wrap .u64 ((IntKind.wrap .u64 (c0_3 * 6364136223846793005)) + t39_1)) + 1442695040888963407)))] rfl rfl rfl (Nat.le_of_ble_eq_true rfl) (L' := [(b_1, [(Sl.v c0_1), (VI (w64 (c0_2 + 1))), (Value.int .u64 (IntKind.wrap .u64 ((IntKind.wrap .u64 ((IntKind.wrap .u64 (c0_3 * 6364136223846793005)) + t39_1)) + 1442695040888963407)))])]) rfl (fun h_3 hf_2 hL_3 => ?_)
  refine pop_nil _ ?_
  refine pop_field 1 fld69_1 b_1 0 ?_
  refine rop_loc one3 hL_3 0 rfl 1 (v := (VI (w64 (c0_2 + 1)))) rfl ?_
  refine pop_nil _ ?_
  refine pop_field 0 fld69_0 b_1 0 ?_
  refine rop_loc one22 hL_3 0 rfl 0 (v := (Sl.v c0_1)) rfl ?_
  refine pop_len c0_1 _ _ sli22 ?_
  refine pop_leq .i64 (w64 (c0_2 + 1)) (c0_1.n : Int) ?_
  refine condM_b (fun hb_2 => ?_) (fun hb_2 => ?_)
  ·have H := H.1 hb_2
   have H := H  h_3  (Fr.old (Fr.r (In []) _) hf_2) hL_3
   exact H
  have H := H.2 hb_2
  refine pop_nil _ ?_
  refine pop_field 2 fld69_2 b_1 0 ?_
  refine rop_loc one67 hL_3 0 rfl 2 (v := (Value.int .u64 (IntKind.wrap .u64 ((IntKind.wrap .u64 ((IntKind.wrap .u64 (c0_3 * 6364136223846793005)) + t39_1)) + 1442695040888963407)))) rfl ?_
  refine H.mono fun rv_3 H => ?_
  obtain ⟨t59_1, rfl, H⟩ := H
  refine H.mono fun rv_4 H => ?_
  obtain ⟨t60_1, rfl, H⟩ := H
  have H := H  h_3  (Fr.old (Fr.r (In []) _) hf_2) hL_3
  refine H.mono fun rv_5 H => ?_
  obtain ⟨t61_1, rfl, H⟩ := H
  exact H

/-! spec.grGood -/
def u120 (P : Program) (g0_1 : Sl) (h : Heap) (K : Value → Heap → Prop) : Prop :=
  ∀ (b_1 : Nat) (h_1 : Heap), h.size ≤ b_1 → Fr (In []) h h_1 → Vars h_1 [(b_1, [(Sl.v g0_1)])] →
  callM P 73 #[(VI (g0_1.n : Int)), (VI 1), (VI 8)] h_1 fun rv_1 h_2 => ∃ t10_1 : Bool, rv_1 = (VB t10_1) ∧ Vars h_2 [(b_1, [(Sl.v g0_1)])] ∧
  ((!t10_1) = true →
  K (VB false) h_2) ∧
  ((!t10_1) = false →
  ∃ J_1 : Nat → Int → Heap → Prop, (∃ n0 : Nat, J_1 n0 0 h_2) ∧
  ∀ (n_1 : Nat) (t15_1 : Int) (h_3 : Heap), J_1 n_1 t15_1 h_3 → Vars h_3 [(b_1, [(Sl.v g0_1)])] →
  ((decide (t15_1 < (g0_1.n : Int))) = true →
  InB g0_1 t15_1 ∧
  ∃ t18_1 : Sl, hcell h_3 (Sl.at g0_1 t15_1 1) = some (Sl.v t18_1) ∧
  ((decide (5 < (t18_1.n : Int))) = true →
  K (VB false) h_3) ∧
  ((decide (5 < (t18_1.n : Int))) = false →
  callM P 108 #[(Sl.v t18_1), (VI 0), (VI (w64 ((g0_1.n : Int) - 1)))] h_3 fun rv_2 h_4 => ∃ t26_1 : Bool, rv_2 = (VB t26_1) ∧ Vars h_4 [(b_1, [(Sl.v g0_1)])] ∧
  ((!t26_1) = true →
  K (VB false) h_4) ∧
  ((!t26_1) = false →
  ∃ m : Nat, m < n_1 ∧ J_1 m (w64 (t15_1 + 1)) h_4))) ∧
  ((decide (t15_1 < (g0_1.n : Int))) = false →
  K (VB true) h_3))
theorem v120 (g0_1 : Sl) (h : Heap) (K : Value → Heap → Prop) (H : u120 Try.prog g0_1 h K) : callM Try.prog 120 #[(Value.agg #[(Sl.v g0_1)])] h K := by
  refine c120 (Value.agg #[(Sl.v g0_1)]) h K ?_
  unfold u120 at H
  unfold t120
  have hL : Vars h [] := .nil
  refine eop_box 26 (Value.agg #[(Sl.v g0_1)]) rfl hL (fun b_1 h_1 hb_1 hf_1 hL_1 => ?_)
  refine pop_field 0 fld26_0 b_1 0 ?_
  refine rop_loc one24 hL_1 0 rfl 0 (v := (Sl.v g0_1)) rfl ?_
  refine pop_len g0_1 _ _ sli24 ?_
  have H := H b_1 h_1 (Nat.le_trans (Fr.size (Fr.r (In []) _)) hb_1) (Fr.no' (Fr.r (In []) _) hf_1) hL_1
  refine H.mono fun rv_1 h_2 H => ?_
  obtain ⟨t10_1, rfl, hL_2, H⟩ := H
  refine pop_not t10_1 ?_
  refine condM_b (fun hb_2 => ?_) (fun hb_2 => ?_)
  ·have H := H.1 hb_2
   exact H
  have H := H.2 hb_2
  refine pop_field 0 fld26_0 b_1 0 ?_
  refine rop_loc one24 hL_2 0 rfl 0 (v := (Sl.v g0_1)) rfl ?_
  refine pop_len g0_1 _ _ sli24 ?_
  obtain ⟨J_1, ⟨n_2, h0_1⟩, HB_1⟩ := H
  refine loop_intro (J := fun (n : Nat) (vs : List Value) (h' : Heap) => ∃ t15_1 : Int, vs = [(VI t15_1)] ∧ J_1 n t15_1 h' ∧ Vars h' [(b_1, [(Sl.v g0_1)])]) n_2 ⟨0, rfl, h0_1, hL_2⟩ ?_
  intro I_1 mu_1 hI_1 junk_1 tv_1 h_3 hi_1
  obtain ⟨n_1, ⟨t15_1, hv, hJ_1, hL_3⟩, hn_1⟩ := hI_1 _ _ hi_1
  cases hv
  have H := HB_1 n_1 t15_1 h_3 hJ_1 hL_3
  refine pop_lss .i64 t15_1 (g0_1.n : Int) ?_
  refine condM_b (fun hb_3 => ?_) (fun hb_3 => ?_)
  rotate_left
  ·have H := H.2 hb_3
   exact H
  have H := H.1 hb_3
  obtain ⟨hi_2, H⟩ := H
  refine pop_index sli24 siz37 .i64 g0_1 t15_1 hi_2 ?_
  obtain ⟨t18_1, hc_1, H⟩ := H
  refine rop_one one37 (Sl.v t18_1) hc_1 ?_
  refine pop_len t18_1 _ _ sli37 ?_
  refine pop_gtr .i64 (t18_1.n : Int) 5 ?_
  refine guardM_sf (fun hb_4 => ?_) (fun hb_4 => ?_)
  rotate_left
  ·have H := H.1 hb_4
   refine guardM_n' hb_4 (by decide) ?_
   refine guardM_n' hb_4 (by decide) ?_
   refine guardM_n' hb_4 (by decide) ?_
   refine guardM_n' hb_4 (by decide) ?_
   refine pop_pickt' hb_4 ?_
   refine condM_t ?_
   exact H
  have H := H.2 hb_4
  refine guardM_y' hb_4 ?_
  refine guardM_y' hb_4 ?_
  refine pop_sub .i64 (g0_1.n : Int) 1 ?_
  refine guardM_y' hb_4 ?_
  refine H.mono fun rv_2 h_4 H => ?_
  obtain ⟨t26_1, rfl, hL_4, H⟩ := H
  refine guardM_y' hb_4 ?_
  refine pop_not t26_1 ?_
  refine pop_pickf' hb_4 ?_
  refine condM_b (fun hb_5 => ?_) (fun hb_5 => ?_)
  ·have H := H.1 hb_5
   exact H
  have H := H.2 hb_5
  refine pop_add .i64 t15_1 1 ?_
  obtain ⟨m_1, hm_1, H⟩ := H
  exact hn_1 _ _ ⟨m_1, hm_1, (w64 (t15_1 + 1)), rfl, H, hL_4⟩

/-! spec.l1Own -/
def u121 (P : Program) (l0_1 : Sl) (h : Heap) (K : Value → Heap → Prop) : Prop :=
  eop P (Instr.buildSlice 37 0 #[]) h fun rv_1 h_1 => ∃ t3_1 : Sl, rv_1 = (Sl.v t3_1) ∧ Vars h_1 [] ∧
  eop P (appS 37 37 37 (Sl.v t3_1) (Sl.v l0_1)) h_1 fun rv_2 h_2 => ∃ t5_1 : Sl, rv_2 = (Sl.v t5_1) ∧ Vars h_2 [] ∧
  K (Sl.v t5_1) h_2
theorem v121 (l0_1 : Sl) (h : Heap) (K : Value → Heap → Prop) (H : u121 Try.prog l0_1 h K) : callM Try.prog 121 #[(Sl.v l0_1)] h K := by
  refine c121 (Sl.v l0_1) h K ?_
  unfold u121 at H
  unfold t121
  have hL : Vars h [] := .nil
  refine H.mono fun rv_1 h_1 H => ?_
  obtain ⟨t3_1, rfl, hL_1, H⟩ := H
  refine H.mono fun rv_2 h_2 H => ?_
  obtain ⟨t5_1, rfl, hL_2, H⟩ := H
  exact H

/-! (*spec.l1Cur).sureWalk -/
def u122 (P : Program) (b_1 : Nat) (c0_1 : Sl) (c0_2 : Int) (c0_3 : Int) (g1_1 : Sl) (h : Heap) (K : Value → Heap → Prop) : Prop :=
  ∀ (b_2 : Nat) (b_3 : Nat) (h_2 : Heap), h.size ≤ b_2 → h.size ≤ b_3 → Fr (In []) h h_2 → Vars h_2 [(b_3, [(Sl.v nilSl), (VI 0)]), (b_2, [(Sl.v g1_1)]), (b_1, [(Sl.v c0_1), (VI c0_2), (Value.int .u64 c0_3)])] →
  callM P 70 #[(VP b_1 0), (VI (g1_1.n : Int))] h_2 fun rv_1 h_3 => ∃ x_1 : Sl, ∃ x_2 : Int, ∃ x_3 : Int, ∃ t13_1 : Int, rv_1 = (VI t13_1) ∧ Vars h_3 [(b_3, [(Sl.v nilSl), (VI 0)]), (b_2, [(Sl.v g1_1)]), (b_1, [(Sl.v x_1), (VI x_2), (Value.int .u64 x_3)])] ∧
  ∀ (b_4 : Nat) (h_5 : Heap), h_3.size ≤ b_4 → Fr (In []) h_3 h_5 → Vars h_5 [(b_4, [(Sl.v nilSl), (VI t13_1)]), (b_3, [(Sl.v nilSl), (VI 0)]), (b_2, [(Sl.v g1_1)]), (b_1, [(Sl.v x_1), (VI x_2), (Value.int .u64 x_3)])] →
  ∃ J_1 : Nat → Int → Sl → Int → Sl → Int → Int → Heap → Prop, (∃ n0 : Nat, J_1 n0 0 nilSl t13_1 x_1 x_2 x_3 h_5) ∧
  ∀ (n_1 : Nat) (t18_1 : Int) (x_4 : Sl) (x_5 : Int) (x_6 : Sl) (x_7 : Int) (x_8 : Int) (h_6 : Heap), J_1 n_1 t18_1 x_4 x_5 x_6 x_7 x_8 h_6 → Vars h_6 [(b_4, [(Sl.v x_4), (VI x_5)]), (b_3, [(Sl.v nilSl), (VI 0)]), (b_2, [(Sl.v g1_1)]), (b_1, [(Sl.v x_6), (VI x_7), (Value.int .u64 x_8)])] →
  ((decide (t18_1 < (g1_1.n : Int))) = true →
  InB g1_1 t18_1 ∧
  ∃ t21_1 : Sl, hcell h_6 (Sl.at g1_1 t18_1 1) = some (Sl.v t21_1) ∧
  ∃ J_2 : Int → Sl → Int → Int → Heap → Prop, (((decide (0 < (t21_1.n : Int))) = true →
  callM P 70 #[(VP b_1 0), (VI (t21_1.n : Int))] h_6 fun rv_2 h_7 => ∃ x_13 : Sl, ∃ x_14 : Int, ∃ x_15 : Int, ∃ t28_1 : Int, rv_2 = (VI t28_1) ∧ Vars h_7 [(b_4, [(Sl.v x_4), (VI x_5)]), (b_3, [(Sl.v nilSl), (VI 0)]), (b_2, [(Sl.v g1_1)]), (b_1, [(Sl.v x_13), (VI x_14), (Value.int .u64 x_15)])] ∧
  J_2 t28_1 x_13 x_14 x_15 h_7) ∧
  ((decide (0 < (t21_1.n : Int))) = false →
  J_2 0 x_6 x_7 x_8 h_6)) ∧
  ∀ (x_9 : Int) (x_10 : Sl) (x_11 : Int) (x_12 : Int) (h_8 : Heap), J_2 x_9 x_10 x_11 x_12 h_8 → Vars h_8 [(b_4, [(Sl.v x_4), (VI x_5)]), (b_3, [(Sl.v nilSl), (VI 0)]), (b_2, [(Sl.v g1_1)]), (b_1, [(Sl.v x_10), (VI x_11), (Value.int .u64 x_12)])] →
  eop P (Instr.buildSlice 37 1 #[(0, (VI x_9))]) h_8 fun rv_3 h_9 => ∃ t32_1 : Sl, rv_3 = (Sl.v t32_1) ∧ Vars h_9 [(b_4, [(Sl.v x_4), (VI x_5)]), (b_3, [(Sl.v nilSl), (VI 0)]), (b_2, [(Sl.v g1_1)]), (b_1, [(Sl.v x_10), (VI x_11), (Value.int .u64 x_12)])] ∧
  eop P (appS 37 37 37 (Sl.v x_4) (Sl.v t32_1)) h_9 fun rv_4 h_10 => ∃ t33_1 : Sl, rv_4 = (Sl.v t33_1) ∧ Vars h_10 [(b_4, [(Sl.v x_4), (VI x_5)]), (b_3, [(Sl.v nilSl), (VI 0)]), (b_2, [(Sl.v g1_1)]), (b_1, [(Sl.v x_10), (VI x_11), (Value.int .u64 x_12)])] ∧
  ∀ (h_11 : Heap), Fr (In [b_4]) h_10 h_11 → Vars h_11 [(b_4, [(Sl.v t33_1), (VI x_5)]), (b_3, [(Sl.v nilSl), (VI 0)]), (b_2, [(Sl.v g1_1)]), (b_1, [(Sl.v x_10), (VI x_11), (Value.int .u64 x_12)])] →
  ∃ m : Nat, m < n_1 ∧ J_1 m (w64 (t18_1 + 1)) t33_1 x_5 x_10 x_11 x_12 h_11) ∧
  ((decide (t18_1 < (g1_1.n : Int))) = false →
  ∀ (h_12 : Heap), Fr (In [b_3]) h_6 h_12 → Vars h_12 [(b_4, [(Sl.v x_4), (VI x_5)]), (b_3, [(Sl.v x_4), (VI x_5)]), (b_2, [(Sl.v g1_1)]), (b_1, [(Sl.v x_6), (VI x_7), (Value.int .u64 x_8)])] →
  K (Value.agg #[(Sl.v x_4), (VI x_5)]) h_12)
theorem v122 (b_1 : Nat) (c0_1 : Sl) (c0_2 : Int) (c0_3 : Int) (g1_1 : Sl) (h : Heap) (K : Value → Heap → Prop) (hL : Vars h [(b_1, [(Sl.v c0_1), (VI c0_2), (Value.int .u64 c0_3)])]) (H : u122 Try.prog b_1 c0_1 c0_2 c0_3 g1_1 h K) : callM Try.prog 122 #[(VP b_1 0), (Value.agg #[(Sl.v g1_1)])] h K := by
  refine c122 (VP b_1 0) (Value.agg #[(Sl.v g1_1)]) h K ?_
  unfold u122 at H
  unfold t122
  refine eop_box 26 (Value.agg #[(Sl.v g1_1)]) rfl hL (fun b_2 h_1 hb_1 hf_1 hL_1 => ?_)
  refine eop_alloc 114 zer114 rfl hL_1 (fun b_3 h_2 hb_2 hf_2 hL_2 => ?_)
  refine pop_field 0 fld26_0 b_2 0 ?_
  refine rop_loc one24 hL_2 1 rfl 0 (v := (Sl.v g1_1)) rfl ?_
  refine pop_len g1_1 _ _ sli24 ?_
  have H := H b_2 b_3 h_2 (Nat.le_trans (Fr.size (Fr.r (In []) _)) hb_1) (Nat.le_trans (Fr.size (Fr.no' (Fr.r (In []) _) hf_1)) hb_2) (Fr.no' (Fr.no' (Fr.r (In []) _) hf_1) hf_2) hL_2
  refine H.mono fun rv_1 h_3 H => ?_
  obtain ⟨x_1, x_2, x_3, t13_1, rfl, hL_3, H⟩ := H
  refine pop.mk' (v := (Value.agg #[(Sl.v nilSl), (VI t13_1)])) (fun w => by kernel_rfl) ?_
  refine eop_alloc 114 zer114 rfl hL_3 (fun b_4 h_4 hb_3 hf_3 hL_4 => ?_)
  refine uop_loc siz114 hL_4 0 rfl 0 [(Sl.v nilSl), (VI t13_1)] rfl rfl rfl (Nat.le_of_ble_eq_true rfl) (L' := [(b_4, [(Sl.v nilSl), (VI t13_1)]), (b_3, [(Sl.v nilSl), (VI 0)]), (b_2, [(Sl.v g1_1)]), (b_1, [(Sl.v x_1), (VI x_2), (Value.int .u64 x_3)])]) rfl (fun h_5 hf_4 hL_5 => ?_)
  refine pop_field 0 fld26_0 b_2 0 ?_
  refine rop_loc one24 hL_5 2 rfl 0 (v := (Sl.v g1_1)) rfl ?_
  refine pop_len g1_1 _ _ sli24 ?_
  have H := H b_4 h_5 (Nat.le_trans (Fr.size (Fr.r (In []) _)) hb_3) (Fr.new (Fr.no' (Fr.r (In []) _) hf_3) (Nat.le_trans (Fr.size (Fr.r (In []) _)) hb_3) hf_4) hL_5
  obtain ⟨J_1, ⟨n_2, h0_1⟩, HB_2⟩ := H
  refine loop_intro (J := fun (n : Nat) (vs : List Value) (h' : Heap) => ∃ t18_1 : Int, ∃ x_4 : Sl, ∃ x_5 : Int, ∃ x_6 : Sl, ∃ x_7 : Int, ∃ x_8 : Int, vs = [(VI t18_1)] ∧ J_1 n t18_1 x_4 x_5 x_6 x_7 x_8 h' ∧ Vars h' [(b_4, [(Sl.v x_4), (VI x_5)]), (b_3, [(Sl.v nilSl), (VI 0)]), (b_2, [(Sl.v g1_1)]), (b_1, [(Sl.v x_6), (VI x_7), (Value.int .u64 x_8)])]) n_2 ⟨0, nilSl, t13_1, x_1, x_2, x_3, rfl, h0_1, hL_5⟩ ?_
  intro I_1 mu_1 hI_1 junk_1 tv_2 h_6 hi_1
  obtain ⟨n_1, ⟨t18_1, x_4, x_5, x_6, x_7, x_8, hv, hJ_1, hL_6⟩, hn_1⟩ := hI_1 _ _ hi_1
  cases hv
  have H := HB_2 n_1 t18_1 x_4 x_5 x_6 x_7 x_8 h_6 hJ_1 hL_6
  refine pop_lss .i64 t18_1 (g1_1.n : Int) ?_
  refine condM_b (fun hb_4 => ?_) (fun hb_4 => ?_)
  rotate_left
  ·have H := H.2 hb_4
   refine rop_locA agg114 hL_6 0 rfl 0 (vs := [(Sl.v x_4), (VI x_5)]) rfl rfl ?_
   refine uop_loc siz114 hL_6 1 rfl 0 [(Sl.v x_4), (VI x_5)] rfl rfl rfl (Nat.le_of_ble_eq_true rfl) (L' := [(b_4, [(Sl.v x_4), (VI x_5)]), (b_3, [(Sl.v x_4), (VI x_5)]), (b_2, [(Sl.v g1_1)]), (b_1, [(Sl.v x_6), (VI x_7), (Value.int .u64 x_8)])]) rfl (fun h_12 hf_6 hL_12 => ?_)
   refine rop_locA agg114 hL_12 1 rfl 0 (vs := [(Sl.v x_4), (VI x_5)]) rfl rfl ?_
   have H := H  h_12  (Fr.old (Fr.r (In []) _) hf_6) hL_12
   exact H
  have H := H.1 hb_4
  obtain ⟨hi_2, H⟩ := H
  refine pop_index sli24 siz37 .i64 g1_1 t18_1 hi_2 ?_
  obtain ⟨t21_1, hc_1, H⟩ := H
  refine rop_one one37 (Sl.v t21_1) hc_1 ?_
  obtain ⟨J_2, H, HB_1⟩ := H
  refine ⟨fun (vs : List Value) (h' : Heap) => ∃ x_9 : Int, ∃ x_10 : Sl, ∃ x_11 : Int, ∃ x_12 : Int, vs = [(VI x_9)] ∧ J_2 x_9 x_10 x_11 x_12 h' ∧ Vars h' [(b_4, [(Sl.v x_4), (VI x_5)]), (b_3, [(Sl.v nilSl), (VI 0)]), (b_2, [(Sl.v g1_1)]), (b_1, [(Sl.v x_10), (VI x_11), (Value.int .u64 x_12)])], ?_, ?_⟩
  ·refine pop_len t21_1 _ _ sli37 ?_
   refine pop_gtr .i64 (t21_1.n : Int) 0 ?_
   refine condM_b (fun hb_5 => ?_) (fun hb_5 => ?_)
   rotate_left
   ·have H := H.2 hb_5
    exact ⟨0, x_6, x_7, x_8, rfl, H, hL_6⟩
   have H := H.1 hb_5
   refine pop_len t21_1 _ _ sli37 ?_
   refine H.mono fun rv_2 h_7 H => ?_
   obtain ⟨x_13, x_14, x_15, t28_1, rfl, hL_7, H⟩ := H
   exact ⟨t28_1, x_13, x_14, x_15, rfl, H, hL_7⟩
  intro junk_2 tv_1 h_8
  rintro ⟨x_9, x_10, x_11, x_12, hv, hJ_2, hL_8⟩
  cases hv
  have H := HB_1 x_9 x_10 x_11 x_12 h_8 hJ_2 hL_8
  refine pop_field 0 fld114_0 b_4 0 ?_
  refine rop_loc one37 hL_8 0 rfl 0 (v := (Sl.v x_4)) rfl ?_
  refine H.mono fun rv_3 h_9 H => ?_
  obtain ⟨t32_1, rfl, hL_9, H⟩ := H
  refine H.mono fun rv_4 h_10 H => ?_
  obtain ⟨t33_1, rfl, hL_10, H⟩ := H
  refine pop_field 0 fld114_0 b_4 0 ?_
  refine uop_loc siz37 hL_10 0 rfl 0 [(Sl.v t33_1)] rfl rfl rfl (Nat.le_of_ble_eq_true rfl) (L' := [(b_4, [(Sl.v t33_1), (VI x_5)]), (b_3, [(Sl.v nilSl), (VI 0)]), (b_2, [(Sl.v g1_1)]), (b_1, [(Sl.v x_10), (VI x_11), (Value.int .u64 x_12)])]) rfl (fun h_11 hf_5 hL_11 => ?_)
  refine pop_add .i64 t18_1 1 ?_
  have H := H  h_11  (Fr.old (Fr.r (In []) _) hf_5) hL_11
  obtain ⟨m_1, hm_1, H⟩ := H
  exact hn_1 _ _ ⟨m_1, hm_1, (w64 (t18_1 + 1)), t33_1, x_5, x_10, x_11, x_12, rfl, H, hL_11⟩

/-! impl.areRotors -/
def u123 (P : Program) (g0_1 : Sl) (rotors1_1 : Sl) (h : Heap) (K : Value → Heap → Prop) : Prop :=
  ∀ (b_1 : Nat) (h_1 : Heap), h.size ≤ b_1 → Fr (In []) h h_1 → Vars h_1 [(b_1, [(Sl.v g0_1)])] →
  callM P 139 #[(Value.agg #[(Sl.v g0_1)]), (Value.agg #[(Sl.v rotors1_1), (VI 0)])] h_1 fun rv_1 h_2 => ∃ t8_1 : Bool, rv_1 = (VB t8_1) ∧ Vars h_2 [(b_1, [(Sl.v g0_1)])] ∧
  K (VB t8_1) h_2
theorem v123 (g0_1 : Sl) (rotors1_1 : Sl) (h : Heap) (K : Value → Heap → Prop) (H : u123 Try.prog g0_1 rotors1_1 h K) : callM Try.prog 123 #[(Value.agg #[(Sl.v g0_1)]), (Sl.v rotors1_1)] h K := by
  refine c123 (Value.agg #[(Sl.v g0_1)]) (Sl.v rotors1_1) h K ?_
  unfold u123 at H
  unfold t123
  have hL : Vars h [] := .nil
  refine eop_box 26 (Value.agg #[(Sl.v g0_1)]) rfl hL (fun b_1 h_1 hb_1 hf_1 hL_1 => ?_)
  refine rop_locA agg26 hL_1 0 rfl 0 (vs := [(Sl.v g0_1)]) rfl rfl ?_
  refine pop.mk' (v := (Value.agg #[(Sl.v rotors1_1), (VI 0)])) (fun w => by kernel_rfl) ?_
  have H := H b_1 h_1 (Nat.le_trans (Fr.size (Fr.r (In []) _)) hb_1) (Fr.no' (Fr.r (In []) _) hf_1) hL_1
  refine H.mono fun rv_1 h_2 H => ?_
  obtain ⟨t8_1, rfl, hL_2, H⟩ := H
  exact H

/-! spec.waGood -/
def u125 (P : Program) (g0_1 : Sl) (w1_1 : Sl) (w1_2 : Int) (h : Heap) (K : Value → Heap → Prop) : Prop :=
  ∀ (b_1 : Nat) (b_2 : Nat) (h_2 : Heap), h.size ≤ b_1 → h.size ≤ b_2 → Fr (In []) h h_2 → Vars h_2 [(b_2, [(Sl.v w1_1), (VI w1_2)]), (b_1, [(Sl.v g0_1)])] →
  callM P 72 #[(Value.agg #[(Sl.v g0_1)]), (VI w1_2)] h_2 fun rv_1 h_3 => ∃ t10_1 : Bool, rv_1 = (VB t10_1) ∧ Vars h_3 [(b_2, [(Sl.v w1_1), (VI w1_2)]), (b_1, [(Sl.v g0_1)])] ∧
  ((!t10_1) = true →
  K (VB false) h_3) ∧
  ((!t10_1) = false →
  ((!decide ((w1_1.n : Int) = (g0_1.n : Int))) = true →
  K (VB false) h_3) ∧
  ((!decide ((w1_1.n : Int) = (g0_1.n : Int))) = false →
  ∃ J_1 : Nat → Int → Heap → Prop, (∃ n0 : Nat, J_1 n0 0 h_3) ∧
  ∀ (n_1 : Nat) (t24_1 : Int) (h_4 : Heap), J_1 n_1 t24_1 h_4 → Vars h_4 [(b_2, [(Sl.v w1_1), (VI w1_2)]), (b_1, [(Sl.v g0_1)])] →
  ((decide (t24_1 < (g0_1.n : Int))) = true →
  InB g0_1 t24_1 ∧
  ∃ t28_1 : Sl, hcell h_4 (Sl.at g0_1 t24_1 1) = some (Sl.v t28_1) ∧
  InB w1_1 t24_1 ∧
  ∃ t33_1 : Int, hcell h_4 (Sl.at w1_1 t24_1 1) = some (VI t33_1) ∧
  callM P 126 #[(VI 0), (VI (w64 ((t28_1.n : Int) - 1)))] h_4 fun rv_2 h_5 => ∃ t37_1 : Int, rv_2 = (VI t37_1) ∧ Vars h_5 [(b_2, [(Sl.v w1_1), (VI w1_2)]), (b_1, [(Sl.v g0_1)])] ∧
  hcell h_5 (Sl.at w1_1 t24_1 1) = some (VI t33_1) ∧
  callM P 73 #[(VI t33_1), (VI 0), (VI t37_1)] h_5 fun rv_3 h_6 => ∃ t38_1 : Bool, rv_3 = (VB t38_1) ∧ Vars h_6 [(b_2, [(Sl.v w1_1), (VI w1_2)]), (b_1, [(Sl.v g0_1)])] ∧
  ((!t38_1) = true →
  K (VB false) h_6) ∧
  ((!t38_1) = false →
  ∃ m : Nat, m < n_1 ∧ J_1 m (w64 (t24_1 + 1)) h_6)) ∧
  ((decide (t24_1 < (g0_1.n : Int))) = false →
  K (VB true) h_4)))
theorem v125 (g0_1 : Sl) (w1_1 : Sl) (w1_2 : Int) (h : Heap) (K : Value → Heap → Prop) (H : u125 Try.prog g0_1 w1_1 w1_2 h K) : callM Try.prog 125 #[(Value.agg #[(Sl.v g0_1)]), (Value.agg #[(Sl.v w1_1), (VI w1_2)])] h K := by
  refine c125 (Value.agg #[(Sl.v g0_1)]) (Value.agg #[(Sl.v w1_1), (VI w1_2)]) h K ?_
  unfold u125 at H
  unfold t125
  have hL : Vars h [] := .nil
  refine eop_box 26 (Value.agg #[(Sl.v g0_1)]) rfl hL (fun b_1 h_1 hb_1 hf_1 hL_1 => ?_)
  refine eop_box 114 (Value.agg #[(Sl.v w1_1), (VI w1_2)]) rfl hL_1 (fun b_2 h_2 hb_2 hf_2 hL_2 => ?_)
  refine rop_locA agg26 hL_2 1 rfl 0 (vs := [(Sl.v g0_1)]) rfl rfl ?_
  refine pop_field 1 fld114_1 b_2 0 ?_
  refine rop_loc one3 hL_2 0 rfl 1 (v := (VI w1_2)) rfl ?_
  have H := H b_1 b_2 h_2 (Nat.le_trans (Fr.size (Fr.r (In []) _)) hb_1) (Nat.le_trans (Fr.size (Fr.no' (Fr.r (In []) _) hf_1)) hb_2) (Fr.no' (Fr.no' (Fr.r (In []) _) hf_1) hf_2) hL_2
  refine H.mono fun rv_1 h_3 H => ?_
  obtain ⟨t10_1, rfl, hL_3, H⟩ := H
  refine pop_not t10_1 ?_
  refine guardM_sf (fun hb_3 => ?_) (fun hb_3 => ?_)
  rotate_left
  ·have H := H.1 hb_3
   refine guardM_n' hb_3 (by decide) ?_
   refine guardM_n' hb_3 (by decide) ?_
   refine guardM_n' hb_3 (by decide) ?_
   refine guardM_n' hb_3 (by decide) ?_
   refine guardM_n' hb_3 (by decide) ?_
   refine guardM_n' hb_3 (by decide) ?_
   refine pop_pickt' hb_3 ?_
   refine condM_t ?_
   exact H
  have H := H.2 hb_3
  refine pop_field 0 fld114_0 b_2 0 ?_
  refine guardM_y' hb_3 ?_
  refine rop_loc one37 hL_3 0 rfl 0 (v := (Sl.v w1_1)) rfl ?_
  refine guardM_y' hb_3 ?_
  refine pop_len w1_1 _ _ sli37 ?_
  refine guardM_y' hb_3 ?_
  refine pop_field 0 fld26_0 b_1 0 ?_
  refine guardM_y' hb_3 ?_
  refine rop_loc one24 hL_3 1 rfl 0 (v := (Sl.v g0_1)) rfl ?_
  refine guardM_y' hb_3 ?_
  refine pop_len g0_1 _ _ sli24 ?_
  refine guardM_y' hb_3 ?_
  refine pop_ine .i64 _ _ (w1_1.n : Int) (g0_1.n : Int) ?_
  refine pop_pickf' hb_3 ?_
  refine condM_b (fun hb_4 => ?_) (fun hb_4 => ?_)
  ·have H := H.1 hb_4
   exact H
  have H := H.2 hb_4
  refine pop_field 0 fld26_0 b_1 0 ?_
  refine rop_loc one24 hL_3 1 rfl 0 (v := (Sl.v g0_1)) rfl ?_
  refine pop_len g0_1 _ _ sli24 ?_
  obtain ⟨J_1, ⟨n_2, h0_1⟩, HB_1⟩ := H
  refine loop_intro (J := fun (n : Nat) (vs : List Value) (h' : Heap) => ∃ t24_1 : Int, vs = [(VI t24_1)] ∧ J_1 n t24_1 h' ∧ Vars h' [(b_2, [(Sl.v w1_1), (VI w1_2)]), (b_1, [(Sl.v g0_1)])]) n_2 ⟨0, rfl, h0_1, hL_3⟩ ?_
  intro I_1 mu_1 hI_1 junk_1 tv_1 h_4 hi_1
  obtain ⟨n_1, ⟨t24_1, hv, hJ_1, hL_4⟩, hn_1⟩ := hI_1 _ _ hi_1
  cases hv
  have H := HB_1 n_1 t24_1 h_4 hJ_1 hL_4
  refine pop_lss .i64 t24_1 (g0_1.n : Int) ?_
  refine condM_b (fun hb_5 => ?_) (fun hb_5 => ?_)
  rotate_left
  ·have H := H.2 hb_5
   exact H
  have H := H.1 hb_5
  obtain ⟨hi_2, H⟩ := H
  refine pop_index sli24 siz37 .i64 g0_1 t24_1 hi_2 ?_
  obtain ⟨t28_1, hc_3, H⟩ := H
  refine rop_one one37 (Sl.v t28_1) hc_3 ?_
  refine pop_field 0 fld114_0 b_2 0 ?_
  refine rop_loc one37 hL_4 0 rfl 0 (v := (Sl.v w1_1)) rfl ?_
  obtain ⟨hi_3, H⟩ := H
  refine pop_index sli37 siz3 .i64 w1_1 t24_1 hi_3 ?_
  obtain ⟨t33_1, hc_2, H⟩ := H
  refine rop_one one3 (VI t33_1) hc_2 ?_
  refine pop_len t28_1 _ _ sli37 ?_
  refine pop_sub .i64 (t28_1.n : Int) 1 ?_
  refine H.mono fun rv_2 h_5 H => ?_
  obtain ⟨t37_1, rfl, hL_5, H⟩ := H
  refine ⟨?_, ?_⟩
  ·exact still_one one3 H.1
  obtain ⟨hc_1, H⟩ := H
  refine ⟨?_, ?_⟩
  ·exact still_loc one37 hL_5 0 rfl 0 (v := (Sl.v w1_1)) rfl
  refine H.mono fun rv_3 h_6 H => ?_
  obtain ⟨t38_1, rfl, hL_6, H⟩ := H
  refine ⟨?_, ?_⟩
  ·exact still_loc one37 hL_6 0 rfl 0 (v := (Sl.v w1_1)) rfl
  refine pop_not t38_1 ?_
  refine condM_b (fun hb_6 => ?_) (fun hb_6 => ?_)
  ·have H := H.1 hb_6
   exact H
  have H := H.2 hb_6
  refine pop_add .i64 t24_1 1 ?_
  obtain ⟨m_1, hm_1, H⟩ := H
  exact hn_1 _ _ ⟨m_1, hm_1, (w64 (t24_1 + 1)), rfl, H, hL_6⟩

/-! spec.l1Most -/
def u126 (P : Program) (a0_1 : Int) (b1_1 : Int) (h : Heap) (K : Value → Heap → Prop) : Prop :=
  ((decide (b1_1 < a0_1)) = true →
  K (VI a0_1) h) ∧
  ((decide (b1_1 < a0_1)) = false →
  K (VI b1_1) h)
theorem v126 (a0_1 : Int) (b1_1 : Int) (h : Heap) (K : Value → Heap → Prop) (H : u126 Try.prog a0_1 b1_1 h K) : callM Try.prog 126 #[(VI a0_1), (VI b1_1)] h K := by
  refine c126 (VI a0_1) (VI b1_1) h K ?_
  unfold u126 at H
  unfold t126
  have hL : Vars h [] := .nil
  refine pop_gtr .i64 a0_1 b1_1 ?_
  refine condM_b (fun hb_1 => ?_) (fun hb_1 => ?_)
  ·have H := H.1 hb_1
   exact H
  have H := H.2 hb_1
  exact H

/-! (*spec.l1Cur).sinking -/
def u127 (P : Program) (b_1 : Nat) (c0_1 : Sl) (c0_2 : Int) (c0_3 : Int) (h : Heap) (K : Value → Heap → Prop) : Prop :=
  ∀ (b_2 : Nat) (h_1 : Heap), h.size ≤ b_2 → Fr (In []) h h_1 → Vars h_1 [(b_2, [(Sl.v nilSl)]), (b_1, [(Sl.v c0_1), (VI c0_2), (Value.int .u64 c0_3)])] →
  callM P 68 #[(VP b_1 0)] h_1 fun rv_1 h_2 => ∃ x_1 : Sl, ∃ x_2 : Int, ∃ x_3 : Int, ∃ t6_1 : Sl, rv_1 = (Value.agg #[(Sl.v t6_1)]) ∧ Vars h_2 [(b_2, [(Sl.v nilSl)]), (b_1, [(Sl.v x_1), (VI x_2), (Value.int .u64 x_3)])] ∧
  ∀ (b_3 : Nat) (h_4 : Heap), h_2.size ≤ b_3 → Fr (In []) h_2 h_4 → Vars h_4 [(b_3, [(Sl.v t6_1)]), (b_2, [(Sl.v nilSl)]), (b_1, [(Sl.v x_1), (VI x_2), (Value.int .u64 x_3)])] →
  ∃ J_1 : Sl → Sl → Int → Int → Heap → Prop, (callM P 106 #[(VP b_1 0), (VI 3)] h_4 fun rv_2 h_5 => ∃ x_8 : Sl, ∃ x_9 : Int, ∃ x_10 : Int, ∃ t8_1 : Bool, rv_2 = (VB t8_1) ∧ Vars h_5 [(b_3, [(Sl.v t6_1)]), (b_2, [(Sl.v nilSl)]), (b_1, [(Sl.v x_8), (VI x_9), (Value.int .u64 x_10)])] ∧
  (t8_1 = true →
  callM P 109 #[(VP b_1 0)] h_5 fun rv_3 h_6 => ∃ x_11 : Sl, ∃ x_12 : Int, ∃ x_13 : Int, ∃ t10_1 : Sl, rv_3 = (Value.agg #[(Sl.v t10_1)]) ∧ Vars h_6 [(b_3, [(Sl.v t6_1)]), (b_2, [(Sl.v nilSl)]), (b_1, [(Sl.v x_11), (VI x_12), (Value.int .u64 x_13)])] ∧
  ∀ (h_7 : Heap), Fr (In [b_3]) h_6 h_7 → Vars h_7 [(b_3, [(Sl.v t10_1)]), (b_2, [(Sl.v nilSl)]), (b_1, [(Sl.v x_11), (VI x_12), (Value.int .u64 x_13)])] →
  J_1 t10_1 x_11 x_12 x_13 h_7) ∧
  (t8_1 = false →
  J_1 t6_1 x_8 x_9 x_10 h_5)) ∧
  ∀ (x_4 : Sl) (x_5 : Sl) (x_6 : Int) (x_7 : Int) (h_8 : Heap), J_1 x_4 x_5 x_6 x_7 h_8 → Vars h_8 [(b_3, [(Sl.v x_4)]), (b_2, [(Sl.v nilSl)]), (b_1, [(Sl.v x_5), (VI x_6), (Value.int .u64 x_7)])] →
  callM P 69 #[(VP b_1 0), (Value.agg #[(Sl.v x_4)])] h_8 fun rv_4 h_9 => ∃ x_14 : Sl, ∃ x_15 : Int, ∃ x_16 : Int, ∃ t14_1 : Int, rv_4 = (VI t14_1) ∧ Vars h_9 [(b_3, [(Sl.v x_4)]), (b_2, [(Sl.v nilSl)]), (b_1, [(Sl.v x_14), (VI x_15), (Value.int .u64 x_16)])] ∧
  ∀ (h_10 : Heap), Fr (In [b_2]) h_9 h_10 → Vars h_10 [(b_3, [(Sl.v x_4)]), (b_2, [(Sl.v x_4)]), (b_1, [(Sl.v x_14), (VI x_15), (Value.int .u64 x_16)])] →
  K (Value.tuple #[(Value.agg #[(Sl.v x_4)]), (VI t14_1)]) h_10
theorem v127 (b_1 : Nat) (c0_1 : Sl) (c0_2 : Int) (c0_3 : Int) (h : Heap) (K : Value → Heap → Prop) (hL : Vars h [(b_1, [(Sl.v c0_1), (VI c0_2), (Value.int .u64 c0_3)])]) (H : u127 Try.prog b_1 c0_1 c0_2 c0_3 h K) : callM Try.prog 127 #[(VP b_1 0)] h K := by
  refine c127 (VP b_1 0) h K ?_
  unfold u127 at H
  unfold t127
  refine eop_alloc 26 zer26 rfl hL (fun b_2 h_1 hb_1 hf_1 hL_1 => ?_)
  have H := H b_2 h_1 (Nat.le_trans (Fr.size (Fr.r (In []) _)) hb_1) (Fr.no' (Fr.r (In []) _) hf_1) hL_1
  refine H.mono fun rv_1 h_2 H => ?_
  obtain ⟨x_1, x_2, x_3, t6_1, rfl, hL_2, H⟩ := H
  refine eop_alloc 26 zer26 rfl hL_2 (fun b_3 h_3 hb_2 hf_2 hL_3 => ?_)
  refine uop_loc siz26 hL_3 0 rfl 0 [(Sl.v t6_1)] rfl rfl rfl (Nat.le_of_ble_eq_true rfl) (L' := [(b_3, [(Sl.v t6_1)]), (b_2, [(Sl.v nilSl)]), (b_1, [(Sl.v x_1), (VI x_2), (Value.int .u64 x_3)])]) rfl (fun h_4 hf_3 hL_4 => ?_)
  have H := H b_3 h_4 (Nat.le_trans (Fr.size (Fr.r (In []) _)) hb_2) (Fr.new (Fr.no' (Fr.r (In []) _) hf_2) (Nat.le_trans (Fr.size (Fr.r (In []) _)) hb_2) hf_3) hL_4
  obtain ⟨J_1, H, HB_1⟩ := H
  refine ⟨fun (vs : List Value) (h' : Heap) => ∃ x_4 : Sl, ∃ x_5 : Sl, ∃ x_6 : Int, ∃ x_7 : Int, vs = [] ∧ J_1 x_4 x_5 x_6 x_7 h' ∧ Vars h' [(b_3, [(Sl.v x_4)]), (b_2, [(Sl.v nilSl)]), (b_1, [(Sl.v x_5), (VI x_6), (Value.int .u64 x_7)])], ?_, ?_⟩
  ·refine H.mono fun rv_2 h_5 H => ?_
   obtain ⟨x_8, x_9, x_10, t8_1, rfl, hL_5, H⟩ := H
   refine condM_b (fun hb_3 => ?_) (fun hb_3 => ?_)
   rotate_left
   ·have H := H.2 hb_3
    exact ⟨t6_1, x_8, x_9, x_10, rfl, H, hL_5⟩
   have H := H.1 hb_3
   refine H.mono fun rv_3 h_6 H => ?_
   obtain ⟨x_11, x_12, x_13, t10_1, rfl, hL_6, H⟩ := H
   refine uop_loc siz26 hL_6 0 rfl 0 [(Sl.v t10_1)] rfl rfl rfl (Nat.le_of_ble_eq_true rfl) (L' := [(b_3, [(Sl.v t10_1)]), (b_2, [(Sl.v nilSl)]), (b_1, [(Sl.v x_11), (VI x_12), (Value.int .u64 x_13)])]) rfl (fun h_7 hf_4 hL_7 => ?_)
   have H := H  h_7  (Fr.old (Fr.r (In []) _) hf_4) hL_7
   exact ⟨t10_1, x_11, x_12, x_13, rfl, H, hL_7⟩
  intro junk_1  h_8
  rintro ⟨x_4, x_5, x_6, x_7, hv, hJ_1, hL_8⟩
  have H := HB_1 x_4 x_5 x_6 x_7 h_8 hJ_1 hL_8
  refine rop_locA agg26 hL_8 0 rfl 0 (vs := [(Sl.v x_4)]) rfl rfl ?_
  refine rop_locA agg26 hL_8 0 rfl 0 (vs := [(Sl.v x_4)]) rfl rfl ?_
  refine H.mono fun rv_4 h_9 H => ?_
  obtain ⟨x_14, x_15, x_16, t14_1, rfl, hL_9, H⟩ := H
  refine ⟨?_, ?_⟩
  ·exact still_locA agg26 hL_9 0 rfl 0 (vs := [(Sl.v x_4)]) rfl rfl
  refine uop_loc siz26 hL_9 1 rfl 0 [(Sl.v x_4)] rfl rfl rfl (Nat.le_of_ble_eq_true rfl) (L' := [(b_3, [(Sl.v x_4)]), (b_2, [(Sl.v x_4)]), (b_1, [(Sl.v x_14), (VI x_15), (Value.int .u64 x_16)])]) rfl (fun h_10 hf_5 hL_10 => ?_)
  refine rop_locA agg26 hL_10 1 rfl 0 (vs := [(Sl.v x_4)]) rfl rfl ?_
  have H := H  h_10  (Fr.old (Fr.r (In []) _) hf_5) hL_10
  exact H

/-! (impl.Graph).allRotors -/
def u129 (P : Program) (g0_1 : Sl) (still1_1 : Int) (with2_1 : Value) (h : Heap) (K : Value → Heap → Prop) : Prop :=
  ∀ (b_1 : Nat) (h_1 : Heap), h.size ≤ b_1 → Fr (In []) h h_1 → Vars h_1 [(b_1, [(Sl.v g0_1)])] →
  eop P (Instr.makeSlice 37 (VI (g0_1.n : Int)) (VI (g0_1.n : Int))) h_1 fun rv_1 h_2 => ∃ t11_1 : Sl, rv_1 = (Sl.v t11_1) ∧ Vars h_2 [(b_1, [(Sl.v g0_1)])] ∧
  ∃ J_1 : Nat → Heap → Prop, (∃ n0 : Nat, J_1 n0  h_2) ∧
  ∀ (n_1 : Nat) (h_3 : Heap), J_1 n_1  h_3 → Vars h_3 [(b_1, [(Sl.v g0_1)])] →
  callV P with2_1 [(Sl.v t11_1)] h_3 fun rv_2 h_4 => ∃ t14_1 : Bool, rv_2 = (VB t14_1) ∧ Vars h_4 [(b_1, [(Sl.v g0_1)])] ∧
  ((!t14_1) = true →
  K (Value.tuple #[]) h_4) ∧
  ((!t14_1) = false →
  ∃ J_2 : Nat → Int → Heap → Prop, (∃ n0 : Nat, J_2 n0 (w64 ((t11_1.n : Int) - 1)) h_4) ∧
  ∀ (n_2 : Nat) (p7_1 : Int) (h_5 : Heap), J_2 n_2 p7_1 h_5 → Vars h_5 [(b_1, [(Sl.v g0_1)])] →
  ((decide (0 ≤ p7_1)) = true →
  ((decide (p7_1 = still1_1)) = true →
  InB t11_1 p7_1 ∧
  Writable h_5 (Sl.at t11_1 p7_1 1) ∧ Vars (hset h_5 (Sl.at t11_1 p7_1 1) (VI 0)) [(b_1, [(Sl.v g0_1)])] ∧
  ∀ h_8 : Heap, h_8 = hset h_5 (Sl.at t11_1 p7_1 1) (VI 0) → Vars h_8 [(b_1, [(Sl.v g0_1)])] →
  ∃ m : Nat, m < n_2 ∧ J_2 m (w64 (p7_1 - 1)) h_8) ∧
  ((decide (p7_1 = still1_1)) = false →
  InB t11_1 p7_1 ∧
  ∃ t29_1 : Int, hcell h_5 (Sl.at t11_1 p7_1 1) = some (VI t29_1) ∧
  InB g0_1 p7_1 ∧
  ∃ t34_1 : Sl, hcell h_5 (Sl.at g0_1 p7_1 1) = some (Sl.v t34_1) ∧
  ((decide ((w64 ((t34_1.n : Int) - 1)) ≤ t29_1)) = true →
  InB t11_1 p7_1 ∧
  Writable h_5 (Sl.at t11_1 p7_1 1) ∧ Vars (hset h_5 (Sl.at t11_1 p7_1 1) (VI 0)) [(b_1, [(Sl.v g0_1)])] ∧
  ∀ h_6 : Heap, h_6 = hset h_5 (Sl.at t11_1 p7_1 1) (VI 0) → Vars h_6 [(b_1, [(Sl.v g0_1)])] →
  ∃ m : Nat, m < n_2 ∧ J_2 m (w64 (p7_1 - 1)) h_6) ∧
  ((decide ((w64 ((t34_1.n : Int) - 1)) ≤ t29_1)) = false →
  ((decide (p7_1 < 0)) = true →
  K (Value.tuple #[]) h_5) ∧
  ((decide (p7_1 < 0)) = false →
  InB t11_1 p7_1 ∧
  ∃ t50_1 : Int, hcell h_5 (Sl.at t11_1 p7_1 1) = some (VI t50_1) ∧
  InB t11_1 p7_1 ∧
  Writable h_5 (Sl.at t11_1 p7_1 1) ∧ Vars (hset h_5 (Sl.at t11_1 p7_1 1) (VI (w64 (t50_1 + 1)))) [(b_1, [(Sl.v g0_1)])] ∧
  ∀ h_7 : Heap, h_7 = hset h_5 (Sl.at t11_1 p7_1 1) (VI (w64 (t50_1 + 1))) → Vars h_7 [(b_1, [(Sl.v g0_1)])] →
  ∃ m : Nat, m < n_1 ∧ J_1 m  h_7)))) ∧
  ((decide (0 ≤ p7_1)) = false →
  ((decide (p7_1 < 0)) = true →
  K (Value.tuple #[]) h_5) ∧
  ((decide (p7_1 < 0)) = false →
  InB t11_1 p7_1 ∧
  ∃ t50_2 : Int, hcell h_5 (Sl.at t11_1 p7_1 1) = some (VI t50_2) ∧
  InB t11_1 p7_1 ∧
  Writable h_5 (Sl.at t11_1 p7_1 1) ∧ Vars (hset h_5 (Sl.at t11_1 p7_1 1) (VI (w64 (t50_2 + 1)))) [(b_1, [(Sl.v g0_1)])] ∧
  ∀ h_9 : Heap, h_9 = hset h_5 (Sl.at t11_1 p7_1 1) (VI (w64 (t50_2 + 1))) → Vars h_9 [(b_1, [(Sl.v g0_1)])] →
  ∃ m : Nat, m < n_1 ∧ J_1 m  h_9)))
theorem v129 (g0_1 : Sl) (still1_1 : Int) (with2_1 : Value) (h : Heap) (K : Value → Heap → Prop) (H : u129 Try.prog g0_1 still1_1 with2_1 h K) : callM Try.prog 129 #[(Value.agg #[(Sl.v g0_1)]), (VI still1_1), with2_1] h K := by
  refine c129 (Value.agg #[(Sl.v g0_1)]) (VI still1_1) with2_1 h K ?_
  unfold u129 at H
  unfold t129
  have hL : Vars h [] := .nil
  refine eop_box 26 (Value.agg #[(Sl.v g0_1)]) rfl hL (fun b_1 h_1 hb_1 hf_1 hL_1 => ?_)
  refine pop_field 0 fld26_0 b_1 0 ?_
  refine rop_loc one24 hL_1 0 rfl 0 (v := (Sl.v g0_1)) rfl ?_
  refine pop_len g0_1 _ _ sli24 ?_
  have H := H b_1 h_1 (Nat.le_trans (Fr.size (Fr.r (In []) _)) hb_1) (Fr.no' (Fr.r (In []) _) hf_1) hL_1
  refine H.mono fun rv_1 h_2 H => ?_
  obtain ⟨t11_1, rfl, hL_2, H⟩ := H
  obtain ⟨J_1, ⟨n_4, h0_2⟩, HB_2⟩ := H
  refine loop_intro (J := fun (n : Nat) (vs : List Value) (h' : Heap) => vs = [] ∧ J_1 n  h' ∧ Vars h' [(b_1, [(Sl.v g0_1)])]) n_4 ⟨rfl, h0_2, hL_2⟩ ?_
  intro I_2 mu_2 hI_2 junk_1  h_3 hi_1
  obtain ⟨n_1, ⟨hv, hJ_1, hL_3⟩, hn_1⟩ := hI_2 _ _ hi_1
  cases hv
  have H := HB_2 n_1  h_3 hJ_1 hL_3
  refine H.mono fun rv_2 h_4 H => ?_
  obtain ⟨t14_1, rfl, hL_4, H⟩ := H
  refine pop_not t14_1 ?_
  refine condM_b (fun hb_2 => ?_) (fun hb_2 => ?_)
  ·have H := H.1 hb_2
   exact H
  have H := H.2 hb_2
  refine pop_len t11_1 _ _ sli37 ?_
  refine pop_sub .i64 (t11_1.n : Int) 1 ?_
  obtain ⟨J_2, ⟨n_3, h0_1⟩, HB_1⟩ := H
  refine loop_intro (J := fun (n : Nat) (vs : List Value) (h' : Heap) => ∃ p7_1 : Int, vs = [(VI p7_1)] ∧ J_2 n p7_1 h' ∧ Vars h' [(b_1, [(Sl.v g0_1)])]) n_3 ⟨(w64 ((t11_1.n : Int) - 1)), rfl, h0_1, hL_4⟩ ?_
  intro I_1 mu_1 hI_1 junk_2 tv_1 h_5 hi_2
  obtain ⟨n_2, ⟨p7_1, hv, hJ_2, hL_5⟩, hn_2⟩ := hI_1 _ _ hi_2
  cases hv
  have H := HB_1 n_2 p7_1 h_5 hJ_2 hL_5
  refine pop_geq .i64 p7_1 0 ?_
  refine guardM_st (fun hb_3 => ?_) (fun hb_3 => ?_)
  rotate_left
  ·have H := H.2 hb_3
   refine guardM_n' hb_3 (by decide) ?_
   refine guardM_n' hb_3 (by decide) ?_
   refine guardM_n' hb_3 (by decide) ?_
   refine guardM_n (by decide) ?_
   refine guardM_n (by decide) ?_
   refine guardM_n (by decide) ?_
   refine guardM_n (by decide) ?_
   refine guardM_n (by decide) ?_
   refine guardM_n (by decide) ?_
   refine guardM_n (by decide) ?_
   refine guardM_n (by decide) ?_
   refine guardM_n (by decide) ?_
   refine guardM_n (by decide) ?_
   refine guardM_n (by decide) ?_
   refine guardM_n (by decide) ?_
   refine guardM_n' hb_3 (by decide) ?_
   refine pop_pickf' hb_3 ?_
   refine condM_f ?_
   refine pop_lss .i64 p7_1 0 ?_
   refine condM_b (fun hb_7 => ?_) (fun hb_7 => ?_)
   ·have H := H.1 hb_7
    exact H
   have H := H.2 hb_7
   obtain ⟨hi_9, H⟩ := H
   refine pop_index sli37 siz3 .i64 t11_1 p7_1 hi_9 ?_
   obtain ⟨t50_2, hc_4, H⟩ := H
   refine rop_one one3 (VI t50_2) hc_4 ?_
   refine pop_add .i64 t50_2 1 ?_
   obtain ⟨hi_10, H⟩ := H
   refine pop_index sli37 siz3 .i64 t11_1 p7_1 hi_10 ?_
   obtain ⟨hw_4, hL_9, H⟩ := H
   refine uop_cell (v := (VI (w64 (t50_2 + 1)))) siz3 hw_4 rfl (fun h_9 he_4 => ?_)
   rw [← he_4] at hL_9
   have H := H h_9 he_4 hL_9
   obtain ⟨m_4, hm_4, H⟩ := H
   exact hn_1 _ _ ⟨m_4, hm_4, rfl, H, hL_9⟩
  have H := H.1 hb_3
  refine guardM_y' hb_3 ?_
  refine guardM_y' hb_3 ?_
  refine pop_ieq .i64 _ _ p7_1 still1_1 ?_
  refine guardM_y' hb_3 ?_
  refine guardM_sf (fun hb_4 => ?_) (fun hb_4 => ?_)
  rotate_left
  ·have H := H.1 hb_4
   refine guardM_n' hb_4 (by decide) ?_
   refine guardM_n' hb_4 (by decide) ?_
   refine guardM_n' hb_4 (by decide) ?_
   refine guardM_n' hb_4 (by decide) ?_
   refine guardM_n' hb_4 (by decide) ?_
   refine guardM_n' hb_4 (by decide) ?_
   refine guardM_n' hb_4 (by decide) ?_
   refine guardM_n' hb_4 (by decide) ?_
   refine guardM_n' hb_4 (by decide) ?_
   refine guardM_n' hb_4 (by decide) ?_
   refine guardM_n' hb_4 (by decide) ?_
   refine guardM_y' hb_3 ?_
   refine pop_pickt' hb_4 ?_
   refine pop_pickt' hb_3 ?_
   refine condM_t ?_
   obtain ⟨hi_8, H⟩ := H
   refine pop_index sli37 siz3 .i64 t11_1 p7_1 hi_8 ?_
   obtain ⟨hw_3, hL_8, H⟩ := H
   refine uop_cell (v := (VI 0)) siz3 hw_3 rfl (fun h_8 he_3 => ?_)
   rw [← he_3] at hL_8
   have H := H h_8 he_3 hL_8
   refine pop_sub .i64 p7_1 1 ?_
   obtain ⟨m_3, hm_3, H⟩ := H
   exact hn_2 _ _ ⟨m_3, hm_3, (w64 (p7_1 - 1)), rfl, H, hL_8⟩
  have H := H.2 hb_4
  refine guardM_y' hb_4 ?_
  refine guardM_y' hb_4 ?_
  obtain ⟨hi_3, H⟩ := H
  refine pop_index sli37 siz3 .i64 t11_1 p7_1 hi_3 ?_
  refine guardM_y' hb_4 ?_
  obtain ⟨t29_1, hc_3, H⟩ := H
  refine rop_one one3 (VI t29_1) hc_3 ?_
  refine guardM_y' hb_4 ?_
  refine pop_field 0 fld26_0 b_1 0 ?_
  refine guardM_y' hb_4 ?_
  refine rop_loc one24 hL_5 0 rfl 0 (v := (Sl.v g0_1)) rfl ?_
  refine guardM_y' hb_4 ?_
  refine guardM_y' hb_4 ?_
  obtain ⟨hi_4, H⟩ := H
  refine pop_index sli24 siz37 .i64 g0_1 p7_1 hi_4 ?_
  refine guardM_y' hb_4 ?_
  obtain ⟨t34_1, hc_2, H⟩ := H
  refine rop_one one37 (Sl.v t34_1) hc_2 ?_
  refine guardM_y' hb_4 ?_
  refine pop_len t34_1 _ _ sli37 ?_
  refine guardM_y' hb_4 ?_
  refine pop_sub .i64 (t34_1.n : Int) 1 ?_
  refine guardM_y' hb_4 ?_
  refine pop_geq .i64 t29_1 (w64 ((t34_1.n : Int) - 1)) ?_
  refine guardM_y' hb_3 ?_
  refine pop_pickf' hb_4 ?_
  refine pop_pickt' hb_3 ?_
  refine condM_b (fun hb_5 => ?_) (fun hb_5 => ?_)
  ·have H := H.1 hb_5
   obtain ⟨hi_5, H⟩ := H
   refine pop_index sli37 siz3 .i64 t11_1 p7_1 hi_5 ?_
   obtain ⟨hw_1, hL_6, H⟩ := H
   refine uop_cell (v := (VI 0)) siz3 hw_1 rfl (fun h_6 he_1 => ?_)
   rw [← he_1] at hL_6
   have H := H h_6 he_1 hL_6
   refine pop_sub .i64 p7_1 1 ?_
   obtain ⟨m_1, hm_1, H⟩ := H
   exact hn_2 _ _ ⟨m_1, hm_1, (w64 (p7_1 - 1)), rfl, H, hL_6⟩
  have H := H.2 hb_5
  refine pop_lss .i64 p7_1 0 ?_
  refine condM_b (fun hb_6 => ?_) (fun hb_6 => ?_)
  ·have H := H.1 hb_6
   exact H
  have H := H.2 hb_6
  obtain ⟨hi_6, H⟩ := H
  refine pop_index sli37 siz3 .i64 t11_1 p7_1 hi_6 ?_
  obtain ⟨t50_1, hc_1, H⟩ := H
  refine rop_one one3 (VI t50_1) hc_1 ?_
  refine pop_add .i64 t50_1 1 ?_
  obtain ⟨hi_7, H⟩ := H
  refine pop_index sli37 siz3 .i64 t11_1 p7_1 hi_7 ?_
  obtain ⟨hw_2, hL_7, H⟩ := H
  refine uop_cell (v := (VI (w64 (t50_1 + 1)))) siz3 hw_2 rfl (fun h_7 he_2 => ?_)
  rw [← he_2] at hL_7
  have H := H h_7 he_2 hL_7
  obtain ⟨m_2, hm_2, H⟩ := H
  exact hn_1 _ _ ⟨m_2, hm_2, rfl, H, hL_7⟩

/-! impl.allTrees$1 -/
def u130 (P : Program) (rotors0_1 : Sl) (b_1 : Nat) (t1_1 : Sl) (b_2 : Nat) (t2_1 : Int) (b_3 : Nat) (t3_1 : Sl) (b_4 : Nat) (t4_1 : Int) (h : Heap) (K : Value → Heap → Prop) : Prop :=
  ∃ J_1 : Sl → Heap → Prop, (callM P 100 #[(Value.agg #[(Sl.v t1_1)]), (VI t2_1), (Sl.v rotors0_1)] h fun rv_1 h_1 => ∃ t10_1 : Bool, rv_1 = (VB t10_1) ∧ Vars h_1 [(b_1, [(Sl.v t1_1)]), (b_2, [(VI t2_1)]), (b_3, [(Sl.v t3_1)]), (b_4, [(VI t4_1)])] ∧
  (t10_1 = true →
  callM P 117 #[(Sl.v rotors0_1)] h_1 fun rv_2 h_2 => ∃ t13_1 : Sl, rv_2 = (Sl.v t13_1) ∧ Vars h_2 [(b_1, [(Sl.v t1_1)]), (b_2, [(VI t2_1)]), (b_3, [(Sl.v t3_1)]), (b_4, [(VI t4_1)])] ∧
  eop P (Instr.buildSlice 24 1 #[(0, (Sl.v t13_1))]) h_2 fun rv_3 h_3 => ∃ t14_1 : Sl, rv_3 = (Sl.v t14_1) ∧ Vars h_3 [(b_1, [(Sl.v t1_1)]), (b_2, [(VI t2_1)]), (b_3, [(Sl.v t3_1)]), (b_4, [(VI t4_1)])] ∧
  eop P (appS 24 24 24 (Sl.v t3_1) (Sl.v t14_1)) h_3 fun rv_4 h_4 => ∃ t15_1 : Sl, rv_4 = (Sl.v t15_1) ∧ Vars h_4 [(b_1, [(Sl.v t1_1)]), (b_2, [(VI t2_1)]), (b_3, [(Sl.v t3_1)]), (b_4, [(VI t4_1)])] ∧
  ∀ (h_5 : Heap), Fr (In [b_3]) h_4 h_5 → Vars h_5 [(b_1, [(Sl.v t1_1)]), (b_2, [(VI t2_1)]), (b_3, [(Sl.v t15_1)]), (b_4, [(VI t4_1)])] →
  J_1 t15_1 h_5) ∧
  (t10_1 = false →
  J_1 t3_1 h_1)) ∧
  ∀ (x_1 : Sl) (h_6 : Heap), J_1 x_1 h_6 → Vars h_6 [(b_1, [(Sl.v t1_1)]), (b_2, [(VI t2_1)]), (b_3, [(Sl.v x_1)]), (b_4, [(VI t4_1)])] →
  K (VB (decide ((x_1.n : Int) < t4_1))) h_6
theorem v130 (rotors0_1 : Sl) (b_1 : Nat) (t1_1 : Sl) (b_2 : Nat) (t2_1 : Int) (b_3 : Nat) (t3_1 : Sl) (b_4 : Nat) (t4_1 : Int) (h : Heap) (K : Value → Heap → Prop) (hL : Vars h [(b_1, [(Sl.v t1_1)]), (b_2, [(VI t2_1)]), (b_3, [(Sl.v t3_1)]), (b_4, [(VI t4_1)])]) (H : u130 Try.prog rotors0_1 b_1 t1_1 b_2 t2_1 b_3 t3_1 b_4 t4_1 h K) : callM Try.prog 130 #[(Sl.v rotors0_1), (VP b_1 0), (VP b_2 0), (VP b_3 0), (VP b_4 0)] h K := by
  refine c130 (Sl.v rotors0_1) (VP b_1 0) (VP b_2 0) (VP b_3 0) (VP b_4 0) h K ?_
  unfold u130 at H
  unfold t130
  obtain ⟨J_1, H, HB_1⟩ := H
  refine ⟨fun (vs : List Value) (h' : Heap) => ∃ x_1 : Sl, vs = [] ∧ J_1 x_1 h' ∧ Vars h' [(b_1, [(Sl.v t1_1)]), (b_2, [(VI t2_1)]), (b_3, [(Sl.v x_1)]), (b_4, [(VI t4_1)])], ?_, ?_⟩
  ·refine rop_locA agg26 hL 0 rfl 0 (vs := [(Sl.v t1_1)]) rfl rfl ?_
   refine rop_loc one3 hL 1 rfl 0 (v := (VI t2_1)) rfl ?_
   refine H.mono fun rv_1 h_1 H => ?_
   obtain ⟨t10_1, rfl, hL_1, H⟩ := H
   refine condM_b (fun hb_1 => ?_) (fun hb_1 => ?_)
   rotate_left
   ·have H := H.2 hb_1
    exact ⟨t3_1, rfl, H, hL_1⟩
   have H := H.1 hb_1
   refine rop_loc one24 hL_1 2 rfl 0 (v := (Sl.v t3_1)) rfl ?_
   refine H.mono fun rv_2 h_2 H => ?_
   obtain ⟨t13_1, rfl, hL_2, H⟩ := H
   refine ⟨?_, ?_⟩
   ·exact still_loc one24 hL_2 2 rfl 0 (v := (Sl.v t3_1)) rfl
   refine H.mono fun rv_3 h_3 H => ?_
   obtain ⟨t14_1, rfl, hL_3, H⟩ := H
   refine ⟨?_, ?_⟩
   ·exact still_loc one24 hL_3 2 rfl 0 (v := (Sl.v t3_1)) rfl
   refine H.mono fun rv_4 h_4 H => ?_
   obtain ⟨t15_1, rfl, hL_4, H⟩ := H
   refine uop_loc siz24 hL_4 2 rfl 0 [(Sl.v t15_1)] rfl rfl rfl (Nat.le_of_ble_eq_true rfl) (L' := [(b_1, [(Sl.v t1_1)]), (b_2, [(VI t2_1)]), (b_3, [(Sl.v t15_1)]), (b_4, [(VI t4_1)])]) rfl (fun h_5 hf_1 hL_5 => ?_)
   have H := H  h_5  (Fr.old (Fr.r (In []) _) hf_1) hL_5
   exact ⟨t15_1, rfl, H, hL_5⟩
  intro junk_1  h_6
  rintro ⟨x_1, hv, hJ_1, hL_6⟩
  have H := HB_1 x_1 h_6 hJ_1 hL_6
  refine rop_loc one24 hL_6 2 rfl 0 (v := (Sl.v x_1)) rfl ?_
  refine pop_len x_1 _ _ sli24 ?_
  refine rop_loc one3 hL_6 3 rfl 0 (v := (VI t4_1)) rfl ?_
  refine pop_lss .i64 (x_1.n : Int) t4_1 ?_
  exact H

/-! (*spec.trSearch).look -/
def u131 (P : Program) (b_1 : Nat) (s0_1 : Sl) (s0_2 : Int) (s0_3 : Sl) (s0_4 : Sl) (s0_5 : Int) (p1_1 : Int) (h : Heap) (K : Value → Heap → Prop) : Prop :=
  ((decide (s0_5 < (s0_4.n : Int))) = true →
  K (Value.tuple #[]) h) ∧
  ((decide (s0_5 < (s0_4.n : Int))) = false →
  ((decide (p1_1 = (s0_1.n : Int))) = true →
  callM P 121 #[(Sl.v s0_3)] h fun rv_1 h_1 => ∃ t32_1 : Sl, rv_1 = (Sl.v t32_1) ∧ Vars h_1 [(b_1, [(Sl.v s0_1), (VI s0_2), (Sl.v s0_3), (Sl.v s0_4), (VI s0_5)])] ∧
  eop P (Instr.buildSlice 24 1 #[(0, (Sl.v t32_1))]) h_1 fun rv_2 h_2 => ∃ t33_1 : Sl, rv_2 = (Sl.v t33_1) ∧ Vars h_2 [(b_1, [(Sl.v s0_1), (VI s0_2), (Sl.v s0_3), (Sl.v s0_4), (VI s0_5)])] ∧
  eop P (appS 24 24 24 (Sl.v s0_4) (Sl.v t33_1)) h_2 fun rv_3 h_3 => ∃ t34_1 : Sl, rv_3 = (Sl.v t34_1) ∧ Vars h_3 [(b_1, [(Sl.v s0_1), (VI s0_2), (Sl.v s0_3), (Sl.v s0_4), (VI s0_5)])] ∧
  ∀ (h_4 : Heap), Fr (In [b_1]) h_3 h_4 → Vars h_4 [(b_1, [(Sl.v s0_1), (VI s0_2), (Sl.v s0_3), (Sl.v t34_1), (VI s0_5)])] →
  K (Value.tuple #[]) h_4) ∧
  ((decide (p1_1 = (s0_1.n : Int))) = false →
  ((decide (p1_1 = s0_2)) = true →
  callM P 131 #[(VP b_1 0), (VI (w64 (p1_1 + 1)))] h fun rv_4 h_5 => ∃ x_1 : Sl, ∃ x_2 : Int, ∃ x_3 : Sl, ∃ x_4 : Sl, ∃ x_5 : Int, Vars h_5 [(b_1, [(Sl.v x_1), (VI x_2), (Sl.v x_3), (Sl.v x_4), (VI x_5)])] ∧
  K (Value.tuple #[]) h_5) ∧
  ((decide (p1_1 = s0_2)) = false →
  InB s0_1 p1_1 ∧
  ∃ t54_1 : Sl, hcell h (Sl.at s0_1 p1_1 1) = some (Sl.v t54_1) ∧
  ∃ J_1 : Nat → Int → Sl → Int → Sl → Sl → Int → Heap → Prop, (∃ n0 : Nat, J_1 n0 0 s0_1 s0_2 s0_3 s0_4 s0_5 h) ∧
  ∀ (n_1 : Nat) (t56_1 : Int) (x_6 : Sl) (x_7 : Int) (x_8 : Sl) (x_9 : Sl) (x_10 : Int) (h_6 : Heap), J_1 n_1 t56_1 x_6 x_7 x_8 x_9 x_10 h_6 → Vars h_6 [(b_1, [(Sl.v x_6), (VI x_7), (Sl.v x_8), (Sl.v x_9), (VI x_10)])] →
  ((decide (t56_1 < (t54_1.n : Int))) = true →
  InB x_8 p1_1 ∧
  Writable h_6 (Sl.at x_8 p1_1 1) ∧ Vars (hset h_6 (Sl.at x_8 p1_1 1) (VI t56_1)) [(b_1, [(Sl.v x_6), (VI x_7), (Sl.v x_8), (Sl.v x_9), (VI x_10)])] ∧
  ∀ h_7 : Heap, h_7 = hset h_6 (Sl.at x_8 p1_1 1) (VI t56_1) → Vars h_7 [(b_1, [(Sl.v x_6), (VI x_7), (Sl.v x_8), (Sl.v x_9), (VI x_10)])] →
  callM P 140 #[(VP b_1 0), (VI p1_1)] h_7 fun rv_5 h_8 => ∃ x_11 : Sl, ∃ x_12 : Int, ∃ x_13 : Sl, ∃ x_14 : Sl, ∃ x_15 : Int, ∃ t68_1 : Bool, rv_5 = (VB t68_1) ∧ Vars h_8 [(b_1, [(Sl.v x_11), (VI x_12), (Sl.v x_13), (Sl.v x_14), (VI x_15)])] ∧
  ((!t68_1) = true →
  callM P 131 #[(VP b_1 0), (VI (w64 (p1_1 + 1)))] h_8 fun rv_6 h_9 => ∃ x_16 : Sl, ∃ x_17 : Int, ∃ x_18 : Sl, ∃ x_19 : Sl, ∃ x_20 : Int, Vars h_9 [(b_1, [(Sl.v x_16), (VI x_17), (Sl.v x_18), (Sl.v x_19), (VI x_20)])] ∧
  ∃ m : Nat, m < n_1 ∧ J_1 m (w64 (t56_1 + 1)) x_16 x_17 x_18 x_19 x_20 h_9) ∧
  ((!t68_1) = false →
  ∃ m : Nat, m < n_1 ∧ J_1 m (w64 (t56_1 + 1)) x_11 x_12 x_13 x_14 x_15 h_8)) ∧
  ((decide (t56_1 < (t54_1.n : Int))) = false →
  InB x_8 p1_1 ∧
  Writable h_6 (Sl.at x_8 p1_1 1) ∧ Vars (hset h_6 (Sl.at x_8 p1_1 1) (VI 0)) [(b_1, [(Sl.v x_6), (VI x_7), (Sl.v x_8), (Sl.v x_9), (VI x_10)])] ∧
  ∀ h_10 : Heap, h_10 = hset h_6 (Sl.at x_8 p1_1 1) (VI 0) → Vars h_10 [(b_1, [(Sl.v x_6), (VI x_7), (Sl.v x_8), (Sl.v x_9), (VI x_10)])] →
  K (Value.tuple #[]) h_10))))
theorem v131 (b_1 : Nat) (s0_1 : Sl) (s0_2 : Int) (s0_3 : Sl) (s0_4 : Sl) (s0_5 : Int) (p1_1 : Int) (h : Heap) (K : Value → Heap → Prop) (hL : Vars h [(b_1, [(Sl.v s0_1), (VI s0_2), (Sl.v s0_3), (Sl.v s0_4), (VI s0_5)])]) (H : u131 Try.prog b_1 s0_1 s0_2 s0_3 s0_4 s0_5 p1_1 h K) : callM Try.prog 131 #[(VP b_1 0), (VI p1_1)] h K := by
  refine c131 (VP b_1 0) (VI p1_1) h K ?_
  unfold u131 at H
  unfold t131
  refine pop_nil _ ?_
  refine pop_field 3 fld126_3 b_1 0 ?_
  refine rop_loc one24 hL 0 rfl 3 (v := (Sl.v s0_4)) rfl ?_
  refine pop_len s0_4 _ _ sli24 ?_
  refine pop_nil _ ?_
  refine pop_field 4 fld126_4 b_1 0 ?_
  refine rop_loc one3 hL 0 rfl 4 (v := (VI s0_5)) rfl ?_
  refine pop_gtr .i64 (s0_4.n : Int) s0_5 ?_
  refine condM_b (fun hb_1 => ?_) (fun hb_1 => ?_)
  ·have H := H.1 hb_1
   exact H
  have H := H.2 hb_1
  refine pop_nil _ ?_
  refine pop_field 0 fld126_0 b_1 0 ?_
  refine pop_field 0 fld26_0 b_1 0 ?_
  refine rop_loc one24 hL 0 rfl 0 (v := (Sl.v s0_1)) rfl ?_
  refine pop_len s0_1 _ _ sli24 ?_
  refine pop_ieq .i64 _ _ p1_1 (s0_1.n : Int) ?_
  refine condM_b (fun hb_2 => ?_) (fun hb_2 => ?_)
  ·have H := H.1 hb_2
   refine pop_nil _ ?_
   refine pop_field 3 fld126_3 b_1 0 ?_
   refine rop_loc one24 hL 0 rfl 3 (v := (Sl.v s0_4)) rfl ?_
   refine pop_nil _ ?_
   refine pop_field 2 fld126_2 b_1 0 ?_
   refine rop_loc one37 hL 0 rfl 2 (v := (Sl.v s0_3)) rfl ?_
   refine H.mono fun rv_1 h_1 H => ?_
   obtain ⟨t32_1, rfl, hL_1, H⟩ := H
   refine ⟨?_, ?_⟩
   ·exact still_loc one24 hL_1 0 rfl 3 (v := (Sl.v s0_4)) rfl
   refine H.mono fun rv_2 h_2 H => ?_
   obtain ⟨t33_1, rfl, hL_2, H⟩ := H
   refine ⟨?_, ?_⟩
   ·exact still_loc one24 hL_2 0 rfl 3 (v := (Sl.v s0_4)) rfl
   refine H.mono fun rv_3 h_3 H => ?_
   obtain ⟨t34_1, rfl, hL_3, H⟩ := H
   refine pop_nil _ ?_
   refine pop_field 3 fld126_3 b_1 0 ?_
   refine uop_loc siz24 hL_3 0 rfl 3 [(Sl.v t34_1)] rfl rfl rfl (Nat.le_of_ble_eq_true rfl) (L' := [(b_1, [(Sl.v s0_1), (VI s0_2), (Sl.v s0_3), (Sl.v t34_1), (VI s0_5)])]) rfl (fun h_4 hf_1 hL_4 => ?_)
   have H := H  h_4  (Fr.old (Fr.r (In []) _) hf_1) hL_4
   exact H
  have H := H.2 hb_2
  refine pop_nil _ ?_
  refine pop_field 1 fld126_1 b_1 0 ?_
  refine rop_loc one3 hL 0 rfl 1 (v := (VI s0_2)) rfl ?_
  refine pop_ieq .i64 _ _ p1_1 s0_2 ?_
  refine condM_b (fun hb_3 => ?_) (fun hb_3 => ?_)
  ·have H := H.1 hb_3
   refine pop_add .i64 p1_1 1 ?_
   refine H.mono fun rv_4 h_5 H => ?_
   obtain ⟨x_1, x_2, x_3, x_4, x_5, hL_5, H⟩ := H
   exact H
  have H := H.2 hb_3
  refine pop_nil _ ?_
  refine pop_field 0 fld126_0 b_1 0 ?_
  refine pop_field 0 fld26_0 b_1 0 ?_
  refine rop_loc one24 hL 0 rfl 0 (v := (Sl.v s0_1)) rfl ?_
  obtain ⟨hi_1, H⟩ := H
  refine pop_index sli24 siz37 .i64 s0_1 p1_1 hi_1 ?_
  obtain ⟨t54_1, hc_1, H⟩ := H
  refine rop_one one37 (Sl.v t54_1) hc_1 ?_
  refine pop_len t54_1 _ _ sli37 ?_
  obtain ⟨J_1, ⟨n_2, h0_1⟩, HB_1⟩ := H
  refine loop_intro (J := fun (n : Nat) (vs : List Value) (h' : Heap) => ∃ t56_1 : Int, ∃ x_6 : Sl, ∃ x_7 : Int, ∃ x_8 : Sl, ∃ x_9 : Sl, ∃ x_10 : Int, vs = [(VI t56_1)] ∧ J_1 n t56_1 x_6 x_7 x_8 x_9 x_10 h' ∧ Vars h' [(b_1, [(Sl.v x_6), (VI x_7), (Sl.v x_8), (Sl.v x_9), (VI x_10)])]) n_2 ⟨0, s0_1, s0_2, s0_3, s0_4, s0_5, rfl, h0_1, hL⟩ ?_
  intro I_1 mu_1 hI_1 junk_1 tv_1 h_6 hi_2
  obtain ⟨n_1, ⟨t56_1, x_6, x_7, x_8, x_9, x_10, hv, hJ_1, hL_6⟩, hn_1⟩ := hI_1 _ _ hi_2
  cases hv
  have H := HB_1 n_1 t56_1 x_6 x_7 x_8 x_9 x_10 h_6 hJ_1 hL_6
  refine pop_lss .i64 t56_1 (t54_1.n : Int) ?_
  refine condM_b (fun hb_4 => ?_) (fun hb_4 => ?_)
  rotate_left
  ·have H := H.2 hb_4
   refine pop_nil _ ?_
   refine pop_field 2 fld126_2 b_1 0 ?_
   refine rop_loc one37 hL_6 0 rfl 2 (v := (Sl.v x_8)) rfl ?_
   obtain ⟨hi_4, H⟩ := H
   refine pop_index sli37 siz3 .i64 x_8 p1_1 hi_4 ?_
   obtain ⟨hw_2, hL_10, H⟩ := H
   refine uop_cell (v := (VI 0)) siz3 hw_2 rfl (fun h_10 he_2 => ?_)
   rw [← he_2] at hL_10
   have H := H h_10 he_2 hL_10
   exact H
  have H := H.1 hb_4
  refine pop_nil _ ?_
  refine pop_field 2 fld126_2 b_1 0 ?_
  refine rop_loc one37 hL_6 0 rfl 2 (v := (Sl.v x_8)) rfl ?_
  obtain ⟨hi_3, H⟩ := H
  refine pop_index sli37 siz3 .i64 x_8 p1_1 hi_3 ?_
  obtain ⟨hw_1, hL_7, H⟩ := H
  refine uop_cell (v := (VI t56_1)) siz3 hw_1 rfl (fun h_7 he_1 => ?_)
  rw [← he_1] at hL_7
  have H := H h_7 he_1 hL_7
  refine H.mono fun rv_5 h_8 H => ?_
  obtain ⟨x_11, x_12, x_13, x_14, x_15, t68_1, rfl, hL_8, H⟩ := H
  refine pop_not t68_1 ?_
  refine condM_b (fun hb_5 => ?_) (fun hb_5 => ?_)
  rotate_left
  ·have H := H.2 hb_5
   refine pop_add .i64 t56_1 1 ?_
   obtain ⟨m_2, hm_2, H⟩ := H
   exact hn_1 _ _ ⟨m_2, hm_2, (w64 (t56_1 + 1)), x_11, x_12, x_13, x_14, x_15, rfl, H, hL_8⟩
  have H := H.1 hb_5
  refine pop_add .i64 p1_1 1 ?_
  refine H.mono fun rv_6 h_9 H => ?_
  obtain ⟨x_16, x_17, x_18, x_19, x_20, hL_9, H⟩ := H
  refine pop_add .i64 t56_1 1 ?_
  obtain ⟨m_1, hm_1, H⟩ := H
  exact hn_1 _ _ ⟨m_1, hm_1, (w64 (t56_1 + 1)), x_16, x_17, x_18, x_19, x_20, rfl, H, hL_9⟩

/-! slices.IndexFunc[[]int,int] -/
def u132 (P : Program) (s0_1 : Sl) (f1_1 : Value) (h : Heap) (K : Value → Heap → Prop) : Prop :=
  ∃ J_1 : Nat → Int → Heap → Prop, (∃ n0 : Nat, J_1 n0 0 h) ∧
  ∀ (n_1 : Nat) (t8_1 : Int) (h_1 : Heap), J_1 n_1 t8_1 h_1 → Vars h_1 [] →
  ((decide (t8_1 < (s0_1.n : Int))) = true →
  InB s0_1 t8_1 ∧
  ∃ t15_1 : Int, hcell h_1 (Sl.at s0_1 t8_1 1) = some (VI t15_1) ∧
  callV P f1_1 [(VI t15_1)] h_1 fun rv_1 h_2 => ∃ t16_1 : Bool, rv_1 = (VB t16_1) ∧ Vars h_2 [] ∧
  (t16_1 = true →
  K (VI t8_1) h_2) ∧
  (t16_1 = false →
  ∃ m : Nat, m < n_1 ∧ J_1 m (w64 (t8_1 + 1)) h_2)) ∧
  ((decide (t8_1 < (s0_1.n : Int))) = false →
  K (VI (-1)) h_1)
theorem v132 (s0_1 : Sl) (f1_1 : Value) (h : Heap) (K : Value → Heap → Prop) (H : u132 Try.prog s0_1 f1_1 h K) : callM Try.prog 132 #[(Sl.v s0_1), f1_1] h K := by
  refine c132 (Sl.v s0_1) f1_1 h K ?_
  unfold u132 at H
  unfold t132
  have hL : Vars h [] := .nil
  refine pop_len s0_1 _ _ sli37 ?_
  obtain ⟨J_1, ⟨n_2, h0_1⟩, HB_1⟩ := H
  refine loop_intro (J := fun (n : Nat) (vs : List Value) (h' : Heap) => ∃ t8_1 : Int, vs = [(VI t8_1)] ∧ J_1 n t8_1 h' ∧ Vars h' []) n_2 ⟨0, rfl, h0_1, hL⟩ ?_
  intro I_1 mu_1 hI_1 junk_1 tv_1 h_1 hi_1
  obtain ⟨n_1, ⟨t8_1, hv, hJ_1, hL_1⟩, hn_1⟩ := hI_1 _ _ hi_1
  cases hv
  have H := HB_1 n_1 t8_1 h_1 hJ_1 hL_1
  refine pop_lss .i64 t8_1 (s0_1.n : Int) ?_
  refine condM_b (fun hb_1 => ?_) (fun hb_1 => ?_)
  rotate_left
  ·have H := H.2 hb_1
   exact H
  have H := H.1 hb_1
  obtain ⟨hi_2, H⟩ := H
  refine pop_index sli37 siz3 .i64 s0_1 t8_1 hi_2 ?_
  obtain ⟨t15_1, hc_1, H⟩ := H
  refine rop_one one3 (VI t15_1) hc_1 ?_
  refine H.mono fun rv_1 h_2 H => ?_
  obtain ⟨t16_1, rfl, hL_2, H⟩ := H
  refine condM_b (fun hb_2 => ?_) (fun hb_2 => ?_)
  ·have H := H.1 hb_2
   exact H
  have H := H.2 hb_2
  refine pop_add .i64 t8_1 1 ?_
  obtain ⟨m_1, hm_1, H⟩ := H
  exact hn_1 _ _ ⟨m_1, hm_1, (w64 (t8_1 + 1)), rfl, H, hL_2⟩

/-! (impl.Graph).next -/
def u133 (P : Program) (g0_1 : Sl) (rotors1_1 : Sl) (p2_1 : Int) (h : Heap) (K : Value → Heap → Prop) : Prop :=
  InB g0_1 p2_1 ∧
  ∀ (b_1 : Nat) (h_1 : Heap), h.size ≤ b_1 → Fr (In []) h h_1 → Vars h_1 [(b_1, [(Sl.v g0_1)])] →
  ∃ t11_1 : Sl, hcell h_1 (Sl.at g0_1 p2_1 1) = some (Sl.v t11_1) ∧
  ((decide ((t11_1.n : Int) = 0)) = true →
  K (VI (-1)) h_1) ∧
  ((decide ((t11_1.n : Int) = 0)) = false →
  InB g0_1 p2_1 ∧
  ∃ t18_1 : Sl, hcell h_1 (Sl.at g0_1 p2_1 1) = some (Sl.v t18_1) ∧
  InB rotors1_1 p2_1 ∧
  ∃ t22_1 : Int, hcell h_1 (Sl.at rotors1_1 p2_1 1) = some (VI t22_1) ∧
  InB t18_1 t22_1 ∧
  ∃ t24_1 : Int, hcell h_1 (Sl.at t18_1 t22_1 1) = some (VI t24_1) ∧
  K (VI t24_1) h_1)
theorem v133 (g0_1 : Sl) (rotors1_1 : Sl) (p2_1 : Int) (h : Heap) (K : Value → Heap → Prop) (H : u133 Try.prog g0_1 rotors1_1 p2_1 h K) : callM Try.prog 133 #[(Value.agg #[(Sl.v g0_1)]), (Sl.v rotors1_1), (VI p2_1)] h K := by
  refine c133 (Value.agg #[(Sl.v g0_1)]) (Sl.v rotors1_1) (VI p2_1) h K ?_
  unfold u133 at H
  unfold t133
  have hL : Vars h [] := .nil
  refine eop_box 26 (Value.agg #[(Sl.v g0_1)]) rfl hL (fun b_1 h_1 hb_1 hf_1 hL_1 => ?_)
  refine pop_field 0 fld26_0 b_1 0 ?_
  refine rop_loc one24 hL_1 0 rfl 0 (v := (Sl.v g0_1)) rfl ?_
  obtain ⟨hi_1, H⟩ := H
  refine pop_index sli24 siz37 .i64 g0_1 p2_1 hi_1 ?_
  have H := H b_1 h_1 (Nat.le_trans (Fr.size (Fr.r (In []) _)) hb_1) (Fr.no' (Fr.r (In []) _) hf_1) hL_1
  obtain ⟨t11_1, hc_4, H⟩ := H
  refine rop_one one37 (Sl.v t11_1) hc_4 ?_
  refine pop_len t11_1 _ _ sli37 ?_
  refine pop_ieq .i64 _ _ (t11_1.n : Int) 0 ?_
  refine condM_b (fun hb_2 => ?_) (fun hb_2 => ?_)
  ·have H := H.1 hb_2
   exact H
  have H := H.2 hb_2
  refine pop_field 0 fld26_0 b_1 0 ?_
  refine rop_loc one24 hL_1 0 rfl 0 (v := (Sl.v g0_1)) rfl ?_
  obtain ⟨hi_2, H⟩ := H
  refine pop_index sli24 siz37 .i64 g0_1 p2_1 hi_2 ?_
  obtain ⟨t18_1, hc_3, H⟩ := H
  refine rop_one one37 (Sl.v t18_1) hc_3 ?_
  obtain ⟨hi_3, H⟩ := H
  refine pop_index sli37 siz3 .i64 rotors1_1 p2_1 hi_3 ?_
  obtain ⟨t22_1, hc_2, H⟩ := H
  refine rop_one one3 (VI t22_1) hc_2 ?_
  obtain ⟨hi_4, H⟩ := H
  refine pop_index sli37 siz3 .i64 t18_1 t22_1 hi_4 ?_
  obtain ⟨t24_1, hc_1, H⟩ := H
  refine rop_one one3 (VI t24_1) hc_1 ?_
  exact H

/-! spec.trNext -/
def u134 (P : Program) (g0_1 : Sl) (rotors1_1 : Sl) (p2_1 : Int) (h : Heap) (K : Value → Heap → Prop) : Prop :=
  InB g0_1 p2_1 ∧
  ∀ (b_1 : Nat) (h_1 : Heap), h.size ≤ b_1 → Fr (In []) h h_1 → Vars h_1 [(b_1, [(Sl.v g0_1)])] →
  ∃ t11_1 : Sl, hcell h_1 (Sl.at g0_1 p2_1 1) = some (Sl.v t11_1) ∧
  ((decide ((t11_1.n : Int) = 0)) = true →
  K (VI (-1)) h_1) ∧
  ((decide ((t11_1.n : Int) = 0)) = false →
  InB g0_1 p2_1 ∧
  ∃ t18_1 : Sl, hcell h_1 (Sl.at g0_1 p2_1 1) = some (Sl.v t18_1) ∧
  InB rotors1_1 p2_1 ∧
  ∃ t22_1 : Int, hcell h_1 (Sl.at rotors1_1 p2_1 1) = some (VI t22_1) ∧
  InB t18_1 t22_1 ∧
  ∃ t24_1 : Int, hcell h_1 (Sl.at t18_1 t22_1 1) = some (VI t24_1) ∧
  K (VI t24_1) h_1)
theorem v134 (g0_1 : Sl) (rotors1_1 : Sl) (p2_1 : Int) (h : Heap) (K : Value → Heap → Prop) (H : u134 Try.prog g0_1 rotors1_1 p2_1 h K) : callM Try.prog 134 #[(Value.agg #[(Sl.v g0_1)]), (Sl.v rotors1_1), (VI p2_1)] h K := by
  refine c134 (Value.agg #[(Sl.v g0_1)]) (Sl.v rotors1_1) (VI p2_1) h K ?_
  unfold u134 at H
  unfold t134
  have hL : Vars h [] := .nil
  refine eop_box 26 (Value.agg #[(Sl.v g0_1)]) rfl hL (fun b_1 h_1 hb_1 hf_1 hL_1 => ?_)
  refine pop_field 0 fld26_0 b_1 0 ?_
  refine rop_loc one24 hL_1 0 rfl 0 (v := (Sl.v g0_1)) rfl ?_
  obtain ⟨hi_1, H⟩ := H
  refine pop_index sli24 siz37 .i64 g0_1 p2_1 hi_1 ?_
  have H := H b_1 h_1 (Nat.le_trans (Fr.size (Fr.r (In []) _)) hb_1) (Fr.no' (Fr.r (In []) _) hf_1) hL_1
  obtain ⟨t11_1, hc_4, H⟩ := H
  refine rop_one one37 (Sl.v t11_1) hc_4 ?_
  refine pop_len t11_1 _ _ sli37 ?_
  refine pop_ieq .i64 _ _ (t11_1.n : Int) 0 ?_
  refine condM_b (fun hb_2 => ?_) (fun hb_2 => ?_)
  ·have H := H.1 hb_2
   exact H
  have H := H.2 hb_2
  refine pop_field 0 fld26_0 b_1 0 ?_
  refine rop_loc one24 hL_1 0 rfl 0 (v := (Sl.v g0_1)) rfl ?_
  obtain ⟨hi_2, H⟩ := H
  refine pop_index sli24 siz37 .i64 g0_1 p2_1 hi_2 ?_
  obtain ⟨t18_1, hc_3, H⟩ := H
  refine rop_one one37 (Sl.v t18_1) hc_3 ?_
  obtain ⟨hi_3, H⟩ := H
  refine pop_index sli37 siz3 .i64 rotors1_1 p2_1 hi_3 ?_
  obtain ⟨t22_1, hc_2, H⟩ := H
  refine rop_one one3 (VI t22_1) hc_2 ?_
  obtain ⟨hi_4, H⟩ := H
  refine pop_index sli37 siz3 .i64 t18_1 t22_1 hi_4 ?_
  obtain ⟨t24_1, hc_1, H⟩ := H
  refine rop_one one3 (VI t24_1) hc_1 ?_
  exact H

/-! spec.grCycle -/
def u135 (P : Program) (n0_1 : Int) (both1_1 : Bool) (h : Heap) (K : Value → Heap → Prop) : Prop :=
  ∀ (b_1 : Nat) (b_2 : Nat) (h_3 : Heap), h.size ≤ b_1 → h.size ≤ b_2 → Fr (In []) h h_3 → Vars h_3 [(b_2, [(Sl.v nilSl)]), (b_1, [(Sl.v nilSl)])] →
  ∃ J_1 : Nat → Int → Sl → Heap → Prop, (∃ n0 : Nat, J_1 n0 0 nilSl h_3) ∧
  ∀ (n_1 : Nat) (p6_1 : Int) (x_1 : Sl) (h_4 : Heap), J_1 n_1 p6_1 x_1 h_4 → Vars h_4 [(b_2, [(Sl.v x_1)]), (b_1, [(Sl.v nilSl)])] →
  ((decide (p6_1 < n0_1)) = true →
  n0_1 ≠ 0 ∧
  eop P (Instr.buildSlice 37 1 #[(0, (VI (Int.tmod (w64 (p6_1 + 1)) n0_1)))]) h_4 fun rv_1 h_5 => ∃ t18_1 : Sl, rv_1 = (Sl.v t18_1) ∧ Vars h_5 [(b_2, [(Sl.v x_1)]), (b_1, [(Sl.v nilSl)])] ∧
  ∃ J_2 : Sl → Heap → Prop, ((both1_1 = true →
  n0_1 ≠ 0 ∧
  eop P (Instr.buildSlice 37 1 #[(0, (VI (Int.tmod (w64 ((w64 (p6_1 + n0_1)) - 1)) n0_1)))]) h_5 fun rv_2 h_6 => ∃ t27_1 : Sl, rv_2 = (Sl.v t27_1) ∧ Vars h_6 [(b_2, [(Sl.v x_1)]), (b_1, [(Sl.v nilSl)])] ∧
  eop P (appS 37 37 37 (Sl.v t18_1) (Sl.v t27_1)) h_6 fun rv_3 h_7 => ∃ t28_1 : Sl, rv_3 = (Sl.v t28_1) ∧ Vars h_7 [(b_2, [(Sl.v x_1)]), (b_1, [(Sl.v nilSl)])] ∧
  J_2 t28_1 h_7) ∧
  (both1_1 = false →
  J_2 t18_1 h_5)) ∧
  ∀ (x_2 : Sl) (h_8 : Heap), J_2 x_2 h_8 → Vars h_8 [(b_2, [(Sl.v x_1)]), (b_1, [(Sl.v nilSl)])] →
  eop P (Instr.buildSlice 24 1 #[(0, (Sl.v x_2))]) h_8 fun rv_4 h_9 => ∃ t32_1 : Sl, rv_4 = (Sl.v t32_1) ∧ Vars h_9 [(b_2, [(Sl.v x_1)]), (b_1, [(Sl.v nilSl)])] ∧
  eop P (appS 24 24 24 (Sl.v x_1) (Sl.v t32_1)) h_9 fun rv_5 h_10 => ∃ t33_1 : Sl, rv_5 = (Sl.v t33_1) ∧ Vars h_10 [(b_2, [(Sl.v x_1)]), (b_1, [(Sl.v nilSl)])] ∧
  ∀ (h_11 : Heap), Fr (In [b_2]) h_10 h_11 → Vars h_11 [(b_2, [(Sl.v t33_1)]), (b_1, [(Sl.v nilSl)])] →
  ∃ m : Nat, m < n_1 ∧ J_1 m (w64 (p6_1 + 1)) t33_1 h_11) ∧
  ((decide (p6_1 < n0_1)) = false →
  ∀ (h_12 : Heap), Fr (In [b_1]) h_4 h_12 → Vars h_12 [(b_2, [(Sl.v x_1)]), (b_1, [(Sl.v x_1)])] →
  K (Value.agg #[(Sl.v x_1)]) h_12)
theorem v135 (n0_1 : Int) (both1_1 : Bool) (h : Heap) (K : Value → Heap → Prop) (H : u135 Try.prog n0_1 both1_1 h K) : callM Try.prog 135 #[(VI n0_1), (VB both1_1)] h K := by
  refine c135 (VI n0_1) (VB both1_1) h K ?_
  unfold u135 at H
  unfold t135
  have hL : Vars h [] := .nil
  refine eop_alloc 26 zer26 rfl hL (fun b_1 h_1 hb_1 hf_1 hL_1 => ?_)
  refine pop.mk' (v := (Value.agg #[(Sl.v nilSl)])) (fun w => by kernel_rfl) ?_
  refine eop_alloc 26 zer26 rfl hL_1 (fun b_2 h_2 hb_2 hf_2 hL_2 => ?_)
  refine uop_loc siz26 hL_2 0 rfl 0 [(Sl.v nilSl)] rfl rfl rfl (Nat.le_of_ble_eq_true rfl) (L' := [(b_2, [(Sl.v nilSl)]), (b_1, [(Sl.v nilSl)])]) rfl (fun h_3 hf_3 hL_3 => ?_)
  have H := H b_1 b_2 h_3 (Nat.le_trans (Fr.size (Fr.r (In []) _)) hb_1) (Nat.le_trans (Fr.size (Fr.no' (Fr.r (In []) _) hf_1)) hb_2) (Fr.new (Fr.no' (Fr.no' (Fr.r (In []) _) hf_1) hf_2) (Nat.le_trans (Fr.size (Fr.no' (Fr.r (In []) _) hf_1)) hb_2) hf_3) hL_3
  obtain ⟨J_1, ⟨n_2, h0_1⟩, HB_2⟩ := H
  refine loop_intro (J := fun (n : Nat) (vs : List Value) (h' : Heap) => ∃ p6_1 : Int, ∃ x_1 : Sl, vs = [(VI p6_1)] ∧ J_1 n p6_1 x_1 h' ∧ Vars h' [(b_2, [(Sl.v x_1)]), (b_1, [(Sl.v nilSl)])]) n_2 ⟨0, nilSl, rfl, h0_1, hL_3⟩ ?_
  intro I_1 mu_1 hI_1 junk_1 tv_2 h_4 hi_1
  obtain ⟨n_1, ⟨p6_1, x_1, hv, hJ_1, hL_4⟩, hn_1⟩ := hI_1 _ _ hi_1
  cases hv
  have H := HB_2 n_1 p6_1 x_1 h_4 hJ_1 hL_4
  refine pop_lss .i64 p6_1 n0_1 ?_
  refine condM_b (fun hb_3 => ?_) (fun hb_3 => ?_)
  rotate_left
  ·have H := H.2 hb_3
   refine rop_locA agg26 hL_4 0 rfl 0 (vs := [(Sl.v x_1)]) rfl rfl ?_
   refine uop_loc siz26 hL_4 1 rfl 0 [(Sl.v x_1)] rfl rfl rfl (Nat.le_of_ble_eq_true rfl) (L' := [(b_2, [(Sl.v x_1)]), (b_1, [(Sl.v x_1)])]) rfl (fun h_12 hf_5 hL_12 => ?_)
   refine rop_locA agg26 hL_12 1 rfl 0 (vs := [(Sl.v x_1)]) rfl rfl ?_
   have H := H  h_12  (Fr.old (Fr.r (In []) _) hf_5) hL_12
   exact H
  have H := H.1 hb_3
  refine pop_add .i64 p6_1 1 ?_
  obtain ⟨hz_1, H⟩ := H
  refine pop_rem .i64 (w64 (p6_1 + 1)) n0_1 hz_1 ?_
  refine H.mono fun rv_1 h_5 H => ?_
  obtain ⟨t18_1, rfl, hL_5, H⟩ := H
  obtain ⟨J_2, H, HB_1⟩ := H
  refine ⟨fun (vs : List Value) (h' : Heap) => ∃ x_2 : Sl, vs = [(Sl.v x_2)] ∧ J_2 x_2 h' ∧ Vars h' [(b_2, [(Sl.v x_1)]), (b_1, [(Sl.v nilSl)])], ?_, ?_⟩
  ·refine condM_b (fun hb_4 => ?_) (fun hb_4 => ?_)
   rotate_left
   ·have H := H.2 hb_4
    exact ⟨t18_1, rfl, H, hL_5⟩
   have H := H.1 hb_4
   refine pop_add .i64 p6_1 n0_1 ?_
   refine pop_sub .i64 (w64 (p6_1 + n0_1)) 1 ?_
   obtain ⟨hz_2, H⟩ := H
   refine pop_rem .i64 (w64 ((w64 (p6_1 + n0_1)) - 1)) n0_1 hz_2 ?_
   refine H.mono fun rv_2 h_6 H => ?_
   obtain ⟨t27_1, rfl, hL_6, H⟩ := H
   refine H.mono fun rv_3 h_7 H => ?_
   obtain ⟨t28_1, rfl, hL_7, H⟩ := H
   exact ⟨t28_1, rfl, H, hL_7⟩
  intro junk_2 tv_1 h_8
  rintro ⟨x_2, hv, hJ_2, hL_8⟩
  cases hv
  have H := HB_1 x_2 h_8 hJ_2 hL_8
  refine pop_field 0 fld26_0 b_2 0 ?_
  refine rop_loc one24 hL_8 0 rfl 0 (v := (Sl.v x_1)) rfl ?_
  refine H.mono fun rv_4 h_9 H => ?_
  obtain ⟨t32_1, rfl, hL_9, H⟩ := H
  refine H.mono fun rv_5 h_10 H => ?_
  obtain ⟨t33_1, rfl, hL_10, H⟩ := H
  refine pop_field 0 fld26_0 b_2 0 ?_
  refine uop_loc siz24 hL_10 0 rfl 0 [(Sl.v t33_1)] rfl rfl rfl (Nat.le_of_ble_eq_true rfl) (L' := [(b_2, [(Sl.v t33_1)]), (b_1, [(Sl.v nilSl)])]) rfl (fun h_11 hf_4 hL_11 => ?_)
  refine pop_add .i64 p6_1 1 ?_
  have H := H  h_11  (Fr.old (Fr.r (In []) _) hf_4) hL_11
  obtain ⟨m_1, hm_1, H⟩ := H
  exact hn_1 _ _ ⟨m_1, hm_1, (w64 (p6_1 + 1)), t33_1, rfl, H, hL_11⟩

/-! (*spec.l1Cur).shuffled -/
def u136 (P : Program) (b_1 : Nat) (c0_1 : Sl) (c0_2 : Int) (c0_3 : Int) (n1_1 : Int) (h : Heap) (K : Value → Heap → Prop) : Prop :=
  ∃ J_1 : Nat → Sl → Int → Heap → Prop, (∃ n0 : Nat, J_1 n0 nilSl 0 h) ∧
  ∀ (n_1 : Nat) (out5_1 : Sl) (p6_1 : Int) (h_1 : Heap), J_1 n_1 out5_1 p6_1 h_1 → Vars h_1 [(b_1, [(Sl.v c0_1), (VI c0_2), (Value.int .u64 c0_3)])] →
  ((decide (p6_1 < n1_1)) = true →
  eop P (Instr.buildSlice 37 1 #[(0, (VI p6_1))]) h_1 fun rv_1 h_2 => ∃ t17_1 : Sl, rv_1 = (Sl.v t17_1) ∧ Vars h_2 [(b_1, [(Sl.v c0_1), (VI c0_2), (Value.int .u64 c0_3)])] ∧
  eop P (appS 37 37 37 (Sl.v out5_1) (Sl.v t17_1)) h_2 fun rv_2 h_3 => ∃ t18_1 : Sl, rv_2 = (Sl.v t18_1) ∧ Vars h_3 [(b_1, [(Sl.v c0_1), (VI c0_2), (Value.int .u64 c0_3)])] ∧
  ∃ m : Nat, m < n_1 ∧ J_1 m t18_1 (w64 (p6_1 + 1)) h_3) ∧
  ((decide (p6_1 < n1_1)) = false →
  ∃ J_2 : Nat → Int → Sl → Int → Int → Heap → Prop, (∃ n0 : Nat, J_2 n0 0 c0_1 c0_2 c0_3 h_1) ∧
  ∀ (n_2 : Nat) (t21_1 : Int) (x_1 : Sl) (x_2 : Int) (x_3 : Int) (h_4 : Heap), J_2 n_2 t21_1 x_1 x_2 x_3 h_4 → Vars h_4 [(b_1, [(Sl.v x_1), (VI x_2), (Value.int .u64 x_3)])] →
  ((decide (t21_1 < (out5_1.n : Int))) = true →
  callM P 70 #[(VP b_1 0), (VI n1_1)] h_4 fun rv_3 h_5 => ∃ x_4 : Sl, ∃ x_5 : Int, ∃ x_6 : Int, ∃ t26_1 : Int, rv_3 = (VI t26_1) ∧ Vars h_5 [(b_1, [(Sl.v x_4), (VI x_5), (Value.int .u64 x_6)])] ∧
  InB out5_1 t21_1 ∧
  ∃ t30_1 : Int, hcell h_5 (Sl.at out5_1 t21_1 1) = some (VI t30_1) ∧
  InB out5_1 t26_1 ∧
  ∃ t36_1 : Int, hcell h_5 (Sl.at out5_1 t26_1 1) = some (VI t36_1) ∧
  InB out5_1 t21_1 ∧
  Writable h_5 (Sl.at out5_1 t21_1 1) ∧ Vars (hset h_5 (Sl.at out5_1 t21_1 1) (VI t36_1)) [(b_1, [(Sl.v x_4), (VI x_5), (Value.int .u64 x_6)])] ∧
  ∀ h_6 : Heap, h_6 = hset h_5 (Sl.at out5_1 t21_1 1) (VI t36_1) → Vars h_6 [(b_1, [(Sl.v x_4), (VI x_5), (Value.int .u64 x_6)])] →
  InB out5_1 t26_1 ∧
  Writable h_6 (Sl.at out5_1 t26_1 1) ∧ Vars (hset h_6 (Sl.at out5_1 t26_1 1) (VI t30_1)) [(b_1, [(Sl.v x_4), (VI x_5), (Value.int .u64 x_6)])] ∧
  ∀ h_7 : Heap, h_7 = hset h_6 (Sl.at out5_1 t26_1 1) (VI t30_1) → Vars h_7 [(b_1, [(Sl.v x_4), (VI x_5), (Value.int .u64 x_6)])] →
  ∃ m : Nat, m < n_2 ∧ J_2 m (w64 (t21_1 + 1)) x_4 x_5 x_6 h_7) ∧
  ((decide (t21_1 < (out5_1.n : Int))) = false →
  K (Sl.v out5_1) h_4))
theorem v136 (b_1 : Nat) (c0_1 : Sl) (c0_2 : Int) (c0_3 : Int) (n1_1 : Int) (h : Heap) (K : Value → Heap → Prop) (hL : Vars h [(b_1, [(Sl.v c0_1), (VI c0_2), (Value.int .u64 c0_3)])]) (H : u136 Try.prog b_1 c0_1 c0_2 c0_3 n1_1 h K) : callM Try.prog 136 #[(VP b_1 0), (VI n1_1)] h K := by
  refine c136 (VP b_1 0) (VI n1_1) h K ?_
  unfold u136 at H
  unfold t136
  obtain ⟨J_1, ⟨n_4, h0_2⟩, HB_2⟩ := H
  refine loop_intro (J := fun (n : Nat) (vs : List Value) (h' : Heap) => ∃ out5_1 : Sl, ∃ p6_1 : Int, vs = [(Sl.v out5_1), (VI p6_1)] ∧ J_1 n out5_1 p6_1 h' ∧ Vars h' [(b_1, [(Sl.v c0_1), (VI c0_2), (Value.int .u64 c0_3)])]) n_4 ⟨nilSl, 0, rfl, h0_2, hL⟩ ?_
  intro I_2 mu_2 hI_2 junk_1 tv_2 tv_3 h_1 hi_1
  obtain ⟨n_1, ⟨out5_1, p6_1, hv, hJ_1, hL_1⟩, hn_1⟩ := hI_2 _ _ hi_1
  cases hv
  have H := HB_2 n_1 out5_1 p6_1 h_1 hJ_1 hL_1
  refine pop_lss .i64 p6_1 n1_1 ?_
  refine condM_b (fun hb_1 => ?_) (fun hb_1 => ?_)
  ·have H := H.1 hb_1
   refine H.mono fun rv_1 h_2 H => ?_
   obtain ⟨t17_1, rfl, hL_2, H⟩ := H
   refine H.mono fun rv_2 h_3 H => ?_
   obtain ⟨t18_1, rfl, hL_3, H⟩ := H
   refine pop_add .i64 p6_1 1 ?_
   obtain ⟨m_1, hm_1, H⟩ := H
   exact hn_1 _ _ ⟨m_1, hm_1, t18_1, (w64 (p6_1 + 1)), rfl, H, hL_3⟩
  have H := H.2 hb_1
  refine pop_len out5_1 _ _ sli37 ?_
  obtain ⟨J_2, ⟨n_3, h0_1⟩, HB_1⟩ := H
  refine loop_intro (J := fun (n : Nat) (vs : List Value) (h' : Heap) => ∃ t21_1 : Int, ∃ x_1 : Sl, ∃ x_2 : Int, ∃ x_3 : Int, vs = [(VI t21_1)] ∧ J_2 n t21_1 x_1 x_2 x_3 h' ∧ Vars h' [(b_1, [(Sl.v x_1), (VI x_2), (Value.int .u64 x_3)])]) n_3 ⟨0, c0_1, c0_2, c0_3, rfl, h0_1, hL_1⟩ ?_
  intro I_1 mu_1 hI_1 junk_2 tv_1 h_4 hi_2
  obtain ⟨n_2, ⟨t21_1, x_1, x_2, x_3, hv, hJ_2, hL_4⟩, hn_2⟩ := hI_1 _ _ hi_2
  cases hv
  have H := HB_1 n_2 t21_1 x_1 x_2 x_3 h_4 hJ_2 hL_4
  refine pop_lss .i64 t21_1 (out5_1.n : Int) ?_
  refine condM_b (fun hb_2 => ?_) (fun hb_2 => ?_)
  rotate_left
  ·have H := H.2 hb_2
   exact H
  have H := H.1 hb_2
  refine H.mono fun rv_3 h_5 H => ?_
  obtain ⟨x_4, x_5, x_6, t26_1, rfl, hL_5, H⟩ := H
  obtain ⟨hi_3, H⟩ := H
  refine pop_index sli37 siz3 .i64 out5_1 t21_1 hi_3 ?_
  obtain ⟨t30_1, hc_2, H⟩ := H
  refine rop_one one3 (VI t30_1) hc_2 ?_
  obtain ⟨hi_4, H⟩ := H
  refine pop_index sli37 siz3 .i64 out5_1 t26_1 hi_4 ?_
  obtain ⟨t36_1, hc_1, H⟩ := H
  refine rop_one one3 (VI t36_1) hc_1 ?_
  obtain ⟨hi_5, H⟩ := H
  refine pop_index sli37 siz3 .i64 out5_1 t21_1 hi_5 ?_
  obtain ⟨hw_1, hL_6, H⟩ := H
  refine uop_cell (v := (VI t36_1)) siz3 hw_1 rfl (fun h_6 he_1 => ?_)
  rw [← he_1] at hL_6
  have H := H h_6 he_1 hL_6
  obtain ⟨hi_6, H⟩ := H
  refine pop_index sli37 siz3 .i64 out5_1 t26_1 hi_6 ?_
  obtain ⟨hw_2, hL_7, H⟩ := H
  refine uop_cell (v := (VI t30_1)) siz3 hw_2 rfl (fun h_7 he_2 => ?_)
  rw [← he_2] at hL_7
  have H := H h_7 he_2 hL_7
  refine pop_add .i64 t21_1 1 ?_
  obtain ⟨m_2, hm_2, H⟩ := H
  exact hn_2 _ _ ⟨m_2, hm_2, (w64 (t21_1 + 1)), x_4, x_5, x_6, rfl, H, hL_7⟩

/-! slices.Repeat[[]int,int] -/
def u137 (P : Program) (x0_1 : Sl) (count1_1 : Int) (h : Heap) (K : Value → Heap → Prop) : Prop :=
  ∃ J_1 : Heap → Prop, (((decide (count1_1 < 0)) = true →
  pop P (Instr.makeInterface 9 (Value.string { data := #[99, 97, 110, 110, 111, 116, 32, 98, 101, 32, 110, 101, 103, 97, 116, 105, 118, 101] })) fun rv_1 => ∃ t11_1 : Value, rv_1 = t11_1 ∧ 
  False) ∧
  ((decide (count1_1 < 0)) = false →
  J_1  h)) ∧
  ∀ (h_1 : Heap), J_1  h_1 → Vars h_1 [] →
  rop P (convert 3 132 (VI (x0_1.n : Int))) h_1 fun rv_2 => ∃ t15_1 : Int, rv_2 = (Value.int .u64 t15_1) ∧ 
  rop P (convert 3 132 (VI count1_1)) h_1 fun rv_3 => ∃ t17_1 : Int, rv_3 = (Value.int .u64 t17_1) ∧ 
  callM P 141 #[(Value.int .u64 t15_1), (Value.int .u64 t17_1)] h_1 fun rv_4 h_2 => ∃ t18_1 : Int, ∃ t18_2 : Int, rv_4 = (Value.tuple #[(Value.int .u64 t18_1), (Value.int .u64 t18_2)]) ∧ Vars h_2 [] ∧
  ∃ J_2 : Heap → Prop, (((decide (0 < t18_1)) = true →
  pop P (Instr.makeInterface 9 (Value.string { data := #[116, 104, 101, 32, 114, 101, 115, 117, 108, 116, 32, 111, 102, 32, 40, 108, 101, 110, 40, 120, 41, 32, 42, 32, 99, 111, 117, 110, 116, 41, 32, 111, 118, 101, 114, 102, 108, 111, 119, 115] })) fun rv_6 => ∃ t27_2 : Value, rv_6 = t27_2 ∧ 
  False) ∧
  ((decide (0 < t18_1)) = false →
  ((decide (9223372036854775807 < t18_2)) = true →
  pop P (Instr.makeInterface 9 (Value.string { data := #[116, 104, 101, 32, 114, 101, 115, 117, 108, 116, 32, 111, 102, 32, 40, 108, 101, 110, 40, 120, 41, 32, 42, 32, 99, 111, 117, 110, 116, 41, 32, 111, 118, 101, 114, 102, 108, 111, 119, 115] })) fun rv_5 => ∃ t27_1 : Value, rv_5 = t27_1 ∧ 
  False) ∧
  ((decide (9223372036854775807 < t18_2)) = false →
  J_2  h_2))) ∧
  ∀ (h_3 : Heap), J_2  h_3 → Vars h_3 [] →
  rop P (convert 132 3 (Value.int .u64 t18_2)) h_3 fun rv_7 => ∃ t29_1 : Int, rv_7 = (VI t29_1) ∧ 
  eop P (Instr.makeSlice 37 (VI t29_1) (VI t29_1)) h_3 fun rv_8 h_4 => ∃ t30_1 : Sl, rv_8 = (Sl.v t30_1) ∧ Vars h_4 [] ∧
  eop P (Builtin.copy_ #[37, 37] 3 #[(Sl.v t30_1), (Sl.v x0_1)]) h_4 fun rv_9 h_5 => ∃ t33_1 : Int, rv_9 = (VI t33_1) ∧ Vars h_5 [] ∧
  ∃ J_3 : Nat → Int → Heap → Prop, (∃ n0 : Nat, J_3 n0 t33_1 h_5) ∧
  ∀ (n_1 : Nat) (n8_1 : Int) (h_6 : Heap), J_3 n_1 n8_1 h_6 → Vars h_6 [] →
  ((decide (n8_1 < (t30_1.n : Int))) = true →
  pop P (Instr.sliceAt 37 (Sl.v t30_1) (some (VI n8_1)) none none) fun rv_10 => ∃ t41_1 : Sl, rv_10 = (Sl.v t41_1) ∧ 
  pop P (Instr.sliceAt 37 (Sl.v t30_1) none (some (VI n8_1)) none) fun rv_11 => ∃ t44_1 : Sl, rv_11 = (Sl.v t44_1) ∧ 
  eop P (Builtin.copy_ #[37, 37] 3 #[(Sl.v t41_1), (Sl.v t44_1)]) h_6 fun rv_12 h_7 => ∃ t45_1 : Int, rv_12 = (VI t45_1) ∧ Vars h_7 [] ∧
  ∃ m : Nat, m < n_1 ∧ J_3 m (w64 (n8_1 + t45_1)) h_7) ∧
  ((decide (n8_1 < (t30_1.n : Int))) = false →
  K (Sl.v t30_1) h_6)
theorem v137 (x0_1 : Sl) (count1_1 : Int) (h : Heap) (K : Value → Heap → Prop) (H : u137 Try.prog x0_1 count1_1 h K) : callM Try.prog 137 #[(Sl.v x0_1), (VI count1_1)] h K := by
  refine c137 (Sl.v x0_1) (VI count1_1) h K ?_
  unfold u137 at H
  unfold t137
  have hL : Vars h [] := .nil
  obtain ⟨J_1, H, HB_3⟩ := H
  refine ⟨fun (vs : List Value) (h' : Heap) => vs = [] ∧ J_1  h' ∧ Vars h' [], ?_, ?_⟩
  ·refine pop_lss .i64 count1_1 0 ?_
   refine condM_b (fun hb_1 => ?_) (fun hb_1 => ?_)
   rotate_left
   ·have H := H.2 hb_1
    exact ⟨rfl, H, hL⟩
   have H := H.1 hb_1
   refine H.mono fun rv_1 H => ?_
   obtain ⟨t11_1, rfl, H⟩ := H
   exact H.elim
  intro junk_1  h_1
  rintro ⟨hv, hJ_1, hL_1⟩
  have H := HB_3  h_1 hJ_1 hL_1
  refine pop_len x0_1 _ _ sli37 ?_
  refine H.mono fun rv_2 H => ?_
  obtain ⟨t15_1, rfl, H⟩ := H
  refine H.mono fun rv_3 H => ?_
  obtain ⟨t17_1, rfl, H⟩ := H
  refine H.mono fun rv_4 h_2 H => ?_
  obtain ⟨t18_1, t18_2, rfl, hL_2, H⟩ := H
  refine pop_ext (v := (Value.int .u64 t18_1)) rfl ?_
  refine pop_ext (v := (Value.int .u64 t18_2)) rfl ?_
  obtain ⟨J_2, H, HB_2⟩ := H
  refine ⟨fun (vs : List Value) (h' : Heap) => vs = [] ∧ J_2  h' ∧ Vars h' [], ?_, ?_⟩
  ·refine pop_gtr .u64 t18_1 0 ?_
   refine guardM_sf (fun hb_2 => ?_) (fun hb_2 => ?_)
   rotate_left
   ·have H := H.1 hb_2
    refine guardM_n' hb_2 (by decide) ?_
    refine pop_pickt' hb_2 ?_
    refine condM_t ?_
    refine H.mono fun rv_6 H => ?_
    obtain ⟨t27_2, rfl, H⟩ := H
    exact H.elim
   have H := H.2 hb_2
   refine guardM_y' hb_2 ?_
   refine pop_gtr .u64 t18_2 9223372036854775807 ?_
   refine pop_pickf' hb_2 ?_
   refine condM_b (fun hb_3 => ?_) (fun hb_3 => ?_)
   rotate_left
   ·have H := H.2 hb_3
    exact ⟨rfl, H, hL_2⟩
   have H := H.1 hb_3
   refine H.mono fun rv_5 H => ?_
   obtain ⟨t27_1, rfl, H⟩ := H
   exact H.elim
  intro junk_2  h_3
  rintro ⟨hv, hJ_2, hL_3⟩
  have H := HB_2  h_3 hJ_2 hL_3
  refine H.mono fun rv_7 H => ?_
  obtain ⟨t29_1, rfl, H⟩ := H
  refine H.mono fun rv_8 h_4 H => ?_
  obtain ⟨t30_1, rfl, hL_4, H⟩ := H
  refine H.mono fun rv_9 h_5 H => ?_
  obtain ⟨t33_1, rfl, hL_5, H⟩ := H
  obtain ⟨J_3, ⟨n_2, h0_1⟩, HB_1⟩ := H
  refine loop_intro (J := fun (n : Nat) (vs : List Value) (h' : Heap) => ∃ n8_1 : Int, vs = [(VI n8_1)] ∧ J_3 n n8_1 h' ∧ Vars h' []) n_2 ⟨t33_1, rfl, h0_1, hL_5⟩ ?_
  intro I_1 mu_1 hI_1 junk_3 tv_1 h_6 hi_1
  obtain ⟨n_1, ⟨n8_1, hv, hJ_3, hL_6⟩, hn_1⟩ := hI_1 _ _ hi_1
  cases hv
  have H := HB_1 n_1 n8_1 h_6 hJ_3 hL_6
  refine pop_len t30_1 _ _ sli37 ?_
  refine pop_lss .i64 n8_1 (t30_1.n : Int) ?_
  refine condM_b (fun hb_4 => ?_) (fun hb_4 => ?_)
  rotate_left
  ·have H := H.2 hb_4
   exact H
  have H := H.1 hb_4
  refine H.mono fun rv_10 H => ?_
  obtain ⟨t41_1, rfl, H⟩ := H
  refine H.mono fun rv_11 H => ?_
  obtain ⟨t44_1, rfl, H⟩ := H
  refine H.mono fun rv_12 h_7 H => ?_
  obtain ⟨t45_1, rfl, hL_7, H⟩ := H
  refine pop_add .i64 n8_1 t45_1 ?_
  obtain ⟨m_1, hm_1, H⟩ := H
  exact hn_1 _ _ ⟨m_1, hm_1, (w64 (n8_1 + t45_1)), rfl, H, hL_7⟩

/-! impl.isGraph$1 -/
def u138 (P : Program) (q0_1 : Int) (b_1 : Nat) (t1_1 : Int) (h : Heap) (K : Value → Heap → Prop) : Prop :=
  callM P 71 #[(VI q0_1), (VI 0), (VI (w64 (t1_1 - 1)))] h fun rv_1 h_1 => ∃ t7_1 : Bool, rv_1 = (VB t7_1) ∧ Vars h_1 [(b_1, [(VI t1_1)])] ∧
  K (VB (!t7_1)) h_1
theorem v138 (q0_1 : Int) (b_1 : Nat) (t1_1 : Int) (h : Heap) (K : Value → Heap → Prop) (hL : Vars h [(b_1, [(VI t1_1)])]) (H : u138 Try.prog q0_1 b_1 t1_1 h K) : callM Try.prog 138 #[(VI q0_1), (VP b_1 0)] h K := by
  refine c138 (VI q0_1) (VP b_1 0) h K ?_
  unfold u138 at H
  unfold t138
  refine rop_loc one3 hL 0 rfl 0 (v := (VI t1_1)) rfl ?_
  refine pop_sub .i64 t1_1 1 ?_
  refine H.mono fun rv_1 h_1 H => ?_
  obtain ⟨t7_1, rfl, hL_1, H⟩ := H
  refine pop_not t7_1 ?_
  exact H

/-! impl.isWalk -/
def u139 (P : Program) (g0_1 : Sl) (w1_1 : Sl) (w1_2 : Int) (h : Heap) (K : Value → Heap → Prop) : Prop :=
  ∀ (b_1 : Nat) (b_2 : Nat) (h_2 : Heap), h.size ≤ b_1 → h.size ≤ b_2 → Fr (In []) h h_2 → Vars h_2 [(b_2, [(Sl.v w1_1), (VI w1_2)]), (b_1, [(Sl.v g0_1)])] →
  eop P (Instr.buildSlice 37 1 #[(0, (VI w1_2))]) h_2 fun rv_1 h_3 => ∃ t10_1 : Sl, rv_1 = (Sl.v t10_1) ∧ Vars h_3 [(b_2, [(Sl.v w1_1), (VI w1_2)]), (b_1, [(Sl.v g0_1)])] ∧
  callM P 63 #[(Value.agg #[(Sl.v g0_1)]), (Sl.v t10_1)] h_3 fun rv_2 h_4 => ∃ t11_1 : Bool, rv_2 = (VB t11_1) ∧ Vars h_4 [(b_2, [(Sl.v w1_1), (VI w1_2)]), (b_1, [(Sl.v g0_1)])] ∧
  ((!t11_1) = true →
  K (VB false) h_4) ∧
  ((!t11_1) = false →
  ((!decide ((w1_1.n : Int) = (g0_1.n : Int))) = true →
  K (VB false) h_4) ∧
  ((!decide ((w1_1.n : Int) = (g0_1.n : Int))) = false →
  ∃ J_1 : Nat → Int → Heap → Prop, (∃ n0 : Nat, J_1 n0 0 h_4) ∧
  ∀ (n_1 : Nat) (t25_1 : Int) (h_5 : Heap), J_1 n_1 t25_1 h_5 → Vars h_5 [(b_2, [(Sl.v w1_1), (VI w1_2)]), (b_1, [(Sl.v g0_1)])] →
  ((decide (t25_1 < (w1_1.n : Int))) = true →
  InB w1_1 t25_1 ∧
  ∃ t29_1 : Int, hcell h_5 (Sl.at w1_1 t25_1 1) = some (VI t29_1) ∧
  InB g0_1 t25_1 ∧
  ∃ t35_1 : Sl, hcell h_5 (Sl.at g0_1 t25_1 1) = some (Sl.v t35_1) ∧
  pop P (Builtin.max_ #[3, 3] 3 #[(VI (w64 ((t35_1.n : Int) - 1))), (Value.int IntKind.i64 0)]) fun rv_3 => ∃ t38_1 : Int, rv_3 = (VI t38_1) ∧ 
  callM P 71 #[(VI t29_1), (VI 0), (VI t38_1)] h_5 fun rv_4 h_6 => ∃ t39_1 : Bool, rv_4 = (VB t39_1) ∧ Vars h_6 [(b_2, [(Sl.v w1_1), (VI w1_2)]), (b_1, [(Sl.v g0_1)])] ∧
  ((!t39_1) = true →
  K (VB false) h_6) ∧
  ((!t39_1) = false →
  ∃ m : Nat, m < n_1 ∧ J_1 m (w64 (t25_1 + 1)) h_6)) ∧
  ((decide (t25_1 < (w1_1.n : Int))) = false →
  K (VB true) h_5)))
theorem v139 (g0_1 : Sl) (w1_1 : Sl) (w1_2 : Int) (h : Heap) (K : Value → Heap → Prop) (H : u139 Try.prog g0_1 w1_1 w1_2 h K) : callM Try.prog 139 #[(Value.agg #[(Sl.v g0_1)]), (Value.agg #[(Sl.v w1_1), (VI w1_2)])] h K := by
  refine c139 (Value.agg #[(Sl.v g0_1)]) (Value.agg #[(Sl.v w1_1), (VI w1_2)]) h K ?_
  unfold u139 at H
  unfold t139
  have hL : Vars h [] := .nil
  refine eop_box 26 (Value.agg #[(Sl.v g0_1)]) rfl hL (fun b_1 h_1 hb_1 hf_1 hL_1 => ?_)
  refine eop_box 114 (Value.agg #[(Sl.v w1_1), (VI w1_2)]) rfl hL_1 (fun b_2 h_2 hb_2 hf_2 hL_2 => ?_)
  refine rop_locA agg26 hL_2 1 rfl 0 (vs := [(Sl.v g0_1)]) rfl rfl ?_
  refine pop_field 1 fld114_1 b_2 0 ?_
  refine rop_loc one3 hL_2 0 rfl 1 (v := (VI w1_2)) rfl ?_
  have H := H b_1 b_2 h_2 (Nat.le_trans (Fr.size (Fr.r (In []) _)) hb_1) (Nat.le_trans (Fr.size (Fr.no' (Fr.r (In []) _) hf_1)) hb_2) (Fr.no' (Fr.no' (Fr.r (In []) _) hf_1) hf_2) hL_2
  refine H.mono fun rv_1 h_3 H => ?_
  obtain ⟨t10_1, rfl, hL_3, H⟩ := H
  refine H.mono fun rv_2 h_4 H => ?_
  obtain ⟨t11_1, rfl, hL_4, H⟩ := H
  refine pop_not t11_1 ?_
  refine guardM_sf (fun hb_3 => ?_) (fun hb_3 => ?_)
  rotate_left
  ·have H := H.1 hb_3
   refine guardM_n' hb_3 (by decide) ?_
   refine guardM_n' hb_3 (by decide) ?_
   refine guardM_n' hb_3 (by decide) ?_
   refine guardM_n' hb_3 (by decide) ?_
   refine guardM_n' hb_3 (by decide) ?_
   refine guardM_n' hb_3 (by decide) ?_
   refine pop_pickt' hb_3 ?_
   refine condM_t ?_
   exact H
  have H := H.2 hb_3
  refine pop_field 0 fld114_0 b_2 0 ?_
  refine guardM_y' hb_3 ?_
  refine rop_loc one37 hL_4 0 rfl 0 (v := (Sl.v w1_1)) rfl ?_
  refine guardM_y' hb_3 ?_
  refine pop_len w1_1 _ _ sli37 ?_
  refine guardM_y' hb_3 ?_
  refine pop_field 0 fld26_0 b_1 0 ?_
  refine guardM_y' hb_3 ?_
  refine rop_loc one24 hL_4 1 rfl 0 (v := (Sl.v g0_1)) rfl ?_
  refine guardM_y' hb_3 ?_
  refine pop_len g0_1 _ _ sli24 ?_
  refine guardM_y' hb_3 ?_
  refine pop_ine .i64 _ _ (w1_1.n : Int) (g0_1.n : Int) ?_
  refine pop_pickf' hb_3 ?_
  refine condM_b (fun hb_4 => ?_) (fun hb_4 => ?_)
  ·have H := H.1 hb_4
   exact H
  have H := H.2 hb_4
  refine pop_field 0 fld114_0 b_2 0 ?_
  refine rop_loc one37 hL_4 0 rfl 0 (v := (Sl.v w1_1)) rfl ?_
  refine pop_len w1_1 _ _ sli37 ?_
  obtain ⟨J_1, ⟨n_2, h0_1⟩, HB_1⟩ := H
  refine loop_intro (J := fun (n : Nat) (vs : List Value) (h' : Heap) => ∃ t25_1 : Int, vs = [(VI t25_1)] ∧ J_1 n t25_1 h' ∧ Vars h' [(b_2, [(Sl.v w1_1), (VI w1_2)]), (b_1, [(Sl.v g0_1)])]) n_2 ⟨0, rfl, h0_1, hL_4⟩ ?_
  intro I_1 mu_1 hI_1 junk_1 tv_1 h_5 hi_1
  obtain ⟨n_1, ⟨t25_1, hv, hJ_1, hL_5⟩, hn_1⟩ := hI_1 _ _ hi_1
  cases hv
  have H := HB_1 n_1 t25_1 h_5 hJ_1 hL_5
  refine pop_lss .i64 t25_1 (w1_1.n : Int) ?_
  refine condM_b (fun hb_5 => ?_) (fun hb_5 => ?_)
  rotate_left
  ·have H := H.2 hb_5
   exact H
  have H := H.1 hb_5
  obtain ⟨hi_2, H⟩ := H
  refine pop_index sli37 siz3 .i64 w1_1 t25_1 hi_2 ?_
  obtain ⟨t29_1, hc_2, H⟩ := H
  refine rop_one one3 (VI t29_1) hc_2 ?_
  refine pop_field 0 fld26_0 b_1 0 ?_
  refine rop_loc one24 hL_5 1 rfl 0 (v := (Sl.v g0_1)) rfl ?_
  obtain ⟨hi_3, H⟩ := H
  refine pop_index sli24 siz37 .i64 g0_1 t25_1 hi_3 ?_
  obtain ⟨t35_1, hc_1, H⟩ := H
  refine rop_one one37 (Sl.v t35_1) hc_1 ?_
  refine pop_len t35_1 _ _ sli37 ?_
  refine pop_sub .i64 (t35_1.n : Int) 1 ?_
  refine H.mono fun rv_3 H => ?_
  obtain ⟨t38_1, rfl, H⟩ := H
  refine H.mono fun rv_4 h_6 H => ?_
  obtain ⟨t39_1, rfl, hL_6, H⟩ := H
  refine pop_not t39_1 ?_
  refine condM_b (fun hb_6 => ?_) (fun hb_6 => ?_)
  ·have H := H.1 hb_6
   exact H
  have H := H.2 hb_6
  refine pop_add .i64 t25_1 1 ?_
  obtain ⟨m_1, hm_1, H⟩ := H
  exact hn_1 _ _ ⟨m_1, hm_1, (w64 (t25_1 + 1)), rfl, H, hL_6⟩

/-! (*spec.trSearch).loops -/
def u140 (P : Program) (b_1 : Nat) (s0_1 : Sl) (s0_2 : Int) (s0_3 : Sl) (s0_4 : Sl) (s0_5 : Int) (p1_1 : Int) (h : Heap) (K : Value → Heap → Prop) : Prop :=
  ∃ J_1 : Nat → Int → Int → Heap → Prop, (∃ n0 : Nat, J_1 n0 p1_1 0 h) ∧
  ∀ (n_1 : Nat) (q5_1 : Int) (n6_1 : Int) (h_1 : Heap), J_1 n_1 q5_1 n6_1 h_1 → Vars h_1 [(b_1, [(Sl.v s0_1), (VI s0_2), (Sl.v s0_3), (Sl.v s0_4), (VI s0_5)])] →
  ((decide (n6_1 ≤ (s0_1.n : Int))) = true →
  ((decide (q5_1 = s0_2)) = true →
  K (VB false) h_1) ∧
  ((decide (q5_1 = s0_2)) = false →
  ((decide (p1_1 < q5_1)) = true →
  K (VB false) h_1) ∧
  ((decide (p1_1 < q5_1)) = false →
  callM P 134 #[(Value.agg #[(Sl.v s0_1)]), (Sl.v s0_3), (VI q5_1)] h_1 fun rv_1 h_2 => ∃ t38_1 : Int, rv_1 = (VI t38_1) ∧ Vars h_2 [(b_1, [(Sl.v s0_1), (VI s0_2), (Sl.v s0_3), (Sl.v s0_4), (VI s0_5)])] ∧
  ((decide (t38_1 < 0)) = true →
  K (VB true) h_2) ∧
  ((decide (t38_1 < 0)) = false →
  ∃ m : Nat, m < n_1 ∧ J_1 m t38_1 (w64 (n6_1 + 1)) h_2)))) ∧
  ((decide (n6_1 ≤ (s0_1.n : Int))) = false →
  K (VB true) h_1)
theorem v140 (b_1 : Nat) (s0_1 : Sl) (s0_2 : Int) (s0_3 : Sl) (s0_4 : Sl) (s0_5 : Int) (p1_1 : Int) (h : Heap) (K : Value → Heap → Prop) (hL : Vars h [(b_1, [(Sl.v s0_1), (VI s0_2), (Sl.v s0_3), (Sl.v s0_4), (VI s0_5)])]) (H : u140 Try.prog b_1 s0_1 s0_2 s0_3 s0_4 s0_5 p1_1 h K) : callM Try.prog 140 #[(VP b_1 0), (VI p1_1)] h K := by
  refine c140 (VP b_1 0) (VI p1_1) h K ?_
  unfold u140 at H
  unfold t140
  obtain ⟨J_1, ⟨n_2, h0_1⟩, HB_1⟩ := H
  refine loop_intro (J := fun (n : Nat) (vs : List Value) (h' : Heap) => ∃ q5_1 : Int, ∃ n6_1 : Int, vs = [(VI q5_1), (VI n6_1)] ∧ J_1 n q5_1 n6_1 h' ∧ Vars h' [(b_1, [(Sl.v s0_1), (VI s0_2), (Sl.v s0_3), (Sl.v s0_4), (VI s0_5)])]) n_2 ⟨p1_1, 0, rfl, h0_1, hL⟩ ?_
  intro I_1 mu_1 hI_1 junk_1 tv_1 tv_2 h_1 hi_1
  obtain ⟨n_1, ⟨q5_1, n6_1, hv, hJ_1, hL_1⟩, hn_1⟩ := hI_1 _ _ hi_1
  cases hv
  have H := HB_1 n_1 q5_1 n6_1 h_1 hJ_1 hL_1
  refine pop_nil _ ?_
  refine pop_field 0 fld126_0 b_1 0 ?_
  refine pop_field 0 fld26_0 b_1 0 ?_
  refine rop_loc one24 hL_1 0 rfl 0 (v := (Sl.v s0_1)) rfl ?_
  refine pop_len s0_1 _ _ sli24 ?_
  refine pop_leq .i64 n6_1 (s0_1.n : Int) ?_
  refine condM_b (fun hb_1 => ?_) (fun hb_1 => ?_)
  rotate_left
  ·have H := H.2 hb_1
   exact H
  have H := H.1 hb_1
  refine pop_nil _ ?_
  refine pop_field 1 fld126_1 b_1 0 ?_
  refine rop_loc one3 hL_1 0 rfl 1 (v := (VI s0_2)) rfl ?_
  refine pop_ieq .i64 _ _ q5_1 s0_2 ?_
  refine guardM_sf (fun hb_2 => ?_) (fun hb_2 => ?_)
  rotate_left
  ·have H := H.1 hb_2
   refine guardM_n' hb_2 (by decide) ?_
   refine guardM_n' hb_2 (by decide) ?_
   refine pop_pickt' hb_2 ?_
   refine condM_t ?_
   exact H
  have H := H.2 hb_2
  refine guardM_y' hb_2 ?_
  refine guardM_y' hb_2 ?_
  refine pop_gtr .i64 q5_1 p1_1 ?_
  refine pop_pickf' hb_2 ?_
  refine condM_b (fun hb_3 => ?_) (fun hb_3 => ?_)
  ·have H := H.1 hb_3
   exact H
  have H := H.2 hb_3
  refine pop_nil _ ?_
  refine pop_field 0 fld126_0 b_1 0 ?_
  refine rop_locA agg26 hL_1 0 rfl 0 (vs := [(Sl.v s0_1)]) rfl rfl ?_
  refine pop_nil _ ?_
  refine pop_field 2 fld126_2 b_1 0 ?_
  refine rop_loc one37 hL_1 0 rfl 2 (v := (Sl.v s0_3)) rfl ?_
  refine H.mono fun rv_1 h_2 H => ?_
  obtain ⟨t38_1, rfl, hL_2, H⟩ := H
  refine pop_lss .i64 t38_1 0 ?_
  refine condM_b (fun hb_4 => ?_) (fun hb_4 => ?_)
  ·have H := H.1 hb_4
   exact H
  have H := H.2 hb_4
  refine pop_add .i64 n6_1 1 ?_
  obtain ⟨m_1, hm_1, H⟩ := H
  exact hn_1 _ _ ⟨m_1, hm_1, t38_1, (w64 (n6_1 + 1)), rfl, H, hL_2⟩

/-! math/bits.Mul -/
def u141 (P : Program) (x0_1 : Int) (y1_1 : Int) (h : Heap) (K : Value → Heap → Prop) : Prop :=
  callM P 143 #[(Value.int .u64 x0_1), (Value.int .u64 y1_1)] h fun rv_1 h_1 => ∃ t25_1 : Int, ∃ t25_2 : Int, rv_1 = (Value.tuple #[(Value.int .u64 t25_1), (Value.int .u64 t25_2)]) ∧ Vars h_1 [] ∧
  K (Value.tuple #[(Value.int .u64 t25_1), (Value.int .u64 t25_2)]) h_1
theorem v141 (x0_1 : Int) (y1_1 : Int) (h : Heap) (K : Value → Heap → Prop) (H : u141 Try.prog x0_1 y1_1 h K) : callM Try.prog 141 #[(Value.int .u64 x0_1), (Value.int .u64 y1_1)] h K := by
  refine c141 (Value.int .u64 x0_1) (Value.int .u64 y1_1) h K ?_
  unfold u141 at H
  unfold t141
  have hL : Vars h [] := .nil
  refine condM_f ?_
  refine H.mono fun rv_1 h_1 H => ?_
  obtain ⟨t25_1, t25_2, rfl, hL_1, H⟩ := H
  refine pop_ext (v := (Value.int .u64 t25_1)) rfl ?_
  refine pop_ext (v := (Value.int .u64 t25_2)) rfl ?_
  exact H

/-! math/bits.Mul32 -/
def u142 (P : Program) (x0_1 : Int) (y1_1 : Int) (h : Heap) (K : Value → Heap → Prop) : Prop :=
  rop P (convert 135 67 (Value.int .u32 x0_1)) h fun rv_1 => ∃ t8_1 : Int, rv_1 = (Value.int .u64 t8_1) ∧ 
  rop P (convert 135 67 (Value.int .u32 y1_1)) h fun rv_2 => ∃ t10_1 : Int, rv_2 = (Value.int .u64 t10_1) ∧ 
  pop P (binA .shr 67 (Value.int .u64 (IntKind.wrap .u64 (t8_1 * t10_1))) (Value.int IntKind.u64 32)) fun rv_3 => ∃ t13_1 : Int, rv_3 = (Value.int .u64 t13_1) ∧ 
  rop P (convert 67 135 (Value.int .u64 t13_1)) h fun rv_4 => ∃ t14_1 : Int, rv_4 = (Value.int .u32 t14_1) ∧ 
  rop P (convert 67 135 (Value.int .u64 (IntKind.wrap .u64 (t8_1 * t10_1)))) h fun rv_5 => ∃ t16_1 : Int, rv_5 = (Value.int .u32 t16_1) ∧ 
  K (Value.tuple #[(Value.int .u32 t14_1), (Value.int .u32 t16_1)]) h
theorem v142 (x0_1 : Int) (y1_1 : Int) (h : Heap) (K : Value → Heap → Prop) (H : u142 Try.prog x0_1 y1_1 h K) : callM Try.prog 142 #[(Value.int .u32 x0_1), (Value.int .u32 y1_1)] h K := by
  refine c142 (Value.int .u32 x0_1) (Value.int .u32 y1_1) h K ?_
  unfold u142 at H
  unfold t142
  have hL : Vars h [] := .nil
  refine H.mono fun rv_1 H => ?_
  obtain ⟨t8_1, rfl, H⟩ := H
  refine H.mono fun rv_2 H => ?_
  obtain ⟨t10_1, rfl, H⟩ := H
  refine pop_mul .u64 t8_1 t10_1 ?_
  refine H.mono fun rv_3 H => ?_
  obtain ⟨t13_1, rfl, H⟩ := H
  refine H.mono fun rv_4 H => ?_
  obtain ⟨t14_1, rfl, H⟩ := H
  refine H.mono fun rv_5 H => ?_
  obtain ⟨t16_1, rfl, H⟩ := H
  exact H

/-! math/bits.Mul64 -/
def u143 (P : Program) (x0_1 : Int) (y1_1 : Int) (h : Heap) (K : Value → Heap → Prop) : Prop :=
  pop P (binA .and 67 (Value.int .u64 x0_1) (Value.int IntKind.u64 4294967295)) fun rv_1 => ∃ t15_1 : Int, rv_1 = (Value.int .u64 t15_1) ∧ 
  pop P (binA .shr 67 (Value.int .u64 x0_1) (Value.int IntKind.u64 32)) fun rv_2 => ∃ t17_1 : Int, rv_2 = (Value.int .u64 t17_1) ∧ 
  pop P (binA .and 67 (Value.int .u64 y1_1) (Value.int IntKind.u64 4294967295)) fun rv_3 => ∃ t19_1 : Int, rv_3 = (Value.int .u64 t19_1) ∧ 
  pop P (binA .shr 67 (Value.int .u64 y1_1) (Value.int IntKind.u64 32)) fun rv_4 => ∃ t21_1 : Int, rv_4 = (Value.int .u64 t21_1) ∧ 
  pop P (binA .shr 67 (Value.int .u64 (IntKind.wrap .u64 (t15_1 * t19_1))) (Value.int IntKind.u64 32)) fun rv_5 => ∃ t29_1 : Int, rv_5 = (Value.int .u64 t29_1) ∧ 
  pop P (binA .and 67 (Value.int .u64 (IntKind.wrap .u64 ((IntKind.wrap .u64 (t17_1 * t19_1)) + t29_1))) (Value.int IntKind.u64 4294967295)) fun rv_6 => ∃ t32_1 : Int, rv_6 = (Value.int .u64 t32_1) ∧ 
  pop P (binA .shr 67 (Value.int .u64 (IntKind.wrap .u64 ((IntKind.wrap .u64 (t17_1 * t19_1)) + t29_1))) (Value.int IntKind.u64 32)) fun rv_7 => ∃ t34_1 : Int, rv_7 = (Value.int .u64 t34_1) ∧ 
  pop P (binA .shr 67 (Value.int .u64 (IntKind.wrap .u64 (t32_1 + (IntKind.wrap .u64 (t15_1 * t21_1))))) (Value.int IntKind.u64 32)) fun rv_8 => ∃ t46_1 : Int, rv_8 = (Value.int .u64 t46_1) ∧ 
  K (Value.tuple #[(Value.int .u64 (IntKind.wrap .u64 ((IntKind.wrap .u64 ((IntKind.wrap .u64 (t17_1 * t21_1)) + t34_1)) + t46_1))), (Value.int .u64 (IntKind.wrap .u64 (x0_1 * y1_1)))]) h
theorem v143 (x0_1 : Int) (y1_1 : Int) (h : Heap) (K : Value → Heap → Prop) (H : u143 Try.prog x0_1 y1_1 h K) : callM Try.prog 143 #[(Value.int .u64 x0_1), (Value.int .u64 y1_1)] h K := by
  refine c143 (Value.int .u64 x0_1) (Value.int .u64 y1_1) h K ?_
  unfold u143 at H
  unfold t143
  have hL : Vars h [] := .nil
  refine H.mono fun rv_1 H => ?_
  obtain ⟨t15_1, rfl, H⟩ := H
  refine H.mono fun rv_2 H => ?_
  obtain ⟨t17_1, rfl, H⟩ := H
  refine H.mono fun rv_3 H => ?_
  obtain ⟨t19_1, rfl, H⟩ := H
  refine H.mono fun rv_4 H => ?_
  obtain ⟨t21_1, rfl, H⟩ := H
  refine pop_mul .u64 t15_1 t19_1 ?_
  refine pop_mul .u64 t17_1 t19_1 ?_
  refine H.mono fun rv_5 H => ?_
  obtain ⟨t29_1, rfl, H⟩ := H
  refine pop_add .u64 (IntKind.wrap .u64 (t17_1 * t19_1)) t29_1 ?_
  refine H.mono fun rv_6 H => ?_
  obtain ⟨t32_1, rfl, H⟩ := H
  refine H.mono fun rv_7 H => ?_
  obtain ⟨t34_1, rfl, H⟩ := H
  refine pop_mul .u64 t15_1 t21_1 ?_
  refine pop_add .u64 t32_1 (IntKind.wrap .u64 (t15_1 * t21_1)) ?_
  refine pop_mul .u64 t17_1 t21_1 ?_
  refine pop_add .u64 (IntKind.wrap .u64 (t17_1 * t21_1)) t34_1 ?_
  refine H.mono fun rv_8 H => ?_
  obtain ⟨t46_1, rfl, H⟩ := H
  refine pop_add .u64 (IntKind.wrap .u64 ((IntKind.wrap .u64 (t17_1 * t21_1)) + t34_1)) t46_1 ?_
  refine pop_mul .u64 x0_1 y1_1 ?_
  exact H

end Go.Proofs.Ytgiamamfnpklkaa
