import Derived.Test.YtkjkfjkapbpgiaaGreatStacksPoppedU
import Derived.Test.YtkjkfjkapbpgiaaGreatStacksPoppedT1
import Derived.Test.YtkjkfjkapbpgiaaGreatM2
set_option linter.unusedVariables false
set_option linter.unusedSimpArgs false
set_option maxRecDepth 100000
set_option maxHeartbeats 16000000
namespace Go.Proofs.YtkjkfjkapbpgiaaGreat
open Go Go.Mx
theorem v59 (s0_1 : Sl) (sink1_1 : Int) (h : Heap) (K : Value → Heap → Prop) (H : u59 Tryz.prog s0_1 sink1_1 h K) : callM Tryz.prog 59 #[(Value.agg #[(Sl.v s0_1)]), (VI sink1_1)] h K := by
  refine c59 (Value.agg #[(Sl.v s0_1)]) (VI sink1_1) h K ?_
  unfold u59 at H
  unfold t59
  have hL : Vars h [] := .nil
  refine eop_box 28 (Value.agg #[(Sl.v s0_1)]) rfl hL (fun b_1 h_1 hb_1 hf_1 hL_1 => ?_)
  have H := H b_1 h_1 (Nat.le_trans (Fr.size (Fr.r (In []) _)) hb_1) (Fr.no' (Fr.r (In []) _) hf_1) hL_1
  refine H.mono fun rv_1 h_2 H => ?_
  obtain ⟨t9_1, rfl, hL_2, H⟩ := H
  refine pop_field 0 fld28_0 b_1 0 ?_
  refine rop_loc one24 hL_2 0 rfl 0 (v := (Sl.v s0_1)) rfl ?_
  refine pop_len s0_1 _ _ sli24 ?_
  obtain ⟨J_1, ⟨n_2, h0_1⟩, HB_1⟩ := H
  refine loop_intro (J := fun (n : Nat) (vs : List Value) (h' : Heap) => ∃ out6_1 : Sl, ∃ t13_1 : Int, vs = [(Sl.v out6_1), (VI t13_1)] ∧ J_1 n out6_1 t13_1 h' ∧ Vars h' [(b_1, [(Sl.v s0_1)])]) n_2 ⟨t9_1, 0, rfl, h0_1, hL_2⟩ ?_
  intro I_1 mu_1 hI_1 junk_1 tv_1 tv_2 h_3 hi_1
  obtain ⟨n_1, ⟨out6_1, t13_1, hv, hJ_1, hL_3⟩, hn_1⟩ := hI_1 _ _ hi_1
  cases hv
  have H := HB_1 n_1 out6_1 t13_1 h_3 hJ_1 hL_3
  refine pop_lss .i64 t13_1 (s0_1.n : Int) ?_
  refine condM_b (fun hb_2 => ?_) (fun hb_2 => ?_)
  rotate_left
  ·have H := H.2 hb_2
   exact H
  have H := H.1 hb_2
  obtain ⟨hi_2, H⟩ := H
  refine pop_index sli24 siz29 .i64 s0_1 t13_1 hi_2 ?_
  obtain ⟨t17_1, hc_2, H⟩ := H
  refine rop_one one29 (Sl.v t17_1) hc_2 ?_
  refine pop_ieq .i64 _ _ t13_1 sink1_1 ?_
  refine condM_b (fun hb_3 => ?_) (fun hb_3 => ?_)
  ·have H := H.1 hb_3
   refine H.mono fun rv_2 h_4 H => ?_
   obtain ⟨t29_1, rfl, hL_4, H⟩ := H
   refine H.mono fun rv_3 h_5 H => ?_
   obtain ⟨t30_1, rfl, hL_5, H⟩ := H
   refine pop_add .i64 t13_1 1 ?_
   obtain ⟨m_1, hm_1, H⟩ := H
   exact hn_1 _ _ ⟨m_1, hm_1, t30_1, (w64 (t13_1 + 1)), rfl, H, hL_5⟩
  have H := H.2 hb_3
  refine pop_len t17_1 _ _ sli29 ?_
  refine pop_ieq .i64 _ _ (t17_1.n : Int) 0 ?_
  refine condM_b (fun hb_4 => ?_) (fun hb_4 => ?_)
  ·have H := H.1 hb_4
   exact H
  have H := H.2 hb_4
  obtain ⟨hi_3, H⟩ := H
  refine pop_index sli29 siz3 .i64 t17_1 0 hi_3 ?_
  obtain ⟨t21_1, hc_1, H⟩ := H
  refine rop_one one3 (VI t21_1) hc_1 ?_
  refine H.mono fun rv_4 h_6 H => ?_
  obtain ⟨t22_1, rfl, hL_6, H⟩ := H
  refine H.mono fun rv_5 h_7 H => ?_
  obtain ⟨t23_1, rfl, hL_7, H⟩ := H
  refine pop_add .i64 t13_1 1 ?_
  obtain ⟨m_2, hm_2, H⟩ := H
  exact hn_1 _ _ ⟨m_2, hm_2, t23_1, (w64 (t13_1 + 1)), rfl, H, hL_7⟩
def u60 (P : Program) (g0_1 : Sl) (sink1_1 : Int) (s2_1 : Sl) (h : Heap) (K : Value → Heap → Prop) : Prop :=
  ∀ (b_1 : Nat) (b_2 : Nat) (h_2 : Heap), h.size ≤ b_1 → h.size ≤ b_2 → Fr (In []) h h_2 → Vars h_2 [(b_2, [(Sl.v s2_1)]), (b_1, [(Sl.v g0_1)])] →
  eop P (Instr.makeSlice 29 (VI (g0_1.n : Int)) (VI (g0_1.n : Int))) h_2 fun rv_1 h_3 => ∃ t14_1 : Sl, rv_1 = (Sl.v t14_1) ∧ Vars h_3 [(b_2, [(Sl.v s2_1)]), (b_1, [(Sl.v g0_1)])] ∧
  ∃ J_1 : Nat → Int → Heap → Prop, (∃ n0 : Nat, J_1 n0 0 h_3) ∧
  ∀ (n_1 : Nat) (t18_1 : Int) (h_4 : Heap), J_1 n_1 t18_1 h_4 → Vars h_4 [(b_2, [(Sl.v s2_1)]), (b_1, [(Sl.v g0_1)])] →
  ((decide (t18_1 < (s2_1.n : Int))) = true →
  InB s2_1 t18_1 ∧
  ∃ t22_1 : Sl, hcell h_4 (Sl.at s2_1 t18_1 1) = some (Sl.v t22_1) ∧
  ((decide (t18_1 = sink1_1)) = true →
  ∃ m : Nat, m < n_1 ∧ J_1 m (w64 (t18_1 + 1)) h_4) ∧
  ((decide (t18_1 = sink1_1)) = false →
  ((decide ((t22_1.n : Int) = 0)) = true →
  K (Value.tuple #[(Sl.v nilSl), (VB false)]) h_4) ∧
  ((decide ((t22_1.n : Int) = 0)) = false →
  InB t22_1 0 ∧
  ∃ t33_1 : Int, hcell h_4 (Sl.at t22_1 0 1) = some (VI t33_1) ∧
  InB t14_1 t18_1 ∧
  Writable h_4 (Sl.at t14_1 t18_1 1) ∧ Vars (hset h_4 (Sl.at t14_1 t18_1 1) (VI t33_1)) [(b_2, [(Sl.v s2_1)]), (b_1, [(Sl.v g0_1)])] ∧
  ∀ h_5 : Heap, h_5 = hset h_4 (Sl.at t14_1 t18_1 1) (VI t33_1) → Vars h_5 [(b_2, [(Sl.v s2_1)]), (b_1, [(Sl.v g0_1)])] →
  ∃ m : Nat, m < n_1 ∧ J_1 m (w64 (t18_1 + 1)) h_5))) ∧
  ((decide (t18_1 < (s2_1.n : Int))) = false →
  K (Value.tuple #[(Sl.v t14_1), (VB true)]) h_4)
theorem v60 (g0_1 : Sl) (sink1_1 : Int) (s2_1 : Sl) (h : Heap) (K : Value → Heap → Prop) (H : u60 Tryz.prog g0_1 sink1_1 s2_1 h K) : callM Tryz.prog 60 #[(Value.agg #[(Sl.v g0_1)]), (VI sink1_1), (Value.agg #[(Sl.v s2_1)])] h K := by
  refine c60 (Value.agg #[(Sl.v g0_1)]) (VI sink1_1) (Value.agg #[(Sl.v s2_1)]) h K ?_
  unfold u60 at H
  unfold t60
  have hL : Vars h [] := .nil
  refine eop_box 26 (Value.agg #[(Sl.v g0_1)]) rfl hL (fun b_1 h_1 hb_1 hf_1 hL_1 => ?_)
  refine eop_box 28 (Value.agg #[(Sl.v s2_1)]) rfl hL_1 (fun b_2 h_2 hb_2 hf_2 hL_2 => ?_)
  refine pop_field 0 fld26_0 b_1 0 ?_
  refine rop_loc one24 hL_2 1 rfl 0 (v := (Sl.v g0_1)) rfl ?_
  refine pop_len g0_1 _ _ sli24 ?_
  have H := H b_1 b_2 h_2 (Nat.le_trans (Fr.size (Fr.r (In []) _)) hb_1) (Nat.le_trans (Fr.size (Fr.no' (Fr.r (In []) _) hf_1)) hb_2) (Fr.no' (Fr.no' (Fr.r (In []) _) hf_1) hf_2) hL_2
  refine H.mono fun rv_1 h_3 H => ?_
  obtain ⟨t14_1, rfl, hL_3, H⟩ := H
  refine pop_field 0 fld28_0 b_2 0 ?_
  refine rop_loc one24 hL_3 0 rfl 0 (v := (Sl.v s2_1)) rfl ?_
  refine pop_len s2_1 _ _ sli24 ?_
  obtain ⟨J_1, ⟨n_2, h0_1⟩, HB_1⟩ := H
  refine loop_intro (J := fun (n : Nat) (vs : List Value) (h' : Heap) => ∃ t18_1 : Int, vs = [(VI t18_1)] ∧ J_1 n t18_1 h' ∧ Vars h' [(b_2, [(Sl.v s2_1)]), (b_1, [(Sl.v g0_1)])]) n_2 ⟨0, rfl, h0_1, hL_3⟩ ?_
  intro I_1 mu_1 hI_1 junk_1 tv_1 h_4 hi_1
  obtain ⟨n_1, ⟨t18_1, hv, hJ_1, hL_4⟩, hn_1⟩ := hI_1 _ _ hi_1
  cases hv
  have H := HB_1 n_1 t18_1 h_4 hJ_1 hL_4
  refine pop_lss .i64 t18_1 (s2_1.n : Int) ?_
  refine condM_b (fun hb_3 => ?_) (fun hb_3 => ?_)
  rotate_left
  ·have H := H.2 hb_3
   exact H
  have H := H.1 hb_3
  obtain ⟨hi_2, H⟩ := H
  refine pop_index sli24 siz29 .i64 s2_1 t18_1 hi_2 ?_
  obtain ⟨t22_1, hc_2, H⟩ := H
  refine rop_one one29 (Sl.v t22_1) hc_2 ?_
  refine pop_ieq .i64 _ _ t18_1 sink1_1 ?_
  refine condM_b (fun hb_4 => ?_) (fun hb_4 => ?_)
  ·have H := H.1 hb_4
   refine pop_add .i64 t18_1 1 ?_
   obtain ⟨m_1, hm_1, H⟩ := H
   exact hn_1 _ _ ⟨m_1, hm_1, (w64 (t18_1 + 1)), rfl, H, hL_4⟩
  have H := H.2 hb_4
  refine pop_len t22_1 _ _ sli29 ?_
  refine pop_ieq .i64 _ _ (t22_1.n : Int) 0 ?_
  refine condM_b (fun hb_5 => ?_) (fun hb_5 => ?_)
  ·have H := H.1 hb_5
   exact H
  have H := H.2 hb_5
  obtain ⟨hi_3, H⟩ := H
  refine pop_index sli29 siz3 .i64 t22_1 0 hi_3 ?_
  obtain ⟨t33_1, hc_1, H⟩ := H
  refine rop_one one3 (VI t33_1) hc_1 ?_
  obtain ⟨hi_4, H⟩ := H
  refine pop_index sli29 siz3 .i64 t14_1 t18_1 hi_4 ?_
  obtain ⟨hw_1, hL_5, H⟩ := H
  refine uop_cell (v := (VI t33_1)) siz3 hw_1 rfl (fun h_5 he_1 => ?_)
  rw [← he_1] at hL_5
  have H := H h_5 he_1 hL_5
  refine pop_add .i64 t18_1 1 ?_
  obtain ⟨m_2, hm_2, H⟩ := H
  exact hn_1 _ _ ⟨m_2, hm_2, (w64 (t18_1 + 1)), rfl, H, hL_5⟩
def u61 (P : Program) (a0_1 : Sl) (b1_1 : Sl) (h : Heap) (K : Value → Heap → Prop) : Prop :=
  ((!decide ((a0_1.n : Int) = (b1_1.n : Int))) = true →
  K (VB false) h) ∧
  ((!decide ((a0_1.n : Int) = (b1_1.n : Int))) = false →
  ∃ J_1 : Nat → Int → Heap → Prop, (∃ n0 : Nat, J_1 n0 0 h) ∧
  ∀ (n_1 : Nat) (t13_1 : Int) (h_1 : Heap), J_1 n_1 t13_1 h_1 → Vars h_1 [] →
  ((decide (t13_1 < (a0_1.n : Int))) = true →
  InB a0_1 t13_1 ∧
  ∃ t19_1 : Sl, hcell h_1 (Sl.at a0_1 t13_1 1) = some (Sl.v t19_1) ∧
  InB b1_1 t13_1 ∧
  ∃ t23_1 : Sl, hcell h_1 (Sl.at b1_1 t13_1 1) = some (Sl.v t23_1) ∧
  callM P 16 #[(Sl.v t19_1), (Sl.v t23_1)] h_1 fun rv_1 h_2 => ∃ t24_1 : Bool, rv_1 = (VB t24_1) ∧ Vars h_2 [] ∧
  ((!t24_1) = true →
  K (VB false) h_2) ∧
  ((!t24_1) = false →
  ∃ m : Nat, m < n_1 ∧ J_1 m (w64 (t13_1 + 1)) h_2)) ∧
  ((decide (t13_1 < (a0_1.n : Int))) = false →
  K (VB true) h_1))
theorem v61 (a0_1 : Sl) (b1_1 : Sl) (h : Heap) (K : Value → Heap → Prop) (H : u61 Tryz.prog a0_1 b1_1 h K) : callM Tryz.prog 61 #[(Sl.v a0_1), (Sl.v b1_1)] h K := by
  refine c61 (Sl.v a0_1) (Sl.v b1_1) h K ?_
  unfold u61 at H
  unfold t61
  have hL : Vars h [] := .nil
  refine pop_len a0_1 _ _ sli24 ?_
  refine pop_len b1_1 _ _ sli24 ?_
  refine pop_ine .i64 _ _ (a0_1.n : Int) (b1_1.n : Int) ?_
  refine condM_b (fun hb_1 => ?_) (fun hb_1 => ?_)
  ·have H := H.1 hb_1
   exact H
  have H := H.2 hb_1
  refine pop_len a0_1 _ _ sli24 ?_
  obtain ⟨J_1, ⟨n_2, h0_1⟩, HB_1⟩ := H
  refine loop_intro (J := fun (n : Nat) (vs : List Value) (h' : Heap) => ∃ t13_1 : Int, vs = [(VI t13_1)] ∧ J_1 n t13_1 h' ∧ Vars h' []) n_2 ⟨0, rfl, h0_1, hL⟩ ?_
  intro I_1 mu_1 hI_1 junk_1 tv_1 h_1 hi_1
  obtain ⟨n_1, ⟨t13_1, hv, hJ_1, hL_1⟩, hn_1⟩ := hI_1 _ _ hi_1
  cases hv
  have H := HB_1 n_1 t13_1 h_1 hJ_1 hL_1
  refine pop_lss .i64 t13_1 (a0_1.n : Int) ?_
  refine condM_b (fun hb_2 => ?_) (fun hb_2 => ?_)
  rotate_left
  ·have H := H.2 hb_2
   exact H
  have H := H.1 hb_2
  obtain ⟨hi_2, H⟩ := H
  refine pop_index sli24 siz29 .i64 a0_1 t13_1 hi_2 ?_
  obtain ⟨t19_1, hc_2, H⟩ := H
  refine rop_one one29 (Sl.v t19_1) hc_2 ?_
  obtain ⟨hi_3, H⟩ := H
  refine pop_index sli24 siz29 .i64 b1_1 t13_1 hi_3 ?_
  obtain ⟨t23_1, hc_1, H⟩ := H
  refine rop_one one29 (Sl.v t23_1) hc_1 ?_
  refine H.mono fun rv_1 h_2 H => ?_
  obtain ⟨t24_1, rfl, hL_2, H⟩ := H
  refine pop_not t24_1 ?_
  refine condM_b (fun hb_3 => ?_) (fun hb_3 => ?_)
  ·have H := H.1 hb_3
   exact H
  have H := H.2 hb_3
  refine pop_add .i64 t13_1 1 ?_
  obtain ⟨m_1, hm_1, H⟩ := H
  exact hn_1 _ _ ⟨m_1, hm_1, (w64 (t13_1 + 1)), rfl, H, hL_2⟩
def u62 (P : Program) (g0_1 : Sl) (sink1_1 : Int) (rotors2_1 : Sl) (h : Heap) (K : Value → Heap → Prop) : Prop :=
  ∀ (b_1 : Nat) (h_1 : Heap), h.size ≤ b_1 → Fr (In []) h h_1 → Vars h_1 [(b_1, [(Sl.v g0_1)])] →
  eop P (Instr.buildSlice 29 1 #[(0, (VI sink1_1))]) h_1 fun rv_1 h_2 => ∃ t9_1 : Sl, rv_1 = (Sl.v t9_1) ∧ Vars h_2 [(b_1, [(Sl.v g0_1)])] ∧
  callM P 94 #[(Value.agg #[(Sl.v g0_1)]), (Sl.v t9_1)] h_2 fun rv_2 h_3 => ∃ t10_1 : Bool, rv_2 = (VB t10_1) ∧ Vars h_3 [(b_1, [(Sl.v g0_1)])] ∧
  (t10_1 = true →
  callM P 113 #[(Value.agg #[(Sl.v g0_1)]), (Sl.v rotors2_1)] h_3 fun rv_3 h_4 => ∃ t14_1 : Bool, rv_3 = (VB t14_1) ∧ Vars h_4 [(b_1, [(Sl.v g0_1)])] ∧
  (t14_1 = true →
  InB rotors2_1 sink1_1 ∧
  ∃ t20_1 : Int, hcell h_4 (Sl.at rotors2_1 sink1_1 1) = some (VI t20_1) ∧
  K (VB (decide (t20_1 = 0))) h_4) ∧
  (t14_1 = false →
  K (VB false) h_4)) ∧
  (t10_1 = false →
  K (VB false) h_3)
theorem v62 (g0_1 : Sl) (sink1_1 : Int) (rotors2_1 : Sl) (h : Heap) (K : Value → Heap → Prop) (H : u62 Tryz.prog g0_1 sink1_1 rotors2_1 h K) : callM Tryz.prog 62 #[(Value.agg #[(Sl.v g0_1)]), (VI sink1_1), (Sl.v rotors2_1)] h K := by
  refine c62 (Value.agg #[(Sl.v g0_1)]) (VI sink1_1) (Sl.v rotors2_1) h K ?_
  unfold u62 at H
  unfold t62
  have hL : Vars h [] := .nil
  refine eop_box 26 (Value.agg #[(Sl.v g0_1)]) rfl hL (fun b_1 h_1 hb_1 hf_1 hL_1 => ?_)
  refine rop_locA agg26 hL_1 0 rfl 0 (vs := [(Sl.v g0_1)]) rfl rfl ?_
  have H := H b_1 h_1 (Nat.le_trans (Fr.size (Fr.r (In []) _)) hb_1) (Fr.no' (Fr.r (In []) _) hf_1) hL_1
  refine H.mono fun rv_1 h_2 H => ?_
  obtain ⟨t9_1, rfl, hL_2, H⟩ := H
  refine H.mono fun rv_2 h_3 H => ?_
  obtain ⟨t10_1, rfl, hL_3, H⟩ := H
  refine guardM_st (fun hb_2 => ?_) (fun hb_2 => ?_)
  rotate_left
  ·have H := H.2 hb_2
   refine guardM_n' hb_2 (by decide) ?_
   refine guardM_n' hb_2 (by decide) ?_
   refine pop_pickf' hb_2 ?_
   refine guardM_n (by decide) ?_
   refine guardM_n (by decide) ?_
   refine guardM_n (by decide) ?_
   refine guardM_n (by decide) ?_
   refine guardM_n (by decide) ?_
   refine pop_pickf _ _ ?_
   exact H
  have H := H.1 hb_2
  refine rop_locA agg26 hL_3 0 rfl 0 (vs := [(Sl.v g0_1)]) rfl rfl ?_
  refine guardM_y' hb_2 ?_
  refine guardM_y' hb_2 ?_
  refine H.mono fun rv_3 h_4 H => ?_
  obtain ⟨t14_1, rfl, hL_4, H⟩ := H
  refine pop_pickt' hb_2 ?_
  refine guardM_st (fun hb_3 => ?_) (fun hb_3 => ?_)
  rotate_left
  ·have H := H.2 hb_3
   refine guardM_n' hb_3 (by decide) ?_
   refine guardM_n' hb_3 (by decide) ?_
   refine guardM_n' hb_3 (by decide) ?_
   refine guardM_n' hb_3 (by decide) ?_
   refine pop_pickf' hb_3 ?_
   exact H
  have H := H.1 hb_3
  refine guardM_y' hb_3 ?_
  refine guardM_y' hb_3 ?_
  obtain ⟨hi_1, H⟩ := H
  refine pop_index sli29 siz3 .i64 rotors2_1 sink1_1 hi_1 ?_
  refine guardM_y' hb_3 ?_
  obtain ⟨t20_1, hc_1, H⟩ := H
  refine rop_one one3 (VI t20_1) hc_1 ?_
  refine guardM_y' hb_3 ?_
  refine pop_ieq .i64 _ _ t20_1 0 ?_
  refine pop_pickt' hb_3 ?_
  exact H
def u63 (P : Program) (g0_1 : Sl) (sink1_1 : Int) (rotors2_1 : Sl) (h : Heap) (K : Value → Heap → Prop) : Prop :=
  ∀ (b_1 : Nat) (h_1 : Heap), h.size ≤ b_1 → Fr (In []) h h_1 → Vars h_1 [(b_1, [(Sl.v g0_1)])] →
  callM P 114 #[(Value.agg #[(Sl.v g0_1)]), (VI sink1_1), (Sl.v rotors2_1)] h_1 fun rv_1 h_2 => ∃ t13_1 : Sl, ∃ t13_2 : Bool, rv_1 = (Value.tuple #[(Sl.v t13_1), (VB t13_2)]) ∧ Vars h_2 [(b_1, [(Sl.v g0_1)])] ∧
  K (VB t13_2) h_2
theorem v63 (g0_1 : Sl) (sink1_1 : Int) (rotors2_1 : Sl) (h : Heap) (K : Value → Heap → Prop) (H : u63 Tryz.prog g0_1 sink1_1 rotors2_1 h K) : callM Tryz.prog 63 #[(Value.agg #[(Sl.v g0_1)]), (VI sink1_1), (Sl.v rotors2_1)] h K := by
  refine c63 (Value.agg #[(Sl.v g0_1)]) (VI sink1_1) (Sl.v rotors2_1) h K ?_
  unfold u63 at H
  unfold t63
  have hL : Vars h [] := .nil
  refine eop_box 26 (Value.agg #[(Sl.v g0_1)]) rfl hL (fun b_1 h_1 hb_1 hf_1 hL_1 => ?_)
  refine rop_locA agg26 hL_1 0 rfl 0 (vs := [(Sl.v g0_1)]) rfl rfl ?_
  have H := H b_1 h_1 (Nat.le_trans (Fr.size (Fr.r (In []) _)) hb_1) (Fr.no' (Fr.r (In []) _) hf_1) hL_1
  refine H.mono fun rv_1 h_2 H => ?_
  obtain ⟨t13_1, t13_2, rfl, hL_2, H⟩ := H
  refine pop_ext (v := (Sl.v t13_1)) rfl ?_
  refine pop_ext (v := (VB t13_2)) rfl ?_
  exact H
def u64 (P : Program) (g0_1 : Sl) (sink1_1 : Int) (s2_1 : Sl) (h : Heap) (K : Value → Heap → Prop) : Prop :=
  ∀ (b_1 : Nat) (b_2 : Nat) (h_2 : Heap), h.size ≤ b_1 → h.size ≤ b_2 → Fr (In []) h h_2 → Vars h_2 [(b_2, [(Sl.v s2_1)]), (b_1, [(Sl.v g0_1)])] →
  eop P (Instr.buildSlice 29 1 #[(0, (VI sink1_1))]) h_2 fun rv_1 h_3 => ∃ t11_1 : Sl, rv_1 = (Sl.v t11_1) ∧ Vars h_3 [(b_2, [(Sl.v s2_1)]), (b_1, [(Sl.v g0_1)])] ∧
  callM P 94 #[(Value.agg #[(Sl.v g0_1)]), (Sl.v t11_1)] h_3 fun rv_2 h_4 => ∃ t12_1 : Bool, rv_2 = (VB t12_1) ∧ Vars h_4 [(b_2, [(Sl.v s2_1)]), (b_1, [(Sl.v g0_1)])] ∧
  ((!t12_1) = true →
  K (VB false) h_4) ∧
  ((!t12_1) = false →
  ((!decide ((s2_1.n : Int) = (g0_1.n : Int))) = true →
  K (VB false) h_4) ∧
  ((!decide ((s2_1.n : Int) = (g0_1.n : Int))) = false →
  InB s2_1 sink1_1 ∧
  ∃ t28_1 : Sl, hcell h_4 (Sl.at s2_1 sink1_1 1) = some (Sl.v t28_1) ∧
  ((!decide ((t28_1.n : Int) = 0)) = true →
  K (VB false) h_4) ∧
  ((!decide ((t28_1.n : Int) = 0)) = false →
  ∃ J_1 : Nat → Int → Sl → Heap → Prop, (∃ n0 : Nat, J_1 n0 0 g0_1 h_4) ∧
  ∀ (n_1 : Nat) (t35_1 : Int) (x_1 : Sl) (h_5 : Heap), J_1 n_1 t35_1 x_1 h_5 → Vars h_5 [(b_2, [(Sl.v s2_1)]), (b_1, [(Sl.v x_1)])] →
  ((decide (t35_1 < (s2_1.n : Int))) = true →
  InB s2_1 t35_1 ∧
  ∃ t39_1 : Sl, hcell h_5 (Sl.at s2_1 t35_1 1) = some (Sl.v t39_1) ∧
  ((decide (12 < (t39_1.n : Int))) = true →
  ∀ (b_3 : Nat) (h_7 : Heap), h_5.size ≤ b_3 → Fr (In []) h_5 h_7 → Vars h_7 [(b_3, [(VI t35_1)]), (b_2, [(Sl.v s2_1)]), (b_1, [(Sl.v x_1)])] →
  K (VB false) h_7) ∧
  ((decide (12 < (t39_1.n : Int))) = false →
  ∀ (b_3 : Nat) (h_7 : Heap), h_5.size ≤ b_3 → Fr (In []) h_5 h_7 → Vars h_7 [(b_3, [(VI t35_1)]), (b_2, [(Sl.v s2_1)]), (b_1, [(Sl.v x_1)])] →
  callM P 107 #[(Sl.v t39_1), (Value.func (Fn.func 115) #[] #[(VP b_1 0), (VP b_3 0)])] h_7 fun rv_3 h_8 => ∃ x_2 : Int, ∃ x_3 : Sl, ∃ t46_1 : Bool, rv_3 = (VB t46_1) ∧ Vars h_8 [(b_3, [(VI x_2)]), (b_2, [(Sl.v s2_1)]), (b_1, [(Sl.v x_3)])] ∧
  (t46_1 = true →
  K (VB false) h_8) ∧
  (t46_1 = false →
  ∃ m : Nat, m < n_1 ∧ J_1 m (w64 (t35_1 + 1)) x_3 h_8))) ∧
  ((decide (t35_1 < (s2_1.n : Int))) = false →
  K (VB true) h_5))))
theorem v64 (g0_1 : Sl) (sink1_1 : Int) (s2_1 : Sl) (h : Heap) (K : Value → Heap → Prop) (H : u64 Tryz.prog g0_1 sink1_1 s2_1 h K) : callM Tryz.prog 64 #[(Value.agg #[(Sl.v g0_1)]), (VI sink1_1), (Value.agg #[(Sl.v s2_1)])] h K := by
  refine c64 (Value.agg #[(Sl.v g0_1)]) (VI sink1_1) (Value.agg #[(Sl.v s2_1)]) h K ?_
  unfold u64 at H
  unfold t64
  have hL : Vars h [] := .nil
  refine eop_box 26 (Value.agg #[(Sl.v g0_1)]) rfl hL (fun b_1 h_1 hb_1 hf_1 hL_1 => ?_)
  refine eop_box 28 (Value.agg #[(Sl.v s2_1)]) rfl hL_1 (fun b_2 h_2 hb_2 hf_2 hL_2 => ?_)
  refine rop_locA agg26 hL_2 1 rfl 0 (vs := [(Sl.v g0_1)]) rfl rfl ?_
  have H := H b_1 b_2 h_2 (Nat.le_trans (Fr.size (Fr.r (In []) _)) hb_1) (Nat.le_trans (Fr.size (Fr.no' (Fr.r (In []) _) hf_1)) hb_2) (Fr.no' (Fr.no' (Fr.r (In []) _) hf_1) hf_2) hL_2
  refine H.mono fun rv_1 h_3 H => ?_
  obtain ⟨t11_1, rfl, hL_3, H⟩ := H
  refine H.mono fun rv_2 h_4 H => ?_
  obtain ⟨t12_1, rfl, hL_4, H⟩ := H
  refine pop_not t12_1 ?_
  refine guardM_sf (fun hb_3 => ?_) (fun hb_3 => ?_)
  rotate_left
  ·have H := H.1 hb_3
   refine guardM_n' hb_3 (by decide) ?_
   refine guardM_n' hb_3 (by decide) ?_
   refine guardM_n' hb_3 (by decide) ?_
   refine guardM_n' hb_3 (by decide) ?_
   refine guardM_n' hb_3 (by decide) ?_
   refine guardM_n' hb_3 (by decide) ?_
   refine pop_pickt' hb_3 ?_
   refine guardM_n (by decide) ?_
   refine guardM_n (by decide) ?_
   refine guardM_n (by decide) ?_
   refine guardM_n (by decide) ?_
   refine guardM_n (by decide) ?_
   refine guardM_n (by decide) ?_
   refine guardM_n (by decide) ?_
   refine pop_pickt _ _ ?_
   refine condM_t ?_
   exact H
  have H := H.2 hb_3
  refine pop_field 0 fld28_0 b_2 0 ?_
  refine guardM_y' hb_3 ?_
  refine rop_loc one24 hL_4 0 rfl 0 (v := (Sl.v s2_1)) rfl ?_
  refine guardM_y' hb_3 ?_
  refine pop_len s2_1 _ _ sli24 ?_
  refine guardM_y' hb_3 ?_
  refine pop_field 0 fld26_0 b_1 0 ?_
  refine guardM_y' hb_3 ?_
  refine rop_loc one24 hL_4 1 rfl 0 (v := (Sl.v g0_1)) rfl ?_
  refine guardM_y' hb_3 ?_
  refine pop_len g0_1 _ _ sli24 ?_
  refine guardM_y' hb_3 ?_
  refine pop_ine .i64 _ _ (s2_1.n : Int) (g0_1.n : Int) ?_
  refine pop_pickf' hb_3 ?_
  refine guardM_sf (fun hb_4 => ?_) (fun hb_4 => ?_)
  rotate_left
  ·have H := H.1 hb_4
   refine guardM_n' hb_4 (by decide) ?_
   refine guardM_n' hb_4 (by decide) ?_
   refine guardM_n' hb_4 (by decide) ?_
   refine guardM_n' hb_4 (by decide) ?_
   refine guardM_n' hb_4 (by decide) ?_
   refine guardM_n' hb_4 (by decide) ?_
   refine pop_pickt' hb_4 ?_
   refine condM_t ?_
   exact H
  have H := H.2 hb_4
  refine pop_field 0 fld28_0 b_2 0 ?_
  refine guardM_y' hb_4 ?_
  refine rop_loc one24 hL_4 0 rfl 0 (v := (Sl.v s2_1)) rfl ?_
  refine guardM_y' hb_4 ?_
  refine guardM_y' hb_4 ?_
  obtain ⟨hi_1, H⟩ := H
  refine pop_index sli24 siz29 .i64 s2_1 sink1_1 hi_1 ?_
  refine guardM_y' hb_4 ?_
  obtain ⟨t28_1, hc_2, H⟩ := H
  refine rop_one one29 (Sl.v t28_1) hc_2 ?_
  refine guardM_y' hb_4 ?_
  refine pop_len t28_1 _ _ sli29 ?_
  refine guardM_y' hb_4 ?_
  refine pop_ine .i64 _ _ (t28_1.n : Int) 0 ?_
  refine pop_pickf' hb_4 ?_
  refine condM_b (fun hb_5 => ?_) (fun hb_5 => ?_)
  ·have H := H.1 hb_5
   exact H
  have H := H.2 hb_5
  refine pop_field 0 fld28_0 b_2 0 ?_
  refine rop_loc one24 hL_4 0 rfl 0 (v := (Sl.v s2_1)) rfl ?_
  refine pop_len s2_1 _ _ sli24 ?_
  obtain ⟨J_1, ⟨n_2, h0_1⟩, HB_1⟩ := H
  refine loop_intro (J := fun (n : Nat) (vs : List Value) (h' : Heap) => ∃ t35_1 : Int, ∃ x_1 : Sl, vs = [(VI t35_1)] ∧ J_1 n t35_1 x_1 h' ∧ Vars h' [(b_2, [(Sl.v s2_1)]), (b_1, [(Sl.v x_1)])]) n_2 ⟨0, g0_1, rfl, h0_1, hL_4⟩ ?_
  intro I_1 mu_1 hI_1 junk_1 tv_1 h_5 hi_2
  obtain ⟨n_1, ⟨t35_1, x_1, hv, hJ_1, hL_5⟩, hn_1⟩ := hI_1 _ _ hi_2
  cases hv
  have H := HB_1 n_1 t35_1 x_1 h_5 hJ_1 hL_5
  refine pop_lss .i64 t35_1 (s2_1.n : Int) ?_
  refine condM_b (fun hb_6 => ?_) (fun hb_6 => ?_)
  rotate_left
  ·have H := H.2 hb_6
   exact H
  have H := H.1 hb_6
  obtain ⟨hi_3, H⟩ := H
  refine pop_index sli24 siz29 .i64 s2_1 t35_1 hi_3 ?_
  obtain ⟨t39_1, hc_1, H⟩ := H
  refine rop_one one29 (Sl.v t39_1) hc_1 ?_
  refine eop_alloc 3 zer3 rfl hL_5 (fun b_3 h_6 hb_7 hf_3 hL_6 => ?_)
  refine uop_loc siz3 hL_6 0 rfl 0 [(VI t35_1)] rfl rfl rfl (Nat.le_of_ble_eq_true rfl) (L' := [(b_3, [(VI t35_1)]), (b_2, [(Sl.v s2_1)]), (b_1, [(Sl.v x_1)])]) rfl (fun h_7 hf_4 hL_7 => ?_)
  refine pop_len t39_1 _ _ sli29 ?_
  refine pop_gtr .i64 (t39_1.n : Int) 12 ?_
  refine guardM_sf (fun hb_8 => ?_) (fun hb_8 => ?_)
  rotate_left
  ·have H := H.1 hb_8
   refine guardM_n' hb_8 (by decide) ?_
   refine guardM_n' hb_8 (by decide) ?_
   refine pop_pickt' hb_8 ?_
   refine condM_t ?_
   have H := H b_3 h_7 (Nat.le_trans (Fr.size (Fr.r (In []) _)) hb_7) (Fr.new (Fr.no' (Fr.r (In []) _) hf_3) (Nat.le_trans (Fr.size (Fr.r (In []) _)) hb_7) hf_4) hL_7
   exact H
  have H := H.2 hb_8
  refine guardM_y' hb_8 ?_
  refine pop_func _ _ _ ?_
  refine guardM_y' hb_8 ?_
  have H := H b_3 h_7 (Nat.le_trans (Fr.size (Fr.r (In []) _)) hb_7) (Fr.new (Fr.no' (Fr.r (In []) _) hf_3) (Nat.le_trans (Fr.size (Fr.r (In []) _)) hb_7) hf_4) hL_7
  refine H.mono fun rv_3 h_8 H => ?_
  obtain ⟨x_2, x_3, t46_1, rfl, hL_8, H⟩ := H
  refine pop_pickf' hb_8 ?_
  refine condM_b (fun hb_9 => ?_) (fun hb_9 => ?_)
  ·have H := H.1 hb_9
   exact H
  have H := H.2 hb_9
  refine pop_add .i64 t35_1 1 ?_
  obtain ⟨m_1, hm_1, H⟩ := H
  exact hn_1 _ _ ⟨m_1, hm_1, (w64 (t35_1 + 1)), x_3, rfl, H, (Vars.tail hL_8)⟩
def u65 (P : Program) (s0_1 : Sl) (g1_1 : Sl) (h : Heap) (K : Value → Heap → Prop) : Prop :=
  ∀ (b_1 : Nat) (b_2 : Nat) (h_2 : Heap), h.size ≤ b_1 → h.size ≤ b_2 → Fr (In []) h h_2 → Vars h_2 [(b_2, [(Sl.v g1_1)]), (b_1, [(Sl.v s0_1)])] →
  eop P (Instr.buildSlice 24 0 #[]) h_2 fun rv_1 h_3 => ∃ t8_1 : Sl, rv_1 = (Sl.v t8_1) ∧ Vars h_3 [(b_2, [(Sl.v g1_1)]), (b_1, [(Sl.v s0_1)])] ∧
  ∃ J_1 : Nat → Sl → Int → Heap → Prop, (∃ n0 : Nat, J_1 n0 t8_1 0 h_3) ∧
  ∀ (n_1 : Nat) (out5_1 : Sl) (t12_1 : Int) (h_4 : Heap), J_1 n_1 out5_1 t12_1 h_4 → Vars h_4 [(b_2, [(Sl.v g1_1)]), (b_1, [(Sl.v s0_1)])] →
  ((decide (t12_1 < (g1_1.n : Int))) = true →
  callM P 116 #[(Value.agg #[(Sl.v s0_1)]), (Value.agg #[(Sl.v g1_1)]), (VI t12_1)] h_4 fun rv_2 h_5 => ∃ t18_1 : Sl, rv_2 = (Sl.v t18_1) ∧ Vars h_5 [(b_2, [(Sl.v g1_1)]), (b_1, [(Sl.v s0_1)])] ∧
  pop P (binE .neq 29 (.tmp 19) (.const (Value.slice none 0 0)) (Sl.v t18_1) (Value.slice none 0 0)) fun rv_3 => ∃ t20_1 : Bool, rv_3 = (VB t20_1) ∧ 
  (t20_1 = true →
  InB t18_1 0 ∧
  ∃ t24_1 : Int, hcell h_5 (Sl.at t18_1 0 1) = some (VI t24_1) ∧
  ((decide (t24_1 = t12_1)) = true →
  eop P (Instr.buildSlice 24 1 #[(0, (Sl.v t18_1))]) h_5 fun rv_4 h_6 => ∃ t30_1 : Sl, rv_4 = (Sl.v t30_1) ∧ Vars h_6 [(b_2, [(Sl.v g1_1)]), (b_1, [(Sl.v s0_1)])] ∧
  eop P (appS 24 24 24 (Sl.v out5_1) (Sl.v t30_1)) h_6 fun rv_5 h_7 => ∃ t31_1 : Sl, rv_5 = (Sl.v t31_1) ∧ Vars h_7 [(b_2, [(Sl.v g1_1)]), (b_1, [(Sl.v s0_1)])] ∧
  ∃ m : Nat, m < n_1 ∧ J_1 m t31_1 (w64 (t12_1 + 1)) h_7) ∧
  ((decide (t24_1 = t12_1)) = false →
  ∃ m : Nat, m < n_1 ∧ J_1 m out5_1 (w64 (t12_1 + 1)) h_5)) ∧
  (t20_1 = false →
  ∃ m : Nat, m < n_1 ∧ J_1 m out5_1 (w64 (t12_1 + 1)) h_5)) ∧
  ((decide (t12_1 < (g1_1.n : Int))) = false →
  K (Sl.v out5_1) h_4)
theorem v65 (s0_1 : Sl) (g1_1 : Sl) (h : Heap) (K : Value → Heap → Prop) (H : u65 Tryz.prog s0_1 g1_1 h K) : callM Tryz.prog 65 #[(Value.agg #[(Sl.v s0_1)]), (Value.agg #[(Sl.v g1_1)])] h K := by
  refine c65 (Value.agg #[(Sl.v s0_1)]) (Value.agg #[(Sl.v g1_1)]) h K ?_
  unfold u65 at H
  unfold t65
  have hL : Vars h [] := .nil
  refine eop_box 28 (Value.agg #[(Sl.v s0_1)]) rfl hL (fun b_1 h_1 hb_1 hf_1 hL_1 => ?_)
  refine eop_box 26 (Value.agg #[(Sl.v g1_1)]) rfl hL_1 (fun b_2 h_2 hb_2 hf_2 hL_2 => ?_)
  have H := H b_1 b_2 h_2 (Nat.le_trans (Fr.size (Fr.r (In []) _)) hb_1) (Nat.le_trans (Fr.size (Fr.no' (Fr.r (In []) _) hf_1)) hb_2) (Fr.no' (Fr.no' (Fr.r (In []) _) hf_1) hf_2) hL_2
  refine H.mono fun rv_1 h_3 H => ?_
  obtain ⟨t8_1, rfl, hL_3, H⟩ := H
  refine pop_field 0 fld26_0 b_2 0 ?_
  refine rop_loc one24 hL_3 0 rfl 0 (v := (Sl.v g1_1)) rfl ?_
  refine pop_len g1_1 _ _ sli24 ?_
  obtain ⟨J_1, ⟨n_2, h0_1⟩, HB_1⟩ := H
  refine loop_intro (J := fun (n : Nat) (vs : List Value) (h' : Heap) => ∃ out5_1 : Sl, ∃ t12_1 : Int, vs = [(Sl.v out5_1), (VI t12_1)] ∧ J_1 n out5_1 t12_1 h' ∧ Vars h' [(b_2, [(Sl.v g1_1)]), (b_1, [(Sl.v s0_1)])]) n_2 ⟨t8_1, 0, rfl, h0_1, hL_3⟩ ?_
  intro I_1 mu_1 hI_1 junk_1 tv_1 tv_2 h_4 hi_1
  obtain ⟨n_1, ⟨out5_1, t12_1, hv, hJ_1, hL_4⟩, hn_1⟩ := hI_1 _ _ hi_1
  cases hv
  have H := HB_1 n_1 out5_1 t12_1 h_4 hJ_1 hL_4
  refine pop_lss .i64 t12_1 (g1_1.n : Int) ?_
  refine condM_b (fun hb_3 => ?_) (fun hb_3 => ?_)
  rotate_left
  ·have H := H.2 hb_3
   exact H
  have H := H.1 hb_3
  refine rop_locA agg28 hL_4 1 rfl 0 (vs := [(Sl.v s0_1)]) rfl rfl ?_
  refine rop_locA agg26 hL_4 0 rfl 0 (vs := [(Sl.v g1_1)]) rfl rfl ?_
  refine H.mono fun rv_2 h_5 H => ?_
  obtain ⟨t18_1, rfl, hL_5, H⟩ := H
  refine H.mono fun rv_3 H => ?_
  obtain ⟨t20_1, rfl, H⟩ := H
  refine guardM_st (fun hb_4 => ?_) (fun hb_4 => ?_)
  rotate_left
  ·have H := H.2 hb_4
   refine guardM_n' hb_4 (by decide) ?_
   refine guardM_n' hb_4 (by decide) ?_
   refine guardM_n' hb_4 (by decide) ?_
   refine guardM_n' hb_4 (by decide) ?_
   refine pop_pickf' hb_4 ?_
   refine condM_f ?_
   refine pop_add .i64 t12_1 1 ?_
   obtain ⟨m_3, hm_3, H⟩ := H
   exact hn_1 _ _ ⟨m_3, hm_3, out5_1, (w64 (t12_1 + 1)), rfl, H, hL_5⟩
  have H := H.1 hb_4
  refine guardM_y' hb_4 ?_
  obtain ⟨hi_2, H⟩ := H
  refine pop_index sli29 siz3 .i64 t18_1 0 hi_2 ?_
  refine guardM_y' hb_4 ?_
  obtain ⟨t24_1, hc_1, H⟩ := H
  refine rop_one one3 (VI t24_1) hc_1 ?_
  refine guardM_y' hb_4 ?_
  refine guardM_y' hb_4 ?_
  refine pop_ieq .i64 _ _ t24_1 t12_1 ?_
  refine pop_pickt' hb_4 ?_
  refine condM_b (fun hb_5 => ?_) (fun hb_5 => ?_)
  rotate_left
  ·have H := H.2 hb_5
   refine pop_add .i64 t12_1 1 ?_
   obtain ⟨m_2, hm_2, H⟩ := H
   exact hn_1 _ _ ⟨m_2, hm_2, out5_1, (w64 (t12_1 + 1)), rfl, H, hL_5⟩
  have H := H.1 hb_5
  refine H.mono fun rv_4 h_6 H => ?_
  obtain ⟨t30_1, rfl, hL_6, H⟩ := H
  refine H.mono fun rv_5 h_7 H => ?_
  obtain ⟨t31_1, rfl, hL_7, H⟩ := H
  refine pop_add .i64 t12_1 1 ?_
  obtain ⟨m_1, hm_1, H⟩ := H
  exact hn_1 _ _ ⟨m_1, hm_1, t31_1, (w64 (t12_1 + 1)), rfl, H, hL_7⟩
def u66 (P : Program) (b_1 : Nat) (c0_1 : Sl) (c0_2 : Int) (c0_3 : Int) (n1_1 : Int) (h : Heap) (K : Value → Heap → Prop) : Prop :=
  ∃ J_1 : Nat → Sl → Int → Heap → Prop, (∃ n0 : Nat, J_1 n0 nilSl 0 h) ∧
  ∀ (n_1 : Nat) (out5_1 : Sl) (p6_1 : Int) (h_1 : Heap), J_1 n_1 out5_1 p6_1 h_1 → Vars h_1 [(b_1, [(Sl.v c0_1), (VI c0_2), (Value.int .u64 c0_3)])] →
  ((decide (p6_1 < n1_1)) = true →
  eop P (Instr.buildSlice 29 1 #[(0, (VI p6_1))]) h_1 fun rv_1 h_2 => ∃ t17_1 : Sl, rv_1 = (Sl.v t17_1) ∧ Vars h_2 [(b_1, [(Sl.v c0_1), (VI c0_2), (Value.int .u64 c0_3)])] ∧
  eop P (appS 29 29 29 (Sl.v out5_1) (Sl.v t17_1)) h_2 fun rv_2 h_3 => ∃ t18_1 : Sl, rv_2 = (Sl.v t18_1) ∧ Vars h_3 [(b_1, [(Sl.v c0_1), (VI c0_2), (Value.int .u64 c0_3)])] ∧
  ∃ m : Nat, m < n_1 ∧ J_1 m t18_1 (w64 (p6_1 + 1)) h_3) ∧
  ((decide (p6_1 < n1_1)) = false →
  ∃ J_2 : Nat → Int → Sl → Int → Int → Heap → Prop, (∃ n0 : Nat, J_2 n0 0 c0_1 c0_2 c0_3 h_1) ∧
  ∀ (n_2 : Nat) (t21_1 : Int) (x_1 : Sl) (x_2 : Int) (x_3 : Int) (h_4 : Heap), J_2 n_2 t21_1 x_1 x_2 x_3 h_4 → Vars h_4 [(b_1, [(Sl.v x_1), (VI x_2), (Value.int .u64 x_3)])] →
  ((decide (t21_1 < (out5_1.n : Int))) = true →
  callM P 52 #[(VP b_1 0), (VI n1_1)] h_4 fun rv_3 h_5 => ∃ x_4 : Sl, ∃ x_5 : Int, ∃ x_6 : Int, ∃ t26_1 : Int, rv_3 = (VI t26_1) ∧ Vars h_5 [(b_1, [(Sl.v x_4), (VI x_5), (Value.int .u64 x_6)])] ∧
  InB out5_1 t21_1 ∧
  ∃ t30_1 : Int, hcell h_5 (Sl.at out5_1 t21_1 1) = some (VI t30_1) ∧
  InB out5_1 t26_1 ∧
  ∃ t36_1 : Int, hcell h_5 (Sl.at out5_1 t26_1 1) = some (VI t36_1) ∧
  InB out5_1 t21_1 ∧
  Writable h_5 (Sl.at out5_1 t21_1 1) ∧ Vars (hset h_5 (Sl.at out5_1 t21_1 1) (VI t36_1)) [(b_1, [(Sl.v x_4), (VI x_5), (Value.int .u64 x_6)])] ∧
  ∀ h_6 : Heap, h_6 = hset h_5 (Sl.at out5_1 t21_1 1) (VI t36_1) → Vars h_6 [(b_1, [(Sl.v x_4), (VI x_5), (Value.int .u64 x_6)])] →
  InB out5_1 t26_1 ∧
  Writable h_6 (Sl.at out5_1 t26_1 1) ∧ Vars (hset h_6 (Sl.at out5_1 t26_1 1) (VI t30_1)) [(b_1, [(Sl.v x_4), (VI x_5), (Value.int .u64 x_6)])] ∧
  ∀ h_7 : Heap, h_7 = hset h_6 (Sl.at out5_1 t26_1 1) (VI t30_1) → Vars h_7 [(b_1, [(Sl.v x_4), (VI x_5), (Value.int .u64 x_6)])] →
  ∃ m : Nat, m < n_2 ∧ J_2 m (w64 (t21_1 + 1)) x_4 x_5 x_6 h_7) ∧
  ((decide (t21_1 < (out5_1.n : Int))) = false →
  K (Sl.v out5_1) h_4))
theorem v66 (b_1 : Nat) (c0_1 : Sl) (c0_2 : Int) (c0_3 : Int) (n1_1 : Int) (h : Heap) (K : Value → Heap → Prop) (hL : Vars h [(b_1, [(Sl.v c0_1), (VI c0_2), (Value.int .u64 c0_3)])]) (H : u66 Tryz.prog b_1 c0_1 c0_2 c0_3 n1_1 h K) : callM Tryz.prog 66 #[(VP b_1 0), (VI n1_1)] h K := by
  refine c66 (VP b_1 0) (VI n1_1) h K ?_
  unfold u66 at H
  unfold t66
  obtain ⟨J_1, ⟨n_4, h0_2⟩, HB_2⟩ := H
  refine loop_intro (J := fun (n : Nat) (vs : List Value) (h' : Heap) => ∃ out5_1 : Sl, ∃ p6_1 : Int, vs = [(Sl.v out5_1), (VI p6_1)] ∧ J_1 n out5_1 p6_1 h' ∧ Vars h' [(b_1, [(Sl.v c0_1), (VI c0_2), (Value.int .u64 c0_3)])]) n_4 ⟨nilSl, 0, rfl, h0_2, hL⟩ ?_
  intro I_2 mu_2 hI_2 junk_1 tv_2 tv_3 h_1 hi_1
  obtain ⟨n_1, ⟨out5_1, p6_1, hv, hJ_1, hL_1⟩, hn_1⟩ := hI_2 _ _ hi_1
  cases hv
  have H := HB_2 n_1 out5_1 p6_1 h_1 hJ_1 hL_1
  refine pop_lss .i64 p6_1 n1_1 ?_
  refine condM_b (fun hb_1 => ?_) (fun hb_1 => ?_)
  ·have H := H.1 hb_1
   refine H.mono fun rv_1 h_2 H => ?_
   obtain ⟨t17_1, rfl, hL_2, H⟩ := H
   refine H.mono fun rv_2 h_3 H => ?_
   obtain ⟨t18_1, rfl, hL_3, H⟩ := H
   refine pop_add .i64 p6_1 1 ?_
   obtain ⟨m_1, hm_1, H⟩ := H
   exact hn_1 _ _ ⟨m_1, hm_1, t18_1, (w64 (p6_1 + 1)), rfl, H, hL_3⟩
  have H := H.2 hb_1
  refine pop_len out5_1 _ _ sli29 ?_
  obtain ⟨J_2, ⟨n_3, h0_1⟩, HB_1⟩ := H
  refine loop_intro (J := fun (n : Nat) (vs : List Value) (h' : Heap) => ∃ t21_1 : Int, ∃ x_1 : Sl, ∃ x_2 : Int, ∃ x_3 : Int, vs = [(VI t21_1)] ∧ J_2 n t21_1 x_1 x_2 x_3 h' ∧ Vars h' [(b_1, [(Sl.v x_1), (VI x_2), (Value.int .u64 x_3)])]) n_3 ⟨0, c0_1, c0_2, c0_3, rfl, h0_1, hL_1⟩ ?_
  intro I_1 mu_1 hI_1 junk_2 tv_1 h_4 hi_2
  obtain ⟨n_2, ⟨t21_1, x_1, x_2, x_3, hv, hJ_2, hL_4⟩, hn_2⟩ := hI_1 _ _ hi_2
  cases hv
  have H := HB_1 n_2 t21_1 x_1 x_2 x_3 h_4 hJ_2 hL_4
  refine pop_lss .i64 t21_1 (out5_1.n : Int) ?_
  refine condM_b (fun hb_2 => ?_) (fun hb_2 => ?_)
  rotate_left
  ·have H := H.2 hb_2
   exact H
  have H := H.1 hb_2
  refine H.mono fun rv_3 h_5 H => ?_
  obtain ⟨x_4, x_5, x_6, t26_1, rfl, hL_5, H⟩ := H
  obtain ⟨hi_3, H⟩ := H
  refine pop_index sli29 siz3 .i64 out5_1 t21_1 hi_3 ?_
  obtain ⟨t30_1, hc_2, H⟩ := H
  refine rop_one one3 (VI t30_1) hc_2 ?_
  obtain ⟨hi_4, H⟩ := H
  refine pop_index sli29 siz3 .i64 out5_1 t26_1 hi_4 ?_
  obtain ⟨t36_1, hc_1, H⟩ := H
  refine rop_one one3 (VI t36_1) hc_1 ?_
  obtain ⟨hi_5, H⟩ := H
  refine pop_index sli29 siz3 .i64 out5_1 t21_1 hi_5 ?_
  obtain ⟨hw_1, hL_6, H⟩ := H
  refine uop_cell (v := (VI t36_1)) siz3 hw_1 rfl (fun h_6 he_1 => ?_)
  rw [← he_1] at hL_6
  have H := H h_6 he_1 hL_6
  obtain ⟨hi_6, H⟩ := H
  refine pop_index sli29 siz3 .i64 out5_1 t26_1 hi_6 ?_
  obtain ⟨hw_2, hL_7, H⟩ := H
  refine uop_cell (v := (VI t30_1)) siz3 hw_2 rfl (fun h_7 he_2 => ?_)
  rw [← he_2] at hL_7
  have H := H h_7 he_2 hL_7
  refine pop_add .i64 t21_1 1 ?_
  obtain ⟨m_2, hm_2, H⟩ := H
  exact hn_2 _ _ ⟨m_2, hm_2, (w64 (t21_1 + 1)), x_4, x_5, x_6, rfl, H, hL_7⟩
def u67 (P : Program) (b_1 : Nat) (c0_1 : Sl) (c0_2 : Int) (c0_3 : Int) (n1_1 : Int) (h : Heap) (K : Value → Heap → Prop) : Prop :=
  callM P 52 #[(VP b_1 0), (VI n1_1)] h fun rv_1 h_1 => ∃ x_1 : Sl, ∃ x_2 : Int, ∃ x_3 : Int, ∃ t7_1 : Int, rv_1 = (VI t7_1) ∧ Vars h_1 [(b_1, [(Sl.v x_1), (VI x_2), (Value.int .u64 x_3)])] ∧
  K (VB (decide (t7_1 = 0))) h_1
theorem v67 (b_1 : Nat) (c0_1 : Sl) (c0_2 : Int) (c0_3 : Int) (n1_1 : Int) (h : Heap) (K : Value → Heap → Prop) (hL : Vars h [(b_1, [(Sl.v c0_1), (VI c0_2), (Value.int .u64 c0_3)])]) (H : u67 Tryz.prog b_1 c0_1 c0_2 c0_3 n1_1 h K) : callM Tryz.prog 67 #[(VP b_1 0), (VI n1_1)] h K := by
  refine c67 (VP b_1 0) (VI n1_1) h K ?_
  unfold u67 at H
  unfold t67
  refine H.mono fun rv_1 h_1 H => ?_
  obtain ⟨x_1, x_2, x_3, t7_1, rfl, hL_1, H⟩ := H
  refine pop_ieq .i64 _ _ t7_1 0 ?_
  exact H
def u68 (P : Program) (g0_1 : Sl) (h : Heap) (K : Value → Heap → Prop) : Prop :=
  ∀ (b_1 : Nat) (b_2 : Nat) (h_3 : Heap), h.size ≤ b_1 → h.size ≤ b_2 → Fr (In []) h h_3 → Vars h_3 [(b_2, [(VI (g0_1.n : Int))]), (b_1, [(Sl.v g0_1)])] →
  callM P 84 #[(VI (g0_1.n : Int)), (VI 1), (VI 8)] h_3 fun rv_1 h_4 => ∃ t10_1 : Bool, rv_1 = (VB t10_1) ∧ Vars h_4 [(b_2, [(VI (g0_1.n : Int))]), (b_1, [(Sl.v g0_1)])] ∧
  ((!t10_1) = true →
  K (VB false) h_4) ∧
  ((!t10_1) = false →
  ∃ J_1 : Nat → Int → Int → Heap → Prop, (∃ n0 : Nat, J_1 n0 0 (g0_1.n : Int) h_4) ∧
  ∀ (n_1 : Nat) (t15_1 : Int) (x_1 : Int) (h_5 : Heap), J_1 n_1 t15_1 x_1 h_5 → Vars h_5 [(b_2, [(VI x_1)]), (b_1, [(Sl.v g0_1)])] →
  ((decide (t15_1 < (g0_1.n : Int))) = true →
  InB g0_1 t15_1 ∧
  ∃ t18_1 : Sl, hcell h_5 (Sl.at g0_1 t15_1 1) = some (Sl.v t18_1) ∧
  ((decide (5 < (t18_1.n : Int))) = true →
  K (VB false) h_5) ∧
  ((decide (5 < (t18_1.n : Int))) = false →
  callM P 107 #[(Sl.v t18_1), (Value.func (Fn.func 117) #[] #[(VP b_2 0)])] h_5 fun rv_2 h_6 => ∃ x_2 : Int, ∃ t25_1 : Bool, rv_2 = (VB t25_1) ∧ Vars h_6 [(b_2, [(VI x_2)]), (b_1, [(Sl.v g0_1)])] ∧
  (t25_1 = true →
  K (VB false) h_6) ∧
  (t25_1 = false →
  ∃ m : Nat, m < n_1 ∧ J_1 m (w64 (t15_1 + 1)) x_2 h_6))) ∧
  ((decide (t15_1 < (g0_1.n : Int))) = false →
  K (VB true) h_5))
theorem v68 (g0_1 : Sl) (h : Heap) (K : Value → Heap → Prop) (H : u68 Tryz.prog g0_1 h K) : callM Tryz.prog 68 #[(Value.agg #[(Sl.v g0_1)])] h K := by
  refine c68 (Value.agg #[(Sl.v g0_1)]) h K ?_
  unfold u68 at H
  unfold t68
  have hL : Vars h [] := .nil
  refine eop_box 26 (Value.agg #[(Sl.v g0_1)]) rfl hL (fun b_1 h_1 hb_1 hf_1 hL_1 => ?_)
  refine pop_field 0 fld26_0 b_1 0 ?_
  refine rop_loc one24 hL_1 0 rfl 0 (v := (Sl.v g0_1)) rfl ?_
  refine pop_len g0_1 _ _ sli24 ?_
  refine eop_alloc 3 zer3 rfl hL_1 (fun b_2 h_2 hb_2 hf_2 hL_2 => ?_)
  refine uop_loc siz3 hL_2 0 rfl 0 [(VI (g0_1.n : Int))] rfl rfl rfl (Nat.le_of_ble_eq_true rfl) (L' := [(b_2, [(VI (g0_1.n : Int))]), (b_1, [(Sl.v g0_1)])]) rfl (fun h_3 hf_3 hL_3 => ?_)
  refine rop_loc one3 hL_3 0 rfl 0 (v := (VI (g0_1.n : Int))) rfl ?_
  have H := H b_1 b_2 h_3 (Nat.le_trans (Fr.size (Fr.r (In []) _)) hb_1) (Nat.le_trans (Fr.size (Fr.no' (Fr.r (In []) _) hf_1)) hb_2) (Fr.new (Fr.no' (Fr.no' (Fr.r (In []) _) hf_1) hf_2) (Nat.le_trans (Fr.size (Fr.no' (Fr.r (In []) _) hf_1)) hb_2) hf_3) hL_3
  refine H.mono fun rv_1 h_4 H => ?_
  obtain ⟨t10_1, rfl, hL_4, H⟩ := H
  refine pop_not t10_1 ?_
  refine condM_b (fun hb_3 => ?_) (fun hb_3 => ?_)
  ·have H := H.1 hb_3
   exact H
  have H := H.2 hb_3
  refine pop_field 0 fld26_0 b_1 0 ?_
  refine rop_loc one24 hL_4 1 rfl 0 (v := (Sl.v g0_1)) rfl ?_
  refine pop_len g0_1 _ _ sli24 ?_
  obtain ⟨J_1, ⟨n_2, h0_1⟩, HB_1⟩ := H
  refine loop_intro (J := fun (n : Nat) (vs : List Value) (h' : Heap) => ∃ t15_1 : Int, ∃ x_1 : Int, vs = [(VI t15_1)] ∧ J_1 n t15_1 x_1 h' ∧ Vars h' [(b_2, [(VI x_1)]), (b_1, [(Sl.v g0_1)])]) n_2 ⟨0, (g0_1.n : Int), rfl, h0_1, hL_4⟩ ?_
  intro I_1 mu_1 hI_1 junk_1 tv_1 h_5 hi_1
  obtain ⟨n_1, ⟨t15_1, x_1, hv, hJ_1, hL_5⟩, hn_1⟩ := hI_1 _ _ hi_1
  cases hv
  have H := HB_1 n_1 t15_1 x_1 h_5 hJ_1 hL_5
  refine pop_lss .i64 t15_1 (g0_1.n : Int) ?_
  refine condM_b (fun hb_4 => ?_) (fun hb_4 => ?_)
  rotate_left
  ·have H := H.2 hb_4
   exact H
  have H := H.1 hb_4
  obtain ⟨hi_2, H⟩ := H
  refine pop_index sli24 siz29 .i64 g0_1 t15_1 hi_2 ?_
  obtain ⟨t18_1, hc_1, H⟩ := H
  refine rop_one one29 (Sl.v t18_1) hc_1 ?_
  refine pop_len t18_1 _ _ sli29 ?_
  refine pop_gtr .i64 (t18_1.n : Int) 5 ?_
  refine guardM_sf (fun hb_5 => ?_) (fun hb_5 => ?_)
  rotate_left
  ·have H := H.1 hb_5
   refine guardM_n' hb_5 (by decide) ?_
   refine guardM_n' hb_5 (by decide) ?_
   refine pop_pickt' hb_5 ?_
   refine condM_t ?_
   exact H
  have H := H.2 hb_5
  refine guardM_y' hb_5 ?_
  refine pop_func _ _ _ ?_
  refine guardM_y' hb_5 ?_
  refine H.mono fun rv_2 h_6 H => ?_
  obtain ⟨x_2, t25_1, rfl, hL_6, H⟩ := H
  refine pop_pickf' hb_5 ?_
  refine condM_b (fun hb_6 => ?_) (fun hb_6 => ?_)
  ·have H := H.1 hb_6
   exact H
  have H := H.2 hb_6
  refine pop_add .i64 t15_1 1 ?_
  obtain ⟨m_1, hm_1, H⟩ := H
  exact hn_1 _ _ ⟨m_1, hm_1, (w64 (t15_1 + 1)), x_2, rfl, H, hL_6⟩
def u69 (P : Program) (g0_1 : Sl) (names1_1 : Sl) (h : Heap) (K : Value → Heap → Prop) : Prop :=
  ((!decide ((names1_1.n : Int) = (g0_1.n : Int))) = true →
  ∀ (b_1 : Nat) (h_1 : Heap), h.size ≤ b_1 → Fr (In []) h h_1 → Vars h_1 [(b_1, [(Sl.v g0_1)])] →
  K (VB false) h_1) ∧
  ((!decide ((names1_1.n : Int) = (g0_1.n : Int))) = false →
  ∀ (b_1 : Nat) (h_1 : Heap), h.size ≤ b_1 → Fr (In []) h h_1 → Vars h_1 [(b_1, [(Sl.v g0_1)])] →
  callM P 119 #[(Sl.v names1_1)] h_1 fun rv_1 h_2 => ∃ t14_1 : Value, rv_1 = t14_1 ∧ Vars h_2 [(b_1, [(Sl.v g0_1)])] ∧
  callM P 118 #[t14_1] h_2 fun rv_2 h_3 => ∃ t15_1 : Sl, rv_2 = (Sl.v t15_1) ∧ Vars h_3 [(b_1, [(Sl.v g0_1)])] ∧
  ∃ J_1 : Nat → Int → Heap → Prop, (∃ n0 : Nat, J_1 n0 0 h_3) ∧
  ∀ (n_1 : Nat) (t17_1 : Int) (h_4 : Heap), J_1 n_1 t17_1 h_4 → Vars h_4 [(b_1, [(Sl.v g0_1)])] →
  ((decide (t17_1 < (t15_1.n : Int))) = true →
  InB t15_1 t17_1 ∧
  ∃ t21_1 : Int, hcell h_4 (Sl.at t15_1 t17_1 1) = some (VI t21_1) ∧
  ((!decide (t17_1 = t21_1)) = true →
  K (VB false) h_4) ∧
  ((!decide (t17_1 = t21_1)) = false →
  ∃ m : Nat, m < n_1 ∧ J_1 m (w64 (t17_1 + 1)) h_4)) ∧
  ((decide (t17_1 < (t15_1.n : Int))) = false →
  K (VB true) h_4))
theorem v69 (g0_1 : Sl) (names1_1 : Sl) (h : Heap) (K : Value → Heap → Prop) (H : u69 Tryz.prog g0_1 names1_1 h K) : callM Tryz.prog 69 #[(Value.agg #[(Sl.v g0_1)]), (Sl.v names1_1)] h K := by
  refine c69 (Value.agg #[(Sl.v g0_1)]) (Sl.v names1_1) h K ?_
  unfold u69 at H
  unfold t69
  have hL : Vars h [] := .nil
  refine eop_box 26 (Value.agg #[(Sl.v g0_1)]) rfl hL (fun b_1 h_1 hb_1 hf_1 hL_1 => ?_)
  refine pop_len names1_1 _ _ sli29 ?_
  refine pop_field 0 fld26_0 b_1 0 ?_
  refine rop_loc one24 hL_1 0 rfl 0 (v := (Sl.v g0_1)) rfl ?_
  refine pop_len g0_1 _ _ sli24 ?_
  refine pop_ine .i64 _ _ (names1_1.n : Int) (g0_1.n : Int) ?_
  refine condM_b (fun hb_2 => ?_) (fun hb_2 => ?_)
  ·have H := H.1 hb_2
   have H := H b_1 h_1 (Nat.le_trans (Fr.size (Fr.r (In []) _)) hb_1) (Fr.no' (Fr.r (In []) _) hf_1) hL_1
   exact H
  have H := H.2 hb_2
  have H := H b_1 h_1 (Nat.le_trans (Fr.size (Fr.r (In []) _)) hb_1) (Fr.no' (Fr.r (In []) _) hf_1) hL_1
  refine H.mono fun rv_1 h_2 H => ?_
  obtain ⟨t14_1, rfl, hL_2, H⟩ := H
  refine H.mono fun rv_2 h_3 H => ?_
  obtain ⟨t15_1, rfl, hL_3, H⟩ := H
  refine pop_len t15_1 _ _ sli29 ?_
  obtain ⟨J_1, ⟨n_2, h0_1⟩, HB_1⟩ := H
  refine loop_intro (J := fun (n : Nat) (vs : List Value) (h' : Heap) => ∃ t17_1 : Int, vs = [(VI t17_1)] ∧ J_1 n t17_1 h' ∧ Vars h' [(b_1, [(Sl.v g0_1)])]) n_2 ⟨0, rfl, h0_1, hL_3⟩ ?_
  intro I_1 mu_1 hI_1 junk_1 tv_1 h_4 hi_1
  obtain ⟨n_1, ⟨t17_1, hv, hJ_1, hL_4⟩, hn_1⟩ := hI_1 _ _ hi_1
  cases hv
  have H := HB_1 n_1 t17_1 h_4 hJ_1 hL_4
  refine pop_lss .i64 t17_1 (t15_1.n : Int) ?_
  refine condM_b (fun hb_3 => ?_) (fun hb_3 => ?_)
  rotate_left
  ·have H := H.2 hb_3
   exact H
  have H := H.1 hb_3
  obtain ⟨hi_2, H⟩ := H
  refine pop_index sli29 siz3 .i64 t15_1 t17_1 hi_2 ?_
  obtain ⟨t21_1, hc_1, H⟩ := H
  refine rop_one one3 (VI t21_1) hc_1 ?_
  refine pop_ine .i64 _ _ t17_1 t21_1 ?_
  refine condM_b (fun hb_4 => ?_) (fun hb_4 => ?_)
  ·have H := H.1 hb_4
   exact H
  have H := H.2 hb_4
  refine pop_add .i64 t17_1 1 ?_
  obtain ⟨m_1, hm_1, H⟩ := H
  exact hn_1 _ _ ⟨m_1, hm_1, (w64 (t17_1 + 1)), rfl, H, hL_4⟩
def u70 (P : Program) (names0_1 : Sl) (n1_1 : Int) (h : Heap) (K : Value → Heap → Prop) : Prop :=
  ((!decide ((names0_1.n : Int) = n1_1)) = true →
  K (VB false) h) ∧
  ((!decide ((names0_1.n : Int) = n1_1)) = false →
  callM P 56 #[(Sl.v names0_1), (VI 0), (VI (w64 (n1_1 - 1)))] h fun rv_1 h_1 => ∃ t15_1 : Bool, rv_1 = (VB t15_1) ∧ Vars h_1 [] ∧
  ((!t15_1) = true →
  K (VB false) h_1) ∧
  ((!t15_1) = false →
  ∃ J_1 : Nat → Int → Heap → Prop, (∃ n0 : Nat, J_1 n0 0 h_1) ∧
  ∀ (n_1 : Nat) (t20_1 : Int) (h_2 : Heap), J_1 n_1 t20_1 h_2 → Vars h_2 [] →
  ((decide (t20_1 < (names0_1.n : Int))) = true →
  InB names0_1 t20_1 ∧
  ∃ t24_1 : Int, hcell h_2 (Sl.at names0_1 t20_1 1) = some (VI t24_1) ∧
  pop P (Instr.sliceAt 29 (Sl.v names0_1) none (some (VI t20_1)) none) fun rv_2 => ∃ t27_1 : Sl, rv_2 = (Sl.v t27_1) ∧ 
  callM P 112 #[(Sl.v t27_1), (VI t24_1)] h_2 fun rv_3 h_3 => ∃ t29_1 : Bool, rv_3 = (VB t29_1) ∧ Vars h_3 [] ∧
  (t29_1 = true →
  K (VB false) h_3) ∧
  (t29_1 = false →
  ∃ m : Nat, m < n_1 ∧ J_1 m (w64 (t20_1 + 1)) h_3)) ∧
  ((decide (t20_1 < (names0_1.n : Int))) = false →
  K (VB true) h_2)))
theorem v70 (names0_1 : Sl) (n1_1 : Int) (h : Heap) (K : Value → Heap → Prop) (H : u70 Tryz.prog names0_1 n1_1 h K) : callM Tryz.prog 70 #[(Sl.v names0_1), (VI n1_1)] h K := by
  refine c70 (Sl.v names0_1) (VI n1_1) h K ?_
  unfold u70 at H
  unfold t70
  have hL : Vars h [] := .nil
  refine pop_len names0_1 _ _ sli29 ?_
  refine pop_ine .i64 _ _ (names0_1.n : Int) n1_1 ?_
  refine guardM_sf (fun hb_1 => ?_) (fun hb_1 => ?_)
  rotate_left
  ·have H := H.1 hb_1
   refine guardM_n' hb_1 (by decide) ?_
   refine guardM_n' hb_1 (by decide) ?_
   refine guardM_n' hb_1 (by decide) ?_
   refine guardM_n' hb_1 (by decide) ?_
   refine pop_pickt' hb_1 ?_
   refine condM_t ?_
   exact H
  have H := H.2 hb_1
  refine guardM_y' hb_1 ?_
  refine guardM_y' hb_1 ?_
  refine pop_sub .i64 n1_1 1 ?_
  refine guardM_y' hb_1 ?_
  refine H.mono fun rv_1 h_1 H => ?_
  obtain ⟨t15_1, rfl, hL_1, H⟩ := H
  refine guardM_y' hb_1 ?_
  refine pop_not t15_1 ?_
  refine pop_pickf' hb_1 ?_
  refine condM_b (fun hb_2 => ?_) (fun hb_2 => ?_)
  ·have H := H.1 hb_2
   exact H
  have H := H.2 hb_2
  refine pop_len names0_1 _ _ sli29 ?_
  obtain ⟨J_1, ⟨n_2, h0_1⟩, HB_1⟩ := H
  refine loop_intro (J := fun (n : Nat) (vs : List Value) (h' : Heap) => ∃ t20_1 : Int, vs = [(VI t20_1)] ∧ J_1 n t20_1 h' ∧ Vars h' []) n_2 ⟨0, rfl, h0_1, hL_1⟩ ?_
  intro I_1 mu_1 hI_1 junk_1 tv_1 h_2 hi_1
  obtain ⟨n_1, ⟨t20_1, hv, hJ_1, hL_2⟩, hn_1⟩ := hI_1 _ _ hi_1
  cases hv
  have H := HB_1 n_1 t20_1 h_2 hJ_1 hL_2
  refine pop_lss .i64 t20_1 (names0_1.n : Int) ?_
  refine condM_b (fun hb_3 => ?_) (fun hb_3 => ?_)
  rotate_left
  ·have H := H.2 hb_3
   exact H
  have H := H.1 hb_3
  obtain ⟨hi_2, H⟩ := H
  refine pop_index sli29 siz3 .i64 names0_1 t20_1 hi_2 ?_
  obtain ⟨t24_1, hc_1, H⟩ := H
  refine rop_one one3 (VI t24_1) hc_1 ?_
  refine H.mono fun rv_2 H => ?_
  obtain ⟨t27_1, rfl, H⟩ := H
  refine H.mono fun rv_3 h_3 H => ?_
  obtain ⟨t29_1, rfl, hL_3, H⟩ := H
  refine condM_b (fun hb_4 => ?_) (fun hb_4 => ?_)
  ·have H := H.1 hb_4
   exact H
  have H := H.2 hb_4
  refine pop_add .i64 t20_1 1 ?_
  obtain ⟨m_1, hm_1, H⟩ := H
  exact hn_1 _ _ ⟨m_1, hm_1, (w64 (t20_1 + 1)), rfl, H, hL_3⟩
def u71 (P : Program) (g0_1 : Sl) (sink1_1 : Int) (s2_1 : Sl) (order3_1 : Sl) (h : Heap) (K : Value → Heap → Prop) : Prop :=
  ∀ (b_1 : Nat) (b_2 : Nat) (h_2 : Heap), h.size ≤ b_1 → h.size ≤ b_2 → Fr (In []) h h_2 → Vars h_2 [(b_2, [(Sl.v s2_1)]), (b_1, [(Sl.v g0_1)])] →
  callM P 58 #[(Value.agg #[(Sl.v s2_1)]), (Sl.v nilSl)] h_2 fun rv_1 h_3 => ∃ t24_1 : Sl, rv_1 = (Value.agg #[(Sl.v t24_1)]) ∧ Vars h_3 [(b_2, [(Sl.v s2_1)]), (b_1, [(Sl.v g0_1)])] ∧
  ∀ (h_4 : Heap), Fr (In [b_2]) h_3 h_4 → Vars h_4 [(b_2, [(Sl.v t24_1)]), (b_1, [(Sl.v g0_1)])] →
  eop P (Instr.makeSlice 126 (VI (g0_1.n : Int)) (VI (g0_1.n : Int))) h_4 fun rv_2 h_5 => ∃ t28_1 : Sl, rv_2 = (Sl.v t28_1) ∧ Vars h_5 [(b_2, [(Sl.v t24_1)]), (b_1, [(Sl.v g0_1)])] ∧
  InB t28_1 sink1_1 ∧
  Writable h_5 (Sl.at t28_1 sink1_1 1) ∧ Vars (hset h_5 (Sl.at t28_1 sink1_1 1) (VB true)) [(b_2, [(Sl.v t24_1)]), (b_1, [(Sl.v g0_1)])] ∧
  ∀ h_6 : Heap, h_6 = hset h_5 (Sl.at t28_1 sink1_1 1) (VB true) → Vars h_6 [(b_2, [(Sl.v t24_1)]), (b_1, [(Sl.v g0_1)])] →
  ∃ J_1 : Nat → Int → Int → Sl → Heap → Prop, (∃ n0 : Nat, J_1 n0 0 0 t24_1 h_6) ∧
  ∀ (n_1 : Nat) (steps12_1 : Int) (t34_1 : Int) (x_1 : Sl) (h_7 : Heap), J_1 n_1 steps12_1 t34_1 x_1 h_7 → Vars h_7 [(b_2, [(Sl.v x_1)]), (b_1, [(Sl.v g0_1)])] →
  ((decide (t34_1 < (order3_1.n : Int))) = true →
  InB order3_1 t34_1 ∧
  ∃ t37_1 : Int, hcell h_7 (Sl.at order3_1 t34_1 1) = some (VI t37_1) ∧
  InB t28_1 t37_1 ∧
  ∃ t41_1 : Bool, hcell h_7 (Sl.at t28_1 t37_1 1) = some (VB t41_1) ∧
  (t41_1 = true →
  ∃ m : Nat, m < n_1 ∧ J_1 m steps12_1 (w64 (t34_1 + 1)) x_1 h_7) ∧
  (t41_1 = false →
  eop P (Instr.buildSlice 29 1 #[(0, (VI t37_1))]) h_7 fun rv_3 h_8 => ∃ t43_1 : Sl, rv_3 = (Sl.v t43_1) ∧ Vars h_8 [(b_2, [(Sl.v x_1)]), (b_1, [(Sl.v g0_1)])] ∧
  ∃ J_2 : Nat → Int → Sl → Int → Sl → Heap → Prop, (∃ n0 : Nat, J_2 n0 steps12_1 t43_1 t37_1 x_1 h_8) ∧
  ∀ (n_2 : Nat) (steps12_2 : Int) (way15_1 : Sl) (p16_1 : Int) (x_2 : Sl) (h_9 : Heap), J_2 n_2 steps12_2 way15_1 p16_1 x_2 h_9 → Vars h_9 [(b_2, [(Sl.v x_2)]), (b_1, [(Sl.v g0_1)])] →
  InB t28_1 p16_1 ∧
  ∃ t48_1 : Bool, hcell h_9 (Sl.at t28_1 p16_1 1) = some (VB t48_1) ∧
  ((!t48_1) = true →
  callM P 120 #[(Value.agg #[(Sl.v g0_1)]), (Value.agg #[(Sl.v x_2)]), (VI p16_1)] h_9 fun rv_4 h_10 => ∃ t53_1 : Int, rv_4 = (VI t53_1) ∧ Vars h_10 [(b_2, [(Sl.v x_2)]), (b_1, [(Sl.v g0_1)])] ∧
  ((decide (t53_1 < 0)) = true →
  K (Value.tuple #[(Sl.v nilSl), (VI 0), (VB false)]) h_10) ∧
  ((decide (t53_1 < 0)) = false →
  callM P 121 #[(Sl.v way15_1), (VI t53_1)] h_10 fun rv_5 h_11 => ∃ t60_1 : Int, rv_5 = (VI t60_1) ∧ Vars h_11 [(b_2, [(Sl.v x_2)]), (b_1, [(Sl.v g0_1)])] ∧
  ((decide (0 ≤ t60_1)) = true →
  pop P (Instr.sliceAt 29 (Sl.v way15_1) (some (VI t60_1)) none none) fun rv_6 => ∃ t66_1 : Sl, rv_6 = (Sl.v t66_1) ∧ 
  callM P 58 #[(Value.agg #[(Sl.v x_2)]), (Sl.v t66_1)] h_11 fun rv_7 h_12 => ∃ t67_1 : Sl, rv_7 = (Value.agg #[(Sl.v t67_1)]) ∧ Vars h_12 [(b_2, [(Sl.v x_2)]), (b_1, [(Sl.v g0_1)])] ∧
  pop P (Instr.sliceAt 29 (Sl.v way15_1) none (some (VI (w64 (t60_1 + 1)))) none) fun rv_8 => ∃ t71_1 : Sl, rv_8 = (Sl.v t71_1) ∧ 
  ∀ (h_13 : Heap), Fr (In [b_2]) h_12 h_13 → Vars h_13 [(b_2, [(Sl.v t67_1)]), (b_1, [(Sl.v g0_1)])] →
  callM P 79 #[(Sl.v t71_1)] h_13 fun rv_9 h_14 => ∃ t72_1 : Sl, rv_9 = (Sl.v t72_1) ∧ Vars h_14 [(b_2, [(Sl.v t67_1)]), (b_1, [(Sl.v g0_1)])] ∧
  ∃ m : Nat, m < n_2 ∧ J_2 m (w64 (steps12_2 + 1)) t72_1 t53_1 t67_1 h_14) ∧
  ((decide (0 ≤ t60_1)) = false →
  eop P (Instr.buildSlice 29 1 #[(0, (VI t53_1))]) h_11 fun rv_10 h_15 => ∃ t75_1 : Sl, rv_10 = (Sl.v t75_1) ∧ Vars h_15 [(b_2, [(Sl.v x_2)]), (b_1, [(Sl.v g0_1)])] ∧
  eop P (appS 29 29 29 (Sl.v way15_1) (Sl.v t75_1)) h_15 fun rv_11 h_16 => ∃ t76_1 : Sl, rv_11 = (Sl.v t76_1) ∧ Vars h_16 [(b_2, [(Sl.v x_2)]), (b_1, [(Sl.v g0_1)])] ∧
  ∃ m : Nat, m < n_2 ∧ J_2 m (w64 (steps12_2 + 1)) t76_1 t53_1 x_2 h_16))) ∧
  ((!t48_1) = false →
  ∃ J_3 : Nat → Int → Heap → Prop, (∃ n0 : Nat, J_3 n0 0 h_9) ∧
  ∀ (n_3 : Nat) (t80_1 : Int) (h_17 : Heap), J_3 n_3 t80_1 h_17 → Vars h_17 [(b_2, [(Sl.v x_2)]), (b_1, [(Sl.v g0_1)])] →
  ((decide (t80_1 < (way15_1.n : Int))) = true →
  InB way15_1 t80_1 ∧
  ∃ t83_1 : Int, hcell h_17 (Sl.at way15_1 t80_1 1) = some (VI t83_1) ∧
  InB t28_1 t83_1 ∧
  Writable h_17 (Sl.at t28_1 t83_1 1) ∧ Vars (hset h_17 (Sl.at t28_1 t83_1 1) (VB true)) [(b_2, [(Sl.v x_2)]), (b_1, [(Sl.v g0_1)])] ∧
  ∀ h_18 : Heap, h_18 = hset h_17 (Sl.at t28_1 t83_1 1) (VB true) → Vars h_18 [(b_2, [(Sl.v x_2)]), (b_1, [(Sl.v g0_1)])] →
  ∃ m : Nat, m < n_3 ∧ J_3 m (w64 (t80_1 + 1)) h_18) ∧
  ((decide (t80_1 < (way15_1.n : Int))) = false →
  ∃ m : Nat, m < n_1 ∧ J_1 m steps12_2 (w64 (t34_1 + 1)) x_2 h_17)))) ∧
  ((decide (t34_1 < (order3_1.n : Int))) = false →
  callM P 60 #[(Value.agg #[(Sl.v g0_1)]), (VI sink1_1), (Value.agg #[(Sl.v x_1)])] h_7 fun rv_12 h_19 => ∃ t93_1 : Sl, ∃ t93_2 : Bool, rv_12 = (Value.tuple #[(Sl.v t93_1), (VB t93_2)]) ∧ Vars h_19 [(b_2, [(Sl.v x_1)]), (b_1, [(Sl.v g0_1)])] ∧
  K (Value.tuple #[(Sl.v t93_1), (VI steps12_1), (VB t93_2)]) h_19)
theorem v71 (g0_1 : Sl) (sink1_1 : Int) (s2_1 : Sl) (order3_1 : Sl) (h : Heap) (K : Value → Heap → Prop) (H : u71 Tryz.prog g0_1 sink1_1 s2_1 order3_1 h K) : callM Tryz.prog 71 #[(Value.agg #[(Sl.v g0_1)]), (VI sink1_1), (Value.agg #[(Sl.v s2_1)]), (Sl.v order3_1)] h K := by
  refine c71 (Value.agg #[(Sl.v g0_1)]) (VI sink1_1) (Value.agg #[(Sl.v s2_1)]) (Sl.v order3_1) h K ?_
  unfold u71 at H
  unfold t71
  have hL : Vars h [] := .nil
  refine eop_box 26 (Value.agg #[(Sl.v g0_1)]) rfl hL (fun b_1 h_1 hb_1 hf_1 hL_1 => ?_)
  refine eop_box 28 (Value.agg #[(Sl.v s2_1)]) rfl hL_1 (fun b_2 h_2 hb_2 hf_2 hL_2 => ?_)
  refine rop_locA agg28 hL_2 0 rfl 0 (vs := [(Sl.v s2_1)]) rfl rfl ?_
  have H := H b_1 b_2 h_2 (Nat.le_trans (Fr.size (Fr.r (In []) _)) hb_1) (Nat.le_trans (Fr.size (Fr.no' (Fr.r (In []) _) hf_1)) hb_2) (Fr.no' (Fr.no' (Fr.r (In []) _) hf_1) hf_2) hL_2
  refine H.mono fun rv_1 h_3 H => ?_
  obtain ⟨t24_1, rfl, hL_3, H⟩ := H
  refine uop_loc siz28 hL_3 0 rfl 0 [(Sl.v t24_1)] rfl rfl rfl (Nat.le_of_ble_eq_true rfl) (L' := [(b_2, [(Sl.v t24_1)]), (b_1, [(Sl.v g0_1)])]) rfl (fun h_4 hf_3 hL_4 => ?_)
  refine pop_field 0 fld26_0 b_1 0 ?_
  refine rop_loc one24 hL_4 1 rfl 0 (v := (Sl.v g0_1)) rfl ?_
  refine pop_len g0_1 _ _ sli24 ?_
  have H := H  h_4  (Fr.old (Fr.r (In []) _) hf_3) hL_4
  refine H.mono fun rv_2 h_5 H => ?_
  obtain ⟨t28_1, rfl, hL_5, H⟩ := H
  obtain ⟨hi_1, H⟩ := H
  refine pop_index sli126 siz4 .i64 t28_1 sink1_1 hi_1 ?_
  obtain ⟨hw_1, hL_6, H⟩ := H
  refine uop_cell (v := (VB true)) siz4 hw_1 rfl (fun h_6 he_1 => ?_)
  rw [← he_1] at hL_6
  have H := H h_6 he_1 hL_6
  refine pop_len order3_1 _ _ sli29 ?_
  obtain ⟨J_1, ⟨n_6, h0_3⟩, HB_3⟩ := H
  refine loop_intro (J := fun (n : Nat) (vs : List Value) (h' : Heap) => ∃ steps12_1 : Int, ∃ t34_1 : Int, ∃ x_1 : Sl, vs = [(VI steps12_1), (VI t34_1)] ∧ J_1 n steps12_1 t34_1 x_1 h' ∧ Vars h' [(b_2, [(Sl.v x_1)]), (b_1, [(Sl.v g0_1)])]) n_6 ⟨0, 0, t24_1, rfl, h0_3, hL_6⟩ ?_
  intro I_3 mu_3 hI_3 junk_1 tv_5 tv_6 h_7 hi_2
  obtain ⟨n_1, ⟨steps12_1, t34_1, x_1, hv, hJ_1, hL_7⟩, hn_1⟩ := hI_3 _ _ hi_2
  cases hv
  have H := HB_3 n_1 steps12_1 t34_1 x_1 h_7 hJ_1 hL_7
  refine pop_lss .i64 t34_1 (order3_1.n : Int) ?_
  refine condM_b (fun hb_3 => ?_) (fun hb_3 => ?_)
  rotate_left
  ·have H := H.2 hb_3
   refine rop_locA agg26 hL_7 1 rfl 0 (vs := [(Sl.v g0_1)]) rfl rfl ?_
   refine rop_locA agg28 hL_7 0 rfl 0 (vs := [(Sl.v x_1)]) rfl rfl ?_
   refine H.mono fun rv_12 h_19 H => ?_
   obtain ⟨t93_1, t93_2, rfl, hL_19, H⟩ := H
   refine pop_ext (v := (Sl.v t93_1)) rfl ?_
   refine pop_ext (v := (VB t93_2)) rfl ?_
   exact H
  have H := H.1 hb_3
  obtain ⟨hi_3, H⟩ := H
  refine pop_index sli29 siz3 .i64 order3_1 t34_1 hi_3 ?_
  obtain ⟨t37_1, hc_4, H⟩ := H
  refine rop_one one3 (VI t37_1) hc_4 ?_
  obtain ⟨hi_4, H⟩ := H
  refine pop_index sli126 siz4 .i64 t28_1 t37_1 hi_4 ?_
  obtain ⟨t41_1, hc_3, H⟩ := H
  refine rop_one one4 (VB t41_1) hc_3 ?_
  refine condM_b (fun hb_4 => ?_) (fun hb_4 => ?_)
  ·have H := H.1 hb_4
   refine pop_add .i64 t34_1 1 ?_
   obtain ⟨m_1, hm_1, H⟩ := H
   exact hn_1 _ _ ⟨m_1, hm_1, steps12_1, (w64 (t34_1 + 1)), x_1, rfl, H, hL_7⟩
  have H := H.2 hb_4
  refine H.mono fun rv_3 h_8 H => ?_
  obtain ⟨t43_1, rfl, hL_8, H⟩ := H
  obtain ⟨J_2, ⟨n_5, h0_2⟩, HB_2⟩ := H
  refine loop_intro (J := fun (n : Nat) (vs : List Value) (h' : Heap) => ∃ steps12_2 : Int, ∃ way15_1 : Sl, ∃ p16_1 : Int, ∃ x_2 : Sl, vs = [(VI steps12_2), (Sl.v way15_1), (VI p16_1)] ∧ J_2 n steps12_2 way15_1 p16_1 x_2 h' ∧ Vars h' [(b_2, [(Sl.v x_2)]), (b_1, [(Sl.v g0_1)])]) n_5 ⟨steps12_1, t43_1, t37_1, x_1, rfl, h0_2, hL_8⟩ ?_
  intro I_2 mu_2 hI_2 junk_2 tv_2 tv_3 tv_4 h_9 hi_5
  obtain ⟨n_2, ⟨steps12_2, way15_1, p16_1, x_2, hv, hJ_2, hL_9⟩, hn_2⟩ := hI_2 _ _ hi_5
  cases hv
  have H := HB_2 n_2 steps12_2 way15_1 p16_1 x_2 h_9 hJ_2 hL_9
  obtain ⟨hi_6, H⟩ := H
  refine pop_index sli126 siz4 .i64 t28_1 p16_1 hi_6 ?_
  obtain ⟨t48_1, hc_2, H⟩ := H
  refine rop_one one4 (VB t48_1) hc_2 ?_
  refine pop_not t48_1 ?_
  refine condM_b (fun hb_5 => ?_) (fun hb_5 => ?_)
  rotate_left
  ·have H := H.2 hb_5
   refine pop_len way15_1 _ _ sli29 ?_
   obtain ⟨J_3, ⟨n_4, h0_1⟩, HB_1⟩ := H
   refine loop_intro (J := fun (n : Nat) (vs : List Value) (h' : Heap) => ∃ t80_1 : Int, vs = [(VI t80_1)] ∧ J_3 n t80_1 h' ∧ Vars h' [(b_2, [(Sl.v x_2)]), (b_1, [(Sl.v g0_1)])]) n_4 ⟨0, rfl, h0_1, hL_9⟩ ?_
   intro I_1 mu_1 hI_1 junk_3 tv_1 h_17 hi_7
   obtain ⟨n_3, ⟨t80_1, hv, hJ_3, hL_17⟩, hn_3⟩ := hI_1 _ _ hi_7
   cases hv
   have H := HB_1 n_3 t80_1 h_17 hJ_3 hL_17
   refine pop_lss .i64 t80_1 (way15_1.n : Int) ?_
   refine condM_b (fun hb_8 => ?_) (fun hb_8 => ?_)
   rotate_left
   ·have H := H.2 hb_8
    refine pop_add .i64 t34_1 1 ?_
    obtain ⟨m_5, hm_5, H⟩ := H
    exact hn_1 _ _ ⟨m_5, hm_5, steps12_2, (w64 (t34_1 + 1)), x_2, rfl, H, hL_17⟩
   have H := H.1 hb_8
   obtain ⟨hi_8, H⟩ := H
   refine pop_index sli29 siz3 .i64 way15_1 t80_1 hi_8 ?_
   obtain ⟨t83_1, hc_1, H⟩ := H
   refine rop_one one3 (VI t83_1) hc_1 ?_
   obtain ⟨hi_9, H⟩ := H
   refine pop_index sli126 siz4 .i64 t28_1 t83_1 hi_9 ?_
   obtain ⟨hw_2, hL_18, H⟩ := H
   refine uop_cell (v := (VB true)) siz4 hw_2 rfl (fun h_18 he_2 => ?_)
   rw [← he_2] at hL_18
   have H := H h_18 he_2 hL_18
   refine pop_add .i64 t80_1 1 ?_
   obtain ⟨m_4, hm_4, H⟩ := H
   exact hn_3 _ _ ⟨m_4, hm_4, (w64 (t80_1 + 1)), rfl, H, hL_18⟩
  have H := H.1 hb_5
  refine rop_locA agg26 hL_9 1 rfl 0 (vs := [(Sl.v g0_1)]) rfl rfl ?_
  refine rop_locA agg28 hL_9 0 rfl 0 (vs := [(Sl.v x_2)]) rfl rfl ?_
  refine H.mono fun rv_4 h_10 H => ?_
  obtain ⟨t53_1, rfl, hL_10, H⟩ := H
  refine pop_lss .i64 t53_1 0 ?_
  refine condM_b (fun hb_6 => ?_) (fun hb_6 => ?_)
  ·have H := H.1 hb_6
   exact H
  have H := H.2 hb_6
  refine pop_add .i64 steps12_2 1 ?_
  refine H.mono fun rv_5 h_11 H => ?_
  obtain ⟨t60_1, rfl, hL_11, H⟩ := H
  refine pop_geq .i64 t60_1 0 ?_
  refine condM_b (fun hb_7 => ?_) (fun hb_7 => ?_)
  rotate_left
  ·have H := H.2 hb_7
   refine H.mono fun rv_10 h_15 H => ?_
   obtain ⟨t75_1, rfl, hL_15, H⟩ := H
   refine H.mono fun rv_11 h_16 H => ?_
   obtain ⟨t76_1, rfl, hL_16, H⟩ := H
   obtain ⟨m_3, hm_3, H⟩ := H
   exact hn_2 _ _ ⟨m_3, hm_3, (w64 (steps12_2 + 1)), t76_1, t53_1, x_2, rfl, H, hL_16⟩
  have H := H.1 hb_7
  refine rop_locA agg28 hL_11 0 rfl 0 (vs := [(Sl.v x_2)]) rfl rfl ?_
  refine H.mono fun rv_6 H => ?_
  obtain ⟨t66_1, rfl, H⟩ := H
  refine H.mono fun rv_7 h_12 H => ?_
  obtain ⟨t67_1, rfl, hL_12, H⟩ := H
  refine uop_loc siz28 hL_12 0 rfl 0 [(Sl.v t67_1)] rfl rfl rfl (Nat.le_of_ble_eq_true rfl) (L' := [(b_2, [(Sl.v t67_1)]), (b_1, [(Sl.v g0_1)])]) rfl (fun h_13 hf_4 hL_13 => ?_)
  refine pop_add .i64 t60_1 1 ?_
  refine H.mono fun rv_8 H => ?_
  obtain ⟨t71_1, rfl, H⟩ := H
  have H := H  h_13  (Fr.old (Fr.r (In []) _) hf_4) hL_13
  refine H.mono fun rv_9 h_14 H => ?_
  obtain ⟨t72_1, rfl, hL_14, H⟩ := H
  obtain ⟨m_2, hm_2, H⟩ := H
  exact hn_2 _ _ ⟨m_2, hm_2, (w64 (steps12_2 + 1)), t72_1, t53_1, t67_1, rfl, H, hL_14⟩
def u72 (P : Program) (list0_1 : Sl) (h : Heap) (K : Value → Heap → Prop) : Prop :=
  ∃ J_1 : Nat → Int → Int → Heap → Prop, (∃ n0 : Nat, J_1 n0 0 0 h) ∧
  ∀ (n_1 : Nat) (out3_1 : Int) (t8_1 : Int) (h_1 : Heap), J_1 n_1 out3_1 t8_1 h_1 → Vars h_1 [] →
  ((decide (t8_1 < (list0_1.n : Int))) = true →
  InB list0_1 t8_1 ∧
  ∃ t11_1 : Int, hcell h_1 (Sl.at list0_1 t8_1 1) = some (VI t11_1) ∧
  ∃ m : Nat, m < n_1 ∧ J_1 m (w64 (out3_1 + t11_1)) (w64 (t8_1 + 1)) h_1) ∧
  ((decide (t8_1 < (list0_1.n : Int))) = false →
  K (VI out3_1) h_1)
theorem v72 (list0_1 : Sl) (h : Heap) (K : Value → Heap → Prop) (H : u72 Tryz.prog list0_1 h K) : callM Tryz.prog 72 #[(Sl.v list0_1)] h K := by
  refine c72 (Sl.v list0_1) h K ?_
  unfold u72 at H
  unfold t72
  have hL : Vars h [] := .nil
  refine pop_len list0_1 _ _ sli29 ?_
  obtain ⟨J_1, ⟨n_2, h0_1⟩, HB_1⟩ := H
  refine loop_intro (J := fun (n : Nat) (vs : List Value) (h' : Heap) => ∃ out3_1 : Int, ∃ t8_1 : Int, vs = [(VI out3_1), (VI t8_1)] ∧ J_1 n out3_1 t8_1 h' ∧ Vars h' []) n_2 ⟨0, 0, rfl, h0_1, hL⟩ ?_
  intro I_1 mu_1 hI_1 junk_1 tv_1 tv_2 h_1 hi_1
  obtain ⟨n_1, ⟨out3_1, t8_1, hv, hJ_1, hL_1⟩, hn_1⟩ := hI_1 _ _ hi_1
  cases hv
  have H := HB_1 n_1 out3_1 t8_1 h_1 hJ_1 hL_1
  refine pop_lss .i64 t8_1 (list0_1.n : Int) ?_
  refine condM_b (fun hb_1 => ?_) (fun hb_1 => ?_)
  rotate_left
  ·have H := H.2 hb_1
   exact H
  have H := H.1 hb_1
  obtain ⟨hi_2, H⟩ := H
  refine pop_index sli29 siz3 .i64 list0_1 t8_1 hi_2 ?_
  obtain ⟨t11_1, hc_1, H⟩ := H
  refine rop_one one3 (VI t11_1) hc_1 ?_
  refine pop_add .i64 out3_1 t11_1 ?_
  refine pop_add .i64 t8_1 1 ?_
  obtain ⟨m_1, hm_1, H⟩ := H
  exact hn_1 _ _ ⟨m_1, hm_1, (w64 (out3_1 + t11_1)), (w64 (t8_1 + 1)), rfl, H, hL_1⟩
def u74 (P : Program) (g0_1 : Sl) (w1_1 : Sl) (w1_2 : Int) (h : Heap) (K : Value → Heap → Prop) : Prop :=
  ∀ (b_1 : Nat) (b_2 : Nat) (h_2 : Heap), h.size ≤ b_1 → h.size ≤ b_2 → Fr (In []) h h_2 → Vars h_2 [(b_2, [(Sl.v w1_1), (VI w1_2)]), (b_1, [(Sl.v g0_1)])] →
  eop P (Instr.buildSlice 29 1 #[(0, (VI w1_2))]) h_2 fun rv_1 h_3 => ∃ t10_1 : Sl, rv_1 = (Sl.v t10_1) ∧ Vars h_3 [(b_2, [(Sl.v w1_1), (VI w1_2)]), (b_1, [(Sl.v g0_1)])] ∧
  callM P 94 #[(Value.agg #[(Sl.v g0_1)]), (Sl.v t10_1)] h_3 fun rv_2 h_4 => ∃ t11_1 : Bool, rv_2 = (VB t11_1) ∧ Vars h_4 [(b_2, [(Sl.v w1_1), (VI w1_2)]), (b_1, [(Sl.v g0_1)])] ∧
  ((!t11_1) = true →
  K (VB false) h_4) ∧
  ((!t11_1) = false →
  ((!decide ((w1_1.n : Int) = (g0_1.n : Int))) = true →
  K (VB false) h_4) ∧
  ((!decide ((w1_1.n : Int) = (g0_1.n : Int))) = false →
  ∃ J_1 : Nat → Int → Heap → Prop, (∃ n0 : Nat, J_1 n0 0 h_4) ∧
  ∀ (n_1 : Nat) (t25_1 : Int) (h_5 : Heap), J_1 n_1 t25_1 h_5 → Vars h_5 [(b_2, [(Sl.v w1_1), (VI w1_2)]), (b_1, [(Sl.v g0_1)])] →
  ((decide (t25_1 < (w1_1.n : Int))) = true →
  InB w1_1 t25_1 ∧
  ∃ t29_1 : Int, hcell h_5 (Sl.at w1_1 t25_1 1) = some (VI t29_1) ∧
  InB g0_1 t25_1 ∧
  ∃ t35_1 : Sl, hcell h_5 (Sl.at g0_1 t25_1 1) = some (Sl.v t35_1) ∧
  pop P (Builtin.max_ #[3, 3] 3 #[(VI (w64 ((t35_1.n : Int) - 1))), (Value.int IntKind.i64 0)]) fun rv_3 => ∃ t38_1 : Int, rv_3 = (VI t38_1) ∧ 
  callM P 84 #[(VI t29_1), (VI 0), (VI t38_1)] h_5 fun rv_4 h_6 => ∃ t39_1 : Bool, rv_4 = (VB t39_1) ∧ Vars h_6 [(b_2, [(Sl.v w1_1), (VI w1_2)]), (b_1, [(Sl.v g0_1)])] ∧
  ((!t39_1) = true →
  K (VB false) h_6) ∧
  ((!t39_1) = false →
  ∃ m : Nat, m < n_1 ∧ J_1 m (w64 (t25_1 + 1)) h_6)) ∧
  ((decide (t25_1 < (w1_1.n : Int))) = false →
  K (VB true) h_5)))
theorem v74 (g0_1 : Sl) (w1_1 : Sl) (w1_2 : Int) (h : Heap) (K : Value → Heap → Prop) (H : u74 Tryz.prog g0_1 w1_1 w1_2 h K) : callM Tryz.prog 74 #[(Value.agg #[(Sl.v g0_1)]), (Value.agg #[(Sl.v w1_1), (VI w1_2)])] h K := by
  refine c74 (Value.agg #[(Sl.v g0_1)]) (Value.agg #[(Sl.v w1_1), (VI w1_2)]) h K ?_
  unfold u74 at H
  unfold t74
  have hL : Vars h [] := .nil
  refine eop_box 26 (Value.agg #[(Sl.v g0_1)]) rfl hL (fun b_1 h_1 hb_1 hf_1 hL_1 => ?_)
  refine eop_box 48 (Value.agg #[(Sl.v w1_1), (VI w1_2)]) rfl hL_1 (fun b_2 h_2 hb_2 hf_2 hL_2 => ?_)
  refine rop_locA agg26 hL_2 1 rfl 0 (vs := [(Sl.v g0_1)]) rfl rfl ?_
  refine pop_field 1 fld48_1 b_2 0 ?_
  refine rop_loc one3 hL_2 0 rfl 1 (v := (VI w1_2)) rfl ?_
  have H := H b_1 b_2 h_2 (Nat.le_trans (Fr.size (Fr.r (In []) _)) hb_1) (Nat.le_trans (Fr.size (Fr.no' (Fr.r (In []) _) hf_1)) hb_2) (Fr.no' (Fr.no' (Fr.r (In []) _) hf_1) hf_2) hL_2
  refine H.mono fun rv_1 h_3 H => ?_
  obtain ⟨t10_1, rfl, hL_3, H⟩ := H
  refine H.mono fun rv_2 h_4 H => ?_
  obtain ⟨t11_1, rfl, hL_4, H⟩ := H
  refine pop_not t11_1 ?_
  refine guardM_sf (fun hb_3 => ?_) (fun hb_3 => ?_)
  rotate_left
  ·have H := H.1 hb_3
   refine guardM_n' hb_3 (by decide) ?_
   refine guardM_n' hb_3 (by decide) ?_
   refine guardM_n' hb_3 (by decide) ?_
   refine guardM_n' hb_3 (by decide) ?_
   refine guardM_n' hb_3 (by decide) ?_
   refine guardM_n' hb_3 (by decide) ?_
   refine pop_pickt' hb_3 ?_
   refine condM_t ?_
   exact H
  have H := H.2 hb_3
  refine pop_field 0 fld48_0 b_2 0 ?_
  refine guardM_y' hb_3 ?_
  refine rop_loc one29 hL_4 0 rfl 0 (v := (Sl.v w1_1)) rfl ?_
  refine guardM_y' hb_3 ?_
  refine pop_len w1_1 _ _ sli29 ?_
  refine guardM_y' hb_3 ?_
  refine pop_field 0 fld26_0 b_1 0 ?_
  refine guardM_y' hb_3 ?_
  refine rop_loc one24 hL_4 1 rfl 0 (v := (Sl.v g0_1)) rfl ?_
  refine guardM_y' hb_3 ?_
  refine pop_len g0_1 _ _ sli24 ?_
  refine guardM_y' hb_3 ?_
  refine pop_ine .i64 _ _ (w1_1.n : Int) (g0_1.n : Int) ?_
  refine pop_pickf' hb_3 ?_
  refine condM_b (fun hb_4 => ?_) (fun hb_4 => ?_)
  ·have H := H.1 hb_4
   exact H
  have H := H.2 hb_4
  refine pop_field 0 fld48_0 b_2 0 ?_
  refine rop_loc one29 hL_4 0 rfl 0 (v := (Sl.v w1_1)) rfl ?_
  refine pop_len w1_1 _ _ sli29 ?_
  obtain ⟨J_1, ⟨n_2, h0_1⟩, HB_1⟩ := H
  refine loop_intro (J := fun (n : Nat) (vs : List Value) (h' : Heap) => ∃ t25_1 : Int, vs = [(VI t25_1)] ∧ J_1 n t25_1 h' ∧ Vars h' [(b_2, [(Sl.v w1_1), (VI w1_2)]), (b_1, [(Sl.v g0_1)])]) n_2 ⟨0, rfl, h0_1, hL_4⟩ ?_
  intro I_1 mu_1 hI_1 junk_1 tv_1 h_5 hi_1
  obtain ⟨n_1, ⟨t25_1, hv, hJ_1, hL_5⟩, hn_1⟩ := hI_1 _ _ hi_1
  cases hv
  have H := HB_1 n_1 t25_1 h_5 hJ_1 hL_5
  refine pop_lss .i64 t25_1 (w1_1.n : Int) ?_
  refine condM_b (fun hb_5 => ?_) (fun hb_5 => ?_)
  rotate_left
  ·have H := H.2 hb_5
   exact H
  have H := H.1 hb_5
  obtain ⟨hi_2, H⟩ := H
  refine pop_index sli29 siz3 .i64 w1_1 t25_1 hi_2 ?_
  obtain ⟨t29_1, hc_2, H⟩ := H
  refine rop_one one3 (VI t29_1) hc_2 ?_
  refine pop_field 0 fld26_0 b_1 0 ?_
  refine rop_loc one24 hL_5 1 rfl 0 (v := (Sl.v g0_1)) rfl ?_
  obtain ⟨hi_3, H⟩ := H
  refine pop_index sli24 siz29 .i64 g0_1 t25_1 hi_3 ?_
  obtain ⟨t35_1, hc_1, H⟩ := H
  refine rop_one one29 (Sl.v t35_1) hc_1 ?_
  refine pop_len t35_1 _ _ sli29 ?_
  refine pop_sub .i64 (t35_1.n : Int) 1 ?_
  refine H.mono fun rv_3 H => ?_
  obtain ⟨t38_1, rfl, H⟩ := H
  refine H.mono fun rv_4 h_6 H => ?_
  obtain ⟨t39_1, rfl, hL_6, H⟩ := H
  refine pop_not t39_1 ?_
  refine condM_b (fun hb_6 => ?_) (fun hb_6 => ?_)
  ·have H := H.1 hb_6
   exact H
  have H := H.2 hb_6
  refine pop_add .i64 t25_1 1 ?_
  obtain ⟨m_1, hm_1, H⟩ := H
  exact hn_1 _ _ ⟨m_1, hm_1, (w64 (t25_1 + 1)), rfl, H, hL_6⟩
def u78 (P : Program) (s0_1 : Sl) (h : Heap) (K : Value → Heap → Prop) : Prop :=
  pop P (binE .eql 29 (.tmp 3) (.const (Value.slice none 0 0)) (Sl.v s0_1) (Value.slice none 0 0)) fun rv_1 => ∃ t4_1 : Bool, rv_1 = (VB t4_1) ∧ 
  (t4_1 = true →
  K (Sl.v nilSl) h) ∧
  (t4_1 = false →
  eop P (Instr.buildSlice 29 0 #[]) h fun rv_2 h_1 => ∃ t5_1 : Sl, rv_2 = (Sl.v t5_1) ∧ Vars h_1 [] ∧
  eop P (appS 29 29 29 (Sl.v t5_1) (Sl.v s0_1)) h_1 fun rv_3 h_2 => ∃ t7_1 : Sl, rv_3 = (Sl.v t7_1) ∧ Vars h_2 [] ∧
  K (Sl.v t7_1) h_2)
theorem v78 (s0_1 : Sl) (h : Heap) (K : Value → Heap → Prop) (H : u78 Tryz.prog s0_1 h K) : callM Tryz.prog 78 #[(Sl.v s0_1)] h K := by
  refine c78 (Sl.v s0_1) h K ?_
  unfold u78 at H
  unfold t78
  have hL : Vars h [] := .nil
  refine H.mono fun rv_1 H => ?_
  obtain ⟨t4_1, rfl, H⟩ := H
  refine condM_b (fun hb_1 => ?_) (fun hb_1 => ?_)
  ·have H := H.1 hb_1
   exact H
  have H := H.2 hb_1
  refine H.mono fun rv_2 h_1 H => ?_
  obtain ⟨t5_1, rfl, hL_1, H⟩ := H
  refine H.mono fun rv_3 h_2 H => ?_
  obtain ⟨t7_1, rfl, hL_2, H⟩ := H
  exact H
def u79 (P : Program) (l0_1 : Sl) (h : Heap) (K : Value → Heap → Prop) : Prop :=
  eop P (Instr.buildSlice 29 0 #[]) h fun rv_1 h_1 => ∃ t3_1 : Sl, rv_1 = (Sl.v t3_1) ∧ Vars h_1 [] ∧
  eop P (appS 29 29 29 (Sl.v t3_1) (Sl.v l0_1)) h_1 fun rv_2 h_2 => ∃ t5_1 : Sl, rv_2 = (Sl.v t5_1) ∧ Vars h_2 [] ∧
  K (Sl.v t5_1) h_2
theorem v79 (l0_1 : Sl) (h : Heap) (K : Value → Heap → Prop) (H : u79 Tryz.prog l0_1 h K) : callM Tryz.prog 79 #[(Sl.v l0_1)] h K := by
  refine c79 (Sl.v l0_1) h K ?_
  unfold u79 at H
  unfold t79
  have hL : Vars h [] := .nil
  refine H.mono fun rv_1 h_1 H => ?_
  obtain ⟨t3_1, rfl, hL_1, H⟩ := H
  refine H.mono fun rv_2 h_2 H => ?_
  obtain ⟨t5_1, rfl, hL_2, H⟩ := H
  exact H
def u84 (P : Program) (n0_1 : Int) (low1_1 : Int) (high2_1 : Int) (h : Heap) (K : Value → Heap → Prop) : Prop :=
  ((decide (low1_1 ≤ n0_1)) = true →
  K (VB (decide (n0_1 ≤ high2_1))) h) ∧
  ((decide (low1_1 ≤ n0_1)) = false →
  K (VB false) h)
theorem v84 (n0_1 : Int) (low1_1 : Int) (high2_1 : Int) (h : Heap) (K : Value → Heap → Prop) (H : u84 Tryz.prog n0_1 low1_1 high2_1 h K) : callM Tryz.prog 84 #[(VI n0_1), (VI low1_1), (VI high2_1)] h K := by
  refine c84 (VI n0_1) (VI low1_1) (VI high2_1) h K ?_
  unfold u84 at H
  unfold t84
  have hL : Vars h [] := .nil
  refine pop_leq .i64 low1_1 n0_1 ?_
  refine guardM_st (fun hb_1 => ?_) (fun hb_1 => ?_)
  rotate_left
  ·have H := H.2 hb_1
   refine guardM_n' hb_1 (by decide) ?_
   refine guardM_n' hb_1 (by decide) ?_
   refine pop_pickf' hb_1 ?_
   exact H
  have H := H.1 hb_1
  refine guardM_y' hb_1 ?_
  refine guardM_y' hb_1 ?_
  refine pop_leq .i64 n0_1 high2_1 ?_
  refine pop_pickt' hb_1 ?_
  exact H
def u91 (P : Program) (g0_1 : Sl) (h : Heap) (K : Value → Heap → Prop) : Prop :=
  ∀ (b_1 : Nat) (h_1 : Heap), h.size ≤ b_1 → Fr (In []) h h_1 → Vars h_1 [(b_1, [(Sl.v g0_1)])] →
  callM P 104 #[(VI (g0_1.n : Int)), (VI 1), (VI 8)] h_1 fun rv_1 h_2 => ∃ t10_1 : Bool, rv_1 = (VB t10_1) ∧ Vars h_2 [(b_1, [(Sl.v g0_1)])] ∧
  ((!t10_1) = true →
  K (VB false) h_2) ∧
  ((!t10_1) = false →
  ∃ J_1 : Nat → Int → Heap → Prop, (∃ n0 : Nat, J_1 n0 0 h_2) ∧
  ∀ (n_1 : Nat) (t15_1 : Int) (h_3 : Heap), J_1 n_1 t15_1 h_3 → Vars h_3 [(b_1, [(Sl.v g0_1)])] →
  ((decide (t15_1 < (g0_1.n : Int))) = true →
  InB g0_1 t15_1 ∧
  ∃ t18_1 : Sl, hcell h_3 (Sl.at g0_1 t15_1 1) = some (Sl.v t18_1) ∧
  ((decide (5 < (t18_1.n : Int))) = true →
  K (VB false) h_3) ∧
  ((decide (5 < (t18_1.n : Int))) = false →
  callM P 56 #[(Sl.v t18_1), (VI 0), (VI (w64 ((g0_1.n : Int) - 1)))] h_3 fun rv_2 h_4 => ∃ t26_1 : Bool, rv_2 = (VB t26_1) ∧ Vars h_4 [(b_1, [(Sl.v g0_1)])] ∧
  ((!t26_1) = true →
  K (VB false) h_4) ∧
  ((!t26_1) = false →
  ∃ m : Nat, m < n_1 ∧ J_1 m (w64 (t15_1 + 1)) h_4))) ∧
  ((decide (t15_1 < (g0_1.n : Int))) = false →
  K (VB true) h_3))
theorem v91 (g0_1 : Sl) (h : Heap) (K : Value → Heap → Prop) (H : u91 Tryz.prog g0_1 h K) : callM Tryz.prog 91 #[(Value.agg #[(Sl.v g0_1)])] h K := by
  refine c91 (Value.agg #[(Sl.v g0_1)]) h K ?_
  unfold u91 at H
  unfold t91
  have hL : Vars h [] := .nil
  refine eop_box 26 (Value.agg #[(Sl.v g0_1)]) rfl hL (fun b_1 h_1 hb_1 hf_1 hL_1 => ?_)
  refine pop_field 0 fld26_0 b_1 0 ?_
  refine rop_loc one24 hL_1 0 rfl 0 (v := (Sl.v g0_1)) rfl ?_
  refine pop_len g0_1 _ _ sli24 ?_
  have H := H b_1 h_1 (Nat.le_trans (Fr.size (Fr.r (In []) _)) hb_1) (Fr.no' (Fr.r (In []) _) hf_1) hL_1
  refine H.mono fun rv_1 h_2 H => ?_
  obtain ⟨t10_1, rfl, hL_2, H⟩ := H
  refine pop_not t10_1 ?_
  refine condM_b (fun hb_2 => ?_) (fun hb_2 => ?_)
  ·have H := H.1 hb_2
   exact H
  have H := H.2 hb_2
  refine pop_field 0 fld26_0 b_1 0 ?_
  refine rop_loc one24 hL_2 0 rfl 0 (v := (Sl.v g0_1)) rfl ?_
  refine pop_len g0_1 _ _ sli24 ?_
  obtain ⟨J_1, ⟨n_2, h0_1⟩, HB_1⟩ := H
  refine loop_intro (J := fun (n : Nat) (vs : List Value) (h' : Heap) => ∃ t15_1 : Int, vs = [(VI t15_1)] ∧ J_1 n t15_1 h' ∧ Vars h' [(b_1, [(Sl.v g0_1)])]) n_2 ⟨0, rfl, h0_1, hL_2⟩ ?_
  intro I_1 mu_1 hI_1 junk_1 tv_1 h_3 hi_1
  obtain ⟨n_1, ⟨t15_1, hv, hJ_1, hL_3⟩, hn_1⟩ := hI_1 _ _ hi_1
  cases hv
  have H := HB_1 n_1 t15_1 h_3 hJ_1 hL_3
  refine pop_lss .i64 t15_1 (g0_1.n : Int) ?_
  refine condM_b (fun hb_3 => ?_) (fun hb_3 => ?_)
  rotate_left
  ·have H := H.2 hb_3
   exact H
  have H := H.1 hb_3
  obtain ⟨hi_2, H⟩ := H
  refine pop_index sli24 siz29 .i64 g0_1 t15_1 hi_2 ?_
  obtain ⟨t18_1, hc_1, H⟩ := H
  refine rop_one one29 (Sl.v t18_1) hc_1 ?_
  refine pop_len t18_1 _ _ sli29 ?_
  refine pop_gtr .i64 (t18_1.n : Int) 5 ?_
  refine guardM_sf (fun hb_4 => ?_) (fun hb_4 => ?_)
  rotate_left
  ·have H := H.1 hb_4
   refine guardM_n' hb_4 (by decide) ?_
   refine guardM_n' hb_4 (by decide) ?_
   refine guardM_n' hb_4 (by decide) ?_
   refine guardM_n' hb_4 (by decide) ?_
   refine pop_pickt' hb_4 ?_
   refine condM_t ?_
   exact H
  have H := H.2 hb_4
  refine guardM_y' hb_4 ?_
  refine guardM_y' hb_4 ?_
  refine pop_sub .i64 (g0_1.n : Int) 1 ?_
  refine guardM_y' hb_4 ?_
  refine H.mono fun rv_2 h_4 H => ?_
  obtain ⟨t26_1, rfl, hL_4, H⟩ := H
  refine guardM_y' hb_4 ?_
  refine pop_not t26_1 ?_
  refine pop_pickf' hb_4 ?_
  refine condM_b (fun hb_5 => ?_) (fun hb_5 => ?_)
  ·have H := H.1 hb_5
   exact H
  have H := H.2 hb_5
  refine pop_add .i64 t15_1 1 ?_
  obtain ⟨m_1, hm_1, H⟩ := H
  exact hn_1 _ _ ⟨m_1, hm_1, (w64 (t15_1 + 1)), rfl, H, hL_4⟩
def u94 (P : Program) (g0_1 : Sl) (places1_1 : Sl) (h : Heap) (K : Value → Heap → Prop) : Prop :=
  ∀ (b_1 : Nat) (h_1 : Heap), h.size ≤ b_1 → Fr (In []) h h_1 → Vars h_1 [(b_1, [(Sl.v g0_1)])] →
  callM P 68 #[(Value.agg #[(Sl.v g0_1)])] h_1 fun rv_1 h_2 => ∃ t6_1 : Bool, rv_1 = (VB t6_1) ∧ Vars h_2 [(b_1, [(Sl.v g0_1)])] ∧
  (t6_1 = true →
  callM P 107 #[(Sl.v places1_1), (Value.func (Fn.func 134) #[] #[(VP b_1 0)])] h_2 fun rv_2 h_3 => ∃ x_1 : Sl, ∃ t10_1 : Bool, rv_2 = (VB t10_1) ∧ Vars h_3 [(b_1, [(Sl.v x_1)])] ∧
  K (VB (!t10_1)) h_3) ∧
  (t6_1 = false →
  K (VB false) h_2)
theorem v94 (g0_1 : Sl) (places1_1 : Sl) (h : Heap) (K : Value → Heap → Prop) (H : u94 Tryz.prog g0_1 places1_1 h K) : callM Tryz.prog 94 #[(Value.agg #[(Sl.v g0_1)]), (Sl.v places1_1)] h K := by
  refine c94 (Value.agg #[(Sl.v g0_1)]) (Sl.v places1_1) h K ?_
  unfold u94 at H
  unfold t94
  have hL : Vars h [] := .nil
  refine eop_box 26 (Value.agg #[(Sl.v g0_1)]) rfl hL (fun b_1 h_1 hb_1 hf_1 hL_1 => ?_)
  refine rop_locA agg26 hL_1 0 rfl 0 (vs := [(Sl.v g0_1)]) rfl rfl ?_
  have H := H b_1 h_1 (Nat.le_trans (Fr.size (Fr.r (In []) _)) hb_1) (Fr.no' (Fr.r (In []) _) hf_1) hL_1
  refine H.mono fun rv_1 h_2 H => ?_
  obtain ⟨t6_1, rfl, hL_2, H⟩ := H
  refine guardM_st (fun hb_2 => ?_) (fun hb_2 => ?_)
  rotate_left
  ·have H := H.2 hb_2
   refine guardM_n' hb_2 (by decide) ?_
   refine guardM_n' hb_2 (by decide) ?_
   refine guardM_n' hb_2 (by decide) ?_
   refine pop_pickf' hb_2 ?_
   exact H
  have H := H.1 hb_2
  refine guardM_y' hb_2 ?_
  refine pop_func _ _ _ ?_
  refine guardM_y' hb_2 ?_
  refine H.mono fun rv_2 h_3 H => ?_
  obtain ⟨x_1, t10_1, rfl, hL_3, H⟩ := H
  refine guardM_y' hb_2 ?_
  refine pop_not t10_1 ?_
  refine pop_pickt' hb_2 ?_
  exact H
def u98 (P : Program) (g0_1 : Sl) (p1_1 : Int) (h : Heap) (K : Value → Heap → Prop) : Prop :=
  ∀ (b_1 : Nat) (h_1 : Heap), h.size ≤ b_1 → Fr (In []) h h_1 → Vars h_1 [(b_1, [(Sl.v g0_1)])] →
  callM P 91 #[(Value.agg #[(Sl.v g0_1)])] h_1 fun rv_1 h_2 => ∃ t6_1 : Bool, rv_1 = (VB t6_1) ∧ Vars h_2 [(b_1, [(Sl.v g0_1)])] ∧
  (t6_1 = true →
  callM P 104 #[(VI p1_1), (VI 0), (VI (w64 ((g0_1.n : Int) - 1)))] h_2 fun rv_2 h_3 => ∃ t13_1 : Bool, rv_2 = (VB t13_1) ∧ Vars h_3 [(b_1, [(Sl.v g0_1)])] ∧
  K (VB t13_1) h_3) ∧
  (t6_1 = false →
  K (VB false) h_2)
theorem v98 (g0_1 : Sl) (p1_1 : Int) (h : Heap) (K : Value → Heap → Prop) (H : u98 Tryz.prog g0_1 p1_1 h K) : callM Tryz.prog 98 #[(Value.agg #[(Sl.v g0_1)]), (VI p1_1)] h K := by
  refine c98 (Value.agg #[(Sl.v g0_1)]) (VI p1_1) h K ?_
  unfold u98 at H
  unfold t98
  have hL : Vars h [] := .nil
  refine eop_box 26 (Value.agg #[(Sl.v g0_1)]) rfl hL (fun b_1 h_1 hb_1 hf_1 hL_1 => ?_)
  refine rop_locA agg26 hL_1 0 rfl 0 (vs := [(Sl.v g0_1)]) rfl rfl ?_
  have H := H b_1 h_1 (Nat.le_trans (Fr.size (Fr.r (In []) _)) hb_1) (Fr.no' (Fr.r (In []) _) hf_1) hL_1
  refine H.mono fun rv_1 h_2 H => ?_
  obtain ⟨t6_1, rfl, hL_2, H⟩ := H
  refine guardM_st (fun hb_2 => ?_) (fun hb_2 => ?_)
  rotate_left
  ·have H := H.2 hb_2
   refine guardM_n' hb_2 (by decide) ?_
   refine guardM_n' hb_2 (by decide) ?_
   refine guardM_n' hb_2 (by decide) ?_
   refine guardM_n' hb_2 (by decide) ?_
   refine guardM_n' hb_2 (by decide) ?_
   refine pop_pickf' hb_2 ?_
   exact H
  have H := H.1 hb_2
  refine guardM_y' hb_2 ?_
  refine pop_field 0 fld26_0 b_1 0 ?_
  refine guardM_y' hb_2 ?_
  refine rop_loc one24 hL_2 0 rfl 0 (v := (Sl.v g0_1)) rfl ?_
  refine guardM_y' hb_2 ?_
  refine pop_len g0_1 _ _ sli24 ?_
  refine guardM_y' hb_2 ?_
  refine pop_sub .i64 (g0_1.n : Int) 1 ?_
  refine guardM_y' hb_2 ?_
  refine H.mono fun rv_2 h_3 H => ?_
  obtain ⟨t13_1, rfl, hL_3, H⟩ := H
  refine pop_pickt' hb_2 ?_
  exact H
def u104 (P : Program) (n0_1 : Int) (lo1_1 : Int) (hi2_1 : Int) (h : Heap) (K : Value → Heap → Prop) : Prop :=
  ((decide (lo1_1 ≤ n0_1)) = true →
  K (VB (decide (n0_1 ≤ hi2_1))) h) ∧
  ((decide (lo1_1 ≤ n0_1)) = false →
  K (VB false) h)
theorem v104 (n0_1 : Int) (lo1_1 : Int) (hi2_1 : Int) (h : Heap) (K : Value → Heap → Prop) (H : u104 Tryz.prog n0_1 lo1_1 hi2_1 h K) : callM Tryz.prog 104 #[(VI n0_1), (VI lo1_1), (VI hi2_1)] h K := by
  refine c104 (VI n0_1) (VI lo1_1) (VI hi2_1) h K ?_
  unfold u104 at H
  unfold t104
  have hL : Vars h [] := .nil
  refine pop_geq .i64 n0_1 lo1_1 ?_
  refine guardM_st (fun hb_1 => ?_) (fun hb_1 => ?_)
  rotate_left
  ·have H := H.2 hb_1
   refine guardM_n' hb_1 (by decide) ?_
   refine guardM_n' hb_1 (by decide) ?_
   refine pop_pickf' hb_1 ?_
   exact H
  have H := H.1 hb_1
  refine guardM_y' hb_1 ?_
  refine guardM_y' hb_1 ?_
  refine pop_leq .i64 n0_1 hi2_1 ?_
  refine pop_pickt' hb_1 ?_
  exact H
def u105 (P : Program) (b_1 : Nat) (c0_1 : Sl) (c0_2 : Int) (c0_3 : Int) (h : Heap) (K : Value → Heap → Prop) : Prop :=
  ∀ (b_2 : Nat) (h_1 : Heap), h.size ≤ b_2 → Fr (In []) h h_1 → Vars h_1 [(b_2, [(Sl.v nilSl)]), (b_1, [(Sl.v c0_1), (VI c0_2), (Value.int .u64 c0_3)])] →
  callM P 131 #[(VP b_1 0)] h_1 fun rv_1 h_2 => ∃ x_1 : Sl, ∃ x_2 : Int, ∃ x_3 : Int, ∃ t6_1 : Sl, rv_1 = (Value.agg #[(Sl.v t6_1)]) ∧ Vars h_2 [(b_2, [(Sl.v nilSl)]), (b_1, [(Sl.v x_1), (VI x_2), (Value.int .u64 x_3)])] ∧
  ∀ (b_3 : Nat) (h_4 : Heap), h_2.size ≤ b_3 → Fr (In []) h_2 h_4 → Vars h_4 [(b_3, [(Sl.v t6_1)]), (b_2, [(Sl.v nilSl)]), (b_1, [(Sl.v x_1), (VI x_2), (Value.int .u64 x_3)])] →
  ∃ J_1 : Sl → Sl → Int → Int → Heap → Prop, (callM P 67 #[(VP b_1 0), (VI 3)] h_4 fun rv_2 h_5 => ∃ x_8 : Sl, ∃ x_9 : Int, ∃ x_10 : Int, ∃ t8_1 : Bool, rv_2 = (VB t8_1) ∧ Vars h_5 [(b_3, [(Sl.v t6_1)]), (b_2, [(Sl.v nilSl)]), (b_1, [(Sl.v x_8), (VI x_9), (Value.int .u64 x_10)])] ∧
  (t8_1 = true →
  callM P 139 #[(VP b_1 0)] h_5 fun rv_3 h_6 => ∃ x_11 : Sl, ∃ x_12 : Int, ∃ x_13 : Int, ∃ t10_1 : Sl, rv_3 = (Value.agg #[(Sl.v t10_1)]) ∧ Vars h_6 [(b_3, [(Sl.v t6_1)]), (b_2, [(Sl.v nilSl)]), (b_1, [(Sl.v x_11), (VI x_12), (Value.int .u64 x_13)])] ∧
  ∀ (h_7 : Heap), Fr (In [b_3]) h_6 h_7 → Vars h_7 [(b_3, [(Sl.v t10_1)]), (b_2, [(Sl.v nilSl)]), (b_1, [(Sl.v x_11), (VI x_12), (Value.int .u64 x_13)])] →
  J_1 t10_1 x_11 x_12 x_13 h_7) ∧
  (t8_1 = false →
  J_1 t6_1 x_8 x_9 x_10 h_5)) ∧
  ∀ (x_4 : Sl) (x_5 : Sl) (x_6 : Int) (x_7 : Int) (h_8 : Heap), J_1 x_4 x_5 x_6 x_7 h_8 → Vars h_8 [(b_3, [(Sl.v x_4)]), (b_2, [(Sl.v nilSl)]), (b_1, [(Sl.v x_5), (VI x_6), (Value.int .u64 x_7)])] →
  callM P 140 #[(VP b_1 0), (Value.agg #[(Sl.v x_4)])] h_8 fun rv_4 h_9 => ∃ x_14 : Sl, ∃ x_15 : Int, ∃ x_16 : Int, ∃ t14_1 : Int, rv_4 = (VI t14_1) ∧ Vars h_9 [(b_3, [(Sl.v x_4)]), (b_2, [(Sl.v nilSl)]), (b_1, [(Sl.v x_14), (VI x_15), (Value.int .u64 x_16)])] ∧
  ∀ (h_10 : Heap), Fr (In [b_2]) h_9 h_10 → Vars h_10 [(b_3, [(Sl.v x_4)]), (b_2, [(Sl.v x_4)]), (b_1, [(Sl.v x_14), (VI x_15), (Value.int .u64 x_16)])] →
  K (Value.tuple #[(Value.agg #[(Sl.v x_4)]), (VI t14_1)]) h_10
theorem v105 (b_1 : Nat) (c0_1 : Sl) (c0_2 : Int) (c0_3 : Int) (h : Heap) (K : Value → Heap → Prop) (hL : Vars h [(b_1, [(Sl.v c0_1), (VI c0_2), (Value.int .u64 c0_3)])]) (H : u105 Tryz.prog b_1 c0_1 c0_2 c0_3 h K) : callM Tryz.prog 105 #[(VP b_1 0)] h K := by
  refine c105 (VP b_1 0) h K ?_
  unfold u105 at H
  unfold t105
  refine eop_alloc 26 zer26 rfl hL (fun b_2 h_1 hb_1 hf_1 hL_1 => ?_)
  have H := H b_2 h_1 (Nat.le_trans (Fr.size (Fr.r (In []) _)) hb_1) (Fr.no' (Fr.r (In []) _) hf_1) hL_1
  refine H.mono fun rv_1 h_2 H => ?_
  obtain ⟨x_1, x_2, x_3, t6_1, rfl, hL_2, H⟩ := H
  refine eop_alloc 26 zer26 rfl hL_2 (fun b_3 h_3 hb_2 hf_2 hL_3 => ?_)
  refine uop_loc siz26 hL_3 0 rfl 0 [(Sl.v t6_1)] rfl rfl rfl (Nat.le_of_ble_eq_true rfl) (L' := [(b_3, [(Sl.v t6_1)]), (b_2, [(Sl.v nilSl)]), (b_1, [(Sl.v x_1), (VI x_2), (Value.int .u64 x_3)])]) rfl (fun h_4 hf_3 hL_4 => ?_)
  have H := H b_3 h_4 (Nat.le_trans (Fr.size (Fr.r (In []) _)) hb_2) (Fr.new (Fr.no' (Fr.r (In []) _) hf_2) (Nat.le_trans (Fr.size (Fr.r (In []) _)) hb_2) hf_3) hL_4
  obtain ⟨J_1, H, HB_1⟩ := H
  refine ⟨fun (vs : List Value) (h' : Heap) => ∃ x_4 : Sl, ∃ x_5 : Sl, ∃ x_6 : Int, ∃ x_7 : Int, vs = [] ∧ J_1 x_4 x_5 x_6 x_7 h' ∧ Vars h' [(b_3, [(Sl.v x_4)]), (b_2, [(Sl.v nilSl)]), (b_1, [(Sl.v x_5), (VI x_6), (Value.int .u64 x_7)])], ?_, ?_⟩
  ·refine H.mono fun rv_2 h_5 H => ?_
   obtain ⟨x_8, x_9, x_10, t8_1, rfl, hL_5, H⟩ := H
   refine condM_b (fun hb_3 => ?_) (fun hb_3 => ?_)
   rotate_left
   ·have H := H.2 hb_3
    exact ⟨t6_1, x_8, x_9, x_10, rfl, H, hL_5⟩
   have H := H.1 hb_3
   refine H.mono fun rv_3 h_6 H => ?_
   obtain ⟨x_11, x_12, x_13, t10_1, rfl, hL_6, H⟩ := H
   refine uop_loc siz26 hL_6 0 rfl 0 [(Sl.v t10_1)] rfl rfl rfl (Nat.le_of_ble_eq_true rfl) (L' := [(b_3, [(Sl.v t10_1)]), (b_2, [(Sl.v nilSl)]), (b_1, [(Sl.v x_11), (VI x_12), (Value.int .u64 x_13)])]) rfl (fun h_7 hf_4 hL_7 => ?_)
   have H := H  h_7  (Fr.old (Fr.r (In []) _) hf_4) hL_7
   exact ⟨t10_1, x_11, x_12, x_13, rfl, H, hL_7⟩
  intro junk_1  h_8
  rintro ⟨x_4, x_5, x_6, x_7, hv, hJ_1, hL_8⟩
  have H := HB_1 x_4 x_5 x_6 x_7 h_8 hJ_1 hL_8
  refine rop_locA agg26 hL_8 0 rfl 0 (vs := [(Sl.v x_4)]) rfl rfl ?_
  refine rop_locA agg26 hL_8 0 rfl 0 (vs := [(Sl.v x_4)]) rfl rfl ?_
  refine H.mono fun rv_4 h_9 H => ?_
  obtain ⟨x_14, x_15, x_16, t14_1, rfl, hL_9, H⟩ := H
  refine ⟨?_, ?_⟩
  ·exact still_locA agg26 hL_9 0 rfl 0 (vs := [(Sl.v x_4)]) rfl rfl
  refine uop_loc siz26 hL_9 1 rfl 0 [(Sl.v x_4)] rfl rfl rfl (Nat.le_of_ble_eq_true rfl) (L' := [(b_3, [(Sl.v x_4)]), (b_2, [(Sl.v x_4)]), (b_1, [(Sl.v x_14), (VI x_15), (Value.int .u64 x_16)])]) rfl (fun h_10 hf_5 hL_10 => ?_)
  refine rop_locA agg26 hL_10 1 rfl 0 (vs := [(Sl.v x_4)]) rfl rfl ?_
  have H := H  h_10  (Fr.old (Fr.r (In []) _) hf_5) hL_10
  exact H
def u106 (P : Program) (b_1 : Nat) (c0_1 : Sl) (c0_2 : Int) (c0_3 : Int) (h : Heap) (K : Value → Heap → Prop) : Prop :=
  ∃ J_1 : Int → Heap → Prop, (((decide (c0_2 < (c0_1.n : Int))) = true →
  InB c0_1 c0_2 ∧
  ∃ t23_1 : Int, hcell h (Sl.at c0_1 c0_2 1) = some (Value.int .u8 t23_1) ∧
  rop P (convert 5 3 (Value.int .u8 t23_1)) h fun rv_1 => ∃ t24_1 : Int, rv_1 = (VI t24_1) ∧ 
  J_1 t24_1 h) ∧
  ((decide (c0_2 < (c0_1.n : Int))) = false →
  J_1 0 h)) ∧
  ∀ (x_1 : Int) (h_1 : Heap), J_1 x_1 h_1 → Vars h_1 [(b_1, [(Sl.v c0_1), (VI c0_2), (Value.int .u64 c0_3)])] →
  ∀ (h_2 : Heap), Fr (In [b_1]) h_1 h_2 → Vars h_2 [(b_1, [(Sl.v c0_1), (VI (w64 (c0_2 + 1))), (Value.int .u64 c0_3)])] →
  rop P (convert 3 72 (VI x_1)) h_2 fun rv_2 => ∃ t39_1 : Int, rv_2 = (Value.int .u64 t39_1) ∧ 
  ((decide ((w64 (c0_2 + 1)) ≤ (c0_1.n : Int))) = true →
  ∀ (h_3 : Heap), Fr (In [b_1]) h_2 h_3 → Vars h_3 [(b_1, [(Sl.v c0_1), (VI (w64 (c0_2 + 1))), (Value.int .u64 (IntKind.wrap .u64 ((IntKind.wrap .u64 ((IntKind.wrap .u64 (c0_3 * 6364136223846793005)) + t39_1)) + 1442695040888963407)))])] →
  K (VI x_1) h_3) ∧
  ((decide ((w64 (c0_2 + 1)) ≤ (c0_1.n : Int))) = false →
  pop P (binA .shr 72 (Value.int .u64 (IntKind.wrap .u64 ((IntKind.wrap .u64 ((IntKind.wrap .u64 (c0_3 * 6364136223846793005)) + t39_1)) + 1442695040888963407))) (Value.int IntKind.u64 40)) fun rv_3 => ∃ t59_1 : Int, rv_3 = (Value.int .u64 t59_1) ∧ 
  pop P (binA .and 72 (Value.int .u64 t59_1) (Value.int IntKind.u64 255)) fun rv_4 => ∃ t60_1 : Int, rv_4 = (Value.int .u64 t60_1) ∧ 
  ∀ (h_3 : Heap), Fr (In [b_1]) h_2 h_3 → Vars h_3 [(b_1, [(Sl.v c0_1), (VI (w64 (c0_2 + 1))), (Value.int .u64 (IntKind.wrap .u64 ((IntKind.wrap .u64 ((IntKind.wrap .u64 (c0_3 * 6364136223846793005)) + t39_1)) + 1442695040888963407)))])] →
  rop P (convert 72 3 (Value.int .u64 t60_1)) h_3 fun rv_5 => ∃ t61_1 : Int, rv_5 = (VI t61_1) ∧ 
  K (VI t61_1) h_3)
theorem v106 (b_1 : Nat) (c0_1 : Sl) (c0_2 : Int) (c0_3 : Int) (h : Heap) (K : Value → Heap → Prop) (hL : Vars h [(b_1, [(Sl.v c0_1), (VI c0_2), (Value.int .u64 c0_3)])]) (H : u106 Tryz.prog b_1 c0_1 c0_2 c0_3 h K) : callM Tryz.prog 106 #[(VP b_1 0)] h K := by
  refine c106 (VP b_1 0) h K ?_
  unfold u106 at H
  unfold t106
  obtain ⟨J_1, H, HB_1⟩ := H
  refine ⟨fun (vs : List Value) (h' : Heap) => ∃ x_1 : Int, vs = [(VI x_1)] ∧ J_1 x_1 h' ∧ Vars h' [(b_1, [(Sl.v c0_1), (VI c0_2), (Value.int .u64 c0_3)])], ?_, ?_⟩
  ·refine pop_nil _ ?_
   refine pop_field 1 fld74_1 b_1 0 ?_
   refine rop_loc one3 hL 0 rfl 1 (v := (VI c0_2)) rfl ?_
   refine pop_nil _ ?_
   refine pop_field 0 fld74_0 b_1 0 ?_
   refine rop_loc one22 hL 0 rfl 0 (v := (Sl.v c0_1)) rfl ?_
   refine pop_len c0_1 _ _ sli22 ?_
   refine pop_lss .i64 c0_2 (c0_1.n : Int) ?_
   refine condM_b (fun hb_1 => ?_) (fun hb_1 => ?_)
   rotate_left
   ·have H := H.2 hb_1
    exact ⟨0, rfl, H, hL⟩
   have H := H.1 hb_1
   refine pop_nil _ ?_
   refine pop_field 0 fld74_0 b_1 0 ?_
   refine rop_loc one22 hL 0 rfl 0 (v := (Sl.v c0_1)) rfl ?_
   refine pop_nil _ ?_
   refine pop_field 1 fld74_1 b_1 0 ?_
   refine rop_loc one3 hL 0 rfl 1 (v := (VI c0_2)) rfl ?_
   obtain ⟨hi_1, H⟩ := H
   refine pop_index sli22 siz5 .i64 c0_1 c0_2 hi_1 ?_
   obtain ⟨t23_1, hc_1, H⟩ := H
   refine rop_one one5 (Value.int .u8 t23_1) hc_1 ?_
   refine H.mono fun rv_1 H => ?_
   obtain ⟨t24_1, rfl, H⟩ := H
   exact ⟨t24_1, rfl, H, hL⟩
  intro junk_1 tv_1 h_1
  rintro ⟨x_1, hv, hJ_1, hL_1⟩
  cases hv
  have H := HB_1 x_1 h_1 hJ_1 hL_1
  refine pop_nil _ ?_
  refine pop_field 1 fld74_1 b_1 0 ?_
  refine rop_loc one3 hL_1 0 rfl 1 (v := (VI c0_2)) rfl ?_
  refine pop_add .i64 c0_2 1 ?_
  refine pop_nil _ ?_
  refine pop_field 1 fld74_1 b_1 0 ?_
  refine uop_loc siz3 hL_1 0 rfl 1 [(VI (w64 (c0_2 + 1)))] rfl rfl rfl (Nat.le_of_ble_eq_true rfl) (L' := [(b_1, [(Sl.v c0_1), (VI (w64 (c0_2 + 1))), (Value.int .u64 c0_3)])]) rfl (fun h_2 hf_1 hL_2 => ?_)
  refine pop_nil _ ?_
  refine pop_field 2 fld74_2 b_1 0 ?_
  refine rop_loc one72 hL_2 0 rfl 2 (v := (Value.int .u64 c0_3)) rfl ?_
  refine pop_mul .u64 c0_3 6364136223846793005 ?_
  have H := H  h_2  (Fr.old (Fr.r (In []) _) hf_1) hL_2
  refine H.mono fun rv_2 H => ?_
  obtain ⟨t39_1, rfl, H⟩ := H
  refine pop_add .u64 (IntKind.wrap .u64 (c0_3 * 6364136223846793005)) t39_1 ?_
  refine pop_add .u64 (IntKind.wrap .u64 ((IntKind.wrap .u64 (c0_3 * 6364136223846793005)) + t39_1)) 1442695040888963407 ?_
  refine pop_nil _ ?_
  refine pop_field 2 fld74_2 b_1 0 ?_
  refine uop_loc siz72 hL_2 0 rfl 2 [(Value.int .u64 (IntKind.wrap .u64 ((IntKind.wrap .u64 ((IntKind.wrap .u64 (c0_3 * 6364136223846793005)) + t39_1)) + 1442695040888963407)))] rfl rfl rfl (Nat.le_of_ble_eq_true rfl) (L' := [(b_1, [(Sl.v c0_1), (VI (w64 (c0_2 + 1))), (Value.int .u64 (IntKind.wrap .u64 ((IntKind.wrap .u64 ((IntKind.wrap .u64 (c0_3 * 6364136223846793005)) + t39_1)) + 1442695040888963407)))])]) rfl (fun h_3 hf_2 hL_3 => ?_)
  refine pop_nil _ ?_
  refine pop_field 1 fld74_1 b_1 0 ?_
  refine rop_loc one3 hL_3 0 rfl 1 (v := (VI (w64 (c0_2 + 1)))) rfl ?_
  refine pop_nil _ ?_
  refine pop_field 0 fld74_0 b_1 0 ?_
  refine rop_loc one22 hL_3 0 rfl 0 (v := (Sl.v c0_1)) rfl ?_
  refine pop_len c0_1 _ _ sli22 ?_
  refine pop_leq .i64 (w64 (c0_2 + 1)) (c0_1.n : Int) ?_
  refine condM_b (fun hb_2 => ?_) (fun hb_2 => ?_)
  ·have H := H.1 hb_2
   have H := H  h_3  (Fr.old (Fr.r (In []) _) hf_2) hL_3
   exact H
  have H := H.2 hb_2
  refine pop_nil _ ?_
  refine pop_field 2 fld74_2 b_1 0 ?_
  refine rop_loc one72 hL_3 0 rfl 2 (v := (Value.int .u64 (IntKind.wrap .u64 ((IntKind.wrap .u64 ((IntKind.wrap .u64 (c0_3 * 6364136223846793005)) + t39_1)) + 1442695040888963407)))) rfl ?_
  refine H.mono fun rv_3 H => ?_
  obtain ⟨t59_1, rfl, H⟩ := H
  refine H.mono fun rv_4 H => ?_
  obtain ⟨t60_1, rfl, H⟩ := H
  have H := H  h_3  (Fr.old (Fr.r (In []) _) hf_2) hL_3
  refine H.mono fun rv_5 H => ?_
  obtain ⟨t61_1, rfl, H⟩ := H
  exact H
def u107 (P : Program) (s0_1 : Sl) (f1_1 : Value) (h : Heap) (K : Value → Heap → Prop) : Prop :=
  callM P 141 #[(Sl.v s0_1), f1_1] h fun rv_1 h_1 => ∃ t7_1 : Int, rv_1 = (VI t7_1) ∧ Vars h_1 [] ∧
  K (VB (decide (0 ≤ t7_1))) h_1
theorem v107 (s0_1 : Sl) (f1_1 : Value) (h : Heap) (K : Value → Heap → Prop) (H : u107 Tryz.prog s0_1 f1_1 h K) : callM Tryz.prog 107 #[(Sl.v s0_1), f1_1] h K := by
  refine c107 (Sl.v s0_1) f1_1 h K ?_
  unfold u107 at H
  unfold t107
  have hL : Vars h [] := .nil
  refine H.mono fun rv_1 h_1 H => ?_
  obtain ⟨t7_1, rfl, hL_1, H⟩ := H
  refine pop_geq .i64 t7_1 0 ?_
  exact H
def u108 (P : Program) (c0_1 : Int) (h : Heap) (K : Value → Heap → Prop) : Prop :=
  K (VB (decide (c0_1 < 0))) h
theorem v108 (c0_1 : Int) (h : Heap) (K : Value → Heap → Prop) (H : u108 Tryz.prog c0_1 h K) : callM Tryz.prog 108 #[(VI c0_1)] h K := by
  refine c108 (VI c0_1) h K ?_
  unfold u108 at H
  unfold t108
  have hL : Vars h [] := .nil
  refine pop_lss .i64 c0_1 0 ?_
  exact H
def u109 (P : Program) (s0_1 : Sl) (h : Heap) (K : Value → Heap → Prop) : Prop :=
  ∀ (b_1 : Nat) (b_2 : Nat) (b_3 : Nat) (h_4 : Heap), h.size ≤ b_1 → h.size ≤ b_2 → h.size ≤ b_3 → Fr (In []) h h_4 → Vars h_4 [(b_3, [(Sl.v nilSl)]), (b_2, [(Sl.v nilSl)]), (b_1, [(Sl.v s0_1)])] →
  ∃ J_1 : Nat → Int → Sl → Heap → Prop, (∃ n0 : Nat, J_1 n0 0 nilSl h_4) ∧
  ∀ (n_1 : Nat) (t10_1 : Int) (x_1 : Sl) (h_5 : Heap), J_1 n_1 t10_1 x_1 h_5 → Vars h_5 [(b_3, [(Sl.v x_1)]), (b_2, [(Sl.v nilSl)]), (b_1, [(Sl.v s0_1)])] →
  ((decide (t10_1 < (s0_1.n : Int))) = true →
  InB s0_1 t10_1 ∧
  ∃ t13_1 : Sl, hcell h_5 (Sl.at s0_1 t10_1 1) = some (Sl.v t13_1) ∧
  callM P 78 #[(Sl.v t13_1)] h_5 fun rv_1 h_6 => ∃ t17_1 : Sl, rv_1 = (Sl.v t17_1) ∧ Vars h_6 [(b_3, [(Sl.v x_1)]), (b_2, [(Sl.v nilSl)]), (b_1, [(Sl.v s0_1)])] ∧
  eop P (Instr.buildSlice 24 1 #[(0, (Sl.v t17_1))]) h_6 fun rv_2 h_7 => ∃ t18_1 : Sl, rv_2 = (Sl.v t18_1) ∧ Vars h_7 [(b_3, [(Sl.v x_1)]), (b_2, [(Sl.v nilSl)]), (b_1, [(Sl.v s0_1)])] ∧
  eop P (appS 24 24 24 (Sl.v x_1) (Sl.v t18_1)) h_7 fun rv_3 h_8 => ∃ t19_1 : Sl, rv_3 = (Sl.v t19_1) ∧ Vars h_8 [(b_3, [(Sl.v x_1)]), (b_2, [(Sl.v nilSl)]), (b_1, [(Sl.v s0_1)])] ∧
  ∀ (h_9 : Heap), Fr (In [b_3]) h_8 h_9 → Vars h_9 [(b_3, [(Sl.v t19_1)]), (b_2, [(Sl.v nilSl)]), (b_1, [(Sl.v s0_1)])] →
  ∃ m : Nat, m < n_1 ∧ J_1 m (w64 (t10_1 + 1)) t19_1 h_9) ∧
  ((decide (t10_1 < (s0_1.n : Int))) = false →
  ∀ (h_10 : Heap), Fr (In [b_2]) h_5 h_10 → Vars h_10 [(b_3, [(Sl.v x_1)]), (b_2, [(Sl.v x_1)]), (b_1, [(Sl.v s0_1)])] →
  K (Value.agg #[(Sl.v x_1)]) h_10)
theorem v109 (s0_1 : Sl) (h : Heap) (K : Value → Heap → Prop) (H : u109 Tryz.prog s0_1 h K) : callM Tryz.prog 109 #[(Value.agg #[(Sl.v s0_1)])] h K := by
  refine c109 (Value.agg #[(Sl.v s0_1)]) h K ?_
  unfold u109 at H
  unfold t109
  have hL : Vars h [] := .nil
  refine eop_box 28 (Value.agg #[(Sl.v s0_1)]) rfl hL (fun b_1 h_1 hb_1 hf_1 hL_1 => ?_)
  refine eop_alloc 28 zer28 rfl hL_1 (fun b_2 h_2 hb_2 hf_2 hL_2 => ?_)
  refine pop.mk' (v := (Value.agg #[(Sl.v nilSl)])) (fun w => by kernel_rfl) ?_
  refine eop_alloc 28 zer28 rfl hL_2 (fun b_3 h_3 hb_3 hf_3 hL_3 => ?_)
  refine uop_loc siz28 hL_3 0 rfl 0 [(Sl.v nilSl)] rfl rfl rfl (Nat.le_of_ble_eq_true rfl) (L' := [(b_3, [(Sl.v nilSl)]), (b_2, [(Sl.v nilSl)]), (b_1, [(Sl.v s0_1)])]) rfl (fun h_4 hf_4 hL_4 => ?_)
  refine pop_field 0 fld28_0 b_1 0 ?_
  refine rop_loc one24 hL_4 2 rfl 0 (v := (Sl.v s0_1)) rfl ?_
  refine pop_len s0_1 _ _ sli24 ?_
  have H := H b_1 b_2 b_3 h_4 (Nat.le_trans (Fr.size (Fr.r (In []) _)) hb_1) (Nat.le_trans (Fr.size (Fr.no' (Fr.r (In []) _) hf_1)) hb_2) (Nat.le_trans (Fr.size (Fr.no' (Fr.no' (Fr.r (In []) _) hf_1) hf_2)) hb_3) (Fr.new (Fr.no' (Fr.no' (Fr.no' (Fr.r (In []) _) hf_1) hf_2) hf_3) (Nat.le_trans (Fr.size (Fr.no' (Fr.no' (Fr.r (In []) _) hf_1) hf_2)) hb_3) hf_4) hL_4
  obtain ⟨J_1, ⟨n_2, h0_1⟩, HB_1⟩ := H
  refine loop_intro (J := fun (n : Nat) (vs : List Value) (h' : Heap) => ∃ t10_1 : Int, ∃ x_1 : Sl, vs = [(VI t10_1)] ∧ J_1 n t10_1 x_1 h' ∧ Vars h' [(b_3, [(Sl.v x_1)]), (b_2, [(Sl.v nilSl)]), (b_1, [(Sl.v s0_1)])]) n_2 ⟨0, nilSl, rfl, h0_1, hL_4⟩ ?_
  intro I_1 mu_1 hI_1 junk_1 tv_1 h_5 hi_1
  obtain ⟨n_1, ⟨t10_1, x_1, hv, hJ_1, hL_5⟩, hn_1⟩ := hI_1 _ _ hi_1
  cases hv
  have H := HB_1 n_1 t10_1 x_1 h_5 hJ_1 hL_5
  refine pop_lss .i64 t10_1 (s0_1.n : Int) ?_
  refine condM_b (fun hb_4 => ?_) (fun hb_4 => ?_)
  rotate_left
  ·have H := H.2 hb_4
   refine rop_locA agg28 hL_5 0 rfl 0 (vs := [(Sl.v x_1)]) rfl rfl ?_
   refine uop_loc siz28 hL_5 1 rfl 0 [(Sl.v x_1)] rfl rfl rfl (Nat.le_of_ble_eq_true rfl) (L' := [(b_3, [(Sl.v x_1)]), (b_2, [(Sl.v x_1)]), (b_1, [(Sl.v s0_1)])]) rfl (fun h_10 hf_6 hL_10 => ?_)
   refine rop_locA agg28 hL_10 1 rfl 0 (vs := [(Sl.v x_1)]) rfl rfl ?_
   have H := H  h_10  (Fr.old (Fr.r (In []) _) hf_6) hL_10
   exact H
  have H := H.1 hb_4
  obtain ⟨hi_2, H⟩ := H
  refine pop_index sli24 siz29 .i64 s0_1 t10_1 hi_2 ?_
  obtain ⟨t13_1, hc_1, H⟩ := H
  refine rop_one one29 (Sl.v t13_1) hc_1 ?_
  refine pop_field 0 fld28_0 b_3 0 ?_
  refine rop_loc one24 hL_5 0 rfl 0 (v := (Sl.v x_1)) rfl ?_
  refine H.mono fun rv_1 h_6 H => ?_
  obtain ⟨t17_1, rfl, hL_6, H⟩ := H
  refine ⟨?_, ?_⟩
  ·exact still_loc one24 hL_6 0 rfl 0 (v := (Sl.v x_1)) rfl
  refine H.mono fun rv_2 h_7 H => ?_
  obtain ⟨t18_1, rfl, hL_7, H⟩ := H
  refine ⟨?_, ?_⟩
  ·exact still_loc one24 hL_7 0 rfl 0 (v := (Sl.v x_1)) rfl
  refine H.mono fun rv_3 h_8 H => ?_
  obtain ⟨t19_1, rfl, hL_8, H⟩ := H
  refine pop_field 0 fld28_0 b_3 0 ?_
  refine uop_loc siz24 hL_8 0 rfl 0 [(Sl.v t19_1)] rfl rfl rfl (Nat.le_of_ble_eq_true rfl) (L' := [(b_3, [(Sl.v t19_1)]), (b_2, [(Sl.v nilSl)]), (b_1, [(Sl.v s0_1)])]) rfl (fun h_9 hf_5 hL_9 => ?_)
  refine pop_add .i64 t10_1 1 ?_
  have H := H  h_9  (Fr.old (Fr.r (In []) _) hf_5) hL_9
  obtain ⟨m_1, hm_1, H⟩ := H
  exact hn_1 _ _ ⟨m_1, hm_1, (w64 (t10_1 + 1)), t19_1, rfl, H, hL_9⟩
def u110 (P : Program) (s0_1 : Sl) (cycle1_1 : Sl) (h : Heap) (K : Value → Heap → Prop) : Prop :=
  ∀ (b_1 : Nat) (h_1 : Heap), h.size ≤ b_1 → Fr (In []) h h_1 → Vars h_1 [(b_1, [(Sl.v s0_1)])] →
  ∃ J_1 : Nat → Int → Heap → Prop, (∃ n0 : Nat, J_1 n0 0 h_1) ∧
  ∀ (n_1 : Nat) (t8_1 : Int) (h_2 : Heap), J_1 n_1 t8_1 h_2 → Vars h_2 [(b_1, [(Sl.v s0_1)])] →
  ((decide (t8_1 < (cycle1_1.n : Int))) = true →
  InB cycle1_1 t8_1 ∧
  ∃ t11_1 : Int, hcell h_2 (Sl.at cycle1_1 t8_1 1) = some (VI t11_1) ∧
  InB s0_1 t11_1 ∧
  ∃ t19_1 : Sl, hcell h_2 (Sl.at s0_1 t11_1 1) = some (Sl.v t19_1) ∧
  pop P (Instr.sliceAt 29 (Sl.v t19_1) (some (Value.int IntKind.i64 1)) none none) fun rv_1 => ∃ t20_1 : Sl, rv_1 = (Sl.v t20_1) ∧ 
  InB s0_1 t11_1 ∧
  Writable h_2 (Sl.at s0_1 t11_1 1) ∧ Vars (hset h_2 (Sl.at s0_1 t11_1 1) (Sl.v t20_1)) [(b_1, [(Sl.v s0_1)])] ∧
  ∀ h_3 : Heap, h_3 = hset h_2 (Sl.at s0_1 t11_1 1) (Sl.v t20_1) → Vars h_3 [(b_1, [(Sl.v s0_1)])] →
  ∃ m : Nat, m < n_1 ∧ J_1 m (w64 (t8_1 + 1)) h_3) ∧
  ((decide (t8_1 < (cycle1_1.n : Int))) = false →
  K (Value.tuple #[]) h_2)
theorem v110 (s0_1 : Sl) (cycle1_1 : Sl) (h : Heap) (K : Value → Heap → Prop) (H : u110 Tryz.prog s0_1 cycle1_1 h K) : callM Tryz.prog 110 #[(Value.agg #[(Sl.v s0_1)]), (Sl.v cycle1_1)] h K := by
  refine c110 (Value.agg #[(Sl.v s0_1)]) (Sl.v cycle1_1) h K ?_
  unfold u110 at H
  unfold t110
  have hL : Vars h [] := .nil
  refine eop_box 28 (Value.agg #[(Sl.v s0_1)]) rfl hL (fun b_1 h_1 hb_1 hf_1 hL_1 => ?_)
  refine pop_len cycle1_1 _ _ sli29 ?_
  have H := H b_1 h_1 (Nat.le_trans (Fr.size (Fr.r (In []) _)) hb_1) (Fr.no' (Fr.r (In []) _) hf_1) hL_1
  obtain ⟨J_1, ⟨n_2, h0_1⟩, HB_1⟩ := H
  refine loop_intro (J := fun (n : Nat) (vs : List Value) (h' : Heap) => ∃ t8_1 : Int, vs = [(VI t8_1)] ∧ J_1 n t8_1 h' ∧ Vars h' [(b_1, [(Sl.v s0_1)])]) n_2 ⟨0, rfl, h0_1, hL_1⟩ ?_
  intro I_1 mu_1 hI_1 junk_1 tv_1 h_2 hi_1
  obtain ⟨n_1, ⟨t8_1, hv, hJ_1, hL_2⟩, hn_1⟩ := hI_1 _ _ hi_1
  cases hv
  have H := HB_1 n_1 t8_1 h_2 hJ_1 hL_2
  refine pop_lss .i64 t8_1 (cycle1_1.n : Int) ?_
  refine condM_b (fun hb_2 => ?_) (fun hb_2 => ?_)
  rotate_left
  ·have H := H.2 hb_2
   exact H
  have H := H.1 hb_2
  obtain ⟨hi_2, H⟩ := H
  refine pop_index sli29 siz3 .i64 cycle1_1 t8_1 hi_2 ?_
  obtain ⟨t11_1, hc_2, H⟩ := H
  refine rop_one one3 (VI t11_1) hc_2 ?_
  refine pop_field 0 fld28_0 b_1 0 ?_
  refine rop_loc one24 hL_2 0 rfl 0 (v := (Sl.v s0_1)) rfl ?_
  refine pop_field 0 fld28_0 b_1 0 ?_
  refine rop_loc one24 hL_2 0 rfl 0 (v := (Sl.v s0_1)) rfl ?_
  obtain ⟨hi_3, H⟩ := H
  refine pop_index sli24 siz29 .i64 s0_1 t11_1 hi_3 ?_
  obtain ⟨t19_1, hc_1, H⟩ := H
  refine rop_one one29 (Sl.v t19_1) hc_1 ?_
  refine H.mono fun rv_1 H => ?_
  obtain ⟨t20_1, rfl, H⟩ := H
  obtain ⟨hi_4, H⟩ := H
  refine pop_index sli24 siz29 .i64 s0_1 t11_1 hi_4 ?_
  obtain ⟨hw_1, hL_3, H⟩ := H
  refine uop_cell (v := (Sl.v t20_1)) siz29 hw_1 rfl (fun h_3 he_1 => ?_)
  rw [← he_1] at hL_3
  have H := H h_3 he_1 hL_3
  refine pop_add .i64 t8_1 1 ?_
  obtain ⟨m_1, hm_1, H⟩ := H
  exact hn_1 _ _ ⟨m_1, hm_1, (w64 (t8_1 + 1)), rfl, H, hL_3⟩
def u111 (P : Program) (g0_1 : Sl) (s1_1 : Sl) (h : Heap) (K : Value → Heap → Prop) : Prop :=
  ∀ (b_1 : Nat) (b_2 : Nat) (h_2 : Heap), h.size ≤ b_1 → h.size ≤ b_2 → Fr (In []) h h_2 → Vars h_2 [(b_2, [(Sl.v s1_1)]), (b_1, [(Sl.v g0_1)])] →
  ∃ J_1 : Nat → Sl → Int → Heap → Prop, (∃ n0 : Nat, J_1 n0 nilSl 0 h_2) ∧
  ∀ (n_1 : Nat) (out5_1 : Sl) (t11_1 : Int) (h_3 : Heap), J_1 n_1 out5_1 t11_1 h_3 → Vars h_3 [(b_2, [(Sl.v s1_1)]), (b_1, [(Sl.v g0_1)])] →
  ((decide (t11_1 < (g0_1.n : Int))) = true →
  callM P 142 #[(Value.agg #[(Sl.v g0_1)]), (Value.agg #[(Sl.v s1_1)]), (VI t11_1)] h_3 fun rv_1 h_4 => ∃ t17_1 : Sl, rv_1 = (Sl.v t17_1) ∧ Vars h_4 [(b_2, [(Sl.v s1_1)]), (b_1, [(Sl.v g0_1)])] ∧
  ((decide (0 < (t17_1.n : Int))) = true →
  InB t17_1 0 ∧
  ∃ t24_1 : Int, hcell h_4 (Sl.at t17_1 0 1) = some (VI t24_1) ∧
  ((decide (t24_1 = t11_1)) = true →
  eop P (Instr.buildSlice 24 1 #[(0, (Sl.v t17_1))]) h_4 fun rv_2 h_5 => ∃ t30_1 : Sl, rv_2 = (Sl.v t30_1) ∧ Vars h_5 [(b_2, [(Sl.v s1_1)]), (b_1, [(Sl.v g0_1)])] ∧
  eop P (appS 24 24 24 (Sl.v out5_1) (Sl.v t30_1)) h_5 fun rv_3 h_6 => ∃ t31_1 : Sl, rv_3 = (Sl.v t31_1) ∧ Vars h_6 [(b_2, [(Sl.v s1_1)]), (b_1, [(Sl.v g0_1)])] ∧
  ∃ m : Nat, m < n_1 ∧ J_1 m t31_1 (w64 (t11_1 + 1)) h_6) ∧
  ((decide (t24_1 = t11_1)) = false →
  ∃ m : Nat, m < n_1 ∧ J_1 m out5_1 (w64 (t11_1 + 1)) h_4)) ∧
  ((decide (0 < (t17_1.n : Int))) = false →
  ∃ m : Nat, m < n_1 ∧ J_1 m out5_1 (w64 (t11_1 + 1)) h_4)) ∧
  ((decide (t11_1 < (g0_1.n : Int))) = false →
  K (Sl.v out5_1) h_3)
theorem v111 (g0_1 : Sl) (s1_1 : Sl) (h : Heap) (K : Value → Heap → Prop) (H : u111 Tryz.prog g0_1 s1_1 h K) : callM Tryz.prog 111 #[(Value.agg #[(Sl.v g0_1)]), (Value.agg #[(Sl.v s1_1)])] h K := by
  refine c111 (Value.agg #[(Sl.v g0_1)]) (Value.agg #[(Sl.v s1_1)]) h K ?_
  unfold u111 at H
  unfold t111
  have hL : Vars h [] := .nil
  refine eop_box 26 (Value.agg #[(Sl.v g0_1)]) rfl hL (fun b_1 h_1 hb_1 hf_1 hL_1 => ?_)
  refine eop_box 28 (Value.agg #[(Sl.v s1_1)]) rfl hL_1 (fun b_2 h_2 hb_2 hf_2 hL_2 => ?_)
  refine pop_field 0 fld26_0 b_1 0 ?_
  refine rop_loc one24 hL_2 1 rfl 0 (v := (Sl.v g0_1)) rfl ?_
  refine pop_len g0_1 _ _ sli24 ?_
  have H := H b_1 b_2 h_2 (Nat.le_trans (Fr.size (Fr.r (In []) _)) hb_1) (Nat.le_trans (Fr.size (Fr.no' (Fr.r (In []) _) hf_1)) hb_2) (Fr.no' (Fr.no' (Fr.r (In []) _) hf_1) hf_2) hL_2
  obtain ⟨J_1, ⟨n_2, h0_1⟩, HB_1⟩ := H
  refine loop_intro (J := fun (n : Nat) (vs : List Value) (h' : Heap) => ∃ out5_1 : Sl, ∃ t11_1 : Int, vs = [(Sl.v out5_1), (VI t11_1)] ∧ J_1 n out5_1 t11_1 h' ∧ Vars h' [(b_2, [(Sl.v s1_1)]), (b_1, [(Sl.v g0_1)])]) n_2 ⟨nilSl, 0, rfl, h0_1, hL_2⟩ ?_
  intro I_1 mu_1 hI_1 junk_1 tv_1 tv_2 h_3 hi_1
  obtain ⟨n_1, ⟨out5_1, t11_1, hv, hJ_1, hL_3⟩, hn_1⟩ := hI_1 _ _ hi_1
  cases hv
  have H := HB_1 n_1 out5_1 t11_1 h_3 hJ_1 hL_3
  refine pop_lss .i64 t11_1 (g0_1.n : Int) ?_
  refine condM_b (fun hb_3 => ?_) (fun hb_3 => ?_)
  rotate_left
  ·have H := H.2 hb_3
   exact H
  have H := H.1 hb_3
  refine rop_locA agg26 hL_3 1 rfl 0 (vs := [(Sl.v g0_1)]) rfl rfl ?_
  refine rop_locA agg28 hL_3 0 rfl 0 (vs := [(Sl.v s1_1)]) rfl rfl ?_
  refine H.mono fun rv_1 h_4 H => ?_
  obtain ⟨t17_1, rfl, hL_4, H⟩ := H
  refine pop_len t17_1 _ _ sli29 ?_
  refine pop_gtr .i64 (t17_1.n : Int) 0 ?_
  refine guardM_st (fun hb_4 => ?_) (fun hb_4 => ?_)
  rotate_left
  ·have H := H.2 hb_4
   refine guardM_n' hb_4 (by decide) ?_
   refine guardM_n' hb_4 (by decide) ?_
   refine guardM_n' hb_4 (by decide) ?_
   refine guardM_n' hb_4 (by decide) ?_
   refine pop_pickf' hb_4 ?_
   refine condM_f ?_
   refine pop_add .i64 t11_1 1 ?_
   obtain ⟨m_3, hm_3, H⟩ := H
   exact hn_1 _ _ ⟨m_3, hm_3, out5_1, (w64 (t11_1 + 1)), rfl, H, hL_4⟩
  have H := H.1 hb_4
  refine guardM_y' hb_4 ?_
  obtain ⟨hi_2, H⟩ := H
  refine pop_index sli29 siz3 .i64 t17_1 0 hi_2 ?_
  refine guardM_y' hb_4 ?_
  obtain ⟨t24_1, hc_1, H⟩ := H
  refine rop_one one3 (VI t24_1) hc_1 ?_
  refine guardM_y' hb_4 ?_
  refine guardM_y' hb_4 ?_
  refine pop_ieq .i64 _ _ t24_1 t11_1 ?_
  refine pop_pickt' hb_4 ?_
  refine condM_b (fun hb_5 => ?_) (fun hb_5 => ?_)
  rotate_left
  ·have H := H.2 hb_5
   refine pop_add .i64 t11_1 1 ?_
   obtain ⟨m_2, hm_2, H⟩ := H
   exact hn_1 _ _ ⟨m_2, hm_2, out5_1, (w64 (t11_1 + 1)), rfl, H, hL_4⟩
  have H := H.1 hb_5
  refine H.mono fun rv_2 h_5 H => ?_
  obtain ⟨t30_1, rfl, hL_5, H⟩ := H
  refine H.mono fun rv_3 h_6 H => ?_
  obtain ⟨t31_1, rfl, hL_6, H⟩ := H
  refine pop_add .i64 t11_1 1 ?_
  obtain ⟨m_1, hm_1, H⟩ := H
  exact hn_1 _ _ ⟨m_1, hm_1, t31_1, (w64 (t11_1 + 1)), rfl, H, hL_6⟩
def u112 (P : Program) (l0_1 : Sl) (n1_1 : Int) (h : Heap) (K : Value → Heap → Prop) : Prop :=
  ∃ J_1 : Nat → Int → Heap → Prop, (∃ n0 : Nat, J_1 n0 0 h) ∧
  ∀ (n_1 : Nat) (t9_1 : Int) (h_1 : Heap), J_1 n_1 t9_1 h_1 → Vars h_1 [] →
  ((decide (t9_1 < (l0_1.n : Int))) = true →
  InB l0_1 t9_1 ∧
  ∃ t12_1 : Int, hcell h_1 (Sl.at l0_1 t9_1 1) = some (VI t12_1) ∧
  ((decide (t12_1 = n1_1)) = true →
  K (VB true) h_1) ∧
  ((decide (t12_1 = n1_1)) = false →
  ∃ m : Nat, m < n_1 ∧ J_1 m (w64 (t9_1 + 1)) h_1)) ∧
  ((decide (t9_1 < (l0_1.n : Int))) = false →
  K (VB false) h_1)
theorem v112 (l0_1 : Sl) (n1_1 : Int) (h : Heap) (K : Value → Heap → Prop) (H : u112 Tryz.prog l0_1 n1_1 h K) : callM Tryz.prog 112 #[(Sl.v l0_1), (VI n1_1)] h K := by
  refine c112 (Sl.v l0_1) (VI n1_1) h K ?_
  unfold u112 at H
  unfold t112
  have hL : Vars h [] := .nil
  refine pop_len l0_1 _ _ sli29 ?_
  obtain ⟨J_1, ⟨n_2, h0_1⟩, HB_1⟩ := H
  refine loop_intro (J := fun (n : Nat) (vs : List Value) (h' : Heap) => ∃ t9_1 : Int, vs = [(VI t9_1)] ∧ J_1 n t9_1 h' ∧ Vars h' []) n_2 ⟨0, rfl, h0_1, hL⟩ ?_
  intro I_1 mu_1 hI_1 junk_1 tv_1 h_1 hi_1
  obtain ⟨n_1, ⟨t9_1, hv, hJ_1, hL_1⟩, hn_1⟩ := hI_1 _ _ hi_1
  cases hv
  have H := HB_1 n_1 t9_1 h_1 hJ_1 hL_1
  refine pop_lss .i64 t9_1 (l0_1.n : Int) ?_
  refine condM_b (fun hb_1 => ?_) (fun hb_1 => ?_)
  rotate_left
  ·have H := H.2 hb_1
   exact H
  have H := H.1 hb_1
  obtain ⟨hi_2, H⟩ := H
  refine pop_index sli29 siz3 .i64 l0_1 t9_1 hi_2 ?_
  obtain ⟨t12_1, hc_1, H⟩ := H
  refine rop_one one3 (VI t12_1) hc_1 ?_
  refine pop_ieq .i64 _ _ t12_1 n1_1 ?_
  refine condM_b (fun hb_2 => ?_) (fun hb_2 => ?_)
  ·have H := H.1 hb_2
   exact H
  have H := H.2 hb_2
  refine pop_add .i64 t9_1 1 ?_
  obtain ⟨m_1, hm_1, H⟩ := H
  exact hn_1 _ _ ⟨m_1, hm_1, (w64 (t9_1 + 1)), rfl, H, hL_1⟩
def u113 (P : Program) (g0_1 : Sl) (rotors1_1 : Sl) (h : Heap) (K : Value → Heap → Prop) : Prop :=
  ∀ (b_1 : Nat) (h_1 : Heap), h.size ≤ b_1 → Fr (In []) h h_1 → Vars h_1 [(b_1, [(Sl.v g0_1)])] →
  callM P 74 #[(Value.agg #[(Sl.v g0_1)]), (Value.agg #[(Sl.v rotors1_1), (VI 0)])] h_1 fun rv_1 h_2 => ∃ t8_1 : Bool, rv_1 = (VB t8_1) ∧ Vars h_2 [(b_1, [(Sl.v g0_1)])] ∧
  K (VB t8_1) h_2
theorem v113 (g0_1 : Sl) (rotors1_1 : Sl) (h : Heap) (K : Value → Heap → Prop) (H : u113 Tryz.prog g0_1 rotors1_1 h K) : callM Tryz.prog 113 #[(Value.agg #[(Sl.v g0_1)]), (Sl.v rotors1_1)] h K := by
  refine c113 (Value.agg #[(Sl.v g0_1)]) (Sl.v rotors1_1) h K ?_
  unfold u113 at H
  unfold t113
  have hL : Vars h [] := .nil
  refine eop_box 26 (Value.agg #[(Sl.v g0_1)]) rfl hL (fun b_1 h_1 hb_1 hf_1 hL_1 => ?_)
  refine rop_locA agg26 hL_1 0 rfl 0 (vs := [(Sl.v g0_1)]) rfl rfl ?_
  refine pop.mk' (v := (Value.agg #[(Sl.v rotors1_1), (VI 0)])) (fun w => by kernel_rfl) ?_
  have H := H b_1 h_1 (Nat.le_trans (Fr.size (Fr.r (In []) _)) hb_1) (Fr.no' (Fr.r (In []) _) hf_1) hL_1
  refine H.mono fun rv_1 h_2 H => ?_
  obtain ⟨t8_1, rfl, hL_2, H⟩ := H
  exact H
def u114 (P : Program) (g0_1 : Sl) (sink1_1 : Int) (rotors2_1 : Sl) (h : Heap) (K : Value → Heap → Prop) : Prop :=
  ∀ (b_1 : Nat) (h_1 : Heap), h.size ≤ b_1 → Fr (In []) h h_1 → Vars h_1 [(b_1, [(Sl.v g0_1)])] →
  eop P (Instr.buildSlice 29 0 #[]) h_1 fun rv_1 h_2 => ∃ t12_1 : Sl, rv_1 = (Sl.v t12_1) ∧ Vars h_2 [(b_1, [(Sl.v g0_1)])] ∧
  ∃ J_1 : Nat → Sl → Int → Heap → Prop, (∃ n0 : Nat, J_1 n0 t12_1 0 h_2) ∧
  ∀ (n_1 : Nat) (out8_1 : Sl) (t16_1 : Int) (h_3 : Heap), J_1 n_1 out8_1 t16_1 h_3 → Vars h_3 [(b_1, [(Sl.v g0_1)])] →
  ((decide (t16_1 < (g0_1.n : Int))) = true →
  ∃ J_2 : Nat → Int → Int → Heap → Prop, (∃ n0 : Nat, J_2 n0 0 t16_1 h_3) ∧
  ∀ (n_2 : Nat) (many10_1 : Int) (at11_1 : Int) (h_4 : Heap), J_2 n_2 many10_1 at11_1 h_4 → Vars h_4 [(b_1, [(Sl.v g0_1)])] →
  ((!decide (at11_1 = sink1_1)) = true →
  callM P 126 #[(Value.agg #[(Sl.v g0_1)]), (Sl.v rotors2_1), (VI at11_1)] h_4 fun rv_2 h_5 => ∃ t28_1 : Int, rv_2 = (VI t28_1) ∧ Vars h_5 [(b_1, [(Sl.v g0_1)])] ∧
  ((decide (t28_1 < 0)) = true →
  K (Value.tuple #[(Sl.v nilSl), (VB false)]) h_5) ∧
  ((decide (t28_1 < 0)) = false →
  ((decide ((g0_1.n : Int) < many10_1)) = true →
  K (Value.tuple #[(Sl.v nilSl), (VB false)]) h_5) ∧
  ((decide ((g0_1.n : Int) < many10_1)) = false →
  ∃ m : Nat, m < n_2 ∧ J_2 m (w64 (many10_1 + 1)) t28_1 h_5))) ∧
  ((!decide (at11_1 = sink1_1)) = false →
  eop P (Instr.buildSlice 29 1 #[(0, (VI many10_1))]) h_4 fun rv_3 h_6 => ∃ t40_1 : Sl, rv_3 = (Sl.v t40_1) ∧ Vars h_6 [(b_1, [(Sl.v g0_1)])] ∧
  eop P (appS 29 29 29 (Sl.v out8_1) (Sl.v t40_1)) h_6 fun rv_4 h_7 => ∃ t41_1 : Sl, rv_4 = (Sl.v t41_1) ∧ Vars h_7 [(b_1, [(Sl.v g0_1)])] ∧
  ∃ m : Nat, m < n_1 ∧ J_1 m t41_1 (w64 (t16_1 + 1)) h_7)) ∧
  ((decide (t16_1 < (g0_1.n : Int))) = false →
  K (Value.tuple #[(Sl.v out8_1), (VB true)]) h_3)
theorem v114 (g0_1 : Sl) (sink1_1 : Int) (rotors2_1 : Sl) (h : Heap) (K : Value → Heap → Prop) (H : u114 Tryz.prog g0_1 sink1_1 rotors2_1 h K) : callM Tryz.prog 114 #[(Value.agg #[(Sl.v g0_1)]), (VI sink1_1), (Sl.v rotors2_1)] h K := by
  refine c114 (Value.agg #[(Sl.v g0_1)]) (VI sink1_1) (Sl.v rotors2_1) h K ?_
  unfold u114 at H
  unfold t114
  have hL : Vars h [] := .nil
  refine eop_box 26 (Value.agg #[(Sl.v g0_1)]) rfl hL (fun b_1 h_1 hb_1 hf_1 hL_1 => ?_)
  have H := H b_1 h_1 (Nat.le_trans (Fr.size (Fr.r (In []) _)) hb_1) (Fr.no' (Fr.r (In []) _) hf_1) hL_1
  refine H.mono fun rv_1 h_2 H => ?_
  obtain ⟨t12_1, rfl, hL_2, H⟩ := H
  refine pop_field 0 fld26_0 b_1 0 ?_
  refine rop_loc one24 hL_2 0 rfl 0 (v := (Sl.v g0_1)) rfl ?_
  refine pop_len g0_1 _ _ sli24 ?_
  obtain ⟨J_1, ⟨n_4, h0_2⟩, HB_2⟩ := H
  refine loop_intro (J := fun (n : Nat) (vs : List Value) (h' : Heap) => ∃ out8_1 : Sl, ∃ t16_1 : Int, vs = [(Sl.v out8_1), (VI t16_1)] ∧ J_1 n out8_1 t16_1 h' ∧ Vars h' [(b_1, [(Sl.v g0_1)])]) n_4 ⟨t12_1, 0, rfl, h0_2, hL_2⟩ ?_
  intro I_2 mu_2 hI_2 junk_1 tv_3 tv_4 h_3 hi_1
  obtain ⟨n_1, ⟨out8_1, t16_1, hv, hJ_1, hL_3⟩, hn_1⟩ := hI_2 _ _ hi_1
  cases hv
  have H := HB_2 n_1 out8_1 t16_1 h_3 hJ_1 hL_3
  refine pop_lss .i64 t16_1 (g0_1.n : Int) ?_
  refine condM_b (fun hb_2 => ?_) (fun hb_2 => ?_)
  rotate_left
  ·have H := H.2 hb_2
   exact H
  have H := H.1 hb_2
  obtain ⟨J_2, ⟨n_3, h0_1⟩, HB_1⟩ := H
  refine loop_intro (J := fun (n : Nat) (vs : List Value) (h' : Heap) => ∃ many10_1 : Int, ∃ at11_1 : Int, vs = [(VI many10_1), (VI at11_1)] ∧ J_2 n many10_1 at11_1 h' ∧ Vars h' [(b_1, [(Sl.v g0_1)])]) n_3 ⟨0, t16_1, rfl, h0_1, hL_3⟩ ?_
  intro I_1 mu_1 hI_1 junk_2 tv_1 tv_2 h_4 hi_2
  obtain ⟨n_2, ⟨many10_1, at11_1, hv, hJ_2, hL_4⟩, hn_2⟩ := hI_1 _ _ hi_2
  cases hv
  have H := HB_1 n_2 many10_1 at11_1 h_4 hJ_2 hL_4
  refine pop_ine .i64 _ _ at11_1 sink1_1 ?_
  refine condM_b (fun hb_3 => ?_) (fun hb_3 => ?_)
  rotate_left
  ·have H := H.2 hb_3
   refine H.mono fun rv_3 h_6 H => ?_
   obtain ⟨t40_1, rfl, hL_6, H⟩ := H
   refine H.mono fun rv_4 h_7 H => ?_
   obtain ⟨t41_1, rfl, hL_7, H⟩ := H
   refine pop_add .i64 t16_1 1 ?_
   obtain ⟨m_2, hm_2, H⟩ := H
   exact hn_1 _ _ ⟨m_2, hm_2, t41_1, (w64 (t16_1 + 1)), rfl, H, hL_7⟩
  have H := H.1 hb_3
  refine rop_locA agg26 hL_4 0 rfl 0 (vs := [(Sl.v g0_1)]) rfl rfl ?_
  refine H.mono fun rv_2 h_5 H => ?_
  obtain ⟨t28_1, rfl, hL_5, H⟩ := H
  refine pop_lss .i64 t28_1 0 ?_
  refine guardM_sf (fun hb_4 => ?_) (fun hb_4 => ?_)
  rotate_left
  ·have H := H.1 hb_4
   refine guardM_n' hb_4 (by decide) ?_
   refine guardM_n' hb_4 (by decide) ?_
   refine guardM_n' hb_4 (by decide) ?_
   refine guardM_n' hb_4 (by decide) ?_
   refine pop_pickt' hb_4 ?_
   refine condM_t ?_
   exact H
  have H := H.2 hb_4
  refine guardM_y' hb_4 ?_
  refine pop_field 0 fld26_0 b_1 0 ?_
  refine guardM_y' hb_4 ?_
  refine rop_loc one24 hL_5 0 rfl 0 (v := (Sl.v g0_1)) rfl ?_
  refine guardM_y' hb_4 ?_
  refine pop_len g0_1 _ _ sli24 ?_
  refine guardM_y' hb_4 ?_
  refine pop_gtr .i64 many10_1 (g0_1.n : Int) ?_
  refine pop_pickf' hb_4 ?_
  refine condM_b (fun hb_5 => ?_) (fun hb_5 => ?_)
  ·have H := H.1 hb_5
   exact H
  have H := H.2 hb_5
  refine pop_add .i64 many10_1 1 ?_
  obtain ⟨m_1, hm_1, H⟩ := H
  exact hn_2 _ _ ⟨m_1, hm_1, (w64 (many10_1 + 1)), t28_1, rfl, H, hL_5⟩
def u115 (P : Program) (k0_1 : Int) (b_1 : Nat) (t1_1 : Sl) (b_2 : Nat) (t2_1 : Int) (h : Heap) (K : Value → Heap → Prop) : Prop :=
  InB t1_1 t2_1 ∧
  ∃ t10_1 : Sl, hcell h (Sl.at t1_1 t2_1 1) = some (Sl.v t10_1) ∧
  callM P 84 #[(VI k0_1), (VI 0), (VI (w64 ((t10_1.n : Int) - 1)))] h fun rv_1 h_1 => ∃ t13_1 : Bool, rv_1 = (VB t13_1) ∧ Vars h_1 [(b_1, [(Sl.v t1_1)]), (b_2, [(VI t2_1)])] ∧
  K (VB (!t13_1)) h_1
theorem v115 (k0_1 : Int) (b_1 : Nat) (t1_1 : Sl) (b_2 : Nat) (t2_1 : Int) (h : Heap) (K : Value → Heap → Prop) (hL : Vars h [(b_1, [(Sl.v t1_1)]), (b_2, [(VI t2_1)])]) (H : u115 Tryz.prog k0_1 b_1 t1_1 b_2 t2_1 h K) : callM Tryz.prog 115 #[(VI k0_1), (VP b_1 0), (VP b_2 0)] h K := by
  refine c115 (VI k0_1) (VP b_1 0) (VP b_2 0) h K ?_
  unfold u115 at H
  unfold t115
  refine pop_field 0 fld26_0 b_1 0 ?_
  refine rop_loc one24 hL 0 rfl 0 (v := (Sl.v t1_1)) rfl ?_
  refine rop_loc one3 hL 1 rfl 0 (v := (VI t2_1)) rfl ?_
  obtain ⟨hi_1, H⟩ := H
  refine pop_index sli24 siz29 .i64 t1_1 t2_1 hi_1 ?_
  obtain ⟨t10_1, hc_1, H⟩ := H
  refine rop_one one29 (Sl.v t10_1) hc_1 ?_
  refine pop_len t10_1 _ _ sli29 ?_
  refine pop_sub .i64 (t10_1.n : Int) 1 ?_
  refine H.mono fun rv_1 h_1 H => ?_
  obtain ⟨t13_1, rfl, hL_1, H⟩ := H
  refine pop_not t13_1 ?_
  exact H
def u116 (P : Program) (s0_1 : Sl) (g1_1 : Sl) (p2_1 : Int) (h : Heap) (K : Value → Heap → Prop) : Prop :=
  ∀ (b_1 : Nat) (b_2 : Nat) (h_2 : Heap), h.size ≤ b_1 → h.size ≤ b_2 → Fr (In []) h h_2 → Vars h_2 [(b_2, [(Sl.v g1_1)]), (b_1, [(Sl.v s0_1)])] →
  eop P (Instr.buildSlice 29 0 #[]) h_2 fun rv_1 h_3 => ∃ t10_1 : Sl, rv_1 = (Sl.v t10_1) ∧ Vars h_3 [(b_2, [(Sl.v g1_1)]), (b_1, [(Sl.v s0_1)])] ∧
  ∃ J_1 : Nat → Sl → Int → Heap → Prop, (∃ n0 : Nat, J_1 n0 t10_1 p2_1 h_3) ∧
  ∀ (n_1 : Nat) (out7_1 : Sl) (at8_1 : Int) (h_4 : Heap), J_1 n_1 out7_1 at8_1 h_4 → Vars h_4 [(b_2, [(Sl.v g1_1)]), (b_1, [(Sl.v s0_1)])] →
  InB s0_1 at8_1 ∧
  ∃ t16_1 : Sl, hcell h_4 (Sl.at s0_1 at8_1 1) = some (Sl.v t16_1) ∧
  ((decide ((t16_1.n : Int) = 0)) = true →
  K (Sl.v nilSl) h_4) ∧
  ((decide ((t16_1.n : Int) = 0)) = false →
  ((decide ((g1_1.n : Int) < (out7_1.n : Int))) = true →
  K (Sl.v nilSl) h_4) ∧
  ((decide ((g1_1.n : Int) < (out7_1.n : Int))) = false →
  eop P (Instr.buildSlice 29 1 #[(0, (VI at8_1))]) h_4 fun rv_2 h_5 => ∃ t29_1 : Sl, rv_2 = (Sl.v t29_1) ∧ Vars h_5 [(b_2, [(Sl.v g1_1)]), (b_1, [(Sl.v s0_1)])] ∧
  eop P (appS 29 29 29 (Sl.v out7_1) (Sl.v t29_1)) h_5 fun rv_3 h_6 => ∃ t30_1 : Sl, rv_3 = (Sl.v t30_1) ∧ Vars h_6 [(b_2, [(Sl.v g1_1)]), (b_1, [(Sl.v s0_1)])] ∧
  InB g1_1 at8_1 ∧
  ∃ t35_1 : Sl, hcell h_6 (Sl.at g1_1 at8_1 1) = some (Sl.v t35_1) ∧
  InB s0_1 at8_1 ∧
  ∃ t40_1 : Sl, hcell h_6 (Sl.at s0_1 at8_1 1) = some (Sl.v t40_1) ∧
  InB t40_1 0 ∧
  ∃ t42_1 : Int, hcell h_6 (Sl.at t40_1 0 1) = some (VI t42_1) ∧
  InB t35_1 t42_1 ∧
  ∃ t44_1 : Int, hcell h_6 (Sl.at t35_1 t42_1 1) = some (VI t44_1) ∧
  ((decide (t44_1 = p2_1)) = true →
  callM P 143 #[(Sl.v t30_1)] h_6 fun rv_4 h_7 => ∃ t50_1 : Int, rv_4 = (VI t50_1) ∧ Vars h_7 [(b_2, [(Sl.v g1_1)]), (b_1, [(Sl.v s0_1)])] ∧
  callM P 127 #[(Sl.v t30_1), (VI t50_1)] h_7 fun rv_5 h_8 => ∃ t51_1 : Int, rv_5 = (VI t51_1) ∧ Vars h_8 [(b_2, [(Sl.v g1_1)]), (b_1, [(Sl.v s0_1)])] ∧
  pop P (Instr.sliceAt 29 (Sl.v t30_1) (some (VI t51_1)) none none) fun rv_6 => ∃ t54_1 : Sl, rv_6 = (Sl.v t54_1) ∧ 
  pop P (Instr.sliceAt 29 (Sl.v t30_1) none (some (VI t51_1)) none) fun rv_7 => ∃ t57_1 : Sl, rv_7 = (Sl.v t57_1) ∧ 
  eop P (Instr.buildSlice 24 2 #[(0, (Sl.v t54_1)), (1, (Sl.v t57_1))]) h_8 fun rv_8 h_9 => ∃ t58_1 : Sl, rv_8 = (Sl.v t58_1) ∧ Vars h_9 [(b_2, [(Sl.v g1_1)]), (b_1, [(Sl.v s0_1)])] ∧
  callM P 144 #[(Sl.v t58_1)] h_9 fun rv_9 h_10 => ∃ t59_1 : Sl, rv_9 = (Sl.v t59_1) ∧ Vars h_10 [(b_2, [(Sl.v g1_1)]), (b_1, [(Sl.v s0_1)])] ∧
  K (Sl.v t59_1) h_10) ∧
  ((decide (t44_1 = p2_1)) = false →
  ∃ m : Nat, m < n_1 ∧ J_1 m t30_1 t44_1 h_6)))
theorem v116 (s0_1 : Sl) (g1_1 : Sl) (p2_1 : Int) (h : Heap) (K : Value → Heap → Prop) (H : u116 Tryz.prog s0_1 g1_1 p2_1 h K) : callM Tryz.prog 116 #[(Value.agg #[(Sl.v s0_1)]), (Value.agg #[(Sl.v g1_1)]), (VI p2_1)] h K := by
  refine c116 (Value.agg #[(Sl.v s0_1)]) (Value.agg #[(Sl.v g1_1)]) (VI p2_1) h K ?_
  unfold u116 at H
  unfold t116
  have hL : Vars h [] := .nil
  refine eop_box 28 (Value.agg #[(Sl.v s0_1)]) rfl hL (fun b_1 h_1 hb_1 hf_1 hL_1 => ?_)
  refine eop_box 26 (Value.agg #[(Sl.v g1_1)]) rfl hL_1 (fun b_2 h_2 hb_2 hf_2 hL_2 => ?_)
  have H := H b_1 b_2 h_2 (Nat.le_trans (Fr.size (Fr.r (In []) _)) hb_1) (Nat.le_trans (Fr.size (Fr.no' (Fr.r (In []) _) hf_1)) hb_2) (Fr.no' (Fr.no' (Fr.r (In []) _) hf_1) hf_2) hL_2
  refine H.mono fun rv_1 h_3 H => ?_
  obtain ⟨t10_1, rfl, hL_3, H⟩ := H
  obtain ⟨J_1, ⟨n_2, h0_1⟩, HB_1⟩ := H
  refine loop_intro (J := fun (n : Nat) (vs : List Value) (h' : Heap) => ∃ out7_1 : Sl, ∃ at8_1 : Int, vs = [(Sl.v out7_1), (VI at8_1)] ∧ J_1 n out7_1 at8_1 h' ∧ Vars h' [(b_2, [(Sl.v g1_1)]), (b_1, [(Sl.v s0_1)])]) n_2 ⟨t10_1, p2_1, rfl, h0_1, hL_3⟩ ?_
  intro I_1 mu_1 hI_1 junk_1 tv_1 tv_2 h_4 hi_1
  obtain ⟨n_1, ⟨out7_1, at8_1, hv, hJ_1, hL_4⟩, hn_1⟩ := hI_1 _ _ hi_1
  cases hv
  have H := HB_1 n_1 out7_1 at8_1 h_4 hJ_1 hL_4
  refine pop_field 0 fld28_0 b_1 0 ?_
  refine rop_loc one24 hL_4 1 rfl 0 (v := (Sl.v s0_1)) rfl ?_
  obtain ⟨hi_2, H⟩ := H
  refine pop_index sli24 siz29 .i64 s0_1 at8_1 hi_2 ?_
  obtain ⟨t16_1, hc_5, H⟩ := H
  refine rop_one one29 (Sl.v t16_1) hc_5 ?_
  refine pop_len t16_1 _ _ sli29 ?_
  refine pop_ieq .i64 _ _ (t16_1.n : Int) 0 ?_
  refine guardM_sf (fun hb_3 => ?_) (fun hb_3 => ?_)
  rotate_left
  ·have H := H.1 hb_3
   refine guardM_n' hb_3 (by decide) ?_
   refine guardM_n' hb_3 (by decide) ?_
   refine guardM_n' hb_3 (by decide) ?_
   refine guardM_n' hb_3 (by decide) ?_
   refine guardM_n' hb_3 (by decide) ?_
   refine pop_pickt' hb_3 ?_
   refine condM_t ?_
   exact H
  have H := H.2 hb_3
  refine guardM_y' hb_3 ?_
  refine pop_len out7_1 _ _ sli29 ?_
  refine guardM_y' hb_3 ?_
  refine pop_field 0 fld26_0 b_2 0 ?_
  refine guardM_y' hb_3 ?_
  refine rop_loc one24 hL_4 0 rfl 0 (v := (Sl.v g1_1)) rfl ?_
  refine guardM_y' hb_3 ?_
  refine pop_len g1_1 _ _ sli24 ?_
  refine guardM_y' hb_3 ?_
  refine pop_gtr .i64 (out7_1.n : Int) (g1_1.n : Int) ?_
  refine pop_pickf' hb_3 ?_
  refine condM_b (fun hb_4 => ?_) (fun hb_4 => ?_)
  ·have H := H.1 hb_4
   exact H
  have H := H.2 hb_4
  refine H.mono fun rv_2 h_5 H => ?_
  obtain ⟨t29_1, rfl, hL_5, H⟩ := H
  refine H.mono fun rv_3 h_6 H => ?_
  obtain ⟨t30_1, rfl, hL_6, H⟩ := H
  refine pop_field 0 fld26_0 b_2 0 ?_
  refine rop_loc one24 hL_6 0 rfl 0 (v := (Sl.v g1_1)) rfl ?_
  obtain ⟨hi_3, H⟩ := H
  refine pop_index sli24 siz29 .i64 g1_1 at8_1 hi_3 ?_
  obtain ⟨t35_1, hc_4, H⟩ := H
  refine rop_one one29 (Sl.v t35_1) hc_4 ?_
  refine pop_field 0 fld28_0 b_1 0 ?_
  refine rop_loc one24 hL_6 1 rfl 0 (v := (Sl.v s0_1)) rfl ?_
  obtain ⟨hi_4, H⟩ := H
  refine pop_index sli24 siz29 .i64 s0_1 at8_1 hi_4 ?_
  obtain ⟨t40_1, hc_3, H⟩ := H
  refine rop_one one29 (Sl.v t40_1) hc_3 ?_
  obtain ⟨hi_5, H⟩ := H
  refine pop_index sli29 siz3 .i64 t40_1 0 hi_5 ?_
  obtain ⟨t42_1, hc_2, H⟩ := H
  refine rop_one one3 (VI t42_1) hc_2 ?_
  obtain ⟨hi_6, H⟩ := H
  refine pop_index sli29 siz3 .i64 t35_1 t42_1 hi_6 ?_
  obtain ⟨t44_1, hc_1, H⟩ := H
  refine rop_one one3 (VI t44_1) hc_1 ?_
  refine pop_ieq .i64 _ _ t44_1 p2_1 ?_
  refine condM_b (fun hb_5 => ?_) (fun hb_5 => ?_)
  rotate_left
  ·have H := H.2 hb_5
   obtain ⟨m_1, hm_1, H⟩ := H
   exact hn_1 _ _ ⟨m_1, hm_1, t30_1, t44_1, rfl, H, hL_6⟩
  have H := H.1 hb_5
  refine H.mono fun rv_4 h_7 H => ?_
  obtain ⟨t50_1, rfl, hL_7, H⟩ := H
  refine H.mono fun rv_5 h_8 H => ?_
  obtain ⟨t51_1, rfl, hL_8, H⟩ := H
  refine H.mono fun rv_6 H => ?_
  obtain ⟨t54_1, rfl, H⟩ := H
  refine H.mono fun rv_7 H => ?_
  obtain ⟨t57_1, rfl, H⟩ := H
  refine H.mono fun rv_8 h_9 H => ?_
  obtain ⟨t58_1, rfl, hL_9, H⟩ := H
  refine H.mono fun rv_9 h_10 H => ?_
  obtain ⟨t59_1, rfl, hL_10, H⟩ := H
  exact H
def u117 (P : Program) (q0_1 : Int) (b_1 : Nat) (t1_1 : Int) (h : Heap) (K : Value → Heap → Prop) : Prop :=
  callM P 84 #[(VI q0_1), (VI 0), (VI (w64 (t1_1 - 1)))] h fun rv_1 h_1 => ∃ t7_1 : Bool, rv_1 = (VB t7_1) ∧ Vars h_1 [(b_1, [(VI t1_1)])] ∧
  K (VB (!t7_1)) h_1
theorem v117 (q0_1 : Int) (b_1 : Nat) (t1_1 : Int) (h : Heap) (K : Value → Heap → Prop) (hL : Vars h [(b_1, [(VI t1_1)])]) (H : u117 Tryz.prog q0_1 b_1 t1_1 h K) : callM Tryz.prog 117 #[(VI q0_1), (VP b_1 0)] h K := by
  refine c117 (VI q0_1) (VP b_1 0) h K ?_
  unfold u117 at H
  unfold t117
  refine rop_loc one3 hL 0 rfl 0 (v := (VI t1_1)) rfl ?_
  refine pop_sub .i64 t1_1 1 ?_
  refine H.mono fun rv_1 h_1 H => ?_
  obtain ⟨t7_1, rfl, hL_1, H⟩ := H
  refine pop_not t7_1 ?_
  exact H
def u118 (P : Program) (seq0_1 : Value) (h : Heap) (K : Value → Heap → Prop) : Prop :=
  callM P 145 #[seq0_1] h fun rv_1 h_1 => ∃ t5_1 : Sl, rv_1 = (Sl.v t5_1) ∧ Vars h_1 [] ∧
  callM P 146 #[(Sl.v t5_1)] h_1 fun rv_2 h_2 => Vars h_2 [] ∧
  K (Sl.v t5_1) h_2
theorem v118 (seq0_1 : Value) (h : Heap) (K : Value → Heap → Prop) (H : u118 Tryz.prog seq0_1 h K) : callM Tryz.prog 118 #[seq0_1] h K := by
  refine c118 seq0_1 h K ?_
  unfold u118 at H
  unfold t118
  have hL : Vars h [] := .nil
  refine H.mono fun rv_1 h_1 H => ?_
  obtain ⟨t5_1, rfl, hL_1, H⟩ := H
  refine H.mono fun rv_2 h_2 H => ?_
  obtain ⟨hL_2, H⟩ := H
  exact H
def u119 (P : Program) (s0_1 : Sl) (h : Heap) (K : Value → Heap → Prop) : Prop :=
  ∀ (b_1 : Nat) (h_1 : Heap), h.size ≤ b_1 → Fr (In []) h h_1 → Vars h_1 [(b_1, [(Sl.v s0_1)])] →
  K (Value.func (Fn.func 147) #[] #[(VP b_1 0)]) h_1
theorem v119 (s0_1 : Sl) (h : Heap) (K : Value → Heap → Prop) (H : u119 Tryz.prog s0_1 h K) : callM Tryz.prog 119 #[(Sl.v s0_1)] h K := by
  refine c119 (Sl.v s0_1) h K ?_
  unfold u119 at H
  unfold t119
  have hL : Vars h [] := .nil
  refine eop_box 29 (Sl.v s0_1) rfl hL (fun b_1 h_1 hb_1 hf_1 hL_1 => ?_)
  refine pop_func _ _ _ ?_
  have H := H b_1 h_1 (Nat.le_trans (Fr.size (Fr.r (In []) _)) hb_1) (Fr.no' (Fr.r (In []) _) hf_1) hL_1
  exact H
def u120 (P : Program) (g0_1 : Sl) (s1_1 : Sl) (p2_1 : Int) (h : Heap) (K : Value → Heap → Prop) : Prop :=
  InB s1_1 p2_1 ∧
  ∀ (b_1 : Nat) (b_2 : Nat) (h_2 : Heap), h.size ≤ b_1 → h.size ≤ b_2 → Fr (In []) h h_2 → Vars h_2 [(b_2, [(Sl.v s1_1)]), (b_1, [(Sl.v g0_1)])] →
  ∃ t11_1 : Sl, hcell h_2 (Sl.at s1_1 p2_1 1) = some (Sl.v t11_1) ∧
  ((decide ((t11_1.n : Int) = 0)) = true →
  K (VI (-1)) h_2) ∧
  ((decide ((t11_1.n : Int) = 0)) = false →
  InB g0_1 p2_1 ∧
  ∃ t18_1 : Sl, hcell h_2 (Sl.at g0_1 p2_1 1) = some (Sl.v t18_1) ∧
  InB s1_1 p2_1 ∧
  ∃ t23_1 : Sl, hcell h_2 (Sl.at s1_1 p2_1 1) = some (Sl.v t23_1) ∧
  InB t23_1 0 ∧
  ∃ t25_1 : Int, hcell h_2 (Sl.at t23_1 0 1) = some (VI t25_1) ∧
  InB t18_1 t25_1 ∧
  ∃ t27_1 : Int, hcell h_2 (Sl.at t18_1 t25_1 1) = some (VI t27_1) ∧
  K (VI t27_1) h_2)
theorem v120 (g0_1 : Sl) (s1_1 : Sl) (p2_1 : Int) (h : Heap) (K : Value → Heap → Prop) (H : u120 Tryz.prog g0_1 s1_1 p2_1 h K) : callM Tryz.prog 120 #[(Value.agg #[(Sl.v g0_1)]), (Value.agg #[(Sl.v s1_1)]), (VI p2_1)] h K := by
  refine c120 (Value.agg #[(Sl.v g0_1)]) (Value.agg #[(Sl.v s1_1)]) (VI p2_1) h K ?_
  unfold u120 at H
  unfold t120
  have hL : Vars h [] := .nil
  refine eop_box 26 (Value.agg #[(Sl.v g0_1)]) rfl hL (fun b_1 h_1 hb_1 hf_1 hL_1 => ?_)
  refine eop_box 28 (Value.agg #[(Sl.v s1_1)]) rfl hL_1 (fun b_2 h_2 hb_2 hf_2 hL_2 => ?_)
  refine pop_field 0 fld28_0 b_2 0 ?_
  refine rop_loc one24 hL_2 0 rfl 0 (v := (Sl.v s1_1)) rfl ?_
  obtain ⟨hi_1, H⟩ := H
  refine pop_index sli24 siz29 .i64 s1_1 p2_1 hi_1 ?_
  have H := H b_1 b_2 h_2 (Nat.le_trans (Fr.size (Fr.r (In []) _)) hb_1) (Nat.le_trans (Fr.size (Fr.no' (Fr.r (In []) _) hf_1)) hb_2) (Fr.no' (Fr.no' (Fr.r (In []) _) hf_1) hf_2) hL_2
  obtain ⟨t11_1, hc_5, H⟩ := H
  refine rop_one one29 (Sl.v t11_1) hc_5 ?_
  refine pop_len t11_1 _ _ sli29 ?_
  refine pop_ieq .i64 _ _ (t11_1.n : Int) 0 ?_
  refine condM_b (fun hb_3 => ?_) (fun hb_3 => ?_)
  ·have H := H.1 hb_3
   exact H
  have H := H.2 hb_3
  refine pop_field 0 fld26_0 b_1 0 ?_
  refine rop_loc one24 hL_2 1 rfl 0 (v := (Sl.v g0_1)) rfl ?_
  obtain ⟨hi_2, H⟩ := H
  refine pop_index sli24 siz29 .i64 g0_1 p2_1 hi_2 ?_
  obtain ⟨t18_1, hc_4, H⟩ := H
  refine rop_one one29 (Sl.v t18_1) hc_4 ?_
  refine pop_field 0 fld28_0 b_2 0 ?_
  refine rop_loc one24 hL_2 0 rfl 0 (v := (Sl.v s1_1)) rfl ?_
  obtain ⟨hi_3, H⟩ := H
  refine pop_index sli24 siz29 .i64 s1_1 p2_1 hi_3 ?_
  obtain ⟨t23_1, hc_3, H⟩ := H
  refine rop_one one29 (Sl.v t23_1) hc_3 ?_
  obtain ⟨hi_4, H⟩ := H
  refine pop_index sli29 siz3 .i64 t23_1 0 hi_4 ?_
  obtain ⟨t25_1, hc_2, H⟩ := H
  refine rop_one one3 (VI t25_1) hc_2 ?_
  obtain ⟨hi_5, H⟩ := H
  refine pop_index sli29 siz3 .i64 t18_1 t25_1 hi_5 ?_
  obtain ⟨t27_1, hc_1, H⟩ := H
  refine rop_one one3 (VI t27_1) hc_1 ?_
  exact H
def u121 (P : Program) (list0_1 : Sl) (x1_1 : Int) (h : Heap) (K : Value → Heap → Prop) : Prop :=
  ∃ J_1 : Nat → Int → Heap → Prop, (∃ n0 : Nat, J_1 n0 0 h) ∧
  ∀ (n_1 : Nat) (t9_1 : Int) (h_1 : Heap), J_1 n_1 t9_1 h_1 → Vars h_1 [] →
  ((decide (t9_1 < (list0_1.n : Int))) = true →
  InB list0_1 t9_1 ∧
  ∃ t13_1 : Int, hcell h_1 (Sl.at list0_1 t9_1 1) = some (VI t13_1) ∧
  ((decide (t13_1 = x1_1)) = true →
  K (VI t9_1) h_1) ∧
  ((decide (t13_1 = x1_1)) = false →
  ∃ m : Nat, m < n_1 ∧ J_1 m (w64 (t9_1 + 1)) h_1)) ∧
  ((decide (t9_1 < (list0_1.n : Int))) = false →
  K (VI (-1)) h_1)
theorem v121 (list0_1 : Sl) (x1_1 : Int) (h : Heap) (K : Value → Heap → Prop) (H : u121 Tryz.prog list0_1 x1_1 h K) : callM Tryz.prog 121 #[(Sl.v list0_1), (VI x1_1)] h K := by
  refine c121 (Sl.v list0_1) (VI x1_1) h K ?_
  unfold u121 at H
  unfold t121
  have hL : Vars h [] := .nil
  refine pop_len list0_1 _ _ sli29 ?_
  obtain ⟨J_1, ⟨n_2, h0_1⟩, HB_1⟩ := H
  refine loop_intro (J := fun (n : Nat) (vs : List Value) (h' : Heap) => ∃ t9_1 : Int, vs = [(VI t9_1)] ∧ J_1 n t9_1 h' ∧ Vars h' []) n_2 ⟨0, rfl, h0_1, hL⟩ ?_
  intro I_1 mu_1 hI_1 junk_1 tv_1 h_1 hi_1
  obtain ⟨n_1, ⟨t9_1, hv, hJ_1, hL_1⟩, hn_1⟩ := hI_1 _ _ hi_1
  cases hv
  have H := HB_1 n_1 t9_1 h_1 hJ_1 hL_1
  refine pop_lss .i64 t9_1 (list0_1.n : Int) ?_
  refine condM_b (fun hb_1 => ?_) (fun hb_1 => ?_)
  rotate_left
  ·have H := H.2 hb_1
   exact H
  have H := H.1 hb_1
  obtain ⟨hi_2, H⟩ := H
  refine pop_index sli29 siz3 .i64 list0_1 t9_1 hi_2 ?_
  obtain ⟨t13_1, hc_1, H⟩ := H
  refine rop_one one3 (VI t13_1) hc_1 ?_
  refine pop_ieq .i64 _ _ t13_1 x1_1 ?_
  refine condM_b (fun hb_2 => ?_) (fun hb_2 => ?_)
  ·have H := H.1 hb_2
   exact H
  have H := H.2 hb_2
  refine pop_add .i64 t9_1 1 ?_
  obtain ⟨m_1, hm_1, H⟩ := H
  exact hn_1 _ _ ⟨m_1, hm_1, (w64 (t9_1 + 1)), rfl, H, hL_1⟩
def u126 (P : Program) (g0_1 : Sl) (rotors1_1 : Sl) (p2_1 : Int) (h : Heap) (K : Value → Heap → Prop) : Prop :=
  InB g0_1 p2_1 ∧
  ∀ (b_1 : Nat) (h_1 : Heap), h.size ≤ b_1 → Fr (In []) h h_1 → Vars h_1 [(b_1, [(Sl.v g0_1)])] →
  ∃ t11_1 : Sl, hcell h_1 (Sl.at g0_1 p2_1 1) = some (Sl.v t11_1) ∧
  ((decide ((t11_1.n : Int) = 0)) = true →
  K (VI (-1)) h_1) ∧
  ((decide ((t11_1.n : Int) = 0)) = false →
  InB g0_1 p2_1 ∧
  ∃ t18_1 : Sl, hcell h_1 (Sl.at g0_1 p2_1 1) = some (Sl.v t18_1) ∧
  InB rotors1_1 p2_1 ∧
  ∃ t22_1 : Int, hcell h_1 (Sl.at rotors1_1 p2_1 1) = some (VI t22_1) ∧
  InB t18_1 t22_1 ∧
  ∃ t24_1 : Int, hcell h_1 (Sl.at t18_1 t22_1 1) = some (VI t24_1) ∧
  K (VI t24_1) h_1)
theorem v126 (g0_1 : Sl) (rotors1_1 : Sl) (p2_1 : Int) (h : Heap) (K : Value → Heap → Prop) (H : u126 Tryz.prog g0_1 rotors1_1 p2_1 h K) : callM Tryz.prog 126 #[(Value.agg #[(Sl.v g0_1)]), (Sl.v rotors1_1), (VI p2_1)] h K := by
  refine c126 (Value.agg #[(Sl.v g0_1)]) (Sl.v rotors1_1) (VI p2_1) h K ?_
  unfold u126 at H
  unfold t126
  have hL : Vars h [] := .nil
  refine eop_box 26 (Value.agg #[(Sl.v g0_1)]) rfl hL (fun b_1 h_1 hb_1 hf_1 hL_1 => ?_)
  refine pop_field 0 fld26_0 b_1 0 ?_
  refine rop_loc one24 hL_1 0 rfl 0 (v := (Sl.v g0_1)) rfl ?_
  obtain ⟨hi_1, H⟩ := H
  refine pop_index sli24 siz29 .i64 g0_1 p2_1 hi_1 ?_
  have H := H b_1 h_1 (Nat.le_trans (Fr.size (Fr.r (In []) _)) hb_1) (Fr.no' (Fr.r (In []) _) hf_1) hL_1
  obtain ⟨t11_1, hc_4, H⟩ := H
  refine rop_one one29 (Sl.v t11_1) hc_4 ?_
  refine pop_len t11_1 _ _ sli29 ?_
  refine pop_ieq .i64 _ _ (t11_1.n : Int) 0 ?_
  refine condM_b (fun hb_2 => ?_) (fun hb_2 => ?_)
  ·have H := H.1 hb_2
   exact H
  have H := H.2 hb_2
  refine pop_field 0 fld26_0 b_1 0 ?_
  refine rop_loc one24 hL_1 0 rfl 0 (v := (Sl.v g0_1)) rfl ?_
  obtain ⟨hi_2, H⟩ := H
  refine pop_index sli24 siz29 .i64 g0_1 p2_1 hi_2 ?_
  obtain ⟨t18_1, hc_3, H⟩ := H
  refine rop_one one29 (Sl.v t18_1) hc_3 ?_
  obtain ⟨hi_3, H⟩ := H
  refine pop_index sli29 siz3 .i64 rotors1_1 p2_1 hi_3 ?_
  obtain ⟨t22_1, hc_2, H⟩ := H
  refine rop_one one3 (VI t22_1) hc_2 ?_
  obtain ⟨hi_4, H⟩ := H
  refine pop_index sli29 siz3 .i64 t18_1 t22_1 hi_4 ?_
  obtain ⟨t24_1, hc_1, H⟩ := H
  refine rop_one one3 (VI t24_1) hc_1 ?_
  exact H
def u127 (P : Program) (s0_1 : Sl) (v1_1 : Int) (h : Heap) (K : Value → Heap → Prop) : Prop :=
  ∃ J_1 : Nat → Int → Heap → Prop, (∃ n0 : Nat, J_1 n0 0 h) ∧
  ∀ (n_1 : Nat) (t8_1 : Int) (h_1 : Heap), J_1 n_1 t8_1 h_1 → Vars h_1 [] →
  ((decide (t8_1 < (s0_1.n : Int))) = true →
  InB s0_1 t8_1 ∧
  ∃ t15_1 : Int, hcell h_1 (Sl.at s0_1 t8_1 1) = some (VI t15_1) ∧
  ((decide (v1_1 = t15_1)) = true →
  K (VI t8_1) h_1) ∧
  ((decide (v1_1 = t15_1)) = false →
  ∃ m : Nat, m < n_1 ∧ J_1 m (w64 (t8_1 + 1)) h_1)) ∧
  ((decide (t8_1 < (s0_1.n : Int))) = false →
  K (VI (-1)) h_1)
theorem v127 (s0_1 : Sl) (v1_1 : Int) (h : Heap) (K : Value → Heap → Prop) (H : u127 Tryz.prog s0_1 v1_1 h K) : callM Tryz.prog 127 #[(Sl.v s0_1), (VI v1_1)] h K := by
  refine c127 (Sl.v s0_1) (VI v1_1) h K ?_
  unfold u127 at H
  unfold t127
  have hL : Vars h [] := .nil
  refine pop_len s0_1 _ _ sli29 ?_
  obtain ⟨J_1, ⟨n_2, h0_1⟩, HB_1⟩ := H
  refine loop_intro (J := fun (n : Nat) (vs : List Value) (h' : Heap) => ∃ t8_1 : Int, vs = [(VI t8_1)] ∧ J_1 n t8_1 h' ∧ Vars h' []) n_2 ⟨0, rfl, h0_1, hL⟩ ?_
  intro I_1 mu_1 hI_1 junk_1 tv_1 h_1 hi_1
  obtain ⟨n_1, ⟨t8_1, hv, hJ_1, hL_1⟩, hn_1⟩ := hI_1 _ _ hi_1
  cases hv
  have H := HB_1 n_1 t8_1 h_1 hJ_1 hL_1
  refine pop_lss .i64 t8_1 (s0_1.n : Int) ?_
  refine condM_b (fun hb_1 => ?_) (fun hb_1 => ?_)
  rotate_left
  ·have H := H.2 hb_1
   exact H
  have H := H.1 hb_1
  obtain ⟨hi_2, H⟩ := H
  refine pop_index sli29 siz3 .i64 s0_1 t8_1 hi_2 ?_
  obtain ⟨t15_1, hc_1, H⟩ := H
  refine rop_one one3 (VI t15_1) hc_1 ?_
  refine pop_ieq .i64 _ _ v1_1 t15_1 ?_
  refine condM_b (fun hb_2 => ?_) (fun hb_2 => ?_)
  ·have H := H.1 hb_2
   exact H
  have H := H.2 hb_2
  refine pop_add .i64 t8_1 1 ?_
  obtain ⟨m_1, hm_1, H⟩ := H
  exact hn_1 _ _ ⟨m_1, hm_1, (w64 (t8_1 + 1)), rfl, H, hL_1⟩
def u131 (P : Program) (b_1 : Nat) (c0_1 : Sl) (c0_2 : Int) (c0_3 : Int) (h : Heap) (K : Value → Heap → Prop) : Prop :=
  ∀ (b_2 : Nat) (h_1 : Heap), h.size ≤ b_2 → Fr (In []) h h_1 → Vars h_1 [(b_2, [(Sl.v nilSl)]), (b_1, [(Sl.v c0_1), (VI c0_2), (Value.int .u64 c0_3)])] →
  callM P 149 #[(VP b_1 0), (VI 6)] h_1 fun rv_1 h_2 => ∃ x_1 : Sl, ∃ x_2 : Int, ∃ x_3 : Int, ∃ t5_1 : Sl, rv_1 = (Value.agg #[(Sl.v t5_1)]) ∧ Vars h_2 [(b_2, [(Sl.v nilSl)]), (b_1, [(Sl.v x_1), (VI x_2), (Value.int .u64 x_3)])] ∧
  ∀ (b_3 : Nat) (h_4 : Heap), h_2.size ≤ b_3 → Fr (In []) h_2 h_4 → Vars h_4 [(b_3, [(Sl.v t5_1)]), (b_2, [(Sl.v nilSl)]), (b_1, [(Sl.v x_1), (VI x_2), (Value.int .u64 x_3)])] →
  callM P 52 #[(VP b_1 0), (VI 16)] h_4 fun rv_2 h_5 => ∃ x_4 : Sl, ∃ x_5 : Int, ∃ x_6 : Int, ∃ t7_1 : Int, rv_2 = (VI t7_1) ∧ Vars h_5 [(b_3, [(Sl.v t5_1)]), (b_2, [(Sl.v nilSl)]), (b_1, [(Sl.v x_4), (VI x_5), (Value.int .u64 x_6)])] ∧
  ((decide (t7_1 = 0)) = true →
  InB t5_1 0 ∧
  ∃ t15_1 : Sl, hcell h_5 (Sl.at t5_1 0 1) = some (Sl.v t15_1) ∧
  eop P (Instr.buildSlice 29 3 #[(0, (Value.int IntKind.i64 (-1))), (1, (VI (t5_1.n : Int))), (2, (Value.int IntKind.i64 4611686018427387904))]) h_5 fun rv_3 h_6 => ∃ t20_1 : Sl, rv_3 = (Sl.v t20_1) ∧ Vars h_6 [(b_3, [(Sl.v t5_1)]), (b_2, [(Sl.v nilSl)]), (b_1, [(Sl.v x_4), (VI x_5), (Value.int .u64 x_6)])] ∧
  hcell h_6 (Sl.at t5_1 0 1) = some (Sl.v t15_1) ∧
  callM P 53 #[(VP b_1 0), (Sl.v t20_1)] h_6 fun rv_4 h_7 => ∃ x_7 : Sl, ∃ x_8 : Int, ∃ x_9 : Int, ∃ t21_1 : Int, rv_4 = (VI t21_1) ∧ Vars h_7 [(b_3, [(Sl.v t5_1)]), (b_2, [(Sl.v nilSl)]), (b_1, [(Sl.v x_7), (VI x_8), (Value.int .u64 x_9)])] ∧
  hcell h_7 (Sl.at t5_1 0 1) = some (Sl.v t15_1) ∧
  eop P (Instr.buildSlice 29 1 #[(0, (VI t21_1))]) h_7 fun rv_5 h_8 => ∃ t22_1 : Sl, rv_5 = (Sl.v t22_1) ∧ Vars h_8 [(b_3, [(Sl.v t5_1)]), (b_2, [(Sl.v nilSl)]), (b_1, [(Sl.v x_7), (VI x_8), (Value.int .u64 x_9)])] ∧
  hcell h_8 (Sl.at t5_1 0 1) = some (Sl.v t15_1) ∧
  eop P (appS 29 29 29 (Sl.v t15_1) (Sl.v t22_1)) h_8 fun rv_6 h_9 => ∃ t23_1 : Sl, rv_6 = (Sl.v t23_1) ∧ Vars h_9 [(b_3, [(Sl.v t5_1)]), (b_2, [(Sl.v nilSl)]), (b_1, [(Sl.v x_7), (VI x_8), (Value.int .u64 x_9)])] ∧
  InB t5_1 0 ∧
  Writable h_9 (Sl.at t5_1 0 1) ∧ Vars (hset h_9 (Sl.at t5_1 0 1) (Sl.v t23_1)) [(b_3, [(Sl.v t5_1)]), (b_2, [(Sl.v nilSl)]), (b_1, [(Sl.v x_7), (VI x_8), (Value.int .u64 x_9)])] ∧
  ∀ h_10 : Heap, h_10 = hset h_9 (Sl.at t5_1 0 1) (Sl.v t23_1) → Vars h_10 [(b_3, [(Sl.v t5_1)]), (b_2, [(Sl.v nilSl)]), (b_1, [(Sl.v x_7), (VI x_8), (Value.int .u64 x_9)])] →
  ∀ (h_11 : Heap), Fr (In [b_2]) h_10 h_11 → Vars h_11 [(b_3, [(Sl.v t5_1)]), (b_2, [(Sl.v t5_1)]), (b_1, [(Sl.v x_7), (VI x_8), (Value.int .u64 x_9)])] →
  K (Value.agg #[(Sl.v t5_1)]) h_11) ∧
  ((decide (t7_1 = 0)) = false →
  ((decide (t7_1 = 1)) = true →
  callM P 52 #[(VP b_1 0), (VI 2)] h_5 fun rv_7 h_12 => ∃ x_10 : Sl, ∃ x_11 : Int, ∃ x_12 : Int, ∃ t30_1 : Int, rv_7 = (VI t30_1) ∧ Vars h_12 [(b_3, [(Sl.v t5_1)]), (b_2, [(Sl.v nilSl)]), (b_1, [(Sl.v x_10), (VI x_11), (Value.int .u64 x_12)])] ∧
  eop P (Instr.makeSlice 29 (VI (w64 (5 + t30_1))) (VI (w64 (5 + t30_1)))) h_12 fun rv_8 h_13 => ∃ t32_1 : Sl, rv_8 = (Sl.v t32_1) ∧ Vars h_13 [(b_3, [(Sl.v t5_1)]), (b_2, [(Sl.v nilSl)]), (b_1, [(Sl.v x_10), (VI x_11), (Value.int .u64 x_12)])] ∧
  InB t5_1 0 ∧
  Writable h_13 (Sl.at t5_1 0 1) ∧ Vars (hset h_13 (Sl.at t5_1 0 1) (Sl.v t32_1)) [(b_3, [(Sl.v t5_1)]), (b_2, [(Sl.v nilSl)]), (b_1, [(Sl.v x_10), (VI x_11), (Value.int .u64 x_12)])] ∧
  ∀ h_14 : Heap, h_14 = hset h_13 (Sl.at t5_1 0 1) (Sl.v t32_1) → Vars h_14 [(b_3, [(Sl.v t5_1)]), (b_2, [(Sl.v nilSl)]), (b_1, [(Sl.v x_10), (VI x_11), (Value.int .u64 x_12)])] →
  ∀ (h_15 : Heap), Fr (In [b_2]) h_14 h_15 → Vars h_15 [(b_3, [(Sl.v t5_1)]), (b_2, [(Sl.v t5_1)]), (b_1, [(Sl.v x_10), (VI x_11), (Value.int .u64 x_12)])] →
  K (Value.agg #[(Sl.v t5_1)]) h_15) ∧
  ((decide (t7_1 = 1)) = false →
  ((decide (t7_1 = 2)) = true →
  ∃ J_1 : Nat → Sl → Sl → Int → Int → Heap → Prop, (∃ n0 : Nat, J_1 n0 t5_1 x_4 x_5 x_6 h_5) ∧
  ∀ (n_1 : Nat) (x_13 : Sl) (x_14 : Sl) (x_15 : Int) (x_16 : Int) (h_16 : Heap), J_1 n_1 x_13 x_14 x_15 x_16 h_16 → Vars h_16 [(b_3, [(Sl.v x_13)]), (b_2, [(Sl.v nilSl)]), (b_1, [(Sl.v x_14), (VI x_15), (Value.int .u64 x_16)])] →
  callM P 52 #[(VP b_1 0), (VI 2)] h_16 fun rv_9 h_17 => ∃ x_17 : Sl, ∃ x_18 : Int, ∃ x_19 : Int, ∃ t40_1 : Int, rv_9 = (VI t40_1) ∧ Vars h_17 [(b_3, [(Sl.v x_13)]), (b_2, [(Sl.v nilSl)]), (b_1, [(Sl.v x_17), (VI x_18), (Value.int .u64 x_19)])] ∧
  ((decide ((x_13.n : Int) < (w64 (8 + t40_1)))) = true →
  eop P (Instr.buildSlice 29 1 #[(0, (Value.int IntKind.i64 0))]) h_17 fun rv_10 h_18 => ∃ t45_1 : Sl, rv_10 = (Sl.v t45_1) ∧ Vars h_18 [(b_3, [(Sl.v x_13)]), (b_2, [(Sl.v nilSl)]), (b_1, [(Sl.v x_17), (VI x_18), (Value.int .u64 x_19)])] ∧
  eop P (Instr.buildSlice 24 1 #[(0, (Sl.v t45_1))]) h_18 fun rv_11 h_19 => ∃ t46_1 : Sl, rv_11 = (Sl.v t46_1) ∧ Vars h_19 [(b_3, [(Sl.v x_13)]), (b_2, [(Sl.v nilSl)]), (b_1, [(Sl.v x_17), (VI x_18), (Value.int .u64 x_19)])] ∧
  eop P (appS 24 24 24 (Sl.v x_13) (Sl.v t46_1)) h_19 fun rv_12 h_20 => ∃ t47_1 : Sl, rv_12 = (Sl.v t47_1) ∧ Vars h_20 [(b_3, [(Sl.v x_13)]), (b_2, [(Sl.v nilSl)]), (b_1, [(Sl.v x_17), (VI x_18), (Value.int .u64 x_19)])] ∧
  ∀ (h_21 : Heap), Fr (In [b_3]) h_20 h_21 → Vars h_21 [(b_3, [(Sl.v t47_1)]), (b_2, [(Sl.v nilSl)]), (b_1, [(Sl.v x_17), (VI x_18), (Value.int .u64 x_19)])] →
  ∃ m : Nat, m < n_1 ∧ J_1 m t47_1 x_17 x_18 x_19 h_21) ∧
  ((decide ((x_13.n : Int) < (w64 (8 + t40_1)))) = false →
  ∀ (h_22 : Heap), Fr (In [b_2]) h_17 h_22 → Vars h_22 [(b_3, [(Sl.v x_13)]), (b_2, [(Sl.v x_13)]), (b_1, [(Sl.v x_17), (VI x_18), (Value.int .u64 x_19)])] →
  K (Value.agg #[(Sl.v x_13)]) h_22)) ∧
  ((decide (t7_1 = 2)) = false →
  ((decide (t7_1 = 3)) = true →
  ∀ (h_24 : Heap), Fr (In [b_2, b_3]) h_5 h_24 → Vars h_24 [(b_3, [(Sl.v nilSl)]), (b_2, [(Sl.v nilSl)]), (b_1, [(Sl.v x_4), (VI x_5), (Value.int .u64 x_6)])] →
  K (Value.agg #[(Sl.v nilSl)]) h_24) ∧
  ((decide (t7_1 = 3)) = false →
  ∀ (h_25 : Heap), Fr (In [b_2]) h_5 h_25 → Vars h_25 [(b_3, [(Sl.v t5_1)]), (b_2, [(Sl.v t5_1)]), (b_1, [(Sl.v x_4), (VI x_5), (Value.int .u64 x_6)])] →
  K (Value.agg #[(Sl.v t5_1)]) h_25))))
theorem v131 (b_1 : Nat) (c0_1 : Sl) (c0_2 : Int) (c0_3 : Int) (h : Heap) (K : Value → Heap → Prop) (hL : Vars h [(b_1, [(Sl.v c0_1), (VI c0_2), (Value.int .u64 c0_3)])]) (H : u131 Tryz.prog b_1 c0_1 c0_2 c0_3 h K) : callM Tryz.prog 131 #[(VP b_1 0)] h K := by
  refine c131 (VP b_1 0) h K ?_
  unfold u131 at H
  unfold t131
  refine eop_alloc 26 zer26 rfl hL (fun b_2 h_1 hb_1 hf_1 hL_1 => ?_)
  have H := H b_2 h_1 (Nat.le_trans (Fr.size (Fr.r (In []) _)) hb_1) (Fr.no' (Fr.r (In []) _) hf_1) hL_1
  refine H.mono fun rv_1 h_2 H => ?_
  obtain ⟨x_1, x_2, x_3, t5_1, rfl, hL_2, H⟩ := H
  refine eop_alloc 26 zer26 rfl hL_2 (fun b_3 h_3 hb_2 hf_2 hL_3 => ?_)
  refine uop_loc siz26 hL_3 0 rfl 0 [(Sl.v t5_1)] rfl rfl rfl (Nat.le_of_ble_eq_true rfl) (L' := [(b_3, [(Sl.v t5_1)]), (b_2, [(Sl.v nilSl)]), (b_1, [(Sl.v x_1), (VI x_2), (Value.int .u64 x_3)])]) rfl (fun h_4 hf_3 hL_4 => ?_)
  have H := H b_3 h_4 (Nat.le_trans (Fr.size (Fr.r (In []) _)) hb_2) (Fr.new (Fr.no' (Fr.r (In []) _) hf_2) (Nat.le_trans (Fr.size (Fr.r (In []) _)) hb_2) hf_3) hL_4
  refine H.mono fun rv_2 h_5 H => ?_
  obtain ⟨x_4, x_5, x_6, t7_1, rfl, hL_5, H⟩ := H
  refine pop_ieq .i64 _ _ t7_1 0 ?_
  refine condM_b (fun hb_3 => ?_) (fun hb_3 => ?_)
  ·have H := H.1 hb_3
   refine pop_field 0 fld26_0 b_3 0 ?_
   refine rop_loc one24 hL_5 0 rfl 0 (v := (Sl.v t5_1)) rfl ?_
   refine pop_field 0 fld26_0 b_3 0 ?_
   refine rop_loc one24 hL_5 0 rfl 0 (v := (Sl.v t5_1)) rfl ?_
   obtain ⟨hi_1, H⟩ := H
   refine pop_index sli24 siz29 .i64 t5_1 0 hi_1 ?_
   obtain ⟨t15_1, hc_4, H⟩ := H
   refine rop_one one29 (Sl.v t15_1) hc_4 ?_
   refine pop_field 0 fld26_0 b_3 0 ?_
   refine rop_loc one24 hL_5 0 rfl 0 (v := (Sl.v t5_1)) rfl ?_
   refine pop_len t5_1 _ _ sli24 ?_
   refine H.mono fun rv_3 h_6 H => ?_
   obtain ⟨t20_1, rfl, hL_6, H⟩ := H
   refine ⟨?_, ?_⟩
   ·exact still_loc one24 hL_6 0 rfl 0 (v := (Sl.v t5_1)) rfl
   refine ⟨?_, ?_⟩
   ·exact still_one one29 H.1
   obtain ⟨hc_1, H⟩ := H
   refine ⟨?_, ?_⟩
   ·exact still_loc one24 hL_6 0 rfl 0 (v := (Sl.v t5_1)) rfl
   refine ⟨?_, ?_⟩
   ·exact still_loc one24 hL_6 0 rfl 0 (v := (Sl.v t5_1)) rfl
   refine H.mono fun rv_4 h_7 H => ?_
   obtain ⟨x_7, x_8, x_9, t21_1, rfl, hL_7, H⟩ := H
   refine ⟨?_, ?_⟩
   ·exact still_loc one24 hL_7 0 rfl 0 (v := (Sl.v t5_1)) rfl
   refine ⟨?_, ?_⟩
   ·exact still_one one29 H.1
   obtain ⟨hc_2, H⟩ := H
   refine ⟨?_, ?_⟩
   ·exact still_loc one24 hL_7 0 rfl 0 (v := (Sl.v t5_1)) rfl
   refine ⟨?_, ?_⟩
   ·exact still_loc one24 hL_7 0 rfl 0 (v := (Sl.v t5_1)) rfl
   refine H.mono fun rv_5 h_8 H => ?_
   obtain ⟨t22_1, rfl, hL_8, H⟩ := H
   refine ⟨?_, ?_⟩
   ·exact still_loc one24 hL_8 0 rfl 0 (v := (Sl.v t5_1)) rfl
   refine ⟨?_, ?_⟩
   ·exact still_one one29 H.1
   obtain ⟨hc_3, H⟩ := H
   refine ⟨?_, ?_⟩
   ·exact still_loc one24 hL_8 0 rfl 0 (v := (Sl.v t5_1)) rfl
   refine ⟨?_, ?_⟩
   ·exact still_loc one24 hL_8 0 rfl 0 (v := (Sl.v t5_1)) rfl
   refine H.mono fun rv_6 h_9 H => ?_
   obtain ⟨t23_1, rfl, hL_9, H⟩ := H
   refine ⟨?_, ?_⟩
   ·exact still_loc one24 hL_9 0 rfl 0 (v := (Sl.v t5_1)) rfl
   refine ⟨?_, ?_⟩
   ·exact still_loc one24 hL_9 0 rfl 0 (v := (Sl.v t5_1)) rfl
   refine ⟨?_, ?_⟩
   ·exact still_loc one24 hL_9 0 rfl 0 (v := (Sl.v t5_1)) rfl
   obtain ⟨hi_2, H⟩ := H
   refine pop_index sli24 siz29 .i64 t5_1 0 hi_2 ?_
   obtain ⟨hw_1, hL_10, H⟩ := H
   refine uop_cell (v := (Sl.v t23_1)) siz29 hw_1 rfl (fun h_10 he_1 => ?_)
   rw [← he_1] at hL_10
   have H := H h_10 he_1 hL_10
   refine rop_locA agg26 hL_10 0 rfl 0 (vs := [(Sl.v t5_1)]) rfl rfl ?_
   refine uop_loc siz26 hL_10 1 rfl 0 [(Sl.v t5_1)] rfl rfl rfl (Nat.le_of_ble_eq_true rfl) (L' := [(b_3, [(Sl.v t5_1)]), (b_2, [(Sl.v t5_1)]), (b_1, [(Sl.v x_7), (VI x_8), (Value.int .u64 x_9)])]) rfl (fun h_11 hf_4 hL_11 => ?_)
   refine rop_locA agg26 hL_11 1 rfl 0 (vs := [(Sl.v t5_1)]) rfl rfl ?_
   have H := H  h_11  (Fr.old (Fr.r (In []) _) hf_4) hL_11
   exact H
  have H := H.2 hb_3
  refine pop_ieq .i64 _ _ t7_1 1 ?_
  refine condM_b (fun hb_4 => ?_) (fun hb_4 => ?_)
  ·have H := H.1 hb_4
   refine pop_field 0 fld26_0 b_3 0 ?_
   refine rop_loc one24 hL_5 0 rfl 0 (v := (Sl.v t5_1)) rfl ?_
   refine H.mono fun rv_7 h_12 H => ?_
   obtain ⟨x_10, x_11, x_12, t30_1, rfl, hL_12, H⟩ := H
   refine ⟨?_, ?_⟩
   ·exact still_loc one24 hL_12 0 rfl 0 (v := (Sl.v t5_1)) rfl
   refine pop_add .i64 5 t30_1 ?_
   refine H.mono fun rv_8 h_13 H => ?_
   obtain ⟨t32_1, rfl, hL_13, H⟩ := H
   refine ⟨?_, ?_⟩
   ·exact still_loc one24 hL_13 0 rfl 0 (v := (Sl.v t5_1)) rfl
   obtain ⟨hi_3, H⟩ := H
   refine pop_index sli24 siz29 .i64 t5_1 0 hi_3 ?_
   obtain ⟨hw_2, hL_14, H⟩ := H
   refine uop_cell (v := (Sl.v t32_1)) siz29 hw_2 rfl (fun h_14 he_2 => ?_)
   rw [← he_2] at hL_14
   have H := H h_14 he_2 hL_14
   refine rop_locA agg26 hL_14 0 rfl 0 (vs := [(Sl.v t5_1)]) rfl rfl ?_
   refine uop_loc siz26 hL_14 1 rfl 0 [(Sl.v t5_1)] rfl rfl rfl (Nat.le_of_ble_eq_true rfl) (L' := [(b_3, [(Sl.v t5_1)]), (b_2, [(Sl.v t5_1)]), (b_1, [(Sl.v x_10), (VI x_11), (Value.int .u64 x_12)])]) rfl (fun h_15 hf_5 hL_15 => ?_)
   refine rop_locA agg26 hL_15 1 rfl 0 (vs := [(Sl.v t5_1)]) rfl rfl ?_
   have H := H  h_15  (Fr.old (Fr.r (In []) _) hf_5) hL_15
   exact H
  have H := H.2 hb_4
  refine pop_ieq .i64 _ _ t7_1 2 ?_
  refine condM_b (fun hb_5 => ?_) (fun hb_5 => ?_)
  rotate_left
  ·have H := H.2 hb_5
   refine pop_ieq .i64 _ _ t7_1 3 ?_
   refine condM_b (fun hb_7 => ?_) (fun hb_7 => ?_)
   rotate_left
   ·have H := H.2 hb_7
    refine rop_locA agg26 hL_5 0 rfl 0 (vs := [(Sl.v t5_1)]) rfl rfl ?_
    refine uop_loc siz26 hL_5 1 rfl 0 [(Sl.v t5_1)] rfl rfl rfl (Nat.le_of_ble_eq_true rfl) (L' := [(b_3, [(Sl.v t5_1)]), (b_2, [(Sl.v t5_1)]), (b_1, [(Sl.v x_4), (VI x_5), (Value.int .u64 x_6)])]) rfl (fun h_25 hf_10 hL_25 => ?_)
    refine rop_locA agg26 hL_25 1 rfl 0 (vs := [(Sl.v t5_1)]) rfl rfl ?_
    have H := H  h_25  (Fr.old (Fr.r (In []) _) hf_10) hL_25
    exact H
   have H := H.1 hb_7
   refine pop.mk' (v := (Value.agg #[(Sl.v nilSl)])) (fun w => by kernel_rfl) ?_
   refine uop_loc siz26 hL_5 0 rfl 0 [(Sl.v nilSl)] rfl rfl rfl (Nat.le_of_ble_eq_true rfl) (L' := [(b_3, [(Sl.v nilSl)]), (b_2, [(Sl.v nilSl)]), (b_1, [(Sl.v x_4), (VI x_5), (Value.int .u64 x_6)])]) rfl (fun h_23 hf_8 hL_23 => ?_)
   refine rop_locA agg26 hL_23 0 rfl 0 (vs := [(Sl.v nilSl)]) rfl rfl ?_
   refine uop_loc siz26 hL_23 1 rfl 0 [(Sl.v nilSl)] rfl rfl rfl (Nat.le_of_ble_eq_true rfl) (L' := [(b_3, [(Sl.v nilSl)]), (b_2, [(Sl.v nilSl)]), (b_1, [(Sl.v x_4), (VI x_5), (Value.int .u64 x_6)])]) rfl (fun h_24 hf_9 hL_24 => ?_)
   refine rop_locA agg26 hL_24 1 rfl 0 (vs := [(Sl.v nilSl)]) rfl rfl ?_
   have H := H  h_24  (Fr.old (Fr.old (Fr.r (In []) _) hf_8) hf_9) hL_24
   exact H
  have H := H.1 hb_5
  obtain ⟨J_1, ⟨n_2, h0_1⟩, HB_1⟩ := H
  refine loop_intro (J := fun (n : Nat) (vs : List Value) (h' : Heap) => ∃ x_13 : Sl, ∃ x_14 : Sl, ∃ x_15 : Int, ∃ x_16 : Int, vs = [] ∧ J_1 n x_13 x_14 x_15 x_16 h' ∧ Vars h' [(b_3, [(Sl.v x_13)]), (b_2, [(Sl.v nilSl)]), (b_1, [(Sl.v x_14), (VI x_15), (Value.int .u64 x_16)])]) n_2 ⟨t5_1, x_4, x_5, x_6, rfl, h0_1, hL_5⟩ ?_
  intro I_1 mu_1 hI_1 junk_1  h_16 hi_4
  obtain ⟨n_1, ⟨x_13, x_14, x_15, x_16, hv, hJ_1, hL_16⟩, hn_1⟩ := hI_1 _ _ hi_4
  cases hv
  have H := HB_1 n_1 x_13 x_14 x_15 x_16 h_16 hJ_1 hL_16
  refine pop_field 0 fld26_0 b_3 0 ?_
  refine rop_loc one24 hL_16 0 rfl 0 (v := (Sl.v x_13)) rfl ?_
  refine pop_len x_13 _ _ sli24 ?_
  refine H.mono fun rv_9 h_17 H => ?_
  obtain ⟨x_17, x_18, x_19, t40_1, rfl, hL_17, H⟩ := H
  refine ⟨?_, ?_⟩
  ·exact still_loc one24 hL_17 0 rfl 0 (v := (Sl.v x_13)) rfl
  refine pop_add .i64 8 t40_1 ?_
  refine pop_lss .i64 (x_13.n : Int) (w64 (8 + t40_1)) ?_
  refine condM_b (fun hb_6 => ?_) (fun hb_6 => ?_)
  rotate_left
  ·have H := H.2 hb_6
   refine rop_locA agg26 hL_17 0 rfl 0 (vs := [(Sl.v x_13)]) rfl rfl ?_
   refine uop_loc siz26 hL_17 1 rfl 0 [(Sl.v x_13)] rfl rfl rfl (Nat.le_of_ble_eq_true rfl) (L' := [(b_3, [(Sl.v x_13)]), (b_2, [(Sl.v x_13)]), (b_1, [(Sl.v x_17), (VI x_18), (Value.int .u64 x_19)])]) rfl (fun h_22 hf_7 hL_22 => ?_)
   refine rop_locA agg26 hL_22 1 rfl 0 (vs := [(Sl.v x_13)]) rfl rfl ?_
   have H := H  h_22  (Fr.old (Fr.r (In []) _) hf_7) hL_22
   exact H
  have H := H.1 hb_6
  refine pop_field 0 fld26_0 b_3 0 ?_
  refine rop_loc one24 hL_17 0 rfl 0 (v := (Sl.v x_13)) rfl ?_
  refine H.mono fun rv_10 h_18 H => ?_
  obtain ⟨t45_1, rfl, hL_18, H⟩ := H
  refine H.mono fun rv_11 h_19 H => ?_
  obtain ⟨t46_1, rfl, hL_19, H⟩ := H
  refine H.mono fun rv_12 h_20 H => ?_
  obtain ⟨t47_1, rfl, hL_20, H⟩ := H
  refine pop_field 0 fld26_0 b_3 0 ?_
  refine uop_loc siz24 hL_20 0 rfl 0 [(Sl.v t47_1)] rfl rfl rfl (Nat.le_of_ble_eq_true rfl) (L' := [(b_3, [(Sl.v t47_1)]), (b_2, [(Sl.v nilSl)]), (b_1, [(Sl.v x_17), (VI x_18), (Value.int .u64 x_19)])]) rfl (fun h_21 hf_6 hL_21 => ?_)
  have H := H  h_21  (Fr.old (Fr.r (In []) _) hf_6) hL_21
  obtain ⟨m_1, hm_1, H⟩ := H
  exact hn_1 _ _ ⟨m_1, hm_1, t47_1, x_17, x_18, x_19, rfl, H, hL_21⟩
def u134 (P : Program) (p0_1 : Int) (b_1 : Nat) (t1_1 : Sl) (h : Heap) (K : Value → Heap → Prop) : Prop :=
  callM P 84 #[(VI p0_1), (VI 0), (VI (w64 ((t1_1.n : Int) - 1)))] h fun rv_1 h_1 => ∃ t9_1 : Bool, rv_1 = (VB t9_1) ∧ Vars h_1 [(b_1, [(Sl.v t1_1)])] ∧
  K (VB (!t9_1)) h_1
theorem v134 (p0_1 : Int) (b_1 : Nat) (t1_1 : Sl) (h : Heap) (K : Value → Heap → Prop) (hL : Vars h [(b_1, [(Sl.v t1_1)])]) (H : u134 Tryz.prog p0_1 b_1 t1_1 h K) : callM Tryz.prog 134 #[(VI p0_1), (VP b_1 0)] h K := by
  refine c134 (VI p0_1) (VP b_1 0) h K ?_
  unfold u134 at H
  unfold t134
  refine pop_field 0 fld26_0 b_1 0 ?_
  refine rop_loc one24 hL 0 rfl 0 (v := (Sl.v t1_1)) rfl ?_
  refine pop_len t1_1 _ _ sli24 ?_
  refine pop_sub .i64 (t1_1.n : Int) 1 ?_
  refine H.mono fun rv_1 h_1 H => ?_
  obtain ⟨t9_1, rfl, hL_1, H⟩ := H
  refine pop_not t9_1 ?_
  exact H
def u139 (P : Program) (b_1 : Nat) (c0_1 : Sl) (c0_2 : Int) (c0_3 : Int) (h : Heap) (K : Value → Heap → Prop) : Prop :=
  ∀ (b_2 : Nat) (h_1 : Heap), h.size ≤ b_2 → Fr (In []) h h_1 → Vars h_1 [(b_2, [(Sl.v nilSl)]), (b_1, [(Sl.v c0_1), (VI c0_2), (Value.int .u64 c0_3)])] →
  callM P 67 #[(VP b_1 0), (VI 6)] h_1 fun rv_1 h_2 => ∃ x_1 : Sl, ∃ x_2 : Int, ∃ x_3 : Int, ∃ t10_1 : Bool, rv_1 = (VB t10_1) ∧ Vars h_2 [(b_2, [(Sl.v nilSl)]), (b_1, [(Sl.v x_1), (VI x_2), (Value.int .u64 x_3)])] ∧
  (t10_1 = true →
  callM P 131 #[(VP b_1 0)] h_2 fun rv_2 h_3 => ∃ x_4 : Sl, ∃ x_5 : Int, ∃ x_6 : Int, ∃ t12_1 : Sl, rv_2 = (Value.agg #[(Sl.v t12_1)]) ∧ Vars h_3 [(b_2, [(Sl.v nilSl)]), (b_1, [(Sl.v x_4), (VI x_5), (Value.int .u64 x_6)])] ∧
  ∀ (h_4 : Heap), Fr (In [b_2]) h_3 h_4 → Vars h_4 [(b_2, [(Sl.v t12_1)]), (b_1, [(Sl.v x_4), (VI x_5), (Value.int .u64 x_6)])] →
  K (Value.agg #[(Sl.v t12_1)]) h_4) ∧
  (t10_1 = false →
  callM P 52 #[(VP b_1 0), (VI 5)] h_2 fun rv_3 h_5 => ∃ x_7 : Sl, ∃ x_8 : Int, ∃ x_9 : Int, ∃ t14_1 : Int, rv_3 = (VI t14_1) ∧ Vars h_5 [(b_2, [(Sl.v nilSl)]), (b_1, [(Sl.v x_7), (VI x_8), (Value.int .u64 x_9)])] ∧
  callM P 67 #[(VP b_1 0), (VI 2)] h_5 fun rv_4 h_6 => ∃ x_10 : Sl, ∃ x_11 : Int, ∃ x_12 : Int, ∃ t18_1 : Bool, rv_4 = (VB t18_1) ∧ Vars h_6 [(b_2, [(Sl.v nilSl)]), (b_1, [(Sl.v x_10), (VI x_11), (Value.int .u64 x_12)])] ∧
  callM P 153 #[(VI (w64 (1 + t14_1))), (VB t18_1)] h_6 fun rv_5 h_7 => ∃ t19_1 : Sl, rv_5 = (Value.agg #[(Sl.v t19_1)]) ∧ Vars h_7 [(b_2, [(Sl.v nilSl)]), (b_1, [(Sl.v x_10), (VI x_11), (Value.int .u64 x_12)])] ∧
  ∀ (b_3 : Nat) (h_9 : Heap), h_7.size ≤ b_3 → Fr (In []) h_7 h_9 → Vars h_9 [(b_3, [(Sl.v t19_1)]), (b_2, [(Sl.v nilSl)]), (b_1, [(Sl.v x_10), (VI x_11), (Value.int .u64 x_12)])] →
  callM P 52 #[(VP b_1 0), (VI 3)] h_9 fun rv_6 h_10 => ∃ x_13 : Sl, ∃ x_14 : Int, ∃ x_15 : Int, ∃ t21_1 : Int, rv_6 = (VI t21_1) ∧ Vars h_10 [(b_3, [(Sl.v t19_1)]), (b_2, [(Sl.v nilSl)]), (b_1, [(Sl.v x_13), (VI x_14), (Value.int .u64 x_15)])] ∧
  ∃ J_1 : Nat → Int → Sl → Int → Int → Heap → Prop, (∃ n0 : Nat, J_1 n0 t21_1 x_13 x_14 x_15 h_10) ∧
  ∀ (n_1 : Nat) (k5_1 : Int) (x_16 : Sl) (x_17 : Int) (x_18 : Int) (h_11 : Heap), J_1 n_1 k5_1 x_16 x_17 x_18 h_11 → Vars h_11 [(b_3, [(Sl.v t19_1)]), (b_2, [(Sl.v nilSl)]), (b_1, [(Sl.v x_16), (VI x_17), (Value.int .u64 x_18)])] →
  ((decide (0 < k5_1)) = true →
  callM P 66 #[(VP b_1 0), (VI (w64 (1 + t14_1)))] h_11 fun rv_7 h_12 => ∃ x_19 : Sl, ∃ x_20 : Int, ∃ x_21 : Int, ∃ t28_1 : Sl, rv_7 = (Sl.v t28_1) ∧ Vars h_12 [(b_3, [(Sl.v t19_1)]), (b_2, [(Sl.v nilSl)]), (b_1, [(Sl.v x_19), (VI x_20), (Value.int .u64 x_21)])] ∧
  callM P 52 #[(VP b_1 0), (VI (w64 (1 + t14_1)))] h_12 fun rv_8 h_13 => ∃ x_22 : Sl, ∃ x_23 : Int, ∃ x_24 : Int, ∃ t31_1 : Int, rv_8 = (VI t31_1) ∧ Vars h_13 [(b_3, [(Sl.v t19_1)]), (b_2, [(Sl.v nilSl)]), (b_1, [(Sl.v x_22), (VI x_23), (Value.int .u64 x_24)])] ∧
  ∃ J_2 : Nat → Int → Heap → Prop, (∃ n0 : Nat, J_2 n0 0 h_13) ∧
  ∀ (n_2 : Nat) (i8_1 : Int) (h_14 : Heap), J_2 n_2 i8_1 h_14 → Vars h_14 [(b_3, [(Sl.v t19_1)]), (b_2, [(Sl.v nilSl)]), (b_1, [(Sl.v x_22), (VI x_23), (Value.int .u64 x_24)])] →
  ((decide (i8_1 < (w64 (1 + t31_1)))) = true →
  InB t28_1 i8_1 ∧
  ∃ t43_1 : Int, hcell h_14 (Sl.at t28_1 i8_1 1) = some (VI t43_1) ∧
  InB t28_1 i8_1 ∧
  ∃ t49_1 : Int, hcell h_14 (Sl.at t28_1 i8_1 1) = some (VI t49_1) ∧
  InB t19_1 t49_1 ∧
  ∃ t51_1 : Sl, hcell h_14 (Sl.at t19_1 t49_1 1) = some (Sl.v t51_1) ∧
  (w64 (1 + t31_1)) ≠ 0 ∧
  InB t28_1 (Int.tmod (w64 (i8_1 + 1)) (w64 (1 + t31_1))) ∧
  ∃ t58_1 : Int, hcell h_14 (Sl.at t28_1 (Int.tmod (w64 (i8_1 + 1)) (w64 (1 + t31_1))) 1) = some (VI t58_1) ∧
  eop P (Instr.buildSlice 29 1 #[(0, (VI t58_1))]) h_14 fun rv_9 h_15 => ∃ t59_1 : Sl, rv_9 = (Sl.v t59_1) ∧ Vars h_15 [(b_3, [(Sl.v t19_1)]), (b_2, [(Sl.v nilSl)]), (b_1, [(Sl.v x_22), (VI x_23), (Value.int .u64 x_24)])] ∧
  hcell h_15 (Sl.at t19_1 t49_1 1) = some (Sl.v t51_1) ∧
  hcell h_15 (Sl.at t28_1 i8_1 1) = some (VI t49_1) ∧
  hcell h_15 (Sl.at t28_1 i8_1 1) = some (VI t43_1) ∧
  eop P (appS 29 29 29 (Sl.v t51_1) (Sl.v t59_1)) h_15 fun rv_10 h_16 => ∃ t60_1 : Sl, rv_10 = (Sl.v t60_1) ∧ Vars h_16 [(b_3, [(Sl.v t19_1)]), (b_2, [(Sl.v nilSl)]), (b_1, [(Sl.v x_22), (VI x_23), (Value.int .u64 x_24)])] ∧
  hcell h_16 (Sl.at t28_1 i8_1 1) = some (VI t49_1) ∧
  hcell h_16 (Sl.at t28_1 i8_1 1) = some (VI t43_1) ∧
  InB t19_1 t43_1 ∧
  Writable h_16 (Sl.at t19_1 t43_1 1) ∧ Vars (hset h_16 (Sl.at t19_1 t43_1 1) (Sl.v t60_1)) [(b_3, [(Sl.v t19_1)]), (b_2, [(Sl.v nilSl)]), (b_1, [(Sl.v x_22), (VI x_23), (Value.int .u64 x_24)])] ∧
  ∀ h_17 : Heap, h_17 = hset h_16 (Sl.at t19_1 t43_1 1) (Sl.v t60_1) → Vars h_17 [(b_3, [(Sl.v t19_1)]), (b_2, [(Sl.v nilSl)]), (b_1, [(Sl.v x_22), (VI x_23), (Value.int .u64 x_24)])] →
  ∃ m : Nat, m < n_2 ∧ J_2 m (w64 (i8_1 + 1)) h_17) ∧
  ((decide (i8_1 < (w64 (1 + t31_1)))) = false →
  ∃ m : Nat, m < n_1 ∧ J_1 m (w64 (k5_1 - 1)) x_22 x_23 x_24 h_14)) ∧
  ((decide (0 < k5_1)) = false →
  ∀ (h_18 : Heap), Fr (In [b_2]) h_11 h_18 → Vars h_18 [(b_3, [(Sl.v t19_1)]), (b_2, [(Sl.v t19_1)]), (b_1, [(Sl.v x_16), (VI x_17), (Value.int .u64 x_18)])] →
  K (Value.agg #[(Sl.v t19_1)]) h_18))
theorem v139 (b_1 : Nat) (c0_1 : Sl) (c0_2 : Int) (c0_3 : Int) (h : Heap) (K : Value → Heap → Prop) (hL : Vars h [(b_1, [(Sl.v c0_1), (VI c0_2), (Value.int .u64 c0_3)])]) (H : u139 Tryz.prog b_1 c0_1 c0_2 c0_3 h K) : callM Tryz.prog 139 #[(VP b_1 0)] h K := by
  refine c139 (VP b_1 0) h K ?_
  unfold u139 at H
  unfold t139
  refine eop_alloc 26 zer26 rfl hL (fun b_2 h_1 hb_1 hf_1 hL_1 => ?_)
  have H := H b_2 h_1 (Nat.le_trans (Fr.size (Fr.r (In []) _)) hb_1) (Fr.no' (Fr.r (In []) _) hf_1) hL_1
  refine H.mono fun rv_1 h_2 H => ?_
  obtain ⟨x_1, x_2, x_3, t10_1, rfl, hL_2, H⟩ := H
  refine condM_b (fun hb_2 => ?_) (fun hb_2 => ?_)
  ·have H := H.1 hb_2
   refine H.mono fun rv_2 h_3 H => ?_
   obtain ⟨x_4, x_5, x_6, t12_1, rfl, hL_3, H⟩ := H
   refine uop_loc siz26 hL_3 0 rfl 0 [(Sl.v t12_1)] rfl rfl rfl (Nat.le_of_ble_eq_true rfl) (L' := [(b_2, [(Sl.v t12_1)]), (b_1, [(Sl.v x_4), (VI x_5), (Value.int .u64 x_6)])]) rfl (fun h_4 hf_2 hL_4 => ?_)
   refine rop_locA agg26 hL_4 0 rfl 0 (vs := [(Sl.v t12_1)]) rfl rfl ?_
   have H := H  h_4  (Fr.old (Fr.r (In []) _) hf_2) hL_4
   exact H
  have H := H.2 hb_2
  refine H.mono fun rv_3 h_5 H => ?_
  obtain ⟨x_7, x_8, x_9, t14_1, rfl, hL_5, H⟩ := H
  refine pop_add .i64 1 t14_1 ?_
  refine H.mono fun rv_4 h_6 H => ?_
  obtain ⟨x_10, x_11, x_12, t18_1, rfl, hL_6, H⟩ := H
  refine H.mono fun rv_5 h_7 H => ?_
  obtain ⟨t19_1, rfl, hL_7, H⟩ := H
  refine eop_alloc 26 zer26 rfl hL_7 (fun b_3 h_8 hb_3 hf_3 hL_8 => ?_)
  refine uop_loc siz26 hL_8 0 rfl 0 [(Sl.v t19_1)] rfl rfl rfl (Nat.le_of_ble_eq_true rfl) (L' := [(b_3, [(Sl.v t19_1)]), (b_2, [(Sl.v nilSl)]), (b_1, [(Sl.v x_10), (VI x_11), (Value.int .u64 x_12)])]) rfl (fun h_9 hf_4 hL_9 => ?_)
  have H := H b_3 h_9 (Nat.le_trans (Fr.size (Fr.r (In []) _)) hb_3) (Fr.new (Fr.no' (Fr.r (In []) _) hf_3) (Nat.le_trans (Fr.size (Fr.r (In []) _)) hb_3) hf_4) hL_9
  refine H.mono fun rv_6 h_10 H => ?_
  obtain ⟨x_13, x_14, x_15, t21_1, rfl, hL_10, H⟩ := H
  obtain ⟨J_1, ⟨n_4, h0_2⟩, HB_2⟩ := H
  refine loop_intro (J := fun (n : Nat) (vs : List Value) (h' : Heap) => ∃ k5_1 : Int, ∃ x_16 : Sl, ∃ x_17 : Int, ∃ x_18 : Int, vs = [(VI k5_1)] ∧ J_1 n k5_1 x_16 x_17 x_18 h' ∧ Vars h' [(b_3, [(Sl.v t19_1)]), (b_2, [(Sl.v nilSl)]), (b_1, [(Sl.v x_16), (VI x_17), (Value.int .u64 x_18)])]) n_4 ⟨t21_1, x_13, x_14, x_15, rfl, h0_2, hL_10⟩ ?_
  intro I_2 mu_2 hI_2 junk_1 tv_2 h_11 hi_1
  obtain ⟨n_1, ⟨k5_1, x_16, x_17, x_18, hv, hJ_1, hL_11⟩, hn_1⟩ := hI_2 _ _ hi_1
  cases hv
  have H := HB_2 n_1 k5_1 x_16 x_17 x_18 h_11 hJ_1 hL_11
  refine pop_gtr .i64 k5_1 0 ?_
  refine condM_b (fun hb_4 => ?_) (fun hb_4 => ?_)
  rotate_left
  ·have H := H.2 hb_4
   refine rop_locA agg26 hL_11 0 rfl 0 (vs := [(Sl.v t19_1)]) rfl rfl ?_
   refine uop_loc siz26 hL_11 1 rfl 0 [(Sl.v t19_1)] rfl rfl rfl (Nat.le_of_ble_eq_true rfl) (L' := [(b_3, [(Sl.v t19_1)]), (b_2, [(Sl.v t19_1)]), (b_1, [(Sl.v x_16), (VI x_17), (Value.int .u64 x_18)])]) rfl (fun h_18 hf_5 hL_18 => ?_)
   refine rop_locA agg26 hL_18 1 rfl 0 (vs := [(Sl.v t19_1)]) rfl rfl ?_
   have H := H  h_18  (Fr.old (Fr.r (In []) _) hf_5) hL_18
   exact H
  have H := H.1 hb_4
  refine H.mono fun rv_7 h_12 H => ?_
  obtain ⟨x_19, x_20, x_21, t28_1, rfl, hL_12, H⟩ := H
  refine H.mono fun rv_8 h_13 H => ?_
  obtain ⟨x_22, x_23, x_24, t31_1, rfl, hL_13, H⟩ := H
  refine pop_add .i64 1 t31_1 ?_
  obtain ⟨J_2, ⟨n_3, h0_1⟩, HB_1⟩ := H
  refine loop_intro (J := fun (n : Nat) (vs : List Value) (h' : Heap) => ∃ i8_1 : Int, vs = [(VI i8_1)] ∧ J_2 n i8_1 h' ∧ Vars h' [(b_3, [(Sl.v t19_1)]), (b_2, [(Sl.v nilSl)]), (b_1, [(Sl.v x_22), (VI x_23), (Value.int .u64 x_24)])]) n_3 ⟨0, rfl, h0_1, hL_13⟩ ?_
  intro I_1 mu_1 hI_1 junk_2 tv_1 h_14 hi_2
  obtain ⟨n_2, ⟨i8_1, hv, hJ_2, hL_14⟩, hn_2⟩ := hI_1 _ _ hi_2
  cases hv
  have H := HB_1 n_2 i8_1 h_14 hJ_2 hL_14
  refine pop_lss .i64 i8_1 (w64 (1 + t31_1)) ?_
  refine condM_b (fun hb_5 => ?_) (fun hb_5 => ?_)
  rotate_left
  ·have H := H.2 hb_5
   refine pop_sub .i64 k5_1 1 ?_
   obtain ⟨m_2, hm_2, H⟩ := H
   exact hn_1 _ _ ⟨m_2, hm_2, (w64 (k5_1 - 1)), x_22, x_23, x_24, rfl, H, hL_14⟩
  have H := H.1 hb_5
  refine pop_field 0 fld26_0 b_3 0 ?_
  refine rop_loc one24 hL_14 0 rfl 0 (v := (Sl.v t19_1)) rfl ?_
  obtain ⟨hi_3, H⟩ := H
  refine pop_index sli29 siz3 .i64 t28_1 i8_1 hi_3 ?_
  obtain ⟨t43_1, hc_9, H⟩ := H
  refine rop_one one3 (VI t43_1) hc_9 ?_
  refine pop_field 0 fld26_0 b_3 0 ?_
  refine rop_loc one24 hL_14 0 rfl 0 (v := (Sl.v t19_1)) rfl ?_
  obtain ⟨hi_4, H⟩ := H
  refine pop_index sli29 siz3 .i64 t28_1 i8_1 hi_4 ?_
  obtain ⟨t49_1, hc_8, H⟩ := H
  refine rop_one one3 (VI t49_1) hc_8 ?_
  obtain ⟨hi_5, H⟩ := H
  refine pop_index sli24 siz29 .i64 t19_1 t49_1 hi_5 ?_
  obtain ⟨t51_1, hc_7, H⟩ := H
  refine rop_one one29 (Sl.v t51_1) hc_7 ?_
  refine pop_add .i64 i8_1 1 ?_
  obtain ⟨hz_1, H⟩ := H
  refine pop_rem .i64 (w64 (i8_1 + 1)) (w64 (1 + t31_1)) hz_1 ?_
  obtain ⟨hi_6, H⟩ := H
  refine pop_index sli29 siz3 .i64 t28_1 (Int.tmod (w64 (i8_1 + 1)) (w64 (1 + t31_1))) hi_6 ?_
  obtain ⟨t58_1, hc_6, H⟩ := H
  refine rop_one one3 (VI t58_1) hc_6 ?_
  refine H.mono fun rv_9 h_15 H => ?_
  obtain ⟨t59_1, rfl, hL_15, H⟩ := H
  refine ⟨?_, ?_⟩
  ·exact still_one one29 H.1
  obtain ⟨hc_1, H⟩ := H
  refine ⟨?_, ?_⟩
  ·exact still_one one3 H.1
  obtain ⟨hc_2, H⟩ := H
  refine ⟨?_, ?_⟩
  ·exact still_loc one24 hL_15 0 rfl 0 (v := (Sl.v t19_1)) rfl
  refine ⟨?_, ?_⟩
  ·exact still_one one3 H.1
  obtain ⟨hc_3, H⟩ := H
  refine ⟨?_, ?_⟩
  ·exact still_loc one24 hL_15 0 rfl 0 (v := (Sl.v t19_1)) rfl
  refine H.mono fun rv_10 h_16 H => ?_
  obtain ⟨t60_1, rfl, hL_16, H⟩ := H
  refine ⟨?_, ?_⟩
  ·exact still_one one3 H.1
  obtain ⟨hc_4, H⟩ := H
  refine ⟨?_, ?_⟩
  ·exact still_loc one24 hL_16 0 rfl 0 (v := (Sl.v t19_1)) rfl
  refine ⟨?_, ?_⟩
  ·exact still_one one3 H.1
  obtain ⟨hc_5, H⟩ := H
  refine ⟨?_, ?_⟩
  ·exact still_loc one24 hL_16 0 rfl 0 (v := (Sl.v t19_1)) rfl
  obtain ⟨hi_7, H⟩ := H
  refine pop_index sli24 siz29 .i64 t19_1 t43_1 hi_7 ?_
  obtain ⟨hw_1, hL_17, H⟩ := H
  refine uop_cell (v := (Sl.v t60_1)) siz29 hw_1 rfl (fun h_17 he_1 => ?_)
  rw [← he_1] at hL_17
  have H := H h_17 he_1 hL_17
  refine pop_add .i64 i8_1 1 ?_
  obtain ⟨m_1, hm_1, H⟩ := H
  exact hn_2 _ _ ⟨m_1, hm_1, (w64 (i8_1 + 1)), rfl, H, hL_17⟩
def u140 (P : Program) (b_1 : Nat) (c0_1 : Sl) (c0_2 : Int) (c0_3 : Int) (g1_1 : Sl) (h : Heap) (K : Value → Heap → Prop) : Prop :=
  ((decide ((g1_1.n : Int) = 0)) = true →
  ∀ (b_2 : Nat) (h_1 : Heap), h.size ≤ b_2 → Fr (In []) h h_1 → Vars h_1 [(b_2, [(Sl.v g1_1)]), (b_1, [(Sl.v c0_1), (VI c0_2), (Value.int .u64 c0_3)])] →
  eop P (Instr.buildSlice 29 4 #[(0, (Value.int IntKind.i64 (-1))), (1, (Value.int IntKind.i64 0)), (2, (VI (g1_1.n : Int))), (3, (Value.int IntKind.i64 4611686018427387904))]) h_1 fun rv_5 h_6 => ∃ t17_2 : Sl, rv_5 = (Sl.v t17_2) ∧ Vars h_6 [(b_2, [(Sl.v g1_1)]), (b_1, [(Sl.v c0_1), (VI c0_2), (Value.int .u64 c0_3)])] ∧
  callM P 53 #[(VP b_1 0), (Sl.v t17_2)] h_6 fun rv_6 h_7 => ∃ x_10 : Sl, ∃ x_11 : Int, ∃ x_12 : Int, ∃ t18_2 : Int, rv_6 = (VI t18_2) ∧ Vars h_7 [(b_2, [(Sl.v g1_1)]), (b_1, [(Sl.v x_10), (VI x_11), (Value.int .u64 x_12)])] ∧
  K (VI t18_2) h_7) ∧
  ((decide ((g1_1.n : Int) = 0)) = false →
  ∀ (b_2 : Nat) (h_1 : Heap), h.size ≤ b_2 → Fr (In []) h h_1 → Vars h_1 [(b_2, [(Sl.v g1_1)]), (b_1, [(Sl.v c0_1), (VI c0_2), (Value.int .u64 c0_3)])] →
  callM P 67 #[(VP b_1 0), (VI 14)] h_1 fun rv_1 h_2 => ∃ x_1 : Sl, ∃ x_2 : Int, ∃ x_3 : Int, ∃ t11_1 : Bool, rv_1 = (VB t11_1) ∧ Vars h_2 [(b_2, [(Sl.v g1_1)]), (b_1, [(Sl.v x_1), (VI x_2), (Value.int .u64 x_3)])] ∧
  (t11_1 = true →
  eop P (Instr.buildSlice 29 4 #[(0, (Value.int IntKind.i64 (-1))), (1, (Value.int IntKind.i64 0)), (2, (VI (g1_1.n : Int))), (3, (Value.int IntKind.i64 4611686018427387904))]) h_2 fun rv_2 h_3 => ∃ t17_1 : Sl, rv_2 = (Sl.v t17_1) ∧ Vars h_3 [(b_2, [(Sl.v g1_1)]), (b_1, [(Sl.v x_1), (VI x_2), (Value.int .u64 x_3)])] ∧
  callM P 53 #[(VP b_1 0), (Sl.v t17_1)] h_3 fun rv_3 h_4 => ∃ x_4 : Sl, ∃ x_5 : Int, ∃ x_6 : Int, ∃ t18_1 : Int, rv_3 = (VI t18_1) ∧ Vars h_4 [(b_2, [(Sl.v g1_1)]), (b_1, [(Sl.v x_4), (VI x_5), (Value.int .u64 x_6)])] ∧
  K (VI t18_1) h_4) ∧
  (t11_1 = false →
  callM P 52 #[(VP b_1 0), (VI (g1_1.n : Int))] h_2 fun rv_4 h_5 => ∃ x_7 : Sl, ∃ x_8 : Int, ∃ x_9 : Int, ∃ t23_1 : Int, rv_4 = (VI t23_1) ∧ Vars h_5 [(b_2, [(Sl.v g1_1)]), (b_1, [(Sl.v x_7), (VI x_8), (Value.int .u64 x_9)])] ∧
  K (VI t23_1) h_5))
theorem v140 (b_1 : Nat) (c0_1 : Sl) (c0_2 : Int) (c0_3 : Int) (g1_1 : Sl) (h : Heap) (K : Value → Heap → Prop) (hL : Vars h [(b_1, [(Sl.v c0_1), (VI c0_2), (Value.int .u64 c0_3)])]) (H : u140 Tryz.prog b_1 c0_1 c0_2 c0_3 g1_1 h K) : callM Tryz.prog 140 #[(VP b_1 0), (Value.agg #[(Sl.v g1_1)])] h K := by
  refine c140 (VP b_1 0) (Value.agg #[(Sl.v g1_1)]) h K ?_
  unfold u140 at H
  unfold t140
  refine eop_box 26 (Value.agg #[(Sl.v g1_1)]) rfl hL (fun b_2 h_1 hb_1 hf_1 hL_1 => ?_)
  refine pop_field 0 fld26_0 b_2 0 ?_
  refine rop_loc one24 hL_1 0 rfl 0 (v := (Sl.v g1_1)) rfl ?_
  refine pop_len g1_1 _ _ sli24 ?_
  refine pop_ieq .i64 _ _ (g1_1.n : Int) 0 ?_
  refine guardM_sf (fun hb_2 => ?_) (fun hb_2 => ?_)
  rotate_left
  ·have H := H.1 hb_2
   refine guardM_n' hb_2 (by decide) ?_
   refine pop_pickt' hb_2 ?_
   refine condM_t ?_
   refine pop_field 0 fld26_0 b_2 0 ?_
   refine rop_loc one24 hL_1 0 rfl 0 (v := (Sl.v g1_1)) rfl ?_
   refine pop_len g1_1 _ _ sli24 ?_
   have H := H b_2 h_1 (Nat.le_trans (Fr.size (Fr.r (In []) _)) hb_1) (Fr.no' (Fr.r (In []) _) hf_1) hL_1
   refine H.mono fun rv_5 h_6 H => ?_
   obtain ⟨t17_2, rfl, hL_6, H⟩ := H
   refine H.mono fun rv_6 h_7 H => ?_
   obtain ⟨x_10, x_11, x_12, t18_2, rfl, hL_7, H⟩ := H
   exact H
  have H := H.2 hb_2
  refine guardM_y' hb_2 ?_
  have H := H b_2 h_1 (Nat.le_trans (Fr.size (Fr.r (In []) _)) hb_1) (Fr.no' (Fr.r (In []) _) hf_1) hL_1
  refine H.mono fun rv_1 h_2 H => ?_
  obtain ⟨x_1, x_2, x_3, t11_1, rfl, hL_2, H⟩ := H
  refine pop_pickf' hb_2 ?_
  refine condM_b (fun hb_3 => ?_) (fun hb_3 => ?_)
  rotate_left
  ·have H := H.2 hb_3
   refine pop_field 0 fld26_0 b_2 0 ?_
   refine rop_loc one24 hL_2 0 rfl 0 (v := (Sl.v g1_1)) rfl ?_
   refine pop_len g1_1 _ _ sli24 ?_
   refine H.mono fun rv_4 h_5 H => ?_
   obtain ⟨x_7, x_8, x_9, t23_1, rfl, hL_5, H⟩ := H
   exact H
  have H := H.1 hb_3
  refine pop_field 0 fld26_0 b_2 0 ?_
  refine rop_loc one24 hL_2 0 rfl 0 (v := (Sl.v g1_1)) rfl ?_
  refine pop_len g1_1 _ _ sli24 ?_
  refine H.mono fun rv_2 h_3 H => ?_
  obtain ⟨t17_1, rfl, hL_3, H⟩ := H
  refine H.mono fun rv_3 h_4 H => ?_
  obtain ⟨x_4, x_5, x_6, t18_1, rfl, hL_4, H⟩ := H
  exact H
def u141 (P : Program) (s0_1 : Sl) (f1_1 : Value) (h : Heap) (K : Value → Heap → Prop) : Prop :=
  ∃ J_1 : Nat → Int → Heap → Prop, (∃ n0 : Nat, J_1 n0 0 h) ∧
  ∀ (n_1 : Nat) (t8_1 : Int) (h_1 : Heap), J_1 n_1 t8_1 h_1 → Vars h_1 [] →
  ((decide (t8_1 < (s0_1.n : Int))) = true →
  InB s0_1 t8_1 ∧
  ∃ t15_1 : Int, hcell h_1 (Sl.at s0_1 t8_1 1) = some (VI t15_1) ∧
  callV P f1_1 [(VI t15_1)] h_1 fun rv_1 h_2 => ∃ t16_1 : Bool, rv_1 = (VB t16_1) ∧ Vars h_2 [] ∧
  (t16_1 = true →
  K (VI t8_1) h_2) ∧
  (t16_1 = false →
  ∃ m : Nat, m < n_1 ∧ J_1 m (w64 (t8_1 + 1)) h_2)) ∧
  ((decide (t8_1 < (s0_1.n : Int))) = false →
  K (VI (-1)) h_1)
theorem v141 (s0_1 : Sl) (f1_1 : Value) (h : Heap) (K : Value → Heap → Prop) (H : u141 Tryz.prog s0_1 f1_1 h K) : callM Tryz.prog 141 #[(Sl.v s0_1), f1_1] h K := by
  refine c141 (Sl.v s0_1) f1_1 h K ?_
  unfold u141 at H
  unfold t141
  have hL : Vars h [] := .nil
  refine pop_len s0_1 _ _ sli29 ?_
  obtain ⟨J_1, ⟨n_2, h0_1⟩, HB_1⟩ := H
  refine loop_intro (J := fun (n : Nat) (vs : List Value) (h' : Heap) => ∃ t8_1 : Int, vs = [(VI t8_1)] ∧ J_1 n t8_1 h' ∧ Vars h' []) n_2 ⟨0, rfl, h0_1, hL⟩ ?_
  intro I_1 mu_1 hI_1 junk_1 tv_1 h_1 hi_1
  obtain ⟨n_1, ⟨t8_1, hv, hJ_1, hL_1⟩, hn_1⟩ := hI_1 _ _ hi_1
  cases hv
  have H := HB_1 n_1 t8_1 h_1 hJ_1 hL_1
  refine pop_lss .i64 t8_1 (s0_1.n : Int) ?_
  refine condM_b (fun hb_1 => ?_) (fun hb_1 => ?_)
  rotate_left
  ·have H := H.2 hb_1
   exact H
  have H := H.1 hb_1
  obtain ⟨hi_2, H⟩ := H
  refine pop_index sli29 siz3 .i64 s0_1 t8_1 hi_2 ?_
  obtain ⟨t15_1, hc_1, H⟩ := H
  refine rop_one one3 (VI t15_1) hc_1 ?_
  refine H.mono fun rv_1 h_2 H => ?_
  obtain ⟨t16_1, rfl, hL_2, H⟩ := H
  refine condM_b (fun hb_2 => ?_) (fun hb_2 => ?_)
  ·have H := H.1 hb_2
   exact H
  have H := H.2 hb_2
  refine pop_add .i64 t8_1 1 ?_
  obtain ⟨m_1, hm_1, H⟩ := H
  exact hn_1 _ _ ⟨m_1, hm_1, (w64 (t8_1 + 1)), rfl, H, hL_2⟩
def u142 (P : Program) (g0_1 : Sl) (s1_1 : Sl) (p2_1 : Int) (h : Heap) (K : Value → Heap → Prop) : Prop :=
  ∀ (b_1 : Nat) (b_2 : Nat) (h_2 : Heap), h.size ≤ b_1 → h.size ≤ b_2 → Fr (In []) h h_2 → Vars h_2 [(b_2, [(Sl.v s1_1)]), (b_1, [(Sl.v g0_1)])] →
  eop P (Instr.buildSlice 29 1 #[(0, (VI p2_1))]) h_2 fun rv_1 h_3 => ∃ t14_1 : Sl, rv_1 = (Sl.v t14_1) ∧ Vars h_3 [(b_2, [(Sl.v s1_1)]), (b_1, [(Sl.v g0_1)])] ∧
  callM P 120 #[(Value.agg #[(Sl.v g0_1)]), (Value.agg #[(Sl.v s1_1)]), (VI p2_1)] h_3 fun rv_2 h_4 => ∃ t18_1 : Int, rv_2 = (VI t18_1) ∧ Vars h_4 [(b_2, [(Sl.v s1_1)]), (b_1, [(Sl.v g0_1)])] ∧
  ∃ J_1 : Nat → Sl → Int → Int → Heap → Prop, (∃ n0 : Nat, J_1 n0 t14_1 t18_1 0 h_4) ∧
  ∀ (n_1 : Nat) (out7_1 : Sl) (q8_1 : Int) (n9_1 : Int) (h_5 : Heap), J_1 n_1 out7_1 q8_1 n9_1 h_5 → Vars h_5 [(b_2, [(Sl.v s1_1)]), (b_1, [(Sl.v g0_1)])] →
  ((decide (n9_1 < (g0_1.n : Int))) = true →
  ((decide (0 ≤ q8_1)) = true →
  ((!decide (q8_1 = p2_1)) = true →
  eop P (Instr.buildSlice 29 1 #[(0, (VI q8_1))]) h_5 fun rv_3 h_6 => ∃ t37_1 : Sl, rv_3 = (Sl.v t37_1) ∧ Vars h_6 [(b_2, [(Sl.v s1_1)]), (b_1, [(Sl.v g0_1)])] ∧
  eop P (appS 29 29 29 (Sl.v out7_1) (Sl.v t37_1)) h_6 fun rv_4 h_7 => ∃ t38_1 : Sl, rv_4 = (Sl.v t38_1) ∧ Vars h_7 [(b_2, [(Sl.v s1_1)]), (b_1, [(Sl.v g0_1)])] ∧
  callM P 120 #[(Value.agg #[(Sl.v g0_1)]), (Value.agg #[(Sl.v s1_1)]), (VI q8_1)] h_7 fun rv_5 h_8 => ∃ t42_1 : Int, rv_5 = (VI t42_1) ∧ Vars h_8 [(b_2, [(Sl.v s1_1)]), (b_1, [(Sl.v g0_1)])] ∧
  ∃ m : Nat, m < n_1 ∧ J_1 m t38_1 t42_1 (w64 (n9_1 + 1)) h_8) ∧
  ((!decide (q8_1 = p2_1)) = false →
  ∃ J_2 : Nat → Int → Int → Heap → Prop, (∃ n0 : Nat, J_2 n0 0 0 h_5) ∧
  ∀ (n_2 : Nat) (least10_1 : Int) (t48_1 : Int) (h_9 : Heap), J_2 n_2 least10_1 t48_1 h_9 → Vars h_9 [(b_2, [(Sl.v s1_1)]), (b_1, [(Sl.v g0_1)])] →
  ((decide (t48_1 < (out7_1.n : Int))) = true →
  InB out7_1 t48_1 ∧
  ∃ t52_1 : Int, hcell h_9 (Sl.at out7_1 t48_1 1) = some (VI t52_1) ∧
  InB out7_1 least10_1 ∧
  ∃ t57_1 : Int, hcell h_9 (Sl.at out7_1 least10_1 1) = some (VI t57_1) ∧
  ((decide (t52_1 < t57_1)) = true →
  ∃ m : Nat, m < n_2 ∧ J_2 m t48_1 (w64 (t48_1 + 1)) h_9) ∧
  ((decide (t52_1 < t57_1)) = false →
  ∃ m : Nat, m < n_2 ∧ J_2 m least10_1 (w64 (t48_1 + 1)) h_9)) ∧
  ((decide (t48_1 < (out7_1.n : Int))) = false →
  pop P (Instr.sliceAt 29 (Sl.v out7_1) (some (VI least10_1)) none none) fun rv_6 => ∃ t63_1 : Sl, rv_6 = (Sl.v t63_1) ∧ 
  pop P (Instr.sliceAt 29 (Sl.v out7_1) none (some (VI least10_1)) none) fun rv_7 => ∃ t67_1 : Sl, rv_7 = (Sl.v t67_1) ∧ 
  callM P 79 #[(Sl.v t63_1)] h_9 fun rv_8 h_10 => ∃ t64_1 : Sl, rv_8 = (Sl.v t64_1) ∧ Vars h_10 [(b_2, [(Sl.v s1_1)]), (b_1, [(Sl.v g0_1)])] ∧
  eop P (appS 29 29 29 (Sl.v t64_1) (Sl.v t67_1)) h_10 fun rv_9 h_11 => ∃ t68_1 : Sl, rv_9 = (Sl.v t68_1) ∧ Vars h_11 [(b_2, [(Sl.v s1_1)]), (b_1, [(Sl.v g0_1)])] ∧
  K (Sl.v t68_1) h_11))) ∧
  ((decide (0 ≤ q8_1)) = false →
  ((!decide (q8_1 = p2_1)) = true →
  K (Sl.v nilSl) h_5) ∧
  ((!decide (q8_1 = p2_1)) = false →
  ∃ J_3 : Nat → Int → Int → Heap → Prop, (∃ n0 : Nat, J_3 n0 0 0 h_5) ∧
  ∀ (n_4 : Nat) (least10_2 : Int) (t48_2 : Int) (h_12 : Heap), J_3 n_4 least10_2 t48_2 h_12 → Vars h_12 [(b_2, [(Sl.v s1_1)]), (b_1, [(Sl.v g0_1)])] →
  ((decide (t48_2 < (out7_1.n : Int))) = true →
  InB out7_1 t48_2 ∧
  ∃ t52_2 : Int, hcell h_12 (Sl.at out7_1 t48_2 1) = some (VI t52_2) ∧
  InB out7_1 least10_2 ∧
  ∃ t57_2 : Int, hcell h_12 (Sl.at out7_1 least10_2 1) = some (VI t57_2) ∧
  ((decide (t52_2 < t57_2)) = true →
  ∃ m : Nat, m < n_4 ∧ J_3 m t48_2 (w64 (t48_2 + 1)) h_12) ∧
  ((decide (t52_2 < t57_2)) = false →
  ∃ m : Nat, m < n_4 ∧ J_3 m least10_2 (w64 (t48_2 + 1)) h_12)) ∧
  ((decide (t48_2 < (out7_1.n : Int))) = false →
  pop P (Instr.sliceAt 29 (Sl.v out7_1) (some (VI least10_2)) none none) fun rv_10 => ∃ t63_2 : Sl, rv_10 = (Sl.v t63_2) ∧ 
  pop P (Instr.sliceAt 29 (Sl.v out7_1) none (some (VI least10_2)) none) fun rv_11 => ∃ t67_2 : Sl, rv_11 = (Sl.v t67_2) ∧ 
  callM P 79 #[(Sl.v t63_2)] h_12 fun rv_12 h_13 => ∃ t64_2 : Sl, rv_12 = (Sl.v t64_2) ∧ Vars h_13 [(b_2, [(Sl.v s1_1)]), (b_1, [(Sl.v g0_1)])] ∧
  eop P (appS 29 29 29 (Sl.v t64_2) (Sl.v t67_2)) h_13 fun rv_13 h_14 => ∃ t68_2 : Sl, rv_13 = (Sl.v t68_2) ∧ Vars h_14 [(b_2, [(Sl.v s1_1)]), (b_1, [(Sl.v g0_1)])] ∧
  K (Sl.v t68_2) h_14)))) ∧
  ((decide (n9_1 < (g0_1.n : Int))) = false →
  ((!decide (q8_1 = p2_1)) = true →
  K (Sl.v nilSl) h_5) ∧
  ((!decide (q8_1 = p2_1)) = false →
  ∃ J_4 : Nat → Int → Int → Heap → Prop, (∃ n0 : Nat, J_4 n0 0 0 h_5) ∧
  ∀ (n_6 : Nat) (least10_3 : Int) (t48_3 : Int) (h_15 : Heap), J_4 n_6 least10_3 t48_3 h_15 → Vars h_15 [(b_2, [(Sl.v s1_1)]), (b_1, [(Sl.v g0_1)])] →
  ((decide (t48_3 < (out7_1.n : Int))) = true →
  InB out7_1 t48_3 ∧
  ∃ t52_3 : Int, hcell h_15 (Sl.at out7_1 t48_3 1) = some (VI t52_3) ∧
  InB out7_1 least10_3 ∧
  ∃ t57_3 : Int, hcell h_15 (Sl.at out7_1 least10_3 1) = some (VI t57_3) ∧
  ((decide (t52_3 < t57_3)) = true →
  ∃ m : Nat, m < n_6 ∧ J_4 m t48_3 (w64 (t48_3 + 1)) h_15) ∧
  ((decide (t52_3 < t57_3)) = false →
  ∃ m : Nat, m < n_6 ∧ J_4 m least10_3 (w64 (t48_3 + 1)) h_15)) ∧
  ((decide (t48_3 < (out7_1.n : Int))) = false →
  pop P (Instr.sliceAt 29 (Sl.v out7_1) (some (VI least10_3)) none none) fun rv_14 => ∃ t63_3 : Sl, rv_14 = (Sl.v t63_3) ∧ 
  pop P (Instr.sliceAt 29 (Sl.v out7_1) none (some (VI least10_3)) none) fun rv_15 => ∃ t67_3 : Sl, rv_15 = (Sl.v t67_3) ∧ 
  callM P 79 #[(Sl.v t63_3)] h_15 fun rv_16 h_16 => ∃ t64_3 : Sl, rv_16 = (Sl.v t64_3) ∧ Vars h_16 [(b_2, [(Sl.v s1_1)]), (b_1, [(Sl.v g0_1)])] ∧
  eop P (appS 29 29 29 (Sl.v t64_3) (Sl.v t67_3)) h_16 fun rv_17 h_17 => ∃ t68_3 : Sl, rv_17 = (Sl.v t68_3) ∧ Vars h_17 [(b_2, [(Sl.v s1_1)]), (b_1, [(Sl.v g0_1)])] ∧
  K (Sl.v t68_3) h_17)))
theorem v142 (g0_1 : Sl) (s1_1 : Sl) (p2_1 : Int) (h : Heap) (K : Value → Heap → Prop) (H : u142 Tryz.prog g0_1 s1_1 p2_1 h K) : callM Tryz.prog 142 #[(Value.agg #[(Sl.v g0_1)]), (Value.agg #[(Sl.v s1_1)]), (VI p2_1)] h K := by
  refine c142 (Value.agg #[(Sl.v g0_1)]) (Value.agg #[(Sl.v s1_1)]) (VI p2_1) h K ?_
  unfold u142 at H
  unfold t142
  have hL : Vars h [] := .nil
  refine eop_box 26 (Value.agg #[(Sl.v g0_1)]) rfl hL (fun b_1 h_1 hb_1 hf_1 hL_1 => ?_)
  refine eop_box 28 (Value.agg #[(Sl.v s1_1)]) rfl hL_1 (fun b_2 h_2 hb_2 hf_2 hL_2 => ?_)
  have H := H b_1 b_2 h_2 (Nat.le_trans (Fr.size (Fr.r (In []) _)) hb_1) (Nat.le_trans (Fr.size (Fr.no' (Fr.r (In []) _) hf_1)) hb_2) (Fr.no' (Fr.no' (Fr.r (In []) _) hf_1) hf_2) hL_2
  refine H.mono fun rv_1 h_3 H => ?_
  obtain ⟨t14_1, rfl, hL_3, H⟩ := H
  refine rop_locA agg26 hL_3 1 rfl 0 (vs := [(Sl.v g0_1)]) rfl rfl ?_
  refine rop_locA agg28 hL_3 0 rfl 0 (vs := [(Sl.v s1_1)]) rfl rfl ?_
  refine H.mono fun rv_2 h_4 H => ?_
  obtain ⟨t18_1, rfl, hL_4, H⟩ := H
  obtain ⟨J_1, ⟨n_8, h0_4⟩, HB_4⟩ := H
  refine loop_intro (J := fun (n : Nat) (vs : List Value) (h' : Heap) => ∃ out7_1 : Sl, ∃ q8_1 : Int, ∃ n9_1 : Int, vs = [(Sl.v out7_1), (VI q8_1), (VI n9_1)] ∧ J_1 n out7_1 q8_1 n9_1 h' ∧ Vars h' [(b_2, [(Sl.v s1_1)]), (b_1, [(Sl.v g0_1)])]) n_8 ⟨t14_1, t18_1, 0, rfl, h0_4, hL_4⟩ ?_
  intro I_4 mu_4 hI_4 junk_1 tv_7 tv_8 tv_9 h_5 hi_1
  obtain ⟨n_1, ⟨out7_1, q8_1, n9_1, hv, hJ_1, hL_5⟩, hn_1⟩ := hI_4 _ _ hi_1
  cases hv
  have H := HB_4 n_1 out7_1 q8_1 n9_1 h_5 hJ_1 hL_5
  refine pop_field 0 fld26_0 b_1 0 ?_
  refine rop_loc one24 hL_5 1 rfl 0 (v := (Sl.v g0_1)) rfl ?_
  refine pop_len g0_1 _ _ sli24 ?_
  refine pop_lss .i64 n9_1 (g0_1.n : Int) ?_
  refine guardM_st (fun hb_3 => ?_) (fun hb_3 => ?_)
  rotate_left
  ·have H := H.2 hb_3
   refine guardM_n' hb_3 (by decide) ?_
   refine pop_pickf' hb_3 ?_
   refine guardM_n (by decide) ?_
   refine guardM_n (by decide) ?_
   refine guardM_n (by decide) ?_
   refine pop_pickf _ _ ?_
   refine condM_f ?_
   refine pop_ine .i64 _ _ q8_1 p2_1 ?_
   refine condM_b (fun hb_11 => ?_) (fun hb_11 => ?_)
   ·have H := H.1 hb_11
    exact H
   have H := H.2 hb_11
   refine pop_len out7_1 _ _ sli29 ?_
   obtain ⟨J_4, ⟨n_7, h0_3⟩, HB_3⟩ := H
   refine loop_intro (J := fun (n : Nat) (vs : List Value) (h' : Heap) => ∃ least10_3 : Int, ∃ t48_3 : Int, vs = [(VI least10_3), (VI t48_3)] ∧ J_4 n least10_3 t48_3 h' ∧ Vars h' [(b_2, [(Sl.v s1_1)]), (b_1, [(Sl.v g0_1)])]) n_7 ⟨0, 0, rfl, h0_3, hL_5⟩ ?_
   intro I_3 mu_3 hI_3 junk_4 tv_5 tv_6 h_15 hi_8
   obtain ⟨n_6, ⟨least10_3, t48_3, hv, hJ_4, hL_15⟩, hn_4⟩ := hI_3 _ _ hi_8
   cases hv
   have H := HB_3 n_6 least10_3 t48_3 h_15 hJ_4 hL_15
   refine pop_lss .i64 t48_3 (out7_1.n : Int) ?_
   refine condM_b (fun hb_12 => ?_) (fun hb_12 => ?_)
   rotate_left
   ·have H := H.2 hb_12
    refine H.mono fun rv_14 H => ?_
    obtain ⟨t63_3, rfl, H⟩ := H
    refine H.mono fun rv_15 H => ?_
    obtain ⟨t67_3, rfl, H⟩ := H
    refine H.mono fun rv_16 h_16 H => ?_
    obtain ⟨t64_3, rfl, hL_16, H⟩ := H
    refine H.mono fun rv_17 h_17 H => ?_
    obtain ⟨t68_3, rfl, hL_17, H⟩ := H
    exact H
   have H := H.1 hb_12
   obtain ⟨hi_9, H⟩ := H
   refine pop_index sli29 siz3 .i64 out7_1 t48_3 hi_9 ?_
   obtain ⟨t52_3, hc_6, H⟩ := H
   refine rop_one one3 (VI t52_3) hc_6 ?_
   obtain ⟨hi_10, H⟩ := H
   refine pop_index sli29 siz3 .i64 out7_1 least10_3 hi_10 ?_
   obtain ⟨t57_3, hc_5, H⟩ := H
   refine rop_one one3 (VI t57_3) hc_5 ?_
   refine pop_lss .i64 t52_3 t57_3 ?_
   refine condM_b (fun hb_13 => ?_) (fun hb_13 => ?_)
   ·have H := H.1 hb_13
    refine pop_add .i64 t48_3 1 ?_
    obtain ⟨m_6, hm_6, H⟩ := H
    exact hn_4 _ _ ⟨m_6, hm_6, t48_3, (w64 (t48_3 + 1)), rfl, H, hL_15⟩
   have H := H.2 hb_13
   refine pop_add .i64 t48_3 1 ?_
   obtain ⟨m_7, hm_7, H⟩ := H
   exact hn_4 _ _ ⟨m_7, hm_7, least10_3, (w64 (t48_3 + 1)), rfl, H, hL_15⟩
  have H := H.1 hb_3
  refine guardM_y' hb_3 ?_
  refine pop_geq .i64 q8_1 0 ?_
  refine pop_pickt' hb_3 ?_
  refine guardM_st (fun hb_4 => ?_) (fun hb_4 => ?_)
  rotate_left
  ·have H := H.2 hb_4
   refine guardM_n' hb_4 (by decide) ?_
   refine guardM_n' hb_4 (by decide) ?_
   refine pop_pickf' hb_4 ?_
   refine condM_f ?_
   refine pop_ine .i64 _ _ q8_1 p2_1 ?_
   refine condM_b (fun hb_8 => ?_) (fun hb_8 => ?_)
   ·have H := H.1 hb_8
    exact H
   have H := H.2 hb_8
   refine pop_len out7_1 _ _ sli29 ?_
   obtain ⟨J_3, ⟨n_5, h0_2⟩, HB_2⟩ := H
   refine loop_intro (J := fun (n : Nat) (vs : List Value) (h' : Heap) => ∃ least10_2 : Int, ∃ t48_2 : Int, vs = [(VI least10_2), (VI t48_2)] ∧ J_3 n least10_2 t48_2 h' ∧ Vars h' [(b_2, [(Sl.v s1_1)]), (b_1, [(Sl.v g0_1)])]) n_5 ⟨0, 0, rfl, h0_2, hL_5⟩ ?_
   intro I_2 mu_2 hI_2 junk_3 tv_3 tv_4 h_12 hi_5
   obtain ⟨n_4, ⟨least10_2, t48_2, hv, hJ_3, hL_12⟩, hn_3⟩ := hI_2 _ _ hi_5
   cases hv
   have H := HB_2 n_4 least10_2 t48_2 h_12 hJ_3 hL_12
   refine pop_lss .i64 t48_2 (out7_1.n : Int) ?_
   refine condM_b (fun hb_9 => ?_) (fun hb_9 => ?_)
   rotate_left
   ·have H := H.2 hb_9
    refine H.mono fun rv_10 H => ?_
    obtain ⟨t63_2, rfl, H⟩ := H
    refine H.mono fun rv_11 H => ?_
    obtain ⟨t67_2, rfl, H⟩ := H
    refine H.mono fun rv_12 h_13 H => ?_
    obtain ⟨t64_2, rfl, hL_13, H⟩ := H
    refine H.mono fun rv_13 h_14 H => ?_
    obtain ⟨t68_2, rfl, hL_14, H⟩ := H
    exact H
   have H := H.1 hb_9
   obtain ⟨hi_6, H⟩ := H
   refine pop_index sli29 siz3 .i64 out7_1 t48_2 hi_6 ?_
   obtain ⟨t52_2, hc_4, H⟩ := H
   refine rop_one one3 (VI t52_2) hc_4 ?_
   obtain ⟨hi_7, H⟩ := H
   refine pop_index sli29 siz3 .i64 out7_1 least10_2 hi_7 ?_
   obtain ⟨t57_2, hc_3, H⟩ := H
   refine rop_one one3 (VI t57_2) hc_3 ?_
   refine pop_lss .i64 t52_2 t57_2 ?_
   refine condM_b (fun hb_10 => ?_) (fun hb_10 => ?_)
   ·have H := H.1 hb_10
    refine pop_add .i64 t48_2 1 ?_
    obtain ⟨m_4, hm_4, H⟩ := H
    exact hn_3 _ _ ⟨m_4, hm_4, t48_2, (w64 (t48_2 + 1)), rfl, H, hL_12⟩
   have H := H.2 hb_10
   refine pop_add .i64 t48_2 1 ?_
   obtain ⟨m_5, hm_5, H⟩ := H
   exact hn_3 _ _ ⟨m_5, hm_5, least10_2, (w64 (t48_2 + 1)), rfl, H, hL_12⟩
  have H := H.1 hb_4
  refine guardM_y' hb_4 ?_
  refine guardM_y' hb_4 ?_
  refine pop_ine .i64 _ _ q8_1 p2_1 ?_
  refine pop_pickt' hb_4 ?_
  refine condM_b (fun hb_5 => ?_) (fun hb_5 => ?_)
  ·have H := H.1 hb_5
   refine H.mono fun rv_3 h_6 H => ?_
   obtain ⟨t37_1, rfl, hL_6, H⟩ := H
   refine H.mono fun rv_4 h_7 H => ?_
   obtain ⟨t38_1, rfl, hL_7, H⟩ := H
   refine rop_locA agg26 hL_7 1 rfl 0 (vs := [(Sl.v g0_1)]) rfl rfl ?_
   refine rop_locA agg28 hL_7 0 rfl 0 (vs := [(Sl.v s1_1)]) rfl rfl ?_
   refine H.mono fun rv_5 h_8 H => ?_
   obtain ⟨t42_1, rfl, hL_8, H⟩ := H
   refine pop_add .i64 n9_1 1 ?_
   obtain ⟨m_1, hm_1, H⟩ := H
   exact hn_1 _ _ ⟨m_1, hm_1, t38_1, t42_1, (w64 (n9_1 + 1)), rfl, H, hL_8⟩
  have H := H.2 hb_5
  refine pop_ine .i64 _ _ q8_1 p2_1 ?_
  refine condM_f' hb_5 ?_
  refine pop_len out7_1 _ _ sli29 ?_
  obtain ⟨J_2, ⟨n_3, h0_1⟩, HB_1⟩ := H
  refine loop_intro (J := fun (n : Nat) (vs : List Value) (h' : Heap) => ∃ least10_1 : Int, ∃ t48_1 : Int, vs = [(VI least10_1), (VI t48_1)] ∧ J_2 n least10_1 t48_1 h' ∧ Vars h' [(b_2, [(Sl.v s1_1)]), (b_1, [(Sl.v g0_1)])]) n_3 ⟨0, 0, rfl, h0_1, hL_5⟩ ?_
  intro I_1 mu_1 hI_1 junk_2 tv_1 tv_2 h_9 hi_2
  obtain ⟨n_2, ⟨least10_1, t48_1, hv, hJ_2, hL_9⟩, hn_2⟩ := hI_1 _ _ hi_2
  cases hv
  have H := HB_1 n_2 least10_1 t48_1 h_9 hJ_2 hL_9
  refine pop_lss .i64 t48_1 (out7_1.n : Int) ?_
  refine condM_b (fun hb_6 => ?_) (fun hb_6 => ?_)
  rotate_left
  ·have H := H.2 hb_6
   refine H.mono fun rv_6 H => ?_
   obtain ⟨t63_1, rfl, H⟩ := H
   refine H.mono fun rv_7 H => ?_
   obtain ⟨t67_1, rfl, H⟩ := H
   refine H.mono fun rv_8 h_10 H => ?_
   obtain ⟨t64_1, rfl, hL_10, H⟩ := H
   refine H.mono fun rv_9 h_11 H => ?_
   obtain ⟨t68_1, rfl, hL_11, H⟩ := H
   exact H
  have H := H.1 hb_6
  obtain ⟨hi_3, H⟩ := H
  refine pop_index sli29 siz3 .i64 out7_1 t48_1 hi_3 ?_
  obtain ⟨t52_1, hc_2, H⟩ := H
  refine rop_one one3 (VI t52_1) hc_2 ?_
  obtain ⟨hi_4, H⟩ := H
  refine pop_index sli29 siz3 .i64 out7_1 least10_1 hi_4 ?_
  obtain ⟨t57_1, hc_1, H⟩ := H
  refine rop_one one3 (VI t57_1) hc_1 ?_
  refine pop_lss .i64 t52_1 t57_1 ?_
  refine condM_b (fun hb_7 => ?_) (fun hb_7 => ?_)
  ·have H := H.1 hb_7
   refine pop_add .i64 t48_1 1 ?_
   obtain ⟨m_2, hm_2, H⟩ := H
   exact hn_2 _ _ ⟨m_2, hm_2, t48_1, (w64 (t48_1 + 1)), rfl, H, hL_9⟩
  have H := H.2 hb_7
  refine pop_add .i64 t48_1 1 ?_
  obtain ⟨m_3, hm_3, H⟩ := H
  exact hn_2 _ _ ⟨m_3, hm_3, least10_1, (w64 (t48_1 + 1)), rfl, H, hL_9⟩
def u143 (P : Program) (x0_1 : Sl) (h : Heap) (K : Value → Heap → Prop) : Prop :=
  ∃ J_1 : Heap → Prop, (((decide ((x0_1.n : Int) < 1)) = true →
  pop P (Instr.makeInterface 9 (Value.string { data := #[115, 108, 105, 99, 101, 115, 46, 77, 105, 110, 58, 32, 101, 109, 112, 116, 121, 32, 108, 105, 115, 116] })) fun rv_1 => ∃ t8_1 : Value, rv_1 = t8_1 ∧ 
  False) ∧
  ((decide ((x0_1.n : Int) < 1)) = false →
  J_1  h)) ∧
  ∀ (h_1 : Heap), J_1  h_1 → Vars h_1 [] →
  InB x0_1 0 ∧
  ∃ t11_1 : Int, hcell h_1 (Sl.at x0_1 0 1) = some (VI t11_1) ∧
  ∃ J_2 : Nat → Int → Int → Heap → Prop, (∃ n0 : Nat, J_2 n0 t11_1 1 h_1) ∧
  ∀ (n_1 : Nat) (m3_1 : Int) (i4_1 : Int) (h_2 : Heap), J_2 n_1 m3_1 i4_1 h_2 → Vars h_2 [] →
  ((decide (i4_1 < (x0_1.n : Int))) = true →
  InB x0_1 i4_1 ∧
  ∃ t22_1 : Int, hcell h_2 (Sl.at x0_1 i4_1 1) = some (VI t22_1) ∧
  pop P (Builtin.min_ #[3, 3] 3 #[(VI m3_1), (VI t22_1)]) fun rv_2 => ∃ t23_1 : Int, rv_2 = (VI t23_1) ∧ 
  ∃ m : Nat, m < n_1 ∧ J_2 m t23_1 (w64 (i4_1 + 1)) h_2) ∧
  ((decide (i4_1 < (x0_1.n : Int))) = false →
  K (VI m3_1) h_2)
theorem v143 (x0_1 : Sl) (h : Heap) (K : Value → Heap → Prop) (H : u143 Tryz.prog x0_1 h K) : callM Tryz.prog 143 #[(Sl.v x0_1)] h K := by
  refine c143 (Sl.v x0_1) h K ?_
  unfold u143 at H
  unfold t143
  have hL : Vars h [] := .nil
  obtain ⟨J_1, H, HB_2⟩ := H
  refine ⟨fun (vs : List Value) (h' : Heap) => vs = [] ∧ J_1  h' ∧ Vars h' [], ?_, ?_⟩
  ·refine pop_len x0_1 _ _ sli29 ?_
   refine pop_lss .i64 (x0_1.n : Int) 1 ?_
   refine condM_b (fun hb_1 => ?_) (fun hb_1 => ?_)
   rotate_left
   ·have H := H.2 hb_1
    exact ⟨rfl, H, hL⟩
   have H := H.1 hb_1
   refine H.mono fun rv_1 H => ?_
   obtain ⟨t8_1, rfl, H⟩ := H
   exact H.elim
  intro junk_1  h_1
  rintro ⟨hv, hJ_1, hL_1⟩
  have H := HB_2  h_1 hJ_1 hL_1
  obtain ⟨hi_1, H⟩ := H
  refine pop_index sli29 siz3 .i64 x0_1 0 hi_1 ?_
  obtain ⟨t11_1, hc_2, H⟩ := H
  refine rop_one one3 (VI t11_1) hc_2 ?_
  obtain ⟨J_2, ⟨n_2, h0_1⟩, HB_1⟩ := H
  refine loop_intro (J := fun (n : Nat) (vs : List Value) (h' : Heap) => ∃ m3_1 : Int, ∃ i4_1 : Int, vs = [(VI m3_1), (VI i4_1)] ∧ J_2 n m3_1 i4_1 h' ∧ Vars h' []) n_2 ⟨t11_1, 1, rfl, h0_1, hL_1⟩ ?_
  intro I_1 mu_1 hI_1 junk_2 tv_1 tv_2 h_2 hi_2
  obtain ⟨n_1, ⟨m3_1, i4_1, hv, hJ_2, hL_2⟩, hn_1⟩ := hI_1 _ _ hi_2
  cases hv
  have H := HB_1 n_1 m3_1 i4_1 h_2 hJ_2 hL_2
  refine pop_len x0_1 _ _ sli29 ?_
  refine pop_lss .i64 i4_1 (x0_1.n : Int) ?_
  refine condM_b (fun hb_2 => ?_) (fun hb_2 => ?_)
  rotate_left
  ·have H := H.2 hb_2
   exact H
  have H := H.1 hb_2
  obtain ⟨hi_3, H⟩ := H
  refine pop_index sli29 siz3 .i64 x0_1 i4_1 hi_3 ?_
  obtain ⟨t22_1, hc_1, H⟩ := H
  refine rop_one one3 (VI t22_1) hc_1 ?_
  refine H.mono fun rv_2 H => ?_
  obtain ⟨t23_1, rfl, H⟩ := H
  refine pop_add .i64 i4_1 1 ?_
  obtain ⟨m_1, hm_1, H⟩ := H
  exact hn_1 _ _ ⟨m_1, hm_1, t23_1, (w64 (i4_1 + 1)), rfl, H, hL_2⟩
def u144 (P : Program) (slices0_1 : Sl) (h : Heap) (K : Value → Heap → Prop) : Prop :=
  ∃ J_1 : Nat → Int → Int → Heap → Prop, (∃ n0 : Nat, J_1 n0 0 0 h) ∧
  ∀ (n_1 : Nat) (size3_1 : Int) (t11_1 : Int) (h_1 : Heap), J_1 n_1 size3_1 t11_1 h_1 → Vars h_1 [] →
  ((decide (t11_1 < (slices0_1.n : Int))) = true →
  InB slices0_1 t11_1 ∧
  ∃ t14_1 : Sl, hcell h_1 (Sl.at slices0_1 t11_1 1) = some (Sl.v t14_1) ∧
  ((decide ((w64 (size3_1 + (t14_1.n : Int))) < 0)) = true →
  pop P (Instr.makeInterface 9 (Value.string { data := #[108, 101, 110, 32, 111, 117, 116, 32, 111, 102, 32, 114, 97, 110, 103, 101] })) fun rv_1 => ∃ t21_1 : Value, rv_1 = t21_1 ∧ 
  False) ∧
  ((decide ((w64 (size3_1 + (t14_1.n : Int))) < 0)) = false →
  ∃ m : Nat, m < n_1 ∧ J_1 m (w64 (size3_1 + (t14_1.n : Int))) (w64 (t11_1 + 1)) h_1)) ∧
  ((decide (t11_1 < (slices0_1.n : Int))) = false →
  callM P 154 #[(Sl.v nilSl), (VI size3_1)] h_1 fun rv_2 h_2 => ∃ t24_1 : Sl, rv_2 = (Sl.v t24_1) ∧ Vars h_2 [] ∧
  ∃ J_2 : Nat → Sl → Int → Heap → Prop, (∃ n0 : Nat, J_2 n0 t24_1 0 h_2) ∧
  ∀ (n_2 : Nat) (newslice6_1 : Sl) (t27_1 : Int) (h_3 : Heap), J_2 n_2 newslice6_1 t27_1 h_3 → Vars h_3 [] →
  ((decide (t27_1 < (slices0_1.n : Int))) = true →
  InB slices0_1 t27_1 ∧
  ∃ t30_1 : Sl, hcell h_3 (Sl.at slices0_1 t27_1 1) = some (Sl.v t30_1) ∧
  eop P (appS 29 29 29 (Sl.v newslice6_1) (Sl.v t30_1)) h_3 fun rv_3 h_4 => ∃ t33_1 : Sl, rv_3 = (Sl.v t33_1) ∧ Vars h_4 [] ∧
  ∃ m : Nat, m < n_2 ∧ J_2 m t33_1 (w64 (t27_1 + 1)) h_4) ∧
  ((decide (t27_1 < (slices0_1.n : Int))) = false →
  K (Sl.v newslice6_1) h_3))
theorem v144 (slices0_1 : Sl) (h : Heap) (K : Value → Heap → Prop) (H : u144 Tryz.prog slices0_1 h K) : callM Tryz.prog 144 #[(Sl.v slices0_1)] h K := by
  refine c144 (Sl.v slices0_1) h K ?_
  unfold u144 at H
  unfold t144
  have hL : Vars h [] := .nil
  refine pop_len slices0_1 _ _ sli24 ?_
  obtain ⟨J_1, ⟨n_4, h0_2⟩, HB_2⟩ := H
  refine loop_intro (J := fun (n : Nat) (vs : List Value) (h' : Heap) => ∃ size3_1 : Int, ∃ t11_1 : Int, vs = [(VI size3_1), (VI t11_1)] ∧ J_1 n size3_1 t11_1 h' ∧ Vars h' []) n_4 ⟨0, 0, rfl, h0_2, hL⟩ ?_
  intro I_2 mu_2 hI_2 junk_1 tv_3 tv_4 h_1 hi_1
  obtain ⟨n_1, ⟨size3_1, t11_1, hv, hJ_1, hL_1⟩, hn_1⟩ := hI_2 _ _ hi_1
  cases hv
  have H := HB_2 n_1 size3_1 t11_1 h_1 hJ_1 hL_1
  refine pop_lss .i64 t11_1 (slices0_1.n : Int) ?_
  refine condM_b (fun hb_1 => ?_) (fun hb_1 => ?_)
  ·have H := H.1 hb_1
   obtain ⟨hi_2, H⟩ := H
   refine pop_index sli24 siz29 .i64 slices0_1 t11_1 hi_2 ?_
   obtain ⟨t14_1, hc_1, H⟩ := H
   refine rop_one one29 (Sl.v t14_1) hc_1 ?_
   refine pop_len t14_1 _ _ sli29 ?_
   refine pop_add .i64 size3_1 (t14_1.n : Int) ?_
   refine pop_lss .i64 (w64 (size3_1 + (t14_1.n : Int))) 0 ?_
   refine condM_b (fun hb_2 => ?_) (fun hb_2 => ?_)
   ·have H := H.1 hb_2
    refine H.mono fun rv_1 H => ?_
    obtain ⟨t21_1, rfl, H⟩ := H
    exact H.elim
   have H := H.2 hb_2
   refine pop_add .i64 t11_1 1 ?_
   obtain ⟨m_1, hm_1, H⟩ := H
   exact hn_1 _ _ ⟨m_1, hm_1, (w64 (size3_1 + (t14_1.n : Int))), (w64 (t11_1 + 1)), rfl, H, hL_1⟩
  have H := H.2 hb_1
  refine H.mono fun rv_2 h_2 H => ?_
  obtain ⟨t24_1, rfl, hL_2, H⟩ := H
  refine pop_len slices0_1 _ _ sli24 ?_
  obtain ⟨J_2, ⟨n_3, h0_1⟩, HB_1⟩ := H
  refine loop_intro (J := fun (n : Nat) (vs : List Value) (h' : Heap) => ∃ newslice6_1 : Sl, ∃ t27_1 : Int, vs = [(Sl.v newslice6_1), (VI t27_1)] ∧ J_2 n newslice6_1 t27_1 h' ∧ Vars h' []) n_3 ⟨t24_1, 0, rfl, h0_1, hL_2⟩ ?_
  intro I_1 mu_1 hI_1 junk_2 tv_1 tv_2 h_3 hi_3
  obtain ⟨n_2, ⟨newslice6_1, t27_1, hv, hJ_2, hL_3⟩, hn_2⟩ := hI_1 _ _ hi_3
  cases hv
  have H := HB_1 n_2 newslice6_1 t27_1 h_3 hJ_2 hL_3
  refine pop_lss .i64 t27_1 (slices0_1.n : Int) ?_
  refine condM_b (fun hb_3 => ?_) (fun hb_3 => ?_)
  rotate_left
  ·have H := H.2 hb_3
   exact H
  have H := H.1 hb_3
  obtain ⟨hi_4, H⟩ := H
  refine pop_index sli24 siz29 .i64 slices0_1 t27_1 hi_4 ?_
  obtain ⟨t30_1, hc_2, H⟩ := H
  refine rop_one one29 (Sl.v t30_1) hc_2 ?_
  refine H.mono fun rv_3 h_4 H => ?_
  obtain ⟨t33_1, rfl, hL_4, H⟩ := H
  refine pop_add .i64 t27_1 1 ?_
  obtain ⟨m_2, hm_2, H⟩ := H
  exact hn_2 _ _ ⟨m_2, hm_2, t33_1, (w64 (t27_1 + 1)), rfl, H, hL_4⟩
def u145 (P : Program) (seq0_1 : Value) (h : Heap) (K : Value → Heap → Prop) : Prop :=
  callM P 155 #[(Sl.v nilSl), seq0_1] h fun rv_1 h_1 => ∃ t4_1 : Sl, rv_1 = (Sl.v t4_1) ∧ Vars h_1 [] ∧
  K (Sl.v t4_1) h_1
theorem v145 (seq0_1 : Value) (h : Heap) (K : Value → Heap → Prop) (H : u145 Tryz.prog seq0_1 h K) : callM Tryz.prog 145 #[seq0_1] h K := by
  refine c145 seq0_1 h K ?_
  unfold u145 at H
  unfold t145
  have hL : Vars h [] := .nil
  refine H.mono fun rv_1 h_1 H => ?_
  obtain ⟨t4_1, rfl, hL_1, H⟩ := H
  exact H
def u146 (P : Program) (x0_1 : Sl) (h : Heap) (K : Value → Heap → Prop) : Prop :=
  rop P (convert 3 142 (VI (x0_1.n : Int))) h fun rv_1 => ∃ t8_1 : Int, rv_1 = (Value.int .u64 t8_1) ∧ 
  callM P 157 #[(Value.int .u64 t8_1)] h fun rv_2 h_1 => ∃ t9_1 : Int, rv_2 = (VI t9_1) ∧ Vars h_1 [] ∧
  callM P 156 #[(Sl.v x0_1), (VI 0), (VI (x0_1.n : Int)), (VI t9_1)] h_1 fun rv_3 h_2 => Vars h_2 [] ∧
  K (Value.tuple #[]) h_2
theorem v146 (x0_1 : Sl) (h : Heap) (K : Value → Heap → Prop) (H : u146 Tryz.prog x0_1 h K) : callM Tryz.prog 146 #[(Sl.v x0_1)] h K := by
  refine c146 (Sl.v x0_1) h K ?_
  unfold u146 at H
  unfold t146
  have hL : Vars h [] := .nil
  refine pop_len x0_1 _ _ sli29 ?_
  refine H.mono fun rv_1 H => ?_
  obtain ⟨t8_1, rfl, H⟩ := H
  refine H.mono fun rv_2 h_1 H => ?_
  obtain ⟨t9_1, rfl, hL_1, H⟩ := H
  refine H.mono fun rv_3 h_2 H => ?_
  obtain ⟨hL_2, H⟩ := H
  exact H
def u149 (P : Program) (b_1 : Nat) (c0_1 : Sl) (c0_2 : Int) (c0_3 : Int) (most1_1 : Int) (h : Heap) (K : Value → Heap → Prop) : Prop :=
  ∀ (b_2 : Nat) (h_1 : Heap), h.size ≤ b_2 → Fr (In []) h h_1 → Vars h_1 [(b_2, [(Sl.v nilSl)]), (b_1, [(Sl.v c0_1), (VI c0_2), (Value.int .u64 c0_3)])] →
  callM P 52 #[(VP b_1 0), (VI most1_1)] h_1 fun rv_1 h_2 => ∃ x_1 : Sl, ∃ x_2 : Int, ∃ x_3 : Int, ∃ t13_1 : Int, rv_1 = (VI t13_1) ∧ Vars h_2 [(b_2, [(Sl.v nilSl)]), (b_1, [(Sl.v x_1), (VI x_2), (Value.int .u64 x_3)])] ∧
  callM P 67 #[(VP b_1 0), (VI 4)] h_2 fun rv_2 h_3 => ∃ x_4 : Sl, ∃ x_5 : Int, ∃ x_6 : Int, ∃ t16_1 : Bool, rv_2 = (VB t16_1) ∧ Vars h_3 [(b_2, [(Sl.v nilSl)]), (b_1, [(Sl.v x_4), (VI x_5), (Value.int .u64 x_6)])] ∧
  (t16_1 = true →
  callM P 67 #[(VP b_1 0), (VI 2)] h_3 fun rv_3 h_4 => ∃ x_7 : Sl, ∃ x_8 : Int, ∃ x_9 : Int, ∃ t19_1 : Bool, rv_3 = (VB t19_1) ∧ Vars h_4 [(b_2, [(Sl.v nilSl)]), (b_1, [(Sl.v x_7), (VI x_8), (Value.int .u64 x_9)])] ∧
  callM P 153 #[(VI (w64 (1 + t13_1))), (VB t19_1)] h_4 fun rv_4 h_5 => ∃ t20_1 : Sl, rv_4 = (Value.agg #[(Sl.v t20_1)]) ∧ Vars h_5 [(b_2, [(Sl.v nilSl)]), (b_1, [(Sl.v x_7), (VI x_8), (Value.int .u64 x_9)])] ∧
  ∀ (h_6 : Heap), Fr (In [b_2]) h_5 h_6 → Vars h_6 [(b_2, [(Sl.v t20_1)]), (b_1, [(Sl.v x_7), (VI x_8), (Value.int .u64 x_9)])] →
  K (Value.agg #[(Sl.v t20_1)]) h_6) ∧
  (t16_1 = false →
  ∀ (b_3 : Nat) (h_8 : Heap), h_3.size ≤ b_3 → Fr (In []) h_3 h_8 → Vars h_8 [(b_3, [(Sl.v nilSl)]), (b_2, [(Sl.v nilSl)]), (b_1, [(Sl.v x_4), (VI x_5), (Value.int .u64 x_6)])] →
  ∃ J_1 : Nat → Int → Sl → Sl → Int → Int → Heap → Prop, (∃ n0 : Nat, J_1 n0 0 nilSl x_4 x_5 x_6 h_8) ∧
  ∀ (n_1 : Nat) (p7_1 : Int) (x_10 : Sl) (x_11 : Sl) (x_12 : Int) (x_13 : Int) (h_9 : Heap), J_1 n_1 p7_1 x_10 x_11 x_12 x_13 h_9 → Vars h_9 [(b_3, [(Sl.v x_10)]), (b_2, [(Sl.v nilSl)]), (b_1, [(Sl.v x_11), (VI x_12), (Value.int .u64 x_13)])] →
  ((decide (p7_1 < (w64 (1 + t13_1)))) = true →
  callM P 52 #[(VP b_1 0), (VI 3)] h_9 fun rv_5 h_10 => ∃ x_14 : Sl, ∃ x_15 : Int, ∃ x_16 : Int, ∃ t28_1 : Int, rv_5 = (VI t28_1) ∧ Vars h_10 [(b_3, [(Sl.v x_10)]), (b_2, [(Sl.v nilSl)]), (b_1, [(Sl.v x_14), (VI x_15), (Value.int .u64 x_16)])] ∧
  ∃ J_2 : Nat → Sl → Int → Sl → Int → Int → Heap → Prop, (∃ n0 : Nat, J_2 n0 nilSl (w64 (1 + t28_1)) x_14 x_15 x_16 h_10) ∧
  ∀ (n_2 : Nat) (list8_1 : Sl) (k9_1 : Int) (x_17 : Sl) (x_18 : Int) (x_19 : Int) (h_11 : Heap), J_2 n_2 list8_1 k9_1 x_17 x_18 x_19 h_11 → Vars h_11 [(b_3, [(Sl.v x_10)]), (b_2, [(Sl.v nilSl)]), (b_1, [(Sl.v x_17), (VI x_18), (Value.int .u64 x_19)])] →
  ((decide (0 < k9_1)) = true →
  callM P 52 #[(VP b_1 0), (VI (w64 (1 + t13_1)))] h_11 fun rv_6 h_12 => ∃ x_20 : Sl, ∃ x_21 : Int, ∃ x_22 : Int, ∃ t37_1 : Int, rv_6 = (VI t37_1) ∧ Vars h_12 [(b_3, [(Sl.v x_10)]), (b_2, [(Sl.v nilSl)]), (b_1, [(Sl.v x_20), (VI x_21), (Value.int .u64 x_22)])] ∧
  eop P (Instr.buildSlice 29 1 #[(0, (VI t37_1))]) h_12 fun rv_7 h_13 => ∃ t38_1 : Sl, rv_7 = (Sl.v t38_1) ∧ Vars h_13 [(b_3, [(Sl.v x_10)]), (b_2, [(Sl.v nilSl)]), (b_1, [(Sl.v x_20), (VI x_21), (Value.int .u64 x_22)])] ∧
  eop P (appS 29 29 29 (Sl.v list8_1) (Sl.v t38_1)) h_13 fun rv_8 h_14 => ∃ t39_1 : Sl, rv_8 = (Sl.v t39_1) ∧ Vars h_14 [(b_3, [(Sl.v x_10)]), (b_2, [(Sl.v nilSl)]), (b_1, [(Sl.v x_20), (VI x_21), (Value.int .u64 x_22)])] ∧
  ∃ m : Nat, m < n_2 ∧ J_2 m t39_1 (w64 (k9_1 - 1)) x_20 x_21 x_22 h_14) ∧
  ((decide (0 < k9_1)) = false →
  ∃ J_3 : Sl → Sl → Int → Int → Heap → Prop, (callM P 67 #[(VP b_1 0), (VI 8)] h_11 fun rv_9 h_15 => ∃ x_27 : Sl, ∃ x_28 : Int, ∃ x_29 : Int, ∃ t41_1 : Bool, rv_9 = (VB t41_1) ∧ Vars h_15 [(b_3, [(Sl.v x_10)]), (b_2, [(Sl.v nilSl)]), (b_1, [(Sl.v x_27), (VI x_28), (Value.int .u64 x_29)])] ∧
  (t41_1 = true →
  J_3 nilSl x_27 x_28 x_29 h_15) ∧
  (t41_1 = false →
  J_3 list8_1 x_27 x_28 x_29 h_15)) ∧
  ∀ (x_23 : Sl) (x_24 : Sl) (x_25 : Int) (x_26 : Int) (h_16 : Heap), J_3 x_23 x_24 x_25 x_26 h_16 → Vars h_16 [(b_3, [(Sl.v x_10)]), (b_2, [(Sl.v nilSl)]), (b_1, [(Sl.v x_24), (VI x_25), (Value.int .u64 x_26)])] →
  eop P (Instr.buildSlice 24 1 #[(0, (Sl.v x_23))]) h_16 fun rv_10 h_17 => ∃ t45_1 : Sl, rv_10 = (Sl.v t45_1) ∧ Vars h_17 [(b_3, [(Sl.v x_10)]), (b_2, [(Sl.v nilSl)]), (b_1, [(Sl.v x_24), (VI x_25), (Value.int .u64 x_26)])] ∧
  eop P (appS 24 24 24 (Sl.v x_10) (Sl.v t45_1)) h_17 fun rv_11 h_18 => ∃ t46_1 : Sl, rv_11 = (Sl.v t46_1) ∧ Vars h_18 [(b_3, [(Sl.v x_10)]), (b_2, [(Sl.v nilSl)]), (b_1, [(Sl.v x_24), (VI x_25), (Value.int .u64 x_26)])] ∧
  ∀ (h_19 : Heap), Fr (In [b_3]) h_18 h_19 → Vars h_19 [(b_3, [(Sl.v t46_1)]), (b_2, [(Sl.v nilSl)]), (b_1, [(Sl.v x_24), (VI x_25), (Value.int .u64 x_26)])] →
  ∃ m : Nat, m < n_1 ∧ J_1 m (w64 (p7_1 + 1)) t46_1 x_24 x_25 x_26 h_19)) ∧
  ((decide (p7_1 < (w64 (1 + t13_1)))) = false →
  callM P 67 #[(VP b_1 0), (VI 2)] h_9 fun rv_12 h_20 => ∃ x_30 : Sl, ∃ x_31 : Int, ∃ x_32 : Int, ∃ t49_1 : Bool, rv_12 = (VB t49_1) ∧ Vars h_20 [(b_3, [(Sl.v x_10)]), (b_2, [(Sl.v nilSl)]), (b_1, [(Sl.v x_30), (VI x_31), (Value.int .u64 x_32)])] ∧
  (t49_1 = true →
  ∃ J_4 : Nat → Int → Heap → Prop, (∃ n0 : Nat, J_4 n0 0 h_20) ∧
  ∀ (n_4 : Nat) (t53_1 : Int) (h_21 : Heap), J_4 n_4 t53_1 h_21 → Vars h_21 [(b_3, [(Sl.v x_10)]), (b_2, [(Sl.v nilSl)]), (b_1, [(Sl.v x_30), (VI x_31), (Value.int .u64 x_32)])] →
  ((decide (t53_1 < (x_10.n : Int))) = true →
  InB x_10 t53_1 ∧
  ∃ t63_1 : Sl, hcell h_21 (Sl.at x_10 t53_1 1) = some (Sl.v t63_1) ∧
  (w64 (1 + t13_1)) ≠ 0 ∧
  eop P (Instr.buildSlice 29 1 #[(0, (VI (Int.tmod (w64 (t53_1 + 1)) (w64 (1 + t13_1)))))]) h_21 fun rv_13 h_22 => ∃ t68_1 : Sl, rv_13 = (Sl.v t68_1) ∧ Vars h_22 [(b_3, [(Sl.v x_10)]), (b_2, [(Sl.v nilSl)]), (b_1, [(Sl.v x_30), (VI x_31), (Value.int .u64 x_32)])] ∧
  hcell h_22 (Sl.at x_10 t53_1 1) = some (Sl.v t63_1) ∧
  eop P (appS 29 29 29 (Sl.v t63_1) (Sl.v t68_1)) h_22 fun rv_14 h_23 => ∃ t69_1 : Sl, rv_14 = (Sl.v t69_1) ∧ Vars h_23 [(b_3, [(Sl.v x_10)]), (b_2, [(Sl.v nilSl)]), (b_1, [(Sl.v x_30), (VI x_31), (Value.int .u64 x_32)])] ∧
  InB x_10 t53_1 ∧
  Writable h_23 (Sl.at x_10 t53_1 1) ∧ Vars (hset h_23 (Sl.at x_10 t53_1 1) (Sl.v t69_1)) [(b_3, [(Sl.v x_10)]), (b_2, [(Sl.v nilSl)]), (b_1, [(Sl.v x_30), (VI x_31), (Value.int .u64 x_32)])] ∧
  ∀ h_24 : Heap, h_24 = hset h_23 (Sl.at x_10 t53_1 1) (Sl.v t69_1) → Vars h_24 [(b_3, [(Sl.v x_10)]), (b_2, [(Sl.v nilSl)]), (b_1, [(Sl.v x_30), (VI x_31), (Value.int .u64 x_32)])] →
  ∃ m : Nat, m < n_4 ∧ J_4 m (w64 (t53_1 + 1)) h_24) ∧
  ((decide (t53_1 < (x_10.n : Int))) = false →
  ∀ (h_25 : Heap), Fr (In [b_2]) h_21 h_25 → Vars h_25 [(b_3, [(Sl.v x_10)]), (b_2, [(Sl.v x_10)]), (b_1, [(Sl.v x_30), (VI x_31), (Value.int .u64 x_32)])] →
  K (Value.agg #[(Sl.v x_10)]) h_25)) ∧
  (t49_1 = false →
  ∀ (h_26 : Heap), Fr (In [b_2]) h_20 h_26 → Vars h_26 [(b_3, [(Sl.v x_10)]), (b_2, [(Sl.v x_10)]), (b_1, [(Sl.v x_30), (VI x_31), (Value.int .u64 x_32)])] →
  K (Value.agg #[(Sl.v x_10)]) h_26)))
theorem v149 (b_1 : Nat) (c0_1 : Sl) (c0_2 : Int) (c0_3 : Int) (most1_1 : Int) (h : Heap) (K : Value → Heap → Prop) (hL : Vars h [(b_1, [(Sl.v c0_1), (VI c0_2), (Value.int .u64 c0_3)])]) (H : u149 Tryz.prog b_1 c0_1 c0_2 c0_3 most1_1 h K) : callM Tryz.prog 149 #[(VP b_1 0), (VI most1_1)] h K := by
  refine c149 (VP b_1 0) (VI most1_1) h K ?_
  unfold u149 at H
  unfold t149
  refine eop_alloc 26 zer26 rfl hL (fun b_2 h_1 hb_1 hf_1 hL_1 => ?_)
  have H := H b_2 h_1 (Nat.le_trans (Fr.size (Fr.r (In []) _)) hb_1) (Fr.no' (Fr.r (In []) _) hf_1) hL_1
  refine H.mono fun rv_1 h_2 H => ?_
  obtain ⟨x_1, x_2, x_3, t13_1, rfl, hL_2, H⟩ := H
  refine pop_add .i64 1 t13_1 ?_
  refine H.mono fun rv_2 h_3 H => ?_
  obtain ⟨x_4, x_5, x_6, t16_1, rfl, hL_3, H⟩ := H
  refine condM_b (fun hb_2 => ?_) (fun hb_2 => ?_)
  ·have H := H.1 hb_2
   refine H.mono fun rv_3 h_4 H => ?_
   obtain ⟨x_7, x_8, x_9, t19_1, rfl, hL_4, H⟩ := H
   refine H.mono fun rv_4 h_5 H => ?_
   obtain ⟨t20_1, rfl, hL_5, H⟩ := H
   refine uop_loc siz26 hL_5 0 rfl 0 [(Sl.v t20_1)] rfl rfl rfl (Nat.le_of_ble_eq_true rfl) (L' := [(b_2, [(Sl.v t20_1)]), (b_1, [(Sl.v x_7), (VI x_8), (Value.int .u64 x_9)])]) rfl (fun h_6 hf_2 hL_6 => ?_)
   refine rop_locA agg26 hL_6 0 rfl 0 (vs := [(Sl.v t20_1)]) rfl rfl ?_
   have H := H  h_6  (Fr.old (Fr.r (In []) _) hf_2) hL_6
   exact H
  have H := H.2 hb_2
  refine pop.mk' (v := (Value.agg #[(Sl.v nilSl)])) (fun w => by kernel_rfl) ?_
  refine eop_alloc 26 zer26 rfl hL_3 (fun b_3 h_7 hb_3 hf_3 hL_7 => ?_)
  refine uop_loc siz26 hL_7 0 rfl 0 [(Sl.v nilSl)] rfl rfl rfl (Nat.le_of_ble_eq_true rfl) (L' := [(b_3, [(Sl.v nilSl)]), (b_2, [(Sl.v nilSl)]), (b_1, [(Sl.v x_4), (VI x_5), (Value.int .u64 x_6)])]) rfl (fun h_8 hf_4 hL_8 => ?_)
  have H := H b_3 h_8 (Nat.le_trans (Fr.size (Fr.r (In []) _)) hb_3) (Fr.new (Fr.no' (Fr.r (In []) _) hf_3) (Nat.le_trans (Fr.size (Fr.r (In []) _)) hb_3) hf_4) hL_8
  obtain ⟨J_1, ⟨n_6, h0_3⟩, HB_4⟩ := H
  refine loop_intro (J := fun (n : Nat) (vs : List Value) (h' : Heap) => ∃ p7_1 : Int, ∃ x_10 : Sl, ∃ x_11 : Sl, ∃ x_12 : Int, ∃ x_13 : Int, vs = [(VI p7_1)] ∧ J_1 n p7_1 x_10 x_11 x_12 x_13 h' ∧ Vars h' [(b_3, [(Sl.v x_10)]), (b_2, [(Sl.v nilSl)]), (b_1, [(Sl.v x_11), (VI x_12), (Value.int .u64 x_13)])]) n_6 ⟨0, nilSl, x_4, x_5, x_6, rfl, h0_3, hL_8⟩ ?_
  intro I_3 mu_3 hI_3 junk_1 tv_5 h_9 hi_1
  obtain ⟨n_1, ⟨p7_1, x_10, x_11, x_12, x_13, hv, hJ_1, hL_9⟩, hn_1⟩ := hI_3 _ _ hi_1
  cases hv
  have H := HB_4 n_1 p7_1 x_10 x_11 x_12 x_13 h_9 hJ_1 hL_9
  refine pop_lss .i64 p7_1 (w64 (1 + t13_1)) ?_
  refine condM_b (fun hb_4 => ?_) (fun hb_4 => ?_)
  ·have H := H.1 hb_4
   refine H.mono fun rv_5 h_10 H => ?_
   obtain ⟨x_14, x_15, x_16, t28_1, rfl, hL_10, H⟩ := H
   refine pop_add .i64 1 t28_1 ?_
   obtain ⟨J_2, ⟨n_3, h0_1⟩, HB_2⟩ := H
   refine loop_intro (J := fun (n : Nat) (vs : List Value) (h' : Heap) => ∃ list8_1 : Sl, ∃ k9_1 : Int, ∃ x_17 : Sl, ∃ x_18 : Int, ∃ x_19 : Int, vs = [(Sl.v list8_1), (VI k9_1)] ∧ J_2 n list8_1 k9_1 x_17 x_18 x_19 h' ∧ Vars h' [(b_3, [(Sl.v x_10)]), (b_2, [(Sl.v nilSl)]), (b_1, [(Sl.v x_17), (VI x_18), (Value.int .u64 x_19)])]) n_3 ⟨nilSl, (w64 (1 + t28_1)), x_14, x_15, x_16, rfl, h0_1, hL_10⟩ ?_
   intro I_1 mu_1 hI_1 junk_2 tv_2 tv_3 h_11 hi_2
   obtain ⟨n_2, ⟨list8_1, k9_1, x_17, x_18, x_19, hv, hJ_2, hL_11⟩, hn_2⟩ := hI_1 _ _ hi_2
   cases hv
   have H := HB_2 n_2 list8_1 k9_1 x_17 x_18 x_19 h_11 hJ_2 hL_11
   refine pop_gtr .i64 k9_1 0 ?_
   refine condM_b (fun hb_5 => ?_) (fun hb_5 => ?_)
   ·have H := H.1 hb_5
    refine H.mono fun rv_6 h_12 H => ?_
    obtain ⟨x_20, x_21, x_22, t37_1, rfl, hL_12, H⟩ := H
    refine H.mono fun rv_7 h_13 H => ?_
    obtain ⟨t38_1, rfl, hL_13, H⟩ := H
    refine H.mono fun rv_8 h_14 H => ?_
    obtain ⟨t39_1, rfl, hL_14, H⟩ := H
    refine pop_sub .i64 k9_1 1 ?_
    obtain ⟨m_1, hm_1, H⟩ := H
    exact hn_2 _ _ ⟨m_1, hm_1, t39_1, (w64 (k9_1 - 1)), x_20, x_21, x_22, rfl, H, hL_14⟩
   have H := H.2 hb_5
   obtain ⟨J_3, H, HB_1⟩ := H
   refine ⟨fun (vs : List Value) (h' : Heap) => ∃ x_23 : Sl, ∃ x_24 : Sl, ∃ x_25 : Int, ∃ x_26 : Int, vs = [(Sl.v x_23)] ∧ J_3 x_23 x_24 x_25 x_26 h' ∧ Vars h' [(b_3, [(Sl.v x_10)]), (b_2, [(Sl.v nilSl)]), (b_1, [(Sl.v x_24), (VI x_25), (Value.int .u64 x_26)])], ?_, ?_⟩
   ·refine H.mono fun rv_9 h_15 H => ?_
    obtain ⟨x_27, x_28, x_29, t41_1, rfl, hL_15, H⟩ := H
    refine condM_b (fun hb_6 => ?_) (fun hb_6 => ?_)
    ·have H := H.1 hb_6
     exact ⟨nilSl, x_27, x_28, x_29, rfl, H, hL_15⟩
    have H := H.2 hb_6
    exact ⟨list8_1, x_27, x_28, x_29, rfl, H, hL_15⟩
   intro junk_3 tv_1 h_16
   rintro ⟨x_23, x_24, x_25, x_26, hv, hJ_3, hL_16⟩
   cases hv
   have H := HB_1 x_23 x_24 x_25 x_26 h_16 hJ_3 hL_16
   refine pop_field 0 fld26_0 b_3 0 ?_
   refine rop_loc one24 hL_16 0 rfl 0 (v := (Sl.v x_10)) rfl ?_
   refine H.mono fun rv_10 h_17 H => ?_
   obtain ⟨t45_1, rfl, hL_17, H⟩ := H
   refine H.mono fun rv_11 h_18 H => ?_
   obtain ⟨t46_1, rfl, hL_18, H⟩ := H
   refine pop_field 0 fld26_0 b_3 0 ?_
   refine uop_loc siz24 hL_18 0 rfl 0 [(Sl.v t46_1)] rfl rfl rfl (Nat.le_of_ble_eq_true rfl) (L' := [(b_3, [(Sl.v t46_1)]), (b_2, [(Sl.v nilSl)]), (b_1, [(Sl.v x_24), (VI x_25), (Value.int .u64 x_26)])]) rfl (fun h_19 hf_5 hL_19 => ?_)
   refine pop_add .i64 p7_1 1 ?_
   have H := H  h_19  (Fr.old (Fr.r (In []) _) hf_5) hL_19
   obtain ⟨m_2, hm_2, H⟩ := H
   exact hn_1 _ _ ⟨m_2, hm_2, (w64 (p7_1 + 1)), t46_1, x_24, x_25, x_26, rfl, H, hL_19⟩
  have H := H.2 hb_4
  refine H.mono fun rv_12 h_20 H => ?_
  obtain ⟨x_30, x_31, x_32, t49_1, rfl, hL_20, H⟩ := H
  refine condM_b (fun hb_7 => ?_) (fun hb_7 => ?_)
  rotate_left
  ·have H := H.2 hb_7
   refine rop_locA agg26 hL_20 0 rfl 0 (vs := [(Sl.v x_10)]) rfl rfl ?_
   refine uop_loc siz26 hL_20 1 rfl 0 [(Sl.v x_10)] rfl rfl rfl (Nat.le_of_ble_eq_true rfl) (L' := [(b_3, [(Sl.v x_10)]), (b_2, [(Sl.v x_10)]), (b_1, [(Sl.v x_30), (VI x_31), (Value.int .u64 x_32)])]) rfl (fun h_26 hf_7 hL_26 => ?_)
   refine rop_locA agg26 hL_26 1 rfl 0 (vs := [(Sl.v x_10)]) rfl rfl ?_
   have H := H  h_26  (Fr.old (Fr.r (In []) _) hf_7) hL_26
   exact H
  have H := H.1 hb_7
  refine pop_field 0 fld26_0 b_3 0 ?_
  refine rop_loc one24 hL_20 0 rfl 0 (v := (Sl.v x_10)) rfl ?_
  refine pop_len x_10 _ _ sli24 ?_
  obtain ⟨J_4, ⟨n_5, h0_2⟩, HB_3⟩ := H
  refine loop_intro (J := fun (n : Nat) (vs : List Value) (h' : Heap) => ∃ t53_1 : Int, vs = [(VI t53_1)] ∧ J_4 n t53_1 h' ∧ Vars h' [(b_3, [(Sl.v x_10)]), (b_2, [(Sl.v nilSl)]), (b_1, [(Sl.v x_30), (VI x_31), (Value.int .u64 x_32)])]) n_5 ⟨0, rfl, h0_2, hL_20⟩ ?_
  intro I_2 mu_2 hI_2 junk_4 tv_4 h_21 hi_3
  obtain ⟨n_4, ⟨t53_1, hv, hJ_4, hL_21⟩, hn_3⟩ := hI_2 _ _ hi_3
  cases hv
  have H := HB_3 n_4 t53_1 h_21 hJ_4 hL_21
  refine pop_lss .i64 t53_1 (x_10.n : Int) ?_
  refine condM_b (fun hb_8 => ?_) (fun hb_8 => ?_)
  rotate_left
  ·have H := H.2 hb_8
   refine rop_locA agg26 hL_21 0 rfl 0 (vs := [(Sl.v x_10)]) rfl rfl ?_
   refine uop_loc siz26 hL_21 1 rfl 0 [(Sl.v x_10)] rfl rfl rfl (Nat.le_of_ble_eq_true rfl) (L' := [(b_3, [(Sl.v x_10)]), (b_2, [(Sl.v x_10)]), (b_1, [(Sl.v x_30), (VI x_31), (Value.int .u64 x_32)])]) rfl (fun h_25 hf_6 hL_25 => ?_)
   refine rop_locA agg26 hL_25 1 rfl 0 (vs := [(Sl.v x_10)]) rfl rfl ?_
   have H := H  h_25  (Fr.old (Fr.r (In []) _) hf_6) hL_25
   exact H
  have H := H.1 hb_8
  refine pop_field 0 fld26_0 b_3 0 ?_
  refine rop_loc one24 hL_21 0 rfl 0 (v := (Sl.v x_10)) rfl ?_
  refine pop_field 0 fld26_0 b_3 0 ?_
  refine rop_loc one24 hL_21 0 rfl 0 (v := (Sl.v x_10)) rfl ?_
  obtain ⟨hi_4, H⟩ := H
  refine pop_index sli24 siz29 .i64 x_10 t53_1 hi_4 ?_
  obtain ⟨t63_1, hc_2, H⟩ := H
  refine rop_one one29 (Sl.v t63_1) hc_2 ?_
  refine pop_add .i64 t53_1 1 ?_
  obtain ⟨hz_1, H⟩ := H
  refine pop_rem .i64 (w64 (t53_1 + 1)) (w64 (1 + t13_1)) hz_1 ?_
  refine H.mono fun rv_13 h_22 H => ?_
  obtain ⟨t68_1, rfl, hL_22, H⟩ := H
  refine ⟨?_, ?_⟩
  ·exact still_one one29 H.1
  obtain ⟨hc_1, H⟩ := H
  refine ⟨?_, ?_⟩
  ·exact still_loc one24 hL_22 0 rfl 0 (v := (Sl.v x_10)) rfl
  refine ⟨?_, ?_⟩
  ·exact still_loc one24 hL_22 0 rfl 0 (v := (Sl.v x_10)) rfl
  refine H.mono fun rv_14 h_23 H => ?_
  obtain ⟨t69_1, rfl, hL_23, H⟩ := H
  refine ⟨?_, ?_⟩
  ·exact still_loc one24 hL_23 0 rfl 0 (v := (Sl.v x_10)) rfl
  refine ⟨?_, ?_⟩
  ·exact still_loc one24 hL_23 0 rfl 0 (v := (Sl.v x_10)) rfl
  obtain ⟨hi_5, H⟩ := H
  refine pop_index sli24 siz29 .i64 x_10 t53_1 hi_5 ?_
  obtain ⟨hw_1, hL_24, H⟩ := H
  refine uop_cell (v := (Sl.v t69_1)) siz29 hw_1 rfl (fun h_24 he_1 => ?_)
  rw [← he_1] at hL_24
  have H := H h_24 he_1 hL_24
  refine pop_add .i64 t53_1 1 ?_
  obtain ⟨m_3, hm_3, H⟩ := H
  exact hn_3 _ _ ⟨m_3, hm_3, (w64 (t53_1 + 1)), rfl, H, hL_24⟩
def u153 (P : Program) (n0_1 : Int) (both1_1 : Bool) (h : Heap) (K : Value → Heap → Prop) : Prop :=
  ∀ (b_1 : Nat) (b_2 : Nat) (h_3 : Heap), h.size ≤ b_1 → h.size ≤ b_2 → Fr (In []) h h_3 → Vars h_3 [(b_2, [(Sl.v nilSl)]), (b_1, [(Sl.v nilSl)])] →
  ∃ J_1 : Nat → Int → Sl → Heap → Prop, (∃ n0 : Nat, J_1 n0 0 nilSl h_3) ∧
  ∀ (n_1 : Nat) (p6_1 : Int) (x_1 : Sl) (h_4 : Heap), J_1 n_1 p6_1 x_1 h_4 → Vars h_4 [(b_2, [(Sl.v x_1)]), (b_1, [(Sl.v nilSl)])] →
  ((decide (p6_1 < n0_1)) = true →
  n0_1 ≠ 0 ∧
  eop P (Instr.buildSlice 29 1 #[(0, (VI (Int.tmod (w64 (p6_1 + 1)) n0_1)))]) h_4 fun rv_1 h_5 => ∃ t18_1 : Sl, rv_1 = (Sl.v t18_1) ∧ Vars h_5 [(b_2, [(Sl.v x_1)]), (b_1, [(Sl.v nilSl)])] ∧
  ∃ J_2 : Sl → Heap → Prop, ((both1_1 = true →
  n0_1 ≠ 0 ∧
  eop P (Instr.buildSlice 29 1 #[(0, (VI (Int.tmod (w64 ((w64 (p6_1 + n0_1)) - 1)) n0_1)))]) h_5 fun rv_2 h_6 => ∃ t27_1 : Sl, rv_2 = (Sl.v t27_1) ∧ Vars h_6 [(b_2, [(Sl.v x_1)]), (b_1, [(Sl.v nilSl)])] ∧
  eop P (appS 29 29 29 (Sl.v t18_1) (Sl.v t27_1)) h_6 fun rv_3 h_7 => ∃ t28_1 : Sl, rv_3 = (Sl.v t28_1) ∧ Vars h_7 [(b_2, [(Sl.v x_1)]), (b_1, [(Sl.v nilSl)])] ∧
  J_2 t28_1 h_7) ∧
  (both1_1 = false →
  J_2 t18_1 h_5)) ∧
  ∀ (x_2 : Sl) (h_8 : Heap), J_2 x_2 h_8 → Vars h_8 [(b_2, [(Sl.v x_1)]), (b_1, [(Sl.v nilSl)])] →
  eop P (Instr.buildSlice 24 1 #[(0, (Sl.v x_2))]) h_8 fun rv_4 h_9 => ∃ t32_1 : Sl, rv_4 = (Sl.v t32_1) ∧ Vars h_9 [(b_2, [(Sl.v x_1)]), (b_1, [(Sl.v nilSl)])] ∧
  eop P (appS 24 24 24 (Sl.v x_1) (Sl.v t32_1)) h_9 fun rv_5 h_10 => ∃ t33_1 : Sl, rv_5 = (Sl.v t33_1) ∧ Vars h_10 [(b_2, [(Sl.v x_1)]), (b_1, [(Sl.v nilSl)])] ∧
  ∀ (h_11 : Heap), Fr (In [b_2]) h_10 h_11 → Vars h_11 [(b_2, [(Sl.v t33_1)]), (b_1, [(Sl.v nilSl)])] →
  ∃ m : Nat, m < n_1 ∧ J_1 m (w64 (p6_1 + 1)) t33_1 h_11) ∧
  ((decide (p6_1 < n0_1)) = false →
  ∀ (h_12 : Heap), Fr (In [b_1]) h_4 h_12 → Vars h_12 [(b_2, [(Sl.v x_1)]), (b_1, [(Sl.v x_1)])] →
  K (Value.agg #[(Sl.v x_1)]) h_12)
theorem v153 (n0_1 : Int) (both1_1 : Bool) (h : Heap) (K : Value → Heap → Prop) (H : u153 Tryz.prog n0_1 both1_1 h K) : callM Tryz.prog 153 #[(VI n0_1), (VB both1_1)] h K := by
  refine c153 (VI n0_1) (VB both1_1) h K ?_
  unfold u153 at H
  unfold t153
  have hL : Vars h [] := .nil
  refine eop_alloc 26 zer26 rfl hL (fun b_1 h_1 hb_1 hf_1 hL_1 => ?_)
  refine pop.mk' (v := (Value.agg #[(Sl.v nilSl)])) (fun w => by kernel_rfl) ?_
  refine eop_alloc 26 zer26 rfl hL_1 (fun b_2 h_2 hb_2 hf_2 hL_2 => ?_)
  refine uop_loc siz26 hL_2 0 rfl 0 [(Sl.v nilSl)] rfl rfl rfl (Nat.le_of_ble_eq_true rfl) (L' := [(b_2, [(Sl.v nilSl)]), (b_1, [(Sl.v nilSl)])]) rfl (fun h_3 hf_3 hL_3 => ?_)
  have H := H b_1 b_2 h_3 (Nat.le_trans (Fr.size (Fr.r (In []) _)) hb_1) (Nat.le_trans (Fr.size (Fr.no' (Fr.r (In []) _) hf_1)) hb_2) (Fr.new (Fr.no' (Fr.no' (Fr.r (In []) _) hf_1) hf_2) (Nat.le_trans (Fr.size (Fr.no' (Fr.r (In []) _) hf_1)) hb_2) hf_3) hL_3
  obtain ⟨J_1, ⟨n_2, h0_1⟩, HB_2⟩ := H
  refine loop_intro (J := fun (n : Nat) (vs : List Value) (h' : Heap) => ∃ p6_1 : Int, ∃ x_1 : Sl, vs = [(VI p6_1)] ∧ J_1 n p6_1 x_1 h' ∧ Vars h' [(b_2, [(Sl.v x_1)]), (b_1, [(Sl.v nilSl)])]) n_2 ⟨0, nilSl, rfl, h0_1, hL_3⟩ ?_
  intro I_1 mu_1 hI_1 junk_1 tv_2 h_4 hi_1
  obtain ⟨n_1, ⟨p6_1, x_1, hv, hJ_1, hL_4⟩, hn_1⟩ := hI_1 _ _ hi_1
  cases hv
  have H := HB_2 n_1 p6_1 x_1 h_4 hJ_1 hL_4
  refine pop_lss .i64 p6_1 n0_1 ?_
  refine condM_b (fun hb_3 => ?_) (fun hb_3 => ?_)
  rotate_left
  ·have H := H.2 hb_3
   refine rop_locA agg26 hL_4 0 rfl 0 (vs := [(Sl.v x_1)]) rfl rfl ?_
   refine uop_loc siz26 hL_4 1 rfl 0 [(Sl.v x_1)] rfl rfl rfl (Nat.le_of_ble_eq_true rfl) (L' := [(b_2, [(Sl.v x_1)]), (b_1, [(Sl.v x_1)])]) rfl (fun h_12 hf_5 hL_12 => ?_)
   refine rop_locA agg26 hL_12 1 rfl 0 (vs := [(Sl.v x_1)]) rfl rfl ?_
   have H := H  h_12  (Fr.old (Fr.r (In []) _) hf_5) hL_12
   exact H
  have H := H.1 hb_3
  refine pop_add .i64 p6_1 1 ?_
  obtain ⟨hz_1, H⟩ := H
  refine pop_rem .i64 (w64 (p6_1 + 1)) n0_1 hz_1 ?_
  refine H.mono fun rv_1 h_5 H => ?_
  obtain ⟨t18_1, rfl, hL_5, H⟩ := H
  obtain ⟨J_2, H, HB_1⟩ := H
  refine ⟨fun (vs : List Value) (h' : Heap) => ∃ x_2 : Sl, vs = [(Sl.v x_2)] ∧ J_2 x_2 h' ∧ Vars h' [(b_2, [(Sl.v x_1)]), (b_1, [(Sl.v nilSl)])], ?_, ?_⟩
  ·refine condM_b (fun hb_4 => ?_) (fun hb_4 => ?_)
   rotate_left
   ·have H := H.2 hb_4
    exact ⟨t18_1, rfl, H, hL_5⟩
   have H := H.1 hb_4
   refine pop_add .i64 p6_1 n0_1 ?_
   refine pop_sub .i64 (w64 (p6_1 + n0_1)) 1 ?_
   obtain ⟨hz_2, H⟩ := H
   refine pop_rem .i64 (w64 ((w64 (p6_1 + n0_1)) - 1)) n0_1 hz_2 ?_
   refine H.mono fun rv_2 h_6 H => ?_
   obtain ⟨t27_1, rfl, hL_6, H⟩ := H
   refine H.mono fun rv_3 h_7 H => ?_
   obtain ⟨t28_1, rfl, hL_7, H⟩ := H
   exact ⟨t28_1, rfl, H, hL_7⟩
  intro junk_2 tv_1 h_8
  rintro ⟨x_2, hv, hJ_2, hL_8⟩
  cases hv
  have H := HB_1 x_2 h_8 hJ_2 hL_8
  refine pop_field 0 fld26_0 b_2 0 ?_
  refine rop_loc one24 hL_8 0 rfl 0 (v := (Sl.v x_1)) rfl ?_
  refine H.mono fun rv_4 h_9 H => ?_
  obtain ⟨t32_1, rfl, hL_9, H⟩ := H
  refine H.mono fun rv_5 h_10 H => ?_
  obtain ⟨t33_1, rfl, hL_10, H⟩ := H
  refine pop_field 0 fld26_0 b_2 0 ?_
  refine uop_loc siz24 hL_10 0 rfl 0 [(Sl.v t33_1)] rfl rfl rfl (Nat.le_of_ble_eq_true rfl) (L' := [(b_2, [(Sl.v t33_1)]), (b_1, [(Sl.v nilSl)])]) rfl (fun h_11 hf_4 hL_11 => ?_)
  refine pop_add .i64 p6_1 1 ?_
  have H := H  h_11  (Fr.old (Fr.r (In []) _) hf_4) hL_11
  obtain ⟨m_1, hm_1, H⟩ := H
  exact hn_1 _ _ ⟨m_1, hm_1, (w64 (p6_1 + 1)), t33_1, rfl, H, hL_11⟩
def u154 (P : Program) (s0_1 : Sl) (n1_1 : Int) (h : Heap) (K : Value → Heap → Prop) : Prop :=
  ∃ J_1 : Heap → Prop, (((decide (n1_1 < 0)) = true →
  pop P (Instr.makeInterface 9 (Value.string { data := #[99, 97, 110, 110, 111, 116, 32, 98, 101, 32, 110, 101, 103, 97, 116, 105, 118, 101] })) fun rv_1 => ∃ t7_1 : Value, rv_1 = t7_1 ∧ 
  False) ∧
  ((decide (n1_1 < 0)) = false →
  J_1  h)) ∧
  ∀ (h_1 : Heap), J_1  h_1 → Vars h_1 [] →
  pop P (Builtin.cap_ #[29] 3 #[(Sl.v s0_1)]) fun rv_2 => ∃ t10_1 : Int, rv_2 = (VI t10_1) ∧ 
  ((decide (0 < (w64 (n1_1 - (w64 (t10_1 - (s0_1.n : Int))))))) = true →
  pop P (Builtin.cap_ #[29] 3 #[(Sl.v s0_1)]) fun rv_3 => ∃ t19_1 : Int, rv_3 = (VI t19_1) ∧ 
  pop P (Instr.sliceAt 29 (Sl.v s0_1) none (some (VI t19_1)) none) fun rv_4 => ∃ t20_1 : Sl, rv_4 = (Sl.v t20_1) ∧ 
  eop P (appS 29 3 29 (Sl.v t20_1) (VI (w64 (n1_1 - (w64 (t10_1 - (s0_1.n : Int))))))) h_1 fun rv_5 h_2 => ∃ t22_1 : Sl, rv_5 = (Sl.v t22_1) ∧ Vars h_2 [] ∧
  pop P (Instr.sliceAt 29 (Sl.v t22_1) none (some (VI (s0_1.n : Int))) none) fun rv_6 => ∃ t25_1 : Sl, rv_6 = (Sl.v t25_1) ∧ 
  K (Sl.v t25_1) h_2) ∧
  ((decide (0 < (w64 (n1_1 - (w64 (t10_1 - (s0_1.n : Int))))))) = false →
  K (Sl.v s0_1) h_1)
theorem v154 (s0_1 : Sl) (n1_1 : Int) (h : Heap) (K : Value → Heap → Prop) (H : u154 Tryz.prog s0_1 n1_1 h K) : callM Tryz.prog 154 #[(Sl.v s0_1), (VI n1_1)] h K := by
  refine c154 (Sl.v s0_1) (VI n1_1) h K ?_
  unfold u154 at H
  unfold t154
  have hL : Vars h [] := .nil
  obtain ⟨J_1, H, HB_1⟩ := H
  refine ⟨fun (vs : List Value) (h' : Heap) => vs = [] ∧ J_1  h' ∧ Vars h' [], ?_, ?_⟩
  ·refine pop_lss .i64 n1_1 0 ?_
   refine condM_b (fun hb_1 => ?_) (fun hb_1 => ?_)
   rotate_left
   ·have H := H.2 hb_1
    exact ⟨rfl, H, hL⟩
   have H := H.1 hb_1
   refine H.mono fun rv_1 H => ?_
   obtain ⟨t7_1, rfl, H⟩ := H
   exact H.elim
  intro junk_1  h_1
  rintro ⟨hv, hJ_1, hL_1⟩
  have H := HB_1  h_1 hJ_1 hL_1
  refine H.mono fun rv_2 H => ?_
  obtain ⟨t10_1, rfl, H⟩ := H
  refine pop_len s0_1 _ _ sli29 ?_
  refine pop_sub .i64 t10_1 (s0_1.n : Int) ?_
  refine pop_sub .i64 n1_1 (w64 (t10_1 - (s0_1.n : Int))) ?_
  refine pop_gtr .i64 (w64 (n1_1 - (w64 (t10_1 - (s0_1.n : Int))))) 0 ?_
  refine condM_b (fun hb_2 => ?_) (fun hb_2 => ?_)
  rotate_left
  ·have H := H.2 hb_2
   exact H
  have H := H.1 hb_2
  refine H.mono fun rv_3 H => ?_
  obtain ⟨t19_1, rfl, H⟩ := H
  refine H.mono fun rv_4 H => ?_
  obtain ⟨t20_1, rfl, H⟩ := H
  refine H.mono fun rv_5 h_2 H => ?_
  obtain ⟨t22_1, rfl, hL_2, H⟩ := H
  refine pop_len s0_1 _ _ sli29 ?_
  refine H.mono fun rv_6 H => ?_
  obtain ⟨t25_1, rfl, H⟩ := H
  exact H
def u156 (P : Program) (data0_1 : Sl) (a1_1 : Int) (b2_1 : Int) (limit3_1 : Int) (h : Heap) (K : Value → Heap → Prop) : Prop :=
  ∃ J_1 : Nat → Int → Int → Int → Bool → Bool → Heap → Prop, (∃ n0 : Nat, J_1 n0 a1_1 b2_1 limit3_1 true true h) ∧
  ∀ (n_1 : Nat) (a1_2 : Int) (b2_2 : Int) (limit3_2 : Int) (wasBalanced8_1 : Bool) (wasPartitioned9_1 : Bool) (h_1 : Heap), J_1 n_1 a1_2 b2_2 limit3_2 wasBalanced8_1 wasPartitioned9_1 h_1 → Vars h_1 [] →
  ((decide ((w64 (b2_2 - a1_2)) ≤ 12)) = true →
  callM P 158 #[(Sl.v data0_1), (VI a1_2), (VI b2_2)] h_1 fun rv_1 h_2 => Vars h_2 [] ∧
  K (Value.tuple #[]) h_2) ∧
  ((decide ((w64 (b2_2 - a1_2)) ≤ 12)) = false →
  ((decide (limit3_2 = 0)) = true →
  callM P 159 #[(Sl.v data0_1), (VI a1_2), (VI b2_2)] h_1 fun rv_2 h_3 => Vars h_3 [] ∧
  K (Value.tuple #[]) h_3) ∧
  ((decide (limit3_2 = 0)) = false →
  ∃ J_2 : Int → Heap → Prop, (((!wasBalanced8_1) = true →
  callM P 160 #[(Sl.v data0_1), (VI a1_2), (VI b2_2)] h_1 fun rv_3 h_4 => Vars h_4 [] ∧
  J_2 (w64 (limit3_2 - 1)) h_4) ∧
  ((!wasBalanced8_1) = false →
  J_2 limit3_2 h_1)) ∧
  ∀ (x_1 : Int) (h_5 : Heap), J_2 x_1 h_5 → Vars h_5 [] →
  callM P 161 #[(Sl.v data0_1), (VI a1_2), (VI b2_2)] h_5 fun rv_4 h_6 => ∃ t46_1 : Int, ∃ t46_2 : Int, rv_4 = (Value.tuple #[(VI t46_1), (VI t46_2)]) ∧ Vars h_6 [] ∧
  ∃ J_3 : Int → Int → Heap → Prop, (((decide (t46_2 = 2)) = true →
  callM P 162 #[(Sl.v data0_1), (VI a1_2), (VI b2_2)] h_6 fun rv_5 h_7 => Vars h_7 [] ∧
  J_3 (w64 ((w64 (b2_2 - 1)) - (w64 (t46_1 - a1_2)))) 1 h_7) ∧
  ((decide (t46_2 = 2)) = false →
  J_3 t46_1 t46_2 h_6)) ∧
  ∀ (x_2 : Int) (x_3 : Int) (h_8 : Heap), J_3 x_2 x_3 h_8 → Vars h_8 [] →
  ∃ J_4 : Heap → Prop, ((wasBalanced8_1 = true →
  (wasPartitioned9_1 = true →
  ((decide (x_3 = 1)) = true →
  callM P 163 #[(Sl.v data0_1), (VI a1_2), (VI b2_2)] h_8 fun rv_6 h_9 => ∃ t72_1 : Bool, rv_6 = (VB t72_1) ∧ Vars h_9 [] ∧
  (t72_1 = true →
  K (Value.tuple #[]) h_9) ∧
  (t72_1 = false →
  J_4  h_9)) ∧
  ((decide (x_3 = 1)) = false →
  J_4  h_8)) ∧
  (wasPartitioned9_1 = false →
  J_4  h_8)) ∧
  (wasBalanced8_1 = false →
  J_4  h_8)) ∧
  ∀ (h_10 : Heap), J_4  h_10 → Vars h_10 [] →
  ((decide (0 < a1_2)) = true →
  InB data0_1 (w64 (a1_2 - 1)) ∧
  ∃ t80_1 : Int, hcell h_10 (Sl.at data0_1 (w64 (a1_2 - 1)) 1) = some (VI t80_1) ∧
  InB data0_1 x_2 ∧
  ∃ t84_1 : Int, hcell h_10 (Sl.at data0_1 x_2 1) = some (VI t84_1) ∧
  callM P 164 #[(VI t80_1), (VI t84_1)] h_10 fun rv_7 h_11 => ∃ t85_1 : Bool, rv_7 = (VB t85_1) ∧ Vars h_11 [] ∧
  ((!t85_1) = true →
  callM P 165 #[(Sl.v data0_1), (VI a1_2), (VI b2_2), (VI x_2)] h_11 fun rv_8 h_12 => ∃ t92_1 : Int, rv_8 = (VI t92_1) ∧ Vars h_12 [] ∧
  ∃ m : Nat, m < n_1 ∧ J_1 m t92_1 b2_2 x_1 wasBalanced8_1 wasPartitioned9_1 h_12) ∧
  ((!t85_1) = false →
  callM P 166 #[(Sl.v data0_1), (VI a1_2), (VI b2_2), (VI x_2)] h_11 fun rv_9 h_13 => ∃ t99_1 : Int, ∃ t99_2 : Bool, rv_9 = (Value.tuple #[(VI t99_1), (VB t99_2)]) ∧ Vars h_13 [] ∧
  ((decide ((w64 (t99_1 - a1_2)) < (w64 (b2_2 - t99_1)))) = true →
  callM P 156 #[(Sl.v data0_1), (VI a1_2), (VI t99_1), (VI x_1)] h_13 fun rv_10 h_14 => Vars h_14 [] ∧
  ∃ m : Nat, m < n_1 ∧ J_1 m (w64 (t99_1 + 1)) b2_2 x_1 (decide ((w64 (Int.tdiv (w64 (b2_2 - a1_2)) 8)) ≤ (w64 (t99_1 - a1_2)))) t99_2 h_14) ∧
  ((decide ((w64 (t99_1 - a1_2)) < (w64 (b2_2 - t99_1)))) = false →
  callM P 156 #[(Sl.v data0_1), (VI (w64 (t99_1 + 1))), (VI b2_2), (VI x_1)] h_13 fun rv_11 h_15 => Vars h_15 [] ∧
  ∃ m : Nat, m < n_1 ∧ J_1 m a1_2 t99_1 x_1 (decide ((w64 (Int.tdiv (w64 (b2_2 - a1_2)) 8)) ≤ (w64 (b2_2 - t99_1)))) t99_2 h_15))) ∧
  ((decide (0 < a1_2)) = false →
  callM P 166 #[(Sl.v data0_1), (VI a1_2), (VI b2_2), (VI x_2)] h_10 fun rv_12 h_16 => ∃ t99_3 : Int, ∃ t99_4 : Bool, rv_12 = (Value.tuple #[(VI t99_3), (VB t99_4)]) ∧ Vars h_16 [] ∧
  ((decide ((w64 (t99_3 - a1_2)) < (w64 (b2_2 - t99_3)))) = true →
  callM P 156 #[(Sl.v data0_1), (VI a1_2), (VI t99_3), (VI x_1)] h_16 fun rv_13 h_17 => Vars h_17 [] ∧
  ∃ m : Nat, m < n_1 ∧ J_1 m (w64 (t99_3 + 1)) b2_2 x_1 (decide ((w64 (Int.tdiv (w64 (b2_2 - a1_2)) 8)) ≤ (w64 (t99_3 - a1_2)))) t99_4 h_17) ∧
  ((decide ((w64 (t99_3 - a1_2)) < (w64 (b2_2 - t99_3)))) = false →
  callM P 156 #[(Sl.v data0_1), (VI (w64 (t99_3 + 1))), (VI b2_2), (VI x_1)] h_16 fun rv_14 h_18 => Vars h_18 [] ∧
  ∃ m : Nat, m < n_1 ∧ J_1 m a1_2 t99_3 x_1 (decide ((w64 (Int.tdiv (w64 (b2_2 - a1_2)) 8)) ≤ (w64 (b2_2 - t99_3)))) t99_4 h_18))))
theorem v156 (data0_1 : Sl) (a1_1 : Int) (b2_1 : Int) (limit3_1 : Int) (h : Heap) (K : Value → Heap → Prop) (H : u156 Tryz.prog data0_1 a1_1 b2_1 limit3_1 h K) : callM Tryz.prog 156 #[(Sl.v data0_1), (VI a1_1), (VI b2_1), (VI limit3_1)] h K := by
  refine c156 (Sl.v data0_1) (VI a1_1) (VI b2_1) (VI limit3_1) h K ?_
  unfold u156 at H
  unfold t156
  have hL : Vars h [] := .nil
  obtain ⟨J_1, ⟨n_2, h0_1⟩, HB_4⟩ := H
  refine loop_intro (J := fun (n : Nat) (vs : List Value) (h' : Heap) => ∃ a1_2 : Int, ∃ b2_2 : Int, ∃ limit3_2 : Int, ∃ wasBalanced8_1 : Bool, ∃ wasPartitioned9_1 : Bool, vs = [(VI a1_2), (VI b2_2), (VI limit3_2), (VB wasBalanced8_1), (VB wasPartitioned9_1)] ∧ J_1 n a1_2 b2_2 limit3_2 wasBalanced8_1 wasPartitioned9_1 h' ∧ Vars h' []) n_2 ⟨a1_1, b2_1, limit3_1, true, true, rfl, h0_1, hL⟩ ?_
  intro I_1 mu_1 hI_1 junk_1 tv_4 tv_5 tv_6 tv_7 tv_8 h_1 hi_1
  obtain ⟨n_1, ⟨a1_2, b2_2, limit3_2, wasBalanced8_1, wasPartitioned9_1, hv, hJ_1, hL_1⟩, hn_1⟩ := hI_1 _ _ hi_1
  cases hv
  have H := HB_4 n_1 a1_2 b2_2 limit3_2 wasBalanced8_1 wasPartitioned9_1 h_1 hJ_1 hL_1
  refine pop_sub .i64 b2_2 a1_2 ?_
  refine pop_leq .i64 (w64 (b2_2 - a1_2)) 12 ?_
  refine condM_b (fun hb_1 => ?_) (fun hb_1 => ?_)
  ·have H := H.1 hb_1
   refine H.mono fun rv_1 h_2 H => ?_
   obtain ⟨hL_2, H⟩ := H
   exact H
  have H := H.2 hb_1
  refine pop_ieq .i64 _ _ limit3_2 0 ?_
  refine condM_b (fun hb_2 => ?_) (fun hb_2 => ?_)
  ·have H := H.1 hb_2
   refine H.mono fun rv_2 h_3 H => ?_
   obtain ⟨hL_3, H⟩ := H
   exact H
  have H := H.2 hb_2
  obtain ⟨J_2, H, HB_3⟩ := H
  refine ⟨fun (vs : List Value) (h' : Heap) => ∃ x_1 : Int, vs = [(VI x_1)] ∧ J_2 x_1 h' ∧ Vars h' [], ?_, ?_⟩
  ·refine pop_not wasBalanced8_1 ?_
   refine condM_b (fun hb_3 => ?_) (fun hb_3 => ?_)
   rotate_left
   ·have H := H.2 hb_3
    exact ⟨limit3_2, rfl, H, hL_1⟩
   have H := H.1 hb_3
   refine H.mono fun rv_3 h_4 H => ?_
   obtain ⟨hL_4, H⟩ := H
   refine pop_sub .i64 limit3_2 1 ?_
   exact ⟨(w64 (limit3_2 - 1)), rfl, H, hL_4⟩
  intro junk_2 tv_1 h_5
  rintro ⟨x_1, hv, hJ_2, hL_5⟩
  cases hv
  have H := HB_3 x_1 h_5 hJ_2 hL_5
  refine H.mono fun rv_4 h_6 H => ?_
  obtain ⟨t46_1, t46_2, rfl, hL_6, H⟩ := H
  refine pop_ext (v := (VI t46_1)) rfl ?_
  refine pop_ext (v := (VI t46_2)) rfl ?_
  obtain ⟨J_3, H, HB_2⟩ := H
  refine ⟨fun (vs : List Value) (h' : Heap) => ∃ x_2 : Int, ∃ x_3 : Int, vs = [(VI x_2), (VI x_3)] ∧ J_3 x_2 x_3 h' ∧ Vars h' [], ?_, ?_⟩
  ·refine pop_ieq .i64 _ _ t46_2 2 ?_
   refine condM_b (fun hb_4 => ?_) (fun hb_4 => ?_)
   rotate_left
   ·have H := H.2 hb_4
    exact ⟨t46_1, t46_2, rfl, H, hL_6⟩
   have H := H.1 hb_4
   refine H.mono fun rv_5 h_7 H => ?_
   obtain ⟨hL_7, H⟩ := H
   refine pop_sub .i64 b2_2 1 ?_
   refine pop_sub .i64 t46_1 a1_2 ?_
   refine pop_sub .i64 (w64 (b2_2 - 1)) (w64 (t46_1 - a1_2)) ?_
   exact ⟨(w64 ((w64 (b2_2 - 1)) - (w64 (t46_1 - a1_2)))), 1, rfl, H, hL_7⟩
  intro junk_3 tv_2 tv_3 h_8
  rintro ⟨x_2, x_3, hv, hJ_3, hL_8⟩
  cases hv
  have H := HB_2 x_2 x_3 h_8 hJ_3 hL_8
  obtain ⟨J_4, H, HB_1⟩ := H
  refine ⟨fun (vs : List Value) (h' : Heap) => vs = [] ∧ J_4  h' ∧ Vars h' [], ?_, ?_⟩
  ·refine guardM_st (fun hb_5 => ?_) (fun hb_5 => ?_)
   rotate_left
   ·have H := H.2 hb_5
    refine pop_pickf' hb_5 ?_
    refine guardM_n (by decide) ?_
    refine guardM_n (by decide) ?_
    refine pop_pickf _ _ ?_
    refine condM_f ?_
    exact ⟨rfl, H, hL_8⟩
   have H := H.1 hb_5
   refine pop_pickt' hb_5 ?_
   refine guardM_st (fun hb_6 => ?_) (fun hb_6 => ?_)
   rotate_left
   ·have H := H.2 hb_6
    refine guardM_n' hb_6 (by decide) ?_
    refine pop_pickf' hb_6 ?_
    refine condM_f ?_
    exact ⟨rfl, H, hL_8⟩
   have H := H.1 hb_6
   refine guardM_y' hb_6 ?_
   refine pop_ieq .i64 _ _ x_3 1 ?_
   refine pop_pickt' hb_6 ?_
   refine condM_b (fun hb_7 => ?_) (fun hb_7 => ?_)
   rotate_left
   ·have H := H.2 hb_7
    exact ⟨rfl, H, hL_8⟩
   have H := H.1 hb_7
   refine H.mono fun rv_6 h_9 H => ?_
   obtain ⟨t72_1, rfl, hL_9, H⟩ := H
   refine condM_b (fun hb_8 => ?_) (fun hb_8 => ?_)
   ·have H := H.1 hb_8
    exact H
   have H := H.2 hb_8
   exact ⟨rfl, H, hL_9⟩
  intro junk_4  h_10
  rintro ⟨hv, hJ_4, hL_10⟩
  have H := HB_1  h_10 hJ_4 hL_10
  refine pop_gtr .i64 a1_2 0 ?_
  refine guardM_st (fun hb_9 => ?_) (fun hb_9 => ?_)
  rotate_left
  ·have H := H.2 hb_9
   refine guardM_n' hb_9 (by decide) ?_
   refine guardM_n' hb_9 (by decide) ?_
   refine guardM_n' hb_9 (by decide) ?_
   refine guardM_n' hb_9 (by decide) ?_
   refine guardM_n' hb_9 (by decide) ?_
   refine guardM_n' hb_9 (by decide) ?_
   refine guardM_n' hb_9 (by decide) ?_
   refine guardM_n' hb_9 (by decide) ?_
   refine guardM_n' hb_9 (by decide) ?_
   refine guardM_n' hb_9 (by decide) ?_
   refine pop_pickf' hb_9 ?_
   refine condM_f ?_
   refine H.mono fun rv_12 h_16 H => ?_
   obtain ⟨t99_3, t99_4, rfl, hL_16, H⟩ := H
   refine pop_ext (v := (VI t99_3)) rfl ?_
   refine pop_ext (v := (VB t99_4)) rfl ?_
   refine pop_sub .i64 t99_3 a1_2 ?_
   refine pop_sub .i64 b2_2 t99_3 ?_
   refine pop_quo .i64 (w64 (b2_2 - a1_2)) 8 (by decide) ?_
   refine pop_lss .i64 (w64 (t99_3 - a1_2)) (w64 (b2_2 - t99_3)) ?_
   refine condM_b (fun hb_12 => ?_) (fun hb_12 => ?_)
   ·have H := H.1 hb_12
    refine pop_geq .i64 (w64 (t99_3 - a1_2)) (w64 (Int.tdiv (w64 (b2_2 - a1_2)) 8)) ?_
    refine H.mono fun rv_13 h_17 H => ?_
    obtain ⟨hL_17, H⟩ := H
    refine pop_add .i64 t99_3 1 ?_
    obtain ⟨m_4, hm_4, H⟩ := H
    exact hn_1 _ _ ⟨m_4, hm_4, (w64 (t99_3 + 1)), b2_2, x_1, (decide ((w64 (Int.tdiv (w64 (b2_2 - a1_2)) 8)) ≤ (w64 (t99_3 - a1_2)))), t99_4, rfl, H, hL_17⟩
   have H := H.2 hb_12
   refine pop_geq .i64 (w64 (b2_2 - t99_3)) (w64 (Int.tdiv (w64 (b2_2 - a1_2)) 8)) ?_
   refine pop_add .i64 t99_3 1 ?_
   refine H.mono fun rv_14 h_18 H => ?_
   obtain ⟨hL_18, H⟩ := H
   obtain ⟨m_5, hm_5, H⟩ := H
   exact hn_1 _ _ ⟨m_5, hm_5, a1_2, t99_3, x_1, (decide ((w64 (Int.tdiv (w64 (b2_2 - a1_2)) 8)) ≤ (w64 (b2_2 - t99_3)))), t99_4, rfl, H, hL_18⟩
  have H := H.1 hb_9
  refine guardM_y' hb_9 ?_
  refine guardM_y' hb_9 ?_
  refine pop_sub .i64 a1_2 1 ?_
  refine guardM_y' hb_9 ?_
  obtain ⟨hi_2, H⟩ := H
  refine pop_index sli29 siz3 .i64 data0_1 (w64 (a1_2 - 1)) hi_2 ?_
  refine guardM_y' hb_9 ?_
  obtain ⟨t80_1, hc_2, H⟩ := H
  refine rop_one one3 (VI t80_1) hc_2 ?_
  refine guardM_y' hb_9 ?_
  refine guardM_y' hb_9 ?_
  refine guardM_y' hb_9 ?_
  obtain ⟨hi_3, H⟩ := H
  refine pop_index sli29 siz3 .i64 data0_1 x_2 hi_3 ?_
  refine guardM_y' hb_9 ?_
  obtain ⟨t84_1, hc_1, H⟩ := H
  refine rop_one one3 (VI t84_1) hc_1 ?_
  refine guardM_y' hb_9 ?_
  refine H.mono fun rv_7 h_11 H => ?_
  obtain ⟨t85_1, rfl, hL_11, H⟩ := H
  refine guardM_y' hb_9 ?_
  refine pop_not t85_1 ?_
  refine pop_pickt' hb_9 ?_
  refine condM_b (fun hb_10 => ?_) (fun hb_10 => ?_)
  ·have H := H.1 hb_10
   refine H.mono fun rv_8 h_12 H => ?_
   obtain ⟨t92_1, rfl, hL_12, H⟩ := H
   obtain ⟨m_1, hm_1, H⟩ := H
   exact hn_1 _ _ ⟨m_1, hm_1, t92_1, b2_2, x_1, wasBalanced8_1, wasPartitioned9_1, rfl, H, hL_12⟩
  have H := H.2 hb_10
  refine H.mono fun rv_9 h_13 H => ?_
  obtain ⟨t99_1, t99_2, rfl, hL_13, H⟩ := H
  refine pop_ext (v := (VI t99_1)) rfl ?_
  refine pop_ext (v := (VB t99_2)) rfl ?_
  refine pop_sub .i64 t99_1 a1_2 ?_
  refine pop_sub .i64 b2_2 t99_1 ?_
  refine pop_quo .i64 (w64 (b2_2 - a1_2)) 8 (by decide) ?_
  refine pop_lss .i64 (w64 (t99_1 - a1_2)) (w64 (b2_2 - t99_1)) ?_
  refine condM_b (fun hb_11 => ?_) (fun hb_11 => ?_)
  ·have H := H.1 hb_11
   refine pop_geq .i64 (w64 (t99_1 - a1_2)) (w64 (Int.tdiv (w64 (b2_2 - a1_2)) 8)) ?_
   refine H.mono fun rv_10 h_14 H => ?_
   obtain ⟨hL_14, H⟩ := H
   refine pop_add .i64 t99_1 1 ?_
   obtain ⟨m_2, hm_2, H⟩ := H
   exact hn_1 _ _ ⟨m_2, hm_2, (w64 (t99_1 + 1)), b2_2, x_1, (decide ((w64 (Int.tdiv (w64 (b2_2 - a1_2)) 8)) ≤ (w64 (t99_1 - a1_2)))), t99_2, rfl, H, hL_14⟩
  have H := H.2 hb_11
  refine pop_geq .i64 (w64 (b2_2 - t99_1)) (w64 (Int.tdiv (w64 (b2_2 - a1_2)) 8)) ?_
  refine pop_add .i64 t99_1 1 ?_
  refine H.mono fun rv_11 h_15 H => ?_
  obtain ⟨hL_15, H⟩ := H
  obtain ⟨m_3, hm_3, H⟩ := H
  exact hn_1 _ _ ⟨m_3, hm_3, a1_2, t99_1, x_1, (decide ((w64 (Int.tdiv (w64 (b2_2 - a1_2)) 8)) ≤ (w64 (b2_2 - t99_1)))), t99_2, rfl, H, hL_15⟩
def u157 (P : Program) (x0_1 : Int) (h : Heap) (K : Value → Heap → Prop) : Prop :=
  callM P 168 #[(Value.int .u64 x0_1)] h fun rv_1 h_1 => ∃ t7_1 : Int, rv_1 = (VI t7_1) ∧ Vars h_1 [] ∧
  K (VI t7_1) h_1
theorem v157 (x0_1 : Int) (h : Heap) (K : Value → Heap → Prop) (H : u157 Tryz.prog x0_1 h K) : callM Tryz.prog 157 #[(Value.int .u64 x0_1)] h K := by
  refine c157 (Value.int .u64 x0_1) h K ?_
  unfold u157 at H
  unfold t157
  have hL : Vars h [] := .nil
  refine condM_f ?_
  refine H.mono fun rv_1 h_1 H => ?_
  obtain ⟨t7_1, rfl, hL_1, H⟩ := H
  exact H
def u158 (P : Program) (data0_1 : Sl) (a1_1 : Int) (b2_1 : Int) (h : Heap) (K : Value → Heap → Prop) : Prop :=
  ∃ J_1 : Nat → Int → Heap → Prop, (∃ n0 : Nat, J_1 n0 (w64 (a1_1 + 1)) h) ∧
  ∀ (n_1 : Nat) (i6_1 : Int) (h_1 : Heap), J_1 n_1 i6_1 h_1 → Vars h_1 [] →
  ((decide (i6_1 < b2_1)) = true →
  ∃ J_2 : Nat → Int → Heap → Prop, (∃ n0 : Nat, J_2 n0 i6_1 h_1) ∧
  ∀ (n_2 : Nat) (j7_1 : Int) (h_2 : Heap), J_2 n_2 j7_1 h_2 → Vars h_2 [] →
  ((decide (a1_1 < j7_1)) = true →
  InB data0_1 j7_1 ∧
  ∃ t23_1 : Int, hcell h_2 (Sl.at data0_1 j7_1 1) = some (VI t23_1) ∧
  InB data0_1 (w64 (j7_1 - 1)) ∧
  ∃ t28_1 : Int, hcell h_2 (Sl.at data0_1 (w64 (j7_1 - 1)) 1) = some (VI t28_1) ∧
  callM P 164 #[(VI t23_1), (VI t28_1)] h_2 fun rv_1 h_3 => ∃ t29_1 : Bool, rv_1 = (VB t29_1) ∧ Vars h_3 [] ∧
  (t29_1 = true →
  InB data0_1 (w64 (j7_1 - 1)) ∧
  ∃ t42_1 : Int, hcell h_3 (Sl.at data0_1 (w64 (j7_1 - 1)) 1) = some (VI t42_1) ∧
  InB data0_1 j7_1 ∧
  ∃ t46_1 : Int, hcell h_3 (Sl.at data0_1 j7_1 1) = some (VI t46_1) ∧
  InB data0_1 j7_1 ∧
  Writable h_3 (Sl.at data0_1 j7_1 1) ∧ Vars (hset h_3 (Sl.at data0_1 j7_1 1) (VI t42_1)) [] ∧
  ∀ h_4 : Heap, h_4 = hset h_3 (Sl.at data0_1 j7_1 1) (VI t42_1) → Vars h_4 [] →
  InB data0_1 (w64 (j7_1 - 1)) ∧
  Writable h_4 (Sl.at data0_1 (w64 (j7_1 - 1)) 1) ∧ Vars (hset h_4 (Sl.at data0_1 (w64 (j7_1 - 1)) 1) (VI t46_1)) [] ∧
  ∀ h_5 : Heap, h_5 = hset h_4 (Sl.at data0_1 (w64 (j7_1 - 1)) 1) (VI t46_1) → Vars h_5 [] →
  ∃ m : Nat, m < n_2 ∧ J_2 m (w64 (j7_1 - 1)) h_5) ∧
  (t29_1 = false →
  ∃ m : Nat, m < n_1 ∧ J_1 m (w64 (i6_1 + 1)) h_3)) ∧
  ((decide (a1_1 < j7_1)) = false →
  ∃ m : Nat, m < n_1 ∧ J_1 m (w64 (i6_1 + 1)) h_2)) ∧
  ((decide (i6_1 < b2_1)) = false →
  K (Value.tuple #[]) h_1)
theorem v158 (data0_1 : Sl) (a1_1 : Int) (b2_1 : Int) (h : Heap) (K : Value → Heap → Prop) (H : u158 Tryz.prog data0_1 a1_1 b2_1 h K) : callM Tryz.prog 158 #[(Sl.v data0_1), (VI a1_1), (VI b2_1)] h K := by
  refine c158 (Sl.v data0_1) (VI a1_1) (VI b2_1) h K ?_
  unfold u158 at H
  unfold t158
  have hL : Vars h [] := .nil
  refine pop_add .i64 a1_1 1 ?_
  obtain ⟨J_1, ⟨n_4, h0_2⟩, HB_2⟩ := H
  refine loop_intro (J := fun (n : Nat) (vs : List Value) (h' : Heap) => ∃ i6_1 : Int, vs = [(VI i6_1)] ∧ J_1 n i6_1 h' ∧ Vars h' []) n_4 ⟨(w64 (a1_1 + 1)), rfl, h0_2, hL⟩ ?_
  intro I_2 mu_2 hI_2 junk_1 tv_2 h_1 hi_1
  obtain ⟨n_1, ⟨i6_1, hv, hJ_1, hL_1⟩, hn_1⟩ := hI_2 _ _ hi_1
  cases hv
  have H := HB_2 n_1 i6_1 h_1 hJ_1 hL_1
  refine pop_lss .i64 i6_1 b2_1 ?_
  refine condM_b (fun hb_1 => ?_) (fun hb_1 => ?_)
  rotate_left
  ·have H := H.2 hb_1
   exact H
  have H := H.1 hb_1
  obtain ⟨J_2, ⟨n_3, h0_1⟩, HB_1⟩ := H
  refine loop_intro (J := fun (n : Nat) (vs : List Value) (h' : Heap) => ∃ j7_1 : Int, vs = [(VI j7_1)] ∧ J_2 n j7_1 h' ∧ Vars h' []) n_3 ⟨i6_1, rfl, h0_1, hL_1⟩ ?_
  intro I_1 mu_1 hI_1 junk_2 tv_1 h_2 hi_2
  obtain ⟨n_2, ⟨j7_1, hv, hJ_2, hL_2⟩, hn_2⟩ := hI_1 _ _ hi_2
  cases hv
  have H := HB_1 n_2 j7_1 h_2 hJ_2 hL_2
  refine pop_gtr .i64 j7_1 a1_1 ?_
  refine guardM_st (fun hb_2 => ?_) (fun hb_2 => ?_)
  rotate_left
  ·have H := H.2 hb_2
   refine guardM_n' hb_2 (by decide) ?_
   refine guardM_n' hb_2 (by decide) ?_
   refine guardM_n' hb_2 (by decide) ?_
   refine guardM_n' hb_2 (by decide) ?_
   refine guardM_n' hb_2 (by decide) ?_
   refine guardM_n' hb_2 (by decide) ?_
   refine guardM_n' hb_2 (by decide) ?_
   refine guardM_n' hb_2 (by decide) ?_
   refine guardM_n' hb_2 (by decide) ?_
   refine pop_pickf' hb_2 ?_
   refine condM_f ?_
   refine pop_add .i64 i6_1 1 ?_
   obtain ⟨m_3, hm_3, H⟩ := H
   exact hn_1 _ _ ⟨m_3, hm_3, (w64 (i6_1 + 1)), rfl, H, hL_2⟩
  have H := H.1 hb_2
  refine guardM_y' hb_2 ?_
  refine guardM_y' hb_2 ?_
  obtain ⟨hi_3, H⟩ := H
  refine pop_index sli29 siz3 .i64 data0_1 j7_1 hi_3 ?_
  refine guardM_y' hb_2 ?_
  obtain ⟨t23_1, hc_4, H⟩ := H
  refine rop_one one3 (VI t23_1) hc_4 ?_
  refine guardM_y' hb_2 ?_
  refine guardM_y' hb_2 ?_
  refine guardM_y' hb_2 ?_
  refine pop_sub .i64 j7_1 1 ?_
  refine guardM_y' hb_2 ?_
  obtain ⟨hi_4, H⟩ := H
  refine pop_index sli29 siz3 .i64 data0_1 (w64 (j7_1 - 1)) hi_4 ?_
  refine guardM_y' hb_2 ?_
  obtain ⟨t28_1, hc_3, H⟩ := H
  refine rop_one one3 (VI t28_1) hc_3 ?_
  refine guardM_y' hb_2 ?_
  refine H.mono fun rv_1 h_3 H => ?_
  obtain ⟨t29_1, rfl, hL_3, H⟩ := H
  refine pop_pickt' hb_2 ?_
  refine condM_b (fun hb_3 => ?_) (fun hb_3 => ?_)
  rotate_left
  ·have H := H.2 hb_3
   refine pop_add .i64 i6_1 1 ?_
   obtain ⟨m_2, hm_2, H⟩ := H
   exact hn_1 _ _ ⟨m_2, hm_2, (w64 (i6_1 + 1)), rfl, H, hL_3⟩
  have H := H.1 hb_3
  refine pop_sub .i64 j7_1 1 ?_
  refine pop_sub .i64 j7_1 1 ?_
  obtain ⟨hi_5, H⟩ := H
  refine pop_index sli29 siz3 .i64 data0_1 (w64 (j7_1 - 1)) hi_5 ?_
  obtain ⟨t42_1, hc_2, H⟩ := H
  refine rop_one one3 (VI t42_1) hc_2 ?_
  obtain ⟨hi_6, H⟩ := H
  refine pop_index sli29 siz3 .i64 data0_1 j7_1 hi_6 ?_
  obtain ⟨t46_1, hc_1, H⟩ := H
  refine rop_one one3 (VI t46_1) hc_1 ?_
  obtain ⟨hi_7, H⟩ := H
  refine pop_index sli29 siz3 .i64 data0_1 j7_1 hi_7 ?_
  obtain ⟨hw_1, hL_4, H⟩ := H
  refine uop_cell (v := (VI t42_1)) siz3 hw_1 rfl (fun h_4 he_1 => ?_)
  rw [← he_1] at hL_4
  have H := H h_4 he_1 hL_4
  obtain ⟨hi_8, H⟩ := H
  refine pop_index sli29 siz3 .i64 data0_1 (w64 (j7_1 - 1)) hi_8 ?_
  obtain ⟨hw_2, hL_5, H⟩ := H
  refine uop_cell (v := (VI t46_1)) siz3 hw_2 rfl (fun h_5 he_2 => ?_)
  rw [← he_2] at hL_5
  have H := H h_5 he_2 hL_5
  refine pop_sub .i64 j7_1 1 ?_
  obtain ⟨m_1, hm_1, H⟩ := H
  exact hn_2 _ _ ⟨m_1, hm_1, (w64 (j7_1 - 1)), rfl, H, hL_5⟩
end Go.Proofs.YtkjkfjkapbpgiaaGreat
