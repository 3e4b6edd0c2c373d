import Derived.Test.YtkjkfjkapbpgiaaGraphsReachedU2
import Derived.Test.YtkjkfjkapbpgiaaGraphsReachedT
import Derived.Test.YtkjkfjkapbpgiaaM2
set_option linter.unusedVariables false
set_option linter.unusedSimpArgs false
set_option maxRecDepth 100000
set_option maxHeartbeats 16000000
namespace Go.Proofs.Ytkjkfjkapbpgiaa
open Go Go.Mx
def u142 (P : Program) (x0_1 : Int) (y1_1 : Int) (h : Heap) (K : Value → Heap → Prop) : Prop :=
  pop P (binA .and 84 (Value.int .u64 x0_1) (Value.int IntKind.u64 4294967295)) fun rv_1 => ∃ t15_1 : Int, rv_1 = (Value.int .u64 t15_1) ∧ 
  pop P (binA .shr 84 (Value.int .u64 x0_1) (Value.int IntKind.u64 32)) fun rv_2 => ∃ t17_1 : Int, rv_2 = (Value.int .u64 t17_1) ∧ 
  pop P (binA .and 84 (Value.int .u64 y1_1) (Value.int IntKind.u64 4294967295)) fun rv_3 => ∃ t19_1 : Int, rv_3 = (Value.int .u64 t19_1) ∧ 
  pop P (binA .shr 84 (Value.int .u64 y1_1) (Value.int IntKind.u64 32)) fun rv_4 => ∃ t21_1 : Int, rv_4 = (Value.int .u64 t21_1) ∧ 
  pop P (binA .shr 84 (Value.int .u64 (IntKind.wrap .u64 (t15_1 * t19_1))) (Value.int IntKind.u64 32)) fun rv_5 => ∃ t29_1 : Int, rv_5 = (Value.int .u64 t29_1) ∧ 
  pop P (binA .and 84 (Value.int .u64 (IntKind.wrap .u64 ((IntKind.wrap .u64 (t17_1 * t19_1)) + t29_1))) (Value.int IntKind.u64 4294967295)) fun rv_6 => ∃ t32_1 : Int, rv_6 = (Value.int .u64 t32_1) ∧ 
  pop P (binA .shr 84 (Value.int .u64 (IntKind.wrap .u64 ((IntKind.wrap .u64 (t17_1 * t19_1)) + t29_1))) (Value.int IntKind.u64 32)) fun rv_7 => ∃ t34_1 : Int, rv_7 = (Value.int .u64 t34_1) ∧ 
  pop P (binA .shr 84 (Value.int .u64 (IntKind.wrap .u64 (t32_1 + (IntKind.wrap .u64 (t15_1 * t21_1))))) (Value.int IntKind.u64 32)) fun rv_8 => ∃ t46_1 : Int, rv_8 = (Value.int .u64 t46_1) ∧ 
  K (Value.tuple #[(Value.int .u64 (IntKind.wrap .u64 ((IntKind.wrap .u64 ((IntKind.wrap .u64 (t17_1 * t21_1)) + t34_1)) + t46_1))), (Value.int .u64 (IntKind.wrap .u64 (x0_1 * y1_1)))]) h
theorem v142 (x0_1 : Int) (y1_1 : Int) (h : Heap) (K : Value → Heap → Prop) (H : u142 Try.prog x0_1 y1_1 h K) : callM Try.prog 142 #[(Value.int .u64 x0_1), (Value.int .u64 y1_1)] h K := by
  refine c142 (Value.int .u64 x0_1) (Value.int .u64 y1_1) h K ?_
  unfold u142 at H
  unfold t142
  have hL : Vars h [] := .nil
  refine H.mono fun rv_1 H => ?_
  obtain ⟨t15_1, rfl, H⟩ := H
  refine H.mono fun rv_2 H => ?_
  obtain ⟨t17_1, rfl, H⟩ := H
  refine H.mono fun rv_3 H => ?_
  obtain ⟨t19_1, rfl, H⟩ := H
  refine H.mono fun rv_4 H => ?_
  obtain ⟨t21_1, rfl, H⟩ := H
  refine pop_mul .u64 t15_1 t19_1 ?_
  refine pop_mul .u64 t17_1 t19_1 ?_
  refine H.mono fun rv_5 H => ?_
  obtain ⟨t29_1, rfl, H⟩ := H
  refine pop_add .u64 (IntKind.wrap .u64 (t17_1 * t19_1)) t29_1 ?_
  refine H.mono fun rv_6 H => ?_
  obtain ⟨t32_1, rfl, H⟩ := H
  refine H.mono fun rv_7 H => ?_
  obtain ⟨t34_1, rfl, H⟩ := H
  refine pop_mul .u64 t15_1 t21_1 ?_
  refine pop_add .u64 t32_1 (IntKind.wrap .u64 (t15_1 * t21_1)) ?_
  refine pop_mul .u64 t17_1 t21_1 ?_
  refine pop_add .u64 (IntKind.wrap .u64 (t17_1 * t21_1)) t34_1 ?_
  refine H.mono fun rv_8 H => ?_
  obtain ⟨t46_1, rfl, H⟩ := H
  refine pop_add .u64 (IntKind.wrap .u64 ((IntKind.wrap .u64 (t17_1 * t21_1)) + t34_1)) t46_1 ?_
  refine pop_mul .u64 x0_1 y1_1 ?_
  exact H
def u144 (P : Program) (data0_1 : Sl) (a1_1 : Int) (b2_1 : Int) (h : Heap) (K : Value → Heap → Prop) : Prop :=
  ∃ J_1 : Nat → Int → Heap → Prop, (∃ n0 : Nat, J_1 n0 (w64 (a1_1 + 1)) h) ∧
  ∀ (n_1 : Nat) (i6_1 : Int) (h_1 : Heap), J_1 n_1 i6_1 h_1 → Vars h_1 [] →
  ((decide (i6_1 < b2_1)) = true →
  ∃ J_2 : Nat → Int → Heap → Prop, (∃ n0 : Nat, J_2 n0 i6_1 h_1) ∧
  ∀ (n_2 : Nat) (j7_1 : Int) (h_2 : Heap), J_2 n_2 j7_1 h_2 → Vars h_2 [] →
  ((decide (a1_1 < j7_1)) = true →
  InB data0_1 j7_1 ∧
  ∃ t23_1 : Int, hcell h_2 (Sl.at data0_1 j7_1 1) = some (VI t23_1) ∧
  InB data0_1 (w64 (j7_1 - 1)) ∧
  ∃ t28_1 : Int, hcell h_2 (Sl.at data0_1 (w64 (j7_1 - 1)) 1) = some (VI t28_1) ∧
  callM P 150 #[(VI t23_1), (VI t28_1)] h_2 fun rv_1 h_3 => ∃ t29_1 : Bool, rv_1 = (VB t29_1) ∧ Vars h_3 [] ∧
  (t29_1 = true →
  InB data0_1 (w64 (j7_1 - 1)) ∧
  ∃ t42_1 : Int, hcell h_3 (Sl.at data0_1 (w64 (j7_1 - 1)) 1) = some (VI t42_1) ∧
  InB data0_1 j7_1 ∧
  ∃ t46_1 : Int, hcell h_3 (Sl.at data0_1 j7_1 1) = some (VI t46_1) ∧
  InB data0_1 j7_1 ∧
  Writable h_3 (Sl.at data0_1 j7_1 1) ∧ Vars (hset h_3 (Sl.at data0_1 j7_1 1) (VI t42_1)) [] ∧
  ∀ h_4 : Heap, h_4 = hset h_3 (Sl.at data0_1 j7_1 1) (VI t42_1) → Vars h_4 [] →
  InB data0_1 (w64 (j7_1 - 1)) ∧
  Writable h_4 (Sl.at data0_1 (w64 (j7_1 - 1)) 1) ∧ Vars (hset h_4 (Sl.at data0_1 (w64 (j7_1 - 1)) 1) (VI t46_1)) [] ∧
  ∀ h_5 : Heap, h_5 = hset h_4 (Sl.at data0_1 (w64 (j7_1 - 1)) 1) (VI t46_1) → Vars h_5 [] →
  ∃ m : Nat, m < n_2 ∧ J_2 m (w64 (j7_1 - 1)) h_5) ∧
  (t29_1 = false →
  ∃ m : Nat, m < n_1 ∧ J_1 m (w64 (i6_1 + 1)) h_3)) ∧
  ((decide (a1_1 < j7_1)) = false →
  ∃ m : Nat, m < n_1 ∧ J_1 m (w64 (i6_1 + 1)) h_2)) ∧
  ((decide (i6_1 < b2_1)) = false →
  K (Value.tuple #[]) h_1)
theorem v144 (data0_1 : Sl) (a1_1 : Int) (b2_1 : Int) (h : Heap) (K : Value → Heap → Prop) (H : u144 Try.prog data0_1 a1_1 b2_1 h K) : callM Try.prog 144 #[(Sl.v data0_1), (VI a1_1), (VI b2_1)] h K := by
  refine c144 (Sl.v data0_1) (VI a1_1) (VI b2_1) h K ?_
  unfold u144 at H
  unfold t144
  have hL : Vars h [] := .nil
  refine pop_add .i64 a1_1 1 ?_
  obtain ⟨J_1, ⟨n_4, h0_2⟩, HB_2⟩ := H
  refine loop_intro (J := fun (n : Nat) (vs : List Value) (h' : Heap) => ∃ i6_1 : Int, vs = [(VI i6_1)] ∧ J_1 n i6_1 h' ∧ Vars h' []) n_4 ⟨(w64 (a1_1 + 1)), rfl, h0_2, hL⟩ ?_
  intro I_2 mu_2 hI_2 junk_1 tv_2 h_1 hi_1
  obtain ⟨n_1, ⟨i6_1, hv, hJ_1, hL_1⟩, hn_1⟩ := hI_2 _ _ hi_1
  cases hv
  have H := HB_2 n_1 i6_1 h_1 hJ_1 hL_1
  refine pop_lss .i64 i6_1 b2_1 ?_
  refine condM_b (fun hb_1 => ?_) (fun hb_1 => ?_)
  rotate_left
  ·have H := H.2 hb_1
   exact H
  have H := H.1 hb_1
  obtain ⟨J_2, ⟨n_3, h0_1⟩, HB_1⟩ := H
  refine loop_intro (J := fun (n : Nat) (vs : List Value) (h' : Heap) => ∃ j7_1 : Int, vs = [(VI j7_1)] ∧ J_2 n j7_1 h' ∧ Vars h' []) n_3 ⟨i6_1, rfl, h0_1, hL_1⟩ ?_
  intro I_1 mu_1 hI_1 junk_2 tv_1 h_2 hi_2
  obtain ⟨n_2, ⟨j7_1, hv, hJ_2, hL_2⟩, hn_2⟩ := hI_1 _ _ hi_2
  cases hv
  have H := HB_1 n_2 j7_1 h_2 hJ_2 hL_2
  refine pop_gtr .i64 j7_1 a1_1 ?_
  refine guardM_st (fun hb_2 => ?_) (fun hb_2 => ?_)
  rotate_left
  ·have H := H.2 hb_2
   refine guardM_n' hb_2 (by decide) ?_
   refine guardM_n' hb_2 (by decide) ?_
   refine guardM_n' hb_2 (by decide) ?_
   refine guardM_n' hb_2 (by decide) ?_
   refine guardM_n' hb_2 (by decide) ?_
   refine guardM_n' hb_2 (by decide) ?_
   refine guardM_n' hb_2 (by decide) ?_
   refine guardM_n' hb_2 (by decide) ?_
   refine guardM_n' hb_2 (by decide) ?_
   refine pop_pickf' hb_2 ?_
   refine condM_f ?_
   refine pop_add .i64 i6_1 1 ?_
   obtain ⟨m_3, hm_3, H⟩ := H
   exact hn_1 _ _ ⟨m_3, hm_3, (w64 (i6_1 + 1)), rfl, H, hL_2⟩
  have H := H.1 hb_2
  refine guardM_y' hb_2 ?_
  refine guardM_y' hb_2 ?_
  obtain ⟨hi_3, H⟩ := H
  refine pop_index sli27 siz3 .i64 data0_1 j7_1 hi_3 ?_
  refine guardM_y' hb_2 ?_
  obtain ⟨t23_1, hc_4, H⟩ := H
  refine rop_one one3 (VI t23_1) hc_4 ?_
  refine guardM_y' hb_2 ?_
  refine guardM_y' hb_2 ?_
  refine guardM_y' hb_2 ?_
  refine pop_sub .i64 j7_1 1 ?_
  refine guardM_y' hb_2 ?_
  obtain ⟨hi_4, H⟩ := H
  refine pop_index sli27 siz3 .i64 data0_1 (w64 (j7_1 - 1)) hi_4 ?_
  refine guardM_y' hb_2 ?_
  obtain ⟨t28_1, hc_3, H⟩ := H
  refine rop_one one3 (VI t28_1) hc_3 ?_
  refine guardM_y' hb_2 ?_
  refine H.mono fun rv_1 h_3 H => ?_
  obtain ⟨t29_1, rfl, hL_3, H⟩ := H
  refine pop_pickt' hb_2 ?_
  refine condM_b (fun hb_3 => ?_) (fun hb_3 => ?_)
  rotate_left
  ·have H := H.2 hb_3
   refine pop_add .i64 i6_1 1 ?_
   obtain ⟨m_2, hm_2, H⟩ := H
   exact hn_1 _ _ ⟨m_2, hm_2, (w64 (i6_1 + 1)), rfl, H, hL_3⟩
  have H := H.1 hb_3
  refine pop_sub .i64 j7_1 1 ?_
  refine pop_sub .i64 j7_1 1 ?_
  obtain ⟨hi_5, H⟩ := H
  refine pop_index sli27 siz3 .i64 data0_1 (w64 (j7_1 - 1)) hi_5 ?_
  obtain ⟨t42_1, hc_2, H⟩ := H
  refine rop_one one3 (VI t42_1) hc_2 ?_
  obtain ⟨hi_6, H⟩ := H
  refine pop_index sli27 siz3 .i64 data0_1 j7_1 hi_6 ?_
  obtain ⟨t46_1, hc_1, H⟩ := H
  refine rop_one one3 (VI t46_1) hc_1 ?_
  obtain ⟨hi_7, H⟩ := H
  refine pop_index sli27 siz3 .i64 data0_1 j7_1 hi_7 ?_
  obtain ⟨hw_1, hL_4, H⟩ := H
  refine uop_cell (v := (VI t42_1)) siz3 hw_1 rfl (fun h_4 he_1 => ?_)
  rw [← he_1] at hL_4
  have H := H h_4 he_1 hL_4
  obtain ⟨hi_8, H⟩ := H
  refine pop_index sli27 siz3 .i64 data0_1 (w64 (j7_1 - 1)) hi_8 ?_
  obtain ⟨hw_2, hL_5, H⟩ := H
  refine uop_cell (v := (VI t46_1)) siz3 hw_2 rfl (fun h_5 he_2 => ?_)
  rw [← he_2] at hL_5
  have H := H h_5 he_2 hL_5
  refine pop_sub .i64 j7_1 1 ?_
  obtain ⟨m_1, hm_1, H⟩ := H
  exact hn_2 _ _ ⟨m_1, hm_1, (w64 (j7_1 - 1)), rfl, H, hL_5⟩
def u150 (P : Program) (x0_1 : Int) (y1_1 : Int) (h : Heap) (K : Value → Heap → Prop) : Prop :=
  callM P 162 #[(VI x0_1)] h fun rv_1 h_1 => ∃ t6_1 : Bool, rv_1 = (VB t6_1) ∧ Vars h_1 [] ∧
  (t6_1 = true →
  callM P 162 #[(VI y1_1)] h_1 fun rv_2 h_2 => ∃ t9_1 : Bool, rv_2 = (VB t9_1) ∧ Vars h_2 [] ∧
  ((!t9_1) = true →
  K (VB true) h_2) ∧
  ((!t9_1) = false →
  K (VB (decide (x0_1 < y1_1))) h_2)) ∧
  (t6_1 = false →
  K (VB (decide (x0_1 < y1_1))) h_1)
theorem v150 (x0_1 : Int) (y1_1 : Int) (h : Heap) (K : Value → Heap → Prop) (H : u150 Try.prog x0_1 y1_1 h K) : callM Try.prog 150 #[(VI x0_1), (VI y1_1)] h K := by
  refine c150 (VI x0_1) (VI y1_1) h K ?_
  unfold u150 at H
  unfold t150
  have hL : Vars h [] := .nil
  refine H.mono fun rv_1 h_1 H => ?_
  obtain ⟨t6_1, rfl, hL_1, H⟩ := H
  refine guardM_st (fun hb_1 => ?_) (fun hb_1 => ?_)
  rotate_left
  ·have H := H.2 hb_1
   refine guardM_n' hb_1 (by decide) ?_
   refine guardM_n' hb_1 (by decide) ?_
   refine pop_pickf' hb_1 ?_
   refine guardM_y ?_
   refine guardM_y ?_
   refine guardM_y ?_
   refine pop_lss .i64 x0_1 y1_1 ?_
   refine pop_pickf _ _ ?_
   exact H
  have H := H.1 hb_1
  refine guardM_y' hb_1 ?_
  refine H.mono fun rv_2 h_2 H => ?_
  obtain ⟨t9_1, rfl, hL_2, H⟩ := H
  refine guardM_y' hb_1 ?_
  refine pop_not t9_1 ?_
  refine pop_pickt' hb_1 ?_
  refine guardM_sf (fun hb_2 => ?_) (fun hb_2 => ?_)
  rotate_left
  ·have H := H.1 hb_2
   refine guardM_n' hb_2 (by decide) ?_
   refine guardM_n' hb_2 (by decide) ?_
   refine pop_pickt' hb_2 ?_
   exact H
  have H := H.2 hb_2
  refine guardM_y' hb_2 ?_
  refine guardM_y' hb_2 ?_
  refine pop_lss .i64 x0_1 y1_1 ?_
  refine pop_pickf' hb_2 ?_
  exact H
def u154 (P : Program) (x0_1 : Int) (h : Heap) (K : Value → Heap → Prop) : Prop :=
  ∃ J_1 : Int → Int → Heap → Prop, (((decide (4294967296 ≤ x0_1)) = true →
  pop P (binA .shr 84 (Value.int .u64 x0_1) (Value.int IntKind.u64 32)) fun rv_1 => ∃ t6_1 : Int, rv_1 = (Value.int .u64 t6_1) ∧ 
  J_1 t6_1 32 h) ∧
  ((decide (4294967296 ≤ x0_1)) = false →
  J_1 x0_1 0 h)) ∧
  ∀ (x_1 : Int) (x_2 : Int) (h_1 : Heap), J_1 x_1 x_2 h_1 → Vars h_1 [] →
  ∃ J_2 : Int → Int → Heap → Prop, (((decide (65536 ≤ x_1)) = true →
  pop P (binA .shr 84 (Value.int .u64 x_1) (Value.int IntKind.u64 16)) fun rv_2 => ∃ t10_1 : Int, rv_2 = (Value.int .u64 t10_1) ∧ 
  J_2 t10_1 (w64 (x_2 + 16)) h_1) ∧
  ((decide (65536 ≤ x_1)) = false →
  J_2 x_1 x_2 h_1)) ∧
  ∀ (x_3 : Int) (x_4 : Int) (h_2 : Heap), J_2 x_3 x_4 h_2 → Vars h_2 [] →
  ∃ J_3 : Int → Int → Heap → Prop, (((decide (256 ≤ x_3)) = true →
  pop P (binA .shr 84 (Value.int .u64 x_3) (Value.int IntKind.u64 8)) fun rv_3 => ∃ t16_1 : Int, rv_3 = (Value.int .u64 t16_1) ∧ 
  J_3 t16_1 (w64 (x_4 + 8)) h_2) ∧
  ((decide (256 ≤ x_3)) = false →
  J_3 x_3 x_4 h_2)) ∧
  ∀ (x_5 : Int) (x_6 : Int) (h_3 : Heap), J_3 x_5 x_6 h_3 → Vars h_3 [] →
  rop P (convert 84 5 (Value.int .u64 x_5)) h_3 fun rv_4 => ∃ t21_1 : Int, rv_4 = (Value.int .u8 t21_1) ∧ 
  pop P (Instr.index 9 (Value.string { data := #[0, 1, 2, 2, 3, 3, 3, 3, 4, 4, 4, 4, 4, 4, 4, 4, 5, 5, 5, 5, 5, 5, 5, 5, 5, 5, 5, 5, 5, 5, 5, 5, 6, 6, 6, 6, 6, 6, 6, 6, 6, 6, 6, 6, 6, 6, 6, 6, 6, 6, 6, 6, 6, 6, 6, 6, 6, 6, 6, 6, 6, 6, 6, 6, 7, 7, 7, 7, 7, 7, 7, 7, 7, 7, 7, 7, 7, 7, 7, 7, 7, 7, 7, 7, 7, 7, 7, 7, 7, 7, 7, 7, 7, 7, 7, 7, 7, 7, 7, 7, 7, 7, 7, 7, 7, 7, 7, 7, 7, 7, 7, 7, 7, 7, 7, 7, 7, 7, 7, 7, 7, 7, 7, 7, 7, 7, 7, 7, 8, 8, 8, 8, 8, 8, 8, 8, 8, 8, 8, 8, 8, 8, 8, 8, 8, 8, 8, 8, 8, 8, 8, 8, 8, 8, 8, 8, 8, 8, 8, 8, 8, 8, 8, 8, 8, 8, 8, 8, 8, 8, 8, 8, 8, 8, 8, 8, 8, 8, 8, 8, 8, 8, 8, 8, 8, 8, 8, 8, 8, 8, 8, 8, 8, 8, 8, 8, 8, 8, 8, 8, 8, 8, 8, 8, 8, 8, 8, 8, 8, 8, 8, 8, 8, 8, 8, 8, 8, 8, 8, 8, 8, 8, 8, 8, 8, 8, 8, 8, 8, 8, 8, 8, 8, 8, 8, 8, 8, 8, 8, 8, 8, 8, 8, 8, 8, 8, 8, 8, 8, 8, 8, 8, 8, 8, 8, 8] }) (Value.int .u8 t21_1)) fun rv_5 => ∃ t22_1 : Int, rv_5 = (Value.int .u8 t22_1) ∧ 
  rop P (convert 5 3 (Value.int .u8 t22_1)) h_3 fun rv_6 => ∃ t23_1 : Int, rv_6 = (VI t23_1) ∧ 
  K (VI (w64 (x_6 + t23_1))) h_3
theorem v154 (x0_1 : Int) (h : Heap) (K : Value → Heap → Prop) (H : u154 Try.prog x0_1 h K) : callM Try.prog 154 #[(Value.int .u64 x0_1)] h K := by
  refine c154 (Value.int .u64 x0_1) h K ?_
  unfold u154 at H
  unfold t154
  have hL : Vars h [] := .nil
  obtain ⟨J_1, H, HB_3⟩ := H
  refine ⟨fun (vs : List Value) (h' : Heap) => ∃ x_1 : Int, ∃ x_2 : Int, vs = [(Value.int .u64 x_1), (VI x_2)] ∧ J_1 x_1 x_2 h' ∧ Vars h' [], ?_, ?_⟩
  ·refine pop_geq .u64 x0_1 4294967296 ?_
   refine condM_b (fun hb_1 => ?_) (fun hb_1 => ?_)
   rotate_left
   ·have H := H.2 hb_1
    exact ⟨x0_1, 0, rfl, H, hL⟩
   have H := H.1 hb_1
   refine H.mono fun rv_1 H => ?_
   obtain ⟨t6_1, rfl, H⟩ := H
   exact ⟨t6_1, 32, rfl, H, hL⟩
  intro junk_1 tv_1 tv_2 h_1
  rintro ⟨x_1, x_2, hv, hJ_1, hL_1⟩
  cases hv
  have H := HB_3 x_1 x_2 h_1 hJ_1 hL_1
  obtain ⟨J_2, H, HB_2⟩ := H
  refine ⟨fun (vs : List Value) (h' : Heap) => ∃ x_3 : Int, ∃ x_4 : Int, vs = [(Value.int .u64 x_3), (VI x_4)] ∧ J_2 x_3 x_4 h' ∧ Vars h' [], ?_, ?_⟩
  ·refine pop_geq .u64 x_1 65536 ?_
   refine condM_b (fun hb_2 => ?_) (fun hb_2 => ?_)
   rotate_left
   ·have H := H.2 hb_2
    exact ⟨x_1, x_2, rfl, H, hL_1⟩
   have H := H.1 hb_2
   refine H.mono fun rv_2 H => ?_
   obtain ⟨t10_1, rfl, H⟩ := H
   refine pop_add .i64 x_2 16 ?_
   exact ⟨t10_1, (w64 (x_2 + 16)), rfl, H, hL_1⟩
  intro junk_2 tv_3 tv_4 h_2
  rintro ⟨x_3, x_4, hv, hJ_2, hL_2⟩
  cases hv
  have H := HB_2 x_3 x_4 h_2 hJ_2 hL_2
  obtain ⟨J_3, H, HB_1⟩ := H
  refine ⟨fun (vs : List Value) (h' : Heap) => ∃ x_5 : Int, ∃ x_6 : Int, vs = [(Value.int .u64 x_5), (VI x_6)] ∧ J_3 x_5 x_6 h' ∧ Vars h' [], ?_, ?_⟩
  ·refine pop_geq .u64 x_3 256 ?_
   refine condM_b (fun hb_3 => ?_) (fun hb_3 => ?_)
   rotate_left
   ·have H := H.2 hb_3
    exact ⟨x_3, x_4, rfl, H, hL_2⟩
   have H := H.1 hb_3
   refine H.mono fun rv_3 H => ?_
   obtain ⟨t16_1, rfl, H⟩ := H
   refine pop_add .i64 x_4 8 ?_
   exact ⟨t16_1, (w64 (x_4 + 8)), rfl, H, hL_2⟩
  intro junk_3 tv_5 tv_6 h_3
  rintro ⟨x_5, x_6, hv, hJ_3, hL_3⟩
  cases hv
  have H := HB_1 x_5 x_6 h_3 hJ_3 hL_3
  refine H.mono fun rv_4 H => ?_
  obtain ⟨t21_1, rfl, H⟩ := H
  refine H.mono fun rv_5 H => ?_
  obtain ⟨t22_1, rfl, H⟩ := H
  refine H.mono fun rv_6 H => ?_
  obtain ⟨t23_1, rfl, H⟩ := H
  refine pop_add .i64 x_6 t23_1 ?_
  exact H
def u162 (P : Program) (x0_1 : Int) (h : Heap) (K : Value → Heap → Prop) : Prop :=
  K (VB (!decide (x0_1 = x0_1))) h
theorem v162 (x0_1 : Int) (h : Heap) (K : Value → Heap → Prop) (H : u162 Try.prog x0_1 h K) : callM Try.prog 162 #[(VI x0_1)] h K := by
  refine c162 (VI x0_1) h K ?_
  unfold u162 at H
  unfold t162
  have hL : Vars h [] := .nil
  refine pop_ine .i64 _ _ x0_1 x0_1 ?_
  exact H
end Go.Proofs.Ytkjkfjkapbpgiaa
