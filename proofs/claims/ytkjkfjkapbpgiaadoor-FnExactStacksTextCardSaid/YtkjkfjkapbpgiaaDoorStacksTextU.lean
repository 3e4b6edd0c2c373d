/-
  The same over typed data. Written by a program.
-/
import Derived.Test.YtkjkfjkapbpgiaaDoorStacksTextT
import Derived.Test.YtkjkfjkapbpgiaaDoorM2
set_option linter.unusedVariables false
set_option linter.unusedSimpArgs false
set_option maxRecDepth 100000
set_option maxHeartbeats 16000000
namespace Go.Proofs.YtkjkfjkapbpgiaaDoor
open Go Go.Mx
theorem agg24 : aggC Tryd.prog 24 = some 1 := by kernel_rfl
theorem agg28 : aggC Tryd.prog 28 = some 1 := by kernel_rfl
theorem boo4 : Tryd.prog.underlying 4 = some .bool := by kernel_rfl
theorem fld24_0 : fieldC Tryd.prog 24 0 = some 0 := by kernel_rfl
theorem fld28_0 : fieldC Tryd.prog 28 0 = some 0 := by kernel_rfl
theorem one22 : oneC Tryd.prog 22 = true := by kernel_rfl
theorem one3 : oneC Tryd.prog 3 = true := by kernel_rfl
theorem one34 : oneC Tryd.prog 34 = true := by kernel_rfl
theorem siz22 : sizeC Tryd.prog 22 = some 1 := by kernel_rfl
theorem siz28 : sizeC Tryd.prog 28 = some 1 := by kernel_rfl
theorem siz3 : sizeC Tryd.prog 3 = some 1 := by kernel_rfl
theorem siz34 : sizeC Tryd.prog 34 = some 1 := by kernel_rfl
theorem sli22 : Tryd.prog.underlying 22 = some (.slice 34) := by kernel_rfl
theorem sli34 : Tryd.prog.underlying 34 = some (.slice 3) := by kernel_rfl
theorem zer28 : zeroC Tryd.prog 28 = some (Value.agg #[(Sl.v nilSl)]) := by kernel_rfl
/-! laws.FnExactStacksText -/
def u3 (P : Program) (aS0_1 : Sl) (h : Heap) (K : Value → Heap → Prop) : Prop :=
  ∀ (b_1 : Nat) (h_1 : Heap), h.size ≤ b_1 → Fr (In []) h h_1 → Vars h_1 [(b_1, [(Sl.v aS0_1)])] →
  callM P 7 #[(Value.agg #[(Sl.v aS0_1)]), (VI 1048576)] h_1 fun rv_1 h_2 => ∃ t11_1 : Int, rv_1 = (VI t11_1) ∧ Vars h_2 [(b_1, [(Sl.v aS0_1)])] ∧
  ((decide (t11_1 < 0)) = true →
  K (VB true) h_2) ∧
  ((decide (t11_1 < 0)) = false →
  callM P 9 #[(Value.agg #[(Sl.v aS0_1)])] h_2 fun rv_2 h_3 => ∃ t16_1 : Sl, rv_2 = (Value.agg #[(Sl.v t16_1)]) ∧ Vars h_3 [(b_1, [(Sl.v aS0_1)])] ∧
  callM P 8 #[(Value.agg #[(Sl.v t16_1)])] h_3 fun rv_3 h_4 => ∃ t17_1 : ByteArray, ∃ t17_2 : Bool, rv_3 = (Value.tuple #[(VS t17_1), (VB t17_2)]) ∧ Vars h_4 [(b_1, [(Sl.v aS0_1)])] ∧
  callM P 9 #[(Value.agg #[(Sl.v aS0_1)])] h_4 fun rv_4 h_5 => ∃ t21_1 : Sl, rv_4 = (Value.agg #[(Sl.v t21_1)]) ∧ Vars h_5 [(b_1, [(Sl.v aS0_1)])] ∧
  ∀ (b_2 : Nat) (h_7 : Heap), h_5.size ≤ b_2 → Fr (In []) h_5 h_7 → Vars h_7 [(b_2, [(Sl.v t21_1)]), (b_1, [(Sl.v aS0_1)])] →
  callM P 10 #[(Value.agg #[(Sl.v t21_1)])] h_7 fun rv_5 h_8 => ∃ t24_1 : ByteArray, ∃ t24_2 : Bool, rv_5 = (Value.tuple #[(VS t24_1), (VB t24_2)]) ∧ Vars h_8 [(b_2, [(Sl.v t21_1)]), (b_1, [(Sl.v aS0_1)])] ∧
  ((!(ByteArray.toList t24_1 == ByteArray.toList t17_1)) = true →
  K (VB false) h_8) ∧
  ((!(ByteArray.toList t24_1 == ByteArray.toList t17_1)) = false →
  ((!(t24_2 == t17_2)) = true →
  K (VB false) h_8) ∧
  ((!(t24_2 == t17_2)) = false →
  callM P 9 #[(Value.agg #[(Sl.v aS0_1)])] h_8 fun rv_6 h_9 => ∃ t37_1 : Sl, rv_6 = (Value.agg #[(Sl.v t37_1)]) ∧ Vars h_9 [(b_2, [(Sl.v t21_1)]), (b_1, [(Sl.v aS0_1)])] ∧
  callM P 11 #[(Value.agg #[(Sl.v t21_1)]), (Value.agg #[(Sl.v t37_1)])] h_9 fun rv_7 h_10 => ∃ t38_1 : Bool, rv_7 = (VB t38_1) ∧ Vars h_10 [(b_2, [(Sl.v t21_1)]), (b_1, [(Sl.v aS0_1)])] ∧
  ((!t38_1) = true →
  K (VB false) h_10) ∧
  ((!t38_1) = false →
  K (VB true) h_10))))
theorem v3 (aS0_1 : Sl) (h : Heap) (K : Value → Heap → Prop) (H : u3 Tryd.prog aS0_1 h K) : callM Tryd.prog 3 #[(Value.agg #[(Sl.v aS0_1)])] h K := by
  refine c3 (Value.agg #[(Sl.v aS0_1)]) h K ?_
  unfold u3 at H
  unfold t3
  have hL : Vars h [] := .nil
  refine eop_box 24 (Value.agg #[(Sl.v aS0_1)]) rfl hL (fun b_1 h_1 hb_1 hf_1 hL_1 => ?_)
  refine rop_locA agg24 hL_1 0 rfl 0 (vs := [(Sl.v aS0_1)]) rfl rfl ?_
  have H := H b_1 h_1 (Nat.le_trans (Fr.size (Fr.r (In []) _)) hb_1) (Fr.no' (Fr.r (In []) _) hf_1) hL_1
  refine H.mono fun rv_1 h_2 H => ?_
  obtain ⟨t11_1, rfl, hL_2, H⟩ := H
  refine pop_lss .i64 t11_1 0 ?_
  refine condM_b (fun hb_2 => ?_) (fun hb_2 => ?_)
  ·have H := H.1 hb_2
   exact H
  have H := H.2 hb_2
  refine rop_locA agg24 hL_2 0 rfl 0 (vs := [(Sl.v aS0_1)]) rfl rfl ?_
  refine H.mono fun rv_2 h_3 H => ?_
  obtain ⟨t16_1, rfl, hL_3, H⟩ := H
  refine H.mono fun rv_3 h_4 H => ?_
  obtain ⟨t17_1, t17_2, rfl, hL_4, H⟩ := H
  refine pop_ext (v := (VS t17_1)) rfl ?_
  refine pop_ext (v := (VB t17_2)) rfl ?_
  refine rop_locA agg24 hL_4 0 rfl 0 (vs := [(Sl.v aS0_1)]) rfl rfl ?_
  refine H.mono fun rv_4 h_5 H => ?_
  obtain ⟨t21_1, rfl, hL_5, H⟩ := H
  refine eop_alloc 28 zer28 rfl hL_5 (fun b_2 h_6 hb_3 hf_2 hL_6 => ?_)
  refine uop_loc siz28 hL_6 0 rfl 0 [(Sl.v t21_1)] rfl rfl rfl (Nat.le_of_ble_eq_true rfl) (L' := [(b_2, [(Sl.v t21_1)]), (b_1, [(Sl.v aS0_1)])]) rfl (fun h_7 hf_3 hL_7 => ?_)
  refine rop_locA agg28 hL_7 0 rfl 0 (vs := [(Sl.v t21_1)]) rfl rfl ?_
  have H := H b_2 h_7 (Nat.le_trans (Fr.size (Fr.r (In []) _)) hb_3) (Fr.new (Fr.no' (Fr.r (In []) _) hf_2) (Nat.le_trans (Fr.size (Fr.r (In []) _)) hb_3) hf_3) hL_7
  refine H.mono fun rv_5 h_8 H => ?_
  obtain ⟨t24_1, t24_2, rfl, hL_8, H⟩ := H
  refine pop_ext (v := (VS t24_1)) rfl ?_
  refine pop_ext (v := (VB t24_2)) rfl ?_
  refine pop_sne _ _ t24_1 t17_1 ?_
  refine guardM_sf (fun hb_4 => ?_) (fun hb_4 => ?_)
  rotate_left
  ·have H := H.1 hb_4
   refine guardM_n' hb_4 (by decide) ?_
   refine guardM_n' hb_4 (by decide) ?_
   refine pop_pickt' hb_4 ?_
   refine condM_t ?_
   exact H
  have H := H.2 hb_4
  refine guardM_y' hb_4 ?_
  refine guardM_y' hb_4 ?_
  refine pop_bne boo4 _ _ t24_2 t17_2 ?_
  refine pop_pickf' hb_4 ?_
  refine condM_b (fun hb_5 => ?_) (fun hb_5 => ?_)
  ·have H := H.1 hb_5
   exact H
  have H := H.2 hb_5
  refine rop_locA agg28 hL_8 0 rfl 0 (vs := [(Sl.v t21_1)]) rfl rfl ?_
  refine rop_locA agg24 hL_8 1 rfl 0 (vs := [(Sl.v aS0_1)]) rfl rfl ?_
  refine H.mono fun rv_6 h_9 H => ?_
  obtain ⟨t37_1, rfl, hL_9, H⟩ := H
  refine ⟨?_, ?_⟩
  ·exact still_locA agg28 hL_9 0 rfl 0 (vs := [(Sl.v t21_1)]) rfl rfl
  refine H.mono fun rv_7 h_10 H => ?_
  obtain ⟨t38_1, rfl, hL_10, H⟩ := H
  refine pop_not t38_1 ?_
  refine condM_b (fun hb_6 => ?_) (fun hb_6 => ?_)
  ·have H := H.1 hb_6
   exact H
  have H := H.2 hb_6
  exact H

/-! laws.szStacks -/
def u7 (P : Program) (a0_1 : Sl) (left1_1 : Int) (h : Heap) (K : Value → Heap → Prop) : Prop :=
  ∀ (b_1 : Nat) (h_1 : Heap), h.size ≤ b_1 → Fr (In []) h h_1 → Vars h_1 [(b_1, [(Sl.v a0_1)])] →
  callM P 50 #[(Sl.v a0_1), (VI left1_1)] h_1 fun rv_1 h_2 => ∃ t8_1 : Int, rv_1 = (VI t8_1) ∧ Vars h_2 [(b_1, [(Sl.v a0_1)])] ∧
  ((decide (t8_1 < 0)) = true →
  K (VI (-1)) h_2) ∧
  ((decide (t8_1 < 0)) = false →
  K (VI t8_1) h_2)
theorem v7 (a0_1 : Sl) (left1_1 : Int) (h : Heap) (K : Value → Heap → Prop) (H : u7 Tryd.prog a0_1 left1_1 h K) : callM Tryd.prog 7 #[(Value.agg #[(Sl.v a0_1)]), (VI left1_1)] h K := by
  refine c7 (Value.agg #[(Sl.v a0_1)]) (VI left1_1) h K ?_
  unfold u7 at H
  unfold t7
  have hL : Vars h [] := .nil
  refine eop_box 24 (Value.agg #[(Sl.v a0_1)]) rfl hL (fun b_1 h_1 hb_1 hf_1 hL_1 => ?_)
  refine pop_field 0 fld24_0 b_1 0 ?_
  refine rop_loc one22 hL_1 0 rfl 0 (v := (Sl.v a0_1)) rfl ?_
  have H := H b_1 h_1 (Nat.le_trans (Fr.size (Fr.r (In []) _)) hb_1) (Fr.no' (Fr.r (In []) _) hf_1) hL_1
  refine H.mono fun rv_1 h_2 H => ?_
  obtain ⟨t8_1, rfl, hL_2, H⟩ := H
  refine pop_lss .i64 t8_1 0 ?_
  refine condM_b (fun hb_2 => ?_) (fun hb_2 => ?_)
  ·have H := H.1 hb_2
   exact H
  have H := H.2 hb_2
  exact H

/-! spec.StacksText -/
def u8 (P : Program) (s0_1 : Sl) (h : Heap) (K : Value → Heap → Prop) : Prop :=
  ∀ (b_1 : Nat) (h_1 : Heap), h.size ≤ b_1 → Fr (In []) h h_1 → Vars h_1 [(b_1, [(Sl.v s0_1)])] →
  callM P 51 #[(VI (s0_1.n : Int)), (VI 1), (VI 8)] h_1 fun rv_1 h_2 => ∃ t13_1 : Bool, rv_1 = (VB t13_1) ∧ Vars h_2 [(b_1, [(Sl.v s0_1)])] ∧
  ((!t13_1) = true →
  K (Value.tuple #[(VS ({ data := #[] })), (VB false)]) h_2) ∧
  ((!t13_1) = false →
  ∃ J_1 : Nat → ByteArray → Bool → Int → Heap → Prop, (∃ n0 : Nat, J_1 n0 ({ data := #[] }) false 0 h_2) ∧
  ∀ (n_1 : Nat) (out4_1 : ByteArray) (empty5_1 : Bool) (t18_1 : Int) (h_3 : Heap), J_1 n_1 out4_1 empty5_1 t18_1 h_3 → Vars h_3 [(b_1, [(Sl.v s0_1)])] →
  ((decide (t18_1 < (s0_1.n : Int))) = true →
  InB s0_1 t18_1 ∧
  ∃ t22_1 : Sl, hcell h_3 (Sl.at s0_1 t18_1 1) = some (Sl.v t22_1) ∧
  ((decide (12 < (t22_1.n : Int))) = true →
  K (Value.tuple #[(VS ({ data := #[] })), (VB false)]) h_3) ∧
  ((decide (12 < (t22_1.n : Int))) = false →
  callM P 52 #[(Sl.v t22_1), (VI 0), (VI 4)] h_3 fun rv_2 h_4 => ∃ t28_1 : Bool, rv_2 = (VB t28_1) ∧ Vars h_4 [(b_1, [(Sl.v s0_1)])] ∧
  ((!t28_1) = true →
  K (Value.tuple #[(VS ({ data := #[] })), (VB false)]) h_4) ∧
  ((!t28_1) = false →
  ∃ J_2 : ByteArray → Heap → Prop, (((decide (0 < t18_1)) = true →
  ByteArray.size out4_1 + ByteArray.size ({ data := #[59] }) ≤ 9223372036854775807 ∧
  J_2 (out4_1 ++ ({ data := #[59] })) h_4) ∧
  ((decide (0 < t18_1)) = false →
  J_2 out4_1 h_4)) ∧
  ∀ (x_1 : ByteArray) (h_5 : Heap), J_2 x_1 h_5 → Vars h_5 [(b_1, [(Sl.v s0_1)])] →
  ∃ J_3 : ByteArray → Bool → Heap → Prop, (((decide ((t22_1.n : Int) = 0)) = true →
  ByteArray.size x_1 + ByteArray.size ({ data := #[45] }) ≤ 9223372036854775807 ∧
  J_3 (x_1 ++ ({ data := #[45] })) true h_5) ∧
  ((decide ((t22_1.n : Int) = 0)) = false →
  J_3 x_1 empty5_1 h_5)) ∧
  ∀ (x_2 : ByteArray) (x_3 : Bool) (h_6 : Heap), J_3 x_2 x_3 h_6 → Vars h_6 [(b_1, [(Sl.v s0_1)])] →
  ∃ J_4 : Nat → ByteArray → Int → Heap → Prop, (∃ n0 : Nat, J_4 n0 x_2 0 h_6) ∧
  ∀ (n_2 : Nat) (out4_2 : ByteArray) (t42_1 : Int) (h_7 : Heap), J_4 n_2 out4_2 t42_1 h_7 → Vars h_7 [(b_1, [(Sl.v s0_1)])] →
  ((decide (t42_1 < (t22_1.n : Int))) = true →
  InB t22_1 t42_1 ∧
  ∃ t46_1 : Int, hcell h_7 (Sl.at t22_1 t42_1 1) = some (VI t46_1) ∧
  ∃ J_5 : ByteArray → Heap → Prop, (((decide (0 < t42_1)) = true →
  ByteArray.size out4_2 + ByteArray.size ({ data := #[44] }) ≤ 9223372036854775807 ∧
  J_5 (out4_2 ++ ({ data := #[44] })) h_7) ∧
  ((decide (0 < t42_1)) = false →
  J_5 out4_2 h_7)) ∧
  ∀ (x_4 : ByteArray) (h_8 : Heap), J_5 x_4 h_8 → Vars h_8 [(b_1, [(Sl.v s0_1)])] →
  callM P 53 #[(VI t46_1)] h_8 fun rv_3 h_9 => ∃ t53_1 : ByteArray, rv_3 = (VS t53_1) ∧ Vars h_9 [(b_1, [(Sl.v s0_1)])] ∧
  ByteArray.size x_4 + ByteArray.size t53_1 ≤ 9223372036854775807 ∧
  ∃ m : Nat, m < n_2 ∧ J_4 m (x_4 ++ t53_1) (w64 (t42_1 + 1)) h_9) ∧
  ((decide (t42_1 < (t22_1.n : Int))) = false →
  ∃ m : Nat, m < n_1 ∧ J_1 m out4_2 x_3 (w64 (t18_1 + 1)) h_7)))) ∧
  ((decide (t18_1 < (s0_1.n : Int))) = false →
  ((!empty5_1) = true →
  K (Value.tuple #[(VS ({ data := #[] })), (VB false)]) h_3) ∧
  ((!empty5_1) = false →
  K (Value.tuple #[(VS out4_1), (VB true)]) h_3)))
theorem v8 (s0_1 : Sl) (h : Heap) (K : Value → Heap → Prop) (H : u8 Tryd.prog s0_1 h K) : callM Tryd.prog 8 #[(Value.agg #[(Sl.v s0_1)])] h K := by
  refine c8 (Value.agg #[(Sl.v s0_1)]) h K ?_
  unfold u8 at H
  unfold t8
  have hL : Vars h [] := .nil
  refine eop_box 28 (Value.agg #[(Sl.v s0_1)]) rfl hL (fun b_1 h_1 hb_1 hf_1 hL_1 => ?_)
  refine pop_field 0 fld28_0 b_1 0 ?_
  refine rop_loc one22 hL_1 0 rfl 0 (v := (Sl.v s0_1)) rfl ?_
  refine pop_len s0_1 _ _ sli22 ?_
  have H := H b_1 h_1 (Nat.le_trans (Fr.size (Fr.r (In []) _)) hb_1) (Fr.no' (Fr.r (In []) _) hf_1) hL_1
  refine H.mono fun rv_1 h_2 H => ?_
  obtain ⟨t13_1, rfl, hL_2, H⟩ := H
  refine pop_not t13_1 ?_
  refine condM_b (fun hb_2 => ?_) (fun hb_2 => ?_)
  ·have H := H.1 hb_2
   exact H
  have H := H.2 hb_2
  refine pop_field 0 fld28_0 b_1 0 ?_
  refine rop_loc one22 hL_2 0 rfl 0 (v := (Sl.v s0_1)) rfl ?_
  refine pop_len s0_1 _ _ sli22 ?_
  obtain ⟨J_1, ⟨n_4, h0_2⟩, HB_5⟩ := H
  refine loop_intro (J := fun (n : Nat) (vs : List Value) (h' : Heap) => ∃ out4_1 : ByteArray, ∃ empty5_1 : Bool, ∃ t18_1 : Int, vs = [(VS out4_1), (VB empty5_1), (VI t18_1)] ∧ J_1 n out4_1 empty5_1 t18_1 h' ∧ Vars h' [(b_1, [(Sl.v s0_1)])]) n_4 ⟨({ data := #[] }), false, 0, rfl, h0_2, hL_2⟩ ?_
  intro I_2 mu_2 hI_2 junk_1 tv_7 tv_8 tv_9 h_3 hi_1
  obtain ⟨n_1, ⟨out4_1, empty5_1, t18_1, hv, hJ_1, hL_3⟩, hn_1⟩ := hI_2 _ _ hi_1
  cases hv
  have H := HB_5 n_1 out4_1 empty5_1 t18_1 h_3 hJ_1 hL_3
  refine pop_lss .i64 t18_1 (s0_1.n : Int) ?_
  refine condM_b (fun hb_3 => ?_) (fun hb_3 => ?_)
  rotate_left
  ·have H := H.2 hb_3
   refine pop_not empty5_1 ?_
   refine condM_b (fun hb_10 => ?_) (fun hb_10 => ?_)
   ·have H := H.1 hb_10
    exact H
   have H := H.2 hb_10
   exact H
  have H := H.1 hb_3
  obtain ⟨hi_2, H⟩ := H
  refine pop_index sli22 siz34 .i64 s0_1 t18_1 hi_2 ?_
  obtain ⟨t22_1, hc_2, H⟩ := H
  refine rop_one one34 (Sl.v t22_1) hc_2 ?_
  refine pop_len t22_1 _ _ sli34 ?_
  refine pop_gtr .i64 (t22_1.n : Int) 12 ?_
  refine guardM_sf (fun hb_4 => ?_) (fun hb_4 => ?_)
  rotate_left
  ·have H := H.1 hb_4
   refine guardM_n' hb_4 (by decide) ?_
   refine guardM_n' hb_4 (by decide) ?_
   refine pop_pickt' hb_4 ?_
   refine condM_t ?_
   exact H
  have H := H.2 hb_4
  refine guardM_y' hb_4 ?_
  refine H.mono fun rv_2 h_4 H => ?_
  obtain ⟨t28_1, rfl, hL_4, H⟩ := H
  refine guardM_y' hb_4 ?_
  refine pop_not t28_1 ?_
  refine pop_pickf' hb_4 ?_
  refine condM_b (fun hb_5 => ?_) (fun hb_5 => ?_)
  ·have H := H.1 hb_5
   exact H
  have H := H.2 hb_5
  obtain ⟨J_2, H, HB_4⟩ := H
  refine ⟨fun (vs : List Value) (h' : Heap) => ∃ x_1 : ByteArray, vs = [(VS x_1)] ∧ J_2 x_1 h' ∧ Vars h' [(b_1, [(Sl.v s0_1)])], ?_, ?_⟩
  ·refine pop_gtr .i64 t18_1 0 ?_
   refine condM_b (fun hb_6 => ?_) (fun hb_6 => ?_)
   rotate_left
   ·have H := H.2 hb_6
    exact ⟨out4_1, rfl, H, hL_4⟩
   have H := H.1 hb_6
   obtain ⟨hz_1, H⟩ := H
   refine pop_sadd out4_1 ({ data := #[59] }) hz_1 ?_
   exact ⟨(out4_1 ++ ({ data := #[59] })), rfl, H, hL_4⟩
  intro junk_2 tv_1 h_5
  rintro ⟨x_1, hv, hJ_2, hL_5⟩
  cases hv
  have H := HB_4 x_1 h_5 hJ_2 hL_5
  obtain ⟨J_3, H, HB_3⟩ := H
  refine ⟨fun (vs : List Value) (h' : Heap) => ∃ x_2 : ByteArray, ∃ x_3 : Bool, vs = [(VS x_2), (VB x_3)] ∧ J_3 x_2 x_3 h' ∧ Vars h' [(b_1, [(Sl.v s0_1)])], ?_, ?_⟩
  ·refine pop_len t22_1 _ _ sli34 ?_
   refine pop_ieq .i64 _ _ (t22_1.n : Int) 0 ?_
   refine condM_b (fun hb_7 => ?_) (fun hb_7 => ?_)
   rotate_left
   ·have H := H.2 hb_7
    exact ⟨x_1, empty5_1, rfl, H, hL_5⟩
   have H := H.1 hb_7
   obtain ⟨hz_2, H⟩ := H
   refine pop_sadd x_1 ({ data := #[45] }) hz_2 ?_
   exact ⟨(x_1 ++ ({ data := #[45] })), true, rfl, H, hL_5⟩
  intro junk_3 tv_2 tv_3 h_6
  rintro ⟨x_2, x_3, hv, hJ_3, hL_6⟩
  cases hv
  have H := HB_3 x_2 x_3 h_6 hJ_3 hL_6
  refine pop_len t22_1 _ _ sli34 ?_
  obtain ⟨J_4, ⟨n_3, h0_1⟩, HB_2⟩ := H
  refine loop_intro (J := fun (n : Nat) (vs : List Value) (h' : Heap) => ∃ out4_2 : ByteArray, ∃ t42_1 : Int, vs = [(VS out4_2), (VI t42_1)] ∧ J_4 n out4_2 t42_1 h' ∧ Vars h' [(b_1, [(Sl.v s0_1)])]) n_3 ⟨x_2, 0, rfl, h0_1, hL_6⟩ ?_
  intro I_1 mu_1 hI_1 junk_4 tv_5 tv_6 h_7 hi_3
  obtain ⟨n_2, ⟨out4_2, t42_1, hv, hJ_4, hL_7⟩, hn_2⟩ := hI_1 _ _ hi_3
  cases hv
  have H := HB_2 n_2 out4_2 t42_1 h_7 hJ_4 hL_7
  refine pop_lss .i64 t42_1 (t22_1.n : Int) ?_
  refine condM_b (fun hb_8 => ?_) (fun hb_8 => ?_)
  rotate_left
  ·have H := H.2 hb_8
   refine pop_add .i64 t18_1 1 ?_
   obtain ⟨m_2, hm_2, H⟩ := H
   exact hn_1 _ _ ⟨m_2, hm_2, out4_2, x_3, (w64 (t18_1 + 1)), rfl, H, hL_7⟩
  have H := H.1 hb_8
  obtain ⟨hi_4, H⟩ := H
  refine pop_index sli34 siz3 .i64 t22_1 t42_1 hi_4 ?_
  obtain ⟨t46_1, hc_1, H⟩ := H
  refine rop_one one3 (VI t46_1) hc_1 ?_
  obtain ⟨J_5, H, HB_1⟩ := H
  refine ⟨fun (vs : List Value) (h' : Heap) => ∃ x_4 : ByteArray, vs = [(VS x_4)] ∧ J_5 x_4 h' ∧ Vars h' [(b_1, [(Sl.v s0_1)])], ?_, ?_⟩
  ·refine pop_gtr .i64 t42_1 0 ?_
   refine condM_b (fun hb_9 => ?_) (fun hb_9 => ?_)
   rotate_left
   ·have H := H.2 hb_9
    exact ⟨out4_2, rfl, H, hL_7⟩
   have H := H.1 hb_9
   obtain ⟨hz_3, H⟩ := H
   refine pop_sadd out4_2 ({ data := #[44] }) hz_3 ?_
   exact ⟨(out4_2 ++ ({ data := #[44] })), rfl, H, hL_7⟩
  intro junk_5 tv_4 h_8
  rintro ⟨x_4, hv, hJ_5, hL_8⟩
  cases hv
  have H := HB_1 x_4 h_8 hJ_5 hL_8
  refine H.mono fun rv_3 h_9 H => ?_
  obtain ⟨t53_1, rfl, hL_9, H⟩ := H
  obtain ⟨hz_4, H⟩ := H
  refine pop_sadd x_4 t53_1 hz_4 ?_
  refine pop_add .i64 t42_1 1 ?_
  obtain ⟨m_1, hm_1, H⟩ := H
  exact hn_2 _ _ ⟨m_1, hm_1, (x_4 ++ t53_1), (w64 (t42_1 + 1)), rfl, H, hL_9⟩

/-! laws.toStacks -/
def u9 (P : Program) (a0_1 : Sl) (h : Heap) (K : Value → Heap → Prop) : Prop :=
  ∀ (b_1 : Nat) (b_2 : Nat) (b_3 : Nat) (h_3 : Heap), h.size ≤ b_1 → h.size ≤ b_2 → h.size ≤ b_3 → Fr (In []) h h_3 → Vars h_3 [(b_3, [(Sl.v nilSl)]), (b_2, [(Sl.v nilSl)]), (b_1, [(Sl.v a0_1)])] →
  callM P 54 #[(Sl.v a0_1)] h_3 fun rv_1 h_4 => ∃ t6_1 : Sl, rv_1 = (Sl.v t6_1) ∧ Vars h_4 [(b_3, [(Sl.v nilSl)]), (b_2, [(Sl.v nilSl)]), (b_1, [(Sl.v a0_1)])] ∧
  ∀ (h_6 : Heap), Fr (In [b_2, b_3]) h_4 h_6 → Vars h_6 [(b_3, [(Sl.v t6_1)]), (b_2, [(Sl.v t6_1)]), (b_1, [(Sl.v a0_1)])] →
  K (Value.agg #[(Sl.v t6_1)]) h_6
theorem v9 (a0_1 : Sl) (h : Heap) (K : Value → Heap → Prop) (H : u9 Tryd.prog a0_1 h K) : callM Tryd.prog 9 #[(Value.agg #[(Sl.v a0_1)])] h K := by
  refine c9 (Value.agg #[(Sl.v a0_1)]) h K ?_
  unfold u9 at H
  unfold t9
  have hL : Vars h [] := .nil
  refine eop_box 24 (Value.agg #[(Sl.v a0_1)]) rfl hL (fun b_1 h_1 hb_1 hf_1 hL_1 => ?_)
  refine eop_alloc 28 zer28 rfl hL_1 (fun b_2 h_2 hb_2 hf_2 hL_2 => ?_)
  refine eop_alloc 28 zer28 rfl hL_2 (fun b_3 h_3 hb_3 hf_3 hL_3 => ?_)
  refine pop_field 0 fld24_0 b_1 0 ?_
  refine rop_loc one22 hL_3 2 rfl 0 (v := (Sl.v a0_1)) rfl ?_
  have H := H b_1 b_2 b_3 h_3 (Nat.le_trans (Fr.size (Fr.r (In []) _)) hb_1) (Nat.le_trans (Fr.size (Fr.no' (Fr.r (In []) _) hf_1)) hb_2) (Nat.le_trans (Fr.size (Fr.no' (Fr.no' (Fr.r (In []) _) hf_1) hf_2)) hb_3) (Fr.no' (Fr.no' (Fr.no' (Fr.r (In []) _) hf_1) hf_2) hf_3) hL_3
  refine H.mono fun rv_1 h_4 H => ?_
  obtain ⟨t6_1, rfl, hL_4, H⟩ := H
  refine pop_field 0 fld28_0 b_3 0 ?_
  refine uop_loc siz22 hL_4 0 rfl 0 [(Sl.v t6_1)] rfl rfl rfl (Nat.le_of_ble_eq_true rfl) (L' := [(b_3, [(Sl.v t6_1)]), (b_2, [(Sl.v nilSl)]), (b_1, [(Sl.v a0_1)])]) rfl (fun h_5 hf_4 hL_5 => ?_)
  refine rop_locA agg28 hL_5 0 rfl 0 (vs := [(Sl.v t6_1)]) rfl rfl ?_
  refine uop_loc siz28 hL_5 1 rfl 0 [(Sl.v t6_1)] rfl rfl rfl (Nat.le_of_ble_eq_true rfl) (L' := [(b_3, [(Sl.v t6_1)]), (b_2, [(Sl.v t6_1)]), (b_1, [(Sl.v a0_1)])]) rfl (fun h_6 hf_5 hL_6 => ?_)
  refine rop_locA agg28 hL_6 1 rfl 0 (vs := [(Sl.v t6_1)]) rfl rfl ?_
  have H := H  h_6  (Fr.old (Fr.old (Fr.r (In []) _) hf_4) hf_5) hL_6
  exact H

/-! impl.StacksText -/
def u10 (P : Program) (s0_1 : Sl) (h : Heap) (K : Value → Heap → Prop) : Prop :=
  ∀ (b_1 : Nat) (h_1 : Heap), h.size ≤ b_1 → Fr (In []) h h_1 → Vars h_1 [(b_1, [(Sl.v s0_1)])] →
  callM P 55 #[(VI (s0_1.n : Int)), (VI 1), (VI 8)] h_1 fun rv_1 h_2 => ∃ t11_1 : Bool, rv_1 = (VB t11_1) ∧ Vars h_2 [(b_1, [(Sl.v s0_1)])] ∧
  ((!t11_1) = true →
  K (Value.tuple #[(VS ({ data := #[] })), (VB false)]) h_2) ∧
  ((!t11_1) = false →
  eop P (Instr.buildSlice 79 0 #[]) h_2 fun rv_2 h_3 => ∃ t13_1 : Sl, rv_2 = (Sl.v t13_1) ∧ Vars h_3 [(b_1, [(Sl.v s0_1)])] ∧
  ∃ J_1 : Nat → Bool → Sl → Int → Heap → Prop, (∃ n0 : Nat, J_1 n0 false t13_1 0 h_3) ∧
  ∀ (n_1 : Nat) (empty4_1 : Bool) (words5_1 : Sl) (t17_1 : Int) (h_4 : Heap), J_1 n_1 empty4_1 words5_1 t17_1 h_4 → Vars h_4 [(b_1, [(Sl.v s0_1)])] →
  ((decide (t17_1 < (s0_1.n : Int))) = true →
  InB s0_1 t17_1 ∧
  ∃ t20_1 : Sl, hcell h_4 (Sl.at s0_1 t17_1 1) = some (Sl.v t20_1) ∧
  ((decide (12 < (t20_1.n : Int))) = true →
  K (Value.tuple #[(VS ({ data := #[] })), (VB false)]) h_4) ∧
  ((decide (12 < (t20_1.n : Int))) = false →
  callM P 56 #[(Sl.v t20_1), (Value.func (.func 57) #[] #[])] h_4 fun rv_3 h_5 => ∃ t26_1 : Bool, rv_3 = (VB t26_1) ∧ Vars h_5 [(b_1, [(Sl.v s0_1)])] ∧
  (t26_1 = true →
  K (Value.tuple #[(VS ({ data := #[] })), (VB false)]) h_5) ∧
  (t26_1 = false →
  (empty4_1 = true →
  callM P 58 #[(Sl.v t20_1)] h_5 fun rv_7 h_9 => ∃ t36_2 : ByteArray, rv_7 = (VS t36_2) ∧ Vars h_9 [(b_1, [(Sl.v s0_1)])] ∧
  eop P (Instr.buildSlice 79 1 #[(0, (VS t36_2))]) h_9 fun rv_8 h_10 => ∃ t37_2 : Sl, rv_8 = (Sl.v t37_2) ∧ Vars h_10 [(b_1, [(Sl.v s0_1)])] ∧
  eop P (appS 79 79 79 (Sl.v words5_1) (Sl.v t37_2)) h_10 fun rv_9 h_11 => ∃ t38_2 : Sl, rv_9 = (Sl.v t38_2) ∧ Vars h_11 [(b_1, [(Sl.v s0_1)])] ∧
  ∃ m : Nat, m < n_1 ∧ J_1 m true t38_2 (w64 (t17_1 + 1)) h_11) ∧
  (empty4_1 = false →
  callM P 58 #[(Sl.v t20_1)] h_5 fun rv_4 h_6 => ∃ t36_1 : ByteArray, rv_4 = (VS t36_1) ∧ Vars h_6 [(b_1, [(Sl.v s0_1)])] ∧
  eop P (Instr.buildSlice 79 1 #[(0, (VS t36_1))]) h_6 fun rv_5 h_7 => ∃ t37_1 : Sl, rv_5 = (Sl.v t37_1) ∧ Vars h_7 [(b_1, [(Sl.v s0_1)])] ∧
  eop P (appS 79 79 79 (Sl.v words5_1) (Sl.v t37_1)) h_7 fun rv_6 h_8 => ∃ t38_1 : Sl, rv_6 = (Sl.v t38_1) ∧ Vars h_8 [(b_1, [(Sl.v s0_1)])] ∧
  ∃ m : Nat, m < n_1 ∧ J_1 m (decide ((t20_1.n : Int) = 0)) t38_1 (w64 (t17_1 + 1)) h_8)))) ∧
  ((decide (t17_1 < (s0_1.n : Int))) = false →
  ((!empty4_1) = true →
  K (Value.tuple #[(VS ({ data := #[] })), (VB false)]) h_4) ∧
  ((!empty4_1) = false →
  callM P 59 #[(Sl.v words5_1), (VS ({ data := #[59] }))] h_4 fun rv_10 h_12 => ∃ t43_1 : ByteArray, rv_10 = (VS t43_1) ∧ Vars h_12 [(b_1, [(Sl.v s0_1)])] ∧
  K (Value.tuple #[(VS t43_1), (VB true)]) h_12)))
theorem v10 (s0_1 : Sl) (h : Heap) (K : Value → Heap → Prop) (H : u10 Tryd.prog s0_1 h K) : callM Tryd.prog 10 #[(Value.agg #[(Sl.v s0_1)])] h K := by
  refine c10 (Value.agg #[(Sl.v s0_1)]) h K ?_
  unfold u10 at H
  unfold t10
  have hL : Vars h [] := .nil
  refine eop_box 28 (Value.agg #[(Sl.v s0_1)]) rfl hL (fun b_1 h_1 hb_1 hf_1 hL_1 => ?_)
  refine pop_field 0 fld28_0 b_1 0 ?_
  refine rop_loc one22 hL_1 0 rfl 0 (v := (Sl.v s0_1)) rfl ?_
  refine pop_len s0_1 _ _ sli22 ?_
  have H := H b_1 h_1 (Nat.le_trans (Fr.size (Fr.r (In []) _)) hb_1) (Fr.no' (Fr.r (In []) _) hf_1) hL_1
  refine H.mono fun rv_1 h_2 H => ?_
  obtain ⟨t11_1, rfl, hL_2, H⟩ := H
  refine pop_not t11_1 ?_
  refine condM_b (fun hb_2 => ?_) (fun hb_2 => ?_)
  ·have H := H.1 hb_2
   exact H
  have H := H.2 hb_2
  refine H.mono fun rv_2 h_3 H => ?_
  obtain ⟨t13_1, rfl, hL_3, H⟩ := H
  refine pop_field 0 fld28_0 b_1 0 ?_
  refine rop_loc one22 hL_3 0 rfl 0 (v := (Sl.v s0_1)) rfl ?_
  refine pop_len s0_1 _ _ sli22 ?_
  obtain ⟨J_1, ⟨n_2, h0_1⟩, HB_1⟩ := H
  refine loop_intro (J := fun (n : Nat) (vs : List Value) (h' : Heap) => ∃ empty4_1 : Bool, ∃ words5_1 : Sl, ∃ t17_1 : Int, vs = [(VB empty4_1), (Sl.v words5_1), (VI t17_1)] ∧ J_1 n empty4_1 words5_1 t17_1 h' ∧ Vars h' [(b_1, [(Sl.v s0_1)])]) n_2 ⟨false, t13_1, 0, rfl, h0_1, hL_3⟩ ?_
  intro I_1 mu_1 hI_1 junk_1 tv_1 tv_2 tv_3 h_4 hi_1
  obtain ⟨n_1, ⟨empty4_1, words5_1, t17_1, hv, hJ_1, hL_4⟩, hn_1⟩ := hI_1 _ _ hi_1
  cases hv
  have H := HB_1 n_1 empty4_1 words5_1 t17_1 h_4 hJ_1 hL_4
  refine pop_lss .i64 t17_1 (s0_1.n : Int) ?_
  refine condM_b (fun hb_3 => ?_) (fun hb_3 => ?_)
  rotate_left
  ·have H := H.2 hb_3
   refine pop_not empty4_1 ?_
   refine condM_b (fun hb_7 => ?_) (fun hb_7 => ?_)
   ·have H := H.1 hb_7
    exact H
   have H := H.2 hb_7
   refine H.mono fun rv_10 h_12 H => ?_
   obtain ⟨t43_1, rfl, hL_12, H⟩ := H
   exact H
  have H := H.1 hb_3
  obtain ⟨hi_2, H⟩ := H
  refine pop_index sli22 siz34 .i64 s0_1 t17_1 hi_2 ?_
  obtain ⟨t20_1, hc_1, H⟩ := H
  refine rop_one one34 (Sl.v t20_1) hc_1 ?_
  refine pop_len t20_1 _ _ sli34 ?_
  refine pop_gtr .i64 (t20_1.n : Int) 12 ?_
  refine guardM_sf (fun hb_4 => ?_) (fun hb_4 => ?_)
  rotate_left
  ·have H := H.1 hb_4
   refine guardM_n' hb_4 (by decide) ?_
   refine pop_pickt' hb_4 ?_
   refine condM_t ?_
   exact H
  have H := H.2 hb_4
  refine guardM_y' hb_4 ?_
  refine H.mono fun rv_3 h_5 H => ?_
  obtain ⟨t26_1, rfl, hL_5, H⟩ := H
  refine pop_pickf' hb_4 ?_
  refine condM_b (fun hb_5 => ?_) (fun hb_5 => ?_)
  ·have H := H.1 hb_5
   exact H
  have H := H.2 hb_5
  refine guardM_sf (fun hb_6 => ?_) (fun hb_6 => ?_)
  rotate_left
  ·have H := H.1 hb_6
   refine guardM_n' hb_6 (by decide) ?_
   refine guardM_n' hb_6 (by decide) ?_
   refine pop_pickt' hb_6 ?_
   refine H.mono fun rv_7 h_9 H => ?_
   obtain ⟨t36_2, rfl, hL_9, H⟩ := H
   refine H.mono fun rv_8 h_10 H => ?_
   obtain ⟨t37_2, rfl, hL_10, H⟩ := H
   refine H.mono fun rv_9 h_11 H => ?_
   obtain ⟨t38_2, rfl, hL_11, H⟩ := H
   refine pop_add .i64 t17_1 1 ?_
   obtain ⟨m_2, hm_2, H⟩ := H
   exact hn_1 _ _ ⟨m_2, hm_2, true, t38_2, (w64 (t17_1 + 1)), rfl, H, hL_11⟩
  have H := H.2 hb_6
  refine guardM_y' hb_6 ?_
  refine pop_len t20_1 _ _ sli34 ?_
  refine guardM_y' hb_6 ?_
  refine pop_ieq .i64 _ _ (t20_1.n : Int) 0 ?_
  refine pop_pickf' hb_6 ?_
  refine H.mono fun rv_4 h_6 H => ?_
  obtain ⟨t36_1, rfl, hL_6, H⟩ := H
  refine H.mono fun rv_5 h_7 H => ?_
  obtain ⟨t37_1, rfl, hL_7, H⟩ := H
  refine H.mono fun rv_6 h_8 H => ?_
  obtain ⟨t38_1, rfl, hL_8, H⟩ := H
  refine pop_add .i64 t17_1 1 ?_
  obtain ⟨m_1, hm_1, H⟩ := H
  exact hn_1 _ _ ⟨m_1, hm_1, (decide ((t20_1.n : Int) = 0)), t38_1, (w64 (t17_1 + 1)), rfl, H, hL_8⟩

/-! laws.eqStacks -/
def u11 (P : Program) (a0_1 : Sl) (b1_1 : Sl) (h : Heap) (K : Value → Heap → Prop) : Prop :=
  ∀ (b_1 : Nat) (b_2 : Nat) (h_2 : Heap), h.size ≤ b_1 → h.size ≤ b_2 → Fr (In []) h h_2 → Vars h_2 [(b_2, [(Sl.v b1_1)]), (b_1, [(Sl.v a0_1)])] →
  callM P 60 #[(Sl.v a0_1), (Sl.v b1_1)] h_2 fun rv_1 h_3 => ∃ t9_1 : Bool, rv_1 = (VB t9_1) ∧ Vars h_3 [(b_2, [(Sl.v b1_1)]), (b_1, [(Sl.v a0_1)])] ∧
  ((!t9_1) = true →
  K (VB false) h_3) ∧
  ((!t9_1) = false →
  K (VB true) h_3)
theorem v11 (a0_1 : Sl) (b1_1 : Sl) (h : Heap) (K : Value → Heap → Prop) (H : u11 Tryd.prog a0_1 b1_1 h K) : callM Tryd.prog 11 #[(Value.agg #[(Sl.v a0_1)]), (Value.agg #[(Sl.v b1_1)])] h K := by
  refine c11 (Value.agg #[(Sl.v a0_1)]) (Value.agg #[(Sl.v b1_1)]) h K ?_
  unfold u11 at H
  unfold t11
  have hL : Vars h [] := .nil
  refine eop_box 28 (Value.agg #[(Sl.v a0_1)]) rfl hL (fun b_1 h_1 hb_1 hf_1 hL_1 => ?_)
  refine eop_box 28 (Value.agg #[(Sl.v b1_1)]) rfl hL_1 (fun b_2 h_2 hb_2 hf_2 hL_2 => ?_)
  refine pop_field 0 fld28_0 b_1 0 ?_
  refine rop_loc one22 hL_2 1 rfl 0 (v := (Sl.v a0_1)) rfl ?_
  refine pop_field 0 fld28_0 b_2 0 ?_
  refine rop_loc one22 hL_2 0 rfl 0 (v := (Sl.v b1_1)) rfl ?_
  have H := H b_1 b_2 h_2 (Nat.le_trans (Fr.size (Fr.r (In []) _)) hb_1) (Nat.le_trans (Fr.size (Fr.no' (Fr.r (In []) _) hf_1)) hb_2) (Fr.no' (Fr.no' (Fr.r (In []) _) hf_1) hf_2) hL_2
  refine H.mono fun rv_1 h_3 H => ?_
  obtain ⟨t9_1, rfl, hL_3, H⟩ := H
  refine pop_not t9_1 ?_
  refine condM_b (fun hb_3 => ?_) (fun hb_3 => ?_)
  ·have H := H.1 hb_3
   exact H
  have H := H.2 hb_3
  exact H

/-! laws.eqIntS -/
def u46 (P : Program) (a0_1 : Sl) (b1_1 : Sl) (h : Heap) (K : Value → Heap → Prop) : Prop :=
  ((!decide ((a0_1.n : Int) = (b1_1.n : Int))) = true →
  K (VB false) h) ∧
  ((!decide ((a0_1.n : Int) = (b1_1.n : Int))) = false →
  ∃ J_1 : Nat → Int → Heap → Prop, (∃ n0 : Nat, J_1 n0 0 h) ∧
  ∀ (n_1 : Nat) (i5_1 : Int) (h_1 : Heap), J_1 n_1 i5_1 h_1 → Vars h_1 [] →
  ((decide (i5_1 < (a0_1.n : Int))) = true →
  InB a0_1 i5_1 ∧
  ∃ t20_1 : Int, hcell h_1 (Sl.at a0_1 i5_1 1) = some (VI t20_1) ∧
  InB b1_1 i5_1 ∧
  ∃ t24_1 : Int, hcell h_1 (Sl.at b1_1 i5_1 1) = some (VI t24_1) ∧
  ((!decide (t20_1 = t24_1)) = true →
  K (VB false) h_1) ∧
  ((!decide (t20_1 = t24_1)) = false →
  ∃ m : Nat, m < n_1 ∧ J_1 m (w64 (i5_1 + 1)) h_1)) ∧
  ((decide (i5_1 < (a0_1.n : Int))) = false →
  K (VB true) h_1))
theorem v46 (a0_1 : Sl) (b1_1 : Sl) (h : Heap) (K : Value → Heap → Prop) (H : u46 Tryd.prog a0_1 b1_1 h K) : callM Tryd.prog 46 #[(Sl.v a0_1), (Sl.v b1_1)] h K := by
  refine c46 (Sl.v a0_1) (Sl.v b1_1) h K ?_
  unfold u46 at H
  unfold t46
  have hL : Vars h [] := .nil
  refine pop_len a0_1 _ _ sli34 ?_
  refine pop_len b1_1 _ _ sli34 ?_
  refine pop_ine .i64 _ _ (a0_1.n : Int) (b1_1.n : Int) ?_
  refine condM_b (fun hb_1 => ?_) (fun hb_1 => ?_)
  ·have H := H.1 hb_1
   exact H
  have H := H.2 hb_1
  obtain ⟨J_1, ⟨n_2, h0_1⟩, HB_1⟩ := H
  refine loop_intro (J := fun (n : Nat) (vs : List Value) (h' : Heap) => ∃ i5_1 : Int, vs = [(VI i5_1)] ∧ J_1 n i5_1 h' ∧ Vars h' []) n_2 ⟨0, rfl, h0_1, hL⟩ ?_
  intro I_1 mu_1 hI_1 junk_1 tv_1 h_1 hi_1
  obtain ⟨n_1, ⟨i5_1, hv, hJ_1, hL_1⟩, hn_1⟩ := hI_1 _ _ hi_1
  cases hv
  have H := HB_1 n_1 i5_1 h_1 hJ_1 hL_1
  refine pop_len a0_1 _ _ sli34 ?_
  refine pop_lss .i64 i5_1 (a0_1.n : Int) ?_
  refine condM_b (fun hb_2 => ?_) (fun hb_2 => ?_)
  rotate_left
  ·have H := H.2 hb_2
   exact H
  have H := H.1 hb_2
  obtain ⟨hi_2, H⟩ := H
  refine pop_index sli34 siz3 .i64 a0_1 i5_1 hi_2 ?_
  obtain ⟨t20_1, hc_2, H⟩ := H
  refine rop_one one3 (VI t20_1) hc_2 ?_
  obtain ⟨hi_3, H⟩ := H
  refine pop_index sli34 siz3 .i64 b1_1 i5_1 hi_3 ?_
  obtain ⟨t24_1, hc_1, H⟩ := H
  refine rop_one one3 (VI t24_1) hc_1 ?_
  refine pop_ine .i64 _ _ t20_1 t24_1 ?_
  refine condM_b (fun hb_3 => ?_) (fun hb_3 => ?_)
  ·have H := H.1 hb_3
   exact H
  have H := H.2 hb_3
  refine pop_add .i64 i5_1 1 ?_
  obtain ⟨m_1, hm_1, H⟩ := H
  exact hn_1 _ _ ⟨m_1, hm_1, (w64 (i5_1 + 1)), rfl, H, hL_1⟩

/-! laws.szIntSS -/
def u50 (P : Program) (a0_1 : Sl) (left1_1 : Int) (h : Heap) (K : Value → Heap → Prop) : Prop :=
  ((decide ((w64 (left1_1 - (a0_1.n : Int))) < 0)) = true →
  K (VI (-1)) h) ∧
  ((decide ((w64 (left1_1 - (a0_1.n : Int))) < 0)) = false →
  ∃ J_1 : Nat → Int → Int → Heap → Prop, (∃ n0 : Nat, J_1 n0 (w64 (left1_1 - (a0_1.n : Int))) 0 h) ∧
  ∀ (n_1 : Nat) (left1_2 : Int) (i5_1 : Int) (h_1 : Heap), J_1 n_1 left1_2 i5_1 h_1 → Vars h_1 [] →
  ((decide (i5_1 < (a0_1.n : Int))) = true →
  InB a0_1 i5_1 ∧
  ∃ t21_1 : Sl, hcell h_1 (Sl.at a0_1 i5_1 1) = some (Sl.v t21_1) ∧
  callM P 61 #[(Sl.v t21_1), (VI left1_2)] h_1 fun rv_1 h_2 => ∃ t23_1 : Int, rv_1 = (VI t23_1) ∧ Vars h_2 [] ∧
  ((decide (t23_1 < 0)) = true →
  K (VI (-1)) h_2) ∧
  ((decide (t23_1 < 0)) = false →
  ∃ m : Nat, m < n_1 ∧ J_1 m t23_1 (w64 (i5_1 + 1)) h_2)) ∧
  ((decide (i5_1 < (a0_1.n : Int))) = false →
  K (VI left1_2) h_1))
theorem v50 (a0_1 : Sl) (left1_1 : Int) (h : Heap) (K : Value → Heap → Prop) (H : u50 Tryd.prog a0_1 left1_1 h K) : callM Tryd.prog 50 #[(Sl.v a0_1), (VI left1_1)] h K := by
  refine c50 (Sl.v a0_1) (VI left1_1) h K ?_
  unfold u50 at H
  unfold t50
  have hL : Vars h [] := .nil
  refine pop_len a0_1 _ _ sli22 ?_
  refine pop_sub .i64 left1_1 (a0_1.n : Int) ?_
  refine pop_lss .i64 (w64 (left1_1 - (a0_1.n : Int))) 0 ?_
  refine condM_b (fun hb_1 => ?_) (fun hb_1 => ?_)
  ·have H := H.1 hb_1
   exact H
  have H := H.2 hb_1
  obtain ⟨J_1, ⟨n_2, h0_1⟩, HB_1⟩ := H
  refine loop_intro (J := fun (n : Nat) (vs : List Value) (h' : Heap) => ∃ left1_2 : Int, ∃ i5_1 : Int, vs = [(VI left1_2), (VI i5_1)] ∧ J_1 n left1_2 i5_1 h' ∧ Vars h' []) n_2 ⟨(w64 (left1_1 - (a0_1.n : Int))), 0, rfl, h0_1, hL⟩ ?_
  intro I_1 mu_1 hI_1 junk_1 tv_1 tv_2 h_1 hi_1
  obtain ⟨n_1, ⟨left1_2, i5_1, hv, hJ_1, hL_1⟩, hn_1⟩ := hI_1 _ _ hi_1
  cases hv
  have H := HB_1 n_1 left1_2 i5_1 h_1 hJ_1 hL_1
  refine pop_len a0_1 _ _ sli22 ?_
  refine pop_lss .i64 i5_1 (a0_1.n : Int) ?_
  refine condM_b (fun hb_2 => ?_) (fun hb_2 => ?_)
  rotate_left
  ·have H := H.2 hb_2
   exact H
  have H := H.1 hb_2
  obtain ⟨hi_2, H⟩ := H
  refine pop_index sli22 siz34 .i64 a0_1 i5_1 hi_2 ?_
  obtain ⟨t21_1, hc_1, H⟩ := H
  refine rop_one one34 (Sl.v t21_1) hc_1 ?_
  refine H.mono fun rv_1 h_2 H => ?_
  obtain ⟨t23_1, rfl, hL_2, H⟩ := H
  refine pop_lss .i64 t23_1 0 ?_
  refine condM_b (fun hb_3 => ?_) (fun hb_3 => ?_)
  ·have H := H.1 hb_3
   exact H
  have H := H.2 hb_3
  refine pop_add .i64 i5_1 1 ?_
  obtain ⟨m_1, hm_1, H⟩ := H
  exact hn_1 _ _ ⟨m_1, hm_1, t23_1, (w64 (i5_1 + 1)), rfl, H, hL_2⟩

/-! spec.l1In -/
def u51 (P : Program) (n0_1 : Int) (lo1_1 : Int) (hi2_1 : Int) (h : Heap) (K : Value → Heap → Prop) : Prop :=
  ((decide (lo1_1 ≤ n0_1)) = true →
  K (VB (decide (n0_1 ≤ hi2_1))) h) ∧
  ((decide (lo1_1 ≤ n0_1)) = false →
  K (VB false) h)
theorem v51 (n0_1 : Int) (lo1_1 : Int) (hi2_1 : Int) (h : Heap) (K : Value → Heap → Prop) (H : u51 Tryd.prog n0_1 lo1_1 hi2_1 h K) : callM Tryd.prog 51 #[(VI n0_1), (VI lo1_1), (VI hi2_1)] h K := by
  refine c51 (VI n0_1) (VI lo1_1) (VI hi2_1) h K ?_
  unfold u51 at H
  unfold t51
  have hL : Vars h [] := .nil
  refine pop_geq .i64 n0_1 lo1_1 ?_
  refine guardM_st (fun hb_1 => ?_) (fun hb_1 => ?_)
  rotate_left
  ·have H := H.2 hb_1
   refine guardM_n' hb_1 (by decide) ?_
   refine guardM_n' hb_1 (by decide) ?_
   refine pop_pickf' hb_1 ?_
   exact H
  have H := H.1 hb_1
  refine guardM_y' hb_1 ?_
  refine guardM_y' hb_1 ?_
  refine pop_leq .i64 n0_1 hi2_1 ?_
  refine pop_pickt' hb_1 ?_
  exact H

/-! spec.l1All -/
def u52 (P : Program) (l0_1 : Sl) (lo1_1 : Int) (hi2_1 : Int) (h : Heap) (K : Value → Heap → Prop) : Prop :=
  ∃ J_1 : Nat → Int → Heap → Prop, (∃ n0 : Nat, J_1 n0 0 h) ∧
  ∀ (n_1 : Nat) (t11_1 : Int) (h_1 : Heap), J_1 n_1 t11_1 h_1 → Vars h_1 [] →
  ((decide (t11_1 < (l0_1.n : Int))) = true →
  InB l0_1 t11_1 ∧
  ∃ t14_1 : Int, hcell h_1 (Sl.at l0_1 t11_1 1) = some (VI t14_1) ∧
  callM P 51 #[(VI t14_1), (VI lo1_1), (VI hi2_1)] h_1 fun rv_1 h_2 => ∃ t18_1 : Bool, rv_1 = (VB t18_1) ∧ Vars h_2 [] ∧
  ((!t18_1) = true →
  K (VB false) h_2) ∧
  ((!t18_1) = false →
  ∃ m : Nat, m < n_1 ∧ J_1 m (w64 (t11_1 + 1)) h_2)) ∧
  ((decide (t11_1 < (l0_1.n : Int))) = false →
  K (VB true) h_1)
theorem v52 (l0_1 : Sl) (lo1_1 : Int) (hi2_1 : Int) (h : Heap) (K : Value → Heap → Prop) (H : u52 Tryd.prog l0_1 lo1_1 hi2_1 h K) : callM Tryd.prog 52 #[(Sl.v l0_1), (VI lo1_1), (VI hi2_1)] h K := by
  refine c52 (Sl.v l0_1) (VI lo1_1) (VI hi2_1) h K ?_
  unfold u52 at H
  unfold t52
  have hL : Vars h [] := .nil
  refine pop_len l0_1 _ _ sli34 ?_
  obtain ⟨J_1, ⟨n_2, h0_1⟩, HB_1⟩ := H
  refine loop_intro (J := fun (n : Nat) (vs : List Value) (h' : Heap) => ∃ t11_1 : Int, vs = [(VI t11_1)] ∧ J_1 n t11_1 h' ∧ Vars h' []) n_2 ⟨0, rfl, h0_1, hL⟩ ?_
  intro I_1 mu_1 hI_1 junk_1 tv_1 h_1 hi_1
  obtain ⟨n_1, ⟨t11_1, hv, hJ_1, hL_1⟩, hn_1⟩ := hI_1 _ _ hi_1
  cases hv
  have H := HB_1 n_1 t11_1 h_1 hJ_1 hL_1
  refine pop_lss .i64 t11_1 (l0_1.n : Int) ?_
  refine condM_b (fun hb_1 => ?_) (fun hb_1 => ?_)
  rotate_left
  ·have H := H.2 hb_1
   exact H
  have H := H.1 hb_1
  obtain ⟨hi_2, H⟩ := H
  refine pop_index sli34 siz3 .i64 l0_1 t11_1 hi_2 ?_
  obtain ⟨t14_1, hc_1, H⟩ := H
  refine rop_one one3 (VI t14_1) hc_1 ?_
  refine H.mono fun rv_1 h_2 H => ?_
  obtain ⟨t18_1, rfl, hL_2, H⟩ := H
  refine pop_not t18_1 ?_
  refine condM_b (fun hb_2 => ?_) (fun hb_2 => ?_)
  ·have H := H.1 hb_2
   exact H
  have H := H.2 hb_2
  refine pop_add .i64 t11_1 1 ?_
  obtain ⟨m_1, hm_1, H⟩ := H
  exact hn_1 _ _ ⟨m_1, hm_1, (w64 (t11_1 + 1)), rfl, H, hL_2⟩

/-! spec.l1Num -/
def u53 (P : Program) (n0_1 : Int) (h : Heap) (K : Value → Heap → Prop) : Prop :=
  ((decide (n0_1 < 10)) = true →
  rop P (convert 3 5 (VI (w64 (48 + n0_1)))) h fun rv_1 => ∃ t7_1 : Int, rv_1 = (Value.int .u8 t7_1) ∧ 
  eop P (Instr.buildSlice 48 1 #[(0, (Value.int .u8 t7_1))]) h fun rv_2 h_1 => ∃ t8_1 : Sl, rv_2 = (Sl.v t8_1) ∧ Vars h_1 [] ∧
  rop P (convert 48 9 (Sl.v t8_1)) h_1 fun rv_3 => ∃ t9_1 : ByteArray, rv_3 = (VS t9_1) ∧ 
  K (VS t9_1) h_1) ∧
  ((decide (n0_1 < 10)) = false →
  rop P (convert 3 5 (VI (w64 (48 + (Int.tmod n0_1 10))))) h fun rv_4 => ∃ t16_1 : Int, rv_4 = (Value.int .u8 t16_1) ∧ 
  (callM P 53 #[(VI (w64 (Int.tdiv n0_1 10)))] h fun rv_5 h_2 => ∃ t12_1 : ByteArray, rv_5 = (VS t12_1) ∧ Vars h_2 [] ∧
  (∀ w : World, w.heap = h_2 → (convert 3 5 (VI (w64 (48 + (Int.tmod n0_1 10))))).run P w = .ok (Value.int .u8 t16_1) w) ∧
  eop P (Instr.buildSlice 48 1 #[(0, (Value.int .u8 t16_1))]) h_2 fun rv_6 h_3 => ∃ t17_1 : Sl, rv_6 = (Sl.v t17_1) ∧ Vars h_3 [] ∧
  rop P (convert 48 9 (Sl.v t17_1)) h_3 fun rv_7 => ∃ t18_1 : ByteArray, rv_7 = (VS t18_1) ∧ 
  ByteArray.size t12_1 + ByteArray.size t18_1 ≤ 9223372036854775807 ∧
  K (VS (t12_1 ++ t18_1)) h_3) ∧
  (eop P (Instr.buildSlice 48 1 #[(0, (Value.int .u8 t16_1))]) h fun rv_8 h_4 => ∃ t17_2 : Sl, rv_8 = (Sl.v t17_2) ∧ Vars h_4 [] ∧
  rop P (convert 48 9 (Sl.v t17_2)) h_4 fun rv_9 => ∃ t18_2 : ByteArray, rv_9 = (VS t18_2) ∧ 
  callM P 53 #[(VI (w64 (Int.tdiv n0_1 10)))] h_4 fun rv_10 h_5 => ∃ t12_2 : ByteArray, rv_10 = (VS t12_2) ∧ Vars h_5 [] ∧
  (∀ w : World, w.heap = h_5 → (convert 48 9 (Sl.v t17_2)).run P w = .ok (VS t18_2) w) ∧
  ByteArray.size t12_2 + ByteArray.size t18_2 ≤ 9223372036854775807 ∧
  K (VS (t12_2 ++ t18_2)) h_5))
theorem v53 (n0_1 : Int) (h : Heap) (K : Value → Heap → Prop) (H : u53 Tryd.prog n0_1 h K) : callM Tryd.prog 53 #[(VI n0_1)] h K := by
  refine c53 (VI n0_1) h K ?_
  unfold u53 at H
  unfold t53
  have hL : Vars h [] := .nil
  refine pop_lss .i64 n0_1 10 ?_
  refine condM_b (fun hb_1 => ?_) (fun hb_1 => ?_)
  ·have H := H.1 hb_1
   refine pop_add .i64 48 n0_1 ?_
   refine H.mono fun rv_1 H => ?_
   obtain ⟨t7_1, rfl, H⟩ := H
   refine H.mono fun rv_2 h_1 H => ?_
   obtain ⟨t8_1, rfl, hL_1, H⟩ := H
   refine H.mono fun rv_3 H => ?_
   obtain ⟨t9_1, rfl, H⟩ := H
   exact H
  have H := H.2 hb_1
  refine pop_quo .i64 n0_1 10 (by decide) ?_
  refine pop_rem .i64 n0_1 10 (by decide) ?_
  refine pop_add .i64 48 (Int.tmod n0_1 10) ?_
  refine H.mono fun rv_4 H => ?_
  obtain ⟨t16_1, rfl, H⟩ := H
  refine ⟨?_, ?_⟩
  ·have H := H.1
   refine H.mono fun rv_5 h_2 H => ?_
   obtain ⟨t12_1, rfl, hL_2, H⟩ := H
   refine ⟨?_, ?_⟩
   ·exact H.1
   obtain ⟨hc_1, H⟩ := H
   refine H.mono fun rv_6 h_3 H => ?_
   obtain ⟨t17_1, rfl, hL_3, H⟩ := H
   refine H.mono fun rv_7 H => ?_
   obtain ⟨t18_1, rfl, H⟩ := H
   obtain ⟨hz_1, H⟩ := H
   refine pop_sadd t12_1 t18_1 hz_1 ?_
   exact H
  have H := H.2
  refine H.mono fun rv_8 h_4 H => ?_
  obtain ⟨t17_2, rfl, hL_4, H⟩ := H
  refine H.mono fun rv_9 H => ?_
  obtain ⟨t18_2, rfl, H⟩ := H
  refine H.mono fun rv_10 h_5 H => ?_
  obtain ⟨t12_2, rfl, hL_5, H⟩ := H
  refine ⟨?_, ?_⟩
  ·exact H.1
  obtain ⟨hc_2, H⟩ := H
  obtain ⟨hz_2, H⟩ := H
  refine pop_sadd t12_2 t18_2 hz_2 ?_
  exact H

/-! laws.toIntSS -/
def u54 (P : Program) (a0_1 : Sl) (h : Heap) (K : Value → Heap → Prop) : Prop :=
  eop P (Instr.makeSlice 22 (VI (a0_1.n : Int)) (VI (a0_1.n : Int))) h fun rv_1 h_1 => ∃ t7_1 : Sl, rv_1 = (Sl.v t7_1) ∧ Vars h_1 [] ∧
  ∃ J_1 : Nat → Int → Heap → Prop, (∃ n0 : Nat, J_1 n0 0 h_1) ∧
  ∀ (n_1 : Nat) (i4_1 : Int) (h_2 : Heap), J_1 n_1 i4_1 h_2 → Vars h_2 [] →
  ((decide (i4_1 < (a0_1.n : Int))) = true →
  InB a0_1 i4_1 ∧
  ∃ t19_1 : Sl, hcell h_2 (Sl.at a0_1 i4_1 1) = some (Sl.v t19_1) ∧
  callM P 64 #[(Sl.v t19_1)] h_2 fun rv_2 h_3 => ∃ t20_1 : Sl, rv_2 = (Sl.v t20_1) ∧ Vars h_3 [] ∧
  InB t7_1 i4_1 ∧
  Writable h_3 (Sl.at t7_1 i4_1 1) ∧ Vars (hset h_3 (Sl.at t7_1 i4_1 1) (Sl.v t20_1)) [] ∧
  ∀ h_4 : Heap, h_4 = hset h_3 (Sl.at t7_1 i4_1 1) (Sl.v t20_1) → Vars h_4 [] →
  ∃ m : Nat, m < n_1 ∧ J_1 m (w64 (i4_1 + 1)) h_4) ∧
  ((decide (i4_1 < (a0_1.n : Int))) = false →
  K (Sl.v t7_1) h_2)
theorem v54 (a0_1 : Sl) (h : Heap) (K : Value → Heap → Prop) (H : u54 Tryd.prog a0_1 h K) : callM Tryd.prog 54 #[(Sl.v a0_1)] h K := by
  refine c54 (Sl.v a0_1) h K ?_
  unfold u54 at H
  unfold t54
  have hL : Vars h [] := .nil
  refine pop_len a0_1 _ _ sli22 ?_
  refine H.mono fun rv_1 h_1 H => ?_
  obtain ⟨t7_1, rfl, hL_1, H⟩ := H
  obtain ⟨J_1, ⟨n_2, h0_1⟩, HB_1⟩ := H
  refine loop_intro (J := fun (n : Nat) (vs : List Value) (h' : Heap) => ∃ i4_1 : Int, vs = [(VI i4_1)] ∧ J_1 n i4_1 h' ∧ Vars h' []) n_2 ⟨0, rfl, h0_1, hL_1⟩ ?_
  intro I_1 mu_1 hI_1 junk_1 tv_1 h_2 hi_1
  obtain ⟨n_1, ⟨i4_1, hv, hJ_1, hL_2⟩, hn_1⟩ := hI_1 _ _ hi_1
  cases hv
  have H := HB_1 n_1 i4_1 h_2 hJ_1 hL_2
  refine pop_len a0_1 _ _ sli22 ?_
  refine pop_lss .i64 i4_1 (a0_1.n : Int) ?_
  refine condM_b (fun hb_1 => ?_) (fun hb_1 => ?_)
  rotate_left
  ·have H := H.2 hb_1
   exact H
  have H := H.1 hb_1
  obtain ⟨hi_2, H⟩ := H
  refine pop_index sli22 siz34 .i64 a0_1 i4_1 hi_2 ?_
  obtain ⟨t19_1, hc_1, H⟩ := H
  refine rop_one one34 (Sl.v t19_1) hc_1 ?_
  refine H.mono fun rv_2 h_3 H => ?_
  obtain ⟨t20_1, rfl, hL_3, H⟩ := H
  obtain ⟨hi_3, H⟩ := H
  refine pop_index sli22 siz34 .i64 t7_1 i4_1 hi_3 ?_
  obtain ⟨hw_1, hL_4, H⟩ := H
  refine uop_cell (v := (Sl.v t20_1)) siz34 hw_1 rfl (fun h_4 he_1 => ?_)
  rw [← he_1] at hL_4
  have H := H h_4 he_1 hL_4
  refine pop_add .i64 i4_1 1 ?_
  obtain ⟨m_1, hm_1, H⟩ := H
  exact hn_1 _ _ ⟨m_1, hm_1, (w64 (i4_1 + 1)), rfl, H, hL_4⟩

/-! impl.in -/
def u55 (P : Program) (n0_1 : Int) (low1_1 : Int) (high2_1 : Int) (h : Heap) (K : Value → Heap → Prop) : Prop :=
  ((decide (low1_1 ≤ n0_1)) = true →
  K (VB (decide (n0_1 ≤ high2_1))) h) ∧
  ((decide (low1_1 ≤ n0_1)) = false →
  K (VB false) h)
theorem v55 (n0_1 : Int) (low1_1 : Int) (high2_1 : Int) (h : Heap) (K : Value → Heap → Prop) (H : u55 Tryd.prog n0_1 low1_1 high2_1 h K) : callM Tryd.prog 55 #[(VI n0_1), (VI low1_1), (VI high2_1)] h K := by
  refine c55 (VI n0_1) (VI low1_1) (VI high2_1) h K ?_
  unfold u55 at H
  unfold t55
  have hL : Vars h [] := .nil
  refine pop_leq .i64 low1_1 n0_1 ?_
  refine guardM_st (fun hb_1 => ?_) (fun hb_1 => ?_)
  rotate_left
  ·have H := H.2 hb_1
   refine guardM_n' hb_1 (by decide) ?_
   refine guardM_n' hb_1 (by decide) ?_
   refine pop_pickf' hb_1 ?_
   exact H
  have H := H.1 hb_1
  refine guardM_y' hb_1 ?_
  refine guardM_y' hb_1 ?_
  refine pop_leq .i64 n0_1 high2_1 ?_
  refine pop_pickt' hb_1 ?_
  exact H

/-! slices.ContainsFunc[[]int,int] -/
def u56 (P : Program) (s0_1 : Sl) (f1_1 : Value) (h : Heap) (K : Value → Heap → Prop) : Prop :=
  callM P 95 #[(Sl.v s0_1), f1_1] h fun rv_1 h_1 => ∃ t7_1 : Int, rv_1 = (VI t7_1) ∧ Vars h_1 [] ∧
  K (VB (decide (0 ≤ t7_1))) h_1
theorem v56 (s0_1 : Sl) (f1_1 : Value) (h : Heap) (K : Value → Heap → Prop) (H : u56 Tryd.prog s0_1 f1_1 h K) : callM Tryd.prog 56 #[(Sl.v s0_1), f1_1] h K := by
  refine c56 (Sl.v s0_1) f1_1 h K ?_
  unfold u56 at H
  unfold t56
  have hL : Vars h [] := .nil
  refine H.mono fun rv_1 h_1 H => ?_
  obtain ⟨t7_1, rfl, hL_1, H⟩ := H
  refine pop_geq .i64 t7_1 0 ?_
  exact H

/-! impl.StacksText$1 -/
def u57 (P : Program) (k0_1 : Int) (h : Heap) (K : Value → Heap → Prop) : Prop :=
  callM P 55 #[(VI k0_1), (VI 0), (VI 4)] h fun rv_1 h_1 => ∃ t4_1 : Bool, rv_1 = (VB t4_1) ∧ Vars h_1 [] ∧
  K (VB (!t4_1)) h_1
theorem v57 (k0_1 : Int) (h : Heap) (K : Value → Heap → Prop) (H : u57 Tryd.prog k0_1 h K) : callM Tryd.prog 57 #[(VI k0_1)] h K := by
  refine c57 (VI k0_1) h K ?_
  unfold u57 at H
  unfold t57
  have hL : Vars h [] := .nil
  refine H.mono fun rv_1 h_1 H => ?_
  obtain ⟨t4_1, rfl, hL_1, H⟩ := H
  refine pop_not t4_1 ?_
  exact H

/-! impl.listText -/
def u58 (P : Program) (list0_1 : Sl) (h : Heap) (K : Value → Heap → Prop) : Prop :=
  ((decide ((list0_1.n : Int) = 0)) = true →
  K (VS ({ data := #[45] })) h) ∧
  ((decide ((list0_1.n : Int) = 0)) = false →
  eop P (Instr.buildSlice 79 0 #[]) h fun rv_1 h_1 => ∃ t9_1 : Sl, rv_1 = (Sl.v t9_1) ∧ Vars h_1 [] ∧
  ∃ J_1 : Nat → Sl → Int → Heap → Prop, (∃ n0 : Nat, J_1 n0 t9_1 0 h_1) ∧
  ∀ (n_1 : Nat) (words3_1 : Sl) (t12_1 : Int) (h_2 : Heap), J_1 n_1 words3_1 t12_1 h_2 → Vars h_2 [] →
  ((decide (t12_1 < (list0_1.n : Int))) = true →
  InB list0_1 t12_1 ∧
  ∃ t15_1 : Int, hcell h_2 (Sl.at list0_1 t12_1 1) = some (VI t15_1) ∧
  callM P 96 #[(VI t15_1)] h_2 fun rv_2 h_3 => ∃ t18_1 : ByteArray, rv_2 = (VS t18_1) ∧ Vars h_3 [] ∧
  eop P (Instr.buildSlice 79 1 #[(0, (VS t18_1))]) h_3 fun rv_3 h_4 => ∃ t19_1 : Sl, rv_3 = (Sl.v t19_1) ∧ Vars h_4 [] ∧
  eop P (appS 79 79 79 (Sl.v words3_1) (Sl.v t19_1)) h_4 fun rv_4 h_5 => ∃ t20_1 : Sl, rv_4 = (Sl.v t20_1) ∧ Vars h_5 [] ∧
  ∃ m : Nat, m < n_1 ∧ J_1 m t20_1 (w64 (t12_1 + 1)) h_5) ∧
  ((decide (t12_1 < (list0_1.n : Int))) = false →
  callM P 59 #[(Sl.v words3_1), (VS ({ data := #[44] }))] h_2 fun rv_5 h_6 => ∃ t23_1 : ByteArray, rv_5 = (VS t23_1) ∧ Vars h_6 [] ∧
  K (VS t23_1) h_6))
theorem v58 (list0_1 : Sl) (h : Heap) (K : Value → Heap → Prop) (H : u58 Tryd.prog list0_1 h K) : callM Tryd.prog 58 #[(Sl.v list0_1)] h K := by
  refine c58 (Sl.v list0_1) h K ?_
  unfold u58 at H
  unfold t58
  have hL : Vars h [] := .nil
  refine pop_len list0_1 _ _ sli34 ?_
  refine pop_ieq .i64 _ _ (list0_1.n : Int) 0 ?_
  refine condM_b (fun hb_1 => ?_) (fun hb_1 => ?_)
  ·have H := H.1 hb_1
   exact H
  have H := H.2 hb_1
  refine H.mono fun rv_1 h_1 H => ?_
  obtain ⟨t9_1, rfl, hL_1, H⟩ := H
  refine pop_len list0_1 _ _ sli34 ?_
  obtain ⟨J_1, ⟨n_2, h0_1⟩, HB_1⟩ := H
  refine loop_intro (J := fun (n : Nat) (vs : List Value) (h' : Heap) => ∃ words3_1 : Sl, ∃ t12_1 : Int, vs = [(Sl.v words3_1), (VI t12_1)] ∧ J_1 n words3_1 t12_1 h' ∧ Vars h' []) n_2 ⟨t9_1, 0, rfl, h0_1, hL_1⟩ ?_
  intro I_1 mu_1 hI_1 junk_1 tv_1 tv_2 h_2 hi_1
  obtain ⟨n_1, ⟨words3_1, t12_1, hv, hJ_1, hL_2⟩, hn_1⟩ := hI_1 _ _ hi_1
  cases hv
  have H := HB_1 n_1 words3_1 t12_1 h_2 hJ_1 hL_2
  refine pop_lss .i64 t12_1 (list0_1.n : Int) ?_
  refine condM_b (fun hb_2 => ?_) (fun hb_2 => ?_)
  rotate_left
  ·have H := H.2 hb_2
   refine H.mono fun rv_5 h_6 H => ?_
   obtain ⟨t23_1, rfl, hL_6, H⟩ := H
   exact H
  have H := H.1 hb_2
  obtain ⟨hi_2, H⟩ := H
  refine pop_index sli34 siz3 .i64 list0_1 t12_1 hi_2 ?_
  obtain ⟨t15_1, hc_1, H⟩ := H
  refine rop_one one3 (VI t15_1) hc_1 ?_
  refine H.mono fun rv_2 h_3 H => ?_
  obtain ⟨t18_1, rfl, hL_3, H⟩ := H
  refine H.mono fun rv_3 h_4 H => ?_
  obtain ⟨t19_1, rfl, hL_4, H⟩ := H
  refine H.mono fun rv_4 h_5 H => ?_
  obtain ⟨t20_1, rfl, hL_5, H⟩ := H
  refine pop_add .i64 t12_1 1 ?_
  obtain ⟨m_1, hm_1, H⟩ := H
  exact hn_1 _ _ ⟨m_1, hm_1, t20_1, (w64 (t12_1 + 1)), rfl, H, hL_5⟩

/-! laws.eqIntSS -/
def u60 (P : Program) (a0_1 : Sl) (b1_1 : Sl) (h : Heap) (K : Value → Heap → Prop) : Prop :=
  ((!decide ((a0_1.n : Int) = (b1_1.n : Int))) = true →
  K (VB false) h) ∧
  ((!decide ((a0_1.n : Int) = (b1_1.n : Int))) = false →
  ∃ J_1 : Nat → Int → Heap → Prop, (∃ n0 : Nat, J_1 n0 0 h) ∧
  ∀ (n_1 : Nat) (i5_1 : Int) (h_1 : Heap), J_1 n_1 i5_1 h_1 → Vars h_1 [] →
  ((decide (i5_1 < (a0_1.n : Int))) = true →
  InB a0_1 i5_1 ∧
  ∃ t20_1 : Sl, hcell h_1 (Sl.at a0_1 i5_1 1) = some (Sl.v t20_1) ∧
  InB b1_1 i5_1 ∧
  ∃ t24_1 : Sl, hcell h_1 (Sl.at b1_1 i5_1 1) = some (Sl.v t24_1) ∧
  callM P 46 #[(Sl.v t20_1), (Sl.v t24_1)] h_1 fun rv_1 h_2 => ∃ t25_1 : Bool, rv_1 = (VB t25_1) ∧ Vars h_2 [] ∧
  ((!t25_1) = true →
  K (VB false) h_2) ∧
  ((!t25_1) = false →
  ∃ m : Nat, m < n_1 ∧ J_1 m (w64 (i5_1 + 1)) h_2)) ∧
  ((decide (i5_1 < (a0_1.n : Int))) = false →
  K (VB true) h_1))
theorem v60 (a0_1 : Sl) (b1_1 : Sl) (h : Heap) (K : Value → Heap → Prop) (H : u60 Tryd.prog a0_1 b1_1 h K) : callM Tryd.prog 60 #[(Sl.v a0_1), (Sl.v b1_1)] h K := by
  refine c60 (Sl.v a0_1) (Sl.v b1_1) h K ?_
  unfold u60 at H
  unfold t60
  have hL : Vars h [] := .nil
  refine pop_len a0_1 _ _ sli22 ?_
  refine pop_len b1_1 _ _ sli22 ?_
  refine pop_ine .i64 _ _ (a0_1.n : Int) (b1_1.n : Int) ?_
  refine condM_b (fun hb_1 => ?_) (fun hb_1 => ?_)
  ·have H := H.1 hb_1
   exact H
  have H := H.2 hb_1
  obtain ⟨J_1, ⟨n_2, h0_1⟩, HB_1⟩ := H
  refine loop_intro (J := fun (n : Nat) (vs : List Value) (h' : Heap) => ∃ i5_1 : Int, vs = [(VI i5_1)] ∧ J_1 n i5_1 h' ∧ Vars h' []) n_2 ⟨0, rfl, h0_1, hL⟩ ?_
  intro I_1 mu_1 hI_1 junk_1 tv_1 h_1 hi_1
  obtain ⟨n_1, ⟨i5_1, hv, hJ_1, hL_1⟩, hn_1⟩ := hI_1 _ _ hi_1
  cases hv
  have H := HB_1 n_1 i5_1 h_1 hJ_1 hL_1
  refine pop_len a0_1 _ _ sli22 ?_
  refine pop_lss .i64 i5_1 (a0_1.n : Int) ?_
  refine condM_b (fun hb_2 => ?_) (fun hb_2 => ?_)
  rotate_left
  ·have H := H.2 hb_2
   exact H
  have H := H.1 hb_2
  obtain ⟨hi_2, H⟩ := H
  refine pop_index sli22 siz34 .i64 a0_1 i5_1 hi_2 ?_
  obtain ⟨t20_1, hc_2, H⟩ := H
  refine rop_one one34 (Sl.v t20_1) hc_2 ?_
  obtain ⟨hi_3, H⟩ := H
  refine pop_index sli22 siz34 .i64 b1_1 i5_1 hi_3 ?_
  obtain ⟨t24_1, hc_1, H⟩ := H
  refine rop_one one34 (Sl.v t24_1) hc_1 ?_
  refine H.mono fun rv_1 h_2 H => ?_
  obtain ⟨t25_1, rfl, hL_2, H⟩ := H
  refine pop_not t25_1 ?_
  refine condM_b (fun hb_3 => ?_) (fun hb_3 => ?_)
  ·have H := H.1 hb_3
   exact H
  have H := H.2 hb_3
  refine pop_add .i64 i5_1 1 ?_
  obtain ⟨m_1, hm_1, H⟩ := H
  exact hn_1 _ _ ⟨m_1, hm_1, (w64 (i5_1 + 1)), rfl, H, hL_2⟩

/-! laws.szIntS -/
def u61 (P : Program) (a0_1 : Sl) (left1_1 : Int) (h : Heap) (K : Value → Heap → Prop) : Prop :=
  ((decide ((w64 (left1_1 - (a0_1.n : Int))) < 0)) = true →
  K (VI (-1)) h) ∧
  ((decide ((w64 (left1_1 - (a0_1.n : Int))) < 0)) = false →
  K (VI (w64 (left1_1 - (a0_1.n : Int)))) h)
theorem v61 (a0_1 : Sl) (left1_1 : Int) (h : Heap) (K : Value → Heap → Prop) (H : u61 Tryd.prog a0_1 left1_1 h K) : callM Tryd.prog 61 #[(Sl.v a0_1), (VI left1_1)] h K := by
  refine c61 (Sl.v a0_1) (VI left1_1) h K ?_
  unfold u61 at H
  unfold t61
  have hL : Vars h [] := .nil
  refine pop_len a0_1 _ _ sli34 ?_
  refine pop_sub .i64 left1_1 (a0_1.n : Int) ?_
  refine pop_lss .i64 (w64 (left1_1 - (a0_1.n : Int))) 0 ?_
  refine condM_b (fun hb_1 => ?_) (fun hb_1 => ?_)
  ·have H := H.1 hb_1
   exact H
  have H := H.2 hb_1
  exact H

/-! laws.toIntS -/
def u64 (P : Program) (a0_1 : Sl) (h : Heap) (K : Value → Heap → Prop) : Prop :=
  eop P (Instr.makeSlice 34 (VI (a0_1.n : Int)) (VI (a0_1.n : Int))) h fun rv_1 h_1 => ∃ t7_1 : Sl, rv_1 = (Sl.v t7_1) ∧ Vars h_1 [] ∧
  ∃ J_1 : Nat → Int → Heap → Prop, (∃ n0 : Nat, J_1 n0 0 h_1) ∧
  ∀ (n_1 : Nat) (i4_1 : Int) (h_2 : Heap), J_1 n_1 i4_1 h_2 → Vars h_2 [] →
  ((decide (i4_1 < (a0_1.n : Int))) = true →
  InB a0_1 i4_1 ∧
  ∃ t19_1 : Int, hcell h_2 (Sl.at a0_1 i4_1 1) = some (VI t19_1) ∧
  InB t7_1 i4_1 ∧
  Writable h_2 (Sl.at t7_1 i4_1 1) ∧ Vars (hset h_2 (Sl.at t7_1 i4_1 1) (VI t19_1)) [] ∧
  ∀ h_3 : Heap, h_3 = hset h_2 (Sl.at t7_1 i4_1 1) (VI t19_1) → Vars h_3 [] →
  ∃ m : Nat, m < n_1 ∧ J_1 m (w64 (i4_1 + 1)) h_3) ∧
  ((decide (i4_1 < (a0_1.n : Int))) = false →
  K (Sl.v t7_1) h_2)
theorem v64 (a0_1 : Sl) (h : Heap) (K : Value → Heap → Prop) (H : u64 Tryd.prog a0_1 h K) : callM Tryd.prog 64 #[(Sl.v a0_1)] h K := by
  refine c64 (Sl.v a0_1) h K ?_
  unfold u64 at H
  unfold t64
  have hL : Vars h [] := .nil
  refine pop_len a0_1 _ _ sli34 ?_
  refine H.mono fun rv_1 h_1 H => ?_
  obtain ⟨t7_1, rfl, hL_1, H⟩ := H
  obtain ⟨J_1, ⟨n_2, h0_1⟩, HB_1⟩ := H
  refine loop_intro (J := fun (n : Nat) (vs : List Value) (h' : Heap) => ∃ i4_1 : Int, vs = [(VI i4_1)] ∧ J_1 n i4_1 h' ∧ Vars h' []) n_2 ⟨0, rfl, h0_1, hL_1⟩ ?_
  intro I_1 mu_1 hI_1 junk_1 tv_1 h_2 hi_1
  obtain ⟨n_1, ⟨i4_1, hv, hJ_1, hL_2⟩, hn_1⟩ := hI_1 _ _ hi_1
  cases hv
  have H := HB_1 n_1 i4_1 h_2 hJ_1 hL_2
  refine pop_len a0_1 _ _ sli34 ?_
  refine pop_lss .i64 i4_1 (a0_1.n : Int) ?_
  refine condM_b (fun hb_1 => ?_) (fun hb_1 => ?_)
  rotate_left
  ·have H := H.2 hb_1
   exact H
  have H := H.1 hb_1
  obtain ⟨hi_2, H⟩ := H
  refine pop_index sli34 siz3 .i64 a0_1 i4_1 hi_2 ?_
  obtain ⟨t19_1, hc_1, H⟩ := H
  refine rop_one one3 (VI t19_1) hc_1 ?_
  obtain ⟨hi_3, H⟩ := H
  refine pop_index sli34 siz3 .i64 t7_1 i4_1 hi_3 ?_
  obtain ⟨hw_1, hL_3, H⟩ := H
  refine uop_cell (v := (VI t19_1)) siz3 hw_1 rfl (fun h_3 he_1 => ?_)
  rw [← he_1] at hL_3
  have H := H h_3 he_1 hL_3
  refine pop_add .i64 i4_1 1 ?_
  obtain ⟨m_1, hm_1, H⟩ := H
  exact hn_1 _ _ ⟨m_1, hm_1, (w64 (i4_1 + 1)), rfl, H, hL_3⟩

/-! slices.IndexFunc[[]int,int] -/
def u95 (P : Program) (s0_1 : Sl) (f1_1 : Value) (h : Heap) (K : Value → Heap → Prop) : Prop :=
  ∃ J_1 : Nat → Int → Heap → Prop, (∃ n0 : Nat, J_1 n0 0 h) ∧
  ∀ (n_1 : Nat) (t8_1 : Int) (h_1 : Heap), J_1 n_1 t8_1 h_1 → Vars h_1 [] →
  ((decide (t8_1 < (s0_1.n : Int))) = true →
  InB s0_1 t8_1 ∧
  ∃ t15_1 : Int, hcell h_1 (Sl.at s0_1 t8_1 1) = some (VI t15_1) ∧
  callV P f1_1 [(VI t15_1)] h_1 fun rv_1 h_2 => ∃ t16_1 : Bool, rv_1 = (VB t16_1) ∧ Vars h_2 [] ∧
  (t16_1 = true →
  K (VI t8_1) h_2) ∧
  (t16_1 = false →
  ∃ m : Nat, m < n_1 ∧ J_1 m (w64 (t8_1 + 1)) h_2)) ∧
  ((decide (t8_1 < (s0_1.n : Int))) = false →
  K (VI (-1)) h_1)
theorem v95 (s0_1 : Sl) (f1_1 : Value) (h : Heap) (K : Value → Heap → Prop) (H : u95 Tryd.prog s0_1 f1_1 h K) : callM Tryd.prog 95 #[(Sl.v s0_1), f1_1] h K := by
  refine c95 (Sl.v s0_1) f1_1 h K ?_
  unfold u95 at H
  unfold t95
  have hL : Vars h [] := .nil
  refine pop_len s0_1 _ _ sli34 ?_
  obtain ⟨J_1, ⟨n_2, h0_1⟩, HB_1⟩ := H
  refine loop_intro (J := fun (n : Nat) (vs : List Value) (h' : Heap) => ∃ t8_1 : Int, vs = [(VI t8_1)] ∧ J_1 n t8_1 h' ∧ Vars h' []) n_2 ⟨0, rfl, h0_1, hL⟩ ?_
  intro I_1 mu_1 hI_1 junk_1 tv_1 h_1 hi_1
  obtain ⟨n_1, ⟨t8_1, hv, hJ_1, hL_1⟩, hn_1⟩ := hI_1 _ _ hi_1
  cases hv
  have H := HB_1 n_1 t8_1 h_1 hJ_1 hL_1
  refine pop_lss .i64 t8_1 (s0_1.n : Int) ?_
  refine condM_b (fun hb_1 => ?_) (fun hb_1 => ?_)
  rotate_left
  ·have H := H.2 hb_1
   exact H
  have H := H.1 hb_1
  obtain ⟨hi_2, H⟩ := H
  refine pop_index sli34 siz3 .i64 s0_1 t8_1 hi_2 ?_
  obtain ⟨t15_1, hc_1, H⟩ := H
  refine rop_one one3 (VI t15_1) hc_1 ?_
  refine H.mono fun rv_1 h_2 H => ?_
  obtain ⟨t16_1, rfl, hL_2, H⟩ := H
  refine condM_b (fun hb_2 => ?_) (fun hb_2 => ?_)
  ·have H := H.1 hb_2
   exact H
  have H := H.2 hb_2
  refine pop_add .i64 t8_1 1 ?_
  obtain ⟨m_1, hm_1, H⟩ := H
  exact hn_1 _ _ ⟨m_1, hm_1, (w64 (t8_1 + 1)), rfl, H, hL_2⟩

end Go.Proofs.YtkjkfjkapbpgiaaDoor
