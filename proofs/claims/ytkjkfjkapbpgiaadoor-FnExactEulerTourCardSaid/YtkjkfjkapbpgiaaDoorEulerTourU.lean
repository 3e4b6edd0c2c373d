/-
  The same over typed data. Written by a program.
-/
import Derived.Test.YtkjkfjkapbpgiaaDoorEulerTourT
import Derived.Test.YtkjkfjkapbpgiaaDoorM2
set_option linter.unusedVariables false
set_option linter.unusedSimpArgs false
set_option maxRecDepth 100000
set_option maxHeartbeats 16000000
namespace Go.Proofs.YtkjkfjkapbpgiaaDoor
open Go Go.Mx
theorem agg33 : aggC Tryd.prog 33 = some 1 := by kernel_rfl
theorem agg41 : aggC Tryd.prog 41 = some 1 := by kernel_rfl
theorem agg43 : aggC Tryd.prog 43 = some 2 := by kernel_rfl
theorem agg96 : aggC Tryd.prog 96 = some 5 := by kernel_rfl
theorem boo4 : Tryd.prog.underlying 4 = some .bool := by kernel_rfl
theorem fld33_0 : fieldC Tryd.prog 33 0 = some 0 := by kernel_rfl
theorem fld41_0 : fieldC Tryd.prog 41 0 = some 0 := by kernel_rfl
theorem fld43_0 : fieldC Tryd.prog 43 0 = some 0 := by kernel_rfl
theorem fld43_1 : fieldC Tryd.prog 43 1 = some 1 := by kernel_rfl
theorem fld96_0 : fieldC Tryd.prog 96 0 = some 0 := by kernel_rfl
theorem fld96_1 : fieldC Tryd.prog 96 1 = some 2 := by kernel_rfl
theorem fld96_2 : fieldC Tryd.prog 96 2 = some 3 := by kernel_rfl
theorem fld96_3 : fieldC Tryd.prog 96 3 = some 4 := by kernel_rfl
theorem one22 : oneC Tryd.prog 22 = true := by kernel_rfl
theorem one3 : oneC Tryd.prog 3 = true := by kernel_rfl
theorem one34 : oneC Tryd.prog 34 = true := by kernel_rfl
theorem siz22 : sizeC Tryd.prog 22 = some 1 := by kernel_rfl
theorem siz3 : sizeC Tryd.prog 3 = some 1 := by kernel_rfl
theorem siz34 : sizeC Tryd.prog 34 = some 1 := by kernel_rfl
theorem siz41 : sizeC Tryd.prog 41 = some 1 := by kernel_rfl
theorem siz43 : sizeC Tryd.prog 43 = some 2 := by kernel_rfl
theorem siz96 : sizeC Tryd.prog 96 = some 5 := by kernel_rfl
theorem sli22 : Tryd.prog.underlying 22 = some (.slice 34) := by kernel_rfl
theorem sli34 : Tryd.prog.underlying 34 = some (.slice 3) := by kernel_rfl
theorem zer3 : zeroC Tryd.prog 3 = some (VI 0) := by kernel_rfl
theorem zer34 : zeroC Tryd.prog 34 = some (Sl.v nilSl) := by kernel_rfl
theorem zer41 : zeroC Tryd.prog 41 = some (Value.agg #[(Sl.v nilSl)]) := by kernel_rfl
theorem zer43 : zeroC Tryd.prog 43 = some (Value.agg #[(Sl.v nilSl), (VI 0)]) := by kernel_rfl
theorem zer96 : zeroC Tryd.prog 96 = some (Value.agg #[(Sl.v nilSl), (VI 0), (Sl.v nilSl), (Sl.v nilSl), (Sl.v nilSl)]) := by kernel_rfl
/-! laws.FnExactEulerTour -/
def u6 (P : Program) (aG0_1 : Sl) (aP1_1 : Int) (h : Heap) (K : Value → Heap → Prop) : Prop :=
  ∀ (b_1 : Nat) (h_1 : Heap), h.size ≤ b_1 → Fr (In []) h h_1 → Vars h_1 [(b_1, [(Sl.v aG0_1)])] →
  callM P 12 #[(Value.agg #[(Sl.v aG0_1)]), (VI 1048576)] h_1 fun rv_1 h_2 => ∃ t18_1 : Int, rv_1 = (VI t18_1) ∧ Vars h_2 [(b_1, [(Sl.v aG0_1)])] ∧
  ((decide (t18_1 < 0)) = true →
  K (VB true) h_2) ∧
  ((decide (t18_1 < 0)) = false →
  callM P 15 #[(Value.agg #[(Sl.v aG0_1)])] h_2 fun rv_2 h_3 => ∃ t23_1 : Sl, rv_2 = (Value.agg #[(Sl.v t23_1)]) ∧ Vars h_3 [(b_1, [(Sl.v aG0_1)])] ∧
  callM P 44 #[(Value.agg #[(Sl.v t23_1)]), (VI aP1_1)] h_3 fun rv_3 h_4 => ∃ t25_1 : Sl, ∃ t25_2 : Bool, rv_3 = (Value.tuple #[(Sl.v t25_1), (VB t25_2)]) ∧ Vars h_4 [(b_1, [(Sl.v aG0_1)])] ∧
  callM P 15 #[(Value.agg #[(Sl.v aG0_1)])] h_4 fun rv_4 h_5 => ∃ t29_1 : Sl, rv_4 = (Value.agg #[(Sl.v t29_1)]) ∧ Vars h_5 [(b_1, [(Sl.v aG0_1)])] ∧
  ∀ (b_2 : Nat) (h_7 : Heap), h_5.size ≤ b_2 → Fr (In []) h_5 h_7 → Vars h_7 [(b_2, [(Sl.v t29_1)]), (b_1, [(Sl.v aG0_1)])] →
  callM P 45 #[(Value.agg #[(Sl.v t29_1)]), (VI aP1_1)] h_7 fun rv_5 h_8 => ∃ t33_1 : Sl, ∃ t33_2 : Bool, rv_5 = (Value.tuple #[(Sl.v t33_1), (VB t33_2)]) ∧ Vars h_8 [(b_2, [(Sl.v t29_1)]), (b_1, [(Sl.v aG0_1)])] ∧
  callM P 46 #[(Sl.v t33_1), (Sl.v t25_1)] h_8 fun rv_6 h_9 => ∃ t38_1 : Bool, rv_6 = (VB t38_1) ∧ Vars h_9 [(b_2, [(Sl.v t29_1)]), (b_1, [(Sl.v aG0_1)])] ∧
  ((!t38_1) = true →
  K (VB false) h_9) ∧
  ((!t38_1) = false →
  ((!(t33_2 == t25_2)) = true →
  K (VB false) h_9) ∧
  ((!(t33_2 == t25_2)) = false →
  callM P 15 #[(Value.agg #[(Sl.v aG0_1)])] h_9 fun rv_7 h_10 => ∃ t47_1 : Sl, rv_7 = (Value.agg #[(Sl.v t47_1)]) ∧ Vars h_10 [(b_2, [(Sl.v t29_1)]), (b_1, [(Sl.v aG0_1)])] ∧
  callM P 18 #[(Value.agg #[(Sl.v t29_1)]), (Value.agg #[(Sl.v t47_1)])] h_10 fun rv_8 h_11 => ∃ t48_1 : Bool, rv_8 = (VB t48_1) ∧ Vars h_11 [(b_2, [(Sl.v t29_1)]), (b_1, [(Sl.v aG0_1)])] ∧
  ((!t48_1) = true →
  K (VB false) h_11) ∧
  ((!t48_1) = false →
  callM P 47 #[(Value.agg #[(Sl.v t29_1)]), (VI 1)] h_11 fun rv_9 h_12 => ∃ t52_1 : Int, rv_9 = (VI t52_1) ∧ Vars h_12 [(b_2, [(Sl.v t29_1)]), (b_1, [(Sl.v aG0_1)])] ∧
  ((decide (t52_1 < 0)) = true →
  K (VB false) h_12) ∧
  ((decide (t52_1 < 0)) = false →
  callM P 46 #[(Sl.v t33_1), (Sl.v t25_1)] h_12 fun rv_10 h_13 => ∃ t58_1 : Bool, rv_10 = (VB t58_1) ∧ Vars h_13 [(b_2, [(Sl.v t29_1)]), (b_1, [(Sl.v aG0_1)])] ∧
  ((!t58_1) = true →
  K (VB false) h_13) ∧
  ((!t58_1) = false →
  callM P 48 #[(Sl.v t33_1), (VI 1)] h_13 fun rv_11 h_14 => ∃ t68_1 : Int, rv_11 = (VI t68_1) ∧ Vars h_14 [(b_2, [(Sl.v t29_1)]), (b_1, [(Sl.v aG0_1)])] ∧
  callM P 49 #[(Sl.v t33_1), (VI 1)] h_14 fun rv_12 h_15 => ∃ t71_1 : Int, rv_12 = (VI t71_1) ∧ Vars h_15 [(b_2, [(Sl.v t29_1)]), (b_1, [(Sl.v aG0_1)])] ∧
  ((decide (t71_1 < 0)) = true →
  K (VB false) h_15) ∧
  ((decide (t71_1 < 0)) = false →
  ((!decide (t71_1 = t68_1)) = true →
  K (VB false) h_15) ∧
  ((!decide (t71_1 = t68_1)) = false →
  callM P 15 #[(Value.agg #[(Sl.v aG0_1)])] h_15 fun rv_13 h_16 => ∃ t79_1 : Sl, rv_13 = (Value.agg #[(Sl.v t79_1)]) ∧ Vars h_16 [(b_2, [(Sl.v t29_1)]), (b_1, [(Sl.v aG0_1)])] ∧
  callM P 45 #[(Value.agg #[(Sl.v t79_1)]), (VI aP1_1)] h_16 fun rv_14 h_17 => ∃ t81_1 : Sl, ∃ t81_2 : Bool, rv_14 = (Value.tuple #[(Sl.v t81_1), (VB t81_2)]) ∧ Vars h_17 [(b_2, [(Sl.v t29_1)]), (b_1, [(Sl.v aG0_1)])] ∧
  callM P 46 #[(Sl.v t81_1), (Sl.v t25_1)] h_17 fun rv_15 h_18 => ∃ t86_1 : Bool, rv_15 = (VB t86_1) ∧ Vars h_18 [(b_2, [(Sl.v t29_1)]), (b_1, [(Sl.v aG0_1)])] ∧
  ((!t86_1) = true →
  K (VB false) h_18) ∧
  ((!t86_1) = false →
  ((!(t81_2 == t25_2)) = true →
  K (VB false) h_18) ∧
  ((!(t81_2 == t25_2)) = false →
  callM P 49 #[(Sl.v t33_1), (VI 1)] h_18 fun rv_16 h_19 => ∃ t95_1 : Int, rv_16 = (VI t95_1) ∧ Vars h_19 [(b_2, [(Sl.v t29_1)]), (b_1, [(Sl.v aG0_1)])] ∧
  ((decide (t95_1 < 0)) = true →
  K (VB false) h_19) ∧
  ((decide (t95_1 < 0)) = false →
  ((!decide (t95_1 = t68_1)) = true →
  K (VB false) h_19) ∧
  ((!decide (t95_1 = t68_1)) = false →
  K (VB true) h_19))))))))))))
theorem v6 (aG0_1 : Sl) (aP1_1 : Int) (h : Heap) (K : Value → Heap → Prop) (H : u6 Tryd.prog aG0_1 aP1_1 h K) : callM Tryd.prog 6 #[(Value.agg #[(Sl.v aG0_1)]), (VI aP1_1)] h K := by
  refine c6 (Value.agg #[(Sl.v aG0_1)]) (VI aP1_1) h K ?_
  unfold u6 at H
  unfold t6
  have hL : Vars h [] := .nil
  refine eop_box 33 (Value.agg #[(Sl.v aG0_1)]) rfl hL (fun b_1 h_1 hb_1 hf_1 hL_1 => ?_)
  refine rop_locA agg33 hL_1 0 rfl 0 (vs := [(Sl.v aG0_1)]) rfl rfl ?_
  have H := H b_1 h_1 (Nat.le_trans (Fr.size (Fr.r (In []) _)) hb_1) (Fr.no' (Fr.r (In []) _) hf_1) hL_1
  refine H.mono fun rv_1 h_2 H => ?_
  obtain ⟨t18_1, rfl, hL_2, H⟩ := H
  refine pop_lss .i64 t18_1 0 ?_
  refine condM_b (fun hb_2 => ?_) (fun hb_2 => ?_)
  ·have H := H.1 hb_2
   exact H
  have H := H.2 hb_2
  refine rop_locA agg33 hL_2 0 rfl 0 (vs := [(Sl.v aG0_1)]) rfl rfl ?_
  refine H.mono fun rv_2 h_3 H => ?_
  obtain ⟨t23_1, rfl, hL_3, H⟩ := H
  refine H.mono fun rv_3 h_4 H => ?_
  obtain ⟨t25_1, t25_2, rfl, hL_4, H⟩ := H
  refine pop_ext (v := (Sl.v t25_1)) rfl ?_
  refine pop_ext (v := (VB t25_2)) rfl ?_
  refine rop_locA agg33 hL_4 0 rfl 0 (vs := [(Sl.v aG0_1)]) rfl rfl ?_
  refine H.mono fun rv_4 h_5 H => ?_
  obtain ⟨t29_1, rfl, hL_5, H⟩ := H
  refine eop_alloc 41 zer41 rfl hL_5 (fun b_2 h_6 hb_3 hf_2 hL_6 => ?_)
  refine uop_loc siz41 hL_6 0 rfl 0 [(Sl.v t29_1)] rfl rfl rfl (Nat.le_of_ble_eq_true rfl) (L' := [(b_2, [(Sl.v t29_1)]), (b_1, [(Sl.v aG0_1)])]) rfl (fun h_7 hf_3 hL_7 => ?_)
  refine rop_locA agg41 hL_7 0 rfl 0 (vs := [(Sl.v t29_1)]) rfl rfl ?_
  have H := H b_2 h_7 (Nat.le_trans (Fr.size (Fr.r (In []) _)) hb_3) (Fr.new (Fr.no' (Fr.r (In []) _) hf_2) (Nat.le_trans (Fr.size (Fr.r (In []) _)) hb_3) hf_3) hL_7
  refine H.mono fun rv_5 h_8 H => ?_
  obtain ⟨t33_1, t33_2, rfl, hL_8, H⟩ := H
  refine pop_ext (v := (Sl.v t33_1)) rfl ?_
  refine pop_ext (v := (VB t33_2)) rfl ?_
  refine H.mono fun rv_6 h_9 H => ?_
  obtain ⟨t38_1, rfl, hL_9, H⟩ := H
  refine pop_not t38_1 ?_
  refine guardM_sf (fun hb_4 => ?_) (fun hb_4 => ?_)
  rotate_left
  ·have H := H.1 hb_4
   refine guardM_n' hb_4 (by decide) ?_
   refine guardM_n' hb_4 (by decide) ?_
   refine pop_pickt' hb_4 ?_
   refine condM_t ?_
   exact H
  have H := H.2 hb_4
  refine guardM_y' hb_4 ?_
  refine guardM_y' hb_4 ?_
  refine pop_bne boo4 _ _ t33_2 t25_2 ?_
  refine pop_pickf' hb_4 ?_
  refine condM_b (fun hb_5 => ?_) (fun hb_5 => ?_)
  ·have H := H.1 hb_5
   exact H
  have H := H.2 hb_5
  refine rop_locA agg41 hL_9 0 rfl 0 (vs := [(Sl.v t29_1)]) rfl rfl ?_
  refine rop_locA agg33 hL_9 1 rfl 0 (vs := [(Sl.v aG0_1)]) rfl rfl ?_
  refine H.mono fun rv_7 h_10 H => ?_
  obtain ⟨t47_1, rfl, hL_10, H⟩ := H
  refine ⟨?_, ?_⟩
  ·exact still_locA agg41 hL_10 0 rfl 0 (vs := [(Sl.v t29_1)]) rfl rfl
  refine H.mono fun rv_8 h_11 H => ?_
  obtain ⟨t48_1, rfl, hL_11, H⟩ := H
  refine pop_not t48_1 ?_
  refine condM_b (fun hb_6 => ?_) (fun hb_6 => ?_)
  ·have H := H.1 hb_6
   exact H
  have H := H.2 hb_6
  refine rop_locA agg41 hL_11 0 rfl 0 (vs := [(Sl.v t29_1)]) rfl rfl ?_
  refine H.mono fun rv_9 h_12 H => ?_
  obtain ⟨t52_1, rfl, hL_12, H⟩ := H
  refine pop_lss .i64 t52_1 0 ?_
  refine guardM_sf (fun hb_7 => ?_) (fun hb_7 => ?_)
  rotate_left
  ·have H := H.1 hb_7
   refine guardM_n' hb_7 (by decide) ?_
   refine guardM_n' hb_7 (by decide) ?_
   refine guardM_n' hb_7 (by decide) ?_
   refine pop_pickt' hb_7 ?_
   refine guardM_n (by decide) ?_
   refine guardM_n (by decide) ?_
   refine guardM_n (by decide) ?_
   refine pop_pickt _ _ ?_
   refine condM_t ?_
   exact H
  have H := H.2 hb_7
  refine guardM_y' hb_7 ?_
  refine guardM_y' hb_7 ?_
  refine H.mono fun rv_10 h_13 H => ?_
  obtain ⟨t58_1, rfl, hL_13, H⟩ := H
  refine guardM_y' hb_7 ?_
  refine pop_not t58_1 ?_
  refine pop_pickf' hb_7 ?_
  refine guardM_sf (fun hb_8 => ?_) (fun hb_8 => ?_)
  rotate_left
  ·have H := H.1 hb_8
   refine guardM_n' hb_8 (by decide) ?_
   refine guardM_n' hb_8 (by decide) ?_
   refine pop_pickt' hb_8 ?_
   refine condM_t ?_
   exact H
  have H := H.2 hb_8
  refine guardM_y' hb_8 ?_
  refine guardM_y' hb_8 ?_
  refine pop_bne boo4 _ _ t33_2 t25_2 ?_
  refine pop_pickf' hb_8 ?_
  refine condM_f' hb_5 ?_
  refine H.mono fun rv_11 h_14 H => ?_
  obtain ⟨t68_1, rfl, hL_14, H⟩ := H
  refine H.mono fun rv_12 h_15 H => ?_
  obtain ⟨t71_1, rfl, hL_15, H⟩ := H
  refine pop_lss .i64 t71_1 0 ?_
  refine condM_b (fun hb_9 => ?_) (fun hb_9 => ?_)
  ·have H := H.1 hb_9
   exact H
  have H := H.2 hb_9
  refine pop_ine .i64 _ _ t71_1 t68_1 ?_
  refine condM_b (fun hb_10 => ?_) (fun hb_10 => ?_)
  ·have H := H.1 hb_10
   exact H
  have H := H.2 hb_10
  refine rop_locA agg33 hL_15 1 rfl 0 (vs := [(Sl.v aG0_1)]) rfl rfl ?_
  refine H.mono fun rv_13 h_16 H => ?_
  obtain ⟨t79_1, rfl, hL_16, H⟩ := H
  refine H.mono fun rv_14 h_17 H => ?_
  obtain ⟨t81_1, t81_2, rfl, hL_17, H⟩ := H
  refine pop_ext (v := (Sl.v t81_1)) rfl ?_
  refine pop_ext (v := (VB t81_2)) rfl ?_
  refine H.mono fun rv_15 h_18 H => ?_
  obtain ⟨t86_1, rfl, hL_18, H⟩ := H
  refine pop_not t86_1 ?_
  refine guardM_sf (fun hb_11 => ?_) (fun hb_11 => ?_)
  rotate_left
  ·have H := H.1 hb_11
   refine guardM_n' hb_11 (by decide) ?_
   refine guardM_n' hb_11 (by decide) ?_
   refine pop_pickt' hb_11 ?_
   refine condM_t ?_
   exact H
  have H := H.2 hb_11
  refine guardM_y' hb_11 ?_
  refine guardM_y' hb_11 ?_
  refine pop_bne boo4 _ _ t81_2 t25_2 ?_
  refine pop_pickf' hb_11 ?_
  refine condM_b (fun hb_12 => ?_) (fun hb_12 => ?_)
  ·have H := H.1 hb_12
   exact H
  have H := H.2 hb_12
  refine H.mono fun rv_16 h_19 H => ?_
  obtain ⟨t95_1, rfl, hL_19, H⟩ := H
  refine pop_lss .i64 t95_1 0 ?_
  refine condM_b (fun hb_13 => ?_) (fun hb_13 => ?_)
  ·have H := H.1 hb_13
   exact H
  have H := H.2 hb_13
  refine pop_ine .i64 _ _ t95_1 t68_1 ?_
  refine condM_b (fun hb_14 => ?_) (fun hb_14 => ?_)
  ·have H := H.1 hb_14
   exact H
  have H := H.2 hb_14
  exact H

/-! laws.szGraph -/
def u12 (P : Program) (a0_1 : Sl) (left1_1 : Int) (h : Heap) (K : Value → Heap → Prop) : Prop :=
  ∀ (b_1 : Nat) (h_1 : Heap), h.size ≤ b_1 → Fr (In []) h h_1 → Vars h_1 [(b_1, [(Sl.v a0_1)])] →
  callM P 50 #[(Sl.v a0_1), (VI left1_1)] h_1 fun rv_1 h_2 => ∃ t8_1 : Int, rv_1 = (VI t8_1) ∧ Vars h_2 [(b_1, [(Sl.v a0_1)])] ∧
  ((decide (t8_1 < 0)) = true →
  K (VI (-1)) h_2) ∧
  ((decide (t8_1 < 0)) = false →
  K (VI t8_1) h_2)
theorem v12 (a0_1 : Sl) (left1_1 : Int) (h : Heap) (K : Value → Heap → Prop) (H : u12 Tryd.prog a0_1 left1_1 h K) : callM Tryd.prog 12 #[(Value.agg #[(Sl.v a0_1)]), (VI left1_1)] h K := by
  refine c12 (Value.agg #[(Sl.v a0_1)]) (VI left1_1) h K ?_
  unfold u12 at H
  unfold t12
  have hL : Vars h [] := .nil
  refine eop_box 33 (Value.agg #[(Sl.v a0_1)]) rfl hL (fun b_1 h_1 hb_1 hf_1 hL_1 => ?_)
  refine pop_field 0 fld33_0 b_1 0 ?_
  refine rop_loc one22 hL_1 0 rfl 0 (v := (Sl.v a0_1)) rfl ?_
  have H := H b_1 h_1 (Nat.le_trans (Fr.size (Fr.r (In []) _)) hb_1) (Fr.no' (Fr.r (In []) _) hf_1) hL_1
  refine H.mono fun rv_1 h_2 H => ?_
  obtain ⟨t8_1, rfl, hL_2, H⟩ := H
  refine pop_lss .i64 t8_1 0 ?_
  refine condM_b (fun hb_2 => ?_) (fun hb_2 => ?_)
  ·have H := H.1 hb_2
   exact H
  have H := H.2 hb_2
  exact H

/-! laws.toGraph -/
def u15 (P : Program) (a0_1 : Sl) (h : Heap) (K : Value → Heap → Prop) : Prop :=
  ∀ (b_1 : Nat) (b_2 : Nat) (b_3 : Nat) (h_3 : Heap), h.size ≤ b_1 → h.size ≤ b_2 → h.size ≤ b_3 → Fr (In []) h h_3 → Vars h_3 [(b_3, [(Sl.v nilSl)]), (b_2, [(Sl.v nilSl)]), (b_1, [(Sl.v a0_1)])] →
  callM P 54 #[(Sl.v a0_1)] h_3 fun rv_1 h_4 => ∃ t6_1 : Sl, rv_1 = (Sl.v t6_1) ∧ Vars h_4 [(b_3, [(Sl.v nilSl)]), (b_2, [(Sl.v nilSl)]), (b_1, [(Sl.v a0_1)])] ∧
  ∀ (h_6 : Heap), Fr (In [b_2, b_3]) h_4 h_6 → Vars h_6 [(b_3, [(Sl.v t6_1)]), (b_2, [(Sl.v t6_1)]), (b_1, [(Sl.v a0_1)])] →
  K (Value.agg #[(Sl.v t6_1)]) h_6
theorem v15 (a0_1 : Sl) (h : Heap) (K : Value → Heap → Prop) (H : u15 Tryd.prog a0_1 h K) : callM Tryd.prog 15 #[(Value.agg #[(Sl.v a0_1)])] h K := by
  refine c15 (Value.agg #[(Sl.v a0_1)]) h K ?_
  unfold u15 at H
  unfold t15
  have hL : Vars h [] := .nil
  refine eop_box 33 (Value.agg #[(Sl.v a0_1)]) rfl hL (fun b_1 h_1 hb_1 hf_1 hL_1 => ?_)
  refine eop_alloc 41 zer41 rfl hL_1 (fun b_2 h_2 hb_2 hf_2 hL_2 => ?_)
  refine eop_alloc 41 zer41 rfl hL_2 (fun b_3 h_3 hb_3 hf_3 hL_3 => ?_)
  refine pop_field 0 fld33_0 b_1 0 ?_
  refine rop_loc one22 hL_3 2 rfl 0 (v := (Sl.v a0_1)) rfl ?_
  have H := H b_1 b_2 b_3 h_3 (Nat.le_trans (Fr.size (Fr.r (In []) _)) hb_1) (Nat.le_trans (Fr.size (Fr.no' (Fr.r (In []) _) hf_1)) hb_2) (Nat.le_trans (Fr.size (Fr.no' (Fr.no' (Fr.r (In []) _) hf_1) hf_2)) hb_3) (Fr.no' (Fr.no' (Fr.no' (Fr.r (In []) _) hf_1) hf_2) hf_3) hL_3
  refine H.mono fun rv_1 h_4 H => ?_
  obtain ⟨t6_1, rfl, hL_4, H⟩ := H
  refine pop_field 0 fld41_0 b_3 0 ?_
  refine uop_loc siz22 hL_4 0 rfl 0 [(Sl.v t6_1)] rfl rfl rfl (Nat.le_of_ble_eq_true rfl) (L' := [(b_3, [(Sl.v t6_1)]), (b_2, [(Sl.v nilSl)]), (b_1, [(Sl.v a0_1)])]) rfl (fun h_5 hf_4 hL_5 => ?_)
  refine rop_locA agg41 hL_5 0 rfl 0 (vs := [(Sl.v t6_1)]) rfl rfl ?_
  refine uop_loc siz41 hL_5 1 rfl 0 [(Sl.v t6_1)] rfl rfl rfl (Nat.le_of_ble_eq_true rfl) (L' := [(b_3, [(Sl.v t6_1)]), (b_2, [(Sl.v t6_1)]), (b_1, [(Sl.v a0_1)])]) rfl (fun h_6 hf_5 hL_6 => ?_)
  refine rop_locA agg41 hL_6 1 rfl 0 (vs := [(Sl.v t6_1)]) rfl rfl ?_
  have H := H  h_6  (Fr.old (Fr.old (Fr.r (In []) _) hf_4) hf_5) hL_6
  exact H

/-! laws.eqGraph -/
def u18 (P : Program) (a0_1 : Sl) (b1_1 : Sl) (h : Heap) (K : Value → Heap → Prop) : Prop :=
  ∀ (b_1 : Nat) (b_2 : Nat) (h_2 : Heap), h.size ≤ b_1 → h.size ≤ b_2 → Fr (In []) h h_2 → Vars h_2 [(b_2, [(Sl.v b1_1)]), (b_1, [(Sl.v a0_1)])] →
  callM P 60 #[(Sl.v a0_1), (Sl.v b1_1)] h_2 fun rv_1 h_3 => ∃ t9_1 : Bool, rv_1 = (VB t9_1) ∧ Vars h_3 [(b_2, [(Sl.v b1_1)]), (b_1, [(Sl.v a0_1)])] ∧
  ((!t9_1) = true →
  K (VB false) h_3) ∧
  ((!t9_1) = false →
  K (VB true) h_3)
theorem v18 (a0_1 : Sl) (b1_1 : Sl) (h : Heap) (K : Value → Heap → Prop) (H : u18 Tryd.prog a0_1 b1_1 h K) : callM Tryd.prog 18 #[(Value.agg #[(Sl.v a0_1)]), (Value.agg #[(Sl.v b1_1)])] h K := by
  refine c18 (Value.agg #[(Sl.v a0_1)]) (Value.agg #[(Sl.v b1_1)]) h K ?_
  unfold u18 at H
  unfold t18
  have hL : Vars h [] := .nil
  refine eop_box 41 (Value.agg #[(Sl.v a0_1)]) rfl hL (fun b_1 h_1 hb_1 hf_1 hL_1 => ?_)
  refine eop_box 41 (Value.agg #[(Sl.v b1_1)]) rfl hL_1 (fun b_2 h_2 hb_2 hf_2 hL_2 => ?_)
  refine pop_field 0 fld41_0 b_1 0 ?_
  refine rop_loc one22 hL_2 1 rfl 0 (v := (Sl.v a0_1)) rfl ?_
  refine pop_field 0 fld41_0 b_2 0 ?_
  refine rop_loc one22 hL_2 0 rfl 0 (v := (Sl.v b1_1)) rfl ?_
  have H := H b_1 b_2 h_2 (Nat.le_trans (Fr.size (Fr.r (In []) _)) hb_1) (Nat.le_trans (Fr.size (Fr.no' (Fr.r (In []) _) hf_1)) hb_2) (Fr.no' (Fr.no' (Fr.r (In []) _) hf_1) hf_2) hL_2
  refine H.mono fun rv_1 h_3 H => ?_
  obtain ⟨t9_1, rfl, hL_3, H⟩ := H
  refine pop_not t9_1 ?_
  refine condM_b (fun hb_3 => ?_) (fun hb_3 => ?_)
  ·have H := H.1 hb_3
   exact H
  have H := H.2 hb_3
  exact H

/-! spec.EulerTour -/
def u44 (P : Program) (g0_1 : Sl) (p1_1 : Int) (h : Heap) (K : Value → Heap → Prop) : Prop :=
  ∀ (b_1 : Nat) (h_1 : Heap), h.size ≤ b_1 → Fr (In []) h h_1 → Vars h_1 [(b_1, [(Sl.v g0_1)])] →
  callM P 83 #[(Value.agg #[(Sl.v g0_1)]), (VI p1_1)] h_1 fun rv_1 h_2 => ∃ t14_1 : Bool, rv_1 = (VB t14_1) ∧ Vars h_2 [(b_1, [(Sl.v g0_1)])] ∧
  ((!t14_1) = true →
  K (Value.tuple #[(Sl.v nilSl), (VB false)]) h_2) ∧
  ((!t14_1) = false →
  callM P 84 #[(Value.agg #[(Sl.v g0_1)])] h_2 fun rv_2 h_3 => ∃ t18_1 : Bool, rv_2 = (VB t18_1) ∧ Vars h_3 [(b_1, [(Sl.v g0_1)])] ∧
  ((!t18_1) = true →
  K (Value.tuple #[(Sl.v nilSl), (VB false)]) h_3) ∧
  ((!t18_1) = false →
  callM P 85 #[(Value.agg #[(Sl.v g0_1)])] h_3 fun rv_3 h_4 => ∃ t23_1 : Bool, rv_3 = (VB t23_1) ∧ Vars h_4 [(b_1, [(Sl.v g0_1)])] ∧
  ((!t23_1) = true →
  K (Value.tuple #[(Sl.v nilSl), (VB false)]) h_4) ∧
  ((!t23_1) = false →
  callM P 86 #[(Value.agg #[(Sl.v g0_1)])] h_4 fun rv_4 h_5 => ∃ t28_1 : Int, rv_4 = (VI t28_1) ∧ Vars h_5 [(b_1, [(Sl.v g0_1)])] ∧
  ((decide (t28_1 = 0)) = true →
  K (Value.tuple #[(Sl.v nilSl), (VB false)]) h_5) ∧
  ((decide (t28_1 = 0)) = false →
  ∃ J_1 : Nat → Sl → Int → Int → Heap → Prop, ((eop P (Instr.makeSlice 34 (VI (g0_1.n : Int)) (VI (g0_1.n : Int))) h_5 fun rv_5 h_6 => ∃ t36_1 : Sl, rv_5 = (Sl.v t36_1) ∧ Vars h_6 [(b_1, [(Sl.v g0_1)])] ∧
  (callM P 63 #[(Value.agg #[(Sl.v g0_1)]), (Value.agg #[(Sl.v t36_1), (VI p1_1)])] h_6 fun rv_6 h_7 => ∃ t39_1 : Int, ∃ t39_2 : Sl, ∃ t39_3 : Int, ∃ t39_4 : Int, rv_6 = (Value.tuple #[(VI t39_1), (Value.agg #[(Sl.v t39_2), (VI t39_3)]), (VI t39_4)]) ∧ Vars h_7 [(b_1, [(Sl.v g0_1)])] ∧
  ∀ (b_3 : Nat) (h_8 : Heap), h_7.size ≤ b_3 → Fr (In []) h_7 h_8 → Vars h_8 [(b_3, [(Sl.v nilSl), (VI 0)]), (b_1, [(Sl.v g0_1)])] →
  ∀ (h_9 : Heap), Fr (In [b_3]) h_8 h_9 → Vars h_9 [(b_3, [(Sl.v t39_2), (VI t39_3)]), (b_1, [(Sl.v g0_1)])] →
  J_1 b_3 t39_2 t39_3 t39_4 h_9) ∧
  (∀ (b_4 : Nat) (h_10 : Heap), h_6.size ≤ b_4 → Fr (In []) h_6 h_10 → Vars h_10 [(b_4, [(Sl.v nilSl), (VI 0)]), (b_1, [(Sl.v g0_1)])] →
  callM P 63 #[(Value.agg #[(Sl.v g0_1)]), (Value.agg #[(Sl.v t36_1), (VI p1_1)])] h_10 fun rv_7 h_11 => ∃ t39_5 : Int, ∃ t39_6 : Sl, ∃ t39_7 : Int, ∃ t39_8 : Int, rv_7 = (Value.tuple #[(VI t39_5), (Value.agg #[(Sl.v t39_6), (VI t39_7)]), (VI t39_8)]) ∧ Vars h_11 [(b_4, [(Sl.v nilSl), (VI 0)]), (b_1, [(Sl.v g0_1)])] ∧
  ∀ (h_12 : Heap), Fr (In [b_4]) h_11 h_12 → Vars h_12 [(b_4, [(Sl.v t39_6), (VI t39_7)]), (b_1, [(Sl.v g0_1)])] →
  J_1 b_4 t39_6 t39_7 t39_8 h_12)) ∧
  (∀ (b_5 : Nat) (h_13 : Heap), h_5.size ≤ b_5 → Fr (In []) h_5 h_13 → Vars h_13 [(b_5, [(Sl.v nilSl), (VI 0)]), (b_1, [(Sl.v g0_1)])] →
  eop P (Instr.makeSlice 34 (VI (g0_1.n : Int)) (VI (g0_1.n : Int))) h_13 fun rv_8 h_14 => ∃ t36_2 : Sl, rv_8 = (Sl.v t36_2) ∧ Vars h_14 [(b_5, [(Sl.v nilSl), (VI 0)]), (b_1, [(Sl.v g0_1)])] ∧
  callM P 63 #[(Value.agg #[(Sl.v g0_1)]), (Value.agg #[(Sl.v t36_2), (VI p1_1)])] h_14 fun rv_9 h_15 => ∃ t39_9 : Int, ∃ t39_10 : Sl, ∃ t39_11 : Int, ∃ t39_12 : Int, rv_9 = (Value.tuple #[(VI t39_9), (Value.agg #[(Sl.v t39_10), (VI t39_11)]), (VI t39_12)]) ∧ Vars h_15 [(b_5, [(Sl.v nilSl), (VI 0)]), (b_1, [(Sl.v g0_1)])] ∧
  ∀ (h_16 : Heap), Fr (In [b_5]) h_15 h_16 → Vars h_16 [(b_5, [(Sl.v t39_10), (VI t39_11)]), (b_1, [(Sl.v g0_1)])] →
  J_1 b_5 t39_10 t39_11 t39_12 h_16)) ∧
  ∀ (b_2 : Nat) (x_1 : Sl) (x_2 : Int) (x_3 : Int) (h_17 : Heap), J_1 b_2 x_1 x_2 x_3 h_17 → Vars h_17 [(b_2, [(Sl.v x_1), (VI x_2)]), (b_1, [(Sl.v g0_1)])] →
  ((decide (x_3 = 0)) = true →
  K (Value.tuple #[(Sl.v nilSl), (VB false)]) h_17) ∧
  ((decide (x_3 = 0)) = false →
  ∃ J_2 : Nat → Int → Sl → Int → Heap → Prop, (∃ n0 : Nat, J_2 n0 0 x_1 x_2 h_17) ∧
  ∀ (n_1 : Nat) (n9_1 : Int) (x_4 : Sl) (x_5 : Int) (h_18 : Heap), J_2 n_1 n9_1 x_4 x_5 h_18 → Vars h_18 [(b_2, [(Sl.v x_4), (VI x_5)]), (b_1, [(Sl.v g0_1)])] →
  ((decide (n9_1 < x_3)) = true →
  ((!decide (x_5 = p1_1)) = true →
  callM P 80 #[(Value.agg #[(Sl.v g0_1)]), (Value.agg #[(Sl.v x_4), (VI x_5)])] h_18 fun rv_10 h_19 => ∃ t59_1 : Sl, ∃ t59_2 : Int, ∃ t59_3 : Bool, rv_10 = (Value.tuple #[(Value.agg #[(Sl.v t59_1), (VI t59_2)]), (VB t59_3)]) ∧ Vars h_19 [(b_2, [(Sl.v x_4), (VI x_5)]), (b_1, [(Sl.v g0_1)])] ∧
  ∀ (h_20 : Heap), Fr (In [b_2]) h_19 h_20 → Vars h_20 [(b_2, [(Sl.v t59_1), (VI t59_2)]), (b_1, [(Sl.v g0_1)])] →
  ∃ m : Nat, m < n_1 ∧ J_2 m (w64 (n9_1 + 1)) t59_1 t59_2 h_20) ∧
  ((!decide (x_5 = p1_1)) = false →
  callM P 74 #[(Value.agg #[(Sl.v g0_1)]), (Value.agg #[(Sl.v x_4), (VI x_5)]), (VI x_3)] h_18 fun rv_11 h_21 => ∃ t66_1 : Sl, ∃ t66_2 : Int, ∃ t66_3 : Sl, ∃ t66_4 : Sl, ∃ t66_5 : Sl, ∃ t66_6 : Bool, rv_11 = (Value.tuple #[(Value.agg #[(Sl.v t66_1), (VI t66_2), (Sl.v t66_3), (Sl.v t66_4), (Sl.v t66_5)]), (VB t66_6)]) ∧ Vars h_21 [(b_2, [(Sl.v x_4), (VI x_5)]), (b_1, [(Sl.v g0_1)])] ∧
  ((!t66_6) = true →
  ∀ (b_6 : Nat) (h_23 : Heap), h_21.size ≤ b_6 → Fr (In []) h_21 h_23 → Vars h_23 [(b_6, [(Sl.v t66_1), (VI t66_2), (Sl.v t66_3), (Sl.v t66_4), (Sl.v t66_5)]), (b_2, [(Sl.v x_4), (VI x_5)]), (b_1, [(Sl.v g0_1)])] →
  K (Value.tuple #[(Sl.v nilSl), (VB false)]) h_23) ∧
  ((!t66_6) = false →
  ∀ (b_6 : Nat) (h_23 : Heap), h_21.size ≤ b_6 → Fr (In []) h_21 h_23 → Vars h_23 [(b_6, [(Sl.v t66_1), (VI t66_2), (Sl.v t66_3), (Sl.v t66_4), (Sl.v t66_5)]), (b_2, [(Sl.v x_4), (VI x_5)]), (b_1, [(Sl.v g0_1)])] →
  K (Value.tuple #[(Sl.v t66_3), (VB true)]) h_23))) ∧
  ((decide (n9_1 < x_3)) = false →
  callM P 74 #[(Value.agg #[(Sl.v g0_1)]), (Value.agg #[(Sl.v x_4), (VI x_5)]), (VI x_3)] h_18 fun rv_12 h_24 => ∃ t66_7 : Sl, ∃ t66_8 : Int, ∃ t66_9 : Sl, ∃ t66_10 : Sl, ∃ t66_11 : Sl, ∃ t66_12 : Bool, rv_12 = (Value.tuple #[(Value.agg #[(Sl.v t66_7), (VI t66_8), (Sl.v t66_9), (Sl.v t66_10), (Sl.v t66_11)]), (VB t66_12)]) ∧ Vars h_24 [(b_2, [(Sl.v x_4), (VI x_5)]), (b_1, [(Sl.v g0_1)])] ∧
  ((!t66_12) = true →
  ∀ (b_7 : Nat) (h_26 : Heap), h_24.size ≤ b_7 → Fr (In []) h_24 h_26 → Vars h_26 [(b_7, [(Sl.v t66_7), (VI t66_8), (Sl.v t66_9), (Sl.v t66_10), (Sl.v t66_11)]), (b_2, [(Sl.v x_4), (VI x_5)]), (b_1, [(Sl.v g0_1)])] →
  K (Value.tuple #[(Sl.v nilSl), (VB false)]) h_26) ∧
  ((!t66_12) = false →
  ((!decide (x_5 = p1_1)) = true →
  ∀ (b_7 : Nat) (h_26 : Heap), h_24.size ≤ b_7 → Fr (In []) h_24 h_26 → Vars h_26 [(b_7, [(Sl.v t66_7), (VI t66_8), (Sl.v t66_9), (Sl.v t66_10), (Sl.v t66_11)]), (b_2, [(Sl.v x_4), (VI x_5)]), (b_1, [(Sl.v g0_1)])] →
  K (Value.tuple #[(Sl.v nilSl), (VB false)]) h_26) ∧
  ((!decide (x_5 = p1_1)) = false →
  ∀ (b_7 : Nat) (h_26 : Heap), h_24.size ≤ b_7 → Fr (In []) h_24 h_26 → Vars h_26 [(b_7, [(Sl.v t66_7), (VI t66_8), (Sl.v t66_9), (Sl.v t66_10), (Sl.v t66_11)]), (b_2, [(Sl.v x_4), (VI x_5)]), (b_1, [(Sl.v g0_1)])] →
  K (Value.tuple #[(Sl.v t66_9), (VB true)]) h_26))))))))
theorem v44 (g0_1 : Sl) (p1_1 : Int) (h : Heap) (K : Value → Heap → Prop) (H : u44 Tryd.prog g0_1 p1_1 h K) : callM Tryd.prog 44 #[(Value.agg #[(Sl.v g0_1)]), (VI p1_1)] h K := by
  refine c44 (Value.agg #[(Sl.v g0_1)]) (VI p1_1) h K ?_
  unfold u44 at H
  unfold t44
  have hL : Vars h [] := .nil
  refine eop_box 41 (Value.agg #[(Sl.v g0_1)]) rfl hL (fun b_1 h_1 hb_1 hf_1 hL_1 => ?_)
  refine rop_locA agg41 hL_1 0 rfl 0 (vs := [(Sl.v g0_1)]) rfl rfl ?_
  have H := H b_1 h_1 (Nat.le_trans (Fr.size (Fr.r (In []) _)) hb_1) (Fr.no' (Fr.r (In []) _) hf_1) hL_1
  refine H.mono fun rv_1 h_2 H => ?_
  obtain ⟨t14_1, rfl, hL_2, H⟩ := H
  refine pop_not t14_1 ?_
  refine guardM_sf (fun hb_2 => ?_) (fun hb_2 => ?_)
  rotate_left
  ·have H := H.1 hb_2
   refine guardM_n' hb_2 (by decide) ?_
   refine guardM_n' hb_2 (by decide) ?_
   refine pop_pickt' hb_2 ?_
   refine guardM_n (by decide) ?_
   refine guardM_n (by decide) ?_
   refine guardM_n (by decide) ?_
   refine pop_pickt _ _ ?_
   refine guardM_n (by decide) ?_
   refine guardM_n (by decide) ?_
   refine guardM_n (by decide) ?_
   refine pop_pickt _ _ ?_
   refine condM_t ?_
   exact H
  have H := H.2 hb_2
  refine rop_locA agg41 hL_2 0 rfl 0 (vs := [(Sl.v g0_1)]) rfl rfl ?_
  refine guardM_y' hb_2 ?_
  refine H.mono fun rv_2 h_3 H => ?_
  obtain ⟨t18_1, rfl, hL_3, H⟩ := H
  refine guardM_y' hb_2 ?_
  refine pop_not t18_1 ?_
  refine pop_pickf' hb_2 ?_
  refine guardM_sf (fun hb_3 => ?_) (fun hb_3 => ?_)
  rotate_left
  ·have H := H.1 hb_3
   refine guardM_n' hb_3 (by decide) ?_
   refine guardM_n' hb_3 (by decide) ?_
   refine pop_pickt' hb_3 ?_
   refine guardM_n (by decide) ?_
   refine guardM_n (by decide) ?_
   refine guardM_n (by decide) ?_
   refine pop_pickt _ _ ?_
   refine condM_t ?_
   exact H
  have H := H.2 hb_3
  refine rop_locA agg41 hL_3 0 rfl 0 (vs := [(Sl.v g0_1)]) rfl rfl ?_
  refine guardM_y' hb_3 ?_
  refine H.mono fun rv_3 h_4 H => ?_
  obtain ⟨t23_1, rfl, hL_4, H⟩ := H
  refine guardM_y' hb_3 ?_
  refine pop_not t23_1 ?_
  refine pop_pickf' hb_3 ?_
  refine guardM_sf (fun hb_4 => ?_) (fun hb_4 => ?_)
  rotate_left
  ·have H := H.1 hb_4
   refine guardM_n' hb_4 (by decide) ?_
   refine guardM_n' hb_4 (by decide) ?_
   refine pop_pickt' hb_4 ?_
   refine condM_t ?_
   exact H
  have H := H.2 hb_4
  refine rop_locA agg41 hL_4 0 rfl 0 (vs := [(Sl.v g0_1)]) rfl rfl ?_
  refine guardM_y' hb_4 ?_
  refine H.mono fun rv_4 h_5 H => ?_
  obtain ⟨t28_1, rfl, hL_5, H⟩ := H
  refine guardM_y' hb_4 ?_
  refine pop_ieq .i64 _ _ t28_1 0 ?_
  refine pop_pickf' hb_4 ?_
  refine condM_b (fun hb_5 => ?_) (fun hb_5 => ?_)
  ·have H := H.1 hb_5
   exact H
  have H := H.2 hb_5
  obtain ⟨J_1, H, HB_2⟩ := H
  refine ⟨fun (vs : List Value) (h' : Heap) => ∃ b_2 : Nat, ∃ x_1 : Sl, ∃ x_2 : Int, ∃ x_3 : Int, vs = [(VP b_2 0), (VI x_3)] ∧ J_1 b_2 x_1 x_2 x_3 h' ∧ Vars h' [(b_2, [(Sl.v x_1), (VI x_2)]), (b_1, [(Sl.v g0_1)])], ?_, ?_⟩
  ·refine rop_locA agg41 hL_5 0 rfl 0 (vs := [(Sl.v g0_1)]) rfl rfl ?_
   refine pop_field 0 fld41_0 b_1 0 ?_
   refine rop_loc one22 hL_5 0 rfl 0 (v := (Sl.v g0_1)) rfl ?_
   refine pop_len g0_1 _ _ sli22 ?_
   refine ⟨?_, ?_⟩
   rotate_left
   ·have H := H.2
    refine eop_alloc 43 zer43 rfl hL_5 (fun b_5 h_13 hb_8 hf_6 hL_13 => ?_)
    have H := H b_5 h_13 (Nat.le_trans (Fr.size (Fr.r (In []) _)) hb_8) (Fr.no' (Fr.r (In []) _) hf_6) hL_13
    refine ⟨?_, ?_⟩
    ·exact still_loc one22 hL_13 1 rfl 0 (v := (Sl.v g0_1)) rfl
    refine ⟨?_, ?_⟩
    ·exact still_locA agg41 hL_13 1 rfl 0 (vs := [(Sl.v g0_1)]) rfl rfl
    refine H.mono fun rv_8 h_14 H => ?_
    obtain ⟨t36_2, rfl, hL_14, H⟩ := H
    refine ⟨?_, ?_⟩
    ·exact still_loc one22 hL_14 1 rfl 0 (v := (Sl.v g0_1)) rfl
    refine ⟨?_, ?_⟩
    ·exact still_locA agg41 hL_14 1 rfl 0 (vs := [(Sl.v g0_1)]) rfl rfl
    refine pop.mk' (v := (Value.agg #[(Sl.v t36_2), (VI p1_1)])) (fun w => by kernel_rfl) ?_
    refine H.mono fun rv_9 h_15 H => ?_
    obtain ⟨t39_9, t39_10, t39_11, t39_12, rfl, hL_15, H⟩ := H
    refine ⟨?_, ?_⟩
    ·exact still_loc one22 hL_15 1 rfl 0 (v := (Sl.v g0_1)) rfl
    refine pop_ext (v := (VI t39_9)) rfl ?_
    refine pop_ext (v := (Value.agg #[(Sl.v t39_10), (VI t39_11)])) rfl ?_
    refine pop_ext (v := (VI t39_12)) rfl ?_
    refine uop_loc siz43 hL_15 0 rfl 0 [(Sl.v t39_10), (VI t39_11)] rfl rfl rfl (Nat.le_of_ble_eq_true rfl) (L' := [(b_5, [(Sl.v t39_10), (VI t39_11)]), (b_1, [(Sl.v g0_1)])]) rfl (fun h_16 hf_7 hL_16 => ?_)
    have H := H  h_16  (Fr.old (Fr.r (In []) _) hf_7) hL_16
    exact ⟨b_5, t39_10, t39_11, t39_12, rfl, H, hL_16⟩
   have H := H.1
   refine H.mono fun rv_5 h_6 H => ?_
   obtain ⟨t36_1, rfl, hL_6, H⟩ := H
   refine ⟨?_, ?_⟩
   ·exact still_loc one22 hL_6 0 rfl 0 (v := (Sl.v g0_1)) rfl
   refine ⟨?_, ?_⟩
   ·exact still_locA agg41 hL_6 0 rfl 0 (vs := [(Sl.v g0_1)]) rfl rfl
   refine pop.mk' (v := (Value.agg #[(Sl.v t36_1), (VI p1_1)])) (fun w => by kernel_rfl) ?_
   refine ⟨?_, ?_⟩
   ·have H := H.1
    refine H.mono fun rv_6 h_7 H => ?_
    obtain ⟨t39_1, t39_2, t39_3, t39_4, rfl, hL_7, H⟩ := H
    refine ⟨?_, ?_⟩
    ·exact still_loc one22 hL_7 0 rfl 0 (v := (Sl.v g0_1)) rfl
    refine pop_ext (v := (VI t39_1)) rfl ?_
    refine pop_ext (v := (Value.agg #[(Sl.v t39_2), (VI t39_3)])) rfl ?_
    refine pop_ext (v := (VI t39_4)) rfl ?_
    refine eop_alloc 43 zer43 rfl hL_7 (fun b_3 h_8 hb_6 hf_2 hL_8 => ?_)
    have H := H b_3 h_8 (Nat.le_trans (Fr.size (Fr.r (In []) _)) hb_6) (Fr.no' (Fr.r (In []) _) hf_2) hL_8
    refine ⟨?_, ?_⟩
    ·exact still_loc one22 hL_8 1 rfl 0 (v := (Sl.v g0_1)) rfl
    refine uop_loc siz43 hL_8 0 rfl 0 [(Sl.v t39_2), (VI t39_3)] rfl rfl rfl (Nat.le_of_ble_eq_true rfl) (L' := [(b_3, [(Sl.v t39_2), (VI t39_3)]), (b_1, [(Sl.v g0_1)])]) rfl (fun h_9 hf_3 hL_9 => ?_)
    have H := H  h_9  (Fr.old (Fr.r (In []) _) hf_3) hL_9
    exact ⟨b_3, t39_2, t39_3, t39_4, rfl, H, hL_9⟩
   have H := H.2
   refine eop_alloc 43 zer43 rfl hL_6 (fun b_4 h_10 hb_7 hf_4 hL_10 => ?_)
   have H := H b_4 h_10 (Nat.le_trans (Fr.size (Fr.r (In []) _)) hb_7) (Fr.no' (Fr.r (In []) _) hf_4) hL_10
   refine ⟨?_, ?_⟩
   ·exact still_loc one22 hL_10 1 rfl 0 (v := (Sl.v g0_1)) rfl
   refine ⟨?_, ?_⟩
   ·exact still_locA agg41 hL_10 1 rfl 0 (vs := [(Sl.v g0_1)]) rfl rfl
   refine H.mono fun rv_7 h_11 H => ?_
   obtain ⟨t39_5, t39_6, t39_7, t39_8, rfl, hL_11, H⟩ := H
   refine ⟨?_, ?_⟩
   ·exact still_loc one22 hL_11 1 rfl 0 (v := (Sl.v g0_1)) rfl
   refine pop_ext (v := (VI t39_5)) rfl ?_
   refine pop_ext (v := (Value.agg #[(Sl.v t39_6), (VI t39_7)])) rfl ?_
   refine pop_ext (v := (VI t39_8)) rfl ?_
   refine uop_loc siz43 hL_11 0 rfl 0 [(Sl.v t39_6), (VI t39_7)] rfl rfl rfl (Nat.le_of_ble_eq_true rfl) (L' := [(b_4, [(Sl.v t39_6), (VI t39_7)]), (b_1, [(Sl.v g0_1)])]) rfl (fun h_12 hf_5 hL_12 => ?_)
   have H := H  h_12  (Fr.old (Fr.r (In []) _) hf_5) hL_12
   exact ⟨b_4, t39_6, t39_7, t39_8, rfl, H, hL_12⟩
  intro junk_1 tv_1 tv_2 h_17
  rintro ⟨b_2, x_1, x_2, x_3, hv, hJ_1, hL_17⟩
  cases hv
  have H := HB_2 b_2 x_1 x_2 x_3 h_17 hJ_1 hL_17
  refine pop_ieq .i64 _ _ x_3 0 ?_
  refine condM_b (fun hb_9 => ?_) (fun hb_9 => ?_)
  ·have H := H.1 hb_9
   exact H
  have H := H.2 hb_9
  obtain ⟨J_2, ⟨n_2, h0_1⟩, HB_1⟩ := H
  refine loop_intro (J := fun (n : Nat) (vs : List Value) (h' : Heap) => ∃ n9_1 : Int, ∃ x_4 : Sl, ∃ x_5 : Int, vs = [(VI n9_1)] ∧ J_2 n n9_1 x_4 x_5 h' ∧ Vars h' [(b_2, [(Sl.v x_4), (VI x_5)]), (b_1, [(Sl.v g0_1)])]) n_2 ⟨0, x_1, x_2, rfl, h0_1, hL_17⟩ ?_
  intro I_1 mu_1 hI_1 junk_2 tv_3 h_18 hi_1
  obtain ⟨n_1, ⟨n9_1, x_4, x_5, hv, hJ_2, hL_18⟩, hn_1⟩ := hI_1 _ _ hi_1
  cases hv
  have H := HB_1 n_1 n9_1 x_4 x_5 h_18 hJ_2 hL_18
  refine pop_lss .i64 n9_1 x_3 ?_
  refine guardM_st (fun hb_10 => ?_) (fun hb_10 => ?_)
  rotate_left
  ·have H := H.2 hb_10
   refine guardM_n' hb_10 (by decide) ?_
   refine guardM_n' hb_10 (by decide) ?_
   refine guardM_n' hb_10 (by decide) ?_
   refine pop_pickf' hb_10 ?_
   refine condM_f ?_
   refine rop_locA agg41 hL_18 1 rfl 0 (vs := [(Sl.v g0_1)]) rfl rfl ?_
   refine rop_locA agg43 hL_18 0 rfl 0 (vs := [(Sl.v x_4), (VI x_5)]) rfl rfl ?_
   refine H.mono fun rv_12 h_24 H => ?_
   obtain ⟨t66_7, t66_8, t66_9, t66_10, t66_11, t66_12, rfl, hL_24, H⟩ := H
   refine pop_ext (v := (Value.agg #[(Sl.v t66_7), (VI t66_8), (Sl.v t66_9), (Sl.v t66_10), (Sl.v t66_11)])) rfl ?_
   refine pop_ext (v := (VB t66_12)) rfl ?_
   refine eop_alloc 96 zer96 rfl hL_24 (fun b_7 h_25 hb_14 hf_11 hL_25 => ?_)
   refine uop_loc siz96 hL_25 0 rfl 0 [(Sl.v t66_7), (VI t66_8), (Sl.v t66_9), (Sl.v t66_10), (Sl.v t66_11)] rfl rfl rfl (Nat.le_of_ble_eq_true rfl) (L' := [(b_7, [(Sl.v t66_7), (VI t66_8), (Sl.v t66_9), (Sl.v t66_10), (Sl.v t66_11)]), (b_2, [(Sl.v x_4), (VI x_5)]), (b_1, [(Sl.v g0_1)])]) rfl (fun h_26 hf_12 hL_26 => ?_)
   refine pop_not t66_12 ?_
   refine guardM_sf (fun hb_15 => ?_) (fun hb_15 => ?_)
   rotate_left
   ·have H := H.1 hb_15
    refine guardM_n' hb_15 (by decide) ?_
    refine guardM_n' hb_15 (by decide) ?_
    refine guardM_n' hb_15 (by decide) ?_
    refine pop_pickt' hb_15 ?_
    refine condM_t ?_
    have H := H b_7 h_26 (Nat.le_trans (Fr.size (Fr.r (In []) _)) hb_14) (Fr.new (Fr.no' (Fr.r (In []) _) hf_11) (Nat.le_trans (Fr.size (Fr.r (In []) _)) hb_14) hf_12) hL_26
    exact H
   have H := H.2 hb_15
   refine pop_field 1 fld43_1 b_2 0 ?_
   refine guardM_y' hb_15 ?_
   refine rop_loc one3 hL_26 1 rfl 1 (v := (VI x_5)) rfl ?_
   refine guardM_y' hb_15 ?_
   refine guardM_y' hb_15 ?_
   refine pop_ine .i64 _ _ x_5 p1_1 ?_
   refine pop_pickf' hb_15 ?_
   refine condM_b (fun hb_16 => ?_) (fun hb_16 => ?_)
   ·have H := H.1 hb_16
    have H := H b_7 h_26 (Nat.le_trans (Fr.size (Fr.r (In []) _)) hb_14) (Fr.new (Fr.no' (Fr.r (In []) _) hf_11) (Nat.le_trans (Fr.size (Fr.r (In []) _)) hb_14) hf_12) hL_26
    exact H
   have H := H.2 hb_16
   refine pop_field 1 fld96_1 b_7 0 ?_
   refine rop_loc one34 hL_26 0 rfl 2 (v := (Sl.v t66_9)) rfl ?_
   have H := H b_7 h_26 (Nat.le_trans (Fr.size (Fr.r (In []) _)) hb_14) (Fr.new (Fr.no' (Fr.r (In []) _) hf_11) (Nat.le_trans (Fr.size (Fr.r (In []) _)) hb_14) hf_12) hL_26
   exact H
  have H := H.1 hb_10
  refine pop_field 1 fld43_1 b_2 0 ?_
  refine guardM_y' hb_10 ?_
  refine rop_loc one3 hL_18 0 rfl 1 (v := (VI x_5)) rfl ?_
  refine guardM_y' hb_10 ?_
  refine guardM_y' hb_10 ?_
  refine pop_ine .i64 _ _ x_5 p1_1 ?_
  refine pop_pickt' hb_10 ?_
  refine condM_b (fun hb_11 => ?_) (fun hb_11 => ?_)
  ·have H := H.1 hb_11
   refine rop_locA agg41 hL_18 1 rfl 0 (vs := [(Sl.v g0_1)]) rfl rfl ?_
   refine rop_locA agg43 hL_18 0 rfl 0 (vs := [(Sl.v x_4), (VI x_5)]) rfl rfl ?_
   refine H.mono fun rv_10 h_19 H => ?_
   obtain ⟨t59_1, t59_2, t59_3, rfl, hL_19, H⟩ := H
   refine pop_ext (v := (Value.agg #[(Sl.v t59_1), (VI t59_2)])) rfl ?_
   refine pop_ext (v := (VB t59_3)) rfl ?_
   refine uop_loc siz43 hL_19 0 rfl 0 [(Sl.v t59_1), (VI t59_2)] rfl rfl rfl (Nat.le_of_ble_eq_true rfl) (L' := [(b_2, [(Sl.v t59_1), (VI t59_2)]), (b_1, [(Sl.v g0_1)])]) rfl (fun h_20 hf_8 hL_20 => ?_)
   refine pop_add .i64 n9_1 1 ?_
   have H := H  h_20  (Fr.old (Fr.r (In []) _) hf_8) hL_20
   obtain ⟨m_1, hm_1, H⟩ := H
   exact hn_1 _ _ ⟨m_1, hm_1, (w64 (n9_1 + 1)), t59_1, t59_2, rfl, H, hL_20⟩
  have H := H.2 hb_11
  refine rop_locA agg41 hL_18 1 rfl 0 (vs := [(Sl.v g0_1)]) rfl rfl ?_
  refine rop_locA agg43 hL_18 0 rfl 0 (vs := [(Sl.v x_4), (VI x_5)]) rfl rfl ?_
  refine H.mono fun rv_11 h_21 H => ?_
  obtain ⟨t66_1, t66_2, t66_3, t66_4, t66_5, t66_6, rfl, hL_21, H⟩ := H
  refine pop_ext (v := (Value.agg #[(Sl.v t66_1), (VI t66_2), (Sl.v t66_3), (Sl.v t66_4), (Sl.v t66_5)])) rfl ?_
  refine pop_ext (v := (VB t66_6)) rfl ?_
  refine eop_alloc 96 zer96 rfl hL_21 (fun b_6 h_22 hb_12 hf_9 hL_22 => ?_)
  refine uop_loc siz96 hL_22 0 rfl 0 [(Sl.v t66_1), (VI t66_2), (Sl.v t66_3), (Sl.v t66_4), (Sl.v t66_5)] rfl rfl rfl (Nat.le_of_ble_eq_true rfl) (L' := [(b_6, [(Sl.v t66_1), (VI t66_2), (Sl.v t66_3), (Sl.v t66_4), (Sl.v t66_5)]), (b_2, [(Sl.v x_4), (VI x_5)]), (b_1, [(Sl.v g0_1)])]) rfl (fun h_23 hf_10 hL_23 => ?_)
  refine pop_not t66_6 ?_
  refine guardM_sf (fun hb_13 => ?_) (fun hb_13 => ?_)
  rotate_left
  ·have H := H.1 hb_13
   refine guardM_n' hb_13 (by decide) ?_
   refine guardM_n' hb_13 (by decide) ?_
   refine guardM_n' hb_13 (by decide) ?_
   refine pop_pickt' hb_13 ?_
   refine condM_t ?_
   have H := H b_6 h_23 (Nat.le_trans (Fr.size (Fr.r (In []) _)) hb_12) (Fr.new (Fr.no' (Fr.r (In []) _) hf_9) (Nat.le_trans (Fr.size (Fr.r (In []) _)) hb_12) hf_10) hL_23
   exact H
  have H := H.2 hb_13
  refine pop_field 1 fld43_1 b_2 0 ?_
  refine guardM_y' hb_13 ?_
  refine rop_loc one3 hL_23 1 rfl 1 (v := (VI x_5)) rfl ?_
  refine guardM_y' hb_13 ?_
  refine guardM_y' hb_13 ?_
  refine pop_ine .i64 _ _ x_5 p1_1 ?_
  refine pop_pickf' hb_13 ?_
  refine condM_f' hb_11 ?_
  refine pop_field 1 fld96_1 b_6 0 ?_
  refine rop_loc one34 hL_23 0 rfl 2 (v := (Sl.v t66_3)) rfl ?_
  have H := H b_6 h_23 (Nat.le_trans (Fr.size (Fr.r (In []) _)) hb_12) (Fr.new (Fr.no' (Fr.r (In []) _) hf_9) (Nat.le_trans (Fr.size (Fr.r (In []) _)) hb_12) hf_10) hL_23
  exact H

/-! impl.EulerTour -/
def u45 (P : Program) (g0_1 : Sl) (p1_1 : Int) (h : Heap) (K : Value → Heap → Prop) : Prop :=
  ∀ (b_1 : Nat) (h_1 : Heap), h.size ≤ b_1 → Fr (In []) h h_1 → Vars h_1 [(b_1, [(Sl.v g0_1)])] →
  eop P (Instr.buildSlice 34 1 #[(0, (VI p1_1))]) h_1 fun rv_1 h_2 => ∃ t14_1 : Sl, rv_1 = (Sl.v t14_1) ∧ Vars h_2 [(b_1, [(Sl.v g0_1)])] ∧
  callM P 87 #[(Value.agg #[(Sl.v g0_1)]), (Sl.v t14_1)] h_2 fun rv_2 h_3 => ∃ t15_1 : Bool, rv_2 = (VB t15_1) ∧ Vars h_3 [(b_1, [(Sl.v g0_1)])] ∧
  ((!t15_1) = true →
  K (Value.tuple #[(Sl.v nilSl), (VB false)]) h_3) ∧
  ((!t15_1) = false →
  callM P 88 #[(Value.agg #[(Sl.v g0_1)])] h_3 fun rv_3 h_4 => ∃ t19_1 : Bool, rv_3 = (VB t19_1) ∧ Vars h_4 [(b_1, [(Sl.v g0_1)])] ∧
  ((!t19_1) = true →
  K (Value.tuple #[(Sl.v nilSl), (VB false)]) h_4) ∧
  ((!t19_1) = false →
  callM P 89 #[(Value.agg #[(Sl.v g0_1)])] h_4 fun rv_4 h_5 => ∃ t24_1 : Bool, rv_4 = (VB t24_1) ∧ Vars h_5 [(b_1, [(Sl.v g0_1)])] ∧
  ((!t24_1) = true →
  K (Value.tuple #[(Sl.v nilSl), (VB false)]) h_5) ∧
  ((!t24_1) = false →
  callM P 90 #[(Sl.v g0_1)] h_5 fun rv_5 h_6 => ∃ t29_1 : Sl, rv_5 = (Sl.v t29_1) ∧ Vars h_6 [(b_1, [(Sl.v g0_1)])] ∧
  eop P (Instr.makeSlice 34 (VI (g0_1.n : Int)) (VI (g0_1.n : Int))) h_6 fun rv_6 h_7 => ∃ t34_1 : Sl, rv_6 = (Sl.v t34_1) ∧ Vars h_7 [(b_1, [(Sl.v g0_1)])] ∧
  ∀ (b_2 : Nat) (h_9 : Heap), h_7.size ≤ b_2 → Fr (In []) h_7 h_9 → Vars h_9 [(b_2, [(Sl.v t34_1), (VI p1_1)]), (b_1, [(Sl.v g0_1)])] →
  callM P 66 #[(Value.agg #[(Sl.v g0_1)]), (Value.agg #[(Sl.v t34_1), (VI p1_1)])] h_9 fun rv_7 h_10 => ∃ t40_1 : Int, ∃ t40_2 : Int, ∃ t40_3 : Bool, rv_7 = (Value.tuple #[(VI t40_1), (VI t40_2), (VB t40_3)]) ∧ Vars h_10 [(b_2, [(Sl.v t34_1), (VI p1_1)]), (b_1, [(Sl.v g0_1)])] ∧
  ((decide ((t29_1.n : Int) = 0)) = true →
  K (Value.tuple #[(Sl.v nilSl), (VB false)]) h_10) ∧
  ((decide ((t29_1.n : Int) = 0)) = false →
  ((!t40_3) = true →
  K (Value.tuple #[(Sl.v nilSl), (VB false)]) h_10) ∧
  ((!t40_3) = false →
  callM P 71 #[(Value.agg #[(Sl.v g0_1)]), (VP b_2 0), (VI t40_1), (Value.func (.func 91) #[] #[])] h_10 fun rv_8 h_11 => ∃ x_1 : Sl, ∃ x_2 : Int, ∃ t52_1 : Bool, rv_8 = (VB t52_1) ∧ Vars h_11 [(b_2, [(Sl.v x_1), (VI x_2)]), (b_1, [(Sl.v g0_1)])] ∧
  ∃ J_1 : Nat → Sl → Int → Heap → Prop, (∃ n0 : Nat, J_1 n0 x_1 x_2 h_11) ∧
  ∀ (n_1 : Nat) (x_3 : Sl) (x_4 : Int) (h_12 : Heap), J_1 n_1 x_3 x_4 h_12 → Vars h_12 [(b_2, [(Sl.v x_3), (VI x_4)]), (b_1, [(Sl.v g0_1)])] →
  ((!decide (x_4 = p1_1)) = true →
  callM P 92 #[(Value.agg #[(Sl.v g0_1)]), (VP b_2 0)] h_12 fun rv_9 h_13 => ∃ x_5 : Sl, ∃ x_6 : Int, ∃ t58_1 : Bool, rv_9 = (VB t58_1) ∧ Vars h_13 [(b_2, [(Sl.v x_5), (VI x_6)]), (b_1, [(Sl.v g0_1)])] ∧
  ∃ m : Nat, m < n_1 ∧ J_1 m x_5 x_6 h_13) ∧
  ((!decide (x_4 = p1_1)) = false →
  eop P (Instr.buildSlice 34 1 #[(0, (VI p1_1))]) h_12 fun rv_10 h_14 => ∃ t60_1 : Sl, rv_10 = (Sl.v t60_1) ∧ Vars h_14 [(b_2, [(Sl.v x_3), (VI x_4)]), (b_1, [(Sl.v g0_1)])] ∧
  ∀ (b_3 : Nat) (h_16 : Heap), h_14.size ≤ b_3 → Fr (In []) h_14 h_16 → Vars h_16 [(b_3, [(Sl.v t60_1)]), (b_2, [(Sl.v x_3), (VI x_4)]), (b_1, [(Sl.v g0_1)])] →
  callM P 71 #[(Value.agg #[(Sl.v g0_1)]), (VP b_2 0), (VI (t29_1.n : Int)), (Value.func (Fn.func 93) #[] #[(VP b_3 0), (VP b_2 0)])] h_16 fun rv_11 h_17 => ∃ x_7 : Sl, ∃ x_8 : Sl, ∃ x_9 : Int, ∃ t64_1 : Bool, rv_11 = (VB t64_1) ∧ Vars h_17 [(b_3, [(Sl.v x_7)]), (b_2, [(Sl.v x_8), (VI x_9)]), (b_1, [(Sl.v g0_1)])] ∧
  K (Value.tuple #[(Sl.v x_7), (VB true)]) h_17))))))
theorem v45 (g0_1 : Sl) (p1_1 : Int) (h : Heap) (K : Value → Heap → Prop) (H : u45 Tryd.prog g0_1 p1_1 h K) : callM Tryd.prog 45 #[(Value.agg #[(Sl.v g0_1)]), (VI p1_1)] h K := by
  refine c45 (Value.agg #[(Sl.v g0_1)]) (VI p1_1) h K ?_
  unfold u45 at H
  unfold t45
  have hL : Vars h [] := .nil
  refine eop_box 41 (Value.agg #[(Sl.v g0_1)]) rfl hL (fun b_1 h_1 hb_1 hf_1 hL_1 => ?_)
  refine rop_locA agg41 hL_1 0 rfl 0 (vs := [(Sl.v g0_1)]) rfl rfl ?_
  have H := H b_1 h_1 (Nat.le_trans (Fr.size (Fr.r (In []) _)) hb_1) (Fr.no' (Fr.r (In []) _) hf_1) hL_1
  refine H.mono fun rv_1 h_2 H => ?_
  obtain ⟨t14_1, rfl, hL_2, H⟩ := H
  refine H.mono fun rv_2 h_3 H => ?_
  obtain ⟨t15_1, rfl, hL_3, H⟩ := H
  refine pop_not t15_1 ?_
  refine guardM_sf (fun hb_2 => ?_) (fun hb_2 => ?_)
  rotate_left
  ·have H := H.1 hb_2
   refine guardM_n' hb_2 (by decide) ?_
   refine guardM_n' hb_2 (by decide) ?_
   refine pop_pickt' hb_2 ?_
   refine guardM_n (by decide) ?_
   refine guardM_n (by decide) ?_
   refine guardM_n (by decide) ?_
   refine pop_pickt _ _ ?_
   refine condM_t ?_
   exact H
  have H := H.2 hb_2
  refine rop_locA agg41 hL_3 0 rfl 0 (vs := [(Sl.v g0_1)]) rfl rfl ?_
  refine guardM_y' hb_2 ?_
  refine H.mono fun rv_3 h_4 H => ?_
  obtain ⟨t19_1, rfl, hL_4, H⟩ := H
  refine guardM_y' hb_2 ?_
  refine pop_not t19_1 ?_
  refine pop_pickf' hb_2 ?_
  refine guardM_sf (fun hb_3 => ?_) (fun hb_3 => ?_)
  rotate_left
  ·have H := H.1 hb_3
   refine guardM_n' hb_3 (by decide) ?_
   refine guardM_n' hb_3 (by decide) ?_
   refine pop_pickt' hb_3 ?_
   refine condM_t ?_
   exact H
  have H := H.2 hb_3
  refine rop_locA agg41 hL_4 0 rfl 0 (vs := [(Sl.v g0_1)]) rfl rfl ?_
  refine guardM_y' hb_3 ?_
  refine H.mono fun rv_4 h_5 H => ?_
  obtain ⟨t24_1, rfl, hL_5, H⟩ := H
  refine guardM_y' hb_3 ?_
  refine pop_not t24_1 ?_
  refine pop_pickf' hb_3 ?_
  refine condM_b (fun hb_4 => ?_) (fun hb_4 => ?_)
  ·have H := H.1 hb_4
   exact H
  have H := H.2 hb_4
  refine pop_field 0 fld41_0 b_1 0 ?_
  refine rop_loc one22 hL_5 0 rfl 0 (v := (Sl.v g0_1)) rfl ?_
  refine H.mono fun rv_5 h_6 H => ?_
  obtain ⟨t29_1, rfl, hL_6, H⟩ := H
  refine pop_len t29_1 _ _ sli34 ?_
  refine pop_field 0 fld41_0 b_1 0 ?_
  refine rop_loc one22 hL_6 0 rfl 0 (v := (Sl.v g0_1)) rfl ?_
  refine pop_len g0_1 _ _ sli22 ?_
  refine H.mono fun rv_6 h_7 H => ?_
  obtain ⟨t34_1, rfl, hL_7, H⟩ := H
  refine pop.mk' (v := (Value.agg #[(Sl.v t34_1), (VI p1_1)])) (fun w => by kernel_rfl) ?_
  refine eop_alloc 43 zer43 rfl hL_7 (fun b_2 h_8 hb_5 hf_2 hL_8 => ?_)
  refine uop_loc siz43 hL_8 0 rfl 0 [(Sl.v t34_1), (VI p1_1)] rfl rfl rfl (Nat.le_of_ble_eq_true rfl) (L' := [(b_2, [(Sl.v t34_1), (VI p1_1)]), (b_1, [(Sl.v g0_1)])]) rfl (fun h_9 hf_3 hL_9 => ?_)
  refine rop_locA agg41 hL_9 1 rfl 0 (vs := [(Sl.v g0_1)]) rfl rfl ?_
  refine rop_locA agg43 hL_9 0 rfl 0 (vs := [(Sl.v t34_1), (VI p1_1)]) rfl rfl ?_
  have H := H b_2 h_9 (Nat.le_trans (Fr.size (Fr.r (In []) _)) hb_5) (Fr.new (Fr.no' (Fr.r (In []) _) hf_2) (Nat.le_trans (Fr.size (Fr.r (In []) _)) hb_5) hf_3) hL_9
  refine H.mono fun rv_7 h_10 H => ?_
  obtain ⟨t40_1, t40_2, t40_3, rfl, hL_10, H⟩ := H
  refine pop_ext (v := (VI t40_1)) rfl ?_
  refine pop_ext (v := (VI t40_2)) rfl ?_
  refine pop_ext (v := (VB t40_3)) rfl ?_
  refine pop_ieq .i64 _ _ (t29_1.n : Int) 0 ?_
  refine guardM_sf (fun hb_6 => ?_) (fun hb_6 => ?_)
  rotate_left
  ·have H := H.1 hb_6
   refine guardM_n' hb_6 (by decide) ?_
   refine pop_pickt' hb_6 ?_
   refine condM_t ?_
   exact H
  have H := H.2 hb_6
  refine guardM_y' hb_6 ?_
  refine pop_not t40_3 ?_
  refine pop_pickf' hb_6 ?_
  refine condM_b (fun hb_7 => ?_) (fun hb_7 => ?_)
  ·have H := H.1 hb_7
   exact H
  have H := H.2 hb_7
  refine rop_locA agg41 hL_10 1 rfl 0 (vs := [(Sl.v g0_1)]) rfl rfl ?_
  refine H.mono fun rv_8 h_11 H => ?_
  obtain ⟨x_1, x_2, t52_1, rfl, hL_11, H⟩ := H
  obtain ⟨J_1, ⟨n_2, h0_1⟩, HB_1⟩ := H
  refine loop_intro (J := fun (n : Nat) (vs : List Value) (h' : Heap) => ∃ x_3 : Sl, ∃ x_4 : Int, vs = [] ∧ J_1 n x_3 x_4 h' ∧ Vars h' [(b_2, [(Sl.v x_3), (VI x_4)]), (b_1, [(Sl.v g0_1)])]) n_2 ⟨x_1, x_2, rfl, h0_1, hL_11⟩ ?_
  intro I_1 mu_1 hI_1 junk_1  h_12 hi_1
  obtain ⟨n_1, ⟨x_3, x_4, hv, hJ_1, hL_12⟩, hn_1⟩ := hI_1 _ _ hi_1
  cases hv
  have H := HB_1 n_1 x_3 x_4 h_12 hJ_1 hL_12
  refine pop_field 1 fld43_1 b_2 0 ?_
  refine rop_loc one3 hL_12 0 rfl 1 (v := (VI x_4)) rfl ?_
  refine pop_ine .i64 _ _ x_4 p1_1 ?_
  refine condM_b (fun hb_8 => ?_) (fun hb_8 => ?_)
  ·have H := H.1 hb_8
   refine rop_locA agg41 hL_12 1 rfl 0 (vs := [(Sl.v g0_1)]) rfl rfl ?_
   refine H.mono fun rv_9 h_13 H => ?_
   obtain ⟨x_5, x_6, t58_1, rfl, hL_13, H⟩ := H
   obtain ⟨m_1, hm_1, H⟩ := H
   exact hn_1 _ _ ⟨m_1, hm_1, x_5, x_6, rfl, H, hL_13⟩
  have H := H.2 hb_8
  refine H.mono fun rv_10 h_14 H => ?_
  obtain ⟨t60_1, rfl, hL_14, H⟩ := H
  refine eop_alloc 34 zer34 rfl hL_14 (fun b_3 h_15 hb_9 hf_4 hL_15 => ?_)
  refine uop_loc siz34 hL_15 0 rfl 0 [(Sl.v t60_1)] rfl rfl rfl (Nat.le_of_ble_eq_true rfl) (L' := [(b_3, [(Sl.v t60_1)]), (b_2, [(Sl.v x_3), (VI x_4)]), (b_1, [(Sl.v g0_1)])]) rfl (fun h_16 hf_5 hL_16 => ?_)
  refine rop_locA agg41 hL_16 2 rfl 0 (vs := [(Sl.v g0_1)]) rfl rfl ?_
  refine pop_func _ _ _ ?_
  have H := H b_3 h_16 (Nat.le_trans (Fr.size (Fr.r (In []) _)) hb_9) (Fr.new (Fr.no' (Fr.r (In []) _) hf_4) (Nat.le_trans (Fr.size (Fr.r (In []) _)) hb_9) hf_5) hL_16
  refine H.mono fun rv_11 h_17 H => ?_
  obtain ⟨x_7, x_8, x_9, t64_1, rfl, hL_17, H⟩ := H
  refine rop_loc one34 hL_17 0 rfl 0 (v := (Sl.v x_7)) rfl ?_
  exact H

/-! laws.eqIntS -/
def u46 (P : Program) (a0_1 : Sl) (b1_1 : Sl) (h : Heap) (K : Value → Heap → Prop) : Prop :=
  ((!decide ((a0_1.n : Int) = (b1_1.n : Int))) = true →
  K (VB false) h) ∧
  ((!decide ((a0_1.n : Int) = (b1_1.n : Int))) = false →
  ∃ J_1 : Nat → Int → Heap → Prop, (∃ n0 : Nat, J_1 n0 0 h) ∧
  ∀ (n_1 : Nat) (i5_1 : Int) (h_1 : Heap), J_1 n_1 i5_1 h_1 → Vars h_1 [] →
  ((decide (i5_1 < (a0_1.n : Int))) = true →
  InB a0_1 i5_1 ∧
  ∃ t20_1 : Int, hcell h_1 (Sl.at a0_1 i5_1 1) = some (VI t20_1) ∧
  InB b1_1 i5_1 ∧
  ∃ t24_1 : Int, hcell h_1 (Sl.at b1_1 i5_1 1) = some (VI t24_1) ∧
  ((!decide (t20_1 = t24_1)) = true →
  K (VB false) h_1) ∧
  ((!decide (t20_1 = t24_1)) = false →
  ∃ m : Nat, m < n_1 ∧ J_1 m (w64 (i5_1 + 1)) h_1)) ∧
  ((decide (i5_1 < (a0_1.n : Int))) = false →
  K (VB true) h_1))
theorem v46 (a0_1 : Sl) (b1_1 : Sl) (h : Heap) (K : Value → Heap → Prop) (H : u46 Tryd.prog a0_1 b1_1 h K) : callM Tryd.prog 46 #[(Sl.v a0_1), (Sl.v b1_1)] h K := by
  refine c46 (Sl.v a0_1) (Sl.v b1_1) h K ?_
  unfold u46 at H
  unfold t46
  have hL : Vars h [] := .nil
  refine pop_len a0_1 _ _ sli34 ?_
  refine pop_len b1_1 _ _ sli34 ?_
  refine pop_ine .i64 _ _ (a0_1.n : Int) (b1_1.n : Int) ?_
  refine condM_b (fun hb_1 => ?_) (fun hb_1 => ?_)
  ·have H := H.1 hb_1
   exact H
  have H := H.2 hb_1
  obtain ⟨J_1, ⟨n_2, h0_1⟩, HB_1⟩ := H
  refine loop_intro (J := fun (n : Nat) (vs : List Value) (h' : Heap) => ∃ i5_1 : Int, vs = [(VI i5_1)] ∧ J_1 n i5_1 h' ∧ Vars h' []) n_2 ⟨0, rfl, h0_1, hL⟩ ?_
  intro I_1 mu_1 hI_1 junk_1 tv_1 h_1 hi_1
  obtain ⟨n_1, ⟨i5_1, hv, hJ_1, hL_1⟩, hn_1⟩ := hI_1 _ _ hi_1
  cases hv
  have H := HB_1 n_1 i5_1 h_1 hJ_1 hL_1
  refine pop_len a0_1 _ _ sli34 ?_
  refine pop_lss .i64 i5_1 (a0_1.n : Int) ?_
  refine condM_b (fun hb_2 => ?_) (fun hb_2 => ?_)
  rotate_left
  ·have H := H.2 hb_2
   exact H
  have H := H.1 hb_2
  obtain ⟨hi_2, H⟩ := H
  refine pop_index sli34 siz3 .i64 a0_1 i5_1 hi_2 ?_
  obtain ⟨t20_1, hc_2, H⟩ := H
  refine rop_one one3 (VI t20_1) hc_2 ?_
  obtain ⟨hi_3, H⟩ := H
  refine pop_index sli34 siz3 .i64 b1_1 i5_1 hi_3 ?_
  obtain ⟨t24_1, hc_1, H⟩ := H
  refine rop_one one3 (VI t24_1) hc_1 ?_
  refine pop_ine .i64 _ _ t20_1 t24_1 ?_
  refine condM_b (fun hb_3 => ?_) (fun hb_3 => ?_)
  ·have H := H.1 hb_3
   exact H
  have H := H.2 hb_3
  refine pop_add .i64 i5_1 1 ?_
  obtain ⟨m_1, hm_1, H⟩ := H
  exact hn_1 _ _ ⟨m_1, hm_1, (w64 (i5_1 + 1)), rfl, H, hL_1⟩

/-! laws.markGraph -/
def u47 (P : Program) (a0_1 : Sl) (k1_1 : Int) (h : Heap) (K : Value → Heap → Prop) : Prop :=
  ∀ (b_1 : Nat) (h_1 : Heap), h.size ≤ b_1 → Fr (In []) h h_1 → Vars h_1 [(b_1, [(Sl.v a0_1)])] →
  callM P 94 #[(Sl.v a0_1), (VI k1_1)] h_1 fun rv_1 h_2 => ∃ t8_1 : Int, rv_1 = (VI t8_1) ∧ Vars h_2 [(b_1, [(Sl.v a0_1)])] ∧
  K (VI t8_1) h_2
theorem v47 (a0_1 : Sl) (k1_1 : Int) (h : Heap) (K : Value → Heap → Prop) (H : u47 Tryd.prog a0_1 k1_1 h K) : callM Tryd.prog 47 #[(Value.agg #[(Sl.v a0_1)]), (VI k1_1)] h K := by
  refine c47 (Value.agg #[(Sl.v a0_1)]) (VI k1_1) h K ?_
  unfold u47 at H
  unfold t47
  have hL : Vars h [] := .nil
  refine eop_box 41 (Value.agg #[(Sl.v a0_1)]) rfl hL (fun b_1 h_1 hb_1 hf_1 hL_1 => ?_)
  refine pop_field 0 fld41_0 b_1 0 ?_
  refine rop_loc one22 hL_1 0 rfl 0 (v := (Sl.v a0_1)) rfl ?_
  have H := H b_1 h_1 (Nat.le_trans (Fr.size (Fr.r (In []) _)) hb_1) (Fr.no' (Fr.r (In []) _) hf_1) hL_1
  refine H.mono fun rv_1 h_2 H => ?_
  obtain ⟨t8_1, rfl, hL_2, H⟩ := H
  exact H

/-! laws.markIntS -/
def u48 (P : Program) (a0_1 : Sl) (k1_1 : Int) (h : Heap) (K : Value → Heap → Prop) : Prop :=
  ∃ J_1 : Nat → Int → Int → Heap → Prop, (∃ n0 : Nat, J_1 n0 k1_1 0 h) ∧
  ∀ (n_1 : Nat) (k1_2 : Int) (i5_1 : Int) (h_1 : Heap), J_1 n_1 k1_2 i5_1 h_1 → Vars h_1 [] →
  ((decide (i5_1 < (a0_1.n : Int))) = true →
  InB a0_1 i5_1 ∧
  Writable h_1 (Sl.at a0_1 i5_1 1) ∧ Vars (hset h_1 (Sl.at a0_1 i5_1 1) (VI k1_2)) [] ∧
  ∀ h_2 : Heap, h_2 = hset h_1 (Sl.at a0_1 i5_1 1) (VI k1_2) → Vars h_2 [] →
  ∃ m : Nat, m < n_1 ∧ J_1 m (w64 (k1_2 + 1)) (w64 (i5_1 + 1)) h_2) ∧
  ((decide (i5_1 < (a0_1.n : Int))) = false →
  K (VI k1_2) h_1)
theorem v48 (a0_1 : Sl) (k1_1 : Int) (h : Heap) (K : Value → Heap → Prop) (H : u48 Tryd.prog a0_1 k1_1 h K) : callM Tryd.prog 48 #[(Sl.v a0_1), (VI k1_1)] h K := by
  refine c48 (Sl.v a0_1) (VI k1_1) h K ?_
  unfold u48 at H
  unfold t48
  have hL : Vars h [] := .nil
  obtain ⟨J_1, ⟨n_2, h0_1⟩, HB_1⟩ := H
  refine loop_intro (J := fun (n : Nat) (vs : List Value) (h' : Heap) => ∃ k1_2 : Int, ∃ i5_1 : Int, vs = [(VI k1_2), (VI i5_1)] ∧ J_1 n k1_2 i5_1 h' ∧ Vars h' []) n_2 ⟨k1_1, 0, rfl, h0_1, hL⟩ ?_
  intro I_1 mu_1 hI_1 junk_1 tv_1 tv_2 h_1 hi_1
  obtain ⟨n_1, ⟨k1_2, i5_1, hv, hJ_1, hL_1⟩, hn_1⟩ := hI_1 _ _ hi_1
  cases hv
  have H := HB_1 n_1 k1_2 i5_1 h_1 hJ_1 hL_1
  refine pop_len a0_1 _ _ sli34 ?_
  refine pop_lss .i64 i5_1 (a0_1.n : Int) ?_
  refine condM_b (fun hb_1 => ?_) (fun hb_1 => ?_)
  rotate_left
  ·have H := H.2 hb_1
   exact H
  have H := H.1 hb_1
  obtain ⟨hi_2, H⟩ := H
  refine pop_index sli34 siz3 .i64 a0_1 i5_1 hi_2 ?_
  obtain ⟨hw_1, hL_2, H⟩ := H
  refine uop_cell (v := (VI k1_2)) siz3 hw_1 rfl (fun h_2 he_1 => ?_)
  rw [← he_1] at hL_2
  have H := H h_2 he_1 hL_2
  refine pop_add .i64 k1_2 1 ?_
  refine pop_add .i64 i5_1 1 ?_
  obtain ⟨m_1, hm_1, H⟩ := H
  exact hn_1 _ _ ⟨m_1, hm_1, (w64 (k1_2 + 1)), (w64 (i5_1 + 1)), rfl, H, hL_2⟩

/-! laws.heldIntS -/
def u49 (P : Program) (a0_1 : Sl) (k1_1 : Int) (h : Heap) (K : Value → Heap → Prop) : Prop :=
  ∃ J_1 : Nat → Int → Int → Heap → Prop, (∃ n0 : Nat, J_1 n0 k1_1 0 h) ∧
  ∀ (n_1 : Nat) (k1_2 : Int) (i5_1 : Int) (h_1 : Heap), J_1 n_1 k1_2 i5_1 h_1 → Vars h_1 [] →
  ((decide (i5_1 < (a0_1.n : Int))) = true →
  InB a0_1 i5_1 ∧
  ∃ t15_1 : Int, hcell h_1 (Sl.at a0_1 i5_1 1) = some (VI t15_1) ∧
  ((!decide (t15_1 = k1_2)) = true →
  K (VI (-1)) h_1) ∧
  ((!decide (t15_1 = k1_2)) = false →
  ∃ m : Nat, m < n_1 ∧ J_1 m (w64 (k1_2 + 1)) (w64 (i5_1 + 1)) h_1)) ∧
  ((decide (i5_1 < (a0_1.n : Int))) = false →
  K (VI k1_2) h_1)
theorem v49 (a0_1 : Sl) (k1_1 : Int) (h : Heap) (K : Value → Heap → Prop) (H : u49 Tryd.prog a0_1 k1_1 h K) : callM Tryd.prog 49 #[(Sl.v a0_1), (VI k1_1)] h K := by
  refine c49 (Sl.v a0_1) (VI k1_1) h K ?_
  unfold u49 at H
  unfold t49
  have hL : Vars h [] := .nil
  obtain ⟨J_1, ⟨n_2, h0_1⟩, HB_1⟩ := H
  refine loop_intro (J := fun (n : Nat) (vs : List Value) (h' : Heap) => ∃ k1_2 : Int, ∃ i5_1 : Int, vs = [(VI k1_2), (VI i5_1)] ∧ J_1 n k1_2 i5_1 h' ∧ Vars h' []) n_2 ⟨k1_1, 0, rfl, h0_1, hL⟩ ?_
  intro I_1 mu_1 hI_1 junk_1 tv_1 tv_2 h_1 hi_1
  obtain ⟨n_1, ⟨k1_2, i5_1, hv, hJ_1, hL_1⟩, hn_1⟩ := hI_1 _ _ hi_1
  cases hv
  have H := HB_1 n_1 k1_2 i5_1 h_1 hJ_1 hL_1
  refine pop_len a0_1 _ _ sli34 ?_
  refine pop_lss .i64 i5_1 (a0_1.n : Int) ?_
  refine condM_b (fun hb_1 => ?_) (fun hb_1 => ?_)
  rotate_left
  ·have H := H.2 hb_1
   exact H
  have H := H.1 hb_1
  obtain ⟨hi_2, H⟩ := H
  refine pop_index sli34 siz3 .i64 a0_1 i5_1 hi_2 ?_
  obtain ⟨t15_1, hc_1, H⟩ := H
  refine rop_one one3 (VI t15_1) hc_1 ?_
  refine pop_ine .i64 _ _ t15_1 k1_2 ?_
  refine condM_b (fun hb_2 => ?_) (fun hb_2 => ?_)
  ·have H := H.1 hb_2
   exact H
  have H := H.2 hb_2
  refine pop_add .i64 k1_2 1 ?_
  refine pop_add .i64 i5_1 1 ?_
  obtain ⟨m_1, hm_1, H⟩ := H
  exact hn_1 _ _ ⟨m_1, hm_1, (w64 (k1_2 + 1)), (w64 (i5_1 + 1)), rfl, H, hL_1⟩

/-! laws.szIntSS -/
def u50 (P : Program) (a0_1 : Sl) (left1_1 : Int) (h : Heap) (K : Value → Heap → Prop) : Prop :=
  ((decide ((w64 (left1_1 - (a0_1.n : Int))) < 0)) = true →
  K (VI (-1)) h) ∧
  ((decide ((w64 (left1_1 - (a0_1.n : Int))) < 0)) = false →
  ∃ J_1 : Nat → Int → Int → Heap → Prop, (∃ n0 : Nat, J_1 n0 (w64 (left1_1 - (a0_1.n : Int))) 0 h) ∧
  ∀ (n_1 : Nat) (left1_2 : Int) (i5_1 : Int) (h_1 : Heap), J_1 n_1 left1_2 i5_1 h_1 → Vars h_1 [] →
  ((decide (i5_1 < (a0_1.n : Int))) = true →
  InB a0_1 i5_1 ∧
  ∃ t21_1 : Sl, hcell h_1 (Sl.at a0_1 i5_1 1) = some (Sl.v t21_1) ∧
  callM P 61 #[(Sl.v t21_1), (VI left1_2)] h_1 fun rv_1 h_2 => ∃ t23_1 : Int, rv_1 = (VI t23_1) ∧ Vars h_2 [] ∧
  ((decide (t23_1 < 0)) = true →
  K (VI (-1)) h_2) ∧
  ((decide (t23_1 < 0)) = false →
  ∃ m : Nat, m < n_1 ∧ J_1 m t23_1 (w64 (i5_1 + 1)) h_2)) ∧
  ((decide (i5_1 < (a0_1.n : Int))) = false →
  K (VI left1_2) h_1))
theorem v50 (a0_1 : Sl) (left1_1 : Int) (h : Heap) (K : Value → Heap → Prop) (H : u50 Tryd.prog a0_1 left1_1 h K) : callM Tryd.prog 50 #[(Sl.v a0_1), (VI left1_1)] h K := by
  refine c50 (Sl.v a0_1) (VI left1_1) h K ?_
  unfold u50 at H
  unfold t50
  have hL : Vars h [] := .nil
  refine pop_len a0_1 _ _ sli22 ?_
  refine pop_sub .i64 left1_1 (a0_1.n : Int) ?_
  refine pop_lss .i64 (w64 (left1_1 - (a0_1.n : Int))) 0 ?_
  refine condM_b (fun hb_1 => ?_) (fun hb_1 => ?_)
  ·have H := H.1 hb_1
   exact H
  have H := H.2 hb_1
  obtain ⟨J_1, ⟨n_2, h0_1⟩, HB_1⟩ := H
  refine loop_intro (J := fun (n : Nat) (vs : List Value) (h' : Heap) => ∃ left1_2 : Int, ∃ i5_1 : Int, vs = [(VI left1_2), (VI i5_1)] ∧ J_1 n left1_2 i5_1 h' ∧ Vars h' []) n_2 ⟨(w64 (left1_1 - (a0_1.n : Int))), 0, rfl, h0_1, hL⟩ ?_
  intro I_1 mu_1 hI_1 junk_1 tv_1 tv_2 h_1 hi_1
  obtain ⟨n_1, ⟨left1_2, i5_1, hv, hJ_1, hL_1⟩, hn_1⟩ := hI_1 _ _ hi_1
  cases hv
  have H := HB_1 n_1 left1_2 i5_1 h_1 hJ_1 hL_1
  refine pop_len a0_1 _ _ sli22 ?_
  refine pop_lss .i64 i5_1 (a0_1.n : Int) ?_
  refine condM_b (fun hb_2 => ?_) (fun hb_2 => ?_)
  rotate_left
  ·have H := H.2 hb_2
   exact H
  have H := H.1 hb_2
  obtain ⟨hi_2, H⟩ := H
  refine pop_index sli22 siz34 .i64 a0_1 i5_1 hi_2 ?_
  obtain ⟨t21_1, hc_1, H⟩ := H
  refine rop_one one34 (Sl.v t21_1) hc_1 ?_
  refine H.mono fun rv_1 h_2 H => ?_
  obtain ⟨t23_1, rfl, hL_2, H⟩ := H
  refine pop_lss .i64 t23_1 0 ?_
  refine condM_b (fun hb_3 => ?_) (fun hb_3 => ?_)
  ·have H := H.1 hb_3
   exact H
  have H := H.2 hb_3
  refine pop_add .i64 i5_1 1 ?_
  obtain ⟨m_1, hm_1, H⟩ := H
  exact hn_1 _ _ ⟨m_1, hm_1, t23_1, (w64 (i5_1 + 1)), rfl, H, hL_2⟩

/-! spec.l1In -/
def u51 (P : Program) (n0_1 : Int) (lo1_1 : Int) (hi2_1 : Int) (h : Heap) (K : Value → Heap → Prop) : Prop :=
  ((decide (lo1_1 ≤ n0_1)) = true →
  K (VB (decide (n0_1 ≤ hi2_1))) h) ∧
  ((decide (lo1_1 ≤ n0_1)) = false →
  K (VB false) h)
theorem v51 (n0_1 : Int) (lo1_1 : Int) (hi2_1 : Int) (h : Heap) (K : Value → Heap → Prop) (H : u51 Tryd.prog n0_1 lo1_1 hi2_1 h K) : callM Tryd.prog 51 #[(VI n0_1), (VI lo1_1), (VI hi2_1)] h K := by
  refine c51 (VI n0_1) (VI lo1_1) (VI hi2_1) h K ?_
  unfold u51 at H
  unfold t51
  have hL : Vars h [] := .nil
  refine pop_geq .i64 n0_1 lo1_1 ?_
  refine guardM_st (fun hb_1 => ?_) (fun hb_1 => ?_)
  rotate_left
  ·have H := H.2 hb_1
   refine guardM_n' hb_1 (by decide) ?_
   refine guardM_n' hb_1 (by decide) ?_
   refine pop_pickf' hb_1 ?_
   exact H
  have H := H.1 hb_1
  refine guardM_y' hb_1 ?_
  refine guardM_y' hb_1 ?_
  refine pop_leq .i64 n0_1 hi2_1 ?_
  refine pop_pickt' hb_1 ?_
  exact H

/-! spec.l1All -/
def u52 (P : Program) (l0_1 : Sl) (lo1_1 : Int) (hi2_1 : Int) (h : Heap) (K : Value → Heap → Prop) : Prop :=
  ∃ J_1 : Nat → Int → Heap → Prop, (∃ n0 : Nat, J_1 n0 0 h) ∧
  ∀ (n_1 : Nat) (t11_1 : Int) (h_1 : Heap), J_1 n_1 t11_1 h_1 → Vars h_1 [] →
  ((decide (t11_1 < (l0_1.n : Int))) = true →
  InB l0_1 t11_1 ∧
  ∃ t14_1 : Int, hcell h_1 (Sl.at l0_1 t11_1 1) = some (VI t14_1) ∧
  callM P 51 #[(VI t14_1), (VI lo1_1), (VI hi2_1)] h_1 fun rv_1 h_2 => ∃ t18_1 : Bool, rv_1 = (VB t18_1) ∧ Vars h_2 [] ∧
  ((!t18_1) = true →
  K (VB false) h_2) ∧
  ((!t18_1) = false →
  ∃ m : Nat, m < n_1 ∧ J_1 m (w64 (t11_1 + 1)) h_2)) ∧
  ((decide (t11_1 < (l0_1.n : Int))) = false →
  K (VB true) h_1)
theorem v52 (l0_1 : Sl) (lo1_1 : Int) (hi2_1 : Int) (h : Heap) (K : Value → Heap → Prop) (H : u52 Tryd.prog l0_1 lo1_1 hi2_1 h K) : callM Tryd.prog 52 #[(Sl.v l0_1), (VI lo1_1), (VI hi2_1)] h K := by
  refine c52 (Sl.v l0_1) (VI lo1_1) (VI hi2_1) h K ?_
  unfold u52 at H
  unfold t52
  have hL : Vars h [] := .nil
  refine pop_len l0_1 _ _ sli34 ?_
  obtain ⟨J_1, ⟨n_2, h0_1⟩, HB_1⟩ := H
  refine loop_intro (J := fun (n : Nat) (vs : List Value) (h' : Heap) => ∃ t11_1 : Int, vs = [(VI t11_1)] ∧ J_1 n t11_1 h' ∧ Vars h' []) n_2 ⟨0, rfl, h0_1, hL⟩ ?_
  intro I_1 mu_1 hI_1 junk_1 tv_1 h_1 hi_1
  obtain ⟨n_1, ⟨t11_1, hv, hJ_1, hL_1⟩, hn_1⟩ := hI_1 _ _ hi_1
  cases hv
  have H := HB_1 n_1 t11_1 h_1 hJ_1 hL_1
  refine pop_lss .i64 t11_1 (l0_1.n : Int) ?_
  refine condM_b (fun hb_1 => ?_) (fun hb_1 => ?_)
  rotate_left
  ·have H := H.2 hb_1
   exact H
  have H := H.1 hb_1
  obtain ⟨hi_2, H⟩ := H
  refine pop_index sli34 siz3 .i64 l0_1 t11_1 hi_2 ?_
  obtain ⟨t14_1, hc_1, H⟩ := H
  refine rop_one one3 (VI t14_1) hc_1 ?_
  refine H.mono fun rv_1 h_2 H => ?_
  obtain ⟨t18_1, rfl, hL_2, H⟩ := H
  refine pop_not t18_1 ?_
  refine condM_b (fun hb_2 => ?_) (fun hb_2 => ?_)
  ·have H := H.1 hb_2
   exact H
  have H := H.2 hb_2
  refine pop_add .i64 t11_1 1 ?_
  obtain ⟨m_1, hm_1, H⟩ := H
  exact hn_1 _ _ ⟨m_1, hm_1, (w64 (t11_1 + 1)), rfl, H, hL_2⟩

/-! laws.toIntSS -/
def u54 (P : Program) (a0_1 : Sl) (h : Heap) (K : Value → Heap → Prop) : Prop :=
  eop P (Instr.makeSlice 22 (VI (a0_1.n : Int)) (VI (a0_1.n : Int))) h fun rv_1 h_1 => ∃ t7_1 : Sl, rv_1 = (Sl.v t7_1) ∧ Vars h_1 [] ∧
  ∃ J_1 : Nat → Int → Heap → Prop, (∃ n0 : Nat, J_1 n0 0 h_1) ∧
  ∀ (n_1 : Nat) (i4_1 : Int) (h_2 : Heap), J_1 n_1 i4_1 h_2 → Vars h_2 [] →
  ((decide (i4_1 < (a0_1.n : Int))) = true →
  InB a0_1 i4_1 ∧
  ∃ t19_1 : Sl, hcell h_2 (Sl.at a0_1 i4_1 1) = some (Sl.v t19_1) ∧
  callM P 64 #[(Sl.v t19_1)] h_2 fun rv_2 h_3 => ∃ t20_1 : Sl, rv_2 = (Sl.v t20_1) ∧ Vars h_3 [] ∧
  InB t7_1 i4_1 ∧
  Writable h_3 (Sl.at t7_1 i4_1 1) ∧ Vars (hset h_3 (Sl.at t7_1 i4_1 1) (Sl.v t20_1)) [] ∧
  ∀ h_4 : Heap, h_4 = hset h_3 (Sl.at t7_1 i4_1 1) (Sl.v t20_1) → Vars h_4 [] →
  ∃ m : Nat, m < n_1 ∧ J_1 m (w64 (i4_1 + 1)) h_4) ∧
  ((decide (i4_1 < (a0_1.n : Int))) = false →
  K (Sl.v t7_1) h_2)
theorem v54 (a0_1 : Sl) (h : Heap) (K : Value → Heap → Prop) (H : u54 Tryd.prog a0_1 h K) : callM Tryd.prog 54 #[(Sl.v a0_1)] h K := by
  refine c54 (Sl.v a0_1) h K ?_
  unfold u54 at H
  unfold t54
  have hL : Vars h [] := .nil
  refine pop_len a0_1 _ _ sli22 ?_
  refine H.mono fun rv_1 h_1 H => ?_
  obtain ⟨t7_1, rfl, hL_1, H⟩ := H
  obtain ⟨J_1, ⟨n_2, h0_1⟩, HB_1⟩ := H
  refine loop_intro (J := fun (n : Nat) (vs : List Value) (h' : Heap) => ∃ i4_1 : Int, vs = [(VI i4_1)] ∧ J_1 n i4_1 h' ∧ Vars h' []) n_2 ⟨0, rfl, h0_1, hL_1⟩ ?_
  intro I_1 mu_1 hI_1 junk_1 tv_1 h_2 hi_1
  obtain ⟨n_1, ⟨i4_1, hv, hJ_1, hL_2⟩, hn_1⟩ := hI_1 _ _ hi_1
  cases hv
  have H := HB_1 n_1 i4_1 h_2 hJ_1 hL_2
  refine pop_len a0_1 _ _ sli22 ?_
  refine pop_lss .i64 i4_1 (a0_1.n : Int) ?_
  refine condM_b (fun hb_1 => ?_) (fun hb_1 => ?_)
  rotate_left
  ·have H := H.2 hb_1
   exact H
  have H := H.1 hb_1
  obtain ⟨hi_2, H⟩ := H
  refine pop_index sli22 siz34 .i64 a0_1 i4_1 hi_2 ?_
  obtain ⟨t19_1, hc_1, H⟩ := H
  refine rop_one one34 (Sl.v t19_1) hc_1 ?_
  refine H.mono fun rv_2 h_3 H => ?_
  obtain ⟨t20_1, rfl, hL_3, H⟩ := H
  obtain ⟨hi_3, H⟩ := H
  refine pop_index sli22 siz34 .i64 t7_1 i4_1 hi_3 ?_
  obtain ⟨hw_1, hL_4, H⟩ := H
  refine uop_cell (v := (Sl.v t20_1)) siz34 hw_1 rfl (fun h_4 he_1 => ?_)
  rw [← he_1] at hL_4
  have H := H h_4 he_1 hL_4
  refine pop_add .i64 i4_1 1 ?_
  obtain ⟨m_1, hm_1, H⟩ := H
  exact hn_1 _ _ ⟨m_1, hm_1, (w64 (i4_1 + 1)), rfl, H, hL_4⟩

/-! impl.in -/
def u55 (P : Program) (n0_1 : Int) (low1_1 : Int) (high2_1 : Int) (h : Heap) (K : Value → Heap → Prop) : Prop :=
  ((decide (low1_1 ≤ n0_1)) = true →
  K (VB (decide (n0_1 ≤ high2_1))) h) ∧
  ((decide (low1_1 ≤ n0_1)) = false →
  K (VB false) h)
theorem v55 (n0_1 : Int) (low1_1 : Int) (high2_1 : Int) (h : Heap) (K : Value → Heap → Prop) (H : u55 Tryd.prog n0_1 low1_1 high2_1 h K) : callM Tryd.prog 55 #[(VI n0_1), (VI low1_1), (VI high2_1)] h K := by
  refine c55 (VI n0_1) (VI low1_1) (VI high2_1) h K ?_
  unfold u55 at H
  unfold t55
  have hL : Vars h [] := .nil
  refine pop_leq .i64 low1_1 n0_1 ?_
  refine guardM_st (fun hb_1 => ?_) (fun hb_1 => ?_)
  rotate_left
  ·have H := H.2 hb_1
   refine guardM_n' hb_1 (by decide) ?_
   refine guardM_n' hb_1 (by decide) ?_
   refine pop_pickf' hb_1 ?_
   exact H
  have H := H.1 hb_1
  refine guardM_y' hb_1 ?_
  refine guardM_y' hb_1 ?_
  refine pop_leq .i64 n0_1 high2_1 ?_
  refine pop_pickt' hb_1 ?_
  exact H

/-! slices.ContainsFunc[[]int,int] -/
def u56 (P : Program) (s0_1 : Sl) (f1_1 : Value) (h : Heap) (K : Value → Heap → Prop) : Prop :=
  callM P 95 #[(Sl.v s0_1), f1_1] h fun rv_1 h_1 => ∃ t7_1 : Int, rv_1 = (VI t7_1) ∧ Vars h_1 [] ∧
  K (VB (decide (0 ≤ t7_1))) h_1
theorem v56 (s0_1 : Sl) (f1_1 : Value) (h : Heap) (K : Value → Heap → Prop) (H : u56 Tryd.prog s0_1 f1_1 h K) : callM Tryd.prog 56 #[(Sl.v s0_1), f1_1] h K := by
  refine c56 (Sl.v s0_1) f1_1 h K ?_
  unfold u56 at H
  unfold t56
  have hL : Vars h [] := .nil
  refine H.mono fun rv_1 h_1 H => ?_
  obtain ⟨t7_1, rfl, hL_1, H⟩ := H
  refine pop_geq .i64 t7_1 0 ?_
  exact H

/-! impl.listText -/
def u58 (P : Program) (list0_1 : Sl) (h : Heap) (K : Value → Heap → Prop) : Prop :=
  ((decide ((list0_1.n : Int) = 0)) = true →
  K (VS ({ data := #[45] })) h) ∧
  ((decide ((list0_1.n : Int) = 0)) = false →
  eop P (Instr.buildSlice 79 0 #[]) h fun rv_1 h_1 => ∃ t9_1 : Sl, rv_1 = (Sl.v t9_1) ∧ Vars h_1 [] ∧
  ∃ J_1 : Nat → Sl → Int → Heap → Prop, (∃ n0 : Nat, J_1 n0 t9_1 0 h_1) ∧
  ∀ (n_1 : Nat) (words3_1 : Sl) (t12_1 : Int) (h_2 : Heap), J_1 n_1 words3_1 t12_1 h_2 → Vars h_2 [] →
  ((decide (t12_1 < (list0_1.n : Int))) = true →
  InB list0_1 t12_1 ∧
  ∃ t15_1 : Int, hcell h_2 (Sl.at list0_1 t12_1 1) = some (VI t15_1) ∧
  callM P 96 #[(VI t15_1)] h_2 fun rv_2 h_3 => ∃ t18_1 : ByteArray, rv_2 = (VS t18_1) ∧ Vars h_3 [] ∧
  eop P (Instr.buildSlice 79 1 #[(0, (VS t18_1))]) h_3 fun rv_3 h_4 => ∃ t19_1 : Sl, rv_3 = (Sl.v t19_1) ∧ Vars h_4 [] ∧
  eop P (appS 79 79 79 (Sl.v words3_1) (Sl.v t19_1)) h_4 fun rv_4 h_5 => ∃ t20_1 : Sl, rv_4 = (Sl.v t20_1) ∧ Vars h_5 [] ∧
  ∃ m : Nat, m < n_1 ∧ J_1 m t20_1 (w64 (t12_1 + 1)) h_5) ∧
  ((decide (t12_1 < (list0_1.n : Int))) = false →
  callM P 59 #[(Sl.v words3_1), (VS ({ data := #[44] }))] h_2 fun rv_5 h_6 => ∃ t23_1 : ByteArray, rv_5 = (VS t23_1) ∧ Vars h_6 [] ∧
  K (VS t23_1) h_6))
theorem v58 (list0_1 : Sl) (h : Heap) (K : Value → Heap → Prop) (H : u58 Tryd.prog list0_1 h K) : callM Tryd.prog 58 #[(Sl.v list0_1)] h K := by
  refine c58 (Sl.v list0_1) h K ?_
  unfold u58 at H
  unfold t58
  have hL : Vars h [] := .nil
  refine pop_len list0_1 _ _ sli34 ?_
  refine pop_ieq .i64 _ _ (list0_1.n : Int) 0 ?_
  refine condM_b (fun hb_1 => ?_) (fun hb_1 => ?_)
  ·have H := H.1 hb_1
   exact H
  have H := H.2 hb_1
  refine H.mono fun rv_1 h_1 H => ?_
  obtain ⟨t9_1, rfl, hL_1, H⟩ := H
  refine pop_len list0_1 _ _ sli34 ?_
  obtain ⟨J_1, ⟨n_2, h0_1⟩, HB_1⟩ := H
  refine loop_intro (J := fun (n : Nat) (vs : List Value) (h' : Heap) => ∃ words3_1 : Sl, ∃ t12_1 : Int, vs = [(Sl.v words3_1), (VI t12_1)] ∧ J_1 n words3_1 t12_1 h' ∧ Vars h' []) n_2 ⟨t9_1, 0, rfl, h0_1, hL_1⟩ ?_
  intro I_1 mu_1 hI_1 junk_1 tv_1 tv_2 h_2 hi_1
  obtain ⟨n_1, ⟨words3_1, t12_1, hv, hJ_1, hL_2⟩, hn_1⟩ := hI_1 _ _ hi_1
  cases hv
  have H := HB_1 n_1 words3_1 t12_1 h_2 hJ_1 hL_2
  refine pop_lss .i64 t12_1 (list0_1.n : Int) ?_
  refine condM_b (fun hb_2 => ?_) (fun hb_2 => ?_)
  rotate_left
  ·have H := H.2 hb_2
   refine H.mono fun rv_5 h_6 H => ?_
   obtain ⟨t23_1, rfl, hL_6, H⟩ := H
   exact H
  have H := H.1 hb_2
  obtain ⟨hi_2, H⟩ := H
  refine pop_index sli34 siz3 .i64 list0_1 t12_1 hi_2 ?_
  obtain ⟨t15_1, hc_1, H⟩ := H
  refine rop_one one3 (VI t15_1) hc_1 ?_
  refine H.mono fun rv_2 h_3 H => ?_
  obtain ⟨t18_1, rfl, hL_3, H⟩ := H
  refine H.mono fun rv_3 h_4 H => ?_
  obtain ⟨t19_1, rfl, hL_4, H⟩ := H
  refine H.mono fun rv_4 h_5 H => ?_
  obtain ⟨t20_1, rfl, hL_5, H⟩ := H
  refine pop_add .i64 t12_1 1 ?_
  obtain ⟨m_1, hm_1, H⟩ := H
  exact hn_1 _ _ ⟨m_1, hm_1, t20_1, (w64 (t12_1 + 1)), rfl, H, hL_5⟩

/-! laws.eqIntSS -/
def u60 (P : Program) (a0_1 : Sl) (b1_1 : Sl) (h : Heap) (K : Value → Heap → Prop) : Prop :=
  ((!decide ((a0_1.n : Int) = (b1_1.n : Int))) = true →
  K (VB false) h) ∧
  ((!decide ((a0_1.n : Int) = (b1_1.n : Int))) = false →
  ∃ J_1 : Nat → Int → Heap → Prop, (∃ n0 : Nat, J_1 n0 0 h) ∧
  ∀ (n_1 : Nat) (i5_1 : Int) (h_1 : Heap), J_1 n_1 i5_1 h_1 → Vars h_1 [] →
  ((decide (i5_1 < (a0_1.n : Int))) = true →
  InB a0_1 i5_1 ∧
  ∃ t20_1 : Sl, hcell h_1 (Sl.at a0_1 i5_1 1) = some (Sl.v t20_1) ∧
  InB b1_1 i5_1 ∧
  ∃ t24_1 : Sl, hcell h_1 (Sl.at b1_1 i5_1 1) = some (Sl.v t24_1) ∧
  callM P 46 #[(Sl.v t20_1), (Sl.v t24_1)] h_1 fun rv_1 h_2 => ∃ t25_1 : Bool, rv_1 = (VB t25_1) ∧ Vars h_2 [] ∧
  ((!t25_1) = true →
  K (VB false) h_2) ∧
  ((!t25_1) = false →
  ∃ m : Nat, m < n_1 ∧ J_1 m (w64 (i5_1 + 1)) h_2)) ∧
  ((decide (i5_1 < (a0_1.n : Int))) = false →
  K (VB true) h_1))
theorem v60 (a0_1 : Sl) (b1_1 : Sl) (h : Heap) (K : Value → Heap → Prop) (H : u60 Tryd.prog a0_1 b1_1 h K) : callM Tryd.prog 60 #[(Sl.v a0_1), (Sl.v b1_1)] h K := by
  refine c60 (Sl.v a0_1) (Sl.v b1_1) h K ?_
  unfold u60 at H
  unfold t60
  have hL : Vars h [] := .nil
  refine pop_len a0_1 _ _ sli22 ?_
  refine pop_len b1_1 _ _ sli22 ?_
  refine pop_ine .i64 _ _ (a0_1.n : Int) (b1_1.n : Int) ?_
  refine condM_b (fun hb_1 => ?_) (fun hb_1 => ?_)
  ·have H := H.1 hb_1
   exact H
  have H := H.2 hb_1
  obtain ⟨J_1, ⟨n_2, h0_1⟩, HB_1⟩ := H
  refine loop_intro (J := fun (n : Nat) (vs : List Value) (h' : Heap) => ∃ i5_1 : Int, vs = [(VI i5_1)] ∧ J_1 n i5_1 h' ∧ Vars h' []) n_2 ⟨0, rfl, h0_1, hL⟩ ?_
  intro I_1 mu_1 hI_1 junk_1 tv_1 h_1 hi_1
  obtain ⟨n_1, ⟨i5_1, hv, hJ_1, hL_1⟩, hn_1⟩ := hI_1 _ _ hi_1
  cases hv
  have H := HB_1 n_1 i5_1 h_1 hJ_1 hL_1
  refine pop_len a0_1 _ _ sli22 ?_
  refine pop_lss .i64 i5_1 (a0_1.n : Int) ?_
  refine condM_b (fun hb_2 => ?_) (fun hb_2 => ?_)
  rotate_left
  ·have H := H.2 hb_2
   exact H
  have H := H.1 hb_2
  obtain ⟨hi_2, H⟩ := H
  refine pop_index sli22 siz34 .i64 a0_1 i5_1 hi_2 ?_
  obtain ⟨t20_1, hc_2, H⟩ := H
  refine rop_one one34 (Sl.v t20_1) hc_2 ?_
  obtain ⟨hi_3, H⟩ := H
  refine pop_index sli22 siz34 .i64 b1_1 i5_1 hi_3 ?_
  obtain ⟨t24_1, hc_1, H⟩ := H
  refine rop_one one34 (Sl.v t24_1) hc_1 ?_
  refine H.mono fun rv_1 h_2 H => ?_
  obtain ⟨t25_1, rfl, hL_2, H⟩ := H
  refine pop_not t25_1 ?_
  refine condM_b (fun hb_3 => ?_) (fun hb_3 => ?_)
  ·have H := H.1 hb_3
   exact H
  have H := H.2 hb_3
  refine pop_add .i64 i5_1 1 ?_
  obtain ⟨m_1, hm_1, H⟩ := H
  exact hn_1 _ _ ⟨m_1, hm_1, (w64 (i5_1 + 1)), rfl, H, hL_2⟩

/-! laws.szIntS -/
def u61 (P : Program) (a0_1 : Sl) (left1_1 : Int) (h : Heap) (K : Value → Heap → Prop) : Prop :=
  ((decide ((w64 (left1_1 - (a0_1.n : Int))) < 0)) = true →
  K (VI (-1)) h) ∧
  ((decide ((w64 (left1_1 - (a0_1.n : Int))) < 0)) = false →
  K (VI (w64 (left1_1 - (a0_1.n : Int)))) h)
theorem v61 (a0_1 : Sl) (left1_1 : Int) (h : Heap) (K : Value → Heap → Prop) (H : u61 Tryd.prog a0_1 left1_1 h K) : callM Tryd.prog 61 #[(Sl.v a0_1), (VI left1_1)] h K := by
  refine c61 (Sl.v a0_1) (VI left1_1) h K ?_
  unfold u61 at H
  unfold t61
  have hL : Vars h [] := .nil
  refine pop_len a0_1 _ _ sli34 ?_
  refine pop_sub .i64 left1_1 (a0_1.n : Int) ?_
  refine pop_lss .i64 (w64 (left1_1 - (a0_1.n : Int))) 0 ?_
  refine condM_b (fun hb_1 => ?_) (fun hb_1 => ?_)
  ·have H := H.1 hb_1
   exact H
  have H := H.2 hb_1
  exact H

/-! spec.waPeriod -/
def u63 (P : Program) (g0_1 : Sl) (w1_1 : Sl) (w1_2 : Int) (h : Heap) (K : Value → Heap → Prop) : Prop :=
  ∀ (b_1 : Nat) (b_2 : Nat) (b_3 : Nat) (h_3 : Heap), h.size ≤ b_1 → h.size ≤ b_2 → h.size ≤ b_3 → Fr (In []) h h_3 → Vars h_3 [(b_3, [(Sl.v nilSl), (VI 0)]), (b_2, [(Sl.v w1_1), (VI w1_2)]), (b_1, [(Sl.v g0_1)])] →
  ∃ J_1 : Nat → Sl → Int → Nat → Sl → Int → Heap → Prop, ((∀ (b_6 : Nat) (h_4 : Heap), h_3.size ≤ b_6 → Fr (In []) h_3 h_4 → Vars h_4 [(b_6, [(Sl.v nilSl), (VI 0)]), (b_3, [(Sl.v nilSl), (VI 0)]), (b_2, [(Sl.v w1_1), (VI w1_2)]), (b_1, [(Sl.v g0_1)])] →
  ∀ (b_7 : Nat) (h_5 : Heap), h_4.size ≤ b_7 → Fr (In []) h_4 h_5 → Vars h_5 [(b_7, [(Sl.v nilSl), (VI 0)]), (b_6, [(Sl.v nilSl), (VI 0)]), (b_3, [(Sl.v nilSl), (VI 0)]), (b_2, [(Sl.v w1_1), (VI w1_2)]), (b_1, [(Sl.v g0_1)])] →
  ∀ (h_6 : Heap), Fr (In [b_6]) h_5 h_6 → Vars h_6 [(b_7, [(Sl.v nilSl), (VI 0)]), (b_6, [(Sl.v w1_1), (VI w1_2)]), (b_3, [(Sl.v nilSl), (VI 0)]), (b_2, [(Sl.v w1_1), (VI w1_2)]), (b_1, [(Sl.v g0_1)])] →
  ∀ (h_7 : Heap), Fr (In [b_7]) h_6 h_7 → Vars h_7 [(b_7, [(Sl.v w1_1), (VI w1_2)]), (b_6, [(Sl.v w1_1), (VI w1_2)]), (b_3, [(Sl.v nilSl), (VI 0)]), (b_2, [(Sl.v w1_1), (VI w1_2)]), (b_1, [(Sl.v g0_1)])] →
  J_1 b_6 w1_1 w1_2 b_7 w1_1 w1_2 h_7) ∧
  (∀ (b_8 : Nat) (h_8 : Heap), h_3.size ≤ b_8 → Fr (In []) h_3 h_8 → Vars h_8 [(b_8, [(Sl.v nilSl), (VI 0)]), (b_3, [(Sl.v nilSl), (VI 0)]), (b_2, [(Sl.v w1_1), (VI w1_2)]), (b_1, [(Sl.v g0_1)])] →
  ∀ (b_9 : Nat) (h_9 : Heap), h_8.size ≤ b_9 → Fr (In []) h_8 h_9 → Vars h_9 [(b_9, [(Sl.v nilSl), (VI 0)]), (b_8, [(Sl.v nilSl), (VI 0)]), (b_3, [(Sl.v nilSl), (VI 0)]), (b_2, [(Sl.v w1_1), (VI w1_2)]), (b_1, [(Sl.v g0_1)])] →
  ∀ (h_10 : Heap), Fr (In [b_9]) h_9 h_10 → Vars h_10 [(b_9, [(Sl.v w1_1), (VI w1_2)]), (b_8, [(Sl.v nilSl), (VI 0)]), (b_3, [(Sl.v nilSl), (VI 0)]), (b_2, [(Sl.v w1_1), (VI w1_2)]), (b_1, [(Sl.v g0_1)])] →
  ∀ (h_11 : Heap), Fr (In [b_8]) h_10 h_11 → Vars h_11 [(b_9, [(Sl.v w1_1), (VI w1_2)]), (b_8, [(Sl.v w1_1), (VI w1_2)]), (b_3, [(Sl.v nilSl), (VI 0)]), (b_2, [(Sl.v w1_1), (VI w1_2)]), (b_1, [(Sl.v g0_1)])] →
  J_1 b_9 w1_1 w1_2 b_8 w1_1 w1_2 h_11)) ∧
  ∀ (b_4 : Nat) (x_1 : Sl) (x_2 : Int) (b_5 : Nat) (x_3 : Sl) (x_4 : Int) (h_12 : Heap), J_1 b_4 x_1 x_2 b_5 x_3 x_4 h_12 → Vars h_12 [(b_5, [(Sl.v x_3), (VI x_4)]), (b_4, [(Sl.v x_1), (VI x_2)]), (b_3, [(Sl.v nilSl), (VI 0)]), (b_2, [(Sl.v w1_1), (VI w1_2)]), (b_1, [(Sl.v g0_1)])] →
  ∃ J_2 : Nat → Bool → Int → Sl → Int → Sl → Int → Heap → Prop, (∃ n0 : Nat, J_2 n0 false 1 x_3 x_4 x_1 x_2 h_12) ∧
  ∀ (n_1 : Nat) (met9_1 : Bool) (n10_1 : Int) (x_5 : Sl) (x_6 : Int) (x_7 : Sl) (x_8 : Int) (h_13 : Heap), J_2 n_1 met9_1 n10_1 x_5 x_6 x_7 x_8 h_13 → Vars h_13 [(b_5, [(Sl.v x_5), (VI x_6)]), (b_4, [(Sl.v x_7), (VI x_8)]), (b_3, [(Sl.v nilSl), (VI 0)]), (b_2, [(Sl.v w1_1), (VI w1_2)]), (b_1, [(Sl.v g0_1)])] →
  ((decide ((w64 (2 * n10_1)) ≤ 4000)) = true →
  ((!met9_1) = true →
  callM P 80 #[(Value.agg #[(Sl.v g0_1)]), (Value.agg #[(Sl.v x_7), (VI x_8)])] h_13 fun rv_1 h_14 => ∃ t36_1 : Sl, ∃ t36_2 : Int, ∃ t36_3 : Bool, rv_1 = (Value.tuple #[(Value.agg #[(Sl.v t36_1), (VI t36_2)]), (VB t36_3)]) ∧ Vars h_14 [(b_5, [(Sl.v x_5), (VI x_6)]), (b_4, [(Sl.v x_7), (VI x_8)]), (b_3, [(Sl.v nilSl), (VI 0)]), (b_2, [(Sl.v w1_1), (VI w1_2)]), (b_1, [(Sl.v g0_1)])] ∧
  ∀ (b_10 : Nat) (h_16 : Heap), h_14.size ≤ b_10 → Fr (In []) h_14 h_16 → Vars h_16 [(b_10, [(Sl.v t36_1), (VI t36_2)]), (b_5, [(Sl.v x_5), (VI x_6)]), (b_4, [(Sl.v x_7), (VI x_8)]), (b_3, [(Sl.v nilSl), (VI 0)]), (b_2, [(Sl.v w1_1), (VI w1_2)]), (b_1, [(Sl.v g0_1)])] →
  callM P 80 #[(Value.agg #[(Sl.v g0_1)]), (Value.agg #[(Sl.v x_5), (VI x_6)])] h_16 fun rv_2 h_17 => ∃ t42_1 : Sl, ∃ t42_2 : Int, ∃ t42_3 : Bool, rv_2 = (Value.tuple #[(Value.agg #[(Sl.v t42_1), (VI t42_2)]), (VB t42_3)]) ∧ Vars h_17 [(b_10, [(Sl.v t36_1), (VI t36_2)]), (b_5, [(Sl.v x_5), (VI x_6)]), (b_4, [(Sl.v x_7), (VI x_8)]), (b_3, [(Sl.v nilSl), (VI 0)]), (b_2, [(Sl.v w1_1), (VI w1_2)]), (b_1, [(Sl.v g0_1)])] ∧
  ((!t36_3) = true →
  ∀ (b_11 : Nat) (h_28 : Heap), h_17.size ≤ b_11 → Fr (In [b_3]) h_17 h_28 → Vars h_28 [(b_11, [(Sl.v t42_1), (VI t42_2)]), (b_10, [(Sl.v t36_1), (VI t36_2)]), (b_5, [(Sl.v x_5), (VI x_6)]), (b_4, [(Sl.v x_7), (VI x_8)]), (b_3, [(Sl.v w1_1), (VI w1_2)]), (b_2, [(Sl.v w1_1), (VI w1_2)]), (b_1, [(Sl.v g0_1)])] →
  K (Value.tuple #[(VI 0), (Value.agg #[(Sl.v w1_1), (VI w1_2)]), (VI 0)]) h_28) ∧
  ((!t36_3) = false →
  ((!t42_3) = true →
  ∀ (b_11 : Nat) (h_20 : Heap), h_17.size ≤ b_11 → Fr (In [b_3]) h_17 h_20 → Vars h_20 [(b_11, [(Sl.v t42_1), (VI t42_2)]), (b_10, [(Sl.v t36_1), (VI t36_2)]), (b_5, [(Sl.v x_5), (VI x_6)]), (b_4, [(Sl.v x_7), (VI x_8)]), (b_3, [(Sl.v w1_1), (VI w1_2)]), (b_2, [(Sl.v w1_1), (VI w1_2)]), (b_1, [(Sl.v g0_1)])] →
  K (Value.tuple #[(VI 0), (Value.agg #[(Sl.v w1_1), (VI w1_2)]), (VI 0)]) h_20) ∧
  ((!t42_3) = false →
  ∀ (b_11 : Nat) (h_19 : Heap), h_17.size ≤ b_11 → Fr (In []) h_17 h_19 → Vars h_19 [(b_11, [(Sl.v t42_1), (VI t42_2)]), (b_10, [(Sl.v t36_1), (VI t36_2)]), (b_5, [(Sl.v x_5), (VI x_6)]), (b_4, [(Sl.v x_7), (VI x_8)]), (b_3, [(Sl.v nilSl), (VI 0)]), (b_2, [(Sl.v w1_1), (VI w1_2)]), (b_1, [(Sl.v g0_1)])] →
  callM P 80 #[(Value.agg #[(Sl.v g0_1)]), (Value.agg #[(Sl.v t42_1), (VI t42_2)])] h_19 fun rv_3 h_21 => ∃ t55_1 : Sl, ∃ t55_2 : Int, ∃ t55_3 : Bool, rv_3 = (Value.tuple #[(Value.agg #[(Sl.v t55_1), (VI t55_2)]), (VB t55_3)]) ∧ Vars h_21 [(b_11, [(Sl.v t42_1), (VI t42_2)]), (b_10, [(Sl.v t36_1), (VI t36_2)]), (b_5, [(Sl.v x_5), (VI x_6)]), (b_4, [(Sl.v x_7), (VI x_8)]), (b_3, [(Sl.v nilSl), (VI 0)]), (b_2, [(Sl.v w1_1), (VI w1_2)]), (b_1, [(Sl.v g0_1)])] ∧
  ((!t55_3) = true →
  ∀ (b_12 : Nat) (h_24 : Heap), h_21.size ≤ b_12 → Fr (In [b_3]) h_21 h_24 → Vars h_24 [(b_12, [(Sl.v t55_1), (VI t55_2)]), (b_11, [(Sl.v t42_1), (VI t42_2)]), (b_10, [(Sl.v t36_1), (VI t36_2)]), (b_5, [(Sl.v x_5), (VI x_6)]), (b_4, [(Sl.v x_7), (VI x_8)]), (b_3, [(Sl.v w1_1), (VI w1_2)]), (b_2, [(Sl.v w1_1), (VI w1_2)]), (b_1, [(Sl.v g0_1)])] →
  K (Value.tuple #[(VI 0), (Value.agg #[(Sl.v w1_1), (VI w1_2)]), (VI 0)]) h_24) ∧
  ((!t55_3) = false →
  ∀ (b_12 : Nat) (h_26 : Heap), h_21.size ≤ b_12 → Fr (In [b_5, b_4]) h_21 h_26 → Vars h_26 [(b_12, [(Sl.v t55_1), (VI t55_2)]), (b_11, [(Sl.v t42_1), (VI t42_2)]), (b_10, [(Sl.v t36_1), (VI t36_2)]), (b_5, [(Sl.v t55_1), (VI t55_2)]), (b_4, [(Sl.v t36_1), (VI t36_2)]), (b_3, [(Sl.v nilSl), (VI 0)]), (b_2, [(Sl.v w1_1), (VI w1_2)]), (b_1, [(Sl.v g0_1)])] →
  callM P 101 #[(Value.agg #[(Sl.v t36_1), (VI t36_2)]), (Value.agg #[(Sl.v t55_1), (VI t55_2)])] h_26 fun rv_4 h_27 => ∃ t65_1 : Bool, rv_4 = (VB t65_1) ∧ Vars h_27 [(b_12, [(Sl.v t55_1), (VI t55_2)]), (b_11, [(Sl.v t42_1), (VI t42_2)]), (b_10, [(Sl.v t36_1), (VI t36_2)]), (b_5, [(Sl.v t55_1), (VI t55_2)]), (b_4, [(Sl.v t36_1), (VI t36_2)]), (b_3, [(Sl.v nilSl), (VI 0)]), (b_2, [(Sl.v w1_1), (VI w1_2)]), (b_1, [(Sl.v g0_1)])] ∧
  ∃ m : Nat, m < n_1 ∧ J_2 m t65_1 (w64 (n10_1 + 1)) t55_1 t55_2 t36_1 t36_2 h_27)))) ∧
  ((!met9_1) = false →
  callM P 102 #[(Value.agg #[(Sl.v g0_1)]), (Value.agg #[(Sl.v x_7), (VI x_8)]), (VI 2000)] h_13 fun rv_5 h_29 => ∃ t71_1 : Int, rv_5 = (VI t71_1) ∧ Vars h_29 [(b_5, [(Sl.v x_5), (VI x_6)]), (b_4, [(Sl.v x_7), (VI x_8)]), (b_3, [(Sl.v nilSl), (VI 0)]), (b_2, [(Sl.v w1_1), (VI w1_2)]), (b_1, [(Sl.v g0_1)])] ∧
  ((decide (t71_1 = 0)) = true →
  ∀ (h_30 : Heap), Fr (In [b_3]) h_29 h_30 → Vars h_30 [(b_5, [(Sl.v x_5), (VI x_6)]), (b_4, [(Sl.v x_7), (VI x_8)]), (b_3, [(Sl.v w1_1), (VI w1_2)]), (b_2, [(Sl.v w1_1), (VI w1_2)]), (b_1, [(Sl.v g0_1)])] →
  K (Value.tuple #[(VI 0), (Value.agg #[(Sl.v w1_1), (VI w1_2)]), (VI 0)]) h_30) ∧
  ((decide (t71_1 = 0)) = false →
  ∃ J_3 : Nat → Sl → Int → Nat → Sl → Int → Heap → Prop, ((∀ (b_15 : Nat) (h_31 : Heap), h_29.size ≤ b_15 → Fr (In []) h_29 h_31 → Vars h_31 [(b_15, [(Sl.v nilSl), (VI 0)]), (b_5, [(Sl.v x_5), (VI x_6)]), (b_4, [(Sl.v x_7), (VI x_8)]), (b_3, [(Sl.v nilSl), (VI 0)]), (b_2, [(Sl.v w1_1), (VI w1_2)]), (b_1, [(Sl.v g0_1)])] →
  ∀ (b_16 : Nat) (h_32 : Heap), h_31.size ≤ b_16 → Fr (In []) h_31 h_32 → Vars h_32 [(b_16, [(Sl.v nilSl), (VI 0)]), (b_15, [(Sl.v nilSl), (VI 0)]), (b_5, [(Sl.v x_5), (VI x_6)]), (b_4, [(Sl.v x_7), (VI x_8)]), (b_3, [(Sl.v nilSl), (VI 0)]), (b_2, [(Sl.v w1_1), (VI w1_2)]), (b_1, [(Sl.v g0_1)])] →
  ∀ (h_33 : Heap), Fr (In [b_15]) h_32 h_33 → Vars h_33 [(b_16, [(Sl.v nilSl), (VI 0)]), (b_15, [(Sl.v w1_1), (VI w1_2)]), (b_5, [(Sl.v x_5), (VI x_6)]), (b_4, [(Sl.v x_7), (VI x_8)]), (b_3, [(Sl.v nilSl), (VI 0)]), (b_2, [(Sl.v w1_1), (VI w1_2)]), (b_1, [(Sl.v g0_1)])] →
  ∀ (h_34 : Heap), Fr (In [b_16]) h_33 h_34 → Vars h_34 [(b_16, [(Sl.v w1_1), (VI w1_2)]), (b_15, [(Sl.v w1_1), (VI w1_2)]), (b_5, [(Sl.v x_5), (VI x_6)]), (b_4, [(Sl.v x_7), (VI x_8)]), (b_3, [(Sl.v nilSl), (VI 0)]), (b_2, [(Sl.v w1_1), (VI w1_2)]), (b_1, [(Sl.v g0_1)])] →
  J_3 b_15 w1_1 w1_2 b_16 w1_1 w1_2 h_34) ∧
  (∀ (b_17 : Nat) (h_35 : Heap), h_29.size ≤ b_17 → Fr (In []) h_29 h_35 → Vars h_35 [(b_17, [(Sl.v nilSl), (VI 0)]), (b_5, [(Sl.v x_5), (VI x_6)]), (b_4, [(Sl.v x_7), (VI x_8)]), (b_3, [(Sl.v nilSl), (VI 0)]), (b_2, [(Sl.v w1_1), (VI w1_2)]), (b_1, [(Sl.v g0_1)])] →
  ∀ (b_18 : Nat) (h_36 : Heap), h_35.size ≤ b_18 → Fr (In []) h_35 h_36 → Vars h_36 [(b_18, [(Sl.v nilSl), (VI 0)]), (b_17, [(Sl.v nilSl), (VI 0)]), (b_5, [(Sl.v x_5), (VI x_6)]), (b_4, [(Sl.v x_7), (VI x_8)]), (b_3, [(Sl.v nilSl), (VI 0)]), (b_2, [(Sl.v w1_1), (VI w1_2)]), (b_1, [(Sl.v g0_1)])] →
  ∀ (h_37 : Heap), Fr (In [b_18]) h_36 h_37 → Vars h_37 [(b_18, [(Sl.v w1_1), (VI w1_2)]), (b_17, [(Sl.v nilSl), (VI 0)]), (b_5, [(Sl.v x_5), (VI x_6)]), (b_4, [(Sl.v x_7), (VI x_8)]), (b_3, [(Sl.v nilSl), (VI 0)]), (b_2, [(Sl.v w1_1), (VI w1_2)]), (b_1, [(Sl.v g0_1)])] →
  ∀ (h_38 : Heap), Fr (In [b_17]) h_37 h_38 → Vars h_38 [(b_18, [(Sl.v w1_1), (VI w1_2)]), (b_17, [(Sl.v w1_1), (VI w1_2)]), (b_5, [(Sl.v x_5), (VI x_6)]), (b_4, [(Sl.v x_7), (VI x_8)]), (b_3, [(Sl.v nilSl), (VI 0)]), (b_2, [(Sl.v w1_1), (VI w1_2)]), (b_1, [(Sl.v g0_1)])] →
  J_3 b_18 w1_1 w1_2 b_17 w1_1 w1_2 h_38)) ∧
  ∀ (b_13 : Nat) (x_9 : Sl) (x_10 : Int) (b_14 : Nat) (x_11 : Sl) (x_12 : Int) (h_39 : Heap), J_3 b_13 x_9 x_10 b_14 x_11 x_12 h_39 → Vars h_39 [(b_14, [(Sl.v x_11), (VI x_12)]), (b_13, [(Sl.v x_9), (VI x_10)]), (b_5, [(Sl.v x_5), (VI x_6)]), (b_4, [(Sl.v x_7), (VI x_8)]), (b_3, [(Sl.v nilSl), (VI 0)]), (b_2, [(Sl.v w1_1), (VI w1_2)]), (b_1, [(Sl.v g0_1)])] →
  ∃ J_4 : Nat → Int → Sl → Int → Heap → Prop, (∃ n0 : Nat, J_4 n0 0 x_11 x_12 h_39) ∧
  ∀ (n_2 : Nat) (n20_1 : Int) (x_13 : Sl) (x_14 : Int) (h_40 : Heap), J_4 n_2 n20_1 x_13 x_14 h_40 → Vars h_40 [(b_14, [(Sl.v x_13), (VI x_14)]), (b_13, [(Sl.v x_9), (VI x_10)]), (b_5, [(Sl.v x_5), (VI x_6)]), (b_4, [(Sl.v x_7), (VI x_8)]), (b_3, [(Sl.v nilSl), (VI 0)]), (b_2, [(Sl.v w1_1), (VI w1_2)]), (b_1, [(Sl.v g0_1)])] →
  ((decide (n20_1 < t71_1)) = true →
  callM P 80 #[(Value.agg #[(Sl.v g0_1)]), (Value.agg #[(Sl.v x_13), (VI x_14)])] h_40 fun rv_6 h_41 => ∃ t85_1 : Sl, ∃ t85_2 : Int, ∃ t85_3 : Bool, rv_6 = (Value.tuple #[(Value.agg #[(Sl.v t85_1), (VI t85_2)]), (VB t85_3)]) ∧ Vars h_41 [(b_14, [(Sl.v x_13), (VI x_14)]), (b_13, [(Sl.v x_9), (VI x_10)]), (b_5, [(Sl.v x_5), (VI x_6)]), (b_4, [(Sl.v x_7), (VI x_8)]), (b_3, [(Sl.v nilSl), (VI 0)]), (b_2, [(Sl.v w1_1), (VI w1_2)]), (b_1, [(Sl.v g0_1)])] ∧
  ∀ (h_42 : Heap), Fr (In [b_14]) h_41 h_42 → Vars h_42 [(b_14, [(Sl.v t85_1), (VI t85_2)]), (b_13, [(Sl.v x_9), (VI x_10)]), (b_5, [(Sl.v x_5), (VI x_6)]), (b_4, [(Sl.v x_7), (VI x_8)]), (b_3, [(Sl.v nilSl), (VI 0)]), (b_2, [(Sl.v w1_1), (VI w1_2)]), (b_1, [(Sl.v g0_1)])] →
  ∃ m : Nat, m < n_2 ∧ J_4 m (w64 (n20_1 + 1)) t85_1 t85_2 h_42) ∧
  ((decide (n20_1 < t71_1)) = false →
  ∃ J_5 : Nat → Int → Sl → Int → Sl → Int → Heap → Prop, (∃ n0 : Nat, J_5 n0 0 x_13 x_14 x_9 x_10 h_40) ∧
  ∀ (n_3 : Nat) (start21_1 : Int) (x_15 : Sl) (x_16 : Int) (x_17 : Sl) (x_18 : Int) (h_43 : Heap), J_5 n_3 start21_1 x_15 x_16 x_17 x_18 h_43 → Vars h_43 [(b_14, [(Sl.v x_15), (VI x_16)]), (b_13, [(Sl.v x_17), (VI x_18)]), (b_5, [(Sl.v x_5), (VI x_6)]), (b_4, [(Sl.v x_7), (VI x_8)]), (b_3, [(Sl.v nilSl), (VI 0)]), (b_2, [(Sl.v w1_1), (VI w1_2)]), (b_1, [(Sl.v g0_1)])] →
  callM P 101 #[(Value.agg #[(Sl.v x_17), (VI x_18)]), (Value.agg #[(Sl.v x_15), (VI x_16)])] h_43 fun rv_7 h_44 => ∃ t90_1 : Bool, rv_7 = (VB t90_1) ∧ Vars h_44 [(b_14, [(Sl.v x_15), (VI x_16)]), (b_13, [(Sl.v x_17), (VI x_18)]), (b_5, [(Sl.v x_5), (VI x_6)]), (b_4, [(Sl.v x_7), (VI x_8)]), (b_3, [(Sl.v nilSl), (VI 0)]), (b_2, [(Sl.v w1_1), (VI w1_2)]), (b_1, [(Sl.v g0_1)])] ∧
  ((!t90_1) = true →
  ((decide (start21_1 ≤ 2000)) = true →
  callM P 80 #[(Value.agg #[(Sl.v g0_1)]), (Value.agg #[(Sl.v x_17), (VI x_18)])] h_44 fun rv_8 h_45 => ∃ t99_1 : Sl, ∃ t99_2 : Int, ∃ t99_3 : Bool, rv_8 = (Value.tuple #[(Value.agg #[(Sl.v t99_1), (VI t99_2)]), (VB t99_3)]) ∧ Vars h_45 [(b_14, [(Sl.v x_15), (VI x_16)]), (b_13, [(Sl.v x_17), (VI x_18)]), (b_5, [(Sl.v x_5), (VI x_6)]), (b_4, [(Sl.v x_7), (VI x_8)]), (b_3, [(Sl.v nilSl), (VI 0)]), (b_2, [(Sl.v w1_1), (VI w1_2)]), (b_1, [(Sl.v g0_1)])] ∧
  ∀ (h_46 : Heap), Fr (In [b_13]) h_45 h_46 → Vars h_46 [(b_14, [(Sl.v x_15), (VI x_16)]), (b_13, [(Sl.v t99_1), (VI t99_2)]), (b_5, [(Sl.v x_5), (VI x_6)]), (b_4, [(Sl.v x_7), (VI x_8)]), (b_3, [(Sl.v nilSl), (VI 0)]), (b_2, [(Sl.v w1_1), (VI w1_2)]), (b_1, [(Sl.v g0_1)])] →
  callM P 80 #[(Value.agg #[(Sl.v g0_1)]), (Value.agg #[(Sl.v x_15), (VI x_16)])] h_46 fun rv_9 h_47 => ∃ t105_1 : Sl, ∃ t105_2 : Int, ∃ t105_3 : Bool, rv_9 = (Value.tuple #[(Value.agg #[(Sl.v t105_1), (VI t105_2)]), (VB t105_3)]) ∧ Vars h_47 [(b_14, [(Sl.v x_15), (VI x_16)]), (b_13, [(Sl.v t99_1), (VI t99_2)]), (b_5, [(Sl.v x_5), (VI x_6)]), (b_4, [(Sl.v x_7), (VI x_8)]), (b_3, [(Sl.v nilSl), (VI 0)]), (b_2, [(Sl.v w1_1), (VI w1_2)]), (b_1, [(Sl.v g0_1)])] ∧
  ∀ (h_48 : Heap), Fr (In [b_14]) h_47 h_48 → Vars h_48 [(b_14, [(Sl.v t105_1), (VI t105_2)]), (b_13, [(Sl.v t99_1), (VI t99_2)]), (b_5, [(Sl.v x_5), (VI x_6)]), (b_4, [(Sl.v x_7), (VI x_8)]), (b_3, [(Sl.v nilSl), (VI 0)]), (b_2, [(Sl.v w1_1), (VI w1_2)]), (b_1, [(Sl.v g0_1)])] →
  ∃ m : Nat, m < n_3 ∧ J_5 m (w64 (start21_1 + 1)) t105_1 t105_2 t99_1 t99_2 h_48) ∧
  ((decide (start21_1 ≤ 2000)) = false →
  ((decide (2000 < (w64 (start21_1 + t71_1)))) = true →
  ∀ (h_49 : Heap), Fr (In [b_3]) h_44 h_49 → Vars h_49 [(b_14, [(Sl.v x_15), (VI x_16)]), (b_13, [(Sl.v x_17), (VI x_18)]), (b_5, [(Sl.v x_5), (VI x_6)]), (b_4, [(Sl.v x_7), (VI x_8)]), (b_3, [(Sl.v w1_1), (VI w1_2)]), (b_2, [(Sl.v w1_1), (VI w1_2)]), (b_1, [(Sl.v g0_1)])] →
  K (Value.tuple #[(VI 0), (Value.agg #[(Sl.v w1_1), (VI w1_2)]), (VI 0)]) h_49) ∧
  ((decide (2000 < (w64 (start21_1 + t71_1)))) = false →
  ∀ (h_50 : Heap), Fr (In [b_3]) h_44 h_50 → Vars h_50 [(b_14, [(Sl.v x_15), (VI x_16)]), (b_13, [(Sl.v x_17), (VI x_18)]), (b_5, [(Sl.v x_5), (VI x_6)]), (b_4, [(Sl.v x_7), (VI x_8)]), (b_3, [(Sl.v x_17), (VI x_18)]), (b_2, [(Sl.v w1_1), (VI w1_2)]), (b_1, [(Sl.v g0_1)])] →
  K (Value.tuple #[(VI start21_1), (Value.agg #[(Sl.v x_17), (VI x_18)]), (VI t71_1)]) h_50))) ∧
  ((!t90_1) = false →
  ((decide (2000 < (w64 (start21_1 + t71_1)))) = true →
  ∀ (h_51 : Heap), Fr (In [b_3]) h_44 h_51 → Vars h_51 [(b_14, [(Sl.v x_15), (VI x_16)]), (b_13, [(Sl.v x_17), (VI x_18)]), (b_5, [(Sl.v x_5), (VI x_6)]), (b_4, [(Sl.v x_7), (VI x_8)]), (b_3, [(Sl.v w1_1), (VI w1_2)]), (b_2, [(Sl.v w1_1), (VI w1_2)]), (b_1, [(Sl.v g0_1)])] →
  K (Value.tuple #[(VI 0), (Value.agg #[(Sl.v w1_1), (VI w1_2)]), (VI 0)]) h_51) ∧
  ((decide (2000 < (w64 (start21_1 + t71_1)))) = false →
  ∀ (h_52 : Heap), Fr (In [b_3]) h_44 h_52 → Vars h_52 [(b_14, [(Sl.v x_15), (VI x_16)]), (b_13, [(Sl.v x_17), (VI x_18)]), (b_5, [(Sl.v x_5), (VI x_6)]), (b_4, [(Sl.v x_7), (VI x_8)]), (b_3, [(Sl.v x_17), (VI x_18)]), (b_2, [(Sl.v w1_1), (VI w1_2)]), (b_1, [(Sl.v g0_1)])] →
  K (Value.tuple #[(VI start21_1), (Value.agg #[(Sl.v x_17), (VI x_18)]), (VI t71_1)]) h_52)))))) ∧
  ((decide ((w64 (2 * n10_1)) ≤ 4000)) = false →
  ((!met9_1) = true →
  ∀ (h_53 : Heap), Fr (In [b_3]) h_13 h_53 → Vars h_53 [(b_5, [(Sl.v x_5), (VI x_6)]), (b_4, [(Sl.v x_7), (VI x_8)]), (b_3, [(Sl.v w1_1), (VI w1_2)]), (b_2, [(Sl.v w1_1), (VI w1_2)]), (b_1, [(Sl.v g0_1)])] →
  K (Value.tuple #[(VI 0), (Value.agg #[(Sl.v w1_1), (VI w1_2)]), (VI 0)]) h_53) ∧
  ((!met9_1) = false →
  callM P 102 #[(Value.agg #[(Sl.v g0_1)]), (Value.agg #[(Sl.v x_7), (VI x_8)]), (VI 2000)] h_13 fun rv_10 h_54 => ∃ t71_2 : Int, rv_10 = (VI t71_2) ∧ Vars h_54 [(b_5, [(Sl.v x_5), (VI x_6)]), (b_4, [(Sl.v x_7), (VI x_8)]), (b_3, [(Sl.v nilSl), (VI 0)]), (b_2, [(Sl.v w1_1), (VI w1_2)]), (b_1, [(Sl.v g0_1)])] ∧
  ((decide (t71_2 = 0)) = true →
  ∀ (h_55 : Heap), Fr (In [b_3]) h_54 h_55 → Vars h_55 [(b_5, [(Sl.v x_5), (VI x_6)]), (b_4, [(Sl.v x_7), (VI x_8)]), (b_3, [(Sl.v w1_1), (VI w1_2)]), (b_2, [(Sl.v w1_1), (VI w1_2)]), (b_1, [(Sl.v g0_1)])] →
  K (Value.tuple #[(VI 0), (Value.agg #[(Sl.v w1_1), (VI w1_2)]), (VI 0)]) h_55) ∧
  ((decide (t71_2 = 0)) = false →
  ∃ J_6 : Nat → Sl → Int → Nat → Sl → Int → Heap → Prop, ((∀ (b_21 : Nat) (h_56 : Heap), h_54.size ≤ b_21 → Fr (In []) h_54 h_56 → Vars h_56 [(b_21, [(Sl.v nilSl), (VI 0)]), (b_5, [(Sl.v x_5), (VI x_6)]), (b_4, [(Sl.v x_7), (VI x_8)]), (b_3, [(Sl.v nilSl), (VI 0)]), (b_2, [(Sl.v w1_1), (VI w1_2)]), (b_1, [(Sl.v g0_1)])] →
  ∀ (b_22 : Nat) (h_57 : Heap), h_56.size ≤ b_22 → Fr (In []) h_56 h_57 → Vars h_57 [(b_22, [(Sl.v nilSl), (VI 0)]), (b_21, [(Sl.v nilSl), (VI 0)]), (b_5, [(Sl.v x_5), (VI x_6)]), (b_4, [(Sl.v x_7), (VI x_8)]), (b_3, [(Sl.v nilSl), (VI 0)]), (b_2, [(Sl.v w1_1), (VI w1_2)]), (b_1, [(Sl.v g0_1)])] →
  ∀ (h_58 : Heap), Fr (In [b_21]) h_57 h_58 → Vars h_58 [(b_22, [(Sl.v nilSl), (VI 0)]), (b_21, [(Sl.v w1_1), (VI w1_2)]), (b_5, [(Sl.v x_5), (VI x_6)]), (b_4, [(Sl.v x_7), (VI x_8)]), (b_3, [(Sl.v nilSl), (VI 0)]), (b_2, [(Sl.v w1_1), (VI w1_2)]), (b_1, [(Sl.v g0_1)])] →
  ∀ (h_59 : Heap), Fr (In [b_22]) h_58 h_59 → Vars h_59 [(b_22, [(Sl.v w1_1), (VI w1_2)]), (b_21, [(Sl.v w1_1), (VI w1_2)]), (b_5, [(Sl.v x_5), (VI x_6)]), (b_4, [(Sl.v x_7), (VI x_8)]), (b_3, [(Sl.v nilSl), (VI 0)]), (b_2, [(Sl.v w1_1), (VI w1_2)]), (b_1, [(Sl.v g0_1)])] →
  J_6 b_21 w1_1 w1_2 b_22 w1_1 w1_2 h_59) ∧
  (∀ (b_23 : Nat) (h_60 : Heap), h_54.size ≤ b_23 → Fr (In []) h_54 h_60 → Vars h_60 [(b_23, [(Sl.v nilSl), (VI 0)]), (b_5, [(Sl.v x_5), (VI x_6)]), (b_4, [(Sl.v x_7), (VI x_8)]), (b_3, [(Sl.v nilSl), (VI 0)]), (b_2, [(Sl.v w1_1), (VI w1_2)]), (b_1, [(Sl.v g0_1)])] →
  ∀ (b_24 : Nat) (h_61 : Heap), h_60.size ≤ b_24 → Fr (In []) h_60 h_61 → Vars h_61 [(b_24, [(Sl.v nilSl), (VI 0)]), (b_23, [(Sl.v nilSl), (VI 0)]), (b_5, [(Sl.v x_5), (VI x_6)]), (b_4, [(Sl.v x_7), (VI x_8)]), (b_3, [(Sl.v nilSl), (VI 0)]), (b_2, [(Sl.v w1_1), (VI w1_2)]), (b_1, [(Sl.v g0_1)])] →
  ∀ (h_62 : Heap), Fr (In [b_24]) h_61 h_62 → Vars h_62 [(b_24, [(Sl.v w1_1), (VI w1_2)]), (b_23, [(Sl.v nilSl), (VI 0)]), (b_5, [(Sl.v x_5), (VI x_6)]), (b_4, [(Sl.v x_7), (VI x_8)]), (b_3, [(Sl.v nilSl), (VI 0)]), (b_2, [(Sl.v w1_1), (VI w1_2)]), (b_1, [(Sl.v g0_1)])] →
  ∀ (h_63 : Heap), Fr (In [b_23]) h_62 h_63 → Vars h_63 [(b_24, [(Sl.v w1_1), (VI w1_2)]), (b_23, [(Sl.v w1_1), (VI w1_2)]), (b_5, [(Sl.v x_5), (VI x_6)]), (b_4, [(Sl.v x_7), (VI x_8)]), (b_3, [(Sl.v nilSl), (VI 0)]), (b_2, [(Sl.v w1_1), (VI w1_2)]), (b_1, [(Sl.v g0_1)])] →
  J_6 b_24 w1_1 w1_2 b_23 w1_1 w1_2 h_63)) ∧
  ∀ (b_19 : Nat) (x_19 : Sl) (x_20 : Int) (b_20 : Nat) (x_21 : Sl) (x_22 : Int) (h_64 : Heap), J_6 b_19 x_19 x_20 b_20 x_21 x_22 h_64 → Vars h_64 [(b_20, [(Sl.v x_21), (VI x_22)]), (b_19, [(Sl.v x_19), (VI x_20)]), (b_5, [(Sl.v x_5), (VI x_6)]), (b_4, [(Sl.v x_7), (VI x_8)]), (b_3, [(Sl.v nilSl), (VI 0)]), (b_2, [(Sl.v w1_1), (VI w1_2)]), (b_1, [(Sl.v g0_1)])] →
  ∃ J_7 : Nat → Int → Sl → Int → Heap → Prop, (∃ n0 : Nat, J_7 n0 0 x_21 x_22 h_64) ∧
  ∀ (n_6 : Nat) (n20_2 : Int) (x_23 : Sl) (x_24 : Int) (h_65 : Heap), J_7 n_6 n20_2 x_23 x_24 h_65 → Vars h_65 [(b_20, [(Sl.v x_23), (VI x_24)]), (b_19, [(Sl.v x_19), (VI x_20)]), (b_5, [(Sl.v x_5), (VI x_6)]), (b_4, [(Sl.v x_7), (VI x_8)]), (b_3, [(Sl.v nilSl), (VI 0)]), (b_2, [(Sl.v w1_1), (VI w1_2)]), (b_1, [(Sl.v g0_1)])] →
  ((decide (n20_2 < t71_2)) = true →
  callM P 80 #[(Value.agg #[(Sl.v g0_1)]), (Value.agg #[(Sl.v x_23), (VI x_24)])] h_65 fun rv_11 h_66 => ∃ t85_4 : Sl, ∃ t85_5 : Int, ∃ t85_6 : Bool, rv_11 = (Value.tuple #[(Value.agg #[(Sl.v t85_4), (VI t85_5)]), (VB t85_6)]) ∧ Vars h_66 [(b_20, [(Sl.v x_23), (VI x_24)]), (b_19, [(Sl.v x_19), (VI x_20)]), (b_5, [(Sl.v x_5), (VI x_6)]), (b_4, [(Sl.v x_7), (VI x_8)]), (b_3, [(Sl.v nilSl), (VI 0)]), (b_2, [(Sl.v w1_1), (VI w1_2)]), (b_1, [(Sl.v g0_1)])] ∧
  ∀ (h_67 : Heap), Fr (In [b_20]) h_66 h_67 → Vars h_67 [(b_20, [(Sl.v t85_4), (VI t85_5)]), (b_19, [(Sl.v x_19), (VI x_20)]), (b_5, [(Sl.v x_5), (VI x_6)]), (b_4, [(Sl.v x_7), (VI x_8)]), (b_3, [(Sl.v nilSl), (VI 0)]), (b_2, [(Sl.v w1_1), (VI w1_2)]), (b_1, [(Sl.v g0_1)])] →
  ∃ m : Nat, m < n_6 ∧ J_7 m (w64 (n20_2 + 1)) t85_4 t85_5 h_67) ∧
  ((decide (n20_2 < t71_2)) = false →
  ∃ J_8 : Nat → Int → Sl → Int → Sl → Int → Heap → Prop, (∃ n0 : Nat, J_8 n0 0 x_23 x_24 x_19 x_20 h_65) ∧
  ∀ (n_7 : Nat) (start21_2 : Int) (x_25 : Sl) (x_26 : Int) (x_27 : Sl) (x_28 : Int) (h_68 : Heap), J_8 n_7 start21_2 x_25 x_26 x_27 x_28 h_68 → Vars h_68 [(b_20, [(Sl.v x_25), (VI x_26)]), (b_19, [(Sl.v x_27), (VI x_28)]), (b_5, [(Sl.v x_5), (VI x_6)]), (b_4, [(Sl.v x_7), (VI x_8)]), (b_3, [(Sl.v nilSl), (VI 0)]), (b_2, [(Sl.v w1_1), (VI w1_2)]), (b_1, [(Sl.v g0_1)])] →
  callM P 101 #[(Value.agg #[(Sl.v x_27), (VI x_28)]), (Value.agg #[(Sl.v x_25), (VI x_26)])] h_68 fun rv_12 h_69 => ∃ t90_2 : Bool, rv_12 = (VB t90_2) ∧ Vars h_69 [(b_20, [(Sl.v x_25), (VI x_26)]), (b_19, [(Sl.v x_27), (VI x_28)]), (b_5, [(Sl.v x_5), (VI x_6)]), (b_4, [(Sl.v x_7), (VI x_8)]), (b_3, [(Sl.v nilSl), (VI 0)]), (b_2, [(Sl.v w1_1), (VI w1_2)]), (b_1, [(Sl.v g0_1)])] ∧
  ((!t90_2) = true →
  ((decide (start21_2 ≤ 2000)) = true →
  callM P 80 #[(Value.agg #[(Sl.v g0_1)]), (Value.agg #[(Sl.v x_27), (VI x_28)])] h_69 fun rv_13 h_70 => ∃ t99_4 : Sl, ∃ t99_5 : Int, ∃ t99_6 : Bool, rv_13 = (Value.tuple #[(Value.agg #[(Sl.v t99_4), (VI t99_5)]), (VB t99_6)]) ∧ Vars h_70 [(b_20, [(Sl.v x_25), (VI x_26)]), (b_19, [(Sl.v x_27), (VI x_28)]), (b_5, [(Sl.v x_5), (VI x_6)]), (b_4, [(Sl.v x_7), (VI x_8)]), (b_3, [(Sl.v nilSl), (VI 0)]), (b_2, [(Sl.v w1_1), (VI w1_2)]), (b_1, [(Sl.v g0_1)])] ∧
  ∀ (h_71 : Heap), Fr (In [b_19]) h_70 h_71 → Vars h_71 [(b_20, [(Sl.v x_25), (VI x_26)]), (b_19, [(Sl.v t99_4), (VI t99_5)]), (b_5, [(Sl.v x_5), (VI x_6)]), (b_4, [(Sl.v x_7), (VI x_8)]), (b_3, [(Sl.v nilSl), (VI 0)]), (b_2, [(Sl.v w1_1), (VI w1_2)]), (b_1, [(Sl.v g0_1)])] →
  callM P 80 #[(Value.agg #[(Sl.v g0_1)]), (Value.agg #[(Sl.v x_25), (VI x_26)])] h_71 fun rv_14 h_72 => ∃ t105_4 : Sl, ∃ t105_5 : Int, ∃ t105_6 : Bool, rv_14 = (Value.tuple #[(Value.agg #[(Sl.v t105_4), (VI t105_5)]), (VB t105_6)]) ∧ Vars h_72 [(b_20, [(Sl.v x_25), (VI x_26)]), (b_19, [(Sl.v t99_4), (VI t99_5)]), (b_5, [(Sl.v x_5), (VI x_6)]), (b_4, [(Sl.v x_7), (VI x_8)]), (b_3, [(Sl.v nilSl), (VI 0)]), (b_2, [(Sl.v w1_1), (VI w1_2)]), (b_1, [(Sl.v g0_1)])] ∧
  ∀ (h_73 : Heap), Fr (In [b_20]) h_72 h_73 → Vars h_73 [(b_20, [(Sl.v t105_4), (VI t105_5)]), (b_19, [(Sl.v t99_4), (VI t99_5)]), (b_5, [(Sl.v x_5), (VI x_6)]), (b_4, [(Sl.v x_7), (VI x_8)]), (b_3, [(Sl.v nilSl), (VI 0)]), (b_2, [(Sl.v w1_1), (VI w1_2)]), (b_1, [(Sl.v g0_1)])] →
  ∃ m : Nat, m < n_7 ∧ J_8 m (w64 (start21_2 + 1)) t105_4 t105_5 t99_4 t99_5 h_73) ∧
  ((decide (start21_2 ≤ 2000)) = false →
  ((decide (2000 < (w64 (start21_2 + t71_2)))) = true →
  ∀ (h_74 : Heap), Fr (In [b_3]) h_69 h_74 → Vars h_74 [(b_20, [(Sl.v x_25), (VI x_26)]), (b_19, [(Sl.v x_27), (VI x_28)]), (b_5, [(Sl.v x_5), (VI x_6)]), (b_4, [(Sl.v x_7), (VI x_8)]), (b_3, [(Sl.v w1_1), (VI w1_2)]), (b_2, [(Sl.v w1_1), (VI w1_2)]), (b_1, [(Sl.v g0_1)])] →
  K (Value.tuple #[(VI 0), (Value.agg #[(Sl.v w1_1), (VI w1_2)]), (VI 0)]) h_74) ∧
  ((decide (2000 < (w64 (start21_2 + t71_2)))) = false →
  ∀ (h_75 : Heap), Fr (In [b_3]) h_69 h_75 → Vars h_75 [(b_20, [(Sl.v x_25), (VI x_26)]), (b_19, [(Sl.v x_27), (VI x_28)]), (b_5, [(Sl.v x_5), (VI x_6)]), (b_4, [(Sl.v x_7), (VI x_8)]), (b_3, [(Sl.v x_27), (VI x_28)]), (b_2, [(Sl.v w1_1), (VI w1_2)]), (b_1, [(Sl.v g0_1)])] →
  K (Value.tuple #[(VI start21_2), (Value.agg #[(Sl.v x_27), (VI x_28)]), (VI t71_2)]) h_75))) ∧
  ((!t90_2) = false →
  ((decide (2000 < (w64 (start21_2 + t71_2)))) = true →
  ∀ (h_76 : Heap), Fr (In [b_3]) h_69 h_76 → Vars h_76 [(b_20, [(Sl.v x_25), (VI x_26)]), (b_19, [(Sl.v x_27), (VI x_28)]), (b_5, [(Sl.v x_5), (VI x_6)]), (b_4, [(Sl.v x_7), (VI x_8)]), (b_3, [(Sl.v w1_1), (VI w1_2)]), (b_2, [(Sl.v w1_1), (VI w1_2)]), (b_1, [(Sl.v g0_1)])] →
  K (Value.tuple #[(VI 0), (Value.agg #[(Sl.v w1_1), (VI w1_2)]), (VI 0)]) h_76) ∧
  ((decide (2000 < (w64 (start21_2 + t71_2)))) = false →
  ∀ (h_77 : Heap), Fr (In [b_3]) h_69 h_77 → Vars h_77 [(b_20, [(Sl.v x_25), (VI x_26)]), (b_19, [(Sl.v x_27), (VI x_28)]), (b_5, [(Sl.v x_5), (VI x_6)]), (b_4, [(Sl.v x_7), (VI x_8)]), (b_3, [(Sl.v x_27), (VI x_28)]), (b_2, [(Sl.v w1_1), (VI w1_2)]), (b_1, [(Sl.v g0_1)])] →
  K (Value.tuple #[(VI start21_2), (Value.agg #[(Sl.v x_27), (VI x_28)]), (VI t71_2)]) h_77))))))
theorem v63 (g0_1 : Sl) (w1_1 : Sl) (w1_2 : Int) (h : Heap) (K : Value → Heap → Prop) (H : u63 Tryd.prog g0_1 w1_1 w1_2 h K) : callM Tryd.prog 63 #[(Value.agg #[(Sl.v g0_1)]), (Value.agg #[(Sl.v w1_1), (VI w1_2)])] h K := by
  refine c63 (Value.agg #[(Sl.v g0_1)]) (Value.agg #[(Sl.v w1_1), (VI w1_2)]) h K ?_
  unfold u63 at H
  unfold t63
  have hL : Vars h [] := .nil
  refine eop_box 41 (Value.agg #[(Sl.v g0_1)]) rfl hL (fun b_1 h_1 hb_1 hf_1 hL_1 => ?_)
  refine eop_box 43 (Value.agg #[(Sl.v w1_1), (VI w1_2)]) rfl hL_1 (fun b_2 h_2 hb_2 hf_2 hL_2 => ?_)
  refine eop_alloc 43 zer43 rfl hL_2 (fun b_3 h_3 hb_3 hf_3 hL_3 => ?_)
  have H := H b_1 b_2 b_3 h_3 (Nat.le_trans (Fr.size (Fr.r (In []) _)) hb_1) (Nat.le_trans (Fr.size (Fr.no' (Fr.r (In []) _) hf_1)) hb_2) (Nat.le_trans (Fr.size (Fr.no' (Fr.no' (Fr.r (In []) _) hf_1) hf_2)) hb_3) (Fr.no' (Fr.no' (Fr.no' (Fr.r (In []) _) hf_1) hf_2) hf_3) hL_3
  obtain ⟨J_1, H, HB_8⟩ := H
  refine ⟨fun (vs : List Value) (h' : Heap) => ∃ b_4 : Nat, ∃ x_1 : Sl, ∃ x_2 : Int, ∃ b_5 : Nat, ∃ x_3 : Sl, ∃ x_4 : Int, vs = [(VP b_4 0), (VP b_5 0)] ∧ J_1 b_4 x_1 x_2 b_5 x_3 x_4 h' ∧ Vars h' [(b_5, [(Sl.v x_3), (VI x_4)]), (b_4, [(Sl.v x_1), (VI x_2)]), (b_3, [(Sl.v nilSl), (VI 0)]), (b_2, [(Sl.v w1_1), (VI w1_2)]), (b_1, [(Sl.v g0_1)])], ?_, ?_⟩
  ·refine rop_locA agg43 hL_3 1 rfl 0 (vs := [(Sl.v w1_1), (VI w1_2)]) rfl rfl ?_
   refine rop_locA agg43 hL_3 1 rfl 0 (vs := [(Sl.v w1_1), (VI w1_2)]) rfl rfl ?_
   refine ⟨?_, ?_⟩
   ·have H := H.1
    refine eop_alloc 43 zer43 rfl hL_3 (fun b_6 h_4 hb_4 hf_4 hL_4 => ?_)
    have H := H b_6 h_4 (Nat.le_trans (Fr.size (Fr.r (In []) _)) hb_4) (Fr.no' (Fr.r (In []) _) hf_4) hL_4
    refine ⟨?_, ?_⟩
    ·exact still_locA agg43 hL_4 2 rfl 0 (vs := [(Sl.v w1_1), (VI w1_2)]) rfl rfl
    refine ⟨?_, ?_⟩
    ·exact still_locA agg43 hL_4 2 rfl 0 (vs := [(Sl.v w1_1), (VI w1_2)]) rfl rfl
    refine eop_alloc 43 zer43 rfl hL_4 (fun b_7 h_5 hb_5 hf_5 hL_5 => ?_)
    have H := H b_7 h_5 (Nat.le_trans (Fr.size (Fr.r (In []) _)) hb_5) (Fr.no' (Fr.r (In []) _) hf_5) hL_5
    refine ⟨?_, ?_⟩
    ·exact still_locA agg43 hL_5 3 rfl 0 (vs := [(Sl.v w1_1), (VI w1_2)]) rfl rfl
    refine ⟨?_, ?_⟩
    ·exact still_locA agg43 hL_5 3 rfl 0 (vs := [(Sl.v w1_1), (VI w1_2)]) rfl rfl
    refine uop_loc siz43 hL_5 1 rfl 0 [(Sl.v w1_1), (VI w1_2)] rfl rfl rfl (Nat.le_of_ble_eq_true rfl) (L' := [(b_7, [(Sl.v nilSl), (VI 0)]), (b_6, [(Sl.v w1_1), (VI w1_2)]), (b_3, [(Sl.v nilSl), (VI 0)]), (b_2, [(Sl.v w1_1), (VI w1_2)]), (b_1, [(Sl.v g0_1)])]) rfl (fun h_6 hf_6 hL_6 => ?_)
    have H := H  h_6  (Fr.old (Fr.r (In []) _) hf_6) hL_6
    refine ⟨?_, ?_⟩
    ·exact still_locA agg43 hL_6 3 rfl 0 (vs := [(Sl.v w1_1), (VI w1_2)]) rfl rfl
    refine uop_loc siz43 hL_6 0 rfl 0 [(Sl.v w1_1), (VI w1_2)] rfl rfl rfl (Nat.le_of_ble_eq_true rfl) (L' := [(b_7, [(Sl.v w1_1), (VI w1_2)]), (b_6, [(Sl.v w1_1), (VI w1_2)]), (b_3, [(Sl.v nilSl), (VI 0)]), (b_2, [(Sl.v w1_1), (VI w1_2)]), (b_1, [(Sl.v g0_1)])]) rfl (fun h_7 hf_7 hL_7 => ?_)
    have H := H  h_7  (Fr.old (Fr.r (In []) _) hf_7) hL_7
    exact ⟨b_6, w1_1, w1_2, b_7, w1_1, w1_2, rfl, H, hL_7⟩
   have H := H.2
   refine eop_alloc 43 zer43 rfl hL_3 (fun b_8 h_8 hb_6 hf_8 hL_8 => ?_)
   have H := H b_8 h_8 (Nat.le_trans (Fr.size (Fr.r (In []) _)) hb_6) (Fr.no' (Fr.r (In []) _) hf_8) hL_8
   refine ⟨?_, ?_⟩
   ·exact still_locA agg43 hL_8 2 rfl 0 (vs := [(Sl.v w1_1), (VI w1_2)]) rfl rfl
   refine ⟨?_, ?_⟩
   ·exact still_locA agg43 hL_8 2 rfl 0 (vs := [(Sl.v w1_1), (VI w1_2)]) rfl rfl
   refine eop_alloc 43 zer43 rfl hL_8 (fun b_9 h_9 hb_7 hf_9 hL_9 => ?_)
   have H := H b_9 h_9 (Nat.le_trans (Fr.size (Fr.r (In []) _)) hb_7) (Fr.no' (Fr.r (In []) _) hf_9) hL_9
   refine ⟨?_, ?_⟩
   ·exact still_locA agg43 hL_9 3 rfl 0 (vs := [(Sl.v w1_1), (VI w1_2)]) rfl rfl
   refine ⟨?_, ?_⟩
   ·exact still_locA agg43 hL_9 3 rfl 0 (vs := [(Sl.v w1_1), (VI w1_2)]) rfl rfl
   refine uop_loc siz43 hL_9 0 rfl 0 [(Sl.v w1_1), (VI w1_2)] rfl rfl rfl (Nat.le_of_ble_eq_true rfl) (L' := [(b_9, [(Sl.v w1_1), (VI w1_2)]), (b_8, [(Sl.v nilSl), (VI 0)]), (b_3, [(Sl.v nilSl), (VI 0)]), (b_2, [(Sl.v w1_1), (VI w1_2)]), (b_1, [(Sl.v g0_1)])]) rfl (fun h_10 hf_10 hL_10 => ?_)
   have H := H  h_10  (Fr.old (Fr.r (In []) _) hf_10) hL_10
   refine ⟨?_, ?_⟩
   ·exact still_locA agg43 hL_10 3 rfl 0 (vs := [(Sl.v w1_1), (VI w1_2)]) rfl rfl
   refine uop_loc siz43 hL_10 1 rfl 0 [(Sl.v w1_1), (VI w1_2)] rfl rfl rfl (Nat.le_of_ble_eq_true rfl) (L' := [(b_9, [(Sl.v w1_1), (VI w1_2)]), (b_8, [(Sl.v w1_1), (VI w1_2)]), (b_3, [(Sl.v nilSl), (VI 0)]), (b_2, [(Sl.v w1_1), (VI w1_2)]), (b_1, [(Sl.v g0_1)])]) rfl (fun h_11 hf_11 hL_11 => ?_)
   have H := H  h_11  (Fr.old (Fr.r (In []) _) hf_11) hL_11
   exact ⟨b_9, w1_1, w1_2, b_8, w1_1, w1_2, rfl, H, Vars.pick hL_11 [1, 0, 2, 3, 4] rfl⟩
  intro junk_1 tv_1 tv_2 h_12
  rintro ⟨b_4, x_1, x_2, b_5, x_3, x_4, hv, hJ_1, hL_12⟩
  cases hv
  have H := HB_8 b_4 x_1 x_2 b_5 x_3 x_4 h_12 hJ_1 hL_12
  obtain ⟨J_2, ⟨n_10, h0_5⟩, HB_7⟩ := H
  refine loop_intro (J := fun (n : Nat) (vs : List Value) (h' : Heap) => ∃ met9_1 : Bool, ∃ n10_1 : Int, ∃ x_5 : Sl, ∃ x_6 : Int, ∃ x_7 : Sl, ∃ x_8 : Int, vs = [(VB met9_1), (VI n10_1)] ∧ J_2 n met9_1 n10_1 x_5 x_6 x_7 x_8 h' ∧ Vars h' [(b_5, [(Sl.v x_5), (VI x_6)]), (b_4, [(Sl.v x_7), (VI x_8)]), (b_3, [(Sl.v nilSl), (VI 0)]), (b_2, [(Sl.v w1_1), (VI w1_2)]), (b_1, [(Sl.v g0_1)])]) n_10 ⟨false, 1, x_3, x_4, x_1, x_2, rfl, h0_5, hL_12⟩ ?_
  intro I_5 mu_5 hI_5 junk_2 tv_11 tv_12 h_13 hi_1
  obtain ⟨n_1, ⟨met9_1, n10_1, x_5, x_6, x_7, x_8, hv, hJ_2, hL_13⟩, hn_1⟩ := hI_5 _ _ hi_1
  cases hv
  have H := HB_7 n_1 met9_1 n10_1 x_5 x_6 x_7 x_8 h_13 hJ_2 hL_13
  refine pop_mul .i64 2 n10_1 ?_
  refine pop_leq .i64 (w64 (2 * n10_1)) 4000 ?_
  refine guardM_st (fun hb_8 => ?_) (fun hb_8 => ?_)
  rotate_left
  ·have H := H.2 hb_8
   refine guardM_n' hb_8 (by decide) ?_
   refine pop_pickf' hb_8 ?_
   refine condM_f ?_
   refine pop_not met9_1 ?_
   refine condM_b (fun hb_26 => ?_) (fun hb_26 => ?_)
   ·have H := H.1 hb_26
    refine rop_locA agg43 hL_13 3 rfl 0 (vs := [(Sl.v w1_1), (VI w1_2)]) rfl rfl ?_
    refine uop_loc siz43 hL_13 2 rfl 0 [(Sl.v w1_1), (VI w1_2)] rfl rfl rfl (Nat.le_of_ble_eq_true rfl) (L' := [(b_5, [(Sl.v x_5), (VI x_6)]), (b_4, [(Sl.v x_7), (VI x_8)]), (b_3, [(Sl.v w1_1), (VI w1_2)]), (b_2, [(Sl.v w1_1), (VI w1_2)]), (b_1, [(Sl.v g0_1)])]) rfl (fun h_53 hf_39 hL_53 => ?_)
    refine rop_locA agg43 hL_53 2 rfl 0 (vs := [(Sl.v w1_1), (VI w1_2)]) rfl rfl ?_
    have H := H  h_53  (Fr.old (Fr.r (In []) _) hf_39) hL_53
    exact H
   have H := H.2 hb_26
   refine rop_locA agg41 hL_13 4 rfl 0 (vs := [(Sl.v g0_1)]) rfl rfl ?_
   refine rop_locA agg43 hL_13 1 rfl 0 (vs := [(Sl.v x_7), (VI x_8)]) rfl rfl ?_
   refine H.mono fun rv_10 h_54 H => ?_
   obtain ⟨t71_2, rfl, hL_54, H⟩ := H
   refine pop_ieq .i64 _ _ t71_2 0 ?_
   refine condM_b (fun hb_27 => ?_) (fun hb_27 => ?_)
   ·have H := H.1 hb_27
    refine rop_locA agg43 hL_54 3 rfl 0 (vs := [(Sl.v w1_1), (VI w1_2)]) rfl rfl ?_
    refine uop_loc siz43 hL_54 2 rfl 0 [(Sl.v w1_1), (VI w1_2)] rfl rfl rfl (Nat.le_of_ble_eq_true rfl) (L' := [(b_5, [(Sl.v x_5), (VI x_6)]), (b_4, [(Sl.v x_7), (VI x_8)]), (b_3, [(Sl.v w1_1), (VI w1_2)]), (b_2, [(Sl.v w1_1), (VI w1_2)]), (b_1, [(Sl.v g0_1)])]) rfl (fun h_55 hf_40 hL_55 => ?_)
    refine rop_locA agg43 hL_55 2 rfl 0 (vs := [(Sl.v w1_1), (VI w1_2)]) rfl rfl ?_
    have H := H  h_55  (Fr.old (Fr.r (In []) _) hf_40) hL_55
    exact H
   have H := H.2 hb_27
   obtain ⟨J_6, H, HB_6⟩ := H
   refine ⟨fun (vs : List Value) (h' : Heap) => ∃ b_19 : Nat, ∃ x_19 : Sl, ∃ x_20 : Int, ∃ b_20 : Nat, ∃ x_21 : Sl, ∃ x_22 : Int, vs = [(VP b_19 0), (VP b_20 0)] ∧ J_6 b_19 x_19 x_20 b_20 x_21 x_22 h' ∧ Vars h' [(b_20, [(Sl.v x_21), (VI x_22)]), (b_19, [(Sl.v x_19), (VI x_20)]), (b_5, [(Sl.v x_5), (VI x_6)]), (b_4, [(Sl.v x_7), (VI x_8)]), (b_3, [(Sl.v nilSl), (VI 0)]), (b_2, [(Sl.v w1_1), (VI w1_2)]), (b_1, [(Sl.v g0_1)])], ?_, ?_⟩
   ·refine rop_locA agg43 hL_54 3 rfl 0 (vs := [(Sl.v w1_1), (VI w1_2)]) rfl rfl ?_
    refine rop_locA agg43 hL_54 3 rfl 0 (vs := [(Sl.v w1_1), (VI w1_2)]) rfl rfl ?_
    refine ⟨?_, ?_⟩
    ·have H := H.1
     refine eop_alloc 43 zer43 rfl hL_54 (fun b_21 h_56 hb_28 hf_41 hL_56 => ?_)
     have H := H b_21 h_56 (Nat.le_trans (Fr.size (Fr.r (In []) _)) hb_28) (Fr.no' (Fr.r (In []) _) hf_41) hL_56
     refine ⟨?_, ?_⟩
     ·exact still_locA agg43 hL_56 4 rfl 0 (vs := [(Sl.v w1_1), (VI w1_2)]) rfl rfl
     refine ⟨?_, ?_⟩
     ·exact still_locA agg43 hL_56 4 rfl 0 (vs := [(Sl.v w1_1), (VI w1_2)]) rfl rfl
     refine eop_alloc 43 zer43 rfl hL_56 (fun b_22 h_57 hb_29 hf_42 hL_57 => ?_)
     have H := H b_22 h_57 (Nat.le_trans (Fr.size (Fr.r (In []) _)) hb_29) (Fr.no' (Fr.r (In []) _) hf_42) hL_57
     refine ⟨?_, ?_⟩
     ·exact still_locA agg43 hL_57 5 rfl 0 (vs := [(Sl.v w1_1), (VI w1_2)]) rfl rfl
     refine ⟨?_, ?_⟩
     ·exact still_locA agg43 hL_57 5 rfl 0 (vs := [(Sl.v w1_1), (VI w1_2)]) rfl rfl
     refine uop_loc siz43 hL_57 1 rfl 0 [(Sl.v w1_1), (VI w1_2)] rfl rfl rfl (Nat.le_of_ble_eq_true rfl) (L' := [(b_22, [(Sl.v nilSl), (VI 0)]), (b_21, [(Sl.v w1_1), (VI w1_2)]), (b_5, [(Sl.v x_5), (VI x_6)]), (b_4, [(Sl.v x_7), (VI x_8)]), (b_3, [(Sl.v nilSl), (VI 0)]), (b_2, [(Sl.v w1_1), (VI w1_2)]), (b_1, [(Sl.v g0_1)])]) rfl (fun h_58 hf_43 hL_58 => ?_)
     have H := H  h_58  (Fr.old (Fr.r (In []) _) hf_43) hL_58
     refine ⟨?_, ?_⟩
     ·exact still_locA agg43 hL_58 5 rfl 0 (vs := [(Sl.v w1_1), (VI w1_2)]) rfl rfl
     refine uop_loc siz43 hL_58 0 rfl 0 [(Sl.v w1_1), (VI w1_2)] rfl rfl rfl (Nat.le_of_ble_eq_true rfl) (L' := [(b_22, [(Sl.v w1_1), (VI w1_2)]), (b_21, [(Sl.v w1_1), (VI w1_2)]), (b_5, [(Sl.v x_5), (VI x_6)]), (b_4, [(Sl.v x_7), (VI x_8)]), (b_3, [(Sl.v nilSl), (VI 0)]), (b_2, [(Sl.v w1_1), (VI w1_2)]), (b_1, [(Sl.v g0_1)])]) rfl (fun h_59 hf_44 hL_59 => ?_)
     have H := H  h_59  (Fr.old (Fr.r (In []) _) hf_44) hL_59
     exact ⟨b_21, w1_1, w1_2, b_22, w1_1, w1_2, rfl, H, hL_59⟩
    have H := H.2
    refine eop_alloc 43 zer43 rfl hL_54 (fun b_23 h_60 hb_30 hf_45 hL_60 => ?_)
    have H := H b_23 h_60 (Nat.le_trans (Fr.size (Fr.r (In []) _)) hb_30) (Fr.no' (Fr.r (In []) _) hf_45) hL_60
    refine ⟨?_, ?_⟩
    ·exact still_locA agg43 hL_60 4 rfl 0 (vs := [(Sl.v w1_1), (VI w1_2)]) rfl rfl
    refine ⟨?_, ?_⟩
    ·exact still_locA agg43 hL_60 4 rfl 0 (vs := [(Sl.v w1_1), (VI w1_2)]) rfl rfl
    refine eop_alloc 43 zer43 rfl hL_60 (fun b_24 h_61 hb_31 hf_46 hL_61 => ?_)
    have H := H b_24 h_61 (Nat.le_trans (Fr.size (Fr.r (In []) _)) hb_31) (Fr.no' (Fr.r (In []) _) hf_46) hL_61
    refine ⟨?_, ?_⟩
    ·exact still_locA agg43 hL_61 5 rfl 0 (vs := [(Sl.v w1_1), (VI w1_2)]) rfl rfl
    refine ⟨?_, ?_⟩
    ·exact still_locA agg43 hL_61 5 rfl 0 (vs := [(Sl.v w1_1), (VI w1_2)]) rfl rfl
    refine uop_loc siz43 hL_61 0 rfl 0 [(Sl.v w1_1), (VI w1_2)] rfl rfl rfl (Nat.le_of_ble_eq_true rfl) (L' := [(b_24, [(Sl.v w1_1), (VI w1_2)]), (b_23, [(Sl.v nilSl), (VI 0)]), (b_5, [(Sl.v x_5), (VI x_6)]), (b_4, [(Sl.v x_7), (VI x_8)]), (b_3, [(Sl.v nilSl), (VI 0)]), (b_2, [(Sl.v w1_1), (VI w1_2)]), (b_1, [(Sl.v g0_1)])]) rfl (fun h_62 hf_47 hL_62 => ?_)
    have H := H  h_62  (Fr.old (Fr.r (In []) _) hf_47) hL_62
    refine ⟨?_, ?_⟩
    ·exact still_locA agg43 hL_62 5 rfl 0 (vs := [(Sl.v w1_1), (VI w1_2)]) rfl rfl
    refine uop_loc siz43 hL_62 1 rfl 0 [(Sl.v w1_1), (VI w1_2)] rfl rfl rfl (Nat.le_of_ble_eq_true rfl) (L' := [(b_24, [(Sl.v w1_1), (VI w1_2)]), (b_23, [(Sl.v w1_1), (VI w1_2)]), (b_5, [(Sl.v x_5), (VI x_6)]), (b_4, [(Sl.v x_7), (VI x_8)]), (b_3, [(Sl.v nilSl), (VI 0)]), (b_2, [(Sl.v w1_1), (VI w1_2)]), (b_1, [(Sl.v g0_1)])]) rfl (fun h_63 hf_48 hL_63 => ?_)
    have H := H  h_63  (Fr.old (Fr.r (In []) _) hf_48) hL_63
    exact ⟨b_24, w1_1, w1_2, b_23, w1_1, w1_2, rfl, H, Vars.pick hL_63 [1, 0, 2, 3, 4, 5, 6] rfl⟩
   intro junk_6 tv_7 tv_8 h_64
   rintro ⟨b_19, x_19, x_20, b_20, x_21, x_22, hv, hJ_6, hL_64⟩
   cases hv
   have H := HB_6 b_19 x_19 x_20 b_20 x_21 x_22 h_64 hJ_6 hL_64
   obtain ⟨J_7, ⟨n_9, h0_4⟩, HB_5⟩ := H
   refine loop_intro (J := fun (n : Nat) (vs : List Value) (h' : Heap) => ∃ n20_2 : Int, ∃ x_23 : Sl, ∃ x_24 : Int, vs = [(VI n20_2)] ∧ J_7 n n20_2 x_23 x_24 h' ∧ Vars h' [(b_20, [(Sl.v x_23), (VI x_24)]), (b_19, [(Sl.v x_19), (VI x_20)]), (b_5, [(Sl.v x_5), (VI x_6)]), (b_4, [(Sl.v x_7), (VI x_8)]), (b_3, [(Sl.v nilSl), (VI 0)]), (b_2, [(Sl.v w1_1), (VI w1_2)]), (b_1, [(Sl.v g0_1)])]) n_9 ⟨0, x_21, x_22, rfl, h0_4, hL_64⟩ ?_
   intro I_4 mu_4 hI_4 junk_7 tv_10 h_65 hi_4
   obtain ⟨n_6, ⟨n20_2, x_23, x_24, hv, hJ_7, hL_65⟩, hn_4⟩ := hI_4 _ _ hi_4
   cases hv
   have H := HB_5 n_6 n20_2 x_23 x_24 h_65 hJ_7 hL_65
   refine pop_lss .i64 n20_2 t71_2 ?_
   refine condM_b (fun hb_32 => ?_) (fun hb_32 => ?_)
   ·have H := H.1 hb_32
    refine rop_locA agg41 hL_65 6 rfl 0 (vs := [(Sl.v g0_1)]) rfl rfl ?_
    refine rop_locA agg43 hL_65 0 rfl 0 (vs := [(Sl.v x_23), (VI x_24)]) rfl rfl ?_
    refine H.mono fun rv_11 h_66 H => ?_
    obtain ⟨t85_4, t85_5, t85_6, rfl, hL_66, H⟩ := H
    refine pop_ext (v := (Value.agg #[(Sl.v t85_4), (VI t85_5)])) rfl ?_
    refine pop_ext (v := (VB t85_6)) rfl ?_
    refine uop_loc siz43 hL_66 0 rfl 0 [(Sl.v t85_4), (VI t85_5)] rfl rfl rfl (Nat.le_of_ble_eq_true rfl) (L' := [(b_20, [(Sl.v t85_4), (VI t85_5)]), (b_19, [(Sl.v x_19), (VI x_20)]), (b_5, [(Sl.v x_5), (VI x_6)]), (b_4, [(Sl.v x_7), (VI x_8)]), (b_3, [(Sl.v nilSl), (VI 0)]), (b_2, [(Sl.v w1_1), (VI w1_2)]), (b_1, [(Sl.v g0_1)])]) rfl (fun h_67 hf_49 hL_67 => ?_)
    refine pop_add .i64 n20_2 1 ?_
    have H := H  h_67  (Fr.old (Fr.r (In []) _) hf_49) hL_67
    obtain ⟨m_4, hm_4, H⟩ := H
    exact hn_4 _ _ ⟨m_4, hm_4, (w64 (n20_2 + 1)), t85_4, t85_5, rfl, H, hL_67⟩
   have H := H.2 hb_32
   obtain ⟨J_8, ⟨n_8, h0_3⟩, HB_4⟩ := H
   refine loop_intro (J := fun (n : Nat) (vs : List Value) (h' : Heap) => ∃ start21_2 : Int, ∃ x_25 : Sl, ∃ x_26 : Int, ∃ x_27 : Sl, ∃ x_28 : Int, vs = [(VI start21_2)] ∧ J_8 n start21_2 x_25 x_26 x_27 x_28 h' ∧ Vars h' [(b_20, [(Sl.v x_25), (VI x_26)]), (b_19, [(Sl.v x_27), (VI x_28)]), (b_5, [(Sl.v x_5), (VI x_6)]), (b_4, [(Sl.v x_7), (VI x_8)]), (b_3, [(Sl.v nilSl), (VI 0)]), (b_2, [(Sl.v w1_1), (VI w1_2)]), (b_1, [(Sl.v g0_1)])]) n_8 ⟨0, x_23, x_24, x_19, x_20, rfl, h0_3, hL_65⟩ ?_
   intro I_3 mu_3 hI_3 junk_8 tv_9 h_68 hi_5
   obtain ⟨n_7, ⟨start21_2, x_25, x_26, x_27, x_28, hv, hJ_8, hL_68⟩, hn_5⟩ := hI_3 _ _ hi_5
   cases hv
   have H := HB_4 n_7 start21_2 x_25 x_26 x_27 x_28 h_68 hJ_8 hL_68
   refine rop_locA agg43 hL_68 1 rfl 0 (vs := [(Sl.v x_27), (VI x_28)]) rfl rfl ?_
   refine rop_locA agg43 hL_68 0 rfl 0 (vs := [(Sl.v x_25), (VI x_26)]) rfl rfl ?_
   refine H.mono fun rv_12 h_69 H => ?_
   obtain ⟨t90_2, rfl, hL_69, H⟩ := H
   refine pop_not t90_2 ?_
   refine guardM_st (fun hb_33 => ?_) (fun hb_33 => ?_)
   rotate_left
   ·have H := H.2 hb_33
    refine guardM_n' hb_33 (by decide) ?_
    refine pop_pickf' hb_33 ?_
    refine condM_f ?_
    refine pop_add .i64 start21_2 t71_2 ?_
    refine pop_gtr .i64 (w64 (start21_2 + t71_2)) 2000 ?_
    refine condM_b (fun hb_36 => ?_) (fun hb_36 => ?_)
    ·have H := H.1 hb_36
     refine rop_locA agg43 hL_69 5 rfl 0 (vs := [(Sl.v w1_1), (VI w1_2)]) rfl rfl ?_
     refine uop_loc siz43 hL_69 4 rfl 0 [(Sl.v w1_1), (VI w1_2)] rfl rfl rfl (Nat.le_of_ble_eq_true rfl) (L' := [(b_20, [(Sl.v x_25), (VI x_26)]), (b_19, [(Sl.v x_27), (VI x_28)]), (b_5, [(Sl.v x_5), (VI x_6)]), (b_4, [(Sl.v x_7), (VI x_8)]), (b_3, [(Sl.v w1_1), (VI w1_2)]), (b_2, [(Sl.v w1_1), (VI w1_2)]), (b_1, [(Sl.v g0_1)])]) rfl (fun h_76 hf_54 hL_76 => ?_)
     refine rop_locA agg43 hL_76 4 rfl 0 (vs := [(Sl.v w1_1), (VI w1_2)]) rfl rfl ?_
     have H := H  h_76  (Fr.old (Fr.r (In []) _) hf_54) hL_76
     exact H
    have H := H.2 hb_36
    refine rop_locA agg43 hL_69 1 rfl 0 (vs := [(Sl.v x_27), (VI x_28)]) rfl rfl ?_
    refine uop_loc siz43 hL_69 4 rfl 0 [(Sl.v x_27), (VI x_28)] rfl rfl rfl (Nat.le_of_ble_eq_true rfl) (L' := [(b_20, [(Sl.v x_25), (VI x_26)]), (b_19, [(Sl.v x_27), (VI x_28)]), (b_5, [(Sl.v x_5), (VI x_6)]), (b_4, [(Sl.v x_7), (VI x_8)]), (b_3, [(Sl.v x_27), (VI x_28)]), (b_2, [(Sl.v w1_1), (VI w1_2)]), (b_1, [(Sl.v g0_1)])]) rfl (fun h_77 hf_55 hL_77 => ?_)
    refine rop_locA agg43 hL_77 4 rfl 0 (vs := [(Sl.v x_27), (VI x_28)]) rfl rfl ?_
    have H := H  h_77  (Fr.old (Fr.r (In []) _) hf_55) hL_77
    exact H
   have H := H.1 hb_33
   refine guardM_y' hb_33 ?_
   refine pop_leq .i64 start21_2 2000 ?_
   refine pop_pickt' hb_33 ?_
   refine condM_b (fun hb_34 => ?_) (fun hb_34 => ?_)
   rotate_left
   ·have H := H.2 hb_34
    refine pop_add .i64 start21_2 t71_2 ?_
    refine pop_gtr .i64 (w64 (start21_2 + t71_2)) 2000 ?_
    refine condM_b (fun hb_35 => ?_) (fun hb_35 => ?_)
    ·have H := H.1 hb_35
     refine rop_locA agg43 hL_69 5 rfl 0 (vs := [(Sl.v w1_1), (VI w1_2)]) rfl rfl ?_
     refine uop_loc siz43 hL_69 4 rfl 0 [(Sl.v w1_1), (VI w1_2)] rfl rfl rfl (Nat.le_of_ble_eq_true rfl) (L' := [(b_20, [(Sl.v x_25), (VI x_26)]), (b_19, [(Sl.v x_27), (VI x_28)]), (b_5, [(Sl.v x_5), (VI x_6)]), (b_4, [(Sl.v x_7), (VI x_8)]), (b_3, [(Sl.v w1_1), (VI w1_2)]), (b_2, [(Sl.v w1_1), (VI w1_2)]), (b_1, [(Sl.v g0_1)])]) rfl (fun h_74 hf_52 hL_74 => ?_)
     refine rop_locA agg43 hL_74 4 rfl 0 (vs := [(Sl.v w1_1), (VI w1_2)]) rfl rfl ?_
     have H := H  h_74  (Fr.old (Fr.r (In []) _) hf_52) hL_74
     exact H
    have H := H.2 hb_35
    refine rop_locA agg43 hL_69 1 rfl 0 (vs := [(Sl.v x_27), (VI x_28)]) rfl rfl ?_
    refine uop_loc siz43 hL_69 4 rfl 0 [(Sl.v x_27), (VI x_28)] rfl rfl rfl (Nat.le_of_ble_eq_true rfl) (L' := [(b_20, [(Sl.v x_25), (VI x_26)]), (b_19, [(Sl.v x_27), (VI x_28)]), (b_5, [(Sl.v x_5), (VI x_6)]), (b_4, [(Sl.v x_7), (VI x_8)]), (b_3, [(Sl.v x_27), (VI x_28)]), (b_2, [(Sl.v w1_1), (VI w1_2)]), (b_1, [(Sl.v g0_1)])]) rfl (fun h_75 hf_53 hL_75 => ?_)
    refine rop_locA agg43 hL_75 4 rfl 0 (vs := [(Sl.v x_27), (VI x_28)]) rfl rfl ?_
    have H := H  h_75  (Fr.old (Fr.r (In []) _) hf_53) hL_75
    exact H
   have H := H.1 hb_34
   refine rop_locA agg41 hL_69 6 rfl 0 (vs := [(Sl.v g0_1)]) rfl rfl ?_
   refine rop_locA agg43 hL_69 1 rfl 0 (vs := [(Sl.v x_27), (VI x_28)]) rfl rfl ?_
   refine H.mono fun rv_13 h_70 H => ?_
   obtain ⟨t99_4, t99_5, t99_6, rfl, hL_70, H⟩ := H
   refine pop_ext (v := (Value.agg #[(Sl.v t99_4), (VI t99_5)])) rfl ?_
   refine pop_ext (v := (VB t99_6)) rfl ?_
   refine uop_loc siz43 hL_70 1 rfl 0 [(Sl.v t99_4), (VI t99_5)] rfl rfl rfl (Nat.le_of_ble_eq_true rfl) (L' := [(b_20, [(Sl.v x_25), (VI x_26)]), (b_19, [(Sl.v t99_4), (VI t99_5)]), (b_5, [(Sl.v x_5), (VI x_6)]), (b_4, [(Sl.v x_7), (VI x_8)]), (b_3, [(Sl.v nilSl), (VI 0)]), (b_2, [(Sl.v w1_1), (VI w1_2)]), (b_1, [(Sl.v g0_1)])]) rfl (fun h_71 hf_50 hL_71 => ?_)
   refine rop_locA agg41 hL_71 6 rfl 0 (vs := [(Sl.v g0_1)]) rfl rfl ?_
   refine rop_locA agg43 hL_71 0 rfl 0 (vs := [(Sl.v x_25), (VI x_26)]) rfl rfl ?_
   have H := H  h_71  (Fr.old (Fr.r (In []) _) hf_50) hL_71
   refine H.mono fun rv_14 h_72 H => ?_
   obtain ⟨t105_4, t105_5, t105_6, rfl, hL_72, H⟩ := H
   refine pop_ext (v := (Value.agg #[(Sl.v t105_4), (VI t105_5)])) rfl ?_
   refine pop_ext (v := (VB t105_6)) rfl ?_
   refine uop_loc siz43 hL_72 0 rfl 0 [(Sl.v t105_4), (VI t105_5)] rfl rfl rfl (Nat.le_of_ble_eq_true rfl) (L' := [(b_20, [(Sl.v t105_4), (VI t105_5)]), (b_19, [(Sl.v t99_4), (VI t99_5)]), (b_5, [(Sl.v x_5), (VI x_6)]), (b_4, [(Sl.v x_7), (VI x_8)]), (b_3, [(Sl.v nilSl), (VI 0)]), (b_2, [(Sl.v w1_1), (VI w1_2)]), (b_1, [(Sl.v g0_1)])]) rfl (fun h_73 hf_51 hL_73 => ?_)
   refine pop_add .i64 start21_2 1 ?_
   have H := H  h_73  (Fr.old (Fr.r (In []) _) hf_51) hL_73
   obtain ⟨m_5, hm_5, H⟩ := H
   exact hn_5 _ _ ⟨m_5, hm_5, (w64 (start21_2 + 1)), t105_4, t105_5, t99_4, t99_5, rfl, H, hL_73⟩
  have H := H.1 hb_8
  refine guardM_y' hb_8 ?_
  refine pop_not met9_1 ?_
  refine pop_pickt' hb_8 ?_
  refine condM_b (fun hb_9 => ?_) (fun hb_9 => ?_)
  ·have H := H.1 hb_9
   refine rop_locA agg41 hL_13 4 rfl 0 (vs := [(Sl.v g0_1)]) rfl rfl ?_
   refine rop_locA agg43 hL_13 1 rfl 0 (vs := [(Sl.v x_7), (VI x_8)]) rfl rfl ?_
   refine H.mono fun rv_1 h_14 H => ?_
   obtain ⟨t36_1, t36_2, t36_3, rfl, hL_14, H⟩ := H
   refine pop_ext (v := (Value.agg #[(Sl.v t36_1), (VI t36_2)])) rfl ?_
   refine pop_ext (v := (VB t36_3)) rfl ?_
   refine eop_alloc 43 zer43 rfl hL_14 (fun b_10 h_15 hb_10 hf_12 hL_15 => ?_)
   refine uop_loc siz43 hL_15 0 rfl 0 [(Sl.v t36_1), (VI t36_2)] rfl rfl rfl (Nat.le_of_ble_eq_true rfl) (L' := [(b_10, [(Sl.v t36_1), (VI t36_2)]), (b_5, [(Sl.v x_5), (VI x_6)]), (b_4, [(Sl.v x_7), (VI x_8)]), (b_3, [(Sl.v nilSl), (VI 0)]), (b_2, [(Sl.v w1_1), (VI w1_2)]), (b_1, [(Sl.v g0_1)])]) rfl (fun h_16 hf_13 hL_16 => ?_)
   refine rop_locA agg41 hL_16 5 rfl 0 (vs := [(Sl.v g0_1)]) rfl rfl ?_
   refine rop_locA agg43 hL_16 1 rfl 0 (vs := [(Sl.v x_5), (VI x_6)]) rfl rfl ?_
   have H := H b_10 h_16 (Nat.le_trans (Fr.size (Fr.r (In []) _)) hb_10) (Fr.new (Fr.no' (Fr.r (In []) _) hf_12) (Nat.le_trans (Fr.size (Fr.r (In []) _)) hb_10) hf_13) hL_16
   refine H.mono fun rv_2 h_17 H => ?_
   obtain ⟨t42_1, t42_2, t42_3, rfl, hL_17, H⟩ := H
   refine pop_ext (v := (Value.agg #[(Sl.v t42_1), (VI t42_2)])) rfl ?_
   refine pop_ext (v := (VB t42_3)) rfl ?_
   refine eop_alloc 43 zer43 rfl hL_17 (fun b_11 h_18 hb_11 hf_14 hL_18 => ?_)
   refine uop_loc siz43 hL_18 0 rfl 0 [(Sl.v t42_1), (VI t42_2)] rfl rfl rfl (Nat.le_of_ble_eq_true rfl) (L' := [(b_11, [(Sl.v t42_1), (VI t42_2)]), (b_10, [(Sl.v t36_1), (VI t36_2)]), (b_5, [(Sl.v x_5), (VI x_6)]), (b_4, [(Sl.v x_7), (VI x_8)]), (b_3, [(Sl.v nilSl), (VI 0)]), (b_2, [(Sl.v w1_1), (VI w1_2)]), (b_1, [(Sl.v g0_1)])]) rfl (fun h_19 hf_15 hL_19 => ?_)
   refine pop_not t36_3 ?_
   refine guardM_sf (fun hb_12 => ?_) (fun hb_12 => ?_)
   rotate_left
   ·have H := H.1 hb_12
    refine guardM_n' hb_12 (by decide) ?_
    refine pop_pickt' hb_12 ?_
    refine condM_t ?_
    refine rop_locA agg43 hL_19 5 rfl 0 (vs := [(Sl.v w1_1), (VI w1_2)]) rfl rfl ?_
    refine uop_loc siz43 hL_19 4 rfl 0 [(Sl.v w1_1), (VI w1_2)] rfl rfl rfl (Nat.le_of_ble_eq_true rfl) (L' := [(b_11, [(Sl.v t42_1), (VI t42_2)]), (b_10, [(Sl.v t36_1), (VI t36_2)]), (b_5, [(Sl.v x_5), (VI x_6)]), (b_4, [(Sl.v x_7), (VI x_8)]), (b_3, [(Sl.v w1_1), (VI w1_2)]), (b_2, [(Sl.v w1_1), (VI w1_2)]), (b_1, [(Sl.v g0_1)])]) rfl (fun h_28 hf_22 hL_28 => ?_)
    refine rop_locA agg43 hL_28 4 rfl 0 (vs := [(Sl.v w1_1), (VI w1_2)]) rfl rfl ?_
    have H := H b_11 h_28 (Nat.le_trans (Fr.size (Fr.r (In []) _)) hb_11) (Fr.old (Fr.new (Fr.no' (Fr.r (In []) _) hf_14) (Nat.le_trans (Fr.size (Fr.r (In []) _)) hb_11) hf_15) hf_22) hL_28
    exact H
   have H := H.2 hb_12
   refine guardM_y' hb_12 ?_
   refine pop_not t42_3 ?_
   refine pop_pickf' hb_12 ?_
   refine condM_b (fun hb_13 => ?_) (fun hb_13 => ?_)
   ·have H := H.1 hb_13
    refine rop_locA agg43 hL_19 5 rfl 0 (vs := [(Sl.v w1_1), (VI w1_2)]) rfl rfl ?_
    refine uop_loc siz43 hL_19 4 rfl 0 [(Sl.v w1_1), (VI w1_2)] rfl rfl rfl (Nat.le_of_ble_eq_true rfl) (L' := [(b_11, [(Sl.v t42_1), (VI t42_2)]), (b_10, [(Sl.v t36_1), (VI t36_2)]), (b_5, [(Sl.v x_5), (VI x_6)]), (b_4, [(Sl.v x_7), (VI x_8)]), (b_3, [(Sl.v w1_1), (VI w1_2)]), (b_2, [(Sl.v w1_1), (VI w1_2)]), (b_1, [(Sl.v g0_1)])]) rfl (fun h_20 hf_16 hL_20 => ?_)
    refine rop_locA agg43 hL_20 4 rfl 0 (vs := [(Sl.v w1_1), (VI w1_2)]) rfl rfl ?_
    have H := H b_11 h_20 (Nat.le_trans (Fr.size (Fr.r (In []) _)) hb_11) (Fr.old (Fr.new (Fr.no' (Fr.r (In []) _) hf_14) (Nat.le_trans (Fr.size (Fr.r (In []) _)) hb_11) hf_15) hf_16) hL_20
    exact H
   have H := H.2 hb_13
   refine rop_locA agg41 hL_19 6 rfl 0 (vs := [(Sl.v g0_1)]) rfl rfl ?_
   refine rop_locA agg43 hL_19 0 rfl 0 (vs := [(Sl.v t42_1), (VI t42_2)]) rfl rfl ?_
   have H := H b_11 h_19 (Nat.le_trans (Fr.size (Fr.r (In []) _)) hb_11) (Fr.new (Fr.no' (Fr.r (In []) _) hf_14) (Nat.le_trans (Fr.size (Fr.r (In []) _)) hb_11) hf_15) hL_19
   refine H.mono fun rv_3 h_21 H => ?_
   obtain ⟨t55_1, t55_2, t55_3, rfl, hL_21, H⟩ := H
   refine pop_ext (v := (Value.agg #[(Sl.v t55_1), (VI t55_2)])) rfl ?_
   refine pop_ext (v := (VB t55_3)) rfl ?_
   refine eop_alloc 43 zer43 rfl hL_21 (fun b_12 h_22 hb_14 hf_17 hL_22 => ?_)
   refine uop_loc siz43 hL_22 0 rfl 0 [(Sl.v t55_1), (VI t55_2)] rfl rfl rfl (Nat.le_of_ble_eq_true rfl) (L' := [(b_12, [(Sl.v t55_1), (VI t55_2)]), (b_11, [(Sl.v t42_1), (VI t42_2)]), (b_10, [(Sl.v t36_1), (VI t36_2)]), (b_5, [(Sl.v x_5), (VI x_6)]), (b_4, [(Sl.v x_7), (VI x_8)]), (b_3, [(Sl.v nilSl), (VI 0)]), (b_2, [(Sl.v w1_1), (VI w1_2)]), (b_1, [(Sl.v g0_1)])]) rfl (fun h_23 hf_18 hL_23 => ?_)
   refine pop_not t55_3 ?_
   refine condM_b (fun hb_15 => ?_) (fun hb_15 => ?_)
   ·have H := H.1 hb_15
    refine rop_locA agg43 hL_23 6 rfl 0 (vs := [(Sl.v w1_1), (VI w1_2)]) rfl rfl ?_
    refine uop_loc siz43 hL_23 5 rfl 0 [(Sl.v w1_1), (VI w1_2)] rfl rfl rfl (Nat.le_of_ble_eq_true rfl) (L' := [(b_12, [(Sl.v t55_1), (VI t55_2)]), (b_11, [(Sl.v t42_1), (VI t42_2)]), (b_10, [(Sl.v t36_1), (VI t36_2)]), (b_5, [(Sl.v x_5), (VI x_6)]), (b_4, [(Sl.v x_7), (VI x_8)]), (b_3, [(Sl.v w1_1), (VI w1_2)]), (b_2, [(Sl.v w1_1), (VI w1_2)]), (b_1, [(Sl.v g0_1)])]) rfl (fun h_24 hf_19 hL_24 => ?_)
    refine rop_locA agg43 hL_24 5 rfl 0 (vs := [(Sl.v w1_1), (VI w1_2)]) rfl rfl ?_
    have H := H b_12 h_24 (Nat.le_trans (Fr.size (Fr.r (In []) _)) hb_14) (Fr.old (Fr.new (Fr.no' (Fr.r (In []) _) hf_17) (Nat.le_trans (Fr.size (Fr.r (In []) _)) hb_14) hf_18) hf_19) hL_24
    exact H
   have H := H.2 hb_15
   refine rop_locA agg43 hL_23 2 rfl 0 (vs := [(Sl.v t36_1), (VI t36_2)]) rfl rfl ?_
   refine uop_loc siz43 hL_23 4 rfl 0 [(Sl.v t36_1), (VI t36_2)] rfl rfl rfl (Nat.le_of_ble_eq_true rfl) (L' := [(b_12, [(Sl.v t55_1), (VI t55_2)]), (b_11, [(Sl.v t42_1), (VI t42_2)]), (b_10, [(Sl.v t36_1), (VI t36_2)]), (b_5, [(Sl.v x_5), (VI x_6)]), (b_4, [(Sl.v t36_1), (VI t36_2)]), (b_3, [(Sl.v nilSl), (VI 0)]), (b_2, [(Sl.v w1_1), (VI w1_2)]), (b_1, [(Sl.v g0_1)])]) rfl (fun h_25 hf_20 hL_25 => ?_)
   refine rop_locA agg43 hL_25 0 rfl 0 (vs := [(Sl.v t55_1), (VI t55_2)]) rfl rfl ?_
   refine uop_loc siz43 hL_25 3 rfl 0 [(Sl.v t55_1), (VI t55_2)] rfl rfl rfl (Nat.le_of_ble_eq_true rfl) (L' := [(b_12, [(Sl.v t55_1), (VI t55_2)]), (b_11, [(Sl.v t42_1), (VI t42_2)]), (b_10, [(Sl.v t36_1), (VI t36_2)]), (b_5, [(Sl.v t55_1), (VI t55_2)]), (b_4, [(Sl.v t36_1), (VI t36_2)]), (b_3, [(Sl.v nilSl), (VI 0)]), (b_2, [(Sl.v w1_1), (VI w1_2)]), (b_1, [(Sl.v g0_1)])]) rfl (fun h_26 hf_21 hL_26 => ?_)
   refine rop_locA agg43 hL_26 4 rfl 0 (vs := [(Sl.v t36_1), (VI t36_2)]) rfl rfl ?_
   refine rop_locA agg43 hL_26 3 rfl 0 (vs := [(Sl.v t55_1), (VI t55_2)]) rfl rfl ?_
   have H := H b_12 h_26 (Nat.le_trans (Fr.size (Fr.r (In []) _)) hb_14) (Fr.old (Fr.old (Fr.new (Fr.no' (Fr.r (In []) _) hf_17) (Nat.le_trans (Fr.size (Fr.r (In []) _)) hb_14) hf_18) hf_20) hf_21) hL_26
   refine H.mono fun rv_4 h_27 H => ?_
   obtain ⟨t65_1, rfl, hL_27, H⟩ := H
   refine pop_add .i64 n10_1 1 ?_
   obtain ⟨m_1, hm_1, H⟩ := H
   exact hn_1 _ _ ⟨m_1, hm_1, t65_1, (w64 (n10_1 + 1)), t55_1, t55_2, t36_1, t36_2, rfl, H, (Vars.tail (Vars.tail (Vars.tail hL_27)))⟩
  have H := H.2 hb_9
  refine pop_not met9_1 ?_
  refine condM_f' hb_9 ?_
  refine rop_locA agg41 hL_13 4 rfl 0 (vs := [(Sl.v g0_1)]) rfl rfl ?_
  refine rop_locA agg43 hL_13 1 rfl 0 (vs := [(Sl.v x_7), (VI x_8)]) rfl rfl ?_
  refine H.mono fun rv_5 h_29 H => ?_
  obtain ⟨t71_1, rfl, hL_29, H⟩ := H
  refine pop_ieq .i64 _ _ t71_1 0 ?_
  refine condM_b (fun hb_16 => ?_) (fun hb_16 => ?_)
  ·have H := H.1 hb_16
   refine rop_locA agg43 hL_29 3 rfl 0 (vs := [(Sl.v w1_1), (VI w1_2)]) rfl rfl ?_
   refine uop_loc siz43 hL_29 2 rfl 0 [(Sl.v w1_1), (VI w1_2)] rfl rfl rfl (Nat.le_of_ble_eq_true rfl) (L' := [(b_5, [(Sl.v x_5), (VI x_6)]), (b_4, [(Sl.v x_7), (VI x_8)]), (b_3, [(Sl.v w1_1), (VI w1_2)]), (b_2, [(Sl.v w1_1), (VI w1_2)]), (b_1, [(Sl.v g0_1)])]) rfl (fun h_30 hf_23 hL_30 => ?_)
   refine rop_locA agg43 hL_30 2 rfl 0 (vs := [(Sl.v w1_1), (VI w1_2)]) rfl rfl ?_
   have H := H  h_30  (Fr.old (Fr.r (In []) _) hf_23) hL_30
   exact H
  have H := H.2 hb_16
  obtain ⟨J_3, H, HB_3⟩ := H
  refine ⟨fun (vs : List Value) (h' : Heap) => ∃ b_13 : Nat, ∃ x_9 : Sl, ∃ x_10 : Int, ∃ b_14 : Nat, ∃ x_11 : Sl, ∃ x_12 : Int, vs = [(VP b_13 0), (VP b_14 0)] ∧ J_3 b_13 x_9 x_10 b_14 x_11 x_12 h' ∧ Vars h' [(b_14, [(Sl.v x_11), (VI x_12)]), (b_13, [(Sl.v x_9), (VI x_10)]), (b_5, [(Sl.v x_5), (VI x_6)]), (b_4, [(Sl.v x_7), (VI x_8)]), (b_3, [(Sl.v nilSl), (VI 0)]), (b_2, [(Sl.v w1_1), (VI w1_2)]), (b_1, [(Sl.v g0_1)])], ?_, ?_⟩
  ·refine rop_locA agg43 hL_29 3 rfl 0 (vs := [(Sl.v w1_1), (VI w1_2)]) rfl rfl ?_
   refine rop_locA agg43 hL_29 3 rfl 0 (vs := [(Sl.v w1_1), (VI w1_2)]) rfl rfl ?_
   refine ⟨?_, ?_⟩
   ·have H := H.1
    refine eop_alloc 43 zer43 rfl hL_29 (fun b_15 h_31 hb_17 hf_24 hL_31 => ?_)
    have H := H b_15 h_31 (Nat.le_trans (Fr.size (Fr.r (In []) _)) hb_17) (Fr.no' (Fr.r (In []) _) hf_24) hL_31
    refine ⟨?_, ?_⟩
    ·exact still_locA agg43 hL_31 4 rfl 0 (vs := [(Sl.v w1_1), (VI w1_2)]) rfl rfl
    refine ⟨?_, ?_⟩
    ·exact still_locA agg43 hL_31 4 rfl 0 (vs := [(Sl.v w1_1), (VI w1_2)]) rfl rfl
    refine eop_alloc 43 zer43 rfl hL_31 (fun b_16 h_32 hb_18 hf_25 hL_32 => ?_)
    have H := H b_16 h_32 (Nat.le_trans (Fr.size (Fr.r (In []) _)) hb_18) (Fr.no' (Fr.r (In []) _) hf_25) hL_32
    refine ⟨?_, ?_⟩
    ·exact still_locA agg43 hL_32 5 rfl 0 (vs := [(Sl.v w1_1), (VI w1_2)]) rfl rfl
    refine ⟨?_, ?_⟩
    ·exact still_locA agg43 hL_32 5 rfl 0 (vs := [(Sl.v w1_1), (VI w1_2)]) rfl rfl
    refine uop_loc siz43 hL_32 1 rfl 0 [(Sl.v w1_1), (VI w1_2)] rfl rfl rfl (Nat.le_of_ble_eq_true rfl) (L' := [(b_16, [(Sl.v nilSl), (VI 0)]), (b_15, [(Sl.v w1_1), (VI w1_2)]), (b_5, [(Sl.v x_5), (VI x_6)]), (b_4, [(Sl.v x_7), (VI x_8)]), (b_3, [(Sl.v nilSl), (VI 0)]), (b_2, [(Sl.v w1_1), (VI w1_2)]), (b_1, [(Sl.v g0_1)])]) rfl (fun h_33 hf_26 hL_33 => ?_)
    have H := H  h_33  (Fr.old (Fr.r (In []) _) hf_26) hL_33
    refine ⟨?_, ?_⟩
    ·exact still_locA agg43 hL_33 5 rfl 0 (vs := [(Sl.v w1_1), (VI w1_2)]) rfl rfl
    refine uop_loc siz43 hL_33 0 rfl 0 [(Sl.v w1_1), (VI w1_2)] rfl rfl rfl (Nat.le_of_ble_eq_true rfl) (L' := [(b_16, [(Sl.v w1_1), (VI w1_2)]), (b_15, [(Sl.v w1_1), (VI w1_2)]), (b_5, [(Sl.v x_5), (VI x_6)]), (b_4, [(Sl.v x_7), (VI x_8)]), (b_3, [(Sl.v nilSl), (VI 0)]), (b_2, [(Sl.v w1_1), (VI w1_2)]), (b_1, [(Sl.v g0_1)])]) rfl (fun h_34 hf_27 hL_34 => ?_)
    have H := H  h_34  (Fr.old (Fr.r (In []) _) hf_27) hL_34
    exact ⟨b_15, w1_1, w1_2, b_16, w1_1, w1_2, rfl, H, hL_34⟩
   have H := H.2
   refine eop_alloc 43 zer43 rfl hL_29 (fun b_17 h_35 hb_19 hf_28 hL_35 => ?_)
   have H := H b_17 h_35 (Nat.le_trans (Fr.size (Fr.r (In []) _)) hb_19) (Fr.no' (Fr.r (In []) _) hf_28) hL_35
   refine ⟨?_, ?_⟩
   ·exact still_locA agg43 hL_35 4 rfl 0 (vs := [(Sl.v w1_1), (VI w1_2)]) rfl rfl
   refine ⟨?_, ?_⟩
   ·exact still_locA agg43 hL_35 4 rfl 0 (vs := [(Sl.v w1_1), (VI w1_2)]) rfl rfl
   refine eop_alloc 43 zer43 rfl hL_35 (fun b_18 h_36 hb_20 hf_29 hL_36 => ?_)
   have H := H b_18 h_36 (Nat.le_trans (Fr.size (Fr.r (In []) _)) hb_20) (Fr.no' (Fr.r (In []) _) hf_29) hL_36
   refine ⟨?_, ?_⟩
   ·exact still_locA agg43 hL_36 5 rfl 0 (vs := [(Sl.v w1_1), (VI w1_2)]) rfl rfl
   refine ⟨?_, ?_⟩
   ·exact still_locA agg43 hL_36 5 rfl 0 (vs := [(Sl.v w1_1), (VI w1_2)]) rfl rfl
   refine uop_loc siz43 hL_36 0 rfl 0 [(Sl.v w1_1), (VI w1_2)] rfl rfl rfl (Nat.le_of_ble_eq_true rfl) (L' := [(b_18, [(Sl.v w1_1), (VI w1_2)]), (b_17, [(Sl.v nilSl), (VI 0)]), (b_5, [(Sl.v x_5), (VI x_6)]), (b_4, [(Sl.v x_7), (VI x_8)]), (b_3, [(Sl.v nilSl), (VI 0)]), (b_2, [(Sl.v w1_1), (VI w1_2)]), (b_1, [(Sl.v g0_1)])]) rfl (fun h_37 hf_30 hL_37 => ?_)
   have H := H  h_37  (Fr.old (Fr.r (In []) _) hf_30) hL_37
   refine ⟨?_, ?_⟩
   ·exact still_locA agg43 hL_37 5 rfl 0 (vs := [(Sl.v w1_1), (VI w1_2)]) rfl rfl
   refine uop_loc siz43 hL_37 1 rfl 0 [(Sl.v w1_1), (VI w1_2)] rfl rfl rfl (Nat.le_of_ble_eq_true rfl) (L' := [(b_18, [(Sl.v w1_1), (VI w1_2)]), (b_17, [(Sl.v w1_1), (VI w1_2)]), (b_5, [(Sl.v x_5), (VI x_6)]), (b_4, [(Sl.v x_7), (VI x_8)]), (b_3, [(Sl.v nilSl), (VI 0)]), (b_2, [(Sl.v w1_1), (VI w1_2)]), (b_1, [(Sl.v g0_1)])]) rfl (fun h_38 hf_31 hL_38 => ?_)
   have H := H  h_38  (Fr.old (Fr.r (In []) _) hf_31) hL_38
   exact ⟨b_18, w1_1, w1_2, b_17, w1_1, w1_2, rfl, H, Vars.pick hL_38 [1, 0, 2, 3, 4, 5, 6] rfl⟩
  intro junk_3 tv_3 tv_4 h_39
  rintro ⟨b_13, x_9, x_10, b_14, x_11, x_12, hv, hJ_3, hL_39⟩
  cases hv
  have H := HB_3 b_13 x_9 x_10 b_14 x_11 x_12 h_39 hJ_3 hL_39
  obtain ⟨J_4, ⟨n_5, h0_2⟩, HB_2⟩ := H
  refine loop_intro (J := fun (n : Nat) (vs : List Value) (h' : Heap) => ∃ n20_1 : Int, ∃ x_13 : Sl, ∃ x_14 : Int, vs = [(VI n20_1)] ∧ J_4 n n20_1 x_13 x_14 h' ∧ Vars h' [(b_14, [(Sl.v x_13), (VI x_14)]), (b_13, [(Sl.v x_9), (VI x_10)]), (b_5, [(Sl.v x_5), (VI x_6)]), (b_4, [(Sl.v x_7), (VI x_8)]), (b_3, [(Sl.v nilSl), (VI 0)]), (b_2, [(Sl.v w1_1), (VI w1_2)]), (b_1, [(Sl.v g0_1)])]) n_5 ⟨0, x_11, x_12, rfl, h0_2, hL_39⟩ ?_
  intro I_2 mu_2 hI_2 junk_4 tv_6 h_40 hi_2
  obtain ⟨n_2, ⟨n20_1, x_13, x_14, hv, hJ_4, hL_40⟩, hn_2⟩ := hI_2 _ _ hi_2
  cases hv
  have H := HB_2 n_2 n20_1 x_13 x_14 h_40 hJ_4 hL_40
  refine pop_lss .i64 n20_1 t71_1 ?_
  refine condM_b (fun hb_21 => ?_) (fun hb_21 => ?_)
  ·have H := H.1 hb_21
   refine rop_locA agg41 hL_40 6 rfl 0 (vs := [(Sl.v g0_1)]) rfl rfl ?_
   refine rop_locA agg43 hL_40 0 rfl 0 (vs := [(Sl.v x_13), (VI x_14)]) rfl rfl ?_
   refine H.mono fun rv_6 h_41 H => ?_
   obtain ⟨t85_1, t85_2, t85_3, rfl, hL_41, H⟩ := H
   refine pop_ext (v := (Value.agg #[(Sl.v t85_1), (VI t85_2)])) rfl ?_
   refine pop_ext (v := (VB t85_3)) rfl ?_
   refine uop_loc siz43 hL_41 0 rfl 0 [(Sl.v t85_1), (VI t85_2)] rfl rfl rfl (Nat.le_of_ble_eq_true rfl) (L' := [(b_14, [(Sl.v t85_1), (VI t85_2)]), (b_13, [(Sl.v x_9), (VI x_10)]), (b_5, [(Sl.v x_5), (VI x_6)]), (b_4, [(Sl.v x_7), (VI x_8)]), (b_3, [(Sl.v nilSl), (VI 0)]), (b_2, [(Sl.v w1_1), (VI w1_2)]), (b_1, [(Sl.v g0_1)])]) rfl (fun h_42 hf_32 hL_42 => ?_)
   refine pop_add .i64 n20_1 1 ?_
   have H := H  h_42  (Fr.old (Fr.r (In []) _) hf_32) hL_42
   obtain ⟨m_2, hm_2, H⟩ := H
   exact hn_2 _ _ ⟨m_2, hm_2, (w64 (n20_1 + 1)), t85_1, t85_2, rfl, H, hL_42⟩
  have H := H.2 hb_21
  obtain ⟨J_5, ⟨n_4, h0_1⟩, HB_1⟩ := H
  refine loop_intro (J := fun (n : Nat) (vs : List Value) (h' : Heap) => ∃ start21_1 : Int, ∃ x_15 : Sl, ∃ x_16 : Int, ∃ x_17 : Sl, ∃ x_18 : Int, vs = [(VI start21_1)] ∧ J_5 n start21_1 x_15 x_16 x_17 x_18 h' ∧ Vars h' [(b_14, [(Sl.v x_15), (VI x_16)]), (b_13, [(Sl.v x_17), (VI x_18)]), (b_5, [(Sl.v x_5), (VI x_6)]), (b_4, [(Sl.v x_7), (VI x_8)]), (b_3, [(Sl.v nilSl), (VI 0)]), (b_2, [(Sl.v w1_1), (VI w1_2)]), (b_1, [(Sl.v g0_1)])]) n_4 ⟨0, x_13, x_14, x_9, x_10, rfl, h0_1, hL_40⟩ ?_
  intro I_1 mu_1 hI_1 junk_5 tv_5 h_43 hi_3
  obtain ⟨n_3, ⟨start21_1, x_15, x_16, x_17, x_18, hv, hJ_5, hL_43⟩, hn_3⟩ := hI_1 _ _ hi_3
  cases hv
  have H := HB_1 n_3 start21_1 x_15 x_16 x_17 x_18 h_43 hJ_5 hL_43
  refine rop_locA agg43 hL_43 1 rfl 0 (vs := [(Sl.v x_17), (VI x_18)]) rfl rfl ?_
  refine rop_locA agg43 hL_43 0 rfl 0 (vs := [(Sl.v x_15), (VI x_16)]) rfl rfl ?_
  refine H.mono fun rv_7 h_44 H => ?_
  obtain ⟨t90_1, rfl, hL_44, H⟩ := H
  refine pop_not t90_1 ?_
  refine guardM_st (fun hb_22 => ?_) (fun hb_22 => ?_)
  rotate_left
  ·have H := H.2 hb_22
   refine guardM_n' hb_22 (by decide) ?_
   refine pop_pickf' hb_22 ?_
   refine condM_f ?_
   refine pop_add .i64 start21_1 t71_1 ?_
   refine pop_gtr .i64 (w64 (start21_1 + t71_1)) 2000 ?_
   refine condM_b (fun hb_25 => ?_) (fun hb_25 => ?_)
   ·have H := H.1 hb_25
    refine rop_locA agg43 hL_44 5 rfl 0 (vs := [(Sl.v w1_1), (VI w1_2)]) rfl rfl ?_
    refine uop_loc siz43 hL_44 4 rfl 0 [(Sl.v w1_1), (VI w1_2)] rfl rfl rfl (Nat.le_of_ble_eq_true rfl) (L' := [(b_14, [(Sl.v x_15), (VI x_16)]), (b_13, [(Sl.v x_17), (VI x_18)]), (b_5, [(Sl.v x_5), (VI x_6)]), (b_4, [(Sl.v x_7), (VI x_8)]), (b_3, [(Sl.v w1_1), (VI w1_2)]), (b_2, [(Sl.v w1_1), (VI w1_2)]), (b_1, [(Sl.v g0_1)])]) rfl (fun h_51 hf_37 hL_51 => ?_)
    refine rop_locA agg43 hL_51 4 rfl 0 (vs := [(Sl.v w1_1), (VI w1_2)]) rfl rfl ?_
    have H := H  h_51  (Fr.old (Fr.r (In []) _) hf_37) hL_51
    exact H
   have H := H.2 hb_25
   refine rop_locA agg43 hL_44 1 rfl 0 (vs := [(Sl.v x_17), (VI x_18)]) rfl rfl ?_
   refine uop_loc siz43 hL_44 4 rfl 0 [(Sl.v x_17), (VI x_18)] rfl rfl rfl (Nat.le_of_ble_eq_true rfl) (L' := [(b_14, [(Sl.v x_15), (VI x_16)]), (b_13, [(Sl.v x_17), (VI x_18)]), (b_5, [(Sl.v x_5), (VI x_6)]), (b_4, [(Sl.v x_7), (VI x_8)]), (b_3, [(Sl.v x_17), (VI x_18)]), (b_2, [(Sl.v w1_1), (VI w1_2)]), (b_1, [(Sl.v g0_1)])]) rfl (fun h_52 hf_38 hL_52 => ?_)
   refine rop_locA agg43 hL_52 4 rfl 0 (vs := [(Sl.v x_17), (VI x_18)]) rfl rfl ?_
   have H := H  h_52  (Fr.old (Fr.r (In []) _) hf_38) hL_52
   exact H
  have H := H.1 hb_22
  refine guardM_y' hb_22 ?_
  refine pop_leq .i64 start21_1 2000 ?_
  refine pop_pickt' hb_22 ?_
  refine condM_b (fun hb_23 => ?_) (fun hb_23 => ?_)
  rotate_left
  ·have H := H.2 hb_23
   refine pop_add .i64 start21_1 t71_1 ?_
   refine pop_gtr .i64 (w64 (start21_1 + t71_1)) 2000 ?_
   refine condM_b (fun hb_24 => ?_) (fun hb_24 => ?_)
   ·have H := H.1 hb_24
    refine rop_locA agg43 hL_44 5 rfl 0 (vs := [(Sl.v w1_1), (VI w1_2)]) rfl rfl ?_
    refine uop_loc siz43 hL_44 4 rfl 0 [(Sl.v w1_1), (VI w1_2)] rfl rfl rfl (Nat.le_of_ble_eq_true rfl) (L' := [(b_14, [(Sl.v x_15), (VI x_16)]), (b_13, [(Sl.v x_17), (VI x_18)]), (b_5, [(Sl.v x_5), (VI x_6)]), (b_4, [(Sl.v x_7), (VI x_8)]), (b_3, [(Sl.v w1_1), (VI w1_2)]), (b_2, [(Sl.v w1_1), (VI w1_2)]), (b_1, [(Sl.v g0_1)])]) rfl (fun h_49 hf_35 hL_49 => ?_)
    refine rop_locA agg43 hL_49 4 rfl 0 (vs := [(Sl.v w1_1), (VI w1_2)]) rfl rfl ?_
    have H := H  h_49  (Fr.old (Fr.r (In []) _) hf_35) hL_49
    exact H
   have H := H.2 hb_24
   refine rop_locA agg43 hL_44 1 rfl 0 (vs := [(Sl.v x_17), (VI x_18)]) rfl rfl ?_
   refine uop_loc siz43 hL_44 4 rfl 0 [(Sl.v x_17), (VI x_18)] rfl rfl rfl (Nat.le_of_ble_eq_true rfl) (L' := [(b_14, [(Sl.v x_15), (VI x_16)]), (b_13, [(Sl.v x_17), (VI x_18)]), (b_5, [(Sl.v x_5), (VI x_6)]), (b_4, [(Sl.v x_7), (VI x_8)]), (b_3, [(Sl.v x_17), (VI x_18)]), (b_2, [(Sl.v w1_1), (VI w1_2)]), (b_1, [(Sl.v g0_1)])]) rfl (fun h_50 hf_36 hL_50 => ?_)
   refine rop_locA agg43 hL_50 4 rfl 0 (vs := [(Sl.v x_17), (VI x_18)]) rfl rfl ?_
   have H := H  h_50  (Fr.old (Fr.r (In []) _) hf_36) hL_50
   exact H
  have H := H.1 hb_23
  refine rop_locA agg41 hL_44 6 rfl 0 (vs := [(Sl.v g0_1)]) rfl rfl ?_
  refine rop_locA agg43 hL_44 1 rfl 0 (vs := [(Sl.v x_17), (VI x_18)]) rfl rfl ?_
  refine H.mono fun rv_8 h_45 H => ?_
  obtain ⟨t99_1, t99_2, t99_3, rfl, hL_45, H⟩ := H
  refine pop_ext (v := (Value.agg #[(Sl.v t99_1), (VI t99_2)])) rfl ?_
  refine pop_ext (v := (VB t99_3)) rfl ?_
  refine uop_loc siz43 hL_45 1 rfl 0 [(Sl.v t99_1), (VI t99_2)] rfl rfl rfl (Nat.le_of_ble_eq_true rfl) (L' := [(b_14, [(Sl.v x_15), (VI x_16)]), (b_13, [(Sl.v t99_1), (VI t99_2)]), (b_5, [(Sl.v x_5), (VI x_6)]), (b_4, [(Sl.v x_7), (VI x_8)]), (b_3, [(Sl.v nilSl), (VI 0)]), (b_2, [(Sl.v w1_1), (VI w1_2)]), (b_1, [(Sl.v g0_1)])]) rfl (fun h_46 hf_33 hL_46 => ?_)
  refine rop_locA agg41 hL_46 6 rfl 0 (vs := [(Sl.v g0_1)]) rfl rfl ?_
  refine rop_locA agg43 hL_46 0 rfl 0 (vs := [(Sl.v x_15), (VI x_16)]) rfl rfl ?_
  have H := H  h_46  (Fr.old (Fr.r (In []) _) hf_33) hL_46
  refine H.mono fun rv_9 h_47 H => ?_
  obtain ⟨t105_1, t105_2, t105_3, rfl, hL_47, H⟩ := H
  refine pop_ext (v := (Value.agg #[(Sl.v t105_1), (VI t105_2)])) rfl ?_
  refine pop_ext (v := (VB t105_3)) rfl ?_
  refine uop_loc siz43 hL_47 0 rfl 0 [(Sl.v t105_1), (VI t105_2)] rfl rfl rfl (Nat.le_of_ble_eq_true rfl) (L' := [(b_14, [(Sl.v t105_1), (VI t105_2)]), (b_13, [(Sl.v t99_1), (VI t99_2)]), (b_5, [(Sl.v x_5), (VI x_6)]), (b_4, [(Sl.v x_7), (VI x_8)]), (b_3, [(Sl.v nilSl), (VI 0)]), (b_2, [(Sl.v w1_1), (VI w1_2)]), (b_1, [(Sl.v g0_1)])]) rfl (fun h_48 hf_34 hL_48 => ?_)
  refine pop_add .i64 start21_1 1 ?_
  have H := H  h_48  (Fr.old (Fr.r (In []) _) hf_34) hL_48
  obtain ⟨m_3, hm_3, H⟩ := H
  exact hn_3 _ _ ⟨m_3, hm_3, (w64 (start21_1 + 1)), t105_1, t105_2, t99_1, t99_2, rfl, H, hL_48⟩

/-! laws.toIntS -/
def u64 (P : Program) (a0_1 : Sl) (h : Heap) (K : Value → Heap → Prop) : Prop :=
  eop P (Instr.makeSlice 34 (VI (a0_1.n : Int)) (VI (a0_1.n : Int))) h fun rv_1 h_1 => ∃ t7_1 : Sl, rv_1 = (Sl.v t7_1) ∧ Vars h_1 [] ∧
  ∃ J_1 : Nat → Int → Heap → Prop, (∃ n0 : Nat, J_1 n0 0 h_1) ∧
  ∀ (n_1 : Nat) (i4_1 : Int) (h_2 : Heap), J_1 n_1 i4_1 h_2 → Vars h_2 [] →
  ((decide (i4_1 < (a0_1.n : Int))) = true →
  InB a0_1 i4_1 ∧
  ∃ t19_1 : Int, hcell h_2 (Sl.at a0_1 i4_1 1) = some (VI t19_1) ∧
  InB t7_1 i4_1 ∧
  Writable h_2 (Sl.at t7_1 i4_1 1) ∧ Vars (hset h_2 (Sl.at t7_1 i4_1 1) (VI t19_1)) [] ∧
  ∀ h_3 : Heap, h_3 = hset h_2 (Sl.at t7_1 i4_1 1) (VI t19_1) → Vars h_3 [] →
  ∃ m : Nat, m < n_1 ∧ J_1 m (w64 (i4_1 + 1)) h_3) ∧
  ((decide (i4_1 < (a0_1.n : Int))) = false →
  K (Sl.v t7_1) h_2)
theorem v64 (a0_1 : Sl) (h : Heap) (K : Value → Heap → Prop) (H : u64 Tryd.prog a0_1 h K) : callM Tryd.prog 64 #[(Sl.v a0_1)] h K := by
  refine c64 (Sl.v a0_1) h K ?_
  unfold u64 at H
  unfold t64
  have hL : Vars h [] := .nil
  refine pop_len a0_1 _ _ sli34 ?_
  refine H.mono fun rv_1 h_1 H => ?_
  obtain ⟨t7_1, rfl, hL_1, H⟩ := H
  obtain ⟨J_1, ⟨n_2, h0_1⟩, HB_1⟩ := H
  refine loop_intro (J := fun (n : Nat) (vs : List Value) (h' : Heap) => ∃ i4_1 : Int, vs = [(VI i4_1)] ∧ J_1 n i4_1 h' ∧ Vars h' []) n_2 ⟨0, rfl, h0_1, hL_1⟩ ?_
  intro I_1 mu_1 hI_1 junk_1 tv_1 h_2 hi_1
  obtain ⟨n_1, ⟨i4_1, hv, hJ_1, hL_2⟩, hn_1⟩ := hI_1 _ _ hi_1
  cases hv
  have H := HB_1 n_1 i4_1 h_2 hJ_1 hL_2
  refine pop_len a0_1 _ _ sli34 ?_
  refine pop_lss .i64 i4_1 (a0_1.n : Int) ?_
  refine condM_b (fun hb_1 => ?_) (fun hb_1 => ?_)
  rotate_left
  ·have H := H.2 hb_1
   exact H
  have H := H.1 hb_1
  obtain ⟨hi_2, H⟩ := H
  refine pop_index sli34 siz3 .i64 a0_1 i4_1 hi_2 ?_
  obtain ⟨t19_1, hc_1, H⟩ := H
  refine rop_one one3 (VI t19_1) hc_1 ?_
  obtain ⟨hi_3, H⟩ := H
  refine pop_index sli34 siz3 .i64 t7_1 i4_1 hi_3 ?_
  obtain ⟨hw_1, hL_3, H⟩ := H
  refine uop_cell (v := (VI t19_1)) siz3 hw_1 rfl (fun h_3 he_1 => ?_)
  rw [← he_1] at hL_3
  have H := H h_3 he_1 hL_3
  refine pop_add .i64 i4_1 1 ?_
  obtain ⟨m_1, hm_1, H⟩ := H
  exact hn_1 _ _ ⟨m_1, hm_1, (w64 (i4_1 + 1)), rfl, H, hL_3⟩

/-! (impl.Graph).period -/
def u66 (P : Program) (g0_1 : Sl) (w1_1 : Sl) (w1_2 : Int) (h : Heap) (K : Value → Heap → Prop) : Prop :=
  ∀ (b_1 : Nat) (b_2 : Nat) (h_2 : Heap), h.size ≤ b_1 → h.size ≤ b_2 → Fr (In []) h h_2 → Vars h_2 [(b_2, [(Sl.v w1_1), (VI w1_2)]), (b_1, [(Sl.v g0_1)])] →
  eop P (Instr.makeMap 118 none) h_2 fun rv_1 h_3 => ∃ t13_1 : Value, rv_1 = t13_1 ∧ Vars h_3 [(b_2, [(Sl.v w1_1), (VI w1_2)]), (b_1, [(Sl.v g0_1)])] ∧
  callM P 69 #[(Value.agg #[(Sl.v w1_1), (VI w1_2)])] h_3 fun rv_2 h_4 => ∃ t15_1 : Sl, ∃ t15_2 : Int, rv_2 = (Value.agg #[(Sl.v t15_1), (VI t15_2)]) ∧ Vars h_4 [(b_2, [(Sl.v w1_1), (VI w1_2)]), (b_1, [(Sl.v g0_1)])] ∧
  ∀ (b_3 : Nat) (h_6 : Heap), h_4.size ≤ b_3 → Fr (In []) h_4 h_6 → Vars h_6 [(b_3, [(Sl.v t15_1), (VI t15_2)]), (b_2, [(Sl.v w1_1), (VI w1_2)]), (b_1, [(Sl.v g0_1)])] →
  ∃ J_1 : Sl → Int → Heap → Prop, (∃ J_2 : Nat → Int → Sl → Int → Heap → Prop, (∃ n0 : Nat, J_2 n0 0 t15_1 t15_2 h_6) ∧
  ∀ (n_1 : Nat) (n9_1 : Int) (x_3 : Sl) (x_4 : Int) (h_7 : Heap), J_2 n_1 n9_1 x_3 x_4 h_7 → Vars h_7 [(b_3, [(Sl.v x_3), (VI x_4)]), (b_2, [(Sl.v w1_1), (VI w1_2)]), (b_1, [(Sl.v g0_1)])] →
  ((decide (n9_1 ≤ 2000)) = true →
  callM P 82 #[(Value.agg #[(Sl.v x_3), (VI x_4)])] h_7 fun rv_3 h_8 => ∃ t21_1 : ByteArray, rv_3 = (VS t21_1) ∧ Vars h_8 [(b_3, [(Sl.v x_3), (VI x_4)]), (b_2, [(Sl.v w1_1), (VI w1_2)]), (b_1, [(Sl.v g0_1)])] ∧
  rop P (Instr.lookup 118 t13_1 (VS t21_1) true) h_8 fun rv_4 => ∃ t25_1 : Int, ∃ t25_2 : Bool, rv_4 = (Value.tuple #[(VI t25_1), (VB t25_2)]) ∧ 
  (t25_2 = true →
  K (Value.tuple #[(VI t25_1), (VI (w64 (n9_1 - t25_1))), (VB true)]) h_8) ∧
  (t25_2 = false →
  uop P (Instr.mapUpdate 118 t13_1 (VS t21_1) (VI n9_1)) h_8 fun rv_5 h_9 => Vars h_9 [(b_3, [(Sl.v x_3), (VI x_4)]), (b_2, [(Sl.v w1_1), (VI w1_2)]), (b_1, [(Sl.v g0_1)])] ∧
  callM P 92 #[(Value.agg #[(Sl.v g0_1)]), (VP b_3 0)] h_9 fun rv_6 h_10 => ∃ x_5 : Sl, ∃ x_6 : Int, ∃ t37_1 : Bool, rv_6 = (VB t37_1) ∧ Vars h_10 [(b_3, [(Sl.v x_5), (VI x_6)]), (b_2, [(Sl.v w1_1), (VI w1_2)]), (b_1, [(Sl.v g0_1)])] ∧
  ((!t37_1) = true →
  J_1 x_5 x_6 h_10) ∧
  ((!t37_1) = false →
  ∃ m : Nat, m < n_1 ∧ J_2 m (w64 (n9_1 + 1)) x_5 x_6 h_10))) ∧
  ((decide (n9_1 ≤ 2000)) = false →
  J_1 x_3 x_4 h_7)) ∧
  ∀ (x_1 : Sl) (x_2 : Int) (h_11 : Heap), J_1 x_1 x_2 h_11 → Vars h_11 [(b_3, [(Sl.v x_1), (VI x_2)]), (b_2, [(Sl.v w1_1), (VI w1_2)]), (b_1, [(Sl.v g0_1)])] →
  K (Value.tuple #[(VI 0), (VI 0), (VB false)]) h_11
theorem v66 (g0_1 : Sl) (w1_1 : Sl) (w1_2 : Int) (h : Heap) (K : Value → Heap → Prop) (H : u66 Tryd.prog g0_1 w1_1 w1_2 h K) : callM Tryd.prog 66 #[(Value.agg #[(Sl.v g0_1)]), (Value.agg #[(Sl.v w1_1), (VI w1_2)])] h K := by
  refine c66 (Value.agg #[(Sl.v g0_1)]) (Value.agg #[(Sl.v w1_1), (VI w1_2)]) h K ?_
  unfold u66 at H
  unfold t66
  have hL : Vars h [] := .nil
  refine eop_box 41 (Value.agg #[(Sl.v g0_1)]) rfl hL (fun b_1 h_1 hb_1 hf_1 hL_1 => ?_)
  refine eop_box 43 (Value.agg #[(Sl.v w1_1), (VI w1_2)]) rfl hL_1 (fun b_2 h_2 hb_2 hf_2 hL_2 => ?_)
  have H := H b_1 b_2 h_2 (Nat.le_trans (Fr.size (Fr.r (In []) _)) hb_1) (Nat.le_trans (Fr.size (Fr.no' (Fr.r (In []) _) hf_1)) hb_2) (Fr.no' (Fr.no' (Fr.r (In []) _) hf_1) hf_2) hL_2
  refine H.mono fun rv_1 h_3 H => ?_
  obtain ⟨t13_1, rfl, hL_3, H⟩ := H
  refine rop_locA agg43 hL_3 0 rfl 0 (vs := [(Sl.v w1_1), (VI w1_2)]) rfl rfl ?_
  refine H.mono fun rv_2 h_4 H => ?_
  obtain ⟨t15_1, t15_2, rfl, hL_4, H⟩ := H
  refine eop_alloc 43 zer43 rfl hL_4 (fun b_3 h_5 hb_3 hf_3 hL_5 => ?_)
  refine uop_loc siz43 hL_5 0 rfl 0 [(Sl.v t15_1), (VI t15_2)] rfl rfl rfl (Nat.le_of_ble_eq_true rfl) (L' := [(b_3, [(Sl.v t15_1), (VI t15_2)]), (b_2, [(Sl.v w1_1), (VI w1_2)]), (b_1, [(Sl.v g0_1)])]) rfl (fun h_6 hf_4 hL_6 => ?_)
  have H := H b_3 h_6 (Nat.le_trans (Fr.size (Fr.r (In []) _)) hb_3) (Fr.new (Fr.no' (Fr.r (In []) _) hf_3) (Nat.le_trans (Fr.size (Fr.r (In []) _)) hb_3) hf_4) hL_6
  obtain ⟨J_1, H, HB_2⟩ := H
  refine ⟨fun (vs : List Value) (h' : Heap) => ∃ x_1 : Sl, ∃ x_2 : Int, vs = [] ∧ J_1 x_1 x_2 h' ∧ Vars h' [(b_3, [(Sl.v x_1), (VI x_2)]), (b_2, [(Sl.v w1_1), (VI w1_2)]), (b_1, [(Sl.v g0_1)])], ?_, ?_⟩
  ·obtain ⟨J_2, ⟨n_2, h0_1⟩, HB_1⟩ := H
   refine loop_intro (J := fun (n : Nat) (vs : List Value) (h' : Heap) => ∃ n9_1 : Int, ∃ x_3 : Sl, ∃ x_4 : Int, vs = [(VI n9_1)] ∧ J_2 n n9_1 x_3 x_4 h' ∧ Vars h' [(b_3, [(Sl.v x_3), (VI x_4)]), (b_2, [(Sl.v w1_1), (VI w1_2)]), (b_1, [(Sl.v g0_1)])]) n_2 ⟨0, t15_1, t15_2, rfl, h0_1, hL_6⟩ ?_
   intro I_1 mu_1 hI_1 junk_1 tv_1 h_7 hi_1
   obtain ⟨n_1, ⟨n9_1, x_3, x_4, hv, hJ_1, hL_7⟩, hn_1⟩ := hI_1 _ _ hi_1
   cases hv
   have H := HB_1 n_1 n9_1 x_3 x_4 h_7 hJ_1 hL_7
   refine pop_leq .i64 n9_1 2000 ?_
   refine condM_b (fun hb_4 => ?_) (fun hb_4 => ?_)
   rotate_left
   ·have H := H.2 hb_4
    exact ⟨x_3, x_4, rfl, H, hL_7⟩
   have H := H.1 hb_4
   refine rop_locA agg43 hL_7 0 rfl 0 (vs := [(Sl.v x_3), (VI x_4)]) rfl rfl ?_
   refine H.mono fun rv_3 h_8 H => ?_
   obtain ⟨t21_1, rfl, hL_8, H⟩ := H
   refine H.mono fun rv_4 H => ?_
   obtain ⟨t25_1, t25_2, rfl, H⟩ := H
   refine pop_ext (v := (VI t25_1)) rfl ?_
   refine pop_ext (v := (VB t25_2)) rfl ?_
   refine condM_b (fun hb_5 => ?_) (fun hb_5 => ?_)
   ·have H := H.1 hb_5
    refine pop_sub .i64 n9_1 t25_1 ?_
    exact H
   have H := H.2 hb_5
   refine H.mono fun rv_5 h_9 H => ?_
   obtain ⟨hL_9, H⟩ := H
   refine rop_locA agg41 hL_9 2 rfl 0 (vs := [(Sl.v g0_1)]) rfl rfl ?_
   refine H.mono fun rv_6 h_10 H => ?_
   obtain ⟨x_5, x_6, t37_1, rfl, hL_10, H⟩ := H
   refine pop_not t37_1 ?_
   refine condM_b (fun hb_6 => ?_) (fun hb_6 => ?_)
   ·have H := H.1 hb_6
    exact ⟨x_5, x_6, rfl, H, hL_10⟩
   have H := H.2 hb_6
   refine pop_add .i64 n9_1 1 ?_
   obtain ⟨m_1, hm_1, H⟩ := H
   exact hn_1 _ _ ⟨m_1, hm_1, (w64 (n9_1 + 1)), x_5, x_6, rfl, H, hL_10⟩
  intro junk_2  h_11
  rintro ⟨x_1, x_2, hv, hJ_2, hL_11⟩
  have H := HB_2 x_1 x_2 h_11 hJ_2 hL_11
  exact H

/-! (impl.Walk).copied -/
def u69 (P : Program) (w0_1 : Sl) (w0_2 : Int) (h : Heap) (K : Value → Heap → Prop) : Prop :=
  ∀ (b_1 : Nat) (b_2 : Nat) (h_2 : Heap), h.size ≤ b_1 → h.size ≤ b_2 → Fr (In []) h h_2 → Vars h_2 [(b_2, [(Sl.v nilSl), (VI 0)]), (b_1, [(Sl.v w0_1), (VI w0_2)])] →
  callM P 105 #[(Sl.v w0_1)] h_2 fun rv_1 h_3 => ∃ t5_1 : Sl, rv_1 = (Sl.v t5_1) ∧ Vars h_3 [(b_2, [(Sl.v nilSl), (VI 0)]), (b_1, [(Sl.v w0_1), (VI w0_2)])] ∧
  ∀ (h_4 : Heap), Fr (In [b_2]) h_3 h_4 → Vars h_4 [(b_2, [(Sl.v t5_1), (VI w0_2)]), (b_1, [(Sl.v w0_1), (VI w0_2)])] →
  K (Value.agg #[(Sl.v t5_1), (VI w0_2)]) h_4
theorem v69 (w0_1 : Sl) (w0_2 : Int) (h : Heap) (K : Value → Heap → Prop) (H : u69 Tryd.prog w0_1 w0_2 h K) : callM Tryd.prog 69 #[(Value.agg #[(Sl.v w0_1), (VI w0_2)])] h K := by
  refine c69 (Value.agg #[(Sl.v w0_1), (VI w0_2)]) h K ?_
  unfold u69 at H
  unfold t69
  have hL : Vars h [] := .nil
  refine eop_box 43 (Value.agg #[(Sl.v w0_1), (VI w0_2)]) rfl hL (fun b_1 h_1 hb_1 hf_1 hL_1 => ?_)
  refine eop_alloc 43 zer43 rfl hL_1 (fun b_2 h_2 hb_2 hf_2 hL_2 => ?_)
  refine pop_field 0 fld43_0 b_1 0 ?_
  refine rop_loc one34 hL_2 1 rfl 0 (v := (Sl.v w0_1)) rfl ?_
  refine pop_field 1 fld43_1 b_1 0 ?_
  refine rop_loc one3 hL_2 1 rfl 1 (v := (VI w0_2)) rfl ?_
  have H := H b_1 b_2 h_2 (Nat.le_trans (Fr.size (Fr.r (In []) _)) hb_1) (Nat.le_trans (Fr.size (Fr.no' (Fr.r (In []) _) hf_1)) hb_2) (Fr.no' (Fr.no' (Fr.r (In []) _) hf_1) hf_2) hL_2
  refine H.mono fun rv_1 h_3 H => ?_
  obtain ⟨t5_1, rfl, hL_3, H⟩ := H
  refine ⟨?_, ?_⟩
  ·exact still_loc one3 hL_3 1 rfl 1 (v := (VI w0_2)) rfl
  refine pop.mk' (v := (Value.agg #[(Sl.v t5_1), (VI w0_2)])) (fun w => by kernel_rfl) ?_
  refine uop_loc siz43 hL_3 0 rfl 0 [(Sl.v t5_1), (VI w0_2)] rfl rfl rfl (Nat.le_of_ble_eq_true rfl) (L' := [(b_2, [(Sl.v t5_1), (VI w0_2)]), (b_1, [(Sl.v w0_1), (VI w0_2)])]) rfl (fun h_4 hf_3 hL_4 => ?_)
  refine rop_locA agg43 hL_4 0 rfl 0 (vs := [(Sl.v t5_1), (VI w0_2)]) rfl rfl ?_
  have H := H  h_4  (Fr.old (Fr.r (In []) _) hf_3) hL_4
  exact H

/-! (impl.Graph).run -/
def u71 (P : Program) (g0_1 : Sl) (b_1 : Nat) (w1_1 : Sl) (w1_2 : Int) (n2_1 : Int) (with3_1 : Value) (h : Heap) (K : Value → Heap → Prop) : Prop :=
  ∀ (b_2 : Nat) (h_1 : Heap), h.size ≤ b_2 → Fr (In []) h h_1 → Vars h_1 [(b_2, [(Sl.v g0_1)]), (b_1, [(Sl.v w1_1), (VI w1_2)])] →
  ∃ J_1 : Nat → Int → Sl → Int → Heap → Prop, (∃ n0 : Nat, J_1 n0 0 w1_1 w1_2 h_1) ∧
  ∀ (n_1 : Nat) (t11_1 : Int) (x_1 : Sl) (x_2 : Int) (h_2 : Heap), J_1 n_1 t11_1 x_1 x_2 h_2 → Vars h_2 [(b_2, [(Sl.v g0_1)]), (b_1, [(Sl.v x_1), (VI x_2)])] →
  ((decide (t11_1 < n2_1)) = true →
  callM P 92 #[(Value.agg #[(Sl.v g0_1)]), (VP b_1 0)] h_2 fun rv_1 h_3 => ∃ x_3 : Sl, ∃ x_4 : Int, ∃ t19_1 : Bool, rv_1 = (VB t19_1) ∧ Vars h_3 [(b_2, [(Sl.v g0_1)]), (b_1, [(Sl.v x_3), (VI x_4)])] ∧
  ((!t19_1) = true →
  K (VB false) h_3) ∧
  ((!t19_1) = false →
  callV P with3_1 [(VI x_2)] h_3 fun rv_2 h_4 => Vars h_4 [(b_2, [(Sl.v g0_1)]), (b_1, [(Sl.v x_3), (VI x_4)])] ∧
  ∃ m : Nat, m < n_1 ∧ J_1 m (w64 (t11_1 + 1)) x_3 x_4 h_4)) ∧
  ((decide (t11_1 < n2_1)) = false →
  K (VB true) h_2)
theorem v71 (g0_1 : Sl) (b_1 : Nat) (w1_1 : Sl) (w1_2 : Int) (n2_1 : Int) (with3_1 : Value) (h : Heap) (K : Value → Heap → Prop) (hL : Vars h [(b_1, [(Sl.v w1_1), (VI w1_2)])]) (H : u71 Tryd.prog g0_1 b_1 w1_1 w1_2 n2_1 with3_1 h K) : callM Tryd.prog 71 #[(Value.agg #[(Sl.v g0_1)]), (VP b_1 0), (VI n2_1), with3_1] h K := by
  refine c71 (Value.agg #[(Sl.v g0_1)]) (VP b_1 0) (VI n2_1) with3_1 h K ?_
  unfold u71 at H
  unfold t71
  refine eop_box 41 (Value.agg #[(Sl.v g0_1)]) rfl hL (fun b_2 h_1 hb_1 hf_1 hL_1 => ?_)
  have H := H b_2 h_1 (Nat.le_trans (Fr.size (Fr.r (In []) _)) hb_1) (Fr.no' (Fr.r (In []) _) hf_1) hL_1
  obtain ⟨J_1, ⟨n_2, h0_1⟩, HB_1⟩ := H
  refine loop_intro (J := fun (n : Nat) (vs : List Value) (h' : Heap) => ∃ t11_1 : Int, ∃ x_1 : Sl, ∃ x_2 : Int, vs = [(VI t11_1)] ∧ J_1 n t11_1 x_1 x_2 h' ∧ Vars h' [(b_2, [(Sl.v g0_1)]), (b_1, [(Sl.v x_1), (VI x_2)])]) n_2 ⟨0, w1_1, w1_2, rfl, h0_1, hL_1⟩ ?_
  intro I_1 mu_1 hI_1 junk_1 tv_1 h_2 hi_1
  obtain ⟨n_1, ⟨t11_1, x_1, x_2, hv, hJ_1, hL_2⟩, hn_1⟩ := hI_1 _ _ hi_1
  cases hv
  have H := HB_1 n_1 t11_1 x_1 x_2 h_2 hJ_1 hL_2
  refine pop_lss .i64 t11_1 n2_1 ?_
  refine condM_b (fun hb_2 => ?_) (fun hb_2 => ?_)
  rotate_left
  ·have H := H.2 hb_2
   exact H
  have H := H.1 hb_2
  refine pop_nil _ ?_
  refine pop_field 1 fld43_1 b_1 0 ?_
  refine rop_loc one3 hL_2 1 rfl 1 (v := (VI x_2)) rfl ?_
  refine rop_locA agg41 hL_2 0 rfl 0 (vs := [(Sl.v g0_1)]) rfl rfl ?_
  refine H.mono fun rv_1 h_3 H => ?_
  obtain ⟨x_3, x_4, t19_1, rfl, hL_3, H⟩ := H
  refine pop_not t19_1 ?_
  refine condM_b (fun hb_3 => ?_) (fun hb_3 => ?_)
  ·have H := H.1 hb_3
   exact H
  have H := H.2 hb_3
  refine H.mono fun rv_2 h_4 H => ?_
  obtain ⟨hL_4, H⟩ := H
  refine pop_add .i64 t11_1 1 ?_
  obtain ⟨m_1, hm_1, H⟩ := H
  exact hn_1 _ _ ⟨m_1, hm_1, (w64 (t11_1 + 1)), x_3, x_4, rfl, H, hL_4⟩

/-! spec.waGo -/
def u74 (P : Program) (g0_1 : Sl) (w1_1 : Sl) (w1_2 : Int) (n2_1 : Int) (h : Heap) (K : Value → Heap → Prop) : Prop :=
  ∀ (b_1 : Nat) (b_2 : Nat) (b_3 : Nat) (h_3 : Heap), h.size ≤ b_1 → h.size ≤ b_2 → h.size ≤ b_3 → Fr (In []) h h_3 → Vars h_3 [(b_3, [(Sl.v nilSl), (VI 0), (Sl.v nilSl), (Sl.v nilSl), (Sl.v nilSl)]), (b_2, [(Sl.v w1_1), (VI w1_2)]), (b_1, [(Sl.v g0_1)])] →
  ∃ J_1 : Nat → Sl → Int → Sl → Sl → Sl → Heap → Prop, ((eop P (Instr.buildSlice 34 1 #[(0, (VI w1_2))]) h_3 fun rv_1 h_4 => ∃ t17_1 : Sl, rv_1 = (Sl.v t17_1) ∧ Vars h_4 [(b_3, [(Sl.v nilSl), (VI 0), (Sl.v nilSl), (Sl.v nilSl), (Sl.v nilSl)]), (b_2, [(Sl.v w1_1), (VI w1_2)]), (b_1, [(Sl.v g0_1)])] ∧
  (eop P (Instr.makeSlice 34 (VI (g0_1.n : Int)) (VI (g0_1.n : Int))) h_4 fun rv_2 h_5 => ∃ t21_1 : Sl, rv_2 = (Sl.v t21_1) ∧ Vars h_5 [(b_3, [(Sl.v nilSl), (VI 0), (Sl.v nilSl), (Sl.v nilSl), (Sl.v nilSl)]), (b_2, [(Sl.v w1_1), (VI w1_2)]), (b_1, [(Sl.v g0_1)])] ∧
  ∀ (b_5 : Nat) (h_6 : Heap), h_5.size ≤ b_5 → Fr (In []) h_5 h_6 → Vars h_6 [(b_5, [(Sl.v nilSl), (VI 0), (Sl.v nilSl), (Sl.v nilSl), (Sl.v nilSl)]), (b_3, [(Sl.v nilSl), (VI 0), (Sl.v nilSl), (Sl.v nilSl), (Sl.v nilSl)]), (b_2, [(Sl.v w1_1), (VI w1_2)]), (b_1, [(Sl.v g0_1)])] →
  ∀ (h_7 : Heap), Fr (In [b_5]) h_6 h_7 → Vars h_7 [(b_5, [(Sl.v w1_1), (VI w1_2), (Sl.v t17_1), (Sl.v t21_1), (Sl.v nilSl)]), (b_3, [(Sl.v nilSl), (VI 0), (Sl.v nilSl), (Sl.v nilSl), (Sl.v nilSl)]), (b_2, [(Sl.v w1_1), (VI w1_2)]), (b_1, [(Sl.v g0_1)])] →
  J_1 b_5 w1_1 w1_2 t17_1 t21_1 nilSl h_7) ∧
  (∀ (b_6 : Nat) (h_8 : Heap), h_4.size ≤ b_6 → Fr (In []) h_4 h_8 → Vars h_8 [(b_6, [(Sl.v nilSl), (VI 0), (Sl.v nilSl), (Sl.v nilSl), (Sl.v nilSl)]), (b_3, [(Sl.v nilSl), (VI 0), (Sl.v nilSl), (Sl.v nilSl), (Sl.v nilSl)]), (b_2, [(Sl.v w1_1), (VI w1_2)]), (b_1, [(Sl.v g0_1)])] →
  eop P (Instr.makeSlice 34 (VI (g0_1.n : Int)) (VI (g0_1.n : Int))) h_8 fun rv_3 h_9 => ∃ t21_2 : Sl, rv_3 = (Sl.v t21_2) ∧ Vars h_9 [(b_6, [(Sl.v nilSl), (VI 0), (Sl.v nilSl), (Sl.v nilSl), (Sl.v nilSl)]), (b_3, [(Sl.v nilSl), (VI 0), (Sl.v nilSl), (Sl.v nilSl), (Sl.v nilSl)]), (b_2, [(Sl.v w1_1), (VI w1_2)]), (b_1, [(Sl.v g0_1)])] ∧
  ∀ (h_10 : Heap), Fr (In [b_6]) h_9 h_10 → Vars h_10 [(b_6, [(Sl.v w1_1), (VI w1_2), (Sl.v t17_1), (Sl.v t21_2), (Sl.v nilSl)]), (b_3, [(Sl.v nilSl), (VI 0), (Sl.v nilSl), (Sl.v nilSl), (Sl.v nilSl)]), (b_2, [(Sl.v w1_1), (VI w1_2)]), (b_1, [(Sl.v g0_1)])] →
  J_1 b_6 w1_1 w1_2 t17_1 t21_2 nilSl h_10)) ∧
  (eop P (Instr.makeSlice 34 (VI (g0_1.n : Int)) (VI (g0_1.n : Int))) h_3 fun rv_4 h_11 => ∃ t21_3 : Sl, rv_4 = (Sl.v t21_3) ∧ Vars h_11 [(b_3, [(Sl.v nilSl), (VI 0), (Sl.v nilSl), (Sl.v nilSl), (Sl.v nilSl)]), (b_2, [(Sl.v w1_1), (VI w1_2)]), (b_1, [(Sl.v g0_1)])] ∧
  (eop P (Instr.buildSlice 34 1 #[(0, (VI w1_2))]) h_11 fun rv_5 h_12 => ∃ t17_2 : Sl, rv_5 = (Sl.v t17_2) ∧ Vars h_12 [(b_3, [(Sl.v nilSl), (VI 0), (Sl.v nilSl), (Sl.v nilSl), (Sl.v nilSl)]), (b_2, [(Sl.v w1_1), (VI w1_2)]), (b_1, [(Sl.v g0_1)])] ∧
  ∀ (b_7 : Nat) (h_13 : Heap), h_12.size ≤ b_7 → Fr (In []) h_12 h_13 → Vars h_13 [(b_7, [(Sl.v nilSl), (VI 0), (Sl.v nilSl), (Sl.v nilSl), (Sl.v nilSl)]), (b_3, [(Sl.v nilSl), (VI 0), (Sl.v nilSl), (Sl.v nilSl), (Sl.v nilSl)]), (b_2, [(Sl.v w1_1), (VI w1_2)]), (b_1, [(Sl.v g0_1)])] →
  ∀ (h_14 : Heap), Fr (In [b_7]) h_13 h_14 → Vars h_14 [(b_7, [(Sl.v w1_1), (VI w1_2), (Sl.v t17_2), (Sl.v t21_3), (Sl.v nilSl)]), (b_3, [(Sl.v nilSl), (VI 0), (Sl.v nilSl), (Sl.v nilSl), (Sl.v nilSl)]), (b_2, [(Sl.v w1_1), (VI w1_2)]), (b_1, [(Sl.v g0_1)])] →
  J_1 b_7 w1_1 w1_2 t17_2 t21_3 nilSl h_14) ∧
  (∀ (b_8 : Nat) (h_15 : Heap), h_11.size ≤ b_8 → Fr (In []) h_11 h_15 → Vars h_15 [(b_8, [(Sl.v nilSl), (VI 0), (Sl.v nilSl), (Sl.v nilSl), (Sl.v nilSl)]), (b_3, [(Sl.v nilSl), (VI 0), (Sl.v nilSl), (Sl.v nilSl), (Sl.v nilSl)]), (b_2, [(Sl.v w1_1), (VI w1_2)]), (b_1, [(Sl.v g0_1)])] →
  eop P (Instr.buildSlice 34 1 #[(0, (VI w1_2))]) h_15 fun rv_6 h_16 => ∃ t17_3 : Sl, rv_6 = (Sl.v t17_3) ∧ Vars h_16 [(b_8, [(Sl.v nilSl), (VI 0), (Sl.v nilSl), (Sl.v nilSl), (Sl.v nilSl)]), (b_3, [(Sl.v nilSl), (VI 0), (Sl.v nilSl), (Sl.v nilSl), (Sl.v nilSl)]), (b_2, [(Sl.v w1_1), (VI w1_2)]), (b_1, [(Sl.v g0_1)])] ∧
  ∀ (h_17 : Heap), Fr (In [b_8]) h_16 h_17 → Vars h_17 [(b_8, [(Sl.v w1_1), (VI w1_2), (Sl.v t17_3), (Sl.v t21_3), (Sl.v nilSl)]), (b_3, [(Sl.v nilSl), (VI 0), (Sl.v nilSl), (Sl.v nilSl), (Sl.v nilSl)]), (b_2, [(Sl.v w1_1), (VI w1_2)]), (b_1, [(Sl.v g0_1)])] →
  J_1 b_8 w1_1 w1_2 t17_3 t21_3 nilSl h_17)) ∧
  (∀ (b_9 : Nat) (h_18 : Heap), h_3.size ≤ b_9 → Fr (In []) h_3 h_18 → Vars h_18 [(b_9, [(Sl.v nilSl), (VI 0), (Sl.v nilSl), (Sl.v nilSl), (Sl.v nilSl)]), (b_3, [(Sl.v nilSl), (VI 0), (Sl.v nilSl), (Sl.v nilSl), (Sl.v nilSl)]), (b_2, [(Sl.v w1_1), (VI w1_2)]), (b_1, [(Sl.v g0_1)])] →
  (eop P (Instr.buildSlice 34 1 #[(0, (VI w1_2))]) h_18 fun rv_7 h_19 => ∃ t17_4 : Sl, rv_7 = (Sl.v t17_4) ∧ Vars h_19 [(b_9, [(Sl.v nilSl), (VI 0), (Sl.v nilSl), (Sl.v nilSl), (Sl.v nilSl)]), (b_3, [(Sl.v nilSl), (VI 0), (Sl.v nilSl), (Sl.v nilSl), (Sl.v nilSl)]), (b_2, [(Sl.v w1_1), (VI w1_2)]), (b_1, [(Sl.v g0_1)])] ∧
  eop P (Instr.makeSlice 34 (VI (g0_1.n : Int)) (VI (g0_1.n : Int))) h_19 fun rv_8 h_20 => ∃ t21_4 : Sl, rv_8 = (Sl.v t21_4) ∧ Vars h_20 [(b_9, [(Sl.v nilSl), (VI 0), (Sl.v nilSl), (Sl.v nilSl), (Sl.v nilSl)]), (b_3, [(Sl.v nilSl), (VI 0), (Sl.v nilSl), (Sl.v nilSl), (Sl.v nilSl)]), (b_2, [(Sl.v w1_1), (VI w1_2)]), (b_1, [(Sl.v g0_1)])] ∧
  ∀ (h_21 : Heap), Fr (In [b_9]) h_20 h_21 → Vars h_21 [(b_9, [(Sl.v w1_1), (VI w1_2), (Sl.v t17_4), (Sl.v t21_4), (Sl.v nilSl)]), (b_3, [(Sl.v nilSl), (VI 0), (Sl.v nilSl), (Sl.v nilSl), (Sl.v nilSl)]), (b_2, [(Sl.v w1_1), (VI w1_2)]), (b_1, [(Sl.v g0_1)])] →
  J_1 b_9 w1_1 w1_2 t17_4 t21_4 nilSl h_21) ∧
  (eop P (Instr.makeSlice 34 (VI (g0_1.n : Int)) (VI (g0_1.n : Int))) h_18 fun rv_9 h_22 => ∃ t21_5 : Sl, rv_9 = (Sl.v t21_5) ∧ Vars h_22 [(b_9, [(Sl.v nilSl), (VI 0), (Sl.v nilSl), (Sl.v nilSl), (Sl.v nilSl)]), (b_3, [(Sl.v nilSl), (VI 0), (Sl.v nilSl), (Sl.v nilSl), (Sl.v nilSl)]), (b_2, [(Sl.v w1_1), (VI w1_2)]), (b_1, [(Sl.v g0_1)])] ∧
  eop P (Instr.buildSlice 34 1 #[(0, (VI w1_2))]) h_22 fun rv_10 h_23 => ∃ t17_5 : Sl, rv_10 = (Sl.v t17_5) ∧ Vars h_23 [(b_9, [(Sl.v nilSl), (VI 0), (Sl.v nilSl), (Sl.v nilSl), (Sl.v nilSl)]), (b_3, [(Sl.v nilSl), (VI 0), (Sl.v nilSl), (Sl.v nilSl), (Sl.v nilSl)]), (b_2, [(Sl.v w1_1), (VI w1_2)]), (b_1, [(Sl.v g0_1)])] ∧
  ∀ (h_24 : Heap), Fr (In [b_9]) h_23 h_24 → Vars h_24 [(b_9, [(Sl.v w1_1), (VI w1_2), (Sl.v t17_5), (Sl.v t21_5), (Sl.v nilSl)]), (b_3, [(Sl.v nilSl), (VI 0), (Sl.v nilSl), (Sl.v nilSl), (Sl.v nilSl)]), (b_2, [(Sl.v w1_1), (VI w1_2)]), (b_1, [(Sl.v g0_1)])] →
  J_1 b_9 w1_1 w1_2 t17_5 t21_5 nilSl h_24))) ∧
  ∀ (b_4 : Nat) (x_1 : Sl) (x_2 : Int) (x_3 : Sl) (x_4 : Sl) (x_5 : Sl) (h_25 : Heap), J_1 b_4 x_1 x_2 x_3 x_4 x_5 h_25 → Vars h_25 [(b_4, [(Sl.v x_1), (VI x_2), (Sl.v x_3), (Sl.v x_4), (Sl.v x_5)]), (b_3, [(Sl.v nilSl), (VI 0), (Sl.v nilSl), (Sl.v nilSl), (Sl.v nilSl)]), (b_2, [(Sl.v w1_1), (VI w1_2)]), (b_1, [(Sl.v g0_1)])] →
  ∃ J_2 : Nat → Int → Sl → Int → Sl → Sl → Sl → Heap → Prop, (∃ n0 : Nat, J_2 n0 0 x_1 x_2 x_3 x_4 x_5 h_25) ∧
  ∀ (n_1 : Nat) (t26_1 : Int) (x_6 : Sl) (x_7 : Int) (x_8 : Sl) (x_9 : Sl) (x_10 : Sl) (h_26 : Heap), J_2 n_1 t26_1 x_6 x_7 x_8 x_9 x_10 h_26 → Vars h_26 [(b_4, [(Sl.v x_6), (VI x_7), (Sl.v x_8), (Sl.v x_9), (Sl.v x_10)]), (b_3, [(Sl.v nilSl), (VI 0), (Sl.v nilSl), (Sl.v nilSl), (Sl.v nilSl)]), (b_2, [(Sl.v w1_1), (VI w1_2)]), (b_1, [(Sl.v g0_1)])] →
  ((decide (t26_1 < (g0_1.n : Int))) = true →
  InB g0_1 t26_1 ∧
  ∃ t29_1 : Sl, hcell h_26 (Sl.at g0_1 t26_1 1) = some (Sl.v t29_1) ∧
  eop P (Instr.makeSlice 34 (VI (t29_1.n : Int)) (VI (t29_1.n : Int))) h_26 fun rv_11 h_27 => ∃ t34_1 : Sl, rv_11 = (Sl.v t34_1) ∧ Vars h_27 [(b_4, [(Sl.v x_6), (VI x_7), (Sl.v x_8), (Sl.v x_9), (Sl.v x_10)]), (b_3, [(Sl.v nilSl), (VI 0), (Sl.v nilSl), (Sl.v nilSl), (Sl.v nilSl)]), (b_2, [(Sl.v w1_1), (VI w1_2)]), (b_1, [(Sl.v g0_1)])] ∧
  eop P (Instr.buildSlice 22 1 #[(0, (Sl.v t34_1))]) h_27 fun rv_12 h_28 => ∃ t35_1 : Sl, rv_12 = (Sl.v t35_1) ∧ Vars h_28 [(b_4, [(Sl.v x_6), (VI x_7), (Sl.v x_8), (Sl.v x_9), (Sl.v x_10)]), (b_3, [(Sl.v nilSl), (VI 0), (Sl.v nilSl), (Sl.v nilSl), (Sl.v nilSl)]), (b_2, [(Sl.v w1_1), (VI w1_2)]), (b_1, [(Sl.v g0_1)])] ∧
  eop P (appS 22 22 22 (Sl.v x_10) (Sl.v t35_1)) h_28 fun rv_13 h_29 => ∃ t36_1 : Sl, rv_13 = (Sl.v t36_1) ∧ Vars h_29 [(b_4, [(Sl.v x_6), (VI x_7), (Sl.v x_8), (Sl.v x_9), (Sl.v x_10)]), (b_3, [(Sl.v nilSl), (VI 0), (Sl.v nilSl), (Sl.v nilSl), (Sl.v nilSl)]), (b_2, [(Sl.v w1_1), (VI w1_2)]), (b_1, [(Sl.v g0_1)])] ∧
  ∀ (h_30 : Heap), Fr (In [b_4]) h_29 h_30 → Vars h_30 [(b_4, [(Sl.v x_6), (VI x_7), (Sl.v x_8), (Sl.v x_9), (Sl.v t36_1)]), (b_3, [(Sl.v nilSl), (VI 0), (Sl.v nilSl), (Sl.v nilSl), (Sl.v nilSl)]), (b_2, [(Sl.v w1_1), (VI w1_2)]), (b_1, [(Sl.v g0_1)])] →
  ∃ m : Nat, m < n_1 ∧ J_2 m (w64 (t26_1 + 1)) x_6 x_7 x_8 x_9 t36_1 h_30) ∧
  ((decide (t26_1 < (g0_1.n : Int))) = false →
  ∃ J_3 : Nat → Int → Sl → Int → Sl → Sl → Sl → Heap → Prop, (∃ n0 : Nat, J_3 n0 n2_1 x_6 x_7 x_8 x_9 x_10 h_26) ∧
  ∀ (n_2 : Nat) (n2_2 : Int) (x_11 : Sl) (x_12 : Int) (x_13 : Sl) (x_14 : Sl) (x_15 : Sl) (h_31 : Heap), J_3 n_2 n2_2 x_11 x_12 x_13 x_14 x_15 h_31 → Vars h_31 [(b_4, [(Sl.v x_11), (VI x_12), (Sl.v x_13), (Sl.v x_14), (Sl.v x_15)]), (b_3, [(Sl.v nilSl), (VI 0), (Sl.v nilSl), (Sl.v nilSl), (Sl.v nilSl)]), (b_2, [(Sl.v w1_1), (VI w1_2)]), (b_1, [(Sl.v g0_1)])] →
  ((decide (0 < n2_2)) = true →
  callM P 80 #[(Value.agg #[(Sl.v g0_1)]), (Value.agg #[(Sl.v x_11), (VI x_12)])] h_31 fun rv_14 h_32 => ∃ t47_1 : Sl, ∃ t47_2 : Int, ∃ t47_3 : Bool, rv_14 = (Value.tuple #[(Value.agg #[(Sl.v t47_1), (VI t47_2)]), (VB t47_3)]) ∧ Vars h_32 [(b_4, [(Sl.v x_11), (VI x_12), (Sl.v x_13), (Sl.v x_14), (Sl.v x_15)]), (b_3, [(Sl.v nilSl), (VI 0), (Sl.v nilSl), (Sl.v nilSl), (Sl.v nilSl)]), (b_2, [(Sl.v w1_1), (VI w1_2)]), (b_1, [(Sl.v g0_1)])] ∧
  ((!t47_3) = true →
  ∀ (b_10 : Nat) (h_35 : Heap), h_32.size ≤ b_10 → Fr (In [b_3]) h_32 h_35 → Vars h_35 [(b_10, [(Sl.v t47_1), (VI t47_2)]), (b_4, [(Sl.v x_11), (VI x_12), (Sl.v x_13), (Sl.v x_14), (Sl.v x_15)]), (b_3, [(Sl.v nilSl), (VI 0), (Sl.v nilSl), (Sl.v nilSl), (Sl.v nilSl)]), (b_2, [(Sl.v w1_1), (VI w1_2)]), (b_1, [(Sl.v g0_1)])] →
  K (Value.tuple #[(Value.agg #[(Sl.v nilSl), (VI 0), (Sl.v nilSl), (Sl.v nilSl), (Sl.v nilSl)]), (VB false)]) h_35) ∧
  ((!t47_3) = false →
  InB x_15 x_12 ∧
  ∀ (b_10 : Nat) (h_34 : Heap), h_32.size ≤ b_10 → Fr (In []) h_32 h_34 → Vars h_34 [(b_10, [(Sl.v t47_1), (VI t47_2)]), (b_4, [(Sl.v x_11), (VI x_12), (Sl.v x_13), (Sl.v x_14), (Sl.v x_15)]), (b_3, [(Sl.v nilSl), (VI 0), (Sl.v nilSl), (Sl.v nilSl), (Sl.v nilSl)]), (b_2, [(Sl.v w1_1), (VI w1_2)]), (b_1, [(Sl.v g0_1)])] →
  ∃ t59_1 : Sl, hcell h_34 (Sl.at x_15 x_12 1) = some (Sl.v t59_1) ∧
  InB t47_1 x_12 ∧
  ∃ t67_1 : Int, hcell h_34 (Sl.at t47_1 x_12 1) = some (VI t67_1) ∧
  InB t59_1 t67_1 ∧
  ∃ t69_1 : Int, hcell h_34 (Sl.at t59_1 t67_1 1) = some (VI t69_1) ∧
  InB t59_1 t67_1 ∧
  Writable h_34 (Sl.at t59_1 t67_1 1) ∧ Vars (hset h_34 (Sl.at t59_1 t67_1 1) (VI (w64 (t69_1 + 1)))) [(b_10, [(Sl.v t47_1), (VI t47_2)]), (b_4, [(Sl.v x_11), (VI x_12), (Sl.v x_13), (Sl.v x_14), (Sl.v x_15)]), (b_3, [(Sl.v nilSl), (VI 0), (Sl.v nilSl), (Sl.v nilSl), (Sl.v nilSl)]), (b_2, [(Sl.v w1_1), (VI w1_2)]), (b_1, [(Sl.v g0_1)])] ∧
  ∀ h_36 : Heap, h_36 = hset h_34 (Sl.at t59_1 t67_1 1) (VI (w64 (t69_1 + 1))) → Vars h_36 [(b_10, [(Sl.v t47_1), (VI t47_2)]), (b_4, [(Sl.v x_11), (VI x_12), (Sl.v x_13), (Sl.v x_14), (Sl.v x_15)]), (b_3, [(Sl.v nilSl), (VI 0), (Sl.v nilSl), (Sl.v nilSl), (Sl.v nilSl)]), (b_2, [(Sl.v w1_1), (VI w1_2)]), (b_1, [(Sl.v g0_1)])] →
  InB x_14 t47_2 ∧
  ∃ t77_1 : Int, hcell h_36 (Sl.at x_14 t47_2 1) = some (VI t77_1) ∧
  InB x_14 t47_2 ∧
  Writable h_36 (Sl.at x_14 t47_2 1) ∧ Vars (hset h_36 (Sl.at x_14 t47_2 1) (VI (w64 (t77_1 + 1)))) [(b_10, [(Sl.v t47_1), (VI t47_2)]), (b_4, [(Sl.v x_11), (VI x_12), (Sl.v x_13), (Sl.v x_14), (Sl.v x_15)]), (b_3, [(Sl.v nilSl), (VI 0), (Sl.v nilSl), (Sl.v nilSl), (Sl.v nilSl)]), (b_2, [(Sl.v w1_1), (VI w1_2)]), (b_1, [(Sl.v g0_1)])] ∧
  ∀ h_37 : Heap, h_37 = hset h_36 (Sl.at x_14 t47_2 1) (VI (w64 (t77_1 + 1))) → Vars h_37 [(b_10, [(Sl.v t47_1), (VI t47_2)]), (b_4, [(Sl.v x_11), (VI x_12), (Sl.v x_13), (Sl.v x_14), (Sl.v x_15)]), (b_3, [(Sl.v nilSl), (VI 0), (Sl.v nilSl), (Sl.v nilSl), (Sl.v nilSl)]), (b_2, [(Sl.v w1_1), (VI w1_2)]), (b_1, [(Sl.v g0_1)])] →
  eop P (Instr.buildSlice 34 1 #[(0, (VI t47_2))]) h_37 fun rv_15 h_38 => ∃ t84_1 : Sl, rv_15 = (Sl.v t84_1) ∧ Vars h_38 [(b_10, [(Sl.v t47_1), (VI t47_2)]), (b_4, [(Sl.v x_11), (VI x_12), (Sl.v x_13), (Sl.v x_14), (Sl.v x_15)]), (b_3, [(Sl.v nilSl), (VI 0), (Sl.v nilSl), (Sl.v nilSl), (Sl.v nilSl)]), (b_2, [(Sl.v w1_1), (VI w1_2)]), (b_1, [(Sl.v g0_1)])] ∧
  eop P (appS 34 34 34 (Sl.v x_13) (Sl.v t84_1)) h_38 fun rv_16 h_39 => ∃ t85_1 : Sl, rv_16 = (Sl.v t85_1) ∧ Vars h_39 [(b_10, [(Sl.v t47_1), (VI t47_2)]), (b_4, [(Sl.v x_11), (VI x_12), (Sl.v x_13), (Sl.v x_14), (Sl.v x_15)]), (b_3, [(Sl.v nilSl), (VI 0), (Sl.v nilSl), (Sl.v nilSl), (Sl.v nilSl)]), (b_2, [(Sl.v w1_1), (VI w1_2)]), (b_1, [(Sl.v g0_1)])] ∧
  ∀ (h_41 : Heap), Fr (In [b_4, b_4]) h_39 h_41 → Vars h_41 [(b_10, [(Sl.v t47_1), (VI t47_2)]), (b_4, [(Sl.v t47_1), (VI t47_2), (Sl.v t85_1), (Sl.v x_14), (Sl.v x_15)]), (b_3, [(Sl.v nilSl), (VI 0), (Sl.v nilSl), (Sl.v nilSl), (Sl.v nilSl)]), (b_2, [(Sl.v w1_1), (VI w1_2)]), (b_1, [(Sl.v g0_1)])] →
  ∃ m : Nat, m < n_2 ∧ J_3 m (w64 (n2_2 - 1)) t47_1 t47_2 t85_1 x_14 x_15 h_41)) ∧
  ((decide (0 < n2_2)) = false →
  ∀ (h_42 : Heap), Fr (In [b_3]) h_31 h_42 → Vars h_42 [(b_4, [(Sl.v x_11), (VI x_12), (Sl.v x_13), (Sl.v x_14), (Sl.v x_15)]), (b_3, [(Sl.v x_11), (VI x_12), (Sl.v x_13), (Sl.v x_14), (Sl.v x_15)]), (b_2, [(Sl.v w1_1), (VI w1_2)]), (b_1, [(Sl.v g0_1)])] →
  K (Value.tuple #[(Value.agg #[(Sl.v x_11), (VI x_12), (Sl.v x_13), (Sl.v x_14), (Sl.v x_15)]), (VB true)]) h_42))
theorem v74 (g0_1 : Sl) (w1_1 : Sl) (w1_2 : Int) (n2_1 : Int) (h : Heap) (K : Value → Heap → Prop) (H : u74 Tryd.prog g0_1 w1_1 w1_2 n2_1 h K) : callM Tryd.prog 74 #[(Value.agg #[(Sl.v g0_1)]), (Value.agg #[(Sl.v w1_1), (VI w1_2)]), (VI n2_1)] h K := by
  refine c74 (Value.agg #[(Sl.v g0_1)]) (Value.agg #[(Sl.v w1_1), (VI w1_2)]) (VI n2_1) h K ?_
  unfold u74 at H
  unfold t74
  have hL : Vars h [] := .nil
  refine eop_box 41 (Value.agg #[(Sl.v g0_1)]) rfl hL (fun b_1 h_1 hb_1 hf_1 hL_1 => ?_)
  refine eop_box 43 (Value.agg #[(Sl.v w1_1), (VI w1_2)]) rfl hL_1 (fun b_2 h_2 hb_2 hf_2 hL_2 => ?_)
  refine eop_alloc 96 zer96 rfl hL_2 (fun b_3 h_3 hb_3 hf_3 hL_3 => ?_)
  have H := H b_1 b_2 b_3 h_3 (Nat.le_trans (Fr.size (Fr.r (In []) _)) hb_1) (Nat.le_trans (Fr.size (Fr.no' (Fr.r (In []) _) hf_1)) hb_2) (Nat.le_trans (Fr.size (Fr.no' (Fr.no' (Fr.r (In []) _) hf_1) hf_2)) hb_3) (Fr.no' (Fr.no' (Fr.no' (Fr.r (In []) _) hf_1) hf_2) hf_3) hL_3
  obtain ⟨J_1, H, HB_3⟩ := H
  refine ⟨fun (vs : List Value) (h' : Heap) => ∃ b_4 : Nat, ∃ x_1 : Sl, ∃ x_2 : Int, ∃ x_3 : Sl, ∃ x_4 : Sl, ∃ x_5 : Sl, vs = [(VP b_4 0)] ∧ J_1 b_4 x_1 x_2 x_3 x_4 x_5 h' ∧ Vars h' [(b_4, [(Sl.v x_1), (VI x_2), (Sl.v x_3), (Sl.v x_4), (Sl.v x_5)]), (b_3, [(Sl.v nilSl), (VI 0), (Sl.v nilSl), (Sl.v nilSl), (Sl.v nilSl)]), (b_2, [(Sl.v w1_1), (VI w1_2)]), (b_1, [(Sl.v g0_1)])], ?_, ?_⟩
  ·refine rop_locA agg43 hL_3 1 rfl 0 (vs := [(Sl.v w1_1), (VI w1_2)]) rfl rfl ?_
   refine pop_field 1 fld43_1 b_2 0 ?_
   refine rop_loc one3 hL_3 1 rfl 1 (v := (VI w1_2)) rfl ?_
   refine pop_field 0 fld41_0 b_1 0 ?_
   refine rop_loc one22 hL_3 2 rfl 0 (v := (Sl.v g0_1)) rfl ?_
   refine pop_len g0_1 _ _ sli22 ?_
   refine ⟨?_, ?_, ?_⟩
   ·have H := H.1
    refine H.mono fun rv_1 h_4 H => ?_
    obtain ⟨t17_1, rfl, hL_4, H⟩ := H
    refine ⟨?_, ?_⟩
    ·exact still_loc one22 hL_4 2 rfl 0 (v := (Sl.v g0_1)) rfl
    refine ⟨?_, ?_⟩
    ·exact still_locA agg43 hL_4 1 rfl 0 (vs := [(Sl.v w1_1), (VI w1_2)]) rfl rfl
    refine ⟨?_, ?_⟩
    ·have H := H.1
     refine H.mono fun rv_2 h_5 H => ?_
     obtain ⟨t21_1, rfl, hL_5, H⟩ := H
     refine ⟨?_, ?_⟩
     ·exact still_loc one22 hL_5 2 rfl 0 (v := (Sl.v g0_1)) rfl
     refine ⟨?_, ?_⟩
     ·exact still_locA agg43 hL_5 1 rfl 0 (vs := [(Sl.v w1_1), (VI w1_2)]) rfl rfl
     refine pop.mk' (v := (Value.agg #[(Sl.v w1_1), (VI w1_2), (Sl.v t17_1), (Sl.v t21_1), (Sl.v nilSl)])) (fun w => by kernel_rfl) ?_
     refine eop_alloc 96 zer96 rfl hL_5 (fun b_5 h_6 hb_4 hf_4 hL_6 => ?_)
     have H := H b_5 h_6 (Nat.le_trans (Fr.size (Fr.r (In []) _)) hb_4) (Fr.no' (Fr.r (In []) _) hf_4) hL_6
     refine ⟨?_, ?_⟩
     ·exact still_loc one22 hL_6 3 rfl 0 (v := (Sl.v g0_1)) rfl
     refine ⟨?_, ?_⟩
     ·exact still_locA agg43 hL_6 2 rfl 0 (vs := [(Sl.v w1_1), (VI w1_2)]) rfl rfl
     refine uop_loc siz96 hL_6 0 rfl 0 [(Sl.v w1_1), (VI w1_2), (Sl.v t17_1), (Sl.v t21_1), (Sl.v nilSl)] rfl rfl rfl (Nat.le_of_ble_eq_true rfl) (L' := [(b_5, [(Sl.v w1_1), (VI w1_2), (Sl.v t17_1), (Sl.v t21_1), (Sl.v nilSl)]), (b_3, [(Sl.v nilSl), (VI 0), (Sl.v nilSl), (Sl.v nilSl), (Sl.v nilSl)]), (b_2, [(Sl.v w1_1), (VI w1_2)]), (b_1, [(Sl.v g0_1)])]) rfl (fun h_7 hf_5 hL_7 => ?_)
     have H := H  h_7  (Fr.old (Fr.r (In []) _) hf_5) hL_7
     exact ⟨b_5, w1_1, w1_2, t17_1, t21_1, nilSl, rfl, H, hL_7⟩
    have H := H.2
    refine eop_alloc 96 zer96 rfl hL_4 (fun b_6 h_8 hb_5 hf_6 hL_8 => ?_)
    have H := H b_6 h_8 (Nat.le_trans (Fr.size (Fr.r (In []) _)) hb_5) (Fr.no' (Fr.r (In []) _) hf_6) hL_8
    refine ⟨?_, ?_⟩
    ·exact still_loc one22 hL_8 3 rfl 0 (v := (Sl.v g0_1)) rfl
    refine ⟨?_, ?_⟩
    ·exact still_locA agg43 hL_8 2 rfl 0 (vs := [(Sl.v w1_1), (VI w1_2)]) rfl rfl
    refine H.mono fun rv_3 h_9 H => ?_
    obtain ⟨t21_2, rfl, hL_9, H⟩ := H
    refine ⟨?_, ?_⟩
    ·exact still_loc one22 hL_9 3 rfl 0 (v := (Sl.v g0_1)) rfl
    refine ⟨?_, ?_⟩
    ·exact still_locA agg43 hL_9 2 rfl 0 (vs := [(Sl.v w1_1), (VI w1_2)]) rfl rfl
    refine pop.mk' (v := (Value.agg #[(Sl.v w1_1), (VI w1_2), (Sl.v t17_1), (Sl.v t21_2), (Sl.v nilSl)])) (fun w => by kernel_rfl) ?_
    refine uop_loc siz96 hL_9 0 rfl 0 [(Sl.v w1_1), (VI w1_2), (Sl.v t17_1), (Sl.v t21_2), (Sl.v nilSl)] rfl rfl rfl (Nat.le_of_ble_eq_true rfl) (L' := [(b_6, [(Sl.v w1_1), (VI w1_2), (Sl.v t17_1), (Sl.v t21_2), (Sl.v nilSl)]), (b_3, [(Sl.v nilSl), (VI 0), (Sl.v nilSl), (Sl.v nilSl), (Sl.v nilSl)]), (b_2, [(Sl.v w1_1), (VI w1_2)]), (b_1, [(Sl.v g0_1)])]) rfl (fun h_10 hf_7 hL_10 => ?_)
    have H := H  h_10  (Fr.old (Fr.r (In []) _) hf_7) hL_10
    exact ⟨b_6, w1_1, w1_2, t17_1, t21_2, nilSl, rfl, H, hL_10⟩
   ·have H := H.2.1
    refine H.mono fun rv_4 h_11 H => ?_
    obtain ⟨t21_3, rfl, hL_11, H⟩ := H
    refine ⟨?_, ?_⟩
    ·exact still_loc one22 hL_11 2 rfl 0 (v := (Sl.v g0_1)) rfl
    refine ⟨?_, ?_⟩
    ·exact still_loc one3 hL_11 1 rfl 1 (v := (VI w1_2)) rfl
    refine ⟨?_, ?_⟩
    ·exact still_locA agg43 hL_11 1 rfl 0 (vs := [(Sl.v w1_1), (VI w1_2)]) rfl rfl
    refine ⟨?_, ?_⟩
    ·have H := H.1
     refine H.mono fun rv_5 h_12 H => ?_
     obtain ⟨t17_2, rfl, hL_12, H⟩ := H
     refine ⟨?_, ?_⟩
     ·exact still_loc one22 hL_12 2 rfl 0 (v := (Sl.v g0_1)) rfl
     refine ⟨?_, ?_⟩
     ·exact still_locA agg43 hL_12 1 rfl 0 (vs := [(Sl.v w1_1), (VI w1_2)]) rfl rfl
     refine pop.mk' (v := (Value.agg #[(Sl.v w1_1), (VI w1_2), (Sl.v t17_2), (Sl.v t21_3), (Sl.v nilSl)])) (fun w => by kernel_rfl) ?_
     refine eop_alloc 96 zer96 rfl hL_12 (fun b_7 h_13 hb_6 hf_8 hL_13 => ?_)
     have H := H b_7 h_13 (Nat.le_trans (Fr.size (Fr.r (In []) _)) hb_6) (Fr.no' (Fr.r (In []) _) hf_8) hL_13
     refine ⟨?_, ?_⟩
     ·exact still_loc one22 hL_13 3 rfl 0 (v := (Sl.v g0_1)) rfl
     refine ⟨?_, ?_⟩
     ·exact still_locA agg43 hL_13 2 rfl 0 (vs := [(Sl.v w1_1), (VI w1_2)]) rfl rfl
     refine uop_loc siz96 hL_13 0 rfl 0 [(Sl.v w1_1), (VI w1_2), (Sl.v t17_2), (Sl.v t21_3), (Sl.v nilSl)] rfl rfl rfl (Nat.le_of_ble_eq_true rfl) (L' := [(b_7, [(Sl.v w1_1), (VI w1_2), (Sl.v t17_2), (Sl.v t21_3), (Sl.v nilSl)]), (b_3, [(Sl.v nilSl), (VI 0), (Sl.v nilSl), (Sl.v nilSl), (Sl.v nilSl)]), (b_2, [(Sl.v w1_1), (VI w1_2)]), (b_1, [(Sl.v g0_1)])]) rfl (fun h_14 hf_9 hL_14 => ?_)
     have H := H  h_14  (Fr.old (Fr.r (In []) _) hf_9) hL_14
     exact ⟨b_7, w1_1, w1_2, t17_2, t21_3, nilSl, rfl, H, hL_14⟩
    have H := H.2
    refine eop_alloc 96 zer96 rfl hL_11 (fun b_8 h_15 hb_7 hf_10 hL_15 => ?_)
    have H := H b_8 h_15 (Nat.le_trans (Fr.size (Fr.r (In []) _)) hb_7) (Fr.no' (Fr.r (In []) _) hf_10) hL_15
    refine ⟨?_, ?_⟩
    ·exact still_loc one22 hL_15 3 rfl 0 (v := (Sl.v g0_1)) rfl
    refine ⟨?_, ?_⟩
    ·exact still_loc one3 hL_15 2 rfl 1 (v := (VI w1_2)) rfl
    refine ⟨?_, ?_⟩
    ·exact still_locA agg43 hL_15 2 rfl 0 (vs := [(Sl.v w1_1), (VI w1_2)]) rfl rfl
    refine H.mono fun rv_6 h_16 H => ?_
    obtain ⟨t17_3, rfl, hL_16, H⟩ := H
    refine ⟨?_, ?_⟩
    ·exact still_loc one22 hL_16 3 rfl 0 (v := (Sl.v g0_1)) rfl
    refine ⟨?_, ?_⟩
    ·exact still_locA agg43 hL_16 2 rfl 0 (vs := [(Sl.v w1_1), (VI w1_2)]) rfl rfl
    refine pop.mk' (v := (Value.agg #[(Sl.v w1_1), (VI w1_2), (Sl.v t17_3), (Sl.v t21_3), (Sl.v nilSl)])) (fun w => by kernel_rfl) ?_
    refine uop_loc siz96 hL_16 0 rfl 0 [(Sl.v w1_1), (VI w1_2), (Sl.v t17_3), (Sl.v t21_3), (Sl.v nilSl)] rfl rfl rfl (Nat.le_of_ble_eq_true rfl) (L' := [(b_8, [(Sl.v w1_1), (VI w1_2), (Sl.v t17_3), (Sl.v t21_3), (Sl.v nilSl)]), (b_3, [(Sl.v nilSl), (VI 0), (Sl.v nilSl), (Sl.v nilSl), (Sl.v nilSl)]), (b_2, [(Sl.v w1_1), (VI w1_2)]), (b_1, [(Sl.v g0_1)])]) rfl (fun h_17 hf_11 hL_17 => ?_)
    have H := H  h_17  (Fr.old (Fr.r (In []) _) hf_11) hL_17
    exact ⟨b_8, w1_1, w1_2, t17_3, t21_3, nilSl, rfl, H, hL_17⟩
   have H := H.2.2
   refine eop_alloc 96 zer96 rfl hL_3 (fun b_9 h_18 hb_8 hf_12 hL_18 => ?_)
   have H := H b_9 h_18 (Nat.le_trans (Fr.size (Fr.r (In []) _)) hb_8) (Fr.no' (Fr.r (In []) _) hf_12) hL_18
   refine ⟨?_, ?_⟩
   ·exact still_loc one22 hL_18 3 rfl 0 (v := (Sl.v g0_1)) rfl
   refine ⟨?_, ?_⟩
   ·exact still_loc one3 hL_18 2 rfl 1 (v := (VI w1_2)) rfl
   refine ⟨?_, ?_⟩
   ·exact still_locA agg43 hL_18 2 rfl 0 (vs := [(Sl.v w1_1), (VI w1_2)]) rfl rfl
   refine ⟨?_, ?_⟩
   ·have H := H.1
    refine H.mono fun rv_7 h_19 H => ?_
    obtain ⟨t17_4, rfl, hL_19, H⟩ := H
    refine ⟨?_, ?_⟩
    ·exact still_loc one22 hL_19 3 rfl 0 (v := (Sl.v g0_1)) rfl
    refine ⟨?_, ?_⟩
    ·exact still_locA agg43 hL_19 2 rfl 0 (vs := [(Sl.v w1_1), (VI w1_2)]) rfl rfl
    refine H.mono fun rv_8 h_20 H => ?_
    obtain ⟨t21_4, rfl, hL_20, H⟩ := H
    refine ⟨?_, ?_⟩
    ·exact still_loc one22 hL_20 3 rfl 0 (v := (Sl.v g0_1)) rfl
    refine ⟨?_, ?_⟩
    ·exact still_locA agg43 hL_20 2 rfl 0 (vs := [(Sl.v w1_1), (VI w1_2)]) rfl rfl
    refine pop.mk' (v := (Value.agg #[(Sl.v w1_1), (VI w1_2), (Sl.v t17_4), (Sl.v t21_4), (Sl.v nilSl)])) (fun w => by kernel_rfl) ?_
    refine uop_loc siz96 hL_20 0 rfl 0 [(Sl.v w1_1), (VI w1_2), (Sl.v t17_4), (Sl.v t21_4), (Sl.v nilSl)] rfl rfl rfl (Nat.le_of_ble_eq_true rfl) (L' := [(b_9, [(Sl.v w1_1), (VI w1_2), (Sl.v t17_4), (Sl.v t21_4), (Sl.v nilSl)]), (b_3, [(Sl.v nilSl), (VI 0), (Sl.v nilSl), (Sl.v nilSl), (Sl.v nilSl)]), (b_2, [(Sl.v w1_1), (VI w1_2)]), (b_1, [(Sl.v g0_1)])]) rfl (fun h_21 hf_13 hL_21 => ?_)
    have H := H  h_21  (Fr.old (Fr.r (In []) _) hf_13) hL_21
    exact ⟨b_9, w1_1, w1_2, t17_4, t21_4, nilSl, rfl, H, hL_21⟩
   have H := H.2
   refine H.mono fun rv_9 h_22 H => ?_
   obtain ⟨t21_5, rfl, hL_22, H⟩ := H
   refine ⟨?_, ?_⟩
   ·exact still_loc one22 hL_22 3 rfl 0 (v := (Sl.v g0_1)) rfl
   refine ⟨?_, ?_⟩
   ·exact still_loc one3 hL_22 2 rfl 1 (v := (VI w1_2)) rfl
   refine ⟨?_, ?_⟩
   ·exact still_locA agg43 hL_22 2 rfl 0 (vs := [(Sl.v w1_1), (VI w1_2)]) rfl rfl
   refine H.mono fun rv_10 h_23 H => ?_
   obtain ⟨t17_5, rfl, hL_23, H⟩ := H
   refine ⟨?_, ?_⟩
   ·exact still_loc one22 hL_23 3 rfl 0 (v := (Sl.v g0_1)) rfl
   refine ⟨?_, ?_⟩
   ·exact still_locA agg43 hL_23 2 rfl 0 (vs := [(Sl.v w1_1), (VI w1_2)]) rfl rfl
   refine pop.mk' (v := (Value.agg #[(Sl.v w1_1), (VI w1_2), (Sl.v t17_5), (Sl.v t21_5), (Sl.v nilSl)])) (fun w => by kernel_rfl) ?_
   refine uop_loc siz96 hL_23 0 rfl 0 [(Sl.v w1_1), (VI w1_2), (Sl.v t17_5), (Sl.v t21_5), (Sl.v nilSl)] rfl rfl rfl (Nat.le_of_ble_eq_true rfl) (L' := [(b_9, [(Sl.v w1_1), (VI w1_2), (Sl.v t17_5), (Sl.v t21_5), (Sl.v nilSl)]), (b_3, [(Sl.v nilSl), (VI 0), (Sl.v nilSl), (Sl.v nilSl), (Sl.v nilSl)]), (b_2, [(Sl.v w1_1), (VI w1_2)]), (b_1, [(Sl.v g0_1)])]) rfl (fun h_24 hf_14 hL_24 => ?_)
   have H := H  h_24  (Fr.old (Fr.r (In []) _) hf_14) hL_24
   exact ⟨b_9, w1_1, w1_2, t17_5, t21_5, nilSl, rfl, H, hL_24⟩
  intro junk_1 tv_1 h_25
  rintro ⟨b_4, x_1, x_2, x_3, x_4, x_5, hv, hJ_1, hL_25⟩
  cases hv
  have H := HB_3 b_4 x_1 x_2 x_3 x_4 x_5 h_25 hJ_1 hL_25
  refine pop_field 0 fld41_0 b_1 0 ?_
  refine rop_loc one22 hL_25 3 rfl 0 (v := (Sl.v g0_1)) rfl ?_
  refine pop_len g0_1 _ _ sli22 ?_
  obtain ⟨J_2, ⟨n_4, h0_2⟩, HB_2⟩ := H
  refine loop_intro (J := fun (n : Nat) (vs : List Value) (h' : Heap) => ∃ t26_1 : Int, ∃ x_6 : Sl, ∃ x_7 : Int, ∃ x_8 : Sl, ∃ x_9 : Sl, ∃ x_10 : Sl, vs = [(VI t26_1)] ∧ J_2 n t26_1 x_6 x_7 x_8 x_9 x_10 h' ∧ Vars h' [(b_4, [(Sl.v x_6), (VI x_7), (Sl.v x_8), (Sl.v x_9), (Sl.v x_10)]), (b_3, [(Sl.v nilSl), (VI 0), (Sl.v nilSl), (Sl.v nilSl), (Sl.v nilSl)]), (b_2, [(Sl.v w1_1), (VI w1_2)]), (b_1, [(Sl.v g0_1)])]) n_4 ⟨0, x_1, x_2, x_3, x_4, x_5, rfl, h0_2, hL_25⟩ ?_
  intro I_2 mu_2 hI_2 junk_2 tv_3 h_26 hi_1
  obtain ⟨n_1, ⟨t26_1, x_6, x_7, x_8, x_9, x_10, hv, hJ_2, hL_26⟩, hn_1⟩ := hI_2 _ _ hi_1
  cases hv
  have H := HB_2 n_1 t26_1 x_6 x_7 x_8 x_9 x_10 h_26 hJ_2 hL_26
  refine pop_lss .i64 t26_1 (g0_1.n : Int) ?_
  refine condM_b (fun hb_9 => ?_) (fun hb_9 => ?_)
  ·have H := H.1 hb_9
   obtain ⟨hi_2, H⟩ := H
   refine pop_index sli22 siz34 .i64 g0_1 t26_1 hi_2 ?_
   obtain ⟨t29_1, hc_1, H⟩ := H
   refine rop_one one34 (Sl.v t29_1) hc_1 ?_
   refine pop_field 3 fld96_3 b_4 0 ?_
   refine rop_loc one22 hL_26 0 rfl 4 (v := (Sl.v x_10)) rfl ?_
   refine pop_len t29_1 _ _ sli34 ?_
   refine H.mono fun rv_11 h_27 H => ?_
   obtain ⟨t34_1, rfl, hL_27, H⟩ := H
   refine ⟨?_, ?_⟩
   ·exact still_loc one22 hL_27 0 rfl 4 (v := (Sl.v x_10)) rfl
   refine H.mono fun rv_12 h_28 H => ?_
   obtain ⟨t35_1, rfl, hL_28, H⟩ := H
   refine ⟨?_, ?_⟩
   ·exact still_loc one22 hL_28 0 rfl 4 (v := (Sl.v x_10)) rfl
   refine H.mono fun rv_13 h_29 H => ?_
   obtain ⟨t36_1, rfl, hL_29, H⟩ := H
   refine pop_field 3 fld96_3 b_4 0 ?_
   refine uop_loc siz22 hL_29 0 rfl 4 [(Sl.v t36_1)] rfl rfl rfl (Nat.le_of_ble_eq_true rfl) (L' := [(b_4, [(Sl.v x_6), (VI x_7), (Sl.v x_8), (Sl.v x_9), (Sl.v t36_1)]), (b_3, [(Sl.v nilSl), (VI 0), (Sl.v nilSl), (Sl.v nilSl), (Sl.v nilSl)]), (b_2, [(Sl.v w1_1), (VI w1_2)]), (b_1, [(Sl.v g0_1)])]) rfl (fun h_30 hf_15 hL_30 => ?_)
   refine pop_add .i64 t26_1 1 ?_
   have H := H  h_30  (Fr.old (Fr.r (In []) _) hf_15) hL_30
   obtain ⟨m_1, hm_1, H⟩ := H
   exact hn_1 _ _ ⟨m_1, hm_1, (w64 (t26_1 + 1)), x_6, x_7, x_8, x_9, t36_1, rfl, H, hL_30⟩
  have H := H.2 hb_9
  obtain ⟨J_3, ⟨n_3, h0_1⟩, HB_1⟩ := H
  refine loop_intro (J := fun (n : Nat) (vs : List Value) (h' : Heap) => ∃ n2_2 : Int, ∃ x_11 : Sl, ∃ x_12 : Int, ∃ x_13 : Sl, ∃ x_14 : Sl, ∃ x_15 : Sl, vs = [(VI n2_2)] ∧ J_3 n n2_2 x_11 x_12 x_13 x_14 x_15 h' ∧ Vars h' [(b_4, [(Sl.v x_11), (VI x_12), (Sl.v x_13), (Sl.v x_14), (Sl.v x_15)]), (b_3, [(Sl.v nilSl), (VI 0), (Sl.v nilSl), (Sl.v nilSl), (Sl.v nilSl)]), (b_2, [(Sl.v w1_1), (VI w1_2)]), (b_1, [(Sl.v g0_1)])]) n_3 ⟨n2_1, x_6, x_7, x_8, x_9, x_10, rfl, h0_1, hL_26⟩ ?_
  intro I_1 mu_1 hI_1 junk_3 tv_2 h_31 hi_3
  obtain ⟨n_2, ⟨n2_2, x_11, x_12, x_13, x_14, x_15, hv, hJ_3, hL_31⟩, hn_2⟩ := hI_1 _ _ hi_3
  cases hv
  have H := HB_1 n_2 n2_2 x_11 x_12 x_13 x_14 x_15 h_31 hJ_3 hL_31
  refine pop_gtr .i64 n2_2 0 ?_
  refine condM_b (fun hb_10 => ?_) (fun hb_10 => ?_)
  rotate_left
  ·have H := H.2 hb_10
   refine rop_locA agg96 hL_31 0 rfl 0 (vs := [(Sl.v x_11), (VI x_12), (Sl.v x_13), (Sl.v x_14), (Sl.v x_15)]) rfl rfl ?_
   refine uop_loc siz96 hL_31 1 rfl 0 [(Sl.v x_11), (VI x_12), (Sl.v x_13), (Sl.v x_14), (Sl.v x_15)] rfl rfl rfl (Nat.le_of_ble_eq_true rfl) (L' := [(b_4, [(Sl.v x_11), (VI x_12), (Sl.v x_13), (Sl.v x_14), (Sl.v x_15)]), (b_3, [(Sl.v x_11), (VI x_12), (Sl.v x_13), (Sl.v x_14), (Sl.v x_15)]), (b_2, [(Sl.v w1_1), (VI w1_2)]), (b_1, [(Sl.v g0_1)])]) rfl (fun h_42 hf_21 hL_42 => ?_)
   refine rop_locA agg96 hL_42 1 rfl 0 (vs := [(Sl.v x_11), (VI x_12), (Sl.v x_13), (Sl.v x_14), (Sl.v x_15)]) rfl rfl ?_
   have H := H  h_42  (Fr.old (Fr.r (In []) _) hf_21) hL_42
   exact H
  have H := H.1 hb_10
  refine rop_locA agg41 hL_31 3 rfl 0 (vs := [(Sl.v g0_1)]) rfl rfl ?_
  refine pop_field 0 fld96_0 b_4 0 ?_
  refine rop_locA agg43 hL_31 0 rfl 0 (vs := [(Sl.v x_11), (VI x_12)]) rfl rfl ?_
  refine H.mono fun rv_14 h_32 H => ?_
  obtain ⟨t47_1, t47_2, t47_3, rfl, hL_32, H⟩ := H
  refine pop_ext (v := (Value.agg #[(Sl.v t47_1), (VI t47_2)])) rfl ?_
  refine pop_ext (v := (VB t47_3)) rfl ?_
  refine eop_alloc 43 zer43 rfl hL_32 (fun b_10 h_33 hb_11 hf_16 hL_33 => ?_)
  refine uop_loc siz43 hL_33 0 rfl 0 [(Sl.v t47_1), (VI t47_2)] rfl rfl rfl (Nat.le_of_ble_eq_true rfl) (L' := [(b_10, [(Sl.v t47_1), (VI t47_2)]), (b_4, [(Sl.v x_11), (VI x_12), (Sl.v x_13), (Sl.v x_14), (Sl.v x_15)]), (b_3, [(Sl.v nilSl), (VI 0), (Sl.v nilSl), (Sl.v nilSl), (Sl.v nilSl)]), (b_2, [(Sl.v w1_1), (VI w1_2)]), (b_1, [(Sl.v g0_1)])]) rfl (fun h_34 hf_17 hL_34 => ?_)
  refine pop_not t47_3 ?_
  refine condM_b (fun hb_12 => ?_) (fun hb_12 => ?_)
  ·have H := H.1 hb_12
   refine pop.mk' (v := (Value.agg #[(Sl.v nilSl), (VI 0), (Sl.v nilSl), (Sl.v nilSl), (Sl.v nilSl)])) (fun w => by kernel_rfl) ?_
   refine uop_loc siz96 hL_34 2 rfl 0 [(Sl.v nilSl), (VI 0), (Sl.v nilSl), (Sl.v nilSl), (Sl.v nilSl)] rfl rfl rfl (Nat.le_of_ble_eq_true rfl) (L' := [(b_10, [(Sl.v t47_1), (VI t47_2)]), (b_4, [(Sl.v x_11), (VI x_12), (Sl.v x_13), (Sl.v x_14), (Sl.v x_15)]), (b_3, [(Sl.v nilSl), (VI 0), (Sl.v nilSl), (Sl.v nilSl), (Sl.v nilSl)]), (b_2, [(Sl.v w1_1), (VI w1_2)]), (b_1, [(Sl.v g0_1)])]) rfl (fun h_35 hf_18 hL_35 => ?_)
   refine rop_locA agg96 hL_35 2 rfl 0 (vs := [(Sl.v nilSl), (VI 0), (Sl.v nilSl), (Sl.v nilSl), (Sl.v nilSl)]) rfl rfl ?_
   have H := H b_10 h_35 (Nat.le_trans (Fr.size (Fr.r (In []) _)) hb_11) (Fr.old (Fr.new (Fr.no' (Fr.r (In []) _) hf_16) (Nat.le_trans (Fr.size (Fr.r (In []) _)) hb_11) hf_17) hf_18) hL_35
   exact H
  have H := H.2 hb_12
  refine pop_field 3 fld96_3 b_4 0 ?_
  refine rop_loc one22 hL_34 1 rfl 4 (v := (Sl.v x_15)) rfl ?_
  refine pop_field 0 fld96_0 b_4 0 ?_
  refine pop_field 1 fld43_1 b_4 0 ?_
  refine rop_loc one3 hL_34 1 rfl 1 (v := (VI x_12)) rfl ?_
  obtain ⟨hi_4, H⟩ := H
  refine pop_index sli22 siz34 .i64 x_15 x_12 hi_4 ?_
  have H := H b_10 h_34 (Nat.le_trans (Fr.size (Fr.r (In []) _)) hb_11) (Fr.new (Fr.no' (Fr.r (In []) _) hf_16) (Nat.le_trans (Fr.size (Fr.r (In []) _)) hb_11) hf_17) hL_34
  obtain ⟨t59_1, hc_5, H⟩ := H
  refine rop_one one34 (Sl.v t59_1) hc_5 ?_
  refine pop_field 0 fld43_0 b_10 0 ?_
  refine rop_loc one34 hL_34 0 rfl 0 (v := (Sl.v t47_1)) rfl ?_
  refine pop_field 0 fld96_0 b_4 0 ?_
  refine pop_field 1 fld43_1 b_4 0 ?_
  refine rop_loc one3 hL_34 1 rfl 1 (v := (VI x_12)) rfl ?_
  obtain ⟨hi_5, H⟩ := H
  refine pop_index sli34 siz3 .i64 t47_1 x_12 hi_5 ?_
  obtain ⟨t67_1, hc_4, H⟩ := H
  refine rop_one one3 (VI t67_1) hc_4 ?_
  obtain ⟨hi_6, H⟩ := H
  refine pop_index sli34 siz3 .i64 t59_1 t67_1 hi_6 ?_
  obtain ⟨t69_1, hc_3, H⟩ := H
  refine rop_one one3 (VI t69_1) hc_3 ?_
  refine pop_add .i64 t69_1 1 ?_
  obtain ⟨hi_7, H⟩ := H
  refine pop_index sli34 siz3 .i64 t59_1 t67_1 hi_7 ?_
  obtain ⟨hw_1, hL_36, H⟩ := H
  refine uop_cell (v := (VI (w64 (t69_1 + 1)))) siz3 hw_1 rfl (fun h_36 he_1 => ?_)
  rw [← he_1] at hL_36
  have H := H h_36 he_1 hL_36
  refine pop_field 2 fld96_2 b_4 0 ?_
  refine rop_loc one34 hL_36 1 rfl 3 (v := (Sl.v x_14)) rfl ?_
  refine pop_field 1 fld43_1 b_10 0 ?_
  refine rop_loc one3 hL_36 0 rfl 1 (v := (VI t47_2)) rfl ?_
  obtain ⟨hi_8, H⟩ := H
  refine pop_index sli34 siz3 .i64 x_14 t47_2 hi_8 ?_
  obtain ⟨t77_1, hc_2, H⟩ := H
  refine rop_one one3 (VI t77_1) hc_2 ?_
  refine pop_add .i64 t77_1 1 ?_
  obtain ⟨hi_9, H⟩ := H
  refine pop_index sli34 siz3 .i64 x_14 t47_2 hi_9 ?_
  obtain ⟨hw_2, hL_37, H⟩ := H
  refine uop_cell (v := (VI (w64 (t77_1 + 1)))) siz3 hw_2 rfl (fun h_37 he_2 => ?_)
  rw [← he_2] at hL_37
  have H := H h_37 he_2 hL_37
  refine pop_field 1 fld96_1 b_4 0 ?_
  refine rop_loc one34 hL_37 1 rfl 2 (v := (Sl.v x_13)) rfl ?_
  refine pop_field 1 fld43_1 b_10 0 ?_
  refine rop_loc one3 hL_37 0 rfl 1 (v := (VI t47_2)) rfl ?_
  refine H.mono fun rv_15 h_38 H => ?_
  obtain ⟨t84_1, rfl, hL_38, H⟩ := H
  refine H.mono fun rv_16 h_39 H => ?_
  obtain ⟨t85_1, rfl, hL_39, H⟩ := H
  refine pop_field 1 fld96_1 b_4 0 ?_
  refine uop_loc siz34 hL_39 1 rfl 2 [(Sl.v t85_1)] rfl rfl rfl (Nat.le_of_ble_eq_true rfl) (L' := [(b_10, [(Sl.v t47_1), (VI t47_2)]), (b_4, [(Sl.v x_11), (VI x_12), (Sl.v t85_1), (Sl.v x_14), (Sl.v x_15)]), (b_3, [(Sl.v nilSl), (VI 0), (Sl.v nilSl), (Sl.v nilSl), (Sl.v nilSl)]), (b_2, [(Sl.v w1_1), (VI w1_2)]), (b_1, [(Sl.v g0_1)])]) rfl (fun h_40 hf_19 hL_40 => ?_)
  refine rop_locA agg43 hL_40 0 rfl 0 (vs := [(Sl.v t47_1), (VI t47_2)]) rfl rfl ?_
  refine pop_field 0 fld96_0 b_4 0 ?_
  refine uop_loc siz43 hL_40 1 rfl 0 [(Sl.v t47_1), (VI t47_2)] rfl rfl rfl (Nat.le_of_ble_eq_true rfl) (L' := [(b_10, [(Sl.v t47_1), (VI t47_2)]), (b_4, [(Sl.v t47_1), (VI t47_2), (Sl.v t85_1), (Sl.v x_14), (Sl.v x_15)]), (b_3, [(Sl.v nilSl), (VI 0), (Sl.v nilSl), (Sl.v nilSl), (Sl.v nilSl)]), (b_2, [(Sl.v w1_1), (VI w1_2)]), (b_1, [(Sl.v g0_1)])]) rfl (fun h_41 hf_20 hL_41 => ?_)
  refine pop_sub .i64 n2_2 1 ?_
  have H := H  h_41  (Fr.old (Fr.old (Fr.r (In []) _) hf_19) hf_20) hL_41
  obtain ⟨m_2, hm_2, H⟩ := H
  exact hn_2 _ _ ⟨m_2, hm_2, (w64 (n2_2 - 1)), t47_1, t47_2, t85_1, x_14, x_15, rfl, H, (Vars.tail hL_41)⟩

/-! spec.l1Own -/
def u77 (P : Program) (l0_1 : Sl) (h : Heap) (K : Value → Heap → Prop) : Prop :=
  eop P (Instr.buildSlice 34 0 #[]) h fun rv_1 h_1 => ∃ t3_1 : Sl, rv_1 = (Sl.v t3_1) ∧ Vars h_1 [] ∧
  eop P (appS 34 34 34 (Sl.v t3_1) (Sl.v l0_1)) h_1 fun rv_2 h_2 => ∃ t5_1 : Sl, rv_2 = (Sl.v t5_1) ∧ Vars h_2 [] ∧
  K (Sl.v t5_1) h_2
theorem v77 (l0_1 : Sl) (h : Heap) (K : Value → Heap → Prop) (H : u77 Tryd.prog l0_1 h K) : callM Tryd.prog 77 #[(Sl.v l0_1)] h K := by
  refine c77 (Sl.v l0_1) h K ?_
  unfold u77 at H
  unfold t77
  have hL : Vars h [] := .nil
  refine H.mono fun rv_1 h_1 H => ?_
  obtain ⟨t3_1, rfl, hL_1, H⟩ := H
  refine H.mono fun rv_2 h_2 H => ?_
  obtain ⟨t5_1, rfl, hL_2, H⟩ := H
  exact H

/-! spec.waStep -/
def u80 (P : Program) (g0_1 : Sl) (w1_1 : Sl) (w1_2 : Int) (h : Heap) (K : Value → Heap → Prop) : Prop :=
  InB g0_1 w1_2 ∧
  ∀ (b_1 : Nat) (b_2 : Nat) (b_3 : Nat) (h_3 : Heap), h.size ≤ b_1 → h.size ≤ b_2 → h.size ≤ b_3 → Fr (In []) h h_3 → Vars h_3 [(b_3, [(Sl.v nilSl), (VI 0)]), (b_2, [(Sl.v w1_1), (VI w1_2)]), (b_1, [(Sl.v g0_1)])] →
  ∃ t14_1 : Sl, hcell h_3 (Sl.at g0_1 w1_2 1) = some (Sl.v t14_1) ∧
  ((decide ((t14_1.n : Int) = 0)) = true →
  ∀ (h_4 : Heap), Fr (In [b_3]) h_3 h_4 → Vars h_4 [(b_3, [(Sl.v w1_1), (VI w1_2)]), (b_2, [(Sl.v w1_1), (VI w1_2)]), (b_1, [(Sl.v g0_1)])] →
  K (Value.tuple #[(Value.agg #[(Sl.v w1_1), (VI w1_2)]), (VB false)]) h_4) ∧
  ((decide ((t14_1.n : Int) = 0)) = false →
  callM P 77 #[(Sl.v w1_1)] h_3 fun rv_1 h_5 => ∃ t21_1 : Sl, rv_1 = (Sl.v t21_1) ∧ Vars h_5 [(b_3, [(Sl.v nilSl), (VI 0)]), (b_2, [(Sl.v w1_1), (VI w1_2)]), (b_1, [(Sl.v g0_1)])] ∧
  InB w1_1 w1_2 ∧
  ∀ (b_4 : Nat) (h_7 : Heap), h_5.size ≤ b_4 → Fr (In []) h_5 h_7 → Vars h_7 [(b_4, [(Sl.v t21_1), (VI 0)]), (b_3, [(Sl.v nilSl), (VI 0)]), (b_2, [(Sl.v w1_1), (VI w1_2)]), (b_1, [(Sl.v g0_1)])] →
  ∃ t28_1 : Int, hcell h_7 (Sl.at w1_1 w1_2 1) = some (VI t28_1) ∧
  (t14_1.n : Int) ≠ 0 ∧
  InB t21_1 w1_2 ∧
  Writable h_7 (Sl.at t21_1 w1_2 1) ∧ Vars (hset h_7 (Sl.at t21_1 w1_2 1) (VI (Int.tmod (w64 (t28_1 + 1)) (t14_1.n : Int)))) [(b_4, [(Sl.v t21_1), (VI 0)]), (b_3, [(Sl.v nilSl), (VI 0)]), (b_2, [(Sl.v w1_1), (VI w1_2)]), (b_1, [(Sl.v g0_1)])] ∧
  ∀ h_8 : Heap, h_8 = hset h_7 (Sl.at t21_1 w1_2 1) (VI (Int.tmod (w64 (t28_1 + 1)) (t14_1.n : Int))) → Vars h_8 [(b_4, [(Sl.v t21_1), (VI 0)]), (b_3, [(Sl.v nilSl), (VI 0)]), (b_2, [(Sl.v w1_1), (VI w1_2)]), (b_1, [(Sl.v g0_1)])] →
  InB t14_1 (Int.tmod (w64 (t28_1 + 1)) (t14_1.n : Int)) ∧
  ∃ t42_1 : Int, hcell h_8 (Sl.at t14_1 (Int.tmod (w64 (t28_1 + 1)) (t14_1.n : Int)) 1) = some (VI t42_1) ∧
  ∀ (h_10 : Heap), Fr (In [b_3, b_4]) h_8 h_10 → Vars h_10 [(b_4, [(Sl.v t21_1), (VI t42_1)]), (b_3, [(Sl.v t21_1), (VI t42_1)]), (b_2, [(Sl.v w1_1), (VI w1_2)]), (b_1, [(Sl.v g0_1)])] →
  K (Value.tuple #[(Value.agg #[(Sl.v t21_1), (VI t42_1)]), (VB true)]) h_10)
theorem v80 (g0_1 : Sl) (w1_1 : Sl) (w1_2 : Int) (h : Heap) (K : Value → Heap → Prop) (H : u80 Tryd.prog g0_1 w1_1 w1_2 h K) : callM Tryd.prog 80 #[(Value.agg #[(Sl.v g0_1)]), (Value.agg #[(Sl.v w1_1), (VI w1_2)])] h K := by
  refine c80 (Value.agg #[(Sl.v g0_1)]) (Value.agg #[(Sl.v w1_1), (VI w1_2)]) h K ?_
  unfold u80 at H
  unfold t80
  have hL : Vars h [] := .nil
  refine eop_box 41 (Value.agg #[(Sl.v g0_1)]) rfl hL (fun b_1 h_1 hb_1 hf_1 hL_1 => ?_)
  refine eop_box 43 (Value.agg #[(Sl.v w1_1), (VI w1_2)]) rfl hL_1 (fun b_2 h_2 hb_2 hf_2 hL_2 => ?_)
  refine eop_alloc 43 zer43 rfl hL_2 (fun b_3 h_3 hb_3 hf_3 hL_3 => ?_)
  refine pop_field 0 fld41_0 b_1 0 ?_
  refine rop_loc one22 hL_3 2 rfl 0 (v := (Sl.v g0_1)) rfl ?_
  refine pop_field 1 fld43_1 b_2 0 ?_
  refine rop_loc one3 hL_3 1 rfl 1 (v := (VI w1_2)) rfl ?_
  obtain ⟨hi_1, H⟩ := H
  refine pop_index sli22 siz34 .i64 g0_1 w1_2 hi_1 ?_
  have H := H b_1 b_2 b_3 h_3 (Nat.le_trans (Fr.size (Fr.r (In []) _)) hb_1) (Nat.le_trans (Fr.size (Fr.no' (Fr.r (In []) _) hf_1)) hb_2) (Nat.le_trans (Fr.size (Fr.no' (Fr.no' (Fr.r (In []) _) hf_1) hf_2)) hb_3) (Fr.no' (Fr.no' (Fr.no' (Fr.r (In []) _) hf_1) hf_2) hf_3) hL_3
  obtain ⟨t14_1, hc_3, H⟩ := H
  refine rop_one one34 (Sl.v t14_1) hc_3 ?_
  refine pop_len t14_1 _ _ sli34 ?_
  refine pop_ieq .i64 _ _ (t14_1.n : Int) 0 ?_
  refine condM_b (fun hb_4 => ?_) (fun hb_4 => ?_)
  ·have H := H.1 hb_4
   refine rop_locA agg43 hL_3 1 rfl 0 (vs := [(Sl.v w1_1), (VI w1_2)]) rfl rfl ?_
   refine uop_loc siz43 hL_3 0 rfl 0 [(Sl.v w1_1), (VI w1_2)] rfl rfl rfl (Nat.le_of_ble_eq_true rfl) (L' := [(b_3, [(Sl.v w1_1), (VI w1_2)]), (b_2, [(Sl.v w1_1), (VI w1_2)]), (b_1, [(Sl.v g0_1)])]) rfl (fun h_4 hf_4 hL_4 => ?_)
   refine rop_locA agg43 hL_4 0 rfl 0 (vs := [(Sl.v w1_1), (VI w1_2)]) rfl rfl ?_
   have H := H  h_4  (Fr.old (Fr.r (In []) _) hf_4) hL_4
   exact H
  have H := H.2 hb_4
  refine pop_field 0 fld43_0 b_2 0 ?_
  refine rop_loc one34 hL_3 1 rfl 0 (v := (Sl.v w1_1)) rfl ?_
  refine H.mono fun rv_1 h_5 H => ?_
  obtain ⟨t21_1, rfl, hL_5, H⟩ := H
  refine pop.mk' (v := (Value.agg #[(Sl.v t21_1), (VI 0)])) (fun w => by kernel_rfl) ?_
  refine eop_alloc 43 zer43 rfl hL_5 (fun b_4 h_6 hb_5 hf_5 hL_6 => ?_)
  refine uop_loc siz43 hL_6 0 rfl 0 [(Sl.v t21_1), (VI 0)] rfl rfl rfl (Nat.le_of_ble_eq_true rfl) (L' := [(b_4, [(Sl.v t21_1), (VI 0)]), (b_3, [(Sl.v nilSl), (VI 0)]), (b_2, [(Sl.v w1_1), (VI w1_2)]), (b_1, [(Sl.v g0_1)])]) rfl (fun h_7 hf_6 hL_7 => ?_)
  refine pop_field 0 fld43_0 b_2 0 ?_
  refine rop_loc one34 hL_7 2 rfl 0 (v := (Sl.v w1_1)) rfl ?_
  refine pop_field 1 fld43_1 b_2 0 ?_
  refine rop_loc one3 hL_7 2 rfl 1 (v := (VI w1_2)) rfl ?_
  obtain ⟨hi_2, H⟩ := H
  refine pop_index sli34 siz3 .i64 w1_1 w1_2 hi_2 ?_
  have H := H b_4 h_7 (Nat.le_trans (Fr.size (Fr.r (In []) _)) hb_5) (Fr.new (Fr.no' (Fr.r (In []) _) hf_5) (Nat.le_trans (Fr.size (Fr.r (In []) _)) hb_5) hf_6) hL_7
  obtain ⟨t28_1, hc_2, H⟩ := H
  refine rop_one one3 (VI t28_1) hc_2 ?_
  refine pop_add .i64 t28_1 1 ?_
  refine pop_len t14_1 _ _ sli34 ?_
  obtain ⟨hz_1, H⟩ := H
  refine pop_rem .i64 (w64 (t28_1 + 1)) (t14_1.n : Int) hz_1 ?_
  refine pop_field 0 fld43_0 b_4 0 ?_
  refine rop_loc one34 hL_7 0 rfl 0 (v := (Sl.v t21_1)) rfl ?_
  refine pop_field 1 fld43_1 b_2 0 ?_
  refine rop_loc one3 hL_7 2 rfl 1 (v := (VI w1_2)) rfl ?_
  obtain ⟨hi_3, H⟩ := H
  refine pop_index sli34 siz3 .i64 t21_1 w1_2 hi_3 ?_
  obtain ⟨hw_1, hL_8, H⟩ := H
  refine uop_cell (v := (VI (Int.tmod (w64 (t28_1 + 1)) (t14_1.n : Int)))) siz3 hw_1 rfl (fun h_8 he_1 => ?_)
  rw [← he_1] at hL_8
  have H := H h_8 he_1 hL_8
  obtain ⟨hi_4, H⟩ := H
  refine pop_index sli34 siz3 .i64 t14_1 (Int.tmod (w64 (t28_1 + 1)) (t14_1.n : Int)) hi_4 ?_
  obtain ⟨t42_1, hc_1, H⟩ := H
  refine rop_one one3 (VI t42_1) hc_1 ?_
  refine pop_field 1 fld43_1 b_4 0 ?_
  refine uop_loc siz3 hL_8 0 rfl 1 [(VI t42_1)] rfl rfl rfl (Nat.le_of_ble_eq_true rfl) (L' := [(b_4, [(Sl.v t21_1), (VI t42_1)]), (b_3, [(Sl.v nilSl), (VI 0)]), (b_2, [(Sl.v w1_1), (VI w1_2)]), (b_1, [(Sl.v g0_1)])]) rfl (fun h_9 hf_7 hL_9 => ?_)
  refine rop_locA agg43 hL_9 0 rfl 0 (vs := [(Sl.v t21_1), (VI t42_1)]) rfl rfl ?_
  refine uop_loc siz43 hL_9 1 rfl 0 [(Sl.v t21_1), (VI t42_1)] rfl rfl rfl (Nat.le_of_ble_eq_true rfl) (L' := [(b_4, [(Sl.v t21_1), (VI t42_1)]), (b_3, [(Sl.v t21_1), (VI t42_1)]), (b_2, [(Sl.v w1_1), (VI w1_2)]), (b_1, [(Sl.v g0_1)])]) rfl (fun h_10 hf_8 hL_10 => ?_)
  refine rop_locA agg43 hL_10 1 rfl 0 (vs := [(Sl.v t21_1), (VI t42_1)]) rfl rfl ?_
  have H := H  h_10  (Fr.old (Fr.old (Fr.r (In []) _) hf_7) hf_8) hL_10
  exact H

/-! impl.walkText -/
def u82 (P : Program) (w0_1 : Sl) (w0_2 : Int) (h : Heap) (K : Value → Heap → Prop) : Prop :=
  ∀ (b_1 : Nat) (h_1 : Heap), h.size ≤ b_1 → Fr (In []) h h_1 → Vars h_1 [(b_1, [(Sl.v w0_1), (VI w0_2)])] →
  callM P 96 #[(VI w0_2)] h_1 fun rv_1 h_2 => ∃ t5_1 : ByteArray, rv_1 = (VS t5_1) ∧ Vars h_2 [(b_1, [(Sl.v w0_1), (VI w0_2)])] ∧
  ByteArray.size t5_1 + ByteArray.size ({ data := #[58] }) ≤ 9223372036854775807 ∧
  callM P 58 #[(Sl.v w0_1)] h_2 fun rv_2 h_3 => ∃ t9_1 : ByteArray, rv_2 = (VS t9_1) ∧ Vars h_3 [(b_1, [(Sl.v w0_1), (VI w0_2)])] ∧
  ByteArray.size (t5_1 ++ ({ data := #[58] })) + ByteArray.size t9_1 ≤ 9223372036854775807 ∧
  K (VS ((t5_1 ++ ({ data := #[58] })) ++ t9_1)) h_3
theorem v82 (w0_1 : Sl) (w0_2 : Int) (h : Heap) (K : Value → Heap → Prop) (H : u82 Tryd.prog w0_1 w0_2 h K) : callM Tryd.prog 82 #[(Value.agg #[(Sl.v w0_1), (VI w0_2)])] h K := by
  refine c82 (Value.agg #[(Sl.v w0_1), (VI w0_2)]) h K ?_
  unfold u82 at H
  unfold t82
  have hL : Vars h [] := .nil
  refine eop_box 43 (Value.agg #[(Sl.v w0_1), (VI w0_2)]) rfl hL (fun b_1 h_1 hb_1 hf_1 hL_1 => ?_)
  refine pop_field 1 fld43_1 b_1 0 ?_
  refine rop_loc one3 hL_1 0 rfl 1 (v := (VI w0_2)) rfl ?_
  refine pop_field 0 fld43_0 b_1 0 ?_
  refine rop_loc one34 hL_1 0 rfl 0 (v := (Sl.v w0_1)) rfl ?_
  have H := H b_1 h_1 (Nat.le_trans (Fr.size (Fr.r (In []) _)) hb_1) (Fr.no' (Fr.r (In []) _) hf_1) hL_1
  refine H.mono fun rv_1 h_2 H => ?_
  obtain ⟨t5_1, rfl, hL_2, H⟩ := H
  refine ⟨?_, ?_⟩
  ·exact still_loc one34 hL_2 0 rfl 0 (v := (Sl.v w0_1)) rfl
  obtain ⟨hz_1, H⟩ := H
  refine pop_sadd t5_1 ({ data := #[58] }) hz_1 ?_
  refine H.mono fun rv_2 h_3 H => ?_
  obtain ⟨t9_1, rfl, hL_3, H⟩ := H
  obtain ⟨hz_2, H⟩ := H
  refine pop_sadd (t5_1 ++ ({ data := #[58] })) t9_1 hz_2 ?_
  exact H

/-! spec.grPlace -/
def u83 (P : Program) (g0_1 : Sl) (p1_1 : Int) (h : Heap) (K : Value → Heap → Prop) : Prop :=
  ∀ (b_1 : Nat) (h_1 : Heap), h.size ≤ b_1 → Fr (In []) h h_1 → Vars h_1 [(b_1, [(Sl.v g0_1)])] →
  callM P 106 #[(Value.agg #[(Sl.v g0_1)])] h_1 fun rv_1 h_2 => ∃ t6_1 : Bool, rv_1 = (VB t6_1) ∧ Vars h_2 [(b_1, [(Sl.v g0_1)])] ∧
  (t6_1 = true →
  callM P 51 #[(VI p1_1), (VI 0), (VI (w64 ((g0_1.n : Int) - 1)))] h_2 fun rv_2 h_3 => ∃ t13_1 : Bool, rv_2 = (VB t13_1) ∧ Vars h_3 [(b_1, [(Sl.v g0_1)])] ∧
  K (VB t13_1) h_3) ∧
  (t6_1 = false →
  K (VB false) h_2)
theorem v83 (g0_1 : Sl) (p1_1 : Int) (h : Heap) (K : Value → Heap → Prop) (H : u83 Tryd.prog g0_1 p1_1 h K) : callM Tryd.prog 83 #[(Value.agg #[(Sl.v g0_1)]), (VI p1_1)] h K := by
  refine c83 (Value.agg #[(Sl.v g0_1)]) (VI p1_1) h K ?_
  unfold u83 at H
  unfold t83
  have hL : Vars h [] := .nil
  refine eop_box 41 (Value.agg #[(Sl.v g0_1)]) rfl hL (fun b_1 h_1 hb_1 hf_1 hL_1 => ?_)
  refine rop_locA agg41 hL_1 0 rfl 0 (vs := [(Sl.v g0_1)]) rfl rfl ?_
  have H := H b_1 h_1 (Nat.le_trans (Fr.size (Fr.r (In []) _)) hb_1) (Fr.no' (Fr.r (In []) _) hf_1) hL_1
  refine H.mono fun rv_1 h_2 H => ?_
  obtain ⟨t6_1, rfl, hL_2, H⟩ := H
  refine guardM_st (fun hb_2 => ?_) (fun hb_2 => ?_)
  rotate_left
  ·have H := H.2 hb_2
   refine guardM_n' hb_2 (by decide) ?_
   refine guardM_n' hb_2 (by decide) ?_
   refine guardM_n' hb_2 (by decide) ?_
   refine guardM_n' hb_2 (by decide) ?_
   refine guardM_n' hb_2 (by decide) ?_
   refine pop_pickf' hb_2 ?_
   exact H
  have H := H.1 hb_2
  refine guardM_y' hb_2 ?_
  refine pop_field 0 fld41_0 b_1 0 ?_
  refine guardM_y' hb_2 ?_
  refine rop_loc one22 hL_2 0 rfl 0 (v := (Sl.v g0_1)) rfl ?_
  refine guardM_y' hb_2 ?_
  refine pop_len g0_1 _ _ sli22 ?_
  refine guardM_y' hb_2 ?_
  refine pop_sub .i64 (g0_1.n : Int) 1 ?_
  refine guardM_y' hb_2 ?_
  refine H.mono fun rv_2 h_3 H => ?_
  obtain ⟨t13_1, rfl, hL_3, H⟩ := H
  refine pop_pickt' hb_2 ?_
  exact H

/-! spec.grStrong -/
def u84 (P : Program) (g0_1 : Sl) (h : Heap) (K : Value → Heap → Prop) : Prop :=
  ∀ (b_1 : Nat) (h_1 : Heap), h.size ≤ b_1 → Fr (In []) h h_1 → Vars h_1 [(b_1, [(Sl.v g0_1)])] →
  ∃ J_1 : Nat → Int → Heap → Prop, (∃ n0 : Nat, J_1 n0 0 h_1) ∧
  ∀ (n_1 : Nat) (t7_1 : Int) (h_2 : Heap), J_1 n_1 t7_1 h_2 → Vars h_2 [(b_1, [(Sl.v g0_1)])] →
  ((decide (t7_1 < (g0_1.n : Int))) = true →
  callM P 107 #[(Value.agg #[(Sl.v g0_1)]), (VI t7_1)] h_2 fun rv_1 h_3 => ∃ t12_1 : Sl, rv_1 = (Sl.v t12_1) ∧ Vars h_3 [(b_1, [(Sl.v g0_1)])] ∧
  ((!decide ((t12_1.n : Int) = (g0_1.n : Int))) = true →
  K (VB false) h_3) ∧
  ((!decide ((t12_1.n : Int) = (g0_1.n : Int))) = false →
  ∃ m : Nat, m < n_1 ∧ J_1 m (w64 (t7_1 + 1)) h_3)) ∧
  ((decide (t7_1 < (g0_1.n : Int))) = false →
  K (VB true) h_2)
theorem v84 (g0_1 : Sl) (h : Heap) (K : Value → Heap → Prop) (H : u84 Tryd.prog g0_1 h K) : callM Tryd.prog 84 #[(Value.agg #[(Sl.v g0_1)])] h K := by
  refine c84 (Value.agg #[(Sl.v g0_1)]) h K ?_
  unfold u84 at H
  unfold t84
  have hL : Vars h [] := .nil
  refine eop_box 41 (Value.agg #[(Sl.v g0_1)]) rfl hL (fun b_1 h_1 hb_1 hf_1 hL_1 => ?_)
  refine pop_field 0 fld41_0 b_1 0 ?_
  refine rop_loc one22 hL_1 0 rfl 0 (v := (Sl.v g0_1)) rfl ?_
  refine pop_len g0_1 _ _ sli22 ?_
  have H := H b_1 h_1 (Nat.le_trans (Fr.size (Fr.r (In []) _)) hb_1) (Fr.no' (Fr.r (In []) _) hf_1) hL_1
  obtain ⟨J_1, ⟨n_2, h0_1⟩, HB_1⟩ := H
  refine loop_intro (J := fun (n : Nat) (vs : List Value) (h' : Heap) => ∃ t7_1 : Int, vs = [(VI t7_1)] ∧ J_1 n t7_1 h' ∧ Vars h' [(b_1, [(Sl.v g0_1)])]) n_2 ⟨0, rfl, h0_1, hL_1⟩ ?_
  intro I_1 mu_1 hI_1 junk_1 tv_1 h_2 hi_1
  obtain ⟨n_1, ⟨t7_1, hv, hJ_1, hL_2⟩, hn_1⟩ := hI_1 _ _ hi_1
  cases hv
  have H := HB_1 n_1 t7_1 h_2 hJ_1 hL_2
  refine pop_lss .i64 t7_1 (g0_1.n : Int) ?_
  refine condM_b (fun hb_2 => ?_) (fun hb_2 => ?_)
  rotate_left
  ·have H := H.2 hb_2
   exact H
  have H := H.1 hb_2
  refine rop_locA agg41 hL_2 0 rfl 0 (vs := [(Sl.v g0_1)]) rfl rfl ?_
  refine pop_field 0 fld41_0 b_1 0 ?_
  refine rop_loc one22 hL_2 0 rfl 0 (v := (Sl.v g0_1)) rfl ?_
  refine pop_len g0_1 _ _ sli22 ?_
  refine H.mono fun rv_1 h_3 H => ?_
  obtain ⟨t12_1, rfl, hL_3, H⟩ := H
  refine ⟨?_, ?_⟩
  ·exact still_loc one22 hL_3 0 rfl 0 (v := (Sl.v g0_1)) rfl
  refine pop_len t12_1 _ _ sli34 ?_
  refine pop_ine .i64 _ _ (t12_1.n : Int) (g0_1.n : Int) ?_
  refine condM_b (fun hb_3 => ?_) (fun hb_3 => ?_)
  ·have H := H.1 hb_3
   exact H
  have H := H.2 hb_3
  refine pop_add .i64 t7_1 1 ?_
  obtain ⟨m_1, hm_1, H⟩ := H
  exact hn_1 _ _ ⟨m_1, hm_1, (w64 (t7_1 + 1)), rfl, H, hL_3⟩

/-! spec.grBalanced -/
def u85 (P : Program) (g0_1 : Sl) (h : Heap) (K : Value → Heap → Prop) : Prop :=
  ∀ (b_1 : Nat) (h_1 : Heap), h.size ≤ b_1 → Fr (In []) h h_1 → Vars h_1 [(b_1, [(Sl.v g0_1)])] →
  ∃ J_1 : Nat → Int → Heap → Prop, (∃ n0 : Nat, J_1 n0 0 h_1) ∧
  ∀ (n_1 : Nat) (t8_1 : Int) (h_2 : Heap), J_1 n_1 t8_1 h_2 → Vars h_2 [(b_1, [(Sl.v g0_1)])] →
  ((decide (t8_1 < (g0_1.n : Int))) = true →
  InB g0_1 t8_1 ∧
  ∃ t12_1 : Sl, hcell h_2 (Sl.at g0_1 t8_1 1) = some (Sl.v t12_1) ∧
  callM P 108 #[(Value.agg #[(Sl.v g0_1)]), (VI t8_1)] h_2 fun rv_1 h_3 => ∃ t17_1 : Int, rv_1 = (VI t17_1) ∧ Vars h_3 [(b_1, [(Sl.v g0_1)])] ∧
  ((!decide ((t12_1.n : Int) = t17_1)) = true →
  K (VB false) h_3) ∧
  ((!decide ((t12_1.n : Int) = t17_1)) = false →
  ∃ m : Nat, m < n_1 ∧ J_1 m (w64 (t8_1 + 1)) h_3)) ∧
  ((decide (t8_1 < (g0_1.n : Int))) = false →
  K (VB true) h_2)
theorem v85 (g0_1 : Sl) (h : Heap) (K : Value → Heap → Prop) (H : u85 Tryd.prog g0_1 h K) : callM Tryd.prog 85 #[(Value.agg #[(Sl.v g0_1)])] h K := by
  refine c85 (Value.agg #[(Sl.v g0_1)]) h K ?_
  unfold u85 at H
  unfold t85
  have hL : Vars h [] := .nil
  refine eop_box 41 (Value.agg #[(Sl.v g0_1)]) rfl hL (fun b_1 h_1 hb_1 hf_1 hL_1 => ?_)
  refine pop_field 0 fld41_0 b_1 0 ?_
  refine rop_loc one22 hL_1 0 rfl 0 (v := (Sl.v g0_1)) rfl ?_
  refine pop_len g0_1 _ _ sli22 ?_
  have H := H b_1 h_1 (Nat.le_trans (Fr.size (Fr.r (In []) _)) hb_1) (Fr.no' (Fr.r (In []) _) hf_1) hL_1
  obtain ⟨J_1, ⟨n_2, h0_1⟩, HB_1⟩ := H
  refine loop_intro (J := fun (n : Nat) (vs : List Value) (h' : Heap) => ∃ t8_1 : Int, vs = [(VI t8_1)] ∧ J_1 n t8_1 h' ∧ Vars h' [(b_1, [(Sl.v g0_1)])]) n_2 ⟨0, rfl, h0_1, hL_1⟩ ?_
  intro I_1 mu_1 hI_1 junk_1 tv_1 h_2 hi_1
  obtain ⟨n_1, ⟨t8_1, hv, hJ_1, hL_2⟩, hn_1⟩ := hI_1 _ _ hi_1
  cases hv
  have H := HB_1 n_1 t8_1 h_2 hJ_1 hL_2
  refine pop_lss .i64 t8_1 (g0_1.n : Int) ?_
  refine condM_b (fun hb_2 => ?_) (fun hb_2 => ?_)
  rotate_left
  ·have H := H.2 hb_2
   exact H
  have H := H.1 hb_2
  obtain ⟨hi_2, H⟩ := H
  refine pop_index sli22 siz34 .i64 g0_1 t8_1 hi_2 ?_
  obtain ⟨t12_1, hc_1, H⟩ := H
  refine rop_one one34 (Sl.v t12_1) hc_1 ?_
  refine pop_len t12_1 _ _ sli34 ?_
  refine rop_locA agg41 hL_2 0 rfl 0 (vs := [(Sl.v g0_1)]) rfl rfl ?_
  refine H.mono fun rv_1 h_3 H => ?_
  obtain ⟨t17_1, rfl, hL_3, H⟩ := H
  refine pop_ine .i64 _ _ (t12_1.n : Int) t17_1 ?_
  refine condM_b (fun hb_3 => ?_) (fun hb_3 => ?_)
  ·have H := H.1 hb_3
   exact H
  have H := H.2 hb_3
  refine pop_add .i64 t8_1 1 ?_
  obtain ⟨m_1, hm_1, H⟩ := H
  exact hn_1 _ _ ⟨m_1, hm_1, (w64 (t8_1 + 1)), rfl, H, hL_3⟩

/-! spec.grCount -/
def u86 (P : Program) (g0_1 : Sl) (h : Heap) (K : Value → Heap → Prop) : Prop :=
  ∀ (b_1 : Nat) (h_1 : Heap), h.size ≤ b_1 → Fr (In []) h h_1 → Vars h_1 [(b_1, [(Sl.v g0_1)])] →
  ∃ J_1 : Nat → Int → Int → Heap → Prop, (∃ n0 : Nat, J_1 n0 0 0 h_1) ∧
  ∀ (n_1 : Nat) (n3_1 : Int) (t9_1 : Int) (h_2 : Heap), J_1 n_1 n3_1 t9_1 h_2 → Vars h_2 [(b_1, [(Sl.v g0_1)])] →
  ((decide (t9_1 < (g0_1.n : Int))) = true →
  InB g0_1 t9_1 ∧
  ∃ t12_1 : Sl, hcell h_2 (Sl.at g0_1 t9_1 1) = some (Sl.v t12_1) ∧
  ∃ m : Nat, m < n_1 ∧ J_1 m (w64 (n3_1 + (t12_1.n : Int))) (w64 (t9_1 + 1)) h_2) ∧
  ((decide (t9_1 < (g0_1.n : Int))) = false →
  K (VI n3_1) h_2)
theorem v86 (g0_1 : Sl) (h : Heap) (K : Value → Heap → Prop) (H : u86 Tryd.prog g0_1 h K) : callM Tryd.prog 86 #[(Value.agg #[(Sl.v g0_1)])] h K := by
  refine c86 (Value.agg #[(Sl.v g0_1)]) h K ?_
  unfold u86 at H
  unfold t86
  have hL : Vars h [] := .nil
  refine eop_box 41 (Value.agg #[(Sl.v g0_1)]) rfl hL (fun b_1 h_1 hb_1 hf_1 hL_1 => ?_)
  refine pop_field 0 fld41_0 b_1 0 ?_
  refine rop_loc one22 hL_1 0 rfl 0 (v := (Sl.v g0_1)) rfl ?_
  refine pop_len g0_1 _ _ sli22 ?_
  have H := H b_1 h_1 (Nat.le_trans (Fr.size (Fr.r (In []) _)) hb_1) (Fr.no' (Fr.r (In []) _) hf_1) hL_1
  obtain ⟨J_1, ⟨n_2, h0_1⟩, HB_1⟩ := H
  refine loop_intro (J := fun (n : Nat) (vs : List Value) (h' : Heap) => ∃ n3_1 : Int, ∃ t9_1 : Int, vs = [(VI n3_1), (VI t9_1)] ∧ J_1 n n3_1 t9_1 h' ∧ Vars h' [(b_1, [(Sl.v g0_1)])]) n_2 ⟨0, 0, rfl, h0_1, hL_1⟩ ?_
  intro I_1 mu_1 hI_1 junk_1 tv_1 tv_2 h_2 hi_1
  obtain ⟨n_1, ⟨n3_1, t9_1, hv, hJ_1, hL_2⟩, hn_1⟩ := hI_1 _ _ hi_1
  cases hv
  have H := HB_1 n_1 n3_1 t9_1 h_2 hJ_1 hL_2
  refine pop_lss .i64 t9_1 (g0_1.n : Int) ?_
  refine condM_b (fun hb_2 => ?_) (fun hb_2 => ?_)
  rotate_left
  ·have H := H.2 hb_2
   exact H
  have H := H.1 hb_2
  obtain ⟨hi_2, H⟩ := H
  refine pop_index sli22 siz34 .i64 g0_1 t9_1 hi_2 ?_
  obtain ⟨t12_1, hc_1, H⟩ := H
  refine rop_one one34 (Sl.v t12_1) hc_1 ?_
  refine pop_len t12_1 _ _ sli34 ?_
  refine pop_add .i64 n3_1 (t12_1.n : Int) ?_
  refine pop_add .i64 t9_1 1 ?_
  obtain ⟨m_1, hm_1, H⟩ := H
  exact hn_1 _ _ ⟨m_1, hm_1, (w64 (n3_1 + (t12_1.n : Int))), (w64 (t9_1 + 1)), rfl, H, hL_2⟩

/-! impl.has -/
def u87 (P : Program) (g0_1 : Sl) (places1_1 : Sl) (h : Heap) (K : Value → Heap → Prop) : Prop :=
  ∀ (b_1 : Nat) (h_1 : Heap), h.size ≤ b_1 → Fr (In []) h h_1 → Vars h_1 [(b_1, [(Sl.v g0_1)])] →
  callM P 109 #[(Value.agg #[(Sl.v g0_1)])] h_1 fun rv_1 h_2 => ∃ t6_1 : Bool, rv_1 = (VB t6_1) ∧ Vars h_2 [(b_1, [(Sl.v g0_1)])] ∧
  (t6_1 = true →
  callM P 56 #[(Sl.v places1_1), (Value.func (Fn.func 110) #[] #[(VP b_1 0)])] h_2 fun rv_2 h_3 => ∃ x_1 : Sl, ∃ t10_1 : Bool, rv_2 = (VB t10_1) ∧ Vars h_3 [(b_1, [(Sl.v x_1)])] ∧
  K (VB (!t10_1)) h_3) ∧
  (t6_1 = false →
  K (VB false) h_2)
theorem v87 (g0_1 : Sl) (places1_1 : Sl) (h : Heap) (K : Value → Heap → Prop) (H : u87 Tryd.prog g0_1 places1_1 h K) : callM Tryd.prog 87 #[(Value.agg #[(Sl.v g0_1)]), (Sl.v places1_1)] h K := by
  refine c87 (Value.agg #[(Sl.v g0_1)]) (Sl.v places1_1) h K ?_
  unfold u87 at H
  unfold t87
  have hL : Vars h [] := .nil
  refine eop_box 41 (Value.agg #[(Sl.v g0_1)]) rfl hL (fun b_1 h_1 hb_1 hf_1 hL_1 => ?_)
  refine rop_locA agg41 hL_1 0 rfl 0 (vs := [(Sl.v g0_1)]) rfl rfl ?_
  have H := H b_1 h_1 (Nat.le_trans (Fr.size (Fr.r (In []) _)) hb_1) (Fr.no' (Fr.r (In []) _) hf_1) hL_1
  refine H.mono fun rv_1 h_2 H => ?_
  obtain ⟨t6_1, rfl, hL_2, H⟩ := H
  refine guardM_st (fun hb_2 => ?_) (fun hb_2 => ?_)
  rotate_left
  ·have H := H.2 hb_2
   refine guardM_n' hb_2 (by decide) ?_
   refine guardM_n' hb_2 (by decide) ?_
   refine guardM_n' hb_2 (by decide) ?_
   refine pop_pickf' hb_2 ?_
   exact H
  have H := H.1 hb_2
  refine guardM_y' hb_2 ?_
  refine pop_func _ _ _ ?_
  refine guardM_y' hb_2 ?_
  refine H.mono fun rv_2 h_3 H => ?_
  obtain ⟨x_1, t10_1, rfl, hL_3, H⟩ := H
  refine guardM_y' hb_2 ?_
  refine pop_not t10_1 ?_
  refine pop_pickt' hb_2 ?_
  exact H

/-! (impl.Graph).isStrong -/
def u88 (P : Program) (g0_1 : Sl) (h : Heap) (K : Value → Heap → Prop) : Prop :=
  ∀ (b_1 : Nat) (h_1 : Heap), h.size ≤ b_1 → Fr (In []) h h_1 → Vars h_1 [(b_1, [(Sl.v g0_1)])] →
  ∃ J_1 : Nat → Int → Heap → Prop, (∃ n0 : Nat, J_1 n0 0 h_1) ∧
  ∀ (n_1 : Nat) (t7_1 : Int) (h_2 : Heap), J_1 n_1 t7_1 h_2 → Vars h_2 [(b_1, [(Sl.v g0_1)])] →
  ((decide (t7_1 < (g0_1.n : Int))) = true →
  callM P 111 #[(Value.agg #[(Sl.v g0_1)]), (VI t7_1)] h_2 fun rv_1 h_3 => ∃ t12_1 : Sl, rv_1 = (Sl.v t12_1) ∧ Vars h_3 [(b_1, [(Sl.v g0_1)])] ∧
  ((!decide ((t12_1.n : Int) = (g0_1.n : Int))) = true →
  K (VB false) h_3) ∧
  ((!decide ((t12_1.n : Int) = (g0_1.n : Int))) = false →
  ∃ m : Nat, m < n_1 ∧ J_1 m (w64 (t7_1 + 1)) h_3)) ∧
  ((decide (t7_1 < (g0_1.n : Int))) = false →
  K (VB true) h_2)
theorem v88 (g0_1 : Sl) (h : Heap) (K : Value → Heap → Prop) (H : u88 Tryd.prog g0_1 h K) : callM Tryd.prog 88 #[(Value.agg #[(Sl.v g0_1)])] h K := by
  refine c88 (Value.agg #[(Sl.v g0_1)]) h K ?_
  unfold u88 at H
  unfold t88
  have hL : Vars h [] := .nil
  refine eop_box 41 (Value.agg #[(Sl.v g0_1)]) rfl hL (fun b_1 h_1 hb_1 hf_1 hL_1 => ?_)
  refine pop_field 0 fld41_0 b_1 0 ?_
  refine rop_loc one22 hL_1 0 rfl 0 (v := (Sl.v g0_1)) rfl ?_
  refine pop_len g0_1 _ _ sli22 ?_
  have H := H b_1 h_1 (Nat.le_trans (Fr.size (Fr.r (In []) _)) hb_1) (Fr.no' (Fr.r (In []) _) hf_1) hL_1
  obtain ⟨J_1, ⟨n_2, h0_1⟩, HB_1⟩ := H
  refine loop_intro (J := fun (n : Nat) (vs : List Value) (h' : Heap) => ∃ t7_1 : Int, vs = [(VI t7_1)] ∧ J_1 n t7_1 h' ∧ Vars h' [(b_1, [(Sl.v g0_1)])]) n_2 ⟨0, rfl, h0_1, hL_1⟩ ?_
  intro I_1 mu_1 hI_1 junk_1 tv_1 h_2 hi_1
  obtain ⟨n_1, ⟨t7_1, hv, hJ_1, hL_2⟩, hn_1⟩ := hI_1 _ _ hi_1
  cases hv
  have H := HB_1 n_1 t7_1 h_2 hJ_1 hL_2
  refine pop_lss .i64 t7_1 (g0_1.n : Int) ?_
  refine condM_b (fun hb_2 => ?_) (fun hb_2 => ?_)
  rotate_left
  ·have H := H.2 hb_2
   exact H
  have H := H.1 hb_2
  refine rop_locA agg41 hL_2 0 rfl 0 (vs := [(Sl.v g0_1)]) rfl rfl ?_
  refine pop_field 0 fld41_0 b_1 0 ?_
  refine rop_loc one22 hL_2 0 rfl 0 (v := (Sl.v g0_1)) rfl ?_
  refine pop_len g0_1 _ _ sli22 ?_
  refine H.mono fun rv_1 h_3 H => ?_
  obtain ⟨t12_1, rfl, hL_3, H⟩ := H
  refine ⟨?_, ?_⟩
  ·exact still_loc one22 hL_3 0 rfl 0 (v := (Sl.v g0_1)) rfl
  refine pop_len t12_1 _ _ sli34 ?_
  refine pop_ine .i64 _ _ (t12_1.n : Int) (g0_1.n : Int) ?_
  refine condM_b (fun hb_3 => ?_) (fun hb_3 => ?_)
  ·have H := H.1 hb_3
   exact H
  have H := H.2 hb_3
  refine pop_add .i64 t7_1 1 ?_
  obtain ⟨m_1, hm_1, H⟩ := H
  exact hn_1 _ _ ⟨m_1, hm_1, (w64 (t7_1 + 1)), rfl, H, hL_3⟩

/-! (impl.Graph).isBalanced -/
def u89 (P : Program) (g0_1 : Sl) (h : Heap) (K : Value → Heap → Prop) : Prop :=
  ∀ (b_1 : Nat) (h_1 : Heap), h.size ≤ b_1 → Fr (In []) h h_1 → Vars h_1 [(b_1, [(Sl.v g0_1)])] →
  ∃ J_1 : Nat → Int → Heap → Prop, (∃ n0 : Nat, J_1 n0 0 h_1) ∧
  ∀ (n_1 : Nat) (t8_1 : Int) (h_2 : Heap), J_1 n_1 t8_1 h_2 → Vars h_2 [(b_1, [(Sl.v g0_1)])] →
  ((decide (t8_1 < (g0_1.n : Int))) = true →
  InB g0_1 t8_1 ∧
  ∃ t12_1 : Sl, hcell h_2 (Sl.at g0_1 t8_1 1) = some (Sl.v t12_1) ∧
  callM P 112 #[(Value.agg #[(Sl.v g0_1)]), (VI t8_1)] h_2 fun rv_1 h_3 => ∃ t17_1 : Int, rv_1 = (VI t17_1) ∧ Vars h_3 [(b_1, [(Sl.v g0_1)])] ∧
  ((!decide ((t12_1.n : Int) = t17_1)) = true →
  K (VB false) h_3) ∧
  ((!decide ((t12_1.n : Int) = t17_1)) = false →
  ∃ m : Nat, m < n_1 ∧ J_1 m (w64 (t8_1 + 1)) h_3)) ∧
  ((decide (t8_1 < (g0_1.n : Int))) = false →
  K (VB true) h_2)
theorem v89 (g0_1 : Sl) (h : Heap) (K : Value → Heap → Prop) (H : u89 Tryd.prog g0_1 h K) : callM Tryd.prog 89 #[(Value.agg #[(Sl.v g0_1)])] h K := by
  refine c89 (Value.agg #[(Sl.v g0_1)]) h K ?_
  unfold u89 at H
  unfold t89
  have hL : Vars h [] := .nil
  refine eop_box 41 (Value.agg #[(Sl.v g0_1)]) rfl hL (fun b_1 h_1 hb_1 hf_1 hL_1 => ?_)
  refine pop_field 0 fld41_0 b_1 0 ?_
  refine rop_loc one22 hL_1 0 rfl 0 (v := (Sl.v g0_1)) rfl ?_
  refine pop_len g0_1 _ _ sli22 ?_
  have H := H b_1 h_1 (Nat.le_trans (Fr.size (Fr.r (In []) _)) hb_1) (Fr.no' (Fr.r (In []) _) hf_1) hL_1
  obtain ⟨J_1, ⟨n_2, h0_1⟩, HB_1⟩ := H
  refine loop_intro (J := fun (n : Nat) (vs : List Value) (h' : Heap) => ∃ t8_1 : Int, vs = [(VI t8_1)] ∧ J_1 n t8_1 h' ∧ Vars h' [(b_1, [(Sl.v g0_1)])]) n_2 ⟨0, rfl, h0_1, hL_1⟩ ?_
  intro I_1 mu_1 hI_1 junk_1 tv_1 h_2 hi_1
  obtain ⟨n_1, ⟨t8_1, hv, hJ_1, hL_2⟩, hn_1⟩ := hI_1 _ _ hi_1
  cases hv
  have H := HB_1 n_1 t8_1 h_2 hJ_1 hL_2
  refine pop_lss .i64 t8_1 (g0_1.n : Int) ?_
  refine condM_b (fun hb_2 => ?_) (fun hb_2 => ?_)
  rotate_left
  ·have H := H.2 hb_2
   exact H
  have H := H.1 hb_2
  obtain ⟨hi_2, H⟩ := H
  refine pop_index sli22 siz34 .i64 g0_1 t8_1 hi_2 ?_
  obtain ⟨t12_1, hc_1, H⟩ := H
  refine rop_one one34 (Sl.v t12_1) hc_1 ?_
  refine pop_len t12_1 _ _ sli34 ?_
  refine rop_locA agg41 hL_2 0 rfl 0 (vs := [(Sl.v g0_1)]) rfl rfl ?_
  refine H.mono fun rv_1 h_3 H => ?_
  obtain ⟨t17_1, rfl, hL_3, H⟩ := H
  refine pop_ine .i64 _ _ (t12_1.n : Int) t17_1 ?_
  refine condM_b (fun hb_3 => ?_) (fun hb_3 => ?_)
  ·have H := H.1 hb_3
   exact H
  have H := H.2 hb_3
  refine pop_add .i64 t8_1 1 ?_
  obtain ⟨m_1, hm_1, H⟩ := H
  exact hn_1 _ _ ⟨m_1, hm_1, (w64 (t8_1 + 1)), rfl, H, hL_3⟩

/-! slices.Concat[[]int,int] -/
def u90 (P : Program) (slices0_1 : Sl) (h : Heap) (K : Value → Heap → Prop) : Prop :=
  ∃ J_1 : Nat → Int → Int → Heap → Prop, (∃ n0 : Nat, J_1 n0 0 0 h) ∧
  ∀ (n_1 : Nat) (size3_1 : Int) (t11_1 : Int) (h_1 : Heap), J_1 n_1 size3_1 t11_1 h_1 → Vars h_1 [] →
  ((decide (t11_1 < (slices0_1.n : Int))) = true →
  InB slices0_1 t11_1 ∧
  ∃ t14_1 : Sl, hcell h_1 (Sl.at slices0_1 t11_1 1) = some (Sl.v t14_1) ∧
  ((decide ((w64 (size3_1 + (t14_1.n : Int))) < 0)) = true →
  pop P (Instr.makeInterface 9 (Value.string { data := #[108, 101, 110, 32, 111, 117, 116, 32, 111, 102, 32, 114, 97, 110, 103, 101] })) fun rv_1 => ∃ t21_1 : Value, rv_1 = t21_1 ∧ 
  False) ∧
  ((decide ((w64 (size3_1 + (t14_1.n : Int))) < 0)) = false →
  ∃ m : Nat, m < n_1 ∧ J_1 m (w64 (size3_1 + (t14_1.n : Int))) (w64 (t11_1 + 1)) h_1)) ∧
  ((decide (t11_1 < (slices0_1.n : Int))) = false →
  callM P 113 #[(Sl.v nilSl), (VI size3_1)] h_1 fun rv_2 h_2 => ∃ t24_1 : Sl, rv_2 = (Sl.v t24_1) ∧ Vars h_2 [] ∧
  ∃ J_2 : Nat → Sl → Int → Heap → Prop, (∃ n0 : Nat, J_2 n0 t24_1 0 h_2) ∧
  ∀ (n_2 : Nat) (newslice6_1 : Sl) (t27_1 : Int) (h_3 : Heap), J_2 n_2 newslice6_1 t27_1 h_3 → Vars h_3 [] →
  ((decide (t27_1 < (slices0_1.n : Int))) = true →
  InB slices0_1 t27_1 ∧
  ∃ t30_1 : Sl, hcell h_3 (Sl.at slices0_1 t27_1 1) = some (Sl.v t30_1) ∧
  eop P (appS 34 34 34 (Sl.v newslice6_1) (Sl.v t30_1)) h_3 fun rv_3 h_4 => ∃ t33_1 : Sl, rv_3 = (Sl.v t33_1) ∧ Vars h_4 [] ∧
  ∃ m : Nat, m < n_2 ∧ J_2 m t33_1 (w64 (t27_1 + 1)) h_4) ∧
  ((decide (t27_1 < (slices0_1.n : Int))) = false →
  K (Sl.v newslice6_1) h_3))
theorem v90 (slices0_1 : Sl) (h : Heap) (K : Value → Heap → Prop) (H : u90 Tryd.prog slices0_1 h K) : callM Tryd.prog 90 #[(Sl.v slices0_1)] h K := by
  refine c90 (Sl.v slices0_1) h K ?_
  unfold u90 at H
  unfold t90
  have hL : Vars h [] := .nil
  refine pop_len slices0_1 _ _ sli22 ?_
  obtain ⟨J_1, ⟨n_4, h0_2⟩, HB_2⟩ := H
  refine loop_intro (J := fun (n : Nat) (vs : List Value) (h' : Heap) => ∃ size3_1 : Int, ∃ t11_1 : Int, vs = [(VI size3_1), (VI t11_1)] ∧ J_1 n size3_1 t11_1 h' ∧ Vars h' []) n_4 ⟨0, 0, rfl, h0_2, hL⟩ ?_
  intro I_2 mu_2 hI_2 junk_1 tv_3 tv_4 h_1 hi_1
  obtain ⟨n_1, ⟨size3_1, t11_1, hv, hJ_1, hL_1⟩, hn_1⟩ := hI_2 _ _ hi_1
  cases hv
  have H := HB_2 n_1 size3_1 t11_1 h_1 hJ_1 hL_1
  refine pop_lss .i64 t11_1 (slices0_1.n : Int) ?_
  refine condM_b (fun hb_1 => ?_) (fun hb_1 => ?_)
  ·have H := H.1 hb_1
   obtain ⟨hi_2, H⟩ := H
   refine pop_index sli22 siz34 .i64 slices0_1 t11_1 hi_2 ?_
   obtain ⟨t14_1, hc_1, H⟩ := H
   refine rop_one one34 (Sl.v t14_1) hc_1 ?_
   refine pop_len t14_1 _ _ sli34 ?_
   refine pop_add .i64 size3_1 (t14_1.n : Int) ?_
   refine pop_lss .i64 (w64 (size3_1 + (t14_1.n : Int))) 0 ?_
   refine condM_b (fun hb_2 => ?_) (fun hb_2 => ?_)
   ·have H := H.1 hb_2
    refine H.mono fun rv_1 H => ?_
    obtain ⟨t21_1, rfl, H⟩ := H
    exact H.elim
   have H := H.2 hb_2
   refine pop_add .i64 t11_1 1 ?_
   obtain ⟨m_1, hm_1, H⟩ := H
   exact hn_1 _ _ ⟨m_1, hm_1, (w64 (size3_1 + (t14_1.n : Int))), (w64 (t11_1 + 1)), rfl, H, hL_1⟩
  have H := H.2 hb_1
  refine H.mono fun rv_2 h_2 H => ?_
  obtain ⟨t24_1, rfl, hL_2, H⟩ := H
  refine pop_len slices0_1 _ _ sli22 ?_
  obtain ⟨J_2, ⟨n_3, h0_1⟩, HB_1⟩ := H
  refine loop_intro (J := fun (n : Nat) (vs : List Value) (h' : Heap) => ∃ newslice6_1 : Sl, ∃ t27_1 : Int, vs = [(Sl.v newslice6_1), (VI t27_1)] ∧ J_2 n newslice6_1 t27_1 h' ∧ Vars h' []) n_3 ⟨t24_1, 0, rfl, h0_1, hL_2⟩ ?_
  intro I_1 mu_1 hI_1 junk_2 tv_1 tv_2 h_3 hi_3
  obtain ⟨n_2, ⟨newslice6_1, t27_1, hv, hJ_2, hL_3⟩, hn_2⟩ := hI_1 _ _ hi_3
  cases hv
  have H := HB_1 n_2 newslice6_1 t27_1 h_3 hJ_2 hL_3
  refine pop_lss .i64 t27_1 (slices0_1.n : Int) ?_
  refine condM_b (fun hb_3 => ?_) (fun hb_3 => ?_)
  rotate_left
  ·have H := H.2 hb_3
   exact H
  have H := H.1 hb_3
  obtain ⟨hi_4, H⟩ := H
  refine pop_index sli22 siz34 .i64 slices0_1 t27_1 hi_4 ?_
  obtain ⟨t30_1, hc_2, H⟩ := H
  refine rop_one one34 (Sl.v t30_1) hc_2 ?_
  refine H.mono fun rv_3 h_4 H => ?_
  obtain ⟨t33_1, rfl, hL_4, H⟩ := H
  refine pop_add .i64 t27_1 1 ?_
  obtain ⟨m_2, hm_2, H⟩ := H
  exact hn_2 _ _ ⟨m_2, hm_2, t33_1, (w64 (t27_1 + 1)), rfl, H, hL_4⟩

/-! impl.EulerTour$1 -/
def u91 (P : Program) (t0_1 : Int) (h : Heap) (K : Value → Heap → Prop) : Prop :=
  K (Value.tuple #[]) h
theorem v91 (t0_1 : Int) (h : Heap) (K : Value → Heap → Prop) (H : u91 Tryd.prog t0_1 h K) : callM Tryd.prog 91 #[(VI t0_1)] h K := by
  refine c91 (VI t0_1) h K ?_
  unfold u91 at H
  unfold t91
  have hL : Vars h [] := .nil
  exact H

/-! (impl.Graph).step -/
def u92 (P : Program) (g0_1 : Sl) (b_1 : Nat) (w1_1 : Sl) (w1_2 : Int) (h : Heap) (K : Value → Heap → Prop) : Prop :=
  InB g0_1 w1_2 ∧
  ∀ (b_2 : Nat) (h_1 : Heap), h.size ≤ b_2 → Fr (In []) h h_1 → Vars h_1 [(b_2, [(Sl.v g0_1)]), (b_1, [(Sl.v w1_1), (VI w1_2)])] →
  ∃ t13_1 : Sl, hcell h_1 (Sl.at g0_1 w1_2 1) = some (Sl.v t13_1) ∧
  ((decide ((t13_1.n : Int) = 0)) = true →
  K (VB false) h_1) ∧
  ((decide ((t13_1.n : Int) = 0)) = false →
  InB w1_1 w1_2 ∧
  ∃ t34_1 : Int, hcell h_1 (Sl.at w1_1 w1_2 1) = some (VI t34_1) ∧
  (t13_1.n : Int) ≠ 0 ∧
  InB w1_1 w1_2 ∧
  Writable h_1 (Sl.at w1_1 w1_2 1) ∧ Vars (hset h_1 (Sl.at w1_1 w1_2 1) (VI (Int.tmod (w64 (t34_1 + 1)) (t13_1.n : Int)))) [(b_2, [(Sl.v g0_1)]), (b_1, [(Sl.v w1_1), (VI w1_2)])] ∧
  ∀ h_2 : Heap, h_2 = hset h_1 (Sl.at w1_1 w1_2 1) (VI (Int.tmod (w64 (t34_1 + 1)) (t13_1.n : Int))) → Vars h_2 [(b_2, [(Sl.v g0_1)]), (b_1, [(Sl.v w1_1), (VI w1_2)])] →
  InB w1_1 w1_2 ∧
  ∃ t51_1 : Int, hcell h_2 (Sl.at w1_1 w1_2 1) = some (VI t51_1) ∧
  InB t13_1 t51_1 ∧
  ∃ t53_1 : Int, hcell h_2 (Sl.at t13_1 t51_1 1) = some (VI t53_1) ∧
  ∀ (h_3 : Heap), Fr (In [b_1]) h_2 h_3 → Vars h_3 [(b_2, [(Sl.v g0_1)]), (b_1, [(Sl.v w1_1), (VI t53_1)])] →
  K (VB true) h_3)
theorem v92 (g0_1 : Sl) (b_1 : Nat) (w1_1 : Sl) (w1_2 : Int) (h : Heap) (K : Value → Heap → Prop) (hL : Vars h [(b_1, [(Sl.v w1_1), (VI w1_2)])]) (H : u92 Tryd.prog g0_1 b_1 w1_1 w1_2 h K) : callM Tryd.prog 92 #[(Value.agg #[(Sl.v g0_1)]), (VP b_1 0)] h K := by
  refine c92 (Value.agg #[(Sl.v g0_1)]) (VP b_1 0) h K ?_
  unfold u92 at H
  unfold t92
  refine eop_box 41 (Value.agg #[(Sl.v g0_1)]) rfl hL (fun b_2 h_1 hb_1 hf_1 hL_1 => ?_)
  refine pop_field 0 fld41_0 b_2 0 ?_
  refine rop_loc one22 hL_1 0 rfl 0 (v := (Sl.v g0_1)) rfl ?_
  refine pop_nil _ ?_
  refine pop_field 1 fld43_1 b_1 0 ?_
  refine rop_loc one3 hL_1 1 rfl 1 (v := (VI w1_2)) rfl ?_
  obtain ⟨hi_1, H⟩ := H
  refine pop_index sli22 siz34 .i64 g0_1 w1_2 hi_1 ?_
  have H := H b_2 h_1 (Nat.le_trans (Fr.size (Fr.r (In []) _)) hb_1) (Fr.no' (Fr.r (In []) _) hf_1) hL_1
  obtain ⟨t13_1, hc_4, H⟩ := H
  refine rop_one one34 (Sl.v t13_1) hc_4 ?_
  refine pop_len t13_1 _ _ sli34 ?_
  refine pop_ieq .i64 _ _ (t13_1.n : Int) 0 ?_
  refine condM_b (fun hb_2 => ?_) (fun hb_2 => ?_)
  ·have H := H.1 hb_2
   exact H
  have H := H.2 hb_2
  refine pop_nil _ ?_
  refine pop_field 0 fld43_0 b_1 0 ?_
  refine rop_loc one34 hL_1 1 rfl 0 (v := (Sl.v w1_1)) rfl ?_
  refine pop_nil _ ?_
  refine pop_field 1 fld43_1 b_1 0 ?_
  refine rop_loc one3 hL_1 1 rfl 1 (v := (VI w1_2)) rfl ?_
  refine pop_nil _ ?_
  refine pop_field 0 fld43_0 b_1 0 ?_
  refine rop_loc one34 hL_1 1 rfl 0 (v := (Sl.v w1_1)) rfl ?_
  refine pop_nil _ ?_
  refine pop_field 1 fld43_1 b_1 0 ?_
  refine rop_loc one3 hL_1 1 rfl 1 (v := (VI w1_2)) rfl ?_
  obtain ⟨hi_2, H⟩ := H
  refine pop_index sli34 siz3 .i64 w1_1 w1_2 hi_2 ?_
  obtain ⟨t34_1, hc_3, H⟩ := H
  refine rop_one one3 (VI t34_1) hc_3 ?_
  refine pop_add .i64 t34_1 1 ?_
  refine pop_len t13_1 _ _ sli34 ?_
  obtain ⟨hz_1, H⟩ := H
  refine pop_rem .i64 (w64 (t34_1 + 1)) (t13_1.n : Int) hz_1 ?_
  obtain ⟨hi_3, H⟩ := H
  refine pop_index sli34 siz3 .i64 w1_1 w1_2 hi_3 ?_
  obtain ⟨hw_1, hL_2, H⟩ := H
  refine uop_cell (v := (VI (Int.tmod (w64 (t34_1 + 1)) (t13_1.n : Int)))) siz3 hw_1 rfl (fun h_2 he_1 => ?_)
  rw [← he_1] at hL_2
  have H := H h_2 he_1 hL_2
  refine pop_nil _ ?_
  refine pop_field 0 fld43_0 b_1 0 ?_
  refine rop_loc one34 hL_2 1 rfl 0 (v := (Sl.v w1_1)) rfl ?_
  refine pop_nil _ ?_
  refine pop_field 1 fld43_1 b_1 0 ?_
  refine rop_loc one3 hL_2 1 rfl 1 (v := (VI w1_2)) rfl ?_
  obtain ⟨hi_4, H⟩ := H
  refine pop_index sli34 siz3 .i64 w1_1 w1_2 hi_4 ?_
  obtain ⟨t51_1, hc_2, H⟩ := H
  refine rop_one one3 (VI t51_1) hc_2 ?_
  obtain ⟨hi_5, H⟩ := H
  refine pop_index sli34 siz3 .i64 t13_1 t51_1 hi_5 ?_
  obtain ⟨t53_1, hc_1, H⟩ := H
  refine rop_one one3 (VI t53_1) hc_1 ?_
  refine pop_nil _ ?_
  refine pop_field 1 fld43_1 b_1 0 ?_
  refine uop_loc siz3 hL_2 1 rfl 1 [(VI t53_1)] rfl rfl rfl (Nat.le_of_ble_eq_true rfl) (L' := [(b_2, [(Sl.v g0_1)]), (b_1, [(Sl.v w1_1), (VI t53_1)])]) rfl (fun h_3 hf_2 hL_3 => ?_)
  have H := H  h_3  (Fr.old (Fr.r (In []) _) hf_2) hL_3
  exact H

/-! impl.EulerTour$2 -/
def u93 (P : Program) (t0_1 : Int) (b_1 : Nat) (t1_1 : Sl) (b_2 : Nat) (t2_1 : Sl) (t2_2 : Int) (h : Heap) (K : Value → Heap → Prop) : Prop :=
  eop P (Instr.buildSlice 34 1 #[(0, (VI t2_2))]) h fun rv_1 h_1 => ∃ t7_1 : Sl, rv_1 = (Sl.v t7_1) ∧ Vars h_1 [(b_1, [(Sl.v t1_1)]), (b_2, [(Sl.v t2_1), (VI t2_2)])] ∧
  eop P (appS 34 34 34 (Sl.v t1_1) (Sl.v t7_1)) h_1 fun rv_2 h_2 => ∃ t8_1 : Sl, rv_2 = (Sl.v t8_1) ∧ Vars h_2 [(b_1, [(Sl.v t1_1)]), (b_2, [(Sl.v t2_1), (VI t2_2)])] ∧
  ∀ (h_3 : Heap), Fr (In [b_1]) h_2 h_3 → Vars h_3 [(b_1, [(Sl.v t8_1)]), (b_2, [(Sl.v t2_1), (VI t2_2)])] →
  K (Value.tuple #[]) h_3
theorem v93 (t0_1 : Int) (b_1 : Nat) (t1_1 : Sl) (b_2 : Nat) (t2_1 : Sl) (t2_2 : Int) (h : Heap) (K : Value → Heap → Prop) (hL : Vars h [(b_1, [(Sl.v t1_1)]), (b_2, [(Sl.v t2_1), (VI t2_2)])]) (H : u93 Tryd.prog t0_1 b_1 t1_1 b_2 t2_1 t2_2 h K) : callM Tryd.prog 93 #[(VI t0_1), (VP b_1 0), (VP b_2 0)] h K := by
  refine c93 (VI t0_1) (VP b_1 0) (VP b_2 0) h K ?_
  unfold u93 at H
  unfold t93
  refine rop_loc one34 hL 0 rfl 0 (v := (Sl.v t1_1)) rfl ?_
  refine pop_field 1 fld43_1 b_2 0 ?_
  refine rop_loc one3 hL 1 rfl 1 (v := (VI t2_2)) rfl ?_
  refine H.mono fun rv_1 h_1 H => ?_
  obtain ⟨t7_1, rfl, hL_1, H⟩ := H
  refine H.mono fun rv_2 h_2 H => ?_
  obtain ⟨t8_1, rfl, hL_2, H⟩ := H
  refine uop_loc siz34 hL_2 0 rfl 0 [(Sl.v t8_1)] rfl rfl rfl (Nat.le_of_ble_eq_true rfl) (L' := [(b_1, [(Sl.v t8_1)]), (b_2, [(Sl.v t2_1), (VI t2_2)])]) rfl (fun h_3 hf_1 hL_3 => ?_)
  have H := H  h_3  (Fr.old (Fr.r (In []) _) hf_1) hL_3
  exact H

/-! laws.markIntSS -/
def u94 (P : Program) (a0_1 : Sl) (k1_1 : Int) (h : Heap) (K : Value → Heap → Prop) : Prop :=
  ∃ J_1 : Nat → Int → Int → Heap → Prop, (∃ n0 : Nat, J_1 n0 k1_1 0 h) ∧
  ∀ (n_1 : Nat) (k1_2 : Int) (i5_1 : Int) (h_1 : Heap), J_1 n_1 k1_2 i5_1 h_1 → Vars h_1 [] →
  ((decide (i5_1 < (a0_1.n : Int))) = true →
  InB a0_1 i5_1 ∧
  ∃ t15_1 : Sl, hcell h_1 (Sl.at a0_1 i5_1 1) = some (Sl.v t15_1) ∧
  callM P 48 #[(Sl.v t15_1), (VI k1_2)] h_1 fun rv_1 h_2 => ∃ t17_1 : Int, rv_1 = (VI t17_1) ∧ Vars h_2 [] ∧
  ∃ m : Nat, m < n_1 ∧ J_1 m t17_1 (w64 (i5_1 + 1)) h_2) ∧
  ((decide (i5_1 < (a0_1.n : Int))) = false →
  K (VI k1_2) h_1)
theorem v94 (a0_1 : Sl) (k1_1 : Int) (h : Heap) (K : Value → Heap → Prop) (H : u94 Tryd.prog a0_1 k1_1 h K) : callM Tryd.prog 94 #[(Sl.v a0_1), (VI k1_1)] h K := by
  refine c94 (Sl.v a0_1) (VI k1_1) h K ?_
  unfold u94 at H
  unfold t94
  have hL : Vars h [] := .nil
  obtain ⟨J_1, ⟨n_2, h0_1⟩, HB_1⟩ := H
  refine loop_intro (J := fun (n : Nat) (vs : List Value) (h' : Heap) => ∃ k1_2 : Int, ∃ i5_1 : Int, vs = [(VI k1_2), (VI i5_1)] ∧ J_1 n k1_2 i5_1 h' ∧ Vars h' []) n_2 ⟨k1_1, 0, rfl, h0_1, hL⟩ ?_
  intro I_1 mu_1 hI_1 junk_1 tv_1 tv_2 h_1 hi_1
  obtain ⟨n_1, ⟨k1_2, i5_1, hv, hJ_1, hL_1⟩, hn_1⟩ := hI_1 _ _ hi_1
  cases hv
  have H := HB_1 n_1 k1_2 i5_1 h_1 hJ_1 hL_1
  refine pop_len a0_1 _ _ sli22 ?_
  refine pop_lss .i64 i5_1 (a0_1.n : Int) ?_
  refine condM_b (fun hb_1 => ?_) (fun hb_1 => ?_)
  rotate_left
  ·have H := H.2 hb_1
   exact H
  have H := H.1 hb_1
  obtain ⟨hi_2, H⟩ := H
  refine pop_index sli22 siz34 .i64 a0_1 i5_1 hi_2 ?_
  obtain ⟨t15_1, hc_1, H⟩ := H
  refine rop_one one34 (Sl.v t15_1) hc_1 ?_
  refine H.mono fun rv_1 h_2 H => ?_
  obtain ⟨t17_1, rfl, hL_2, H⟩ := H
  refine pop_add .i64 i5_1 1 ?_
  obtain ⟨m_1, hm_1, H⟩ := H
  exact hn_1 _ _ ⟨m_1, hm_1, t17_1, (w64 (i5_1 + 1)), rfl, H, hL_2⟩

/-! slices.IndexFunc[[]int,int] -/
def u95 (P : Program) (s0_1 : Sl) (f1_1 : Value) (h : Heap) (K : Value → Heap → Prop) : Prop :=
  ∃ J_1 : Nat → Int → Heap → Prop, (∃ n0 : Nat, J_1 n0 0 h) ∧
  ∀ (n_1 : Nat) (t8_1 : Int) (h_1 : Heap), J_1 n_1 t8_1 h_1 → Vars h_1 [] →
  ((decide (t8_1 < (s0_1.n : Int))) = true →
  InB s0_1 t8_1 ∧
  ∃ t15_1 : Int, hcell h_1 (Sl.at s0_1 t8_1 1) = some (VI t15_1) ∧
  callV P f1_1 [(VI t15_1)] h_1 fun rv_1 h_2 => ∃ t16_1 : Bool, rv_1 = (VB t16_1) ∧ Vars h_2 [] ∧
  (t16_1 = true →
  K (VI t8_1) h_2) ∧
  (t16_1 = false →
  ∃ m : Nat, m < n_1 ∧ J_1 m (w64 (t8_1 + 1)) h_2)) ∧
  ((decide (t8_1 < (s0_1.n : Int))) = false →
  K (VI (-1)) h_1)
theorem v95 (s0_1 : Sl) (f1_1 : Value) (h : Heap) (K : Value → Heap → Prop) (H : u95 Tryd.prog s0_1 f1_1 h K) : callM Tryd.prog 95 #[(Sl.v s0_1), f1_1] h K := by
  refine c95 (Sl.v s0_1) f1_1 h K ?_
  unfold u95 at H
  unfold t95
  have hL : Vars h [] := .nil
  refine pop_len s0_1 _ _ sli34 ?_
  obtain ⟨J_1, ⟨n_2, h0_1⟩, HB_1⟩ := H
  refine loop_intro (J := fun (n : Nat) (vs : List Value) (h' : Heap) => ∃ t8_1 : Int, vs = [(VI t8_1)] ∧ J_1 n t8_1 h' ∧ Vars h' []) n_2 ⟨0, rfl, h0_1, hL⟩ ?_
  intro I_1 mu_1 hI_1 junk_1 tv_1 h_1 hi_1
  obtain ⟨n_1, ⟨t8_1, hv, hJ_1, hL_1⟩, hn_1⟩ := hI_1 _ _ hi_1
  cases hv
  have H := HB_1 n_1 t8_1 h_1 hJ_1 hL_1
  refine pop_lss .i64 t8_1 (s0_1.n : Int) ?_
  refine condM_b (fun hb_1 => ?_) (fun hb_1 => ?_)
  rotate_left
  ·have H := H.2 hb_1
   exact H
  have H := H.1 hb_1
  obtain ⟨hi_2, H⟩ := H
  refine pop_index sli34 siz3 .i64 s0_1 t8_1 hi_2 ?_
  obtain ⟨t15_1, hc_1, H⟩ := H
  refine rop_one one3 (VI t15_1) hc_1 ?_
  refine H.mono fun rv_1 h_2 H => ?_
  obtain ⟨t16_1, rfl, hL_2, H⟩ := H
  refine condM_b (fun hb_2 => ?_) (fun hb_2 => ?_)
  ·have H := H.1 hb_2
   exact H
  have H := H.2 hb_2
  refine pop_add .i64 t8_1 1 ?_
  obtain ⟨m_1, hm_1, H⟩ := H
  exact hn_1 _ _ ⟨m_1, hm_1, (w64 (t8_1 + 1)), rfl, H, hL_2⟩

/-! spec.waSame -/
def u101 (P : Program) (v0_1 : Sl) (v0_2 : Int) (w1_1 : Sl) (w1_2 : Int) (h : Heap) (K : Value → Heap → Prop) : Prop :=
  ((!decide (v0_2 = w1_2)) = true →
  ∀ (b_1 : Nat) (b_2 : Nat) (h_2 : Heap), h.size ≤ b_1 → h.size ≤ b_2 → Fr (In []) h h_2 → Vars h_2 [(b_2, [(Sl.v w1_1), (VI w1_2)]), (b_1, [(Sl.v v0_1), (VI v0_2)])] →
  K (VB false) h_2) ∧
  ((!decide (v0_2 = w1_2)) = false →
  ((!decide ((v0_1.n : Int) = (w1_1.n : Int))) = true →
  ∀ (b_1 : Nat) (b_2 : Nat) (h_2 : Heap), h.size ≤ b_1 → h.size ≤ b_2 → Fr (In []) h h_2 → Vars h_2 [(b_2, [(Sl.v w1_1), (VI w1_2)]), (b_1, [(Sl.v v0_1), (VI v0_2)])] →
  K (VB false) h_2) ∧
  ((!decide ((v0_1.n : Int) = (w1_1.n : Int))) = false →
  ∀ (b_1 : Nat) (b_2 : Nat) (h_2 : Heap), h.size ≤ b_1 → h.size ≤ b_2 → Fr (In []) h h_2 → Vars h_2 [(b_2, [(Sl.v w1_1), (VI w1_2)]), (b_1, [(Sl.v v0_1), (VI v0_2)])] →
  ∃ J_1 : Nat → Int → Heap → Prop, (∃ n0 : Nat, J_1 n0 0 h_2) ∧
  ∀ (n_1 : Nat) (t24_1 : Int) (h_3 : Heap), J_1 n_1 t24_1 h_3 → Vars h_3 [(b_2, [(Sl.v w1_1), (VI w1_2)]), (b_1, [(Sl.v v0_1), (VI v0_2)])] →
  ((decide (t24_1 < (v0_1.n : Int))) = true →
  InB v0_1 t24_1 ∧
  ∃ t28_1 : Int, hcell h_3 (Sl.at v0_1 t24_1 1) = some (VI t28_1) ∧
  InB w1_1 t24_1 ∧
  ∃ t34_1 : Int, hcell h_3 (Sl.at w1_1 t24_1 1) = some (VI t34_1) ∧
  ((!decide (t28_1 = t34_1)) = true →
  K (VB false) h_3) ∧
  ((!decide (t28_1 = t34_1)) = false →
  ∃ m : Nat, m < n_1 ∧ J_1 m (w64 (t24_1 + 1)) h_3)) ∧
  ((decide (t24_1 < (v0_1.n : Int))) = false →
  K (VB true) h_3)))
theorem v101 (v0_1 : Sl) (v0_2 : Int) (w1_1 : Sl) (w1_2 : Int) (h : Heap) (K : Value → Heap → Prop) (H : u101 Tryd.prog v0_1 v0_2 w1_1 w1_2 h K) : callM Tryd.prog 101 #[(Value.agg #[(Sl.v v0_1), (VI v0_2)]), (Value.agg #[(Sl.v w1_1), (VI w1_2)])] h K := by
  refine c101 (Value.agg #[(Sl.v v0_1), (VI v0_2)]) (Value.agg #[(Sl.v w1_1), (VI w1_2)]) h K ?_
  unfold u101 at H
  unfold t101
  have hL : Vars h [] := .nil
  refine eop_box 43 (Value.agg #[(Sl.v v0_1), (VI v0_2)]) rfl hL (fun b_1 h_1 hb_1 hf_1 hL_1 => ?_)
  refine eop_box 43 (Value.agg #[(Sl.v w1_1), (VI w1_2)]) rfl hL_1 (fun b_2 h_2 hb_2 hf_2 hL_2 => ?_)
  refine pop_field 1 fld43_1 b_1 0 ?_
  refine rop_loc one3 hL_2 1 rfl 1 (v := (VI v0_2)) rfl ?_
  refine pop_field 1 fld43_1 b_2 0 ?_
  refine rop_loc one3 hL_2 0 rfl 1 (v := (VI w1_2)) rfl ?_
  refine pop_ine .i64 _ _ v0_2 w1_2 ?_
  refine guardM_sf (fun hb_3 => ?_) (fun hb_3 => ?_)
  rotate_left
  ·have H := H.1 hb_3
   refine guardM_n' hb_3 (by decide) ?_
   refine guardM_n' hb_3 (by decide) ?_
   refine guardM_n' hb_3 (by decide) ?_
   refine guardM_n' hb_3 (by decide) ?_
   refine guardM_n' hb_3 (by decide) ?_
   refine guardM_n' hb_3 (by decide) ?_
   refine pop_pickt' hb_3 ?_
   refine condM_t ?_
   have H := H b_1 b_2 h_2 (Nat.le_trans (Fr.size (Fr.r (In []) _)) hb_1) (Nat.le_trans (Fr.size (Fr.no' (Fr.r (In []) _) hf_1)) hb_2) (Fr.no' (Fr.no' (Fr.r (In []) _) hf_1) hf_2) hL_2
   exact H
  have H := H.2 hb_3
  refine pop_field 0 fld43_0 b_1 0 ?_
  refine guardM_y' hb_3 ?_
  refine rop_loc one34 hL_2 1 rfl 0 (v := (Sl.v v0_1)) rfl ?_
  refine guardM_y' hb_3 ?_
  refine pop_len v0_1 _ _ sli34 ?_
  refine guardM_y' hb_3 ?_
  refine pop_field 0 fld43_0 b_2 0 ?_
  refine guardM_y' hb_3 ?_
  refine rop_loc one34 hL_2 0 rfl 0 (v := (Sl.v w1_1)) rfl ?_
  refine guardM_y' hb_3 ?_
  refine pop_len w1_1 _ _ sli34 ?_
  refine guardM_y' hb_3 ?_
  refine pop_ine .i64 _ _ (v0_1.n : Int) (w1_1.n : Int) ?_
  refine pop_pickf' hb_3 ?_
  refine condM_b (fun hb_4 => ?_) (fun hb_4 => ?_)
  ·have H := H.1 hb_4
   have H := H b_1 b_2 h_2 (Nat.le_trans (Fr.size (Fr.r (In []) _)) hb_1) (Nat.le_trans (Fr.size (Fr.no' (Fr.r (In []) _) hf_1)) hb_2) (Fr.no' (Fr.no' (Fr.r (In []) _) hf_1) hf_2) hL_2
   exact H
  have H := H.2 hb_4
  refine pop_field 0 fld43_0 b_1 0 ?_
  refine rop_loc one34 hL_2 1 rfl 0 (v := (Sl.v v0_1)) rfl ?_
  refine pop_len v0_1 _ _ sli34 ?_
  have H := H b_1 b_2 h_2 (Nat.le_trans (Fr.size (Fr.r (In []) _)) hb_1) (Nat.le_trans (Fr.size (Fr.no' (Fr.r (In []) _) hf_1)) hb_2) (Fr.no' (Fr.no' (Fr.r (In []) _) hf_1) hf_2) hL_2
  obtain ⟨J_1, ⟨n_2, h0_1⟩, HB_1⟩ := H
  refine loop_intro (J := fun (n : Nat) (vs : List Value) (h' : Heap) => ∃ t24_1 : Int, vs = [(VI t24_1)] ∧ J_1 n t24_1 h' ∧ Vars h' [(b_2, [(Sl.v w1_1), (VI w1_2)]), (b_1, [(Sl.v v0_1), (VI v0_2)])]) n_2 ⟨0, rfl, h0_1, hL_2⟩ ?_
  intro I_1 mu_1 hI_1 junk_1 tv_1 h_3 hi_1
  obtain ⟨n_1, ⟨t24_1, hv, hJ_1, hL_3⟩, hn_1⟩ := hI_1 _ _ hi_1
  cases hv
  have H := HB_1 n_1 t24_1 h_3 hJ_1 hL_3
  refine pop_lss .i64 t24_1 (v0_1.n : Int) ?_
  refine condM_b (fun hb_5 => ?_) (fun hb_5 => ?_)
  rotate_left
  ·have H := H.2 hb_5
   exact H
  have H := H.1 hb_5
  obtain ⟨hi_2, H⟩ := H
  refine pop_index sli34 siz3 .i64 v0_1 t24_1 hi_2 ?_
  obtain ⟨t28_1, hc_2, H⟩ := H
  refine rop_one one3 (VI t28_1) hc_2 ?_
  refine pop_field 0 fld43_0 b_2 0 ?_
  refine rop_loc one34 hL_3 0 rfl 0 (v := (Sl.v w1_1)) rfl ?_
  obtain ⟨hi_3, H⟩ := H
  refine pop_index sli34 siz3 .i64 w1_1 t24_1 hi_3 ?_
  obtain ⟨t34_1, hc_1, H⟩ := H
  refine rop_one one3 (VI t34_1) hc_1 ?_
  refine pop_ine .i64 _ _ t28_1 t34_1 ?_
  refine condM_b (fun hb_6 => ?_) (fun hb_6 => ?_)
  ·have H := H.1 hb_6
   exact H
  have H := H.2 hb_6
  refine pop_add .i64 t24_1 1 ?_
  obtain ⟨m_1, hm_1, H⟩ := H
  exact hn_1 _ _ ⟨m_1, hm_1, (w64 (t24_1 + 1)), rfl, H, hL_3⟩

/-! spec.waAgain -/
def u102 (P : Program) (g0_1 : Sl) (w1_1 : Sl) (w1_2 : Int) (most2_1 : Int) (h : Heap) (K : Value → Heap → Prop) : Prop :=
  ∀ (b_1 : Nat) (b_2 : Nat) (b_3 : Nat) (h_4 : Heap), h.size ≤ b_1 → h.size ≤ b_2 → h.size ≤ b_3 → Fr (In []) h h_4 → Vars h_4 [(b_3, [(Sl.v w1_1), (VI w1_2)]), (b_2, [(Sl.v w1_1), (VI w1_2)]), (b_1, [(Sl.v g0_1)])] →
  ∃ J_1 : Nat → Int → Sl → Int → Heap → Prop, (∃ n0 : Nat, J_1 n0 1 w1_1 w1_2 h_4) ∧
  ∀ (n_1 : Nat) (n8_1 : Int) (x_1 : Sl) (x_2 : Int) (h_5 : Heap), J_1 n_1 n8_1 x_1 x_2 h_5 → Vars h_5 [(b_3, [(Sl.v x_1), (VI x_2)]), (b_2, [(Sl.v w1_1), (VI w1_2)]), (b_1, [(Sl.v g0_1)])] →
  ((decide (n8_1 ≤ most2_1)) = true →
  callM P 80 #[(Value.agg #[(Sl.v g0_1)]), (Value.agg #[(Sl.v x_1), (VI x_2)])] h_5 fun rv_1 h_6 => ∃ t20_1 : Sl, ∃ t20_2 : Int, ∃ t20_3 : Bool, rv_1 = (Value.tuple #[(Value.agg #[(Sl.v t20_1), (VI t20_2)]), (VB t20_3)]) ∧ Vars h_6 [(b_3, [(Sl.v x_1), (VI x_2)]), (b_2, [(Sl.v w1_1), (VI w1_2)]), (b_1, [(Sl.v g0_1)])] ∧
  ((!t20_3) = true →
  ∀ (b_4 : Nat) (h_8 : Heap), h_6.size ≤ b_4 → Fr (In []) h_6 h_8 → Vars h_8 [(b_4, [(Sl.v t20_1), (VI t20_2)]), (b_3, [(Sl.v x_1), (VI x_2)]), (b_2, [(Sl.v w1_1), (VI w1_2)]), (b_1, [(Sl.v g0_1)])] →
  K (VI 0) h_8) ∧
  ((!t20_3) = false →
  ∀ (b_4 : Nat) (h_9 : Heap), h_6.size ≤ b_4 → Fr (In [b_3]) h_6 h_9 → Vars h_9 [(b_4, [(Sl.v t20_1), (VI t20_2)]), (b_3, [(Sl.v t20_1), (VI t20_2)]), (b_2, [(Sl.v w1_1), (VI w1_2)]), (b_1, [(Sl.v g0_1)])] →
  callM P 101 #[(Value.agg #[(Sl.v t20_1), (VI t20_2)]), (Value.agg #[(Sl.v w1_1), (VI w1_2)])] h_9 fun rv_2 h_10 => ∃ t28_1 : Bool, rv_2 = (VB t28_1) ∧ Vars h_10 [(b_4, [(Sl.v t20_1), (VI t20_2)]), (b_3, [(Sl.v t20_1), (VI t20_2)]), (b_2, [(Sl.v w1_1), (VI w1_2)]), (b_1, [(Sl.v g0_1)])] ∧
  (t28_1 = true →
  K (VI n8_1) h_10) ∧
  (t28_1 = false →
  ∃ m : Nat, m < n_1 ∧ J_1 m (w64 (n8_1 + 1)) t20_1 t20_2 h_10))) ∧
  ((decide (n8_1 ≤ most2_1)) = false →
  K (VI 0) h_5)
end Go.Proofs.YtkjkfjkapbpgiaaDoor
