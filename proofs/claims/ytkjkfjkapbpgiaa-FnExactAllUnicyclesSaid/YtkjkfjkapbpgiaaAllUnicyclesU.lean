/-
  The same over typed data. Written by a program.
-/
import Derived.Test.YtkjkfjkapbpgiaaAllUnicyclesT
import Derived.Test.YtkjkfjkapbpgiaaM2
set_option linter.unusedVariables false
set_option linter.unusedSimpArgs false
set_option maxRecDepth 100000
set_option maxHeartbeats 16000000
namespace Go.Proofs.Ytkjkfjkapbpgiaa
open Go Go.Mx
theorem agg101 : aggC Try.prog 101 = some 2 := by kernel_rfl
theorem agg24 : aggC Try.prog 24 = some 1 := by kernel_rfl
theorem agg32 : aggC Try.prog 32 = some 1 := by kernel_rfl
theorem boo4 : Try.prog.underlying 4 = some .bool := by kernel_rfl
theorem fld101_0 : fieldC Try.prog 101 0 = some 0 := by kernel_rfl
theorem fld101_1 : fieldC Try.prog 101 1 = some 1 := by kernel_rfl
theorem fld123_0 : fieldC Try.prog 123 0 = some 0 := by kernel_rfl
theorem fld123_1 : fieldC Try.prog 123 1 = some 1 := by kernel_rfl
theorem fld123_2 : fieldC Try.prog 123 2 = some 2 := by kernel_rfl
theorem fld123_3 : fieldC Try.prog 123 3 = some 3 := by kernel_rfl
theorem fld123_4 : fieldC Try.prog 123 4 = some 4 := by kernel_rfl
theorem fld24_0 : fieldC Try.prog 24 0 = some 0 := by kernel_rfl
theorem fld32_0 : fieldC Try.prog 32 0 = some 0 := by kernel_rfl
theorem one22 : oneC Try.prog 22 = true := by kernel_rfl
theorem one27 : oneC Try.prog 27 = true := by kernel_rfl
theorem one3 : oneC Try.prog 3 = true := by kernel_rfl
theorem one67 : oneC Try.prog 67 = true := by kernel_rfl
theorem siz101 : sizeC Try.prog 101 = some 2 := by kernel_rfl
theorem siz22 : sizeC Try.prog 22 = some 1 := by kernel_rfl
theorem siz27 : sizeC Try.prog 27 = some 1 := by kernel_rfl
theorem siz3 : sizeC Try.prog 3 = some 1 := by kernel_rfl
theorem siz32 : sizeC Try.prog 32 = some 1 := by kernel_rfl
theorem siz67 : sizeC Try.prog 67 = some 1 := by kernel_rfl
theorem sli22 : Try.prog.underlying 22 = some (.slice 27) := by kernel_rfl
theorem sli27 : Try.prog.underlying 27 = some (.slice 3) := by kernel_rfl
theorem sli67 : Try.prog.underlying 67 = some (.slice 101) := by kernel_rfl
theorem zer101 : zeroC Try.prog 101 = some (Value.agg #[(Sl.v nilSl), (VI 0)]) := by kernel_rfl
theorem zer3 : zeroC Try.prog 3 = some (VI 0) := by kernel_rfl
theorem zer32 : zeroC Try.prog 32 = some (Value.agg #[(Sl.v nilSl)]) := by kernel_rfl
theorem zer67 : zeroC Try.prog 67 = some (Sl.v nilSl) := by kernel_rfl
/-! laws.FnExactAllUnicycles -/
def u6 (P : Program) (aG0_1 : Sl) (aP1_1 : Int) (h : Heap) (K : Value → Heap → Prop) : Prop :=
  ∀ (b_1 : Nat) (h_1 : Heap), h.size ≤ b_1 → Fr (In []) h h_1 → Vars h_1 [(b_1, [(Sl.v aG0_1)])] →
  callM P 7 #[(Value.agg #[(Sl.v aG0_1)]), (VI 1048576)] h_1 fun rv_1 h_2 => ∃ t18_1 : Int, rv_1 = (VI t18_1) ∧ Vars h_2 [(b_1, [(Sl.v aG0_1)])] ∧
  ((decide (t18_1 < 0)) = true →
  K (VB true) h_2) ∧
  ((decide (t18_1 < 0)) = false →
  callM P 10 #[(Value.agg #[(Sl.v aG0_1)])] h_2 fun rv_2 h_3 => ∃ t23_1 : Sl, rv_2 = (Value.agg #[(Sl.v t23_1)]) ∧ Vars h_3 [(b_1, [(Sl.v aG0_1)])] ∧
  callM P 45 #[(Value.agg #[(Sl.v t23_1)]), (VI aP1_1)] h_3 fun rv_3 h_4 => ∃ t25_1 : Sl, ∃ t25_2 : Bool, rv_3 = (Value.tuple #[(Sl.v t25_1), (VB t25_2)]) ∧ Vars h_4 [(b_1, [(Sl.v aG0_1)])] ∧
  callM P 10 #[(Value.agg #[(Sl.v aG0_1)])] h_4 fun rv_4 h_5 => ∃ t29_1 : Sl, rv_4 = (Value.agg #[(Sl.v t29_1)]) ∧ Vars h_5 [(b_1, [(Sl.v aG0_1)])] ∧
  ∀ (b_2 : Nat) (h_7 : Heap), h_5.size ≤ b_2 → Fr (In []) h_5 h_7 → Vars h_7 [(b_2, [(Sl.v t29_1)]), (b_1, [(Sl.v aG0_1)])] →
  callM P 46 #[(Value.agg #[(Sl.v t29_1)]), (VI aP1_1)] h_7 fun rv_5 h_8 => ∃ t33_1 : Sl, ∃ t33_2 : Bool, rv_5 = (Value.tuple #[(Sl.v t33_1), (VB t33_2)]) ∧ Vars h_8 [(b_2, [(Sl.v t29_1)]), (b_1, [(Sl.v aG0_1)])] ∧
  callM P 47 #[(Sl.v t33_1), (Sl.v t25_1)] h_8 fun rv_6 h_9 => ∃ t38_1 : Bool, rv_6 = (VB t38_1) ∧ Vars h_9 [(b_2, [(Sl.v t29_1)]), (b_1, [(Sl.v aG0_1)])] ∧
  ((!t38_1) = true →
  K (VB false) h_9) ∧
  ((!t38_1) = false →
  ((!(t33_2 == t25_2)) = true →
  K (VB false) h_9) ∧
  ((!(t33_2 == t25_2)) = false →
  callM P 10 #[(Value.agg #[(Sl.v aG0_1)])] h_9 fun rv_7 h_10 => ∃ t47_1 : Sl, rv_7 = (Value.agg #[(Sl.v t47_1)]) ∧ Vars h_10 [(b_2, [(Sl.v t29_1)]), (b_1, [(Sl.v aG0_1)])] ∧
  callM P 15 #[(Value.agg #[(Sl.v t29_1)]), (Value.agg #[(Sl.v t47_1)])] h_10 fun rv_8 h_11 => ∃ t48_1 : Bool, rv_8 = (VB t48_1) ∧ Vars h_11 [(b_2, [(Sl.v t29_1)]), (b_1, [(Sl.v aG0_1)])] ∧
  ((!t48_1) = true →
  K (VB false) h_11) ∧
  ((!t48_1) = false →
  callM P 17 #[(Value.agg #[(Sl.v t29_1)]), (VI 1)] h_11 fun rv_9 h_12 => ∃ t52_1 : Int, rv_9 = (VI t52_1) ∧ Vars h_12 [(b_2, [(Sl.v t29_1)]), (b_1, [(Sl.v aG0_1)])] ∧
  ((decide (t52_1 < 0)) = true →
  K (VB false) h_12) ∧
  ((decide (t52_1 < 0)) = false →
  callM P 47 #[(Sl.v t33_1), (Sl.v t25_1)] h_12 fun rv_10 h_13 => ∃ t58_1 : Bool, rv_10 = (VB t58_1) ∧ Vars h_13 [(b_2, [(Sl.v t29_1)]), (b_1, [(Sl.v aG0_1)])] ∧
  ((!t58_1) = true →
  K (VB false) h_13) ∧
  ((!t58_1) = false →
  callM P 48 #[(Sl.v t33_1), (VI 1)] h_13 fun rv_11 h_14 => ∃ t68_1 : Int, rv_11 = (VI t68_1) ∧ Vars h_14 [(b_2, [(Sl.v t29_1)]), (b_1, [(Sl.v aG0_1)])] ∧
  callM P 49 #[(Sl.v t33_1), (VI 1)] h_14 fun rv_12 h_15 => ∃ t71_1 : Int, rv_12 = (VI t71_1) ∧ Vars h_15 [(b_2, [(Sl.v t29_1)]), (b_1, [(Sl.v aG0_1)])] ∧
  ((decide (t71_1 < 0)) = true →
  K (VB false) h_15) ∧
  ((decide (t71_1 < 0)) = false →
  ((!decide (t71_1 = t68_1)) = true →
  K (VB false) h_15) ∧
  ((!decide (t71_1 = t68_1)) = false →
  callM P 10 #[(Value.agg #[(Sl.v aG0_1)])] h_15 fun rv_13 h_16 => ∃ t79_1 : Sl, rv_13 = (Value.agg #[(Sl.v t79_1)]) ∧ Vars h_16 [(b_2, [(Sl.v t29_1)]), (b_1, [(Sl.v aG0_1)])] ∧
  callM P 46 #[(Value.agg #[(Sl.v t79_1)]), (VI aP1_1)] h_16 fun rv_14 h_17 => ∃ t81_1 : Sl, ∃ t81_2 : Bool, rv_14 = (Value.tuple #[(Sl.v t81_1), (VB t81_2)]) ∧ Vars h_17 [(b_2, [(Sl.v t29_1)]), (b_1, [(Sl.v aG0_1)])] ∧
  callM P 47 #[(Sl.v t81_1), (Sl.v t25_1)] h_17 fun rv_15 h_18 => ∃ t86_1 : Bool, rv_15 = (VB t86_1) ∧ Vars h_18 [(b_2, [(Sl.v t29_1)]), (b_1, [(Sl.v aG0_1)])] ∧
  ((!t86_1) = true →
  K (VB false) h_18) ∧
  ((!t86_1) = false →
  ((!(t81_2 == t25_2)) = true →
  K (VB false) h_18) ∧
  ((!(t81_2 == t25_2)) = false →
  callM P 49 #[(Sl.v t33_1), (VI 1)] h_18 fun rv_16 h_19 => ∃ t95_1 : Int, rv_16 = (VI t95_1) ∧ Vars h_19 [(b_2, [(Sl.v t29_1)]), (b_1, [(Sl.v aG0_1)])] ∧
  ((decide (t95_1 < 0)) = true →
  K (VB false) h_19) ∧
  ((decide (t95_1 < 0)) = false →
  ((!decide (t95_1 = t68_1)) = true →
  K (VB false) h_19) ∧
  ((!decide (t95_1 = t68_1)) = false →
  K (VB true) h_19))))))))))))
theorem v6 (aG0_1 : Sl) (aP1_1 : Int) (h : Heap) (K : Value → Heap → Prop) (H : u6 Try.prog aG0_1 aP1_1 h K) : callM Try.prog 6 #[(Value.agg #[(Sl.v aG0_1)]), (VI aP1_1)] h K := by
  refine c6 (Value.agg #[(Sl.v aG0_1)]) (VI aP1_1) h K ?_
  unfold u6 at H
  unfold t6
  have hL : Vars h [] := .nil
  refine eop_box 24 (Value.agg #[(Sl.v aG0_1)]) rfl hL (fun b_1 h_1 hb_1 hf_1 hL_1 => ?_)
  refine rop_locA agg24 hL_1 0 rfl 0 (vs := [(Sl.v aG0_1)]) rfl rfl ?_
  have H := H b_1 h_1 (Nat.le_trans (Fr.size (Fr.r (In []) _)) hb_1) (Fr.no' (Fr.r (In []) _) hf_1) hL_1
  refine H.mono fun rv_1 h_2 H => ?_
  obtain ⟨t18_1, rfl, hL_2, H⟩ := H
  refine pop_lss .i64 t18_1 0 ?_
  refine condM_b (fun hb_2 => ?_) (fun hb_2 => ?_)
  ·have H := H.1 hb_2
   exact H
  have H := H.2 hb_2
  refine rop_locA agg24 hL_2 0 rfl 0 (vs := [(Sl.v aG0_1)]) rfl rfl ?_
  refine H.mono fun rv_2 h_3 H => ?_
  obtain ⟨t23_1, rfl, hL_3, H⟩ := H
  refine H.mono fun rv_3 h_4 H => ?_
  obtain ⟨t25_1, t25_2, rfl, hL_4, H⟩ := H
  refine pop_ext (v := (Sl.v t25_1)) rfl ?_
  refine pop_ext (v := (VB t25_2)) rfl ?_
  refine rop_locA agg24 hL_4 0 rfl 0 (vs := [(Sl.v aG0_1)]) rfl rfl ?_
  refine H.mono fun rv_4 h_5 H => ?_
  obtain ⟨t29_1, rfl, hL_5, H⟩ := H
  refine eop_alloc 32 zer32 rfl hL_5 (fun b_2 h_6 hb_3 hf_2 hL_6 => ?_)
  refine uop_loc siz32 hL_6 0 rfl 0 [(Sl.v t29_1)] rfl rfl rfl (Nat.le_of_ble_eq_true rfl) (L' := [(b_2, [(Sl.v t29_1)]), (b_1, [(Sl.v aG0_1)])]) rfl (fun h_7 hf_3 hL_7 => ?_)
  refine rop_locA agg32 hL_7 0 rfl 0 (vs := [(Sl.v t29_1)]) rfl rfl ?_
  have H := H b_2 h_7 (Nat.le_trans (Fr.size (Fr.r (In []) _)) hb_3) (Fr.new (Fr.no' (Fr.r (In []) _) hf_2) (Nat.le_trans (Fr.size (Fr.r (In []) _)) hb_3) hf_3) hL_7
  refine H.mono fun rv_5 h_8 H => ?_
  obtain ⟨t33_1, t33_2, rfl, hL_8, H⟩ := H
  refine pop_ext (v := (Sl.v t33_1)) rfl ?_
  refine pop_ext (v := (VB t33_2)) rfl ?_
  refine H.mono fun rv_6 h_9 H => ?_
  obtain ⟨t38_1, rfl, hL_9, H⟩ := H
  refine pop_not t38_1 ?_
  refine guardM_sf (fun hb_4 => ?_) (fun hb_4 => ?_)
  rotate_left
  ·have H := H.1 hb_4
   refine guardM_n' hb_4 (by decide) ?_
   refine guardM_n' hb_4 (by decide) ?_
   refine pop_pickt' hb_4 ?_
   refine condM_t ?_
   exact H
  have H := H.2 hb_4
  refine guardM_y' hb_4 ?_
  refine guardM_y' hb_4 ?_
  refine pop_bne boo4 _ _ t33_2 t25_2 ?_
  refine pop_pickf' hb_4 ?_
  refine condM_b (fun hb_5 => ?_) (fun hb_5 => ?_)
  ·have H := H.1 hb_5
   exact H
  have H := H.2 hb_5
  refine rop_locA agg32 hL_9 0 rfl 0 (vs := [(Sl.v t29_1)]) rfl rfl ?_
  refine rop_locA agg24 hL_9 1 rfl 0 (vs := [(Sl.v aG0_1)]) rfl rfl ?_
  refine H.mono fun rv_7 h_10 H => ?_
  obtain ⟨t47_1, rfl, hL_10, H⟩ := H
  refine ⟨?_, ?_⟩
  ·exact still_locA agg32 hL_10 0 rfl 0 (vs := [(Sl.v t29_1)]) rfl rfl
  refine H.mono fun rv_8 h_11 H => ?_
  obtain ⟨t48_1, rfl, hL_11, H⟩ := H
  refine pop_not t48_1 ?_
  refine condM_b (fun hb_6 => ?_) (fun hb_6 => ?_)
  ·have H := H.1 hb_6
   exact H
  have H := H.2 hb_6
  refine rop_locA agg32 hL_11 0 rfl 0 (vs := [(Sl.v t29_1)]) rfl rfl ?_
  refine H.mono fun rv_9 h_12 H => ?_
  obtain ⟨t52_1, rfl, hL_12, H⟩ := H
  refine pop_lss .i64 t52_1 0 ?_
  refine guardM_sf (fun hb_7 => ?_) (fun hb_7 => ?_)
  rotate_left
  ·have H := H.1 hb_7
   refine guardM_n' hb_7 (by decide) ?_
   refine guardM_n' hb_7 (by decide) ?_
   refine guardM_n' hb_7 (by decide) ?_
   refine pop_pickt' hb_7 ?_
   refine guardM_n (by decide) ?_
   refine guardM_n (by decide) ?_
   refine guardM_n (by decide) ?_
   refine pop_pickt _ _ ?_
   refine condM_t ?_
   exact H
  have H := H.2 hb_7
  refine guardM_y' hb_7 ?_
  refine guardM_y' hb_7 ?_
  refine H.mono fun rv_10 h_13 H => ?_
  obtain ⟨t58_1, rfl, hL_13, H⟩ := H
  refine guardM_y' hb_7 ?_
  refine pop_not t58_1 ?_
  refine pop_pickf' hb_7 ?_
  refine guardM_sf (fun hb_8 => ?_) (fun hb_8 => ?_)
  rotate_left
  ·have H := H.1 hb_8
   refine guardM_n' hb_8 (by decide) ?_
   refine guardM_n' hb_8 (by decide) ?_
   refine pop_pickt' hb_8 ?_
   refine condM_t ?_
   exact H
  have H := H.2 hb_8
  refine guardM_y' hb_8 ?_
  refine guardM_y' hb_8 ?_
  refine pop_bne boo4 _ _ t33_2 t25_2 ?_
  refine pop_pickf' hb_8 ?_
  refine condM_f' hb_5 ?_
  refine H.mono fun rv_11 h_14 H => ?_
  obtain ⟨t68_1, rfl, hL_14, H⟩ := H
  refine H.mono fun rv_12 h_15 H => ?_
  obtain ⟨t71_1, rfl, hL_15, H⟩ := H
  refine pop_lss .i64 t71_1 0 ?_
  refine condM_b (fun hb_9 => ?_) (fun hb_9 => ?_)
  ·have H := H.1 hb_9
   exact H
  have H := H.2 hb_9
  refine pop_ine .i64 _ _ t71_1 t68_1 ?_
  refine condM_b (fun hb_10 => ?_) (fun hb_10 => ?_)
  ·have H := H.1 hb_10
   exact H
  have H := H.2 hb_10
  refine rop_locA agg24 hL_15 1 rfl 0 (vs := [(Sl.v aG0_1)]) rfl rfl ?_
  refine H.mono fun rv_13 h_16 H => ?_
  obtain ⟨t79_1, rfl, hL_16, H⟩ := H
  refine H.mono fun rv_14 h_17 H => ?_
  obtain ⟨t81_1, t81_2, rfl, hL_17, H⟩ := H
  refine pop_ext (v := (Sl.v t81_1)) rfl ?_
  refine pop_ext (v := (VB t81_2)) rfl ?_
  refine H.mono fun rv_15 h_18 H => ?_
  obtain ⟨t86_1, rfl, hL_18, H⟩ := H
  refine pop_not t86_1 ?_
  refine guardM_sf (fun hb_11 => ?_) (fun hb_11 => ?_)
  rotate_left
  ·have H := H.1 hb_11
   refine guardM_n' hb_11 (by decide) ?_
   refine guardM_n' hb_11 (by decide) ?_
   refine pop_pickt' hb_11 ?_
   refine condM_t ?_
   exact H
  have H := H.2 hb_11
  refine guardM_y' hb_11 ?_
  refine guardM_y' hb_11 ?_
  refine pop_bne boo4 _ _ t81_2 t25_2 ?_
  refine pop_pickf' hb_11 ?_
  refine condM_b (fun hb_12 => ?_) (fun hb_12 => ?_)
  ·have H := H.1 hb_12
   exact H
  have H := H.2 hb_12
  refine H.mono fun rv_16 h_19 H => ?_
  obtain ⟨t95_1, rfl, hL_19, H⟩ := H
  refine pop_lss .i64 t95_1 0 ?_
  refine condM_b (fun hb_13 => ?_) (fun hb_13 => ?_)
  ·have H := H.1 hb_13
   exact H
  have H := H.2 hb_13
  refine pop_ine .i64 _ _ t95_1 t68_1 ?_
  refine condM_b (fun hb_14 => ?_) (fun hb_14 => ?_)
  ·have H := H.1 hb_14
   exact H
  have H := H.2 hb_14
  exact H

/-! laws.szGraph -/
def u7 (P : Program) (a0_1 : Sl) (left1_1 : Int) (h : Heap) (K : Value → Heap → Prop) : Prop :=
  ∀ (b_1 : Nat) (h_1 : Heap), h.size ≤ b_1 → Fr (In []) h h_1 → Vars h_1 [(b_1, [(Sl.v a0_1)])] →
  callM P 50 #[(Sl.v a0_1), (VI left1_1)] h_1 fun rv_1 h_2 => ∃ t8_1 : Int, rv_1 = (VI t8_1) ∧ Vars h_2 [(b_1, [(Sl.v a0_1)])] ∧
  ((decide (t8_1 < 0)) = true →
  K (VI (-1)) h_2) ∧
  ((decide (t8_1 < 0)) = false →
  K (VI t8_1) h_2)
theorem v7 (a0_1 : Sl) (left1_1 : Int) (h : Heap) (K : Value → Heap → Prop) (H : u7 Try.prog a0_1 left1_1 h K) : callM Try.prog 7 #[(Value.agg #[(Sl.v a0_1)]), (VI left1_1)] h K := by
  refine c7 (Value.agg #[(Sl.v a0_1)]) (VI left1_1) h K ?_
  unfold u7 at H
  unfold t7
  have hL : Vars h [] := .nil
  refine eop_box 24 (Value.agg #[(Sl.v a0_1)]) rfl hL (fun b_1 h_1 hb_1 hf_1 hL_1 => ?_)
  refine pop_field 0 fld24_0 b_1 0 ?_
  refine rop_loc one22 hL_1 0 rfl 0 (v := (Sl.v a0_1)) rfl ?_
  have H := H b_1 h_1 (Nat.le_trans (Fr.size (Fr.r (In []) _)) hb_1) (Fr.no' (Fr.r (In []) _) hf_1) hL_1
  refine H.mono fun rv_1 h_2 H => ?_
  obtain ⟨t8_1, rfl, hL_2, H⟩ := H
  refine pop_lss .i64 t8_1 0 ?_
  refine condM_b (fun hb_2 => ?_) (fun hb_2 => ?_)
  ·have H := H.1 hb_2
   exact H
  have H := H.2 hb_2
  exact H

/-! laws.toGraph -/
def u10 (P : Program) (a0_1 : Sl) (h : Heap) (K : Value → Heap → Prop) : Prop :=
  ∀ (b_1 : Nat) (b_2 : Nat) (b_3 : Nat) (h_3 : Heap), h.size ≤ b_1 → h.size ≤ b_2 → h.size ≤ b_3 → Fr (In []) h h_3 → Vars h_3 [(b_3, [(Sl.v nilSl)]), (b_2, [(Sl.v nilSl)]), (b_1, [(Sl.v a0_1)])] →
  callM P 55 #[(Sl.v a0_1)] h_3 fun rv_1 h_4 => ∃ t6_1 : Sl, rv_1 = (Sl.v t6_1) ∧ Vars h_4 [(b_3, [(Sl.v nilSl)]), (b_2, [(Sl.v nilSl)]), (b_1, [(Sl.v a0_1)])] ∧
  ∀ (h_6 : Heap), Fr (In [b_2, b_3]) h_4 h_6 → Vars h_6 [(b_3, [(Sl.v t6_1)]), (b_2, [(Sl.v t6_1)]), (b_1, [(Sl.v a0_1)])] →
  K (Value.agg #[(Sl.v t6_1)]) h_6
theorem v10 (a0_1 : Sl) (h : Heap) (K : Value → Heap → Prop) (H : u10 Try.prog a0_1 h K) : callM Try.prog 10 #[(Value.agg #[(Sl.v a0_1)])] h K := by
  refine c10 (Value.agg #[(Sl.v a0_1)]) h K ?_
  unfold u10 at H
  unfold t10
  have hL : Vars h [] := .nil
  refine eop_box 24 (Value.agg #[(Sl.v a0_1)]) rfl hL (fun b_1 h_1 hb_1 hf_1 hL_1 => ?_)
  refine eop_alloc 32 zer32 rfl hL_1 (fun b_2 h_2 hb_2 hf_2 hL_2 => ?_)
  refine eop_alloc 32 zer32 rfl hL_2 (fun b_3 h_3 hb_3 hf_3 hL_3 => ?_)
  refine pop_field 0 fld24_0 b_1 0 ?_
  refine rop_loc one22 hL_3 2 rfl 0 (v := (Sl.v a0_1)) rfl ?_
  have H := H b_1 b_2 b_3 h_3 (Nat.le_trans (Fr.size (Fr.r (In []) _)) hb_1) (Nat.le_trans (Fr.size (Fr.no' (Fr.r (In []) _) hf_1)) hb_2) (Nat.le_trans (Fr.size (Fr.no' (Fr.no' (Fr.r (In []) _) hf_1) hf_2)) hb_3) (Fr.no' (Fr.no' (Fr.no' (Fr.r (In []) _) hf_1) hf_2) hf_3) hL_3
  refine H.mono fun rv_1 h_4 H => ?_
  obtain ⟨t6_1, rfl, hL_4, H⟩ := H
  refine pop_field 0 fld32_0 b_3 0 ?_
  refine uop_loc siz22 hL_4 0 rfl 0 [(Sl.v t6_1)] rfl rfl rfl (Nat.le_of_ble_eq_true rfl) (L' := [(b_3, [(Sl.v t6_1)]), (b_2, [(Sl.v nilSl)]), (b_1, [(Sl.v a0_1)])]) rfl (fun h_5 hf_4 hL_5 => ?_)
  refine rop_locA agg32 hL_5 0 rfl 0 (vs := [(Sl.v t6_1)]) rfl rfl ?_
  refine uop_loc siz32 hL_5 1 rfl 0 [(Sl.v t6_1)] rfl rfl rfl (Nat.le_of_ble_eq_true rfl) (L' := [(b_3, [(Sl.v t6_1)]), (b_2, [(Sl.v t6_1)]), (b_1, [(Sl.v a0_1)])]) rfl (fun h_6 hf_5 hL_6 => ?_)
  refine rop_locA agg32 hL_6 1 rfl 0 (vs := [(Sl.v t6_1)]) rfl rfl ?_
  have H := H  h_6  (Fr.old (Fr.old (Fr.r (In []) _) hf_4) hf_5) hL_6
  exact H

/-! laws.toIntS -/
def u12 (P : Program) (a0_1 : Sl) (h : Heap) (K : Value → Heap → Prop) : Prop :=
  eop P (Instr.makeSlice 27 (VI (a0_1.n : Int)) (VI (a0_1.n : Int))) h fun rv_1 h_1 => ∃ t7_1 : Sl, rv_1 = (Sl.v t7_1) ∧ Vars h_1 [] ∧
  ∃ J_1 : Nat → Int → Heap → Prop, (∃ n0 : Nat, J_1 n0 0 h_1) ∧
  ∀ (n_1 : Nat) (i4_1 : Int) (h_2 : Heap), J_1 n_1 i4_1 h_2 → Vars h_2 [] →
  ((decide (i4_1 < (a0_1.n : Int))) = true →
  InB a0_1 i4_1 ∧
  ∃ t19_1 : Int, hcell h_2 (Sl.at a0_1 i4_1 1) = some (VI t19_1) ∧
  InB t7_1 i4_1 ∧
  Writable h_2 (Sl.at t7_1 i4_1 1) ∧ Vars (hset h_2 (Sl.at t7_1 i4_1 1) (VI t19_1)) [] ∧
  ∀ h_3 : Heap, h_3 = hset h_2 (Sl.at t7_1 i4_1 1) (VI t19_1) → Vars h_3 [] →
  ∃ m : Nat, m < n_1 ∧ J_1 m (w64 (i4_1 + 1)) h_3) ∧
  ((decide (i4_1 < (a0_1.n : Int))) = false →
  K (Sl.v t7_1) h_2)
theorem v12 (a0_1 : Sl) (h : Heap) (K : Value → Heap → Prop) (H : u12 Try.prog a0_1 h K) : callM Try.prog 12 #[(Sl.v a0_1)] h K := by
  refine c12 (Sl.v a0_1) h K ?_
  unfold u12 at H
  unfold t12
  have hL : Vars h [] := .nil
  refine pop_len a0_1 _ _ sli27 ?_
  refine H.mono fun rv_1 h_1 H => ?_
  obtain ⟨t7_1, rfl, hL_1, H⟩ := H
  obtain ⟨J_1, ⟨n_2, h0_1⟩, HB_1⟩ := H
  refine loop_intro (J := fun (n : Nat) (vs : List Value) (h' : Heap) => ∃ i4_1 : Int, vs = [(VI i4_1)] ∧ J_1 n i4_1 h' ∧ Vars h' []) n_2 ⟨0, rfl, h0_1, hL_1⟩ ?_
  intro I_1 mu_1 hI_1 junk_1 tv_1 h_2 hi_1
  obtain ⟨n_1, ⟨i4_1, hv, hJ_1, hL_2⟩, hn_1⟩ := hI_1 _ _ hi_1
  cases hv
  have H := HB_1 n_1 i4_1 h_2 hJ_1 hL_2
  refine pop_len a0_1 _ _ sli27 ?_
  refine pop_lss .i64 i4_1 (a0_1.n : Int) ?_
  refine condM_b (fun hb_1 => ?_) (fun hb_1 => ?_)
  rotate_left
  ·have H := H.2 hb_1
   exact H
  have H := H.1 hb_1
  obtain ⟨hi_2, H⟩ := H
  refine pop_index sli27 siz3 .i64 a0_1 i4_1 hi_2 ?_
  obtain ⟨t19_1, hc_1, H⟩ := H
  refine rop_one one3 (VI t19_1) hc_1 ?_
  obtain ⟨hi_3, H⟩ := H
  refine pop_index sli27 siz3 .i64 t7_1 i4_1 hi_3 ?_
  obtain ⟨hw_1, hL_3, H⟩ := H
  refine uop_cell (v := (VI t19_1)) siz3 hw_1 rfl (fun h_3 he_1 => ?_)
  rw [← he_1] at hL_3
  have H := H h_3 he_1 hL_3
  refine pop_add .i64 i4_1 1 ?_
  obtain ⟨m_1, hm_1, H⟩ := H
  exact hn_1 _ _ ⟨m_1, hm_1, (w64 (i4_1 + 1)), rfl, H, hL_3⟩

/-! laws.eqIntS -/
def u14 (P : Program) (a0_1 : Sl) (b1_1 : Sl) (h : Heap) (K : Value → Heap → Prop) : Prop :=
  ((!decide ((a0_1.n : Int) = (b1_1.n : Int))) = true →
  K (VB false) h) ∧
  ((!decide ((a0_1.n : Int) = (b1_1.n : Int))) = false →
  ∃ J_1 : Nat → Int → Heap → Prop, (∃ n0 : Nat, J_1 n0 0 h) ∧
  ∀ (n_1 : Nat) (i5_1 : Int) (h_1 : Heap), J_1 n_1 i5_1 h_1 → Vars h_1 [] →
  ((decide (i5_1 < (a0_1.n : Int))) = true →
  InB a0_1 i5_1 ∧
  ∃ t20_1 : Int, hcell h_1 (Sl.at a0_1 i5_1 1) = some (VI t20_1) ∧
  InB b1_1 i5_1 ∧
  ∃ t24_1 : Int, hcell h_1 (Sl.at b1_1 i5_1 1) = some (VI t24_1) ∧
  ((!decide (t20_1 = t24_1)) = true →
  K (VB false) h_1) ∧
  ((!decide (t20_1 = t24_1)) = false →
  ∃ m : Nat, m < n_1 ∧ J_1 m (w64 (i5_1 + 1)) h_1)) ∧
  ((decide (i5_1 < (a0_1.n : Int))) = false →
  K (VB true) h_1))
theorem v14 (a0_1 : Sl) (b1_1 : Sl) (h : Heap) (K : Value → Heap → Prop) (H : u14 Try.prog a0_1 b1_1 h K) : callM Try.prog 14 #[(Sl.v a0_1), (Sl.v b1_1)] h K := by
  refine c14 (Sl.v a0_1) (Sl.v b1_1) h K ?_
  unfold u14 at H
  unfold t14
  have hL : Vars h [] := .nil
  refine pop_len a0_1 _ _ sli27 ?_
  refine pop_len b1_1 _ _ sli27 ?_
  refine pop_ine .i64 _ _ (a0_1.n : Int) (b1_1.n : Int) ?_
  refine condM_b (fun hb_1 => ?_) (fun hb_1 => ?_)
  ·have H := H.1 hb_1
   exact H
  have H := H.2 hb_1
  obtain ⟨J_1, ⟨n_2, h0_1⟩, HB_1⟩ := H
  refine loop_intro (J := fun (n : Nat) (vs : List Value) (h' : Heap) => ∃ i5_1 : Int, vs = [(VI i5_1)] ∧ J_1 n i5_1 h' ∧ Vars h' []) n_2 ⟨0, rfl, h0_1, hL⟩ ?_
  intro I_1 mu_1 hI_1 junk_1 tv_1 h_1 hi_1
  obtain ⟨n_1, ⟨i5_1, hv, hJ_1, hL_1⟩, hn_1⟩ := hI_1 _ _ hi_1
  cases hv
  have H := HB_1 n_1 i5_1 h_1 hJ_1 hL_1
  refine pop_len a0_1 _ _ sli27 ?_
  refine pop_lss .i64 i5_1 (a0_1.n : Int) ?_
  refine condM_b (fun hb_2 => ?_) (fun hb_2 => ?_)
  rotate_left
  ·have H := H.2 hb_2
   exact H
  have H := H.1 hb_2
  obtain ⟨hi_2, H⟩ := H
  refine pop_index sli27 siz3 .i64 a0_1 i5_1 hi_2 ?_
  obtain ⟨t20_1, hc_2, H⟩ := H
  refine rop_one one3 (VI t20_1) hc_2 ?_
  obtain ⟨hi_3, H⟩ := H
  refine pop_index sli27 siz3 .i64 b1_1 i5_1 hi_3 ?_
  obtain ⟨t24_1, hc_1, H⟩ := H
  refine rop_one one3 (VI t24_1) hc_1 ?_
  refine pop_ine .i64 _ _ t20_1 t24_1 ?_
  refine condM_b (fun hb_3 => ?_) (fun hb_3 => ?_)
  ·have H := H.1 hb_3
   exact H
  have H := H.2 hb_3
  refine pop_add .i64 i5_1 1 ?_
  obtain ⟨m_1, hm_1, H⟩ := H
  exact hn_1 _ _ ⟨m_1, hm_1, (w64 (i5_1 + 1)), rfl, H, hL_1⟩

/-! laws.eqGraph -/
def u15 (P : Program) (a0_1 : Sl) (b1_1 : Sl) (h : Heap) (K : Value → Heap → Prop) : Prop :=
  ∀ (b_1 : Nat) (b_2 : Nat) (h_2 : Heap), h.size ≤ b_1 → h.size ≤ b_2 → Fr (In []) h h_2 → Vars h_2 [(b_2, [(Sl.v b1_1)]), (b_1, [(Sl.v a0_1)])] →
  callM P 59 #[(Sl.v a0_1), (Sl.v b1_1)] h_2 fun rv_1 h_3 => ∃ t9_1 : Bool, rv_1 = (VB t9_1) ∧ Vars h_3 [(b_2, [(Sl.v b1_1)]), (b_1, [(Sl.v a0_1)])] ∧
  ((!t9_1) = true →
  K (VB false) h_3) ∧
  ((!t9_1) = false →
  K (VB true) h_3)
theorem v15 (a0_1 : Sl) (b1_1 : Sl) (h : Heap) (K : Value → Heap → Prop) (H : u15 Try.prog a0_1 b1_1 h K) : callM Try.prog 15 #[(Value.agg #[(Sl.v a0_1)]), (Value.agg #[(Sl.v b1_1)])] h K := by
  refine c15 (Value.agg #[(Sl.v a0_1)]) (Value.agg #[(Sl.v b1_1)]) h K ?_
  unfold u15 at H
  unfold t15
  have hL : Vars h [] := .nil
  refine eop_box 32 (Value.agg #[(Sl.v a0_1)]) rfl hL (fun b_1 h_1 hb_1 hf_1 hL_1 => ?_)
  refine eop_box 32 (Value.agg #[(Sl.v b1_1)]) rfl hL_1 (fun b_2 h_2 hb_2 hf_2 hL_2 => ?_)
  refine pop_field 0 fld32_0 b_1 0 ?_
  refine rop_loc one22 hL_2 1 rfl 0 (v := (Sl.v a0_1)) rfl ?_
  refine pop_field 0 fld32_0 b_2 0 ?_
  refine rop_loc one22 hL_2 0 rfl 0 (v := (Sl.v b1_1)) rfl ?_
  have H := H b_1 b_2 h_2 (Nat.le_trans (Fr.size (Fr.r (In []) _)) hb_1) (Nat.le_trans (Fr.size (Fr.no' (Fr.r (In []) _) hf_1)) hb_2) (Fr.no' (Fr.no' (Fr.r (In []) _) hf_1) hf_2) hL_2
  refine H.mono fun rv_1 h_3 H => ?_
  obtain ⟨t9_1, rfl, hL_3, H⟩ := H
  refine pop_not t9_1 ?_
  refine condM_b (fun hb_3 => ?_) (fun hb_3 => ?_)
  ·have H := H.1 hb_3
   exact H
  have H := H.2 hb_3
  exact H

/-! laws.markGraph -/
def u17 (P : Program) (a0_1 : Sl) (k1_1 : Int) (h : Heap) (K : Value → Heap → Prop) : Prop :=
  ∀ (b_1 : Nat) (h_1 : Heap), h.size ≤ b_1 → Fr (In []) h h_1 → Vars h_1 [(b_1, [(Sl.v a0_1)])] →
  callM P 60 #[(Sl.v a0_1), (VI k1_1)] h_1 fun rv_1 h_2 => ∃ t8_1 : Int, rv_1 = (VI t8_1) ∧ Vars h_2 [(b_1, [(Sl.v a0_1)])] ∧
  K (VI t8_1) h_2
theorem v17 (a0_1 : Sl) (k1_1 : Int) (h : Heap) (K : Value → Heap → Prop) (H : u17 Try.prog a0_1 k1_1 h K) : callM Try.prog 17 #[(Value.agg #[(Sl.v a0_1)]), (VI k1_1)] h K := by
  refine c17 (Value.agg #[(Sl.v a0_1)]) (VI k1_1) h K ?_
  unfold u17 at H
  unfold t17
  have hL : Vars h [] := .nil
  refine eop_box 32 (Value.agg #[(Sl.v a0_1)]) rfl hL (fun b_1 h_1 hb_1 hf_1 hL_1 => ?_)
  refine pop_field 0 fld32_0 b_1 0 ?_
  refine rop_loc one22 hL_1 0 rfl 0 (v := (Sl.v a0_1)) rfl ?_
  have H := H b_1 h_1 (Nat.le_trans (Fr.size (Fr.r (In []) _)) hb_1) (Fr.no' (Fr.r (In []) _) hf_1) hL_1
  refine H.mono fun rv_1 h_2 H => ?_
  obtain ⟨t8_1, rfl, hL_2, H⟩ := H
  exact H

/-! laws.markIntS -/
def u19 (P : Program) (a0_1 : Sl) (k1_1 : Int) (h : Heap) (K : Value → Heap → Prop) : Prop :=
  ∃ J_1 : Nat → Int → Int → Heap → Prop, (∃ n0 : Nat, J_1 n0 k1_1 0 h) ∧
  ∀ (n_1 : Nat) (k1_2 : Int) (i5_1 : Int) (h_1 : Heap), J_1 n_1 k1_2 i5_1 h_1 → Vars h_1 [] →
  ((decide (i5_1 < (a0_1.n : Int))) = true →
  InB a0_1 i5_1 ∧
  Writable h_1 (Sl.at a0_1 i5_1 1) ∧ Vars (hset h_1 (Sl.at a0_1 i5_1 1) (VI k1_2)) [] ∧
  ∀ h_2 : Heap, h_2 = hset h_1 (Sl.at a0_1 i5_1 1) (VI k1_2) → Vars h_2 [] →
  ∃ m : Nat, m < n_1 ∧ J_1 m (w64 (k1_2 + 1)) (w64 (i5_1 + 1)) h_2) ∧
  ((decide (i5_1 < (a0_1.n : Int))) = false →
  K (VI k1_2) h_1)
theorem v19 (a0_1 : Sl) (k1_1 : Int) (h : Heap) (K : Value → Heap → Prop) (H : u19 Try.prog a0_1 k1_1 h K) : callM Try.prog 19 #[(Sl.v a0_1), (VI k1_1)] h K := by
  refine c19 (Sl.v a0_1) (VI k1_1) h K ?_
  unfold u19 at H
  unfold t19
  have hL : Vars h [] := .nil
  obtain ⟨J_1, ⟨n_2, h0_1⟩, HB_1⟩ := H
  refine loop_intro (J := fun (n : Nat) (vs : List Value) (h' : Heap) => ∃ k1_2 : Int, ∃ i5_1 : Int, vs = [(VI k1_2), (VI i5_1)] ∧ J_1 n k1_2 i5_1 h' ∧ Vars h' []) n_2 ⟨k1_1, 0, rfl, h0_1, hL⟩ ?_
  intro I_1 mu_1 hI_1 junk_1 tv_1 tv_2 h_1 hi_1
  obtain ⟨n_1, ⟨k1_2, i5_1, hv, hJ_1, hL_1⟩, hn_1⟩ := hI_1 _ _ hi_1
  cases hv
  have H := HB_1 n_1 k1_2 i5_1 h_1 hJ_1 hL_1
  refine pop_len a0_1 _ _ sli27 ?_
  refine pop_lss .i64 i5_1 (a0_1.n : Int) ?_
  refine condM_b (fun hb_1 => ?_) (fun hb_1 => ?_)
  rotate_left
  ·have H := H.2 hb_1
   exact H
  have H := H.1 hb_1
  obtain ⟨hi_2, H⟩ := H
  refine pop_index sli27 siz3 .i64 a0_1 i5_1 hi_2 ?_
  obtain ⟨hw_1, hL_2, H⟩ := H
  refine uop_cell (v := (VI k1_2)) siz3 hw_1 rfl (fun h_2 he_1 => ?_)
  rw [← he_1] at hL_2
  have H := H h_2 he_1 hL_2
  refine pop_add .i64 k1_2 1 ?_
  refine pop_add .i64 i5_1 1 ?_
  obtain ⟨m_1, hm_1, H⟩ := H
  exact hn_1 _ _ ⟨m_1, hm_1, (w64 (k1_2 + 1)), (w64 (i5_1 + 1)), rfl, H, hL_2⟩

/-! laws.heldIntS -/
def u20 (P : Program) (a0_1 : Sl) (k1_1 : Int) (h : Heap) (K : Value → Heap → Prop) : Prop :=
  ∃ J_1 : Nat → Int → Int → Heap → Prop, (∃ n0 : Nat, J_1 n0 k1_1 0 h) ∧
  ∀ (n_1 : Nat) (k1_2 : Int) (i5_1 : Int) (h_1 : Heap), J_1 n_1 k1_2 i5_1 h_1 → Vars h_1 [] →
  ((decide (i5_1 < (a0_1.n : Int))) = true →
  InB a0_1 i5_1 ∧
  ∃ t15_1 : Int, hcell h_1 (Sl.at a0_1 i5_1 1) = some (VI t15_1) ∧
  ((!decide (t15_1 = k1_2)) = true →
  K (VI (-1)) h_1) ∧
  ((!decide (t15_1 = k1_2)) = false →
  ∃ m : Nat, m < n_1 ∧ J_1 m (w64 (k1_2 + 1)) (w64 (i5_1 + 1)) h_1)) ∧
  ((decide (i5_1 < (a0_1.n : Int))) = false →
  K (VI k1_2) h_1)
theorem v20 (a0_1 : Sl) (k1_1 : Int) (h : Heap) (K : Value → Heap → Prop) (H : u20 Try.prog a0_1 k1_1 h K) : callM Try.prog 20 #[(Sl.v a0_1), (VI k1_1)] h K := by
  refine c20 (Sl.v a0_1) (VI k1_1) h K ?_
  unfold u20 at H
  unfold t20
  have hL : Vars h [] := .nil
  obtain ⟨J_1, ⟨n_2, h0_1⟩, HB_1⟩ := H
  refine loop_intro (J := fun (n : Nat) (vs : List Value) (h' : Heap) => ∃ k1_2 : Int, ∃ i5_1 : Int, vs = [(VI k1_2), (VI i5_1)] ∧ J_1 n k1_2 i5_1 h' ∧ Vars h' []) n_2 ⟨k1_1, 0, rfl, h0_1, hL⟩ ?_
  intro I_1 mu_1 hI_1 junk_1 tv_1 tv_2 h_1 hi_1
  obtain ⟨n_1, ⟨k1_2, i5_1, hv, hJ_1, hL_1⟩, hn_1⟩ := hI_1 _ _ hi_1
  cases hv
  have H := HB_1 n_1 k1_2 i5_1 h_1 hJ_1 hL_1
  refine pop_len a0_1 _ _ sli27 ?_
  refine pop_lss .i64 i5_1 (a0_1.n : Int) ?_
  refine condM_b (fun hb_1 => ?_) (fun hb_1 => ?_)
  rotate_left
  ·have H := H.2 hb_1
   exact H
  have H := H.1 hb_1
  obtain ⟨hi_2, H⟩ := H
  refine pop_index sli27 siz3 .i64 a0_1 i5_1 hi_2 ?_
  obtain ⟨t15_1, hc_1, H⟩ := H
  refine rop_one one3 (VI t15_1) hc_1 ?_
  refine pop_ine .i64 _ _ t15_1 k1_2 ?_
  refine condM_b (fun hb_2 => ?_) (fun hb_2 => ?_)
  ·have H := H.1 hb_2
   exact H
  have H := H.2 hb_2
  refine pop_add .i64 k1_2 1 ?_
  refine pop_add .i64 i5_1 1 ?_
  obtain ⟨m_1, hm_1, H⟩ := H
  exact hn_1 _ _ ⟨m_1, hm_1, (w64 (k1_2 + 1)), (w64 (i5_1 + 1)), rfl, H, hL_1⟩

/-! spec.AllUnicycles -/
def u45 (P : Program) (g0_1 : Sl) (p1_1 : Int) (h : Heap) (K : Value → Heap → Prop) : Prop :=
  ∀ (b_1 : Nat) (h_1 : Heap), h.size ≤ b_1 → Fr (In []) h h_1 → Vars h_1 [(b_1, [(Sl.v g0_1)])] →
  callM P 67 #[(Value.agg #[(Sl.v g0_1)]), (VI p1_1)] h_1 fun rv_1 h_2 => ∃ t15_1 : Bool, rv_1 = (VB t15_1) ∧ Vars h_2 [(b_1, [(Sl.v g0_1)])] ∧
  ((!t15_1) = true →
  K (Value.tuple #[(Sl.v nilSl), (VB false)]) h_2) ∧
  ((!t15_1) = false →
  InB g0_1 p1_1 ∧
  ∃ t26_1 : Sl, hcell h_2 (Sl.at g0_1 p1_1 1) = some (Sl.v t26_1) ∧
  callM P 85 #[(Value.agg #[(Sl.v g0_1)]), (VI p1_1)] h_2 fun rv_2 h_3 => ∃ t20_1 : Sl, rv_2 = (Sl.v t20_1) ∧ Vars h_3 [(b_1, [(Sl.v g0_1)])] ∧
  hcell h_3 (Sl.at g0_1 p1_1 1) = some (Sl.v t26_1) ∧
  callM P 84 #[(Sl.v t20_1)] h_3 fun rv_3 h_4 => ∃ t21_1 : Int, rv_3 = (VI t21_1) ∧ Vars h_4 [(b_1, [(Sl.v g0_1)])] ∧
  hcell h_4 (Sl.at g0_1 p1_1 1) = some (Sl.v t26_1) ∧
  ((decide (300 < (w64 (t21_1 * (t26_1.n : Int))))) = true →
  K (Value.tuple #[(Sl.v nilSl), (VB false)]) h_4) ∧
  ((decide (300 < (w64 (t21_1 * (t26_1.n : Int))))) = false →
  callM P 86 #[(Value.agg #[(Sl.v g0_1)]), (VI p1_1), (VI 300)] h_4 fun rv_4 h_5 => ∃ t33_1 : Sl, rv_4 = (Sl.v t33_1) ∧ Vars h_5 [(b_1, [(Sl.v g0_1)])] ∧
  ∃ J_1 : Nat → Sl → Int → Heap → Prop, (∃ n0 : Nat, J_1 n0 nilSl 0 h_5) ∧
  ∀ (n_1 : Nat) (out6_1 : Sl) (t35_1 : Int) (h_6 : Heap), J_1 n_1 out6_1 t35_1 h_6 → Vars h_6 [(b_1, [(Sl.v g0_1)])] →
  ((decide (t35_1 < (t33_1.n : Int))) = true →
  InB t33_1 t35_1 ∧
  ∃ t38_1 : Sl, hcell h_6 (Sl.at t33_1 t35_1 1) = some (Sl.v t38_1) ∧
  InB g0_1 p1_1 ∧
  ∃ t43_1 : Sl, hcell h_6 (Sl.at g0_1 p1_1 1) = some (Sl.v t43_1) ∧
  ∃ J_2 : Nat → Sl → Int → Heap → Prop, (∃ n0 : Nat, J_2 n0 out6_1 0 h_6) ∧
  ∀ (n_2 : Nat) (out6_2 : Sl) (t45_1 : Int) (h_7 : Heap), J_2 n_2 out6_2 t45_1 h_7 → Vars h_7 [(b_1, [(Sl.v g0_1)])] →
  ((decide (t45_1 < (t43_1.n : Int))) = true →
  callM P 87 #[(Sl.v t38_1)] h_7 fun rv_5 h_8 => ∃ t49_1 : Sl, rv_5 = (Sl.v t49_1) ∧ Vars h_8 [(b_1, [(Sl.v g0_1)])] ∧
  InB t49_1 p1_1 ∧
  ∀ (b_2 : Nat) (h_10 : Heap), h_8.size ≤ b_2 → Fr (In []) h_8 h_10 → Vars h_10 [(b_2, [(Sl.v t49_1), (VI p1_1)]), (b_1, [(Sl.v g0_1)])] →
  Writable h_10 (Sl.at t49_1 p1_1 1) ∧ Vars (hset h_10 (Sl.at t49_1 p1_1 1) (VI t45_1)) [(b_2, [(Sl.v t49_1), (VI p1_1)]), (b_1, [(Sl.v g0_1)])] ∧
  ∀ h_11 : Heap, h_11 = hset h_10 (Sl.at t49_1 p1_1 1) (VI t45_1) → Vars h_11 [(b_2, [(Sl.v t49_1), (VI p1_1)]), (b_1, [(Sl.v g0_1)])] →
  ∃ J_3 : Nat → Int → Heap → Prop, (∃ n0 : Nat, J_3 n0 0 h_11) ∧
  ∀ (n_3 : Nat) (i11_1 : Int) (h_12 : Heap), J_3 n_3 i11_1 h_12 → Vars h_12 [(b_2, [(Sl.v t49_1), (VI p1_1)]), (b_1, [(Sl.v g0_1)])] →
  ((decide (i11_1 < (out6_2.n : Int))) = true →
  InB out6_2 i11_1 ∧
  ∃ t66_1 : Sl, hcell h_12 (Addr.add (Sl.at out6_2 i11_1 2) 0) = some (Sl.v t66_1) ∧
  callM P 88 #[(Sl.v t66_1), (Sl.v t49_1)] h_12 fun rv_6 h_13 => ∃ t69_1 : Bool, rv_6 = (VB t69_1) ∧ Vars h_13 [(b_2, [(Sl.v t49_1), (VI p1_1)]), (b_1, [(Sl.v g0_1)])] ∧
  (t69_1 = true →
  ∃ m : Nat, m < n_3 ∧ J_3 m (w64 (i11_1 + 1)) h_13) ∧
  (t69_1 = false →
  ∃ J_4 : Sl → Heap → Prop, (pop P (Instr.sliceAt 67 (Sl.v out6_2) none (some (VI i11_1)) none) fun rv_7 => ∃ t76_1 : Sl, rv_7 = (Sl.v t76_1) ∧ 
  (eop P (Instr.buildSlice 67 0 #[]) h_13 fun rv_8 h_14 => ∃ t73_1 : Sl, rv_8 = (Sl.v t73_1) ∧ Vars h_14 [(b_2, [(Sl.v t49_1), (VI p1_1)]), (b_1, [(Sl.v g0_1)])] ∧
  (eop P (appS 67 67 67 (Sl.v t73_1) (Sl.v t76_1)) h_14 fun rv_9 h_15 => ∃ t77_1 : Sl, rv_9 = (Sl.v t77_1) ∧ Vars h_15 [(b_2, [(Sl.v t49_1), (VI p1_1)]), (b_1, [(Sl.v g0_1)])] ∧
  eop P (Instr.buildSlice 67 1 #[(0, (Value.agg #[(Sl.v t49_1), (VI p1_1)]))]) h_15 fun rv_10 h_16 => ∃ t79_1 : Sl, rv_10 = (Sl.v t79_1) ∧ Vars h_16 [(b_2, [(Sl.v t49_1), (VI p1_1)]), (b_1, [(Sl.v g0_1)])] ∧
  eop P (appS 67 67 67 (Sl.v t77_1) (Sl.v t79_1)) h_16 fun rv_11 h_17 => ∃ t80_1 : Sl, rv_11 = (Sl.v t80_1) ∧ Vars h_17 [(b_2, [(Sl.v t49_1), (VI p1_1)]), (b_1, [(Sl.v g0_1)])] ∧
  J_4 t80_1 h_17) ∧
  (eop P (Instr.buildSlice 67 1 #[(0, (Value.agg #[(Sl.v t49_1), (VI p1_1)]))]) h_14 fun rv_12 h_18 => ∃ t79_2 : Sl, rv_12 = (Sl.v t79_2) ∧ Vars h_18 [(b_2, [(Sl.v t49_1), (VI p1_1)]), (b_1, [(Sl.v g0_1)])] ∧
  eop P (appS 67 67 67 (Sl.v t73_1) (Sl.v t76_1)) h_18 fun rv_13 h_19 => ∃ t77_2 : Sl, rv_13 = (Sl.v t77_2) ∧ Vars h_19 [(b_2, [(Sl.v t49_1), (VI p1_1)]), (b_1, [(Sl.v g0_1)])] ∧
  eop P (appS 67 67 67 (Sl.v t77_2) (Sl.v t79_2)) h_19 fun rv_14 h_20 => ∃ t80_2 : Sl, rv_14 = (Sl.v t80_2) ∧ Vars h_20 [(b_2, [(Sl.v t49_1), (VI p1_1)]), (b_1, [(Sl.v g0_1)])] ∧
  J_4 t80_2 h_20)) ∧
  (eop P (Instr.buildSlice 67 1 #[(0, (Value.agg #[(Sl.v t49_1), (VI p1_1)]))]) h_13 fun rv_15 h_21 => ∃ t79_3 : Sl, rv_15 = (Sl.v t79_3) ∧ Vars h_21 [(b_2, [(Sl.v t49_1), (VI p1_1)]), (b_1, [(Sl.v g0_1)])] ∧
  eop P (Instr.buildSlice 67 0 #[]) h_21 fun rv_16 h_22 => ∃ t73_2 : Sl, rv_16 = (Sl.v t73_2) ∧ Vars h_22 [(b_2, [(Sl.v t49_1), (VI p1_1)]), (b_1, [(Sl.v g0_1)])] ∧
  eop P (appS 67 67 67 (Sl.v t73_2) (Sl.v t76_1)) h_22 fun rv_17 h_23 => ∃ t77_3 : Sl, rv_17 = (Sl.v t77_3) ∧ Vars h_23 [(b_2, [(Sl.v t49_1), (VI p1_1)]), (b_1, [(Sl.v g0_1)])] ∧
  eop P (appS 67 67 67 (Sl.v t77_3) (Sl.v t79_3)) h_23 fun rv_18 h_24 => ∃ t80_3 : Sl, rv_18 = (Sl.v t80_3) ∧ Vars h_24 [(b_2, [(Sl.v t49_1), (VI p1_1)]), (b_1, [(Sl.v g0_1)])] ∧
  J_4 t80_3 h_24)) ∧
  ∀ (x_1 : Sl) (h_25 : Heap), J_4 x_1 h_25 → Vars h_25 [(b_2, [(Sl.v t49_1), (VI p1_1)]), (b_1, [(Sl.v g0_1)])] →
  pop P (Instr.sliceAt 67 (Sl.v out6_2) (some (VI i11_1)) none none) fun rv_19 => ∃ t84_1 : Sl, rv_19 = (Sl.v t84_1) ∧ 
  eop P (appS 67 67 67 (Sl.v x_1) (Sl.v t84_1)) h_25 fun rv_20 h_26 => ∃ t85_1 : Sl, rv_20 = (Sl.v t85_1) ∧ Vars h_26 [(b_2, [(Sl.v t49_1), (VI p1_1)]), (b_1, [(Sl.v g0_1)])] ∧
  ∃ m : Nat, m < n_2 ∧ J_2 m t85_1 (w64 (t45_1 + 1)) h_26)) ∧
  ((decide (i11_1 < (out6_2.n : Int))) = false →
  ∃ J_5 : Sl → Heap → Prop, (pop P (Instr.sliceAt 67 (Sl.v out6_2) none (some (VI i11_1)) none) fun rv_21 => ∃ t76_2 : Sl, rv_21 = (Sl.v t76_2) ∧ 
  (eop P (Instr.buildSlice 67 0 #[]) h_12 fun rv_22 h_27 => ∃ t73_3 : Sl, rv_22 = (Sl.v t73_3) ∧ Vars h_27 [(b_2, [(Sl.v t49_1), (VI p1_1)]), (b_1, [(Sl.v g0_1)])] ∧
  (eop P (appS 67 67 67 (Sl.v t73_3) (Sl.v t76_2)) h_27 fun rv_23 h_28 => ∃ t77_4 : Sl, rv_23 = (Sl.v t77_4) ∧ Vars h_28 [(b_2, [(Sl.v t49_1), (VI p1_1)]), (b_1, [(Sl.v g0_1)])] ∧
  eop P (Instr.buildSlice 67 1 #[(0, (Value.agg #[(Sl.v t49_1), (VI p1_1)]))]) h_28 fun rv_24 h_29 => ∃ t79_4 : Sl, rv_24 = (Sl.v t79_4) ∧ Vars h_29 [(b_2, [(Sl.v t49_1), (VI p1_1)]), (b_1, [(Sl.v g0_1)])] ∧
  eop P (appS 67 67 67 (Sl.v t77_4) (Sl.v t79_4)) h_29 fun rv_25 h_30 => ∃ t80_4 : Sl, rv_25 = (Sl.v t80_4) ∧ Vars h_30 [(b_2, [(Sl.v t49_1), (VI p1_1)]), (b_1, [(Sl.v g0_1)])] ∧
  J_5 t80_4 h_30) ∧
  (eop P (Instr.buildSlice 67 1 #[(0, (Value.agg #[(Sl.v t49_1), (VI p1_1)]))]) h_27 fun rv_26 h_31 => ∃ t79_5 : Sl, rv_26 = (Sl.v t79_5) ∧ Vars h_31 [(b_2, [(Sl.v t49_1), (VI p1_1)]), (b_1, [(Sl.v g0_1)])] ∧
  eop P (appS 67 67 67 (Sl.v t73_3) (Sl.v t76_2)) h_31 fun rv_27 h_32 => ∃ t77_5 : Sl, rv_27 = (Sl.v t77_5) ∧ Vars h_32 [(b_2, [(Sl.v t49_1), (VI p1_1)]), (b_1, [(Sl.v g0_1)])] ∧
  eop P (appS 67 67 67 (Sl.v t77_5) (Sl.v t79_5)) h_32 fun rv_28 h_33 => ∃ t80_5 : Sl, rv_28 = (Sl.v t80_5) ∧ Vars h_33 [(b_2, [(Sl.v t49_1), (VI p1_1)]), (b_1, [(Sl.v g0_1)])] ∧
  J_5 t80_5 h_33)) ∧
  (eop P (Instr.buildSlice 67 1 #[(0, (Value.agg #[(Sl.v t49_1), (VI p1_1)]))]) h_12 fun rv_29 h_34 => ∃ t79_6 : Sl, rv_29 = (Sl.v t79_6) ∧ Vars h_34 [(b_2, [(Sl.v t49_1), (VI p1_1)]), (b_1, [(Sl.v g0_1)])] ∧
  eop P (Instr.buildSlice 67 0 #[]) h_34 fun rv_30 h_35 => ∃ t73_4 : Sl, rv_30 = (Sl.v t73_4) ∧ Vars h_35 [(b_2, [(Sl.v t49_1), (VI p1_1)]), (b_1, [(Sl.v g0_1)])] ∧
  eop P (appS 67 67 67 (Sl.v t73_4) (Sl.v t76_2)) h_35 fun rv_31 h_36 => ∃ t77_6 : Sl, rv_31 = (Sl.v t77_6) ∧ Vars h_36 [(b_2, [(Sl.v t49_1), (VI p1_1)]), (b_1, [(Sl.v g0_1)])] ∧
  eop P (appS 67 67 67 (Sl.v t77_6) (Sl.v t79_6)) h_36 fun rv_32 h_37 => ∃ t80_6 : Sl, rv_32 = (Sl.v t80_6) ∧ Vars h_37 [(b_2, [(Sl.v t49_1), (VI p1_1)]), (b_1, [(Sl.v g0_1)])] ∧
  J_5 t80_6 h_37)) ∧
  ∀ (x_2 : Sl) (h_38 : Heap), J_5 x_2 h_38 → Vars h_38 [(b_2, [(Sl.v t49_1), (VI p1_1)]), (b_1, [(Sl.v g0_1)])] →
  pop P (Instr.sliceAt 67 (Sl.v out6_2) (some (VI i11_1)) none none) fun rv_33 => ∃ t84_2 : Sl, rv_33 = (Sl.v t84_2) ∧ 
  eop P (appS 67 67 67 (Sl.v x_2) (Sl.v t84_2)) h_38 fun rv_34 h_39 => ∃ t85_2 : Sl, rv_34 = (Sl.v t85_2) ∧ Vars h_39 [(b_2, [(Sl.v t49_1), (VI p1_1)]), (b_1, [(Sl.v g0_1)])] ∧
  ∃ m : Nat, m < n_2 ∧ J_2 m t85_2 (w64 (t45_1 + 1)) h_39)) ∧
  ((decide (t45_1 < (t43_1.n : Int))) = false →
  ∃ m : Nat, m < n_1 ∧ J_1 m out6_2 (w64 (t35_1 + 1)) h_7)) ∧
  ((decide (t35_1 < (t33_1.n : Int))) = false →
  K (Value.tuple #[(Sl.v out6_1), (VB true)]) h_6)))
theorem v45 (g0_1 : Sl) (p1_1 : Int) (h : Heap) (K : Value → Heap → Prop) (H : u45 Try.prog g0_1 p1_1 h K) : callM Try.prog 45 #[(Value.agg #[(Sl.v g0_1)]), (VI p1_1)] h K := by
  refine c45 (Value.agg #[(Sl.v g0_1)]) (VI p1_1) h K ?_
  unfold u45 at H
  unfold t45
  have hL : Vars h [] := .nil
  refine eop_box 32 (Value.agg #[(Sl.v g0_1)]) rfl hL (fun b_1 h_1 hb_1 hf_1 hL_1 => ?_)
  refine rop_locA agg32 hL_1 0 rfl 0 (vs := [(Sl.v g0_1)]) rfl rfl ?_
  have H := H b_1 h_1 (Nat.le_trans (Fr.size (Fr.r (In []) _)) hb_1) (Fr.no' (Fr.r (In []) _) hf_1) hL_1
  refine H.mono fun rv_1 h_2 H => ?_
  obtain ⟨t15_1, rfl, hL_2, H⟩ := H
  refine pop_not t15_1 ?_
  refine guardM_sf (fun hb_2 => ?_) (fun hb_2 => ?_)
  rotate_left
  ·have H := H.1 hb_2
   refine guardM_n' hb_2 (by decide) ?_
   refine guardM_n' hb_2 (by decide) ?_
   refine guardM_n' hb_2 (by decide) ?_
   refine guardM_n' hb_2 (by decide) ?_
   refine guardM_n' hb_2 (by decide) ?_
   refine guardM_n' hb_2 (by decide) ?_
   refine guardM_n' hb_2 (by decide) ?_
   refine guardM_n' hb_2 (by decide) ?_
   refine ⟨⟨_, rfl, fun h => absurd (h.symm.trans hb_2) (by decide), fun _ => rfl⟩, ?_⟩
   refine ⟨⟨_, rfl, fun h => absurd (h.symm.trans hb_2) (by decide), fun _ => rfl⟩, ?_⟩
   refine guardM_n' hb_2 (by decide) ?_
   refine ⟨⟨_, rfl, fun h => absurd (h.symm.trans hb_2) (by decide), fun _ => rfl⟩, ?_⟩
   refine ⟨⟨_, rfl, fun h => absurd (h.symm.trans hb_2) (by decide), fun _ => rfl⟩, ?_⟩
   refine guardM_n' hb_2 (by decide) ?_
   refine guardM_n' hb_2 (by decide) ?_
   refine pop_pickt' hb_2 ?_
   refine condM_t ?_
   exact H
  have H := H.2 hb_2
  refine rop_locA agg32 hL_2 0 rfl 0 (vs := [(Sl.v g0_1)]) rfl rfl ?_
  refine guardM_y' hb_2 ?_
  refine guardM_y' hb_2 ?_
  refine pop_field 0 fld32_0 b_1 0 ?_
  refine guardM_y' hb_2 ?_
  refine rop_loc one22 hL_2 0 rfl 0 (v := (Sl.v g0_1)) rfl ?_
  refine guardM_y' hb_2 ?_
  refine guardM_y' hb_2 ?_
  obtain ⟨hi_1, H⟩ := H
  refine pop_index sli22 siz27 .i64 g0_1 p1_1 hi_1 ?_
  refine guardM_y' hb_2 ?_
  obtain ⟨t26_1, hc_6, H⟩ := H
  refine rop_one one27 (Sl.v t26_1) hc_6 ?_
  refine guardM_y' hb_2 ?_
  refine pop_len t26_1 _ _ sli27 ?_
  refine guardM_y' hb_2 ?_
  refine H.mono fun rv_2 h_3 H => ?_
  obtain ⟨t20_1, rfl, hL_3, H⟩ := H
  refine ⟨⟨_, rfl, fun _ => ?_, fun h => absurd hb_2 h⟩, ?_⟩
  ·exact still_one one27 H.1
  obtain ⟨hc_1, H⟩ := H
  refine ⟨⟨_, rfl, fun _ => ?_, fun h => absurd hb_2 h⟩, ?_⟩
  ·exact still_loc one22 hL_3 0 rfl 0 (v := (Sl.v g0_1)) rfl
  refine guardM_y' hb_2 ?_
  refine H.mono fun rv_3 h_4 H => ?_
  obtain ⟨t21_1, rfl, hL_4, H⟩ := H
  refine ⟨⟨_, rfl, fun _ => ?_, fun h => absurd hb_2 h⟩, ?_⟩
  ·exact still_one one27 H.1
  obtain ⟨hc_2, H⟩ := H
  refine ⟨⟨_, rfl, fun _ => ?_, fun h => absurd hb_2 h⟩, ?_⟩
  ·exact still_loc one22 hL_4 0 rfl 0 (v := (Sl.v g0_1)) rfl
  refine guardM_y' hb_2 ?_
  refine pop_mul .i64 t21_1 (t26_1.n : Int) ?_
  refine guardM_y' hb_2 ?_
  refine pop_gtr .i64 (w64 (t21_1 * (t26_1.n : Int))) 300 ?_
  refine pop_pickf' hb_2 ?_
  refine condM_b (fun hb_3 => ?_) (fun hb_3 => ?_)
  ·have H := H.1 hb_3
   exact H
  have H := H.2 hb_3
  refine rop_locA agg32 hL_4 0 rfl 0 (vs := [(Sl.v g0_1)]) rfl rfl ?_
  refine H.mono fun rv_4 h_5 H => ?_
  obtain ⟨t33_1, rfl, hL_5, H⟩ := H
  refine pop_len t33_1 _ _ sli22 ?_
  obtain ⟨J_1, ⟨n_6, h0_3⟩, HB_5⟩ := H
  refine loop_intro (J := fun (n : Nat) (vs : List Value) (h' : Heap) => ∃ out6_1 : Sl, ∃ t35_1 : Int, vs = [(Sl.v out6_1), (VI t35_1)] ∧ J_1 n out6_1 t35_1 h' ∧ Vars h' [(b_1, [(Sl.v g0_1)])]) n_6 ⟨nilSl, 0, rfl, h0_3, hL_5⟩ ?_
  intro I_3 mu_3 hI_3 junk_1 tv_6 tv_7 h_6 hi_2
  obtain ⟨n_1, ⟨out6_1, t35_1, hv, hJ_1, hL_6⟩, hn_1⟩ := hI_3 _ _ hi_2
  cases hv
  have H := HB_5 n_1 out6_1 t35_1 h_6 hJ_1 hL_6
  refine pop_lss .i64 t35_1 (t33_1.n : Int) ?_
  refine condM_b (fun hb_4 => ?_) (fun hb_4 => ?_)
  rotate_left
  ·have H := H.2 hb_4
   exact H
  have H := H.1 hb_4
  obtain ⟨hi_3, H⟩ := H
  refine pop_index sli22 siz27 .i64 t33_1 t35_1 hi_3 ?_
  obtain ⟨t38_1, hc_5, H⟩ := H
  refine rop_one one27 (Sl.v t38_1) hc_5 ?_
  refine pop_field 0 fld32_0 b_1 0 ?_
  refine rop_loc one22 hL_6 0 rfl 0 (v := (Sl.v g0_1)) rfl ?_
  obtain ⟨hi_4, H⟩ := H
  refine pop_index sli22 siz27 .i64 g0_1 p1_1 hi_4 ?_
  obtain ⟨t43_1, hc_4, H⟩ := H
  refine rop_one one27 (Sl.v t43_1) hc_4 ?_
  refine pop_len t43_1 _ _ sli27 ?_
  obtain ⟨J_2, ⟨n_5, h0_2⟩, HB_4⟩ := H
  refine loop_intro (J := fun (n : Nat) (vs : List Value) (h' : Heap) => ∃ out6_2 : Sl, ∃ t45_1 : Int, vs = [(Sl.v out6_2), (VI t45_1)] ∧ J_2 n out6_2 t45_1 h' ∧ Vars h' [(b_1, [(Sl.v g0_1)])]) n_5 ⟨out6_1, 0, rfl, h0_2, hL_6⟩ ?_
  intro I_2 mu_2 hI_2 junk_2 tv_4 tv_5 h_7 hi_5
  obtain ⟨n_2, ⟨out6_2, t45_1, hv, hJ_2, hL_7⟩, hn_2⟩ := hI_2 _ _ hi_5
  cases hv
  have H := HB_4 n_2 out6_2 t45_1 h_7 hJ_2 hL_7
  refine pop_lss .i64 t45_1 (t43_1.n : Int) ?_
  refine condM_b (fun hb_5 => ?_) (fun hb_5 => ?_)
  rotate_left
  ·have H := H.2 hb_5
   refine pop_add .i64 t35_1 1 ?_
   obtain ⟨m_4, hm_4, H⟩ := H
   exact hn_1 _ _ ⟨m_4, hm_4, out6_2, (w64 (t35_1 + 1)), rfl, H, hL_7⟩
  have H := H.1 hb_5
  refine H.mono fun rv_5 h_8 H => ?_
  obtain ⟨t49_1, rfl, hL_8, H⟩ := H
  refine pop.mk' (v := (Value.agg #[(Sl.v t49_1), (VI p1_1)])) (fun w => by kernel_rfl) ?_
  refine eop_alloc 101 zer101 rfl hL_8 (fun b_2 h_9 hb_6 hf_2 hL_9 => ?_)
  refine uop_loc siz101 hL_9 0 rfl 0 [(Sl.v t49_1), (VI p1_1)] rfl rfl rfl (Nat.le_of_ble_eq_true rfl) (L' := [(b_2, [(Sl.v t49_1), (VI p1_1)]), (b_1, [(Sl.v g0_1)])]) rfl (fun h_10 hf_3 hL_10 => ?_)
  refine pop_field 0 fld101_0 b_2 0 ?_
  refine rop_loc one27 hL_10 0 rfl 0 (v := (Sl.v t49_1)) rfl ?_
  obtain ⟨hi_6, H⟩ := H
  refine pop_index sli27 siz3 .i64 t49_1 p1_1 hi_6 ?_
  have H := H b_2 h_10 (Nat.le_trans (Fr.size (Fr.r (In []) _)) hb_6) (Fr.new (Fr.no' (Fr.r (In []) _) hf_2) (Nat.le_trans (Fr.size (Fr.r (In []) _)) hb_6) hf_3) hL_10
  obtain ⟨hw_1, hL_11, H⟩ := H
  refine uop_cell (v := (VI t45_1)) siz3 hw_1 rfl (fun h_11 he_1 => ?_)
  rw [← he_1] at hL_11
  have H := H h_11 he_1 hL_11
  obtain ⟨J_3, ⟨n_4, h0_1⟩, HB_3⟩ := H
  refine loop_intro (J := fun (n : Nat) (vs : List Value) (h' : Heap) => ∃ i11_1 : Int, vs = [(VI i11_1)] ∧ J_3 n i11_1 h' ∧ Vars h' [(b_2, [(Sl.v t49_1), (VI p1_1)]), (b_1, [(Sl.v g0_1)])]) n_4 ⟨0, rfl, h0_1, hL_11⟩ ?_
  intro I_1 mu_1 hI_1 junk_3 tv_3 h_12 hi_7
  obtain ⟨n_3, ⟨i11_1, hv, hJ_3, hL_12⟩, hn_3⟩ := hI_1 _ _ hi_7
  cases hv
  have H := HB_3 n_3 i11_1 h_12 hJ_3 hL_12
  refine pop_len out6_2 _ _ sli67 ?_
  refine pop_lss .i64 i11_1 (out6_2.n : Int) ?_
  refine guardM_st (fun hb_7 => ?_) (fun hb_7 => ?_)
  rotate_left
  ·have H := H.2 hb_7
   refine guardM_n' hb_7 (by decide) ?_
   refine guardM_n' hb_7 (by decide) ?_
   refine guardM_n' hb_7 (by decide) ?_
   refine guardM_n' hb_7 (by decide) ?_
   refine guardM_n' hb_7 (by decide) ?_
   refine guardM_n' hb_7 (by decide) ?_
   refine guardM_n' hb_7 (by decide) ?_
   refine pop_pickf' hb_7 ?_
   refine condM_f ?_
   obtain ⟨J_5, H, HB_2⟩ := H
   refine ⟨fun (vs : List Value) (h' : Heap) => ∃ x_2 : Sl, vs = [(Sl.v x_2)] ∧ J_5 x_2 h' ∧ Vars h' [(b_2, [(Sl.v t49_1), (VI p1_1)]), (b_1, [(Sl.v g0_1)])], ?_, ?_⟩
   ·refine H.mono fun rv_21 H => ?_
    obtain ⟨t76_2, rfl, H⟩ := H
    refine rop_locA agg101 hL_12 0 rfl 0 (vs := [(Sl.v t49_1), (VI p1_1)]) rfl rfl ?_
    refine ⟨?_, ?_⟩
    rotate_left
    ·have H := H.2
     refine H.mono fun rv_29 h_34 H => ?_
     obtain ⟨t79_6, rfl, hL_34, H⟩ := H
     refine H.mono fun rv_30 h_35 H => ?_
     obtain ⟨t73_4, rfl, hL_35, H⟩ := H
     refine H.mono fun rv_31 h_36 H => ?_
     obtain ⟨t77_6, rfl, hL_36, H⟩ := H
     refine H.mono fun rv_32 h_37 H => ?_
     obtain ⟨t80_6, rfl, hL_37, H⟩ := H
     exact ⟨t80_6, rfl, H, hL_37⟩
    have H := H.1
    refine H.mono fun rv_22 h_27 H => ?_
    obtain ⟨t73_3, rfl, hL_27, H⟩ := H
    refine ⟨?_, ?_⟩
    ·exact still_locA agg101 hL_27 0 rfl 0 (vs := [(Sl.v t49_1), (VI p1_1)]) rfl rfl
    refine ⟨?_, ?_⟩
    rotate_left
    ·have H := H.2
     refine H.mono fun rv_26 h_31 H => ?_
     obtain ⟨t79_5, rfl, hL_31, H⟩ := H
     refine H.mono fun rv_27 h_32 H => ?_
     obtain ⟨t77_5, rfl, hL_32, H⟩ := H
     refine H.mono fun rv_28 h_33 H => ?_
     obtain ⟨t80_5, rfl, hL_33, H⟩ := H
     exact ⟨t80_5, rfl, H, hL_33⟩
    have H := H.1
    refine H.mono fun rv_23 h_28 H => ?_
    obtain ⟨t77_4, rfl, hL_28, H⟩ := H
    refine ⟨?_, ?_⟩
    ·exact still_locA agg101 hL_28 0 rfl 0 (vs := [(Sl.v t49_1), (VI p1_1)]) rfl rfl
    refine H.mono fun rv_24 h_29 H => ?_
    obtain ⟨t79_4, rfl, hL_29, H⟩ := H
    refine H.mono fun rv_25 h_30 H => ?_
    obtain ⟨t80_4, rfl, hL_30, H⟩ := H
    exact ⟨t80_4, rfl, H, hL_30⟩
   intro junk_5 tv_2 h_38
   rintro ⟨x_2, hv, hJ_5, hL_38⟩
   cases hv
   have H := HB_2 x_2 h_38 hJ_5 hL_38
   refine H.mono fun rv_33 H => ?_
   obtain ⟨t84_2, rfl, H⟩ := H
   refine H.mono fun rv_34 h_39 H => ?_
   obtain ⟨t85_2, rfl, hL_39, H⟩ := H
   refine pop_add .i64 t45_1 1 ?_
   obtain ⟨m_3, hm_3, H⟩ := H
   exact hn_2 _ _ ⟨m_3, hm_3, t85_2, (w64 (t45_1 + 1)), rfl, H, (Vars.tail hL_39)⟩
  have H := H.1 hb_7
  refine guardM_y' hb_7 ?_
  refine guardM_y' hb_7 ?_
  obtain ⟨hi_8, H⟩ := H
  refine pop_index sli67 siz101 .i64 out6_2 i11_1 hi_8 ?_
  refine guardM_y' hb_7 ?_
  refine pop_fieldA 0 fld101_0 (Sl.at out6_2 i11_1 2) ?_
  refine guardM_y' hb_7 ?_
  obtain ⟨t66_1, hc_3, H⟩ := H
  refine rop_one one27 (Sl.v t66_1) hc_3 ?_
  refine guardM_y' hb_7 ?_
  refine pop_field 0 fld101_0 b_2 0 ?_
  refine guardM_y' hb_7 ?_
  refine rop_loc one27 hL_12 0 rfl 0 (v := (Sl.v t49_1)) rfl ?_
  refine guardM_y' hb_7 ?_
  refine H.mono fun rv_6 h_13 H => ?_
  obtain ⟨t69_1, rfl, hL_13, H⟩ := H
  refine pop_pickt' hb_7 ?_
  refine condM_b (fun hb_8 => ?_) (fun hb_8 => ?_)
  ·have H := H.1 hb_8
   refine pop_add .i64 i11_1 1 ?_
   obtain ⟨m_1, hm_1, H⟩ := H
   exact hn_3 _ _ ⟨m_1, hm_1, (w64 (i11_1 + 1)), rfl, H, hL_13⟩
  have H := H.2 hb_8
  obtain ⟨J_4, H, HB_1⟩ := H
  refine ⟨fun (vs : List Value) (h' : Heap) => ∃ x_1 : Sl, vs = [(Sl.v x_1)] ∧ J_4 x_1 h' ∧ Vars h' [(b_2, [(Sl.v t49_1), (VI p1_1)]), (b_1, [(Sl.v g0_1)])], ?_, ?_⟩
  ·refine H.mono fun rv_7 H => ?_
   obtain ⟨t76_1, rfl, H⟩ := H
   refine rop_locA agg101 hL_13 0 rfl 0 (vs := [(Sl.v t49_1), (VI p1_1)]) rfl rfl ?_
   refine ⟨?_, ?_⟩
   rotate_left
   ·have H := H.2
    refine H.mono fun rv_15 h_21 H => ?_
    obtain ⟨t79_3, rfl, hL_21, H⟩ := H
    refine H.mono fun rv_16 h_22 H => ?_
    obtain ⟨t73_2, rfl, hL_22, H⟩ := H
    refine H.mono fun rv_17 h_23 H => ?_
    obtain ⟨t77_3, rfl, hL_23, H⟩ := H
    refine H.mono fun rv_18 h_24 H => ?_
    obtain ⟨t80_3, rfl, hL_24, H⟩ := H
    exact ⟨t80_3, rfl, H, hL_24⟩
   have H := H.1
   refine H.mono fun rv_8 h_14 H => ?_
   obtain ⟨t73_1, rfl, hL_14, H⟩ := H
   refine ⟨?_, ?_⟩
   ·exact still_locA agg101 hL_14 0 rfl 0 (vs := [(Sl.v t49_1), (VI p1_1)]) rfl rfl
   refine ⟨?_, ?_⟩
   rotate_left
   ·have H := H.2
    refine H.mono fun rv_12 h_18 H => ?_
    obtain ⟨t79_2, rfl, hL_18, H⟩ := H
    refine H.mono fun rv_13 h_19 H => ?_
    obtain ⟨t77_2, rfl, hL_19, H⟩ := H
    refine H.mono fun rv_14 h_20 H => ?_
    obtain ⟨t80_2, rfl, hL_20, H⟩ := H
    exact ⟨t80_2, rfl, H, hL_20⟩
   have H := H.1
   refine H.mono fun rv_9 h_15 H => ?_
   obtain ⟨t77_1, rfl, hL_15, H⟩ := H
   refine ⟨?_, ?_⟩
   ·exact still_locA agg101 hL_15 0 rfl 0 (vs := [(Sl.v t49_1), (VI p1_1)]) rfl rfl
   refine H.mono fun rv_10 h_16 H => ?_
   obtain ⟨t79_1, rfl, hL_16, H⟩ := H
   refine H.mono fun rv_11 h_17 H => ?_
   obtain ⟨t80_1, rfl, hL_17, H⟩ := H
   exact ⟨t80_1, rfl, H, hL_17⟩
  intro junk_4 tv_1 h_25
  rintro ⟨x_1, hv, hJ_4, hL_25⟩
  cases hv
  have H := HB_1 x_1 h_25 hJ_4 hL_25
  refine H.mono fun rv_19 H => ?_
  obtain ⟨t84_1, rfl, H⟩ := H
  refine H.mono fun rv_20 h_26 H => ?_
  obtain ⟨t85_1, rfl, hL_26, H⟩ := H
  refine pop_add .i64 t45_1 1 ?_
  obtain ⟨m_2, hm_2, H⟩ := H
  exact hn_2 _ _ ⟨m_2, hm_2, t85_1, (w64 (t45_1 + 1)), rfl, H, (Vars.tail hL_26)⟩

/-! impl.AllUnicycles -/
def u46 (P : Program) (g0_1 : Sl) (p1_1 : Int) (h : Heap) (K : Value → Heap → Prop) : Prop :=
  ∀ (b_1 : Nat) (b_2 : Nat) (h_2 : Heap), h.size ≤ b_1 → h.size ≤ b_2 → Fr (In []) h h_2 → Vars h_2 [(b_2, [(VI p1_1)]), (b_1, [(Sl.v g0_1)])] →
  eop P (Instr.buildSlice 27 1 #[(0, (VI p1_1))]) h_2 fun rv_1 h_3 => ∃ t9_1 : Sl, rv_1 = (Sl.v t9_1) ∧ Vars h_3 [(b_2, [(VI p1_1)]), (b_1, [(Sl.v g0_1)])] ∧
  callM P 65 #[(Value.agg #[(Sl.v g0_1)]), (Sl.v t9_1)] h_3 fun rv_2 h_4 => ∃ t10_1 : Bool, rv_2 = (VB t10_1) ∧ Vars h_4 [(b_2, [(VI p1_1)]), (b_1, [(Sl.v g0_1)])] ∧
  ((!t10_1) = true →
  K (Value.tuple #[(Sl.v nilSl), (VB false)]) h_4) ∧
  ((!t10_1) = false →
  callM P 89 #[(Value.agg #[(Sl.v g0_1)]), (VI p1_1)] h_4 fun rv_3 h_5 => ∃ t15_1 : Int, rv_3 = (VI t15_1) ∧ Vars h_5 [(b_2, [(VI p1_1)]), (b_1, [(Sl.v g0_1)])] ∧
  ((decide (300 < t15_1)) = true →
  K (Value.tuple #[(Sl.v nilSl), (VB false)]) h_5) ∧
  ((decide (300 < t15_1)) = false →
  eop P (Instr.buildSlice 67 0 #[]) h_5 fun rv_4 h_6 => ∃ t18_1 : Sl, rv_4 = (Sl.v t18_1) ∧ Vars h_6 [(b_2, [(VI p1_1)]), (b_1, [(Sl.v g0_1)])] ∧
  ∀ (b_3 : Nat) (h_8 : Heap), h_6.size ≤ b_3 → Fr (In []) h_6 h_8 → Vars h_8 [(b_3, [(Sl.v t18_1)]), (b_2, [(VI p1_1)]), (b_1, [(Sl.v g0_1)])] →
  callM P 90 #[(Value.agg #[(Sl.v g0_1)]), (VI (-1)), (Value.func (Fn.func 91) #[] #[(VP b_2 0), (VP b_1 0), (VP b_3 0)])] h_8 fun rv_5 h_9 => ∃ x_1 : Sl, ∃ x_2 : Int, ∃ x_3 : Sl, Vars h_9 [(b_3, [(Sl.v x_1)]), (b_2, [(VI x_2)]), (b_1, [(Sl.v x_3)])] ∧
  K (Value.tuple #[(Sl.v x_1), (VB true)]) h_9))
theorem v46 (g0_1 : Sl) (p1_1 : Int) (h : Heap) (K : Value → Heap → Prop) (H : u46 Try.prog g0_1 p1_1 h K) : callM Try.prog 46 #[(Value.agg #[(Sl.v g0_1)]), (VI p1_1)] h K := by
  refine c46 (Value.agg #[(Sl.v g0_1)]) (VI p1_1) h K ?_
  unfold u46 at H
  unfold t46
  have hL : Vars h [] := .nil
  refine eop_box 32 (Value.agg #[(Sl.v g0_1)]) rfl hL (fun b_1 h_1 hb_1 hf_1 hL_1 => ?_)
  refine eop_box 3 (VI p1_1) rfl hL_1 (fun b_2 h_2 hb_2 hf_2 hL_2 => ?_)
  refine rop_locA agg32 hL_2 1 rfl 0 (vs := [(Sl.v g0_1)]) rfl rfl ?_
  refine rop_loc one3 hL_2 0 rfl 0 (v := (VI p1_1)) rfl ?_
  have H := H b_1 b_2 h_2 (Nat.le_trans (Fr.size (Fr.r (In []) _)) hb_1) (Nat.le_trans (Fr.size (Fr.no' (Fr.r (In []) _) hf_1)) hb_2) (Fr.no' (Fr.no' (Fr.r (In []) _) hf_1) hf_2) hL_2
  refine H.mono fun rv_1 h_3 H => ?_
  obtain ⟨t9_1, rfl, hL_3, H⟩ := H
  refine H.mono fun rv_2 h_4 H => ?_
  obtain ⟨t10_1, rfl, hL_4, H⟩ := H
  refine pop_not t10_1 ?_
  refine guardM_sf (fun hb_3 => ?_) (fun hb_3 => ?_)
  rotate_left
  ·have H := H.1 hb_3
   refine guardM_n' hb_3 (by decide) ?_
   refine guardM_n' hb_3 (by decide) ?_
   refine guardM_n' hb_3 (by decide) ?_
   refine pop_pickt' hb_3 ?_
   refine condM_t ?_
   exact H
  have H := H.2 hb_3
  refine rop_locA agg32 hL_4 1 rfl 0 (vs := [(Sl.v g0_1)]) rfl rfl ?_
  refine guardM_y' hb_3 ?_
  refine rop_loc one3 hL_4 0 rfl 0 (v := (VI p1_1)) rfl ?_
  refine guardM_y' hb_3 ?_
  refine H.mono fun rv_3 h_5 H => ?_
  obtain ⟨t15_1, rfl, hL_5, H⟩ := H
  refine guardM_y' hb_3 ?_
  refine pop_gtr .i64 t15_1 300 ?_
  refine pop_pickf' hb_3 ?_
  refine condM_b (fun hb_4 => ?_) (fun hb_4 => ?_)
  ·have H := H.1 hb_4
   exact H
  have H := H.2 hb_4
  refine H.mono fun rv_4 h_6 H => ?_
  obtain ⟨t18_1, rfl, hL_6, H⟩ := H
  refine eop_alloc 67 zer67 rfl hL_6 (fun b_3 h_7 hb_5 hf_3 hL_7 => ?_)
  refine uop_loc siz67 hL_7 0 rfl 0 [(Sl.v t18_1)] rfl rfl rfl (Nat.le_of_ble_eq_true rfl) (L' := [(b_3, [(Sl.v t18_1)]), (b_2, [(VI p1_1)]), (b_1, [(Sl.v g0_1)])]) rfl (fun h_8 hf_4 hL_8 => ?_)
  refine rop_locA agg32 hL_8 2 rfl 0 (vs := [(Sl.v g0_1)]) rfl rfl ?_
  refine pop_func _ _ _ ?_
  have H := H b_3 h_8 (Nat.le_trans (Fr.size (Fr.r (In []) _)) hb_5) (Fr.new (Fr.no' (Fr.r (In []) _) hf_3) (Nat.le_trans (Fr.size (Fr.r (In []) _)) hb_5) hf_4) hL_8
  refine H.mono fun rv_5 h_9 H => ?_
  obtain ⟨x_1, x_2, x_3, hL_9, H⟩ := H
  refine rop_loc one67 hL_9 0 rfl 0 (v := (Sl.v x_1)) rfl ?_
  exact H

/-! laws.eqWalkS -/
def u47 (P : Program) (a0_1 : Sl) (b1_1 : Sl) (h : Heap) (K : Value → Heap → Prop) : Prop :=
  ((!decide ((a0_1.n : Int) = (b1_1.n : Int))) = true →
  K (VB false) h) ∧
  ((!decide ((a0_1.n : Int) = (b1_1.n : Int))) = false →
  ∃ J_1 : Nat → Int → Heap → Prop, (∃ n0 : Nat, J_1 n0 0 h) ∧
  ∀ (n_1 : Nat) (i5_1 : Int) (h_1 : Heap), J_1 n_1 i5_1 h_1 → Vars h_1 [] →
  ((decide (i5_1 < (a0_1.n : Int))) = true →
  InB a0_1 i5_1 ∧
  ∃ t20_1 : Sl, ∃ t20_2 : Int, CellsAt h_1 (Sl.at a0_1 i5_1 2) [(Sl.v t20_1), (VI t20_2)] ∧
  InB b1_1 i5_1 ∧
  ∃ t24_1 : Sl, ∃ t24_2 : Int, CellsAt h_1 (Sl.at b1_1 i5_1 2) [(Sl.v t24_1), (VI t24_2)] ∧
  callM P 94 #[(Value.agg #[(Sl.v t20_1), (VI t20_2)]), (Value.agg #[(Sl.v t24_1), (VI t24_2)])] h_1 fun rv_1 h_2 => ∃ t25_1 : Bool, rv_1 = (VB t25_1) ∧ Vars h_2 [] ∧
  ((!t25_1) = true →
  K (VB false) h_2) ∧
  ((!t25_1) = false →
  ∃ m : Nat, m < n_1 ∧ J_1 m (w64 (i5_1 + 1)) h_2)) ∧
  ((decide (i5_1 < (a0_1.n : Int))) = false →
  K (VB true) h_1))
theorem v47 (a0_1 : Sl) (b1_1 : Sl) (h : Heap) (K : Value → Heap → Prop) (H : u47 Try.prog a0_1 b1_1 h K) : callM Try.prog 47 #[(Sl.v a0_1), (Sl.v b1_1)] h K := by
  refine c47 (Sl.v a0_1) (Sl.v b1_1) h K ?_
  unfold u47 at H
  unfold t47
  have hL : Vars h [] := .nil
  refine pop_len a0_1 _ _ sli67 ?_
  refine pop_len b1_1 _ _ sli67 ?_
  refine pop_ine .i64 _ _ (a0_1.n : Int) (b1_1.n : Int) ?_
  refine condM_b (fun hb_1 => ?_) (fun hb_1 => ?_)
  ·have H := H.1 hb_1
   exact H
  have H := H.2 hb_1
  obtain ⟨J_1, ⟨n_2, h0_1⟩, HB_1⟩ := H
  refine loop_intro (J := fun (n : Nat) (vs : List Value) (h' : Heap) => ∃ i5_1 : Int, vs = [(VI i5_1)] ∧ J_1 n i5_1 h' ∧ Vars h' []) n_2 ⟨0, rfl, h0_1, hL⟩ ?_
  intro I_1 mu_1 hI_1 junk_1 tv_1 h_1 hi_1
  obtain ⟨n_1, ⟨i5_1, hv, hJ_1, hL_1⟩, hn_1⟩ := hI_1 _ _ hi_1
  cases hv
  have H := HB_1 n_1 i5_1 h_1 hJ_1 hL_1
  refine pop_len a0_1 _ _ sli67 ?_
  refine pop_lss .i64 i5_1 (a0_1.n : Int) ?_
  refine condM_b (fun hb_2 => ?_) (fun hb_2 => ?_)
  rotate_left
  ·have H := H.2 hb_2
   exact H
  have H := H.1 hb_2
  obtain ⟨hi_2, H⟩ := H
  refine pop_index sli67 siz101 .i64 a0_1 i5_1 hi_2 ?_
  obtain ⟨t20_1, t20_2, hc_2, H⟩ := H
  refine rop_agg agg101 [(Sl.v t20_1), (VI t20_2)] rfl hc_2 ?_
  obtain ⟨hi_3, H⟩ := H
  refine pop_index sli67 siz101 .i64 b1_1 i5_1 hi_3 ?_
  obtain ⟨t24_1, t24_2, hc_1, H⟩ := H
  refine rop_agg agg101 [(Sl.v t24_1), (VI t24_2)] rfl hc_1 ?_
  refine H.mono fun rv_1 h_2 H => ?_
  obtain ⟨t25_1, rfl, hL_2, H⟩ := H
  refine pop_not t25_1 ?_
  refine condM_b (fun hb_3 => ?_) (fun hb_3 => ?_)
  ·have H := H.1 hb_3
   exact H
  have H := H.2 hb_3
  refine pop_add .i64 i5_1 1 ?_
  obtain ⟨m_1, hm_1, H⟩ := H
  exact hn_1 _ _ ⟨m_1, hm_1, (w64 (i5_1 + 1)), rfl, H, hL_2⟩

/-! laws.markWalkS -/
def u48 (P : Program) (a0_1 : Sl) (k1_1 : Int) (h : Heap) (K : Value → Heap → Prop) : Prop :=
  ∃ J_1 : Nat → Int → Int → Heap → Prop, (∃ n0 : Nat, J_1 n0 k1_1 0 h) ∧
  ∀ (n_1 : Nat) (k1_2 : Int) (i5_1 : Int) (h_1 : Heap), J_1 n_1 k1_2 i5_1 h_1 → Vars h_1 [] →
  ((decide (i5_1 < (a0_1.n : Int))) = true →
  InB a0_1 i5_1 ∧
  ∃ t16_1 : Sl, hcell h_1 (Addr.add (Sl.at a0_1 i5_1 2) 0) = some (Sl.v t16_1) ∧
  callM P 19 #[(Sl.v t16_1), (VI k1_2)] h_1 fun rv_1 h_2 => ∃ t18_1 : Int, rv_1 = (VI t18_1) ∧ Vars h_2 [] ∧
  InB a0_1 i5_1 ∧
  Writable h_2 (Addr.add (Sl.at a0_1 i5_1 2) 1) ∧ Vars (hset h_2 (Addr.add (Sl.at a0_1 i5_1 2) 1) (VI t18_1)) [] ∧
  ∀ h_3 : Heap, h_3 = hset h_2 (Addr.add (Sl.at a0_1 i5_1 2) 1) (VI t18_1) → Vars h_3 [] →
  ∃ m : Nat, m < n_1 ∧ J_1 m (w64 (t18_1 + 1)) (w64 (i5_1 + 1)) h_3) ∧
  ((decide (i5_1 < (a0_1.n : Int))) = false →
  K (VI k1_2) h_1)
theorem v48 (a0_1 : Sl) (k1_1 : Int) (h : Heap) (K : Value → Heap → Prop) (H : u48 Try.prog a0_1 k1_1 h K) : callM Try.prog 48 #[(Sl.v a0_1), (VI k1_1)] h K := by
  refine c48 (Sl.v a0_1) (VI k1_1) h K ?_
  unfold u48 at H
  unfold t48
  have hL : Vars h [] := .nil
  obtain ⟨J_1, ⟨n_2, h0_1⟩, HB_1⟩ := H
  refine loop_intro (J := fun (n : Nat) (vs : List Value) (h' : Heap) => ∃ k1_2 : Int, ∃ i5_1 : Int, vs = [(VI k1_2), (VI i5_1)] ∧ J_1 n k1_2 i5_1 h' ∧ Vars h' []) n_2 ⟨k1_1, 0, rfl, h0_1, hL⟩ ?_
  intro I_1 mu_1 hI_1 junk_1 tv_1 tv_2 h_1 hi_1
  obtain ⟨n_1, ⟨k1_2, i5_1, hv, hJ_1, hL_1⟩, hn_1⟩ := hI_1 _ _ hi_1
  cases hv
  have H := HB_1 n_1 k1_2 i5_1 h_1 hJ_1 hL_1
  refine pop_len a0_1 _ _ sli67 ?_
  refine pop_lss .i64 i5_1 (a0_1.n : Int) ?_
  refine condM_b (fun hb_1 => ?_) (fun hb_1 => ?_)
  rotate_left
  ·have H := H.2 hb_1
   exact H
  have H := H.1 hb_1
  obtain ⟨hi_2, H⟩ := H
  refine pop_index sli67 siz101 .i64 a0_1 i5_1 hi_2 ?_
  refine pop_fieldA 0 fld101_0 (Sl.at a0_1 i5_1 2) ?_
  obtain ⟨t16_1, hc_1, H⟩ := H
  refine rop_one one27 (Sl.v t16_1) hc_1 ?_
  refine H.mono fun rv_1 h_2 H => ?_
  obtain ⟨t18_1, rfl, hL_2, H⟩ := H
  obtain ⟨hi_3, H⟩ := H
  refine pop_index sli67 siz101 .i64 a0_1 i5_1 hi_3 ?_
  refine pop_fieldA 1 fld101_1 (Sl.at a0_1 i5_1 2) ?_
  obtain ⟨hw_1, hL_3, H⟩ := H
  refine uop_cell (v := (VI t18_1)) siz3 hw_1 rfl (fun h_3 he_1 => ?_)
  rw [← he_1] at hL_3
  have H := H h_3 he_1 hL_3
  refine pop_add .i64 t18_1 1 ?_
  refine pop_add .i64 i5_1 1 ?_
  obtain ⟨m_1, hm_1, H⟩ := H
  exact hn_1 _ _ ⟨m_1, hm_1, (w64 (t18_1 + 1)), (w64 (i5_1 + 1)), rfl, H, hL_3⟩

/-! laws.heldWalkS -/
def u49 (P : Program) (a0_1 : Sl) (k1_1 : Int) (h : Heap) (K : Value → Heap → Prop) : Prop :=
  ∃ J_1 : Nat → Int → Int → Heap → Prop, (∃ n0 : Nat, J_1 n0 k1_1 0 h) ∧
  ∀ (n_1 : Nat) (k1_2 : Int) (i5_1 : Int) (h_1 : Heap), J_1 n_1 k1_2 i5_1 h_1 → Vars h_1 [] →
  ((decide (i5_1 < (a0_1.n : Int))) = true →
  InB a0_1 i5_1 ∧
  ∃ t16_1 : Sl, hcell h_1 (Addr.add (Sl.at a0_1 i5_1 2) 0) = some (Sl.v t16_1) ∧
  callM P 20 #[(Sl.v t16_1), (VI k1_2)] h_1 fun rv_1 h_2 => ∃ t18_1 : Int, rv_1 = (VI t18_1) ∧ Vars h_2 [] ∧
  ((decide (t18_1 < 0)) = true →
  K (VI (-1)) h_2) ∧
  ((decide (t18_1 < 0)) = false →
  InB a0_1 i5_1 ∧
  ∃ t25_1 : Int, hcell h_2 (Addr.add (Sl.at a0_1 i5_1 2) 1) = some (VI t25_1) ∧
  ((!decide (t25_1 = t18_1)) = true →
  K (VI (-1)) h_2) ∧
  ((!decide (t25_1 = t18_1)) = false →
  ∃ m : Nat, m < n_1 ∧ J_1 m (w64 (t18_1 + 1)) (w64 (i5_1 + 1)) h_2))) ∧
  ((decide (i5_1 < (a0_1.n : Int))) = false →
  K (VI k1_2) h_1)
theorem v49 (a0_1 : Sl) (k1_1 : Int) (h : Heap) (K : Value → Heap → Prop) (H : u49 Try.prog a0_1 k1_1 h K) : callM Try.prog 49 #[(Sl.v a0_1), (VI k1_1)] h K := by
  refine c49 (Sl.v a0_1) (VI k1_1) h K ?_
  unfold u49 at H
  unfold t49
  have hL : Vars h [] := .nil
  obtain ⟨J_1, ⟨n_2, h0_1⟩, HB_1⟩ := H
  refine loop_intro (J := fun (n : Nat) (vs : List Value) (h' : Heap) => ∃ k1_2 : Int, ∃ i5_1 : Int, vs = [(VI k1_2), (VI i5_1)] ∧ J_1 n k1_2 i5_1 h' ∧ Vars h' []) n_2 ⟨k1_1, 0, rfl, h0_1, hL⟩ ?_
  intro I_1 mu_1 hI_1 junk_1 tv_1 tv_2 h_1 hi_1
  obtain ⟨n_1, ⟨k1_2, i5_1, hv, hJ_1, hL_1⟩, hn_1⟩ := hI_1 _ _ hi_1
  cases hv
  have H := HB_1 n_1 k1_2 i5_1 h_1 hJ_1 hL_1
  refine pop_len a0_1 _ _ sli67 ?_
  refine pop_lss .i64 i5_1 (a0_1.n : Int) ?_
  refine condM_b (fun hb_1 => ?_) (fun hb_1 => ?_)
  rotate_left
  ·have H := H.2 hb_1
   exact H
  have H := H.1 hb_1
  obtain ⟨hi_2, H⟩ := H
  refine pop_index sli67 siz101 .i64 a0_1 i5_1 hi_2 ?_
  refine pop_fieldA 0 fld101_0 (Sl.at a0_1 i5_1 2) ?_
  obtain ⟨t16_1, hc_2, H⟩ := H
  refine rop_one one27 (Sl.v t16_1) hc_2 ?_
  refine H.mono fun rv_1 h_2 H => ?_
  obtain ⟨t18_1, rfl, hL_2, H⟩ := H
  refine pop_lss .i64 t18_1 0 ?_
  refine condM_b (fun hb_2 => ?_) (fun hb_2 => ?_)
  ·have H := H.1 hb_2
   exact H
  have H := H.2 hb_2
  obtain ⟨hi_3, H⟩ := H
  refine pop_index sli67 siz101 .i64 a0_1 i5_1 hi_3 ?_
  refine pop_fieldA 1 fld101_1 (Sl.at a0_1 i5_1 2) ?_
  obtain ⟨t25_1, hc_1, H⟩ := H
  refine rop_one one3 (VI t25_1) hc_1 ?_
  refine pop_ine .i64 _ _ t25_1 t18_1 ?_
  refine condM_b (fun hb_3 => ?_) (fun hb_3 => ?_)
  ·have H := H.1 hb_3
   exact H
  have H := H.2 hb_3
  refine pop_add .i64 t18_1 1 ?_
  refine pop_add .i64 i5_1 1 ?_
  obtain ⟨m_1, hm_1, H⟩ := H
  exact hn_1 _ _ ⟨m_1, hm_1, (w64 (t18_1 + 1)), (w64 (i5_1 + 1)), rfl, H, hL_2⟩

/-! laws.szIntSS -/
def u50 (P : Program) (a0_1 : Sl) (left1_1 : Int) (h : Heap) (K : Value → Heap → Prop) : Prop :=
  ((decide ((w64 (left1_1 - (a0_1.n : Int))) < 0)) = true →
  K (VI (-1)) h) ∧
  ((decide ((w64 (left1_1 - (a0_1.n : Int))) < 0)) = false →
  ∃ J_1 : Nat → Int → Int → Heap → Prop, (∃ n0 : Nat, J_1 n0 (w64 (left1_1 - (a0_1.n : Int))) 0 h) ∧
  ∀ (n_1 : Nat) (left1_2 : Int) (i5_1 : Int) (h_1 : Heap), J_1 n_1 left1_2 i5_1 h_1 → Vars h_1 [] →
  ((decide (i5_1 < (a0_1.n : Int))) = true →
  InB a0_1 i5_1 ∧
  ∃ t21_1 : Sl, hcell h_1 (Sl.at a0_1 i5_1 1) = some (Sl.v t21_1) ∧
  callM P 95 #[(Sl.v t21_1), (VI left1_2)] h_1 fun rv_1 h_2 => ∃ t23_1 : Int, rv_1 = (VI t23_1) ∧ Vars h_2 [] ∧
  ((decide (t23_1 < 0)) = true →
  K (VI (-1)) h_2) ∧
  ((decide (t23_1 < 0)) = false →
  ∃ m : Nat, m < n_1 ∧ J_1 m t23_1 (w64 (i5_1 + 1)) h_2)) ∧
  ((decide (i5_1 < (a0_1.n : Int))) = false →
  K (VI left1_2) h_1))
theorem v50 (a0_1 : Sl) (left1_1 : Int) (h : Heap) (K : Value → Heap → Prop) (H : u50 Try.prog a0_1 left1_1 h K) : callM Try.prog 50 #[(Sl.v a0_1), (VI left1_1)] h K := by
  refine c50 (Sl.v a0_1) (VI left1_1) h K ?_
  unfold u50 at H
  unfold t50
  have hL : Vars h [] := .nil
  refine pop_len a0_1 _ _ sli22 ?_
  refine pop_sub .i64 left1_1 (a0_1.n : Int) ?_
  refine pop_lss .i64 (w64 (left1_1 - (a0_1.n : Int))) 0 ?_
  refine condM_b (fun hb_1 => ?_) (fun hb_1 => ?_)
  ·have H := H.1 hb_1
   exact H
  have H := H.2 hb_1
  obtain ⟨J_1, ⟨n_2, h0_1⟩, HB_1⟩ := H
  refine loop_intro (J := fun (n : Nat) (vs : List Value) (h' : Heap) => ∃ left1_2 : Int, ∃ i5_1 : Int, vs = [(VI left1_2), (VI i5_1)] ∧ J_1 n left1_2 i5_1 h' ∧ Vars h' []) n_2 ⟨(w64 (left1_1 - (a0_1.n : Int))), 0, rfl, h0_1, hL⟩ ?_
  intro I_1 mu_1 hI_1 junk_1 tv_1 tv_2 h_1 hi_1
  obtain ⟨n_1, ⟨left1_2, i5_1, hv, hJ_1, hL_1⟩, hn_1⟩ := hI_1 _ _ hi_1
  cases hv
  have H := HB_1 n_1 left1_2 i5_1 h_1 hJ_1 hL_1
  refine pop_len a0_1 _ _ sli22 ?_
  refine pop_lss .i64 i5_1 (a0_1.n : Int) ?_
  refine condM_b (fun hb_2 => ?_) (fun hb_2 => ?_)
  rotate_left
  ·have H := H.2 hb_2
   exact H
  have H := H.1 hb_2
  obtain ⟨hi_2, H⟩ := H
  refine pop_index sli22 siz27 .i64 a0_1 i5_1 hi_2 ?_
  obtain ⟨t21_1, hc_1, H⟩ := H
  refine rop_one one27 (Sl.v t21_1) hc_1 ?_
  refine H.mono fun rv_1 h_2 H => ?_
  obtain ⟨t23_1, rfl, hL_2, H⟩ := H
  refine pop_lss .i64 t23_1 0 ?_
  refine condM_b (fun hb_3 => ?_) (fun hb_3 => ?_)
  ·have H := H.1 hb_3
   exact H
  have H := H.2 hb_3
  refine pop_add .i64 i5_1 1 ?_
  obtain ⟨m_1, hm_1, H⟩ := H
  exact hn_1 _ _ ⟨m_1, hm_1, t23_1, (w64 (i5_1 + 1)), rfl, H, hL_2⟩

/-! laws.toIntSS -/
def u55 (P : Program) (a0_1 : Sl) (h : Heap) (K : Value → Heap → Prop) : Prop :=
  eop P (Instr.makeSlice 22 (VI (a0_1.n : Int)) (VI (a0_1.n : Int))) h fun rv_1 h_1 => ∃ t7_1 : Sl, rv_1 = (Sl.v t7_1) ∧ Vars h_1 [] ∧
  ∃ J_1 : Nat → Int → Heap → Prop, (∃ n0 : Nat, J_1 n0 0 h_1) ∧
  ∀ (n_1 : Nat) (i4_1 : Int) (h_2 : Heap), J_1 n_1 i4_1 h_2 → Vars h_2 [] →
  ((decide (i4_1 < (a0_1.n : Int))) = true →
  InB a0_1 i4_1 ∧
  ∃ t19_1 : Sl, hcell h_2 (Sl.at a0_1 i4_1 1) = some (Sl.v t19_1) ∧
  callM P 12 #[(Sl.v t19_1)] h_2 fun rv_2 h_3 => ∃ t20_1 : Sl, rv_2 = (Sl.v t20_1) ∧ Vars h_3 [] ∧
  InB t7_1 i4_1 ∧
  Writable h_3 (Sl.at t7_1 i4_1 1) ∧ Vars (hset h_3 (Sl.at t7_1 i4_1 1) (Sl.v t20_1)) [] ∧
  ∀ h_4 : Heap, h_4 = hset h_3 (Sl.at t7_1 i4_1 1) (Sl.v t20_1) → Vars h_4 [] →
  ∃ m : Nat, m < n_1 ∧ J_1 m (w64 (i4_1 + 1)) h_4) ∧
  ((decide (i4_1 < (a0_1.n : Int))) = false →
  K (Sl.v t7_1) h_2)
theorem v55 (a0_1 : Sl) (h : Heap) (K : Value → Heap → Prop) (H : u55 Try.prog a0_1 h K) : callM Try.prog 55 #[(Sl.v a0_1)] h K := by
  refine c55 (Sl.v a0_1) h K ?_
  unfold u55 at H
  unfold t55
  have hL : Vars h [] := .nil
  refine pop_len a0_1 _ _ sli22 ?_
  refine H.mono fun rv_1 h_1 H => ?_
  obtain ⟨t7_1, rfl, hL_1, H⟩ := H
  obtain ⟨J_1, ⟨n_2, h0_1⟩, HB_1⟩ := H
  refine loop_intro (J := fun (n : Nat) (vs : List Value) (h' : Heap) => ∃ i4_1 : Int, vs = [(VI i4_1)] ∧ J_1 n i4_1 h' ∧ Vars h' []) n_2 ⟨0, rfl, h0_1, hL_1⟩ ?_
  intro I_1 mu_1 hI_1 junk_1 tv_1 h_2 hi_1
  obtain ⟨n_1, ⟨i4_1, hv, hJ_1, hL_2⟩, hn_1⟩ := hI_1 _ _ hi_1
  cases hv
  have H := HB_1 n_1 i4_1 h_2 hJ_1 hL_2
  refine pop_len a0_1 _ _ sli22 ?_
  refine pop_lss .i64 i4_1 (a0_1.n : Int) ?_
  refine condM_b (fun hb_1 => ?_) (fun hb_1 => ?_)
  rotate_left
  ·have H := H.2 hb_1
   exact H
  have H := H.1 hb_1
  obtain ⟨hi_2, H⟩ := H
  refine pop_index sli22 siz27 .i64 a0_1 i4_1 hi_2 ?_
  obtain ⟨t19_1, hc_1, H⟩ := H
  refine rop_one one27 (Sl.v t19_1) hc_1 ?_
  refine H.mono fun rv_2 h_3 H => ?_
  obtain ⟨t20_1, rfl, hL_3, H⟩ := H
  obtain ⟨hi_3, H⟩ := H
  refine pop_index sli22 siz27 .i64 t7_1 i4_1 hi_3 ?_
  obtain ⟨hw_1, hL_4, H⟩ := H
  refine uop_cell (v := (Sl.v t20_1)) siz27 hw_1 rfl (fun h_4 he_1 => ?_)
  rw [← he_1] at hL_4
  have H := H h_4 he_1 hL_4
  refine pop_add .i64 i4_1 1 ?_
  obtain ⟨m_1, hm_1, H⟩ := H
  exact hn_1 _ _ ⟨m_1, hm_1, (w64 (i4_1 + 1)), rfl, H, hL_4⟩

/-! impl.isGraph -/
def u56 (P : Program) (g0_1 : Sl) (h : Heap) (K : Value → Heap → Prop) : Prop :=
  ∀ (b_1 : Nat) (b_2 : Nat) (h_3 : Heap), h.size ≤ b_1 → h.size ≤ b_2 → Fr (In []) h h_3 → Vars h_3 [(b_2, [(VI (g0_1.n : Int))]), (b_1, [(Sl.v g0_1)])] →
  callM P 102 #[(VI (g0_1.n : Int)), (VI 1), (VI 8)] h_3 fun rv_1 h_4 => ∃ t10_1 : Bool, rv_1 = (VB t10_1) ∧ Vars h_4 [(b_2, [(VI (g0_1.n : Int))]), (b_1, [(Sl.v g0_1)])] ∧
  ((!t10_1) = true →
  K (VB false) h_4) ∧
  ((!t10_1) = false →
  ∃ J_1 : Nat → Int → Int → Heap → Prop, (∃ n0 : Nat, J_1 n0 0 (g0_1.n : Int) h_4) ∧
  ∀ (n_1 : Nat) (t15_1 : Int) (x_1 : Int) (h_5 : Heap), J_1 n_1 t15_1 x_1 h_5 → Vars h_5 [(b_2, [(VI x_1)]), (b_1, [(Sl.v g0_1)])] →
  ((decide (t15_1 < (g0_1.n : Int))) = true →
  InB g0_1 t15_1 ∧
  ∃ t18_1 : Sl, hcell h_5 (Sl.at g0_1 t15_1 1) = some (Sl.v t18_1) ∧
  ((decide (5 < (t18_1.n : Int))) = true →
  K (VB false) h_5) ∧
  ((decide (5 < (t18_1.n : Int))) = false →
  callM P 103 #[(Sl.v t18_1), (Value.func (Fn.func 104) #[] #[(VP b_2 0)])] h_5 fun rv_2 h_6 => ∃ x_2 : Int, ∃ t25_1 : Bool, rv_2 = (VB t25_1) ∧ Vars h_6 [(b_2, [(VI x_2)]), (b_1, [(Sl.v g0_1)])] ∧
  (t25_1 = true →
  K (VB false) h_6) ∧
  (t25_1 = false →
  ∃ m : Nat, m < n_1 ∧ J_1 m (w64 (t15_1 + 1)) x_2 h_6))) ∧
  ((decide (t15_1 < (g0_1.n : Int))) = false →
  K (VB true) h_5))
theorem v56 (g0_1 : Sl) (h : Heap) (K : Value → Heap → Prop) (H : u56 Try.prog g0_1 h K) : callM Try.prog 56 #[(Value.agg #[(Sl.v g0_1)])] h K := by
  refine c56 (Value.agg #[(Sl.v g0_1)]) h K ?_
  unfold u56 at H
  unfold t56
  have hL : Vars h [] := .nil
  refine eop_box 32 (Value.agg #[(Sl.v g0_1)]) rfl hL (fun b_1 h_1 hb_1 hf_1 hL_1 => ?_)
  refine pop_field 0 fld32_0 b_1 0 ?_
  refine rop_loc one22 hL_1 0 rfl 0 (v := (Sl.v g0_1)) rfl ?_
  refine pop_len g0_1 _ _ sli22 ?_
  refine eop_alloc 3 zer3 rfl hL_1 (fun b_2 h_2 hb_2 hf_2 hL_2 => ?_)
  refine uop_loc siz3 hL_2 0 rfl 0 [(VI (g0_1.n : Int))] rfl rfl rfl (Nat.le_of_ble_eq_true rfl) (L' := [(b_2, [(VI (g0_1.n : Int))]), (b_1, [(Sl.v g0_1)])]) rfl (fun h_3 hf_3 hL_3 => ?_)
  refine rop_loc one3 hL_3 0 rfl 0 (v := (VI (g0_1.n : Int))) rfl ?_
  have H := H b_1 b_2 h_3 (Nat.le_trans (Fr.size (Fr.r (In []) _)) hb_1) (Nat.le_trans (Fr.size (Fr.no' (Fr.r (In []) _) hf_1)) hb_2) (Fr.new (Fr.no' (Fr.no' (Fr.r (In []) _) hf_1) hf_2) (Nat.le_trans (Fr.size (Fr.no' (Fr.r (In []) _) hf_1)) hb_2) hf_3) hL_3
  refine H.mono fun rv_1 h_4 H => ?_
  obtain ⟨t10_1, rfl, hL_4, H⟩ := H
  refine pop_not t10_1 ?_
  refine condM_b (fun hb_3 => ?_) (fun hb_3 => ?_)
  ·have H := H.1 hb_3
   exact H
  have H := H.2 hb_3
  refine pop_field 0 fld32_0 b_1 0 ?_
  refine rop_loc one22 hL_4 1 rfl 0 (v := (Sl.v g0_1)) rfl ?_
  refine pop_len g0_1 _ _ sli22 ?_
  obtain ⟨J_1, ⟨n_2, h0_1⟩, HB_1⟩ := H
  refine loop_intro (J := fun (n : Nat) (vs : List Value) (h' : Heap) => ∃ t15_1 : Int, ∃ x_1 : Int, vs = [(VI t15_1)] ∧ J_1 n t15_1 x_1 h' ∧ Vars h' [(b_2, [(VI x_1)]), (b_1, [(Sl.v g0_1)])]) n_2 ⟨0, (g0_1.n : Int), rfl, h0_1, hL_4⟩ ?_
  intro I_1 mu_1 hI_1 junk_1 tv_1 h_5 hi_1
  obtain ⟨n_1, ⟨t15_1, x_1, hv, hJ_1, hL_5⟩, hn_1⟩ := hI_1 _ _ hi_1
  cases hv
  have H := HB_1 n_1 t15_1 x_1 h_5 hJ_1 hL_5
  refine pop_lss .i64 t15_1 (g0_1.n : Int) ?_
  refine condM_b (fun hb_4 => ?_) (fun hb_4 => ?_)
  rotate_left
  ·have H := H.2 hb_4
   exact H
  have H := H.1 hb_4
  obtain ⟨hi_2, H⟩ := H
  refine pop_index sli22 siz27 .i64 g0_1 t15_1 hi_2 ?_
  obtain ⟨t18_1, hc_1, H⟩ := H
  refine rop_one one27 (Sl.v t18_1) hc_1 ?_
  refine pop_len t18_1 _ _ sli27 ?_
  refine pop_gtr .i64 (t18_1.n : Int) 5 ?_
  refine guardM_sf (fun hb_5 => ?_) (fun hb_5 => ?_)
  rotate_left
  ·have H := H.1 hb_5
   refine guardM_n' hb_5 (by decide) ?_
   refine guardM_n' hb_5 (by decide) ?_
   refine pop_pickt' hb_5 ?_
   refine condM_t ?_
   exact H
  have H := H.2 hb_5
  refine guardM_y' hb_5 ?_
  refine pop_func _ _ _ ?_
  refine guardM_y' hb_5 ?_
  refine H.mono fun rv_2 h_6 H => ?_
  obtain ⟨x_2, t25_1, rfl, hL_6, H⟩ := H
  refine pop_pickf' hb_5 ?_
  refine condM_b (fun hb_6 => ?_) (fun hb_6 => ?_)
  ·have H := H.1 hb_6
   exact H
  have H := H.2 hb_6
  refine pop_add .i64 t15_1 1 ?_
  obtain ⟨m_1, hm_1, H⟩ := H
  exact hn_1 _ _ ⟨m_1, hm_1, (w64 (t15_1 + 1)), x_2, rfl, H, hL_6⟩

/-! laws.eqIntSS -/
def u59 (P : Program) (a0_1 : Sl) (b1_1 : Sl) (h : Heap) (K : Value → Heap → Prop) : Prop :=
  ((!decide ((a0_1.n : Int) = (b1_1.n : Int))) = true →
  K (VB false) h) ∧
  ((!decide ((a0_1.n : Int) = (b1_1.n : Int))) = false →
  ∃ J_1 : Nat → Int → Heap → Prop, (∃ n0 : Nat, J_1 n0 0 h) ∧
  ∀ (n_1 : Nat) (i5_1 : Int) (h_1 : Heap), J_1 n_1 i5_1 h_1 → Vars h_1 [] →
  ((decide (i5_1 < (a0_1.n : Int))) = true →
  InB a0_1 i5_1 ∧
  ∃ t20_1 : Sl, hcell h_1 (Sl.at a0_1 i5_1 1) = some (Sl.v t20_1) ∧
  InB b1_1 i5_1 ∧
  ∃ t24_1 : Sl, hcell h_1 (Sl.at b1_1 i5_1 1) = some (Sl.v t24_1) ∧
  callM P 14 #[(Sl.v t20_1), (Sl.v t24_1)] h_1 fun rv_1 h_2 => ∃ t25_1 : Bool, rv_1 = (VB t25_1) ∧ Vars h_2 [] ∧
  ((!t25_1) = true →
  K (VB false) h_2) ∧
  ((!t25_1) = false →
  ∃ m : Nat, m < n_1 ∧ J_1 m (w64 (i5_1 + 1)) h_2)) ∧
  ((decide (i5_1 < (a0_1.n : Int))) = false →
  K (VB true) h_1))
theorem v59 (a0_1 : Sl) (b1_1 : Sl) (h : Heap) (K : Value → Heap → Prop) (H : u59 Try.prog a0_1 b1_1 h K) : callM Try.prog 59 #[(Sl.v a0_1), (Sl.v b1_1)] h K := by
  refine c59 (Sl.v a0_1) (Sl.v b1_1) h K ?_
  unfold u59 at H
  unfold t59
  have hL : Vars h [] := .nil
  refine pop_len a0_1 _ _ sli22 ?_
  refine pop_len b1_1 _ _ sli22 ?_
  refine pop_ine .i64 _ _ (a0_1.n : Int) (b1_1.n : Int) ?_
  refine condM_b (fun hb_1 => ?_) (fun hb_1 => ?_)
  ·have H := H.1 hb_1
   exact H
  have H := H.2 hb_1
  obtain ⟨J_1, ⟨n_2, h0_1⟩, HB_1⟩ := H
  refine loop_intro (J := fun (n : Nat) (vs : List Value) (h' : Heap) => ∃ i5_1 : Int, vs = [(VI i5_1)] ∧ J_1 n i5_1 h' ∧ Vars h' []) n_2 ⟨0, rfl, h0_1, hL⟩ ?_
  intro I_1 mu_1 hI_1 junk_1 tv_1 h_1 hi_1
  obtain ⟨n_1, ⟨i5_1, hv, hJ_1, hL_1⟩, hn_1⟩ := hI_1 _ _ hi_1
  cases hv
  have H := HB_1 n_1 i5_1 h_1 hJ_1 hL_1
  refine pop_len a0_1 _ _ sli22 ?_
  refine pop_lss .i64 i5_1 (a0_1.n : Int) ?_
  refine condM_b (fun hb_2 => ?_) (fun hb_2 => ?_)
  rotate_left
  ·have H := H.2 hb_2
   exact H
  have H := H.1 hb_2
  obtain ⟨hi_2, H⟩ := H
  refine pop_index sli22 siz27 .i64 a0_1 i5_1 hi_2 ?_
  obtain ⟨t20_1, hc_2, H⟩ := H
  refine rop_one one27 (Sl.v t20_1) hc_2 ?_
  obtain ⟨hi_3, H⟩ := H
  refine pop_index sli22 siz27 .i64 b1_1 i5_1 hi_3 ?_
  obtain ⟨t24_1, hc_1, H⟩ := H
  refine rop_one one27 (Sl.v t24_1) hc_1 ?_
  refine H.mono fun rv_1 h_2 H => ?_
  obtain ⟨t25_1, rfl, hL_2, H⟩ := H
  refine pop_not t25_1 ?_
  refine condM_b (fun hb_3 => ?_) (fun hb_3 => ?_)
  ·have H := H.1 hb_3
   exact H
  have H := H.2 hb_3
  refine pop_add .i64 i5_1 1 ?_
  obtain ⟨m_1, hm_1, H⟩ := H
  exact hn_1 _ _ ⟨m_1, hm_1, (w64 (i5_1 + 1)), rfl, H, hL_2⟩

/-! laws.markIntSS -/
def u60 (P : Program) (a0_1 : Sl) (k1_1 : Int) (h : Heap) (K : Value → Heap → Prop) : Prop :=
  ∃ J_1 : Nat → Int → Int → Heap → Prop, (∃ n0 : Nat, J_1 n0 k1_1 0 h) ∧
  ∀ (n_1 : Nat) (k1_2 : Int) (i5_1 : Int) (h_1 : Heap), J_1 n_1 k1_2 i5_1 h_1 → Vars h_1 [] →
  ((decide (i5_1 < (a0_1.n : Int))) = true →
  InB a0_1 i5_1 ∧
  ∃ t15_1 : Sl, hcell h_1 (Sl.at a0_1 i5_1 1) = some (Sl.v t15_1) ∧
  callM P 19 #[(Sl.v t15_1), (VI k1_2)] h_1 fun rv_1 h_2 => ∃ t17_1 : Int, rv_1 = (VI t17_1) ∧ Vars h_2 [] ∧
  ∃ m : Nat, m < n_1 ∧ J_1 m t17_1 (w64 (i5_1 + 1)) h_2) ∧
  ((decide (i5_1 < (a0_1.n : Int))) = false →
  K (VI k1_2) h_1)
theorem v60 (a0_1 : Sl) (k1_1 : Int) (h : Heap) (K : Value → Heap → Prop) (H : u60 Try.prog a0_1 k1_1 h K) : callM Try.prog 60 #[(Sl.v a0_1), (VI k1_1)] h K := by
  refine c60 (Sl.v a0_1) (VI k1_1) h K ?_
  unfold u60 at H
  unfold t60
  have hL : Vars h [] := .nil
  obtain ⟨J_1, ⟨n_2, h0_1⟩, HB_1⟩ := H
  refine loop_intro (J := fun (n : Nat) (vs : List Value) (h' : Heap) => ∃ k1_2 : Int, ∃ i5_1 : Int, vs = [(VI k1_2), (VI i5_1)] ∧ J_1 n k1_2 i5_1 h' ∧ Vars h' []) n_2 ⟨k1_1, 0, rfl, h0_1, hL⟩ ?_
  intro I_1 mu_1 hI_1 junk_1 tv_1 tv_2 h_1 hi_1
  obtain ⟨n_1, ⟨k1_2, i5_1, hv, hJ_1, hL_1⟩, hn_1⟩ := hI_1 _ _ hi_1
  cases hv
  have H := HB_1 n_1 k1_2 i5_1 h_1 hJ_1 hL_1
  refine pop_len a0_1 _ _ sli22 ?_
  refine pop_lss .i64 i5_1 (a0_1.n : Int) ?_
  refine condM_b (fun hb_1 => ?_) (fun hb_1 => ?_)
  rotate_left
  ·have H := H.2 hb_1
   exact H
  have H := H.1 hb_1
  obtain ⟨hi_2, H⟩ := H
  refine pop_index sli22 siz27 .i64 a0_1 i5_1 hi_2 ?_
  obtain ⟨t15_1, hc_1, H⟩ := H
  refine rop_one one27 (Sl.v t15_1) hc_1 ?_
  refine H.mono fun rv_1 h_2 H => ?_
  obtain ⟨t17_1, rfl, hL_2, H⟩ := H
  refine pop_add .i64 i5_1 1 ?_
  obtain ⟨m_1, hm_1, H⟩ := H
  exact hn_1 _ _ ⟨m_1, hm_1, t17_1, (w64 (i5_1 + 1)), rfl, H, hL_2⟩

/-! impl.has -/
def u65 (P : Program) (g0_1 : Sl) (places1_1 : Sl) (h : Heap) (K : Value → Heap → Prop) : Prop :=
  ∀ (b_1 : Nat) (h_1 : Heap), h.size ≤ b_1 → Fr (In []) h h_1 → Vars h_1 [(b_1, [(Sl.v g0_1)])] →
  callM P 56 #[(Value.agg #[(Sl.v g0_1)])] h_1 fun rv_1 h_2 => ∃ t6_1 : Bool, rv_1 = (VB t6_1) ∧ Vars h_2 [(b_1, [(Sl.v g0_1)])] ∧
  (t6_1 = true →
  callM P 103 #[(Sl.v places1_1), (Value.func (Fn.func 111) #[] #[(VP b_1 0)])] h_2 fun rv_2 h_3 => ∃ x_1 : Sl, ∃ t10_1 : Bool, rv_2 = (VB t10_1) ∧ Vars h_3 [(b_1, [(Sl.v x_1)])] ∧
  K (VB (!t10_1)) h_3) ∧
  (t6_1 = false →
  K (VB false) h_2)
theorem v65 (g0_1 : Sl) (places1_1 : Sl) (h : Heap) (K : Value → Heap → Prop) (H : u65 Try.prog g0_1 places1_1 h K) : callM Try.prog 65 #[(Value.agg #[(Sl.v g0_1)]), (Sl.v places1_1)] h K := by
  refine c65 (Value.agg #[(Sl.v g0_1)]) (Sl.v places1_1) h K ?_
  unfold u65 at H
  unfold t65
  have hL : Vars h [] := .nil
  refine eop_box 32 (Value.agg #[(Sl.v g0_1)]) rfl hL (fun b_1 h_1 hb_1 hf_1 hL_1 => ?_)
  refine rop_locA agg32 hL_1 0 rfl 0 (vs := [(Sl.v g0_1)]) rfl rfl ?_
  have H := H b_1 h_1 (Nat.le_trans (Fr.size (Fr.r (In []) _)) hb_1) (Fr.no' (Fr.r (In []) _) hf_1) hL_1
  refine H.mono fun rv_1 h_2 H => ?_
  obtain ⟨t6_1, rfl, hL_2, H⟩ := H
  refine guardM_st (fun hb_2 => ?_) (fun hb_2 => ?_)
  rotate_left
  ·have H := H.2 hb_2
   refine guardM_n' hb_2 (by decide) ?_
   refine guardM_n' hb_2 (by decide) ?_
   refine guardM_n' hb_2 (by decide) ?_
   refine pop_pickf' hb_2 ?_
   exact H
  have H := H.1 hb_2
  refine guardM_y' hb_2 ?_
  refine pop_func _ _ _ ?_
  refine guardM_y' hb_2 ?_
  refine H.mono fun rv_2 h_3 H => ?_
  obtain ⟨x_1, t10_1, rfl, hL_3, H⟩ := H
  refine guardM_y' hb_2 ?_
  refine pop_not t10_1 ?_
  refine pop_pickt' hb_2 ?_
  exact H

/-! spec.grPlace -/
def u67 (P : Program) (g0_1 : Sl) (p1_1 : Int) (h : Heap) (K : Value → Heap → Prop) : Prop :=
  ∀ (b_1 : Nat) (h_1 : Heap), h.size ≤ b_1 → Fr (In []) h h_1 → Vars h_1 [(b_1, [(Sl.v g0_1)])] →
  callM P 73 #[(Value.agg #[(Sl.v g0_1)])] h_1 fun rv_1 h_2 => ∃ t6_1 : Bool, rv_1 = (VB t6_1) ∧ Vars h_2 [(b_1, [(Sl.v g0_1)])] ∧
  (t6_1 = true →
  callM P 113 #[(VI p1_1), (VI 0), (VI (w64 ((g0_1.n : Int) - 1)))] h_2 fun rv_2 h_3 => ∃ t13_1 : Bool, rv_2 = (VB t13_1) ∧ Vars h_3 [(b_1, [(Sl.v g0_1)])] ∧
  K (VB t13_1) h_3) ∧
  (t6_1 = false →
  K (VB false) h_2)
theorem v67 (g0_1 : Sl) (p1_1 : Int) (h : Heap) (K : Value → Heap → Prop) (H : u67 Try.prog g0_1 p1_1 h K) : callM Try.prog 67 #[(Value.agg #[(Sl.v g0_1)]), (VI p1_1)] h K := by
  refine c67 (Value.agg #[(Sl.v g0_1)]) (VI p1_1) h K ?_
  unfold u67 at H
  unfold t67
  have hL : Vars h [] := .nil
  refine eop_box 32 (Value.agg #[(Sl.v g0_1)]) rfl hL (fun b_1 h_1 hb_1 hf_1 hL_1 => ?_)
  refine rop_locA agg32 hL_1 0 rfl 0 (vs := [(Sl.v g0_1)]) rfl rfl ?_
  have H := H b_1 h_1 (Nat.le_trans (Fr.size (Fr.r (In []) _)) hb_1) (Fr.no' (Fr.r (In []) _) hf_1) hL_1
  refine H.mono fun rv_1 h_2 H => ?_
  obtain ⟨t6_1, rfl, hL_2, H⟩ := H
  refine guardM_st (fun hb_2 => ?_) (fun hb_2 => ?_)
  rotate_left
  ·have H := H.2 hb_2
   refine guardM_n' hb_2 (by decide) ?_
   refine guardM_n' hb_2 (by decide) ?_
   refine guardM_n' hb_2 (by decide) ?_
   refine guardM_n' hb_2 (by decide) ?_
   refine guardM_n' hb_2 (by decide) ?_
   refine pop_pickf' hb_2 ?_
   exact H
  have H := H.1 hb_2
  refine guardM_y' hb_2 ?_
  refine pop_field 0 fld32_0 b_1 0 ?_
  refine guardM_y' hb_2 ?_
  refine rop_loc one22 hL_2 0 rfl 0 (v := (Sl.v g0_1)) rfl ?_
  refine guardM_y' hb_2 ?_
  refine pop_len g0_1 _ _ sli22 ?_
  refine guardM_y' hb_2 ?_
  refine pop_sub .i64 (g0_1.n : Int) 1 ?_
  refine guardM_y' hb_2 ?_
  refine H.mono fun rv_2 h_3 H => ?_
  obtain ⟨t13_1, rfl, hL_3, H⟩ := H
  refine pop_pickt' hb_2 ?_
  exact H

/-! slices.Contains[[]int,int] -/
def u72 (P : Program) (s0_1 : Sl) (v1_1 : Int) (h : Heap) (K : Value → Heap → Prop) : Prop :=
  callM P 114 #[(Sl.v s0_1), (VI v1_1)] h fun rv_1 h_1 => ∃ t7_1 : Int, rv_1 = (VI t7_1) ∧ Vars h_1 [] ∧
  K (VB (decide (0 ≤ t7_1))) h_1
theorem v72 (s0_1 : Sl) (v1_1 : Int) (h : Heap) (K : Value → Heap → Prop) (H : u72 Try.prog s0_1 v1_1 h K) : callM Try.prog 72 #[(Sl.v s0_1), (VI v1_1)] h K := by
  refine c72 (Sl.v s0_1) (VI v1_1) h K ?_
  unfold u72 at H
  unfold t72
  have hL : Vars h [] := .nil
  refine H.mono fun rv_1 h_1 H => ?_
  obtain ⟨t7_1, rfl, hL_1, H⟩ := H
  refine pop_geq .i64 t7_1 0 ?_
  exact H

/-! spec.grGood -/
def u73 (P : Program) (g0_1 : Sl) (h : Heap) (K : Value → Heap → Prop) : Prop :=
  ∀ (b_1 : Nat) (h_1 : Heap), h.size ≤ b_1 → Fr (In []) h h_1 → Vars h_1 [(b_1, [(Sl.v g0_1)])] →
  callM P 113 #[(VI (g0_1.n : Int)), (VI 1), (VI 8)] h_1 fun rv_1 h_2 => ∃ t10_1 : Bool, rv_1 = (VB t10_1) ∧ Vars h_2 [(b_1, [(Sl.v g0_1)])] ∧
  ((!t10_1) = true →
  K (VB false) h_2) ∧
  ((!t10_1) = false →
  ∃ J_1 : Nat → Int → Heap → Prop, (∃ n0 : Nat, J_1 n0 0 h_2) ∧
  ∀ (n_1 : Nat) (t15_1 : Int) (h_3 : Heap), J_1 n_1 t15_1 h_3 → Vars h_3 [(b_1, [(Sl.v g0_1)])] →
  ((decide (t15_1 < (g0_1.n : Int))) = true →
  InB g0_1 t15_1 ∧
  ∃ t18_1 : Sl, hcell h_3 (Sl.at g0_1 t15_1 1) = some (Sl.v t18_1) ∧
  ((decide (5 < (t18_1.n : Int))) = true →
  K (VB false) h_3) ∧
  ((decide (5 < (t18_1.n : Int))) = false →
  callM P 96 #[(Sl.v t18_1), (VI 0), (VI (w64 ((g0_1.n : Int) - 1)))] h_3 fun rv_2 h_4 => ∃ t26_1 : Bool, rv_2 = (VB t26_1) ∧ Vars h_4 [(b_1, [(Sl.v g0_1)])] ∧
  ((!t26_1) = true →
  K (VB false) h_4) ∧
  ((!t26_1) = false →
  ∃ m : Nat, m < n_1 ∧ J_1 m (w64 (t15_1 + 1)) h_4))) ∧
  ((decide (t15_1 < (g0_1.n : Int))) = false →
  K (VB true) h_3))
theorem v73 (g0_1 : Sl) (h : Heap) (K : Value → Heap → Prop) (H : u73 Try.prog g0_1 h K) : callM Try.prog 73 #[(Value.agg #[(Sl.v g0_1)])] h K := by
  refine c73 (Value.agg #[(Sl.v g0_1)]) h K ?_
  unfold u73 at H
  unfold t73
  have hL : Vars h [] := .nil
  refine eop_box 32 (Value.agg #[(Sl.v g0_1)]) rfl hL (fun b_1 h_1 hb_1 hf_1 hL_1 => ?_)
  refine pop_field 0 fld32_0 b_1 0 ?_
  refine rop_loc one22 hL_1 0 rfl 0 (v := (Sl.v g0_1)) rfl ?_
  refine pop_len g0_1 _ _ sli22 ?_
  have H := H b_1 h_1 (Nat.le_trans (Fr.size (Fr.r (In []) _)) hb_1) (Fr.no' (Fr.r (In []) _) hf_1) hL_1
  refine H.mono fun rv_1 h_2 H => ?_
  obtain ⟨t10_1, rfl, hL_2, H⟩ := H
  refine pop_not t10_1 ?_
  refine condM_b (fun hb_2 => ?_) (fun hb_2 => ?_)
  ·have H := H.1 hb_2
   exact H
  have H := H.2 hb_2
  refine pop_field 0 fld32_0 b_1 0 ?_
  refine rop_loc one22 hL_2 0 rfl 0 (v := (Sl.v g0_1)) rfl ?_
  refine pop_len g0_1 _ _ sli22 ?_
  obtain ⟨J_1, ⟨n_2, h0_1⟩, HB_1⟩ := H
  refine loop_intro (J := fun (n : Nat) (vs : List Value) (h' : Heap) => ∃ t15_1 : Int, vs = [(VI t15_1)] ∧ J_1 n t15_1 h' ∧ Vars h' [(b_1, [(Sl.v g0_1)])]) n_2 ⟨0, rfl, h0_1, hL_2⟩ ?_
  intro I_1 mu_1 hI_1 junk_1 tv_1 h_3 hi_1
  obtain ⟨n_1, ⟨t15_1, hv, hJ_1, hL_3⟩, hn_1⟩ := hI_1 _ _ hi_1
  cases hv
  have H := HB_1 n_1 t15_1 h_3 hJ_1 hL_3
  refine pop_lss .i64 t15_1 (g0_1.n : Int) ?_
  refine condM_b (fun hb_3 => ?_) (fun hb_3 => ?_)
  rotate_left
  ·have H := H.2 hb_3
   exact H
  have H := H.1 hb_3
  obtain ⟨hi_2, H⟩ := H
  refine pop_index sli22 siz27 .i64 g0_1 t15_1 hi_2 ?_
  obtain ⟨t18_1, hc_1, H⟩ := H
  refine rop_one one27 (Sl.v t18_1) hc_1 ?_
  refine pop_len t18_1 _ _ sli27 ?_
  refine pop_gtr .i64 (t18_1.n : Int) 5 ?_
  refine guardM_sf (fun hb_4 => ?_) (fun hb_4 => ?_)
  rotate_left
  ·have H := H.1 hb_4
   refine guardM_n' hb_4 (by decide) ?_
   refine guardM_n' hb_4 (by decide) ?_
   refine guardM_n' hb_4 (by decide) ?_
   refine guardM_n' hb_4 (by decide) ?_
   refine pop_pickt' hb_4 ?_
   refine condM_t ?_
   exact H
  have H := H.2 hb_4
  refine guardM_y' hb_4 ?_
  refine guardM_y' hb_4 ?_
  refine pop_sub .i64 (g0_1.n : Int) 1 ?_
  refine guardM_y' hb_4 ?_
  refine H.mono fun rv_2 h_4 H => ?_
  obtain ⟨t26_1, rfl, hL_4, H⟩ := H
  refine guardM_y' hb_4 ?_
  refine pop_not t26_1 ?_
  refine pop_pickf' hb_4 ?_
  refine condM_b (fun hb_5 => ?_) (fun hb_5 => ?_)
  ·have H := H.1 hb_5
   exact H
  have H := H.2 hb_5
  refine pop_add .i64 t15_1 1 ?_
  obtain ⟨m_1, hm_1, H⟩ := H
  exact hn_1 _ _ ⟨m_1, hm_1, (w64 (t15_1 + 1)), rfl, H, hL_4⟩

/-! spec.trDet -/
def u84 (P : Program) (m0_1 : Sl) (h : Heap) (K : Value → Heap → Prop) : Prop :=
  ((decide ((m0_1.n : Int) = 0)) = true →
  K (VI 1) h) ∧
  ((decide ((m0_1.n : Int) = 0)) = false →
  InB m0_1 0 ∧
  ∃ t15_1 : Sl, hcell h (Sl.at m0_1 0 1) = some (Sl.v t15_1) ∧
  ∃ J_1 : Nat → Int → Int → Int → Heap → Prop, (∃ n0 : Nat, J_1 n0 0 1 0 h) ∧
  ∀ (n_1 : Nat) (sum3_1 : Int) (sign4_1 : Int) (t17_1 : Int) (h_1 : Heap), J_1 n_1 sum3_1 sign4_1 t17_1 h_1 → Vars h_1 [] →
  ((decide (t17_1 < (t15_1.n : Int))) = true →
  InB t15_1 t17_1 ∧
  ∃ t21_1 : Int, hcell h_1 (Sl.at t15_1 t17_1 1) = some (VI t21_1) ∧
  ∃ J_2 : Int → Heap → Prop, (((!decide (t21_1 = 0)) = true →
  pop P (Instr.sliceAt 22 (Sl.v m0_1) (some (Value.int IntKind.i64 1)) none none) fun rv_1 => ∃ t25_1 : Sl, rv_1 = (Sl.v t25_1) ∧ 
  ∃ J_3 : Nat → Sl → Int → Heap → Prop, (∃ n0 : Nat, J_3 n0 nilSl 0 h_1) ∧
  ∀ (n_2 : Nat) (rest7_1 : Sl) (t27_1 : Int) (h_2 : Heap), J_3 n_2 rest7_1 t27_1 h_2 → Vars h_2 [] →
  ((decide (t27_1 < (t25_1.n : Int))) = true →
  InB t25_1 t27_1 ∧
  ∃ t30_1 : Sl, hcell h_2 (Sl.at t25_1 t27_1 1) = some (Sl.v t30_1) ∧
  pop P (Instr.sliceAt 27 (Sl.v t30_1) none (some (VI t17_1)) none) fun rv_2 => ∃ t34_1 : Sl, rv_2 = (Sl.v t34_1) ∧ 
  pop P (Instr.sliceAt 27 (Sl.v t30_1) (some (VI (w64 (t17_1 + 1)))) none none) fun rv_3 => ∃ t39_1 : Sl, rv_3 = (Sl.v t39_1) ∧ 
  callM P 87 #[(Sl.v t34_1)] h_2 fun rv_4 h_3 => ∃ t35_1 : Sl, rv_4 = (Sl.v t35_1) ∧ Vars h_3 [] ∧
  eop P (appS 27 27 27 (Sl.v t35_1) (Sl.v t39_1)) h_3 fun rv_5 h_4 => ∃ t40_1 : Sl, rv_5 = (Sl.v t40_1) ∧ Vars h_4 [] ∧
  eop P (Instr.buildSlice 22 1 #[(0, (Sl.v t40_1))]) h_4 fun rv_6 h_5 => ∃ t41_1 : Sl, rv_6 = (Sl.v t41_1) ∧ Vars h_5 [] ∧
  eop P (appS 22 22 22 (Sl.v rest7_1) (Sl.v t41_1)) h_5 fun rv_7 h_6 => ∃ t42_1 : Sl, rv_7 = (Sl.v t42_1) ∧ Vars h_6 [] ∧
  ∃ m : Nat, m < n_2 ∧ J_3 m t42_1 (w64 (t27_1 + 1)) h_6) ∧
  ((decide (t27_1 < (t25_1.n : Int))) = false →
  callM P 84 #[(Sl.v rest7_1)] h_2 fun rv_8 h_7 => ∃ t49_1 : Int, rv_8 = (VI t49_1) ∧ Vars h_7 [] ∧
  J_2 (w64 (sum3_1 + (w64 ((w64 (sign4_1 * t21_1)) * t49_1)))) h_7)) ∧
  ((!decide (t21_1 = 0)) = false →
  J_2 sum3_1 h_1)) ∧
  ∀ (x_1 : Int) (h_8 : Heap), J_2 x_1 h_8 → Vars h_8 [] →
  ∃ m : Nat, m < n_1 ∧ J_1 m x_1 (w64 (0 - sign4_1)) (w64 (t17_1 + 1)) h_8) ∧
  ((decide (t17_1 < (t15_1.n : Int))) = false →
  K (VI sum3_1) h_1))
theorem v84 (m0_1 : Sl) (h : Heap) (K : Value → Heap → Prop) (H : u84 Try.prog m0_1 h K) : callM Try.prog 84 #[(Sl.v m0_1)] h K := by
  refine c84 (Sl.v m0_1) h K ?_
  unfold u84 at H
  unfold t84
  have hL : Vars h [] := .nil
  refine pop_len m0_1 _ _ sli22 ?_
  refine pop_ieq .i64 _ _ (m0_1.n : Int) 0 ?_
  refine condM_b (fun hb_1 => ?_) (fun hb_1 => ?_)
  ·have H := H.1 hb_1
   exact H
  have H := H.2 hb_1
  obtain ⟨hi_1, H⟩ := H
  refine pop_index sli22 siz27 .i64 m0_1 0 hi_1 ?_
  obtain ⟨t15_1, hc_3, H⟩ := H
  refine rop_one one27 (Sl.v t15_1) hc_3 ?_
  refine pop_len t15_1 _ _ sli27 ?_
  obtain ⟨J_1, ⟨n_4, h0_2⟩, HB_3⟩ := H
  refine loop_intro (J := fun (n : Nat) (vs : List Value) (h' : Heap) => ∃ sum3_1 : Int, ∃ sign4_1 : Int, ∃ t17_1 : Int, vs = [(VI sum3_1), (VI sign4_1), (VI t17_1)] ∧ J_1 n sum3_1 sign4_1 t17_1 h' ∧ Vars h' []) n_4 ⟨0, 1, 0, rfl, h0_2, hL⟩ ?_
  intro I_2 mu_2 hI_2 junk_1 tv_4 tv_5 tv_6 h_1 hi_2
  obtain ⟨n_1, ⟨sum3_1, sign4_1, t17_1, hv, hJ_1, hL_1⟩, hn_1⟩ := hI_2 _ _ hi_2
  cases hv
  have H := HB_3 n_1 sum3_1 sign4_1 t17_1 h_1 hJ_1 hL_1
  refine pop_lss .i64 t17_1 (t15_1.n : Int) ?_
  refine condM_b (fun hb_2 => ?_) (fun hb_2 => ?_)
  rotate_left
  ·have H := H.2 hb_2
   exact H
  have H := H.1 hb_2
  obtain ⟨hi_3, H⟩ := H
  refine pop_index sli27 siz3 .i64 t15_1 t17_1 hi_3 ?_
  obtain ⟨t21_1, hc_2, H⟩ := H
  refine rop_one one3 (VI t21_1) hc_2 ?_
  obtain ⟨J_2, H, HB_2⟩ := H
  refine ⟨fun (vs : List Value) (h' : Heap) => ∃ x_1 : Int, vs = [(VI x_1)] ∧ J_2 x_1 h' ∧ Vars h' [], ?_, ?_⟩
  ·refine pop_ine .i64 _ _ t21_1 0 ?_
   refine condM_b (fun hb_3 => ?_) (fun hb_3 => ?_)
   rotate_left
   ·have H := H.2 hb_3
    exact ⟨sum3_1, rfl, H, hL_1⟩
   have H := H.1 hb_3
   refine H.mono fun rv_1 H => ?_
   obtain ⟨t25_1, rfl, H⟩ := H
   refine pop_len t25_1 _ _ sli22 ?_
   obtain ⟨J_3, ⟨n_3, h0_1⟩, HB_1⟩ := H
   refine loop_intro (J := fun (n : Nat) (vs : List Value) (h' : Heap) => ∃ rest7_1 : Sl, ∃ t27_1 : Int, vs = [(Sl.v rest7_1), (VI t27_1)] ∧ J_3 n rest7_1 t27_1 h' ∧ Vars h' []) n_3 ⟨nilSl, 0, rfl, h0_1, hL_1⟩ ?_
   intro I_1 mu_1 hI_1 junk_2 tv_1 tv_2 h_2 hi_4
   obtain ⟨n_2, ⟨rest7_1, t27_1, hv, hJ_2, hL_2⟩, hn_2⟩ := hI_1 _ _ hi_4
   cases hv
   have H := HB_1 n_2 rest7_1 t27_1 h_2 hJ_2 hL_2
   refine pop_lss .i64 t27_1 (t25_1.n : Int) ?_
   refine condM_b (fun hb_4 => ?_) (fun hb_4 => ?_)
   rotate_left
   ·have H := H.2 hb_4
    refine pop_mul .i64 sign4_1 t21_1 ?_
    refine H.mono fun rv_8 h_7 H => ?_
    obtain ⟨t49_1, rfl, hL_7, H⟩ := H
    refine pop_mul .i64 (w64 (sign4_1 * t21_1)) t49_1 ?_
    refine pop_add .i64 sum3_1 (w64 ((w64 (sign4_1 * t21_1)) * t49_1)) ?_
    exact ⟨(w64 (sum3_1 + (w64 ((w64 (sign4_1 * t21_1)) * t49_1)))), rfl, H, hL_7⟩
   have H := H.1 hb_4
   obtain ⟨hi_5, H⟩ := H
   refine pop_index sli22 siz27 .i64 t25_1 t27_1 hi_5 ?_
   obtain ⟨t30_1, hc_1, H⟩ := H
   refine rop_one one27 (Sl.v t30_1) hc_1 ?_
   refine H.mono fun rv_2 H => ?_
   obtain ⟨t34_1, rfl, H⟩ := H
   refine pop_add .i64 t17_1 1 ?_
   refine H.mono fun rv_3 H => ?_
   obtain ⟨t39_1, rfl, H⟩ := H
   refine H.mono fun rv_4 h_3 H => ?_
   obtain ⟨t35_1, rfl, hL_3, H⟩ := H
   refine H.mono fun rv_5 h_4 H => ?_
   obtain ⟨t40_1, rfl, hL_4, H⟩ := H
   refine H.mono fun rv_6 h_5 H => ?_
   obtain ⟨t41_1, rfl, hL_5, H⟩ := H
   refine H.mono fun rv_7 h_6 H => ?_
   obtain ⟨t42_1, rfl, hL_6, H⟩ := H
   refine pop_add .i64 t27_1 1 ?_
   obtain ⟨m_1, hm_1, H⟩ := H
   exact hn_2 _ _ ⟨m_1, hm_1, t42_1, (w64 (t27_1 + 1)), rfl, H, hL_6⟩
  intro junk_3 tv_3 h_8
  rintro ⟨x_1, hv, hJ_3, hL_8⟩
  cases hv
  have H := HB_2 x_1 h_8 hJ_3 hL_8
  refine pop_neg .i64 sign4_1 ?_
  refine pop_add .i64 t17_1 1 ?_
  obtain ⟨m_2, hm_2, H⟩ := H
  exact hn_1 _ _ ⟨m_2, hm_2, x_1, (w64 (0 - sign4_1)), (w64 (t17_1 + 1)), rfl, H, hL_8⟩

/-! spec.trLaplace -/
def u85 (P : Program) (g0_1 : Sl) (sink1_1 : Int) (h : Heap) (K : Value → Heap → Prop) : Prop :=
  ∀ (b_1 : Nat) (h_1 : Heap), h.size ≤ b_1 → Fr (In []) h h_1 → Vars h_1 [(b_1, [(Sl.v g0_1)])] →
  ∃ J_1 : Nat → Sl → Int → Heap → Prop, (∃ n0 : Nat, J_1 n0 nilSl 0 h_1) ∧
  ∀ (n_1 : Nat) (out5_1 : Sl) (t14_1 : Int) (h_2 : Heap), J_1 n_1 out5_1 t14_1 h_2 → Vars h_2 [(b_1, [(Sl.v g0_1)])] →
  ((decide (t14_1 < (g0_1.n : Int))) = true →
  InB g0_1 t14_1 ∧
  ∃ t18_1 : Sl, hcell h_2 (Sl.at g0_1 t14_1 1) = some (Sl.v t18_1) ∧
  ((decide (t14_1 = sink1_1)) = true →
  ∃ m : Nat, m < n_1 ∧ J_1 m out5_1 (w64 (t14_1 + 1)) h_2) ∧
  ((decide (t14_1 = sink1_1)) = false →
  eop P (Instr.makeSlice 27 (VI (g0_1.n : Int)) (VI (g0_1.n : Int))) h_2 fun rv_1 h_3 => ∃ t25_1 : Sl, rv_1 = (Sl.v t25_1) ∧ Vars h_3 [(b_1, [(Sl.v g0_1)])] ∧
  InB t25_1 t14_1 ∧
  Writable h_3 (Sl.at t25_1 t14_1 1) ∧ Vars (hset h_3 (Sl.at t25_1 t14_1 1) (VI (t18_1.n : Int))) [(b_1, [(Sl.v g0_1)])] ∧
  ∀ h_4 : Heap, h_4 = hset h_3 (Sl.at t25_1 t14_1 1) (VI (t18_1.n : Int)) → Vars h_4 [(b_1, [(Sl.v g0_1)])] →
  ∃ J_2 : Nat → Int → Heap → Prop, (∃ n0 : Nat, J_2 n0 0 h_4) ∧
  ∀ (n_2 : Nat) (t33_1 : Int) (h_5 : Heap), J_2 n_2 t33_1 h_5 → Vars h_5 [(b_1, [(Sl.v g0_1)])] →
  ((decide (t33_1 < (t18_1.n : Int))) = true →
  InB t18_1 t33_1 ∧
  ∃ t36_1 : Int, hcell h_5 (Sl.at t18_1 t33_1 1) = some (VI t36_1) ∧
  InB t25_1 t36_1 ∧
  ∃ t40_1 : Int, hcell h_5 (Sl.at t25_1 t36_1 1) = some (VI t40_1) ∧
  InB t25_1 t36_1 ∧
  Writable h_5 (Sl.at t25_1 t36_1 1) ∧ Vars (hset h_5 (Sl.at t25_1 t36_1 1) (VI (w64 (t40_1 - 1)))) [(b_1, [(Sl.v g0_1)])] ∧
  ∀ h_6 : Heap, h_6 = hset h_5 (Sl.at t25_1 t36_1 1) (VI (w64 (t40_1 - 1))) → Vars h_6 [(b_1, [(Sl.v g0_1)])] →
  ∃ m : Nat, m < n_2 ∧ J_2 m (w64 (t33_1 + 1)) h_6) ∧
  ((decide (t33_1 < (t18_1.n : Int))) = false →
  pop P (Instr.sliceAt 27 (Sl.v t25_1) none (some (VI sink1_1)) none) fun rv_2 => ∃ t47_1 : Sl, rv_2 = (Sl.v t47_1) ∧ 
  pop P (Instr.sliceAt 27 (Sl.v t25_1) (some (VI (w64 (sink1_1 + 1)))) none none) fun rv_3 => ∃ t52_1 : Sl, rv_3 = (Sl.v t52_1) ∧ 
  callM P 87 #[(Sl.v t47_1)] h_5 fun rv_4 h_7 => ∃ t48_1 : Sl, rv_4 = (Sl.v t48_1) ∧ Vars h_7 [(b_1, [(Sl.v g0_1)])] ∧
  eop P (appS 27 27 27 (Sl.v t48_1) (Sl.v t52_1)) h_7 fun rv_5 h_8 => ∃ t53_1 : Sl, rv_5 = (Sl.v t53_1) ∧ Vars h_8 [(b_1, [(Sl.v g0_1)])] ∧
  eop P (Instr.buildSlice 22 1 #[(0, (Sl.v t53_1))]) h_8 fun rv_6 h_9 => ∃ t54_1 : Sl, rv_6 = (Sl.v t54_1) ∧ Vars h_9 [(b_1, [(Sl.v g0_1)])] ∧
  eop P (appS 22 22 22 (Sl.v out5_1) (Sl.v t54_1)) h_9 fun rv_7 h_10 => ∃ t55_1 : Sl, rv_7 = (Sl.v t55_1) ∧ Vars h_10 [(b_1, [(Sl.v g0_1)])] ∧
  ∃ m : Nat, m < n_1 ∧ J_1 m t55_1 (w64 (t14_1 + 1)) h_10))) ∧
  ((decide (t14_1 < (g0_1.n : Int))) = false →
  K (Sl.v out5_1) h_2)
theorem v85 (g0_1 : Sl) (sink1_1 : Int) (h : Heap) (K : Value → Heap → Prop) (H : u85 Try.prog g0_1 sink1_1 h K) : callM Try.prog 85 #[(Value.agg #[(Sl.v g0_1)]), (VI sink1_1)] h K := by
  refine c85 (Value.agg #[(Sl.v g0_1)]) (VI sink1_1) h K ?_
  unfold u85 at H
  unfold t85
  have hL : Vars h [] := .nil
  refine eop_box 32 (Value.agg #[(Sl.v g0_1)]) rfl hL (fun b_1 h_1 hb_1 hf_1 hL_1 => ?_)
  refine pop_field 0 fld32_0 b_1 0 ?_
  refine rop_loc one22 hL_1 0 rfl 0 (v := (Sl.v g0_1)) rfl ?_
  refine pop_len g0_1 _ _ sli22 ?_
  have H := H b_1 h_1 (Nat.le_trans (Fr.size (Fr.r (In []) _)) hb_1) (Fr.no' (Fr.r (In []) _) hf_1) hL_1
  obtain ⟨J_1, ⟨n_4, h0_2⟩, HB_2⟩ := H
  refine loop_intro (J := fun (n : Nat) (vs : List Value) (h' : Heap) => ∃ out5_1 : Sl, ∃ t14_1 : Int, vs = [(Sl.v out5_1), (VI t14_1)] ∧ J_1 n out5_1 t14_1 h' ∧ Vars h' [(b_1, [(Sl.v g0_1)])]) n_4 ⟨nilSl, 0, rfl, h0_2, hL_1⟩ ?_
  intro I_2 mu_2 hI_2 junk_1 tv_2 tv_3 h_2 hi_1
  obtain ⟨n_1, ⟨out5_1, t14_1, hv, hJ_1, hL_2⟩, hn_1⟩ := hI_2 _ _ hi_1
  cases hv
  have H := HB_2 n_1 out5_1 t14_1 h_2 hJ_1 hL_2
  refine pop_lss .i64 t14_1 (g0_1.n : Int) ?_
  refine condM_b (fun hb_2 => ?_) (fun hb_2 => ?_)
  rotate_left
  ·have H := H.2 hb_2
   exact H
  have H := H.1 hb_2
  obtain ⟨hi_2, H⟩ := H
  refine pop_index sli22 siz27 .i64 g0_1 t14_1 hi_2 ?_
  obtain ⟨t18_1, hc_3, H⟩ := H
  refine rop_one one27 (Sl.v t18_1) hc_3 ?_
  refine pop_ieq .i64 _ _ t14_1 sink1_1 ?_
  refine condM_b (fun hb_3 => ?_) (fun hb_3 => ?_)
  ·have H := H.1 hb_3
   refine pop_add .i64 t14_1 1 ?_
   obtain ⟨m_1, hm_1, H⟩ := H
   exact hn_1 _ _ ⟨m_1, hm_1, out5_1, (w64 (t14_1 + 1)), rfl, H, hL_2⟩
  have H := H.2 hb_3
  refine pop_field 0 fld32_0 b_1 0 ?_
  refine rop_loc one22 hL_2 0 rfl 0 (v := (Sl.v g0_1)) rfl ?_
  refine pop_len g0_1 _ _ sli22 ?_
  refine H.mono fun rv_1 h_3 H => ?_
  obtain ⟨t25_1, rfl, hL_3, H⟩ := H
  refine pop_len t18_1 _ _ sli27 ?_
  obtain ⟨hi_3, H⟩ := H
  refine pop_index sli27 siz3 .i64 t25_1 t14_1 hi_3 ?_
  obtain ⟨hw_1, hL_4, H⟩ := H
  refine uop_cell (v := (VI (t18_1.n : Int))) siz3 hw_1 rfl (fun h_4 he_1 => ?_)
  rw [← he_1] at hL_4
  have H := H h_4 he_1 hL_4
  refine pop_len t18_1 _ _ sli27 ?_
  obtain ⟨J_2, ⟨n_3, h0_1⟩, HB_1⟩ := H
  refine loop_intro (J := fun (n : Nat) (vs : List Value) (h' : Heap) => ∃ t33_1 : Int, vs = [(VI t33_1)] ∧ J_2 n t33_1 h' ∧ Vars h' [(b_1, [(Sl.v g0_1)])]) n_3 ⟨0, rfl, h0_1, hL_4⟩ ?_
  intro I_1 mu_1 hI_1 junk_2 tv_1 h_5 hi_4
  obtain ⟨n_2, ⟨t33_1, hv, hJ_2, hL_5⟩, hn_2⟩ := hI_1 _ _ hi_4
  cases hv
  have H := HB_1 n_2 t33_1 h_5 hJ_2 hL_5
  refine pop_lss .i64 t33_1 (t18_1.n : Int) ?_
  refine condM_b (fun hb_4 => ?_) (fun hb_4 => ?_)
  rotate_left
  ·have H := H.2 hb_4
   refine H.mono fun rv_2 H => ?_
   obtain ⟨t47_1, rfl, H⟩ := H
   refine pop_add .i64 sink1_1 1 ?_
   refine H.mono fun rv_3 H => ?_
   obtain ⟨t52_1, rfl, H⟩ := H
   refine H.mono fun rv_4 h_7 H => ?_
   obtain ⟨t48_1, rfl, hL_7, H⟩ := H
   refine H.mono fun rv_5 h_8 H => ?_
   obtain ⟨t53_1, rfl, hL_8, H⟩ := H
   refine H.mono fun rv_6 h_9 H => ?_
   obtain ⟨t54_1, rfl, hL_9, H⟩ := H
   refine H.mono fun rv_7 h_10 H => ?_
   obtain ⟨t55_1, rfl, hL_10, H⟩ := H
   refine pop_add .i64 t14_1 1 ?_
   obtain ⟨m_3, hm_3, H⟩ := H
   exact hn_1 _ _ ⟨m_3, hm_3, t55_1, (w64 (t14_1 + 1)), rfl, H, hL_10⟩
  have H := H.1 hb_4
  obtain ⟨hi_5, H⟩ := H
  refine pop_index sli27 siz3 .i64 t18_1 t33_1 hi_5 ?_
  obtain ⟨t36_1, hc_2, H⟩ := H
  refine rop_one one3 (VI t36_1) hc_2 ?_
  obtain ⟨hi_6, H⟩ := H
  refine pop_index sli27 siz3 .i64 t25_1 t36_1 hi_6 ?_
  obtain ⟨t40_1, hc_1, H⟩ := H
  refine rop_one one3 (VI t40_1) hc_1 ?_
  refine pop_sub .i64 t40_1 1 ?_
  obtain ⟨hi_7, H⟩ := H
  refine pop_index sli27 siz3 .i64 t25_1 t36_1 hi_7 ?_
  obtain ⟨hw_2, hL_6, H⟩ := H
  refine uop_cell (v := (VI (w64 (t40_1 - 1)))) siz3 hw_2 rfl (fun h_6 he_2 => ?_)
  rw [← he_2] at hL_6
  have H := H h_6 he_2 hL_6
  refine pop_add .i64 t33_1 1 ?_
  obtain ⟨m_2, hm_2, H⟩ := H
  exact hn_2 _ _ ⟨m_2, hm_2, (w64 (t33_1 + 1)), rfl, H, hL_6⟩

/-! spec.trAll -/
def u86 (P : Program) (g0_1 : Sl) (sink1_1 : Int) (most2_1 : Int) (h : Heap) (K : Value → Heap → Prop) : Prop :=
  ∀ (b_1 : Nat) (h_1 : Heap), h.size ≤ b_1 → Fr (In []) h h_1 → Vars h_1 [(b_1, [(Sl.v g0_1)])] →
  eop P (Instr.makeSlice 27 (VI (g0_1.n : Int)) (VI (g0_1.n : Int))) h_1 fun rv_1 h_2 => ∃ t13_1 : Sl, rv_1 = (Sl.v t13_1) ∧ Vars h_2 [(b_1, [(Sl.v g0_1)])] ∧
  ∀ (b_2 : Nat) (h_3 : Heap), h_2.size ≤ b_2 → Fr (In []) h_2 h_3 → Vars h_3 [(b_2, [(Sl.v g0_1), (VI sink1_1), (Sl.v t13_1), (Sl.v nilSl), (VI most2_1)]), (b_1, [(Sl.v g0_1)])] →
  callM P 115 #[(VP b_2 0), (VI 0)] h_3 fun rv_2 h_4 => ∃ x_1 : Sl, ∃ x_2 : Int, ∃ x_3 : Sl, ∃ x_4 : Sl, ∃ x_5 : Int, Vars h_4 [(b_2, [(Sl.v x_1), (VI x_2), (Sl.v x_3), (Sl.v x_4), (VI x_5)]), (b_1, [(Sl.v g0_1)])] ∧
  K (Sl.v x_4) h_4
theorem v86 (g0_1 : Sl) (sink1_1 : Int) (most2_1 : Int) (h : Heap) (K : Value → Heap → Prop) (H : u86 Try.prog g0_1 sink1_1 most2_1 h K) : callM Try.prog 86 #[(Value.agg #[(Sl.v g0_1)]), (VI sink1_1), (VI most2_1)] h K := by
  refine c86 (Value.agg #[(Sl.v g0_1)]) (VI sink1_1) (VI most2_1) h K ?_
  unfold u86 at H
  unfold t86
  have hL : Vars h [] := .nil
  refine eop_box 32 (Value.agg #[(Sl.v g0_1)]) rfl hL (fun b_1 h_1 hb_1 hf_1 hL_1 => ?_)
  refine rop_locA agg32 hL_1 0 rfl 0 (vs := [(Sl.v g0_1)]) rfl rfl ?_
  refine pop_field 0 fld32_0 b_1 0 ?_
  refine rop_loc one22 hL_1 0 rfl 0 (v := (Sl.v g0_1)) rfl ?_
  refine pop_len g0_1 _ _ sli22 ?_
  have H := H b_1 h_1 (Nat.le_trans (Fr.size (Fr.r (In []) _)) hb_1) (Fr.no' (Fr.r (In []) _) hf_1) hL_1
  refine H.mono fun rv_1 h_2 H => ?_
  obtain ⟨t13_1, rfl, hL_2, H⟩ := H
  refine ⟨?_, ?_⟩
  ·exact still_loc one22 hL_2 0 rfl 0 (v := (Sl.v g0_1)) rfl
  refine ⟨?_, ?_⟩
  ·exact still_locA agg32 hL_2 0 rfl 0 (vs := [(Sl.v g0_1)]) rfl rfl
  refine pop.mk' (v := (Value.agg #[(Sl.v g0_1), (VI sink1_1), (Sl.v t13_1), (Sl.v nilSl), (VI most2_1)])) (fun w => by kernel_rfl) ?_
  refine eop_box 123 (Value.agg #[(Sl.v g0_1), (VI sink1_1), (Sl.v t13_1), (Sl.v nilSl), (VI most2_1)]) rfl hL_2 (fun b_2 h_3 hb_2 hf_2 hL_3 => ?_)
  have H := H b_2 h_3 (Nat.le_trans (Fr.size (Fr.r (In []) _)) hb_2) (Fr.no' (Fr.r (In []) _) hf_2) hL_3
  refine ⟨?_, ?_⟩
  ·exact still_loc one22 hL_3 1 rfl 0 (v := (Sl.v g0_1)) rfl
  refine ⟨?_, ?_⟩
  ·exact still_locA agg32 hL_3 1 rfl 0 (vs := [(Sl.v g0_1)]) rfl rfl
  refine H.mono fun rv_2 h_4 H => ?_
  obtain ⟨x_1, x_2, x_3, x_4, x_5, hL_4, H⟩ := H
  refine pop_nil _ ?_
  refine pop_field 3 fld123_3 b_2 0 ?_
  refine rop_loc one22 hL_4 0 rfl 3 (v := (Sl.v x_4)) rfl ?_
  exact H

/-! spec.l1Own -/
def u87 (P : Program) (l0_1 : Sl) (h : Heap) (K : Value → Heap → Prop) : Prop :=
  eop P (Instr.buildSlice 27 0 #[]) h fun rv_1 h_1 => ∃ t3_1 : Sl, rv_1 = (Sl.v t3_1) ∧ Vars h_1 [] ∧
  eop P (appS 27 27 27 (Sl.v t3_1) (Sl.v l0_1)) h_1 fun rv_2 h_2 => ∃ t5_1 : Sl, rv_2 = (Sl.v t5_1) ∧ Vars h_2 [] ∧
  K (Sl.v t5_1) h_2
theorem v87 (l0_1 : Sl) (h : Heap) (K : Value → Heap → Prop) (H : u87 Try.prog l0_1 h K) : callM Try.prog 87 #[(Sl.v l0_1)] h K := by
  refine c87 (Sl.v l0_1) h K ?_
  unfold u87 at H
  unfold t87
  have hL : Vars h [] := .nil
  refine H.mono fun rv_1 h_1 H => ?_
  obtain ⟨t3_1, rfl, hL_1, H⟩ := H
  refine H.mono fun rv_2 h_2 H => ?_
  obtain ⟨t5_1, rfl, hL_2, H⟩ := H
  exact H

/-! spec.trLess -/
def u88 (P : Program) (a0_1 : Sl) (b1_1 : Sl) (h : Heap) (K : Value → Heap → Prop) : Prop :=
  ∃ J_1 : Nat → Int → Heap → Prop, (∃ n0 : Nat, J_1 n0 0 h) ∧
  ∀ (n_1 : Nat) (t9_1 : Int) (h_1 : Heap), J_1 n_1 t9_1 h_1 → Vars h_1 [] →
  ((decide (t9_1 < (a0_1.n : Int))) = true →
  InB a0_1 t9_1 ∧
  ∃ t13_1 : Int, hcell h_1 (Sl.at a0_1 t9_1 1) = some (VI t13_1) ∧
  InB b1_1 t9_1 ∧
  ∃ t18_1 : Int, hcell h_1 (Sl.at b1_1 t9_1 1) = some (VI t18_1) ∧
  ((!decide (t13_1 = t18_1)) = true →
  InB b1_1 t9_1 ∧
  ∃ t24_1 : Int, hcell h_1 (Sl.at b1_1 t9_1 1) = some (VI t24_1) ∧
  K (VB (decide (t13_1 < t24_1))) h_1) ∧
  ((!decide (t13_1 = t18_1)) = false →
  ∃ m : Nat, m < n_1 ∧ J_1 m (w64 (t9_1 + 1)) h_1)) ∧
  ((decide (t9_1 < (a0_1.n : Int))) = false →
  K (VB false) h_1)
theorem v88 (a0_1 : Sl) (b1_1 : Sl) (h : Heap) (K : Value → Heap → Prop) (H : u88 Try.prog a0_1 b1_1 h K) : callM Try.prog 88 #[(Sl.v a0_1), (Sl.v b1_1)] h K := by
  refine c88 (Sl.v a0_1) (Sl.v b1_1) h K ?_
  unfold u88 at H
  unfold t88
  have hL : Vars h [] := .nil
  refine pop_len a0_1 _ _ sli27 ?_
  obtain ⟨J_1, ⟨n_2, h0_1⟩, HB_1⟩ := H
  refine loop_intro (J := fun (n : Nat) (vs : List Value) (h' : Heap) => ∃ t9_1 : Int, vs = [(VI t9_1)] ∧ J_1 n t9_1 h' ∧ Vars h' []) n_2 ⟨0, rfl, h0_1, hL⟩ ?_
  intro I_1 mu_1 hI_1 junk_1 tv_1 h_1 hi_1
  obtain ⟨n_1, ⟨t9_1, hv, hJ_1, hL_1⟩, hn_1⟩ := hI_1 _ _ hi_1
  cases hv
  have H := HB_1 n_1 t9_1 h_1 hJ_1 hL_1
  refine pop_lss .i64 t9_1 (a0_1.n : Int) ?_
  refine condM_b (fun hb_1 => ?_) (fun hb_1 => ?_)
  rotate_left
  ·have H := H.2 hb_1
   exact H
  have H := H.1 hb_1
  obtain ⟨hi_2, H⟩ := H
  refine pop_index sli27 siz3 .i64 a0_1 t9_1 hi_2 ?_
  obtain ⟨t13_1, hc_3, H⟩ := H
  refine rop_one one3 (VI t13_1) hc_3 ?_
  obtain ⟨hi_3, H⟩ := H
  refine pop_index sli27 siz3 .i64 b1_1 t9_1 hi_3 ?_
  obtain ⟨t18_1, hc_2, H⟩ := H
  refine rop_one one3 (VI t18_1) hc_2 ?_
  refine pop_ine .i64 _ _ t13_1 t18_1 ?_
  refine condM_b (fun hb_2 => ?_) (fun hb_2 => ?_)
  rotate_left
  ·have H := H.2 hb_2
   refine pop_add .i64 t9_1 1 ?_
   obtain ⟨m_1, hm_1, H⟩ := H
   exact hn_1 _ _ ⟨m_1, hm_1, (w64 (t9_1 + 1)), rfl, H, hL_1⟩
  have H := H.1 hb_2
  obtain ⟨hi_4, H⟩ := H
  refine pop_index sli27 siz3 .i64 b1_1 t9_1 hi_4 ?_
  obtain ⟨t24_1, hc_1, H⟩ := H
  refine rop_one one3 (VI t24_1) hc_1 ?_
  refine pop_lss .i64 t13_1 t24_1 ?_
  exact H

/-! impl.countUnicycles -/
def u89 (P : Program) (g0_1 : Sl) (p1_1 : Int) (h : Heap) (K : Value → Heap → Prop) : Prop :=
  InB g0_1 p1_1 ∧
  ∀ (b_1 : Nat) (h_1 : Heap), h.size ≤ b_1 → Fr (In []) h h_1 → Vars h_1 [(b_1, [(Sl.v g0_1)])] →
  ∃ t13_1 : Sl, hcell h_1 (Sl.at g0_1 p1_1 1) = some (Sl.v t13_1) ∧
  callM P 117 #[(Value.agg #[(Sl.v g0_1)]), (VI p1_1)] h_1 fun rv_1 h_2 => ∃ t7_1 : Sl, rv_1 = (Sl.v t7_1) ∧ Vars h_2 [(b_1, [(Sl.v g0_1)])] ∧
  hcell h_2 (Sl.at g0_1 p1_1 1) = some (Sl.v t13_1) ∧
  callM P 116 #[(Sl.v t7_1)] h_2 fun rv_2 h_3 => ∃ t8_1 : Int, rv_2 = (VI t8_1) ∧ Vars h_3 [(b_1, [(Sl.v g0_1)])] ∧
  hcell h_3 (Sl.at g0_1 p1_1 1) = some (Sl.v t13_1) ∧
  K (VI (w64 (t8_1 * (t13_1.n : Int)))) h_3
theorem v89 (g0_1 : Sl) (p1_1 : Int) (h : Heap) (K : Value → Heap → Prop) (H : u89 Try.prog g0_1 p1_1 h K) : callM Try.prog 89 #[(Value.agg #[(Sl.v g0_1)]), (VI p1_1)] h K := by
  refine c89 (Value.agg #[(Sl.v g0_1)]) (VI p1_1) h K ?_
  unfold u89 at H
  unfold t89
  have hL : Vars h [] := .nil
  refine eop_box 32 (Value.agg #[(Sl.v g0_1)]) rfl hL (fun b_1 h_1 hb_1 hf_1 hL_1 => ?_)
  refine rop_locA agg32 hL_1 0 rfl 0 (vs := [(Sl.v g0_1)]) rfl rfl ?_
  refine pop_field 0 fld32_0 b_1 0 ?_
  refine rop_loc one22 hL_1 0 rfl 0 (v := (Sl.v g0_1)) rfl ?_
  obtain ⟨hi_1, H⟩ := H
  refine pop_index sli22 siz27 .i64 g0_1 p1_1 hi_1 ?_
  have H := H b_1 h_1 (Nat.le_trans (Fr.size (Fr.r (In []) _)) hb_1) (Fr.no' (Fr.r (In []) _) hf_1) hL_1
  obtain ⟨t13_1, hc_3, H⟩ := H
  refine rop_one one27 (Sl.v t13_1) hc_3 ?_
  refine pop_len t13_1 _ _ sli27 ?_
  refine H.mono fun rv_1 h_2 H => ?_
  obtain ⟨t7_1, rfl, hL_2, H⟩ := H
  refine ⟨?_, ?_⟩
  ·exact still_one one27 H.1
  obtain ⟨hc_1, H⟩ := H
  refine ⟨?_, ?_⟩
  ·exact still_loc one22 hL_2 0 rfl 0 (v := (Sl.v g0_1)) rfl
  refine H.mono fun rv_2 h_3 H => ?_
  obtain ⟨t8_1, rfl, hL_3, H⟩ := H
  refine ⟨?_, ?_⟩
  ·exact still_one one27 H.1
  obtain ⟨hc_2, H⟩ := H
  refine ⟨?_, ?_⟩
  ·exact still_loc one22 hL_3 0 rfl 0 (v := (Sl.v g0_1)) rfl
  refine pop_mul .i64 t8_1 (t13_1.n : Int) ?_
  exact H

/-! (impl.Graph).allRotors -/
def u90 (P : Program) (g0_1 : Sl) (still1_1 : Int) (with2_1 : Value) (h : Heap) (K : Value → Heap → Prop) : Prop :=
  ∀ (b_1 : Nat) (h_1 : Heap), h.size ≤ b_1 → Fr (In []) h h_1 → Vars h_1 [(b_1, [(Sl.v g0_1)])] →
  eop P (Instr.makeSlice 27 (VI (g0_1.n : Int)) (VI (g0_1.n : Int))) h_1 fun rv_1 h_2 => ∃ t11_1 : Sl, rv_1 = (Sl.v t11_1) ∧ Vars h_2 [(b_1, [(Sl.v g0_1)])] ∧
  ∃ J_1 : Nat → Heap → Prop, (∃ n0 : Nat, J_1 n0  h_2) ∧
  ∀ (n_1 : Nat) (h_3 : Heap), J_1 n_1  h_3 → Vars h_3 [(b_1, [(Sl.v g0_1)])] →
  callV P with2_1 [(Sl.v t11_1)] h_3 fun rv_2 h_4 => ∃ t14_1 : Bool, rv_2 = (VB t14_1) ∧ Vars h_4 [(b_1, [(Sl.v g0_1)])] ∧
  ((!t14_1) = true →
  K (Value.tuple #[]) h_4) ∧
  ((!t14_1) = false →
  ∃ J_2 : Nat → Int → Heap → Prop, (∃ n0 : Nat, J_2 n0 (w64 ((t11_1.n : Int) - 1)) h_4) ∧
  ∀ (n_2 : Nat) (p7_1 : Int) (h_5 : Heap), J_2 n_2 p7_1 h_5 → Vars h_5 [(b_1, [(Sl.v g0_1)])] →
  ((decide (0 ≤ p7_1)) = true →
  ((decide (p7_1 = still1_1)) = true →
  InB t11_1 p7_1 ∧
  Writable h_5 (Sl.at t11_1 p7_1 1) ∧ Vars (hset h_5 (Sl.at t11_1 p7_1 1) (VI 0)) [(b_1, [(Sl.v g0_1)])] ∧
  ∀ h_8 : Heap, h_8 = hset h_5 (Sl.at t11_1 p7_1 1) (VI 0) → Vars h_8 [(b_1, [(Sl.v g0_1)])] →
  ∃ m : Nat, m < n_2 ∧ J_2 m (w64 (p7_1 - 1)) h_8) ∧
  ((decide (p7_1 = still1_1)) = false →
  InB t11_1 p7_1 ∧
  ∃ t29_1 : Int, hcell h_5 (Sl.at t11_1 p7_1 1) = some (VI t29_1) ∧
  InB g0_1 p7_1 ∧
  ∃ t34_1 : Sl, hcell h_5 (Sl.at g0_1 p7_1 1) = some (Sl.v t34_1) ∧
  ((decide ((w64 ((t34_1.n : Int) - 1)) ≤ t29_1)) = true →
  InB t11_1 p7_1 ∧
  Writable h_5 (Sl.at t11_1 p7_1 1) ∧ Vars (hset h_5 (Sl.at t11_1 p7_1 1) (VI 0)) [(b_1, [(Sl.v g0_1)])] ∧
  ∀ h_6 : Heap, h_6 = hset h_5 (Sl.at t11_1 p7_1 1) (VI 0) → Vars h_6 [(b_1, [(Sl.v g0_1)])] →
  ∃ m : Nat, m < n_2 ∧ J_2 m (w64 (p7_1 - 1)) h_6) ∧
  ((decide ((w64 ((t34_1.n : Int) - 1)) ≤ t29_1)) = false →
  ((decide (p7_1 < 0)) = true →
  K (Value.tuple #[]) h_5) ∧
  ((decide (p7_1 < 0)) = false →
  InB t11_1 p7_1 ∧
  ∃ t50_1 : Int, hcell h_5 (Sl.at t11_1 p7_1 1) = some (VI t50_1) ∧
  InB t11_1 p7_1 ∧
  Writable h_5 (Sl.at t11_1 p7_1 1) ∧ Vars (hset h_5 (Sl.at t11_1 p7_1 1) (VI (w64 (t50_1 + 1)))) [(b_1, [(Sl.v g0_1)])] ∧
  ∀ h_7 : Heap, h_7 = hset h_5 (Sl.at t11_1 p7_1 1) (VI (w64 (t50_1 + 1))) → Vars h_7 [(b_1, [(Sl.v g0_1)])] →
  ∃ m : Nat, m < n_1 ∧ J_1 m  h_7)))) ∧
  ((decide (0 ≤ p7_1)) = false →
  ((decide (p7_1 < 0)) = true →
  K (Value.tuple #[]) h_5) ∧
  ((decide (p7_1 < 0)) = false →
  InB t11_1 p7_1 ∧
  ∃ t50_2 : Int, hcell h_5 (Sl.at t11_1 p7_1 1) = some (VI t50_2) ∧
  InB t11_1 p7_1 ∧
  Writable h_5 (Sl.at t11_1 p7_1 1) ∧ Vars (hset h_5 (Sl.at t11_1 p7_1 1) (VI (w64 (t50_2 + 1)))) [(b_1, [(Sl.v g0_1)])] ∧
  ∀ h_9 : Heap, h_9 = hset h_5 (Sl.at t11_1 p7_1 1) (VI (w64 (t50_2 + 1))) → Vars h_9 [(b_1, [(Sl.v g0_1)])] →
  ∃ m : Nat, m < n_1 ∧ J_1 m  h_9)))
theorem v90 (g0_1 : Sl) (still1_1 : Int) (with2_1 : Value) (h : Heap) (K : Value → Heap → Prop) (H : u90 Try.prog g0_1 still1_1 with2_1 h K) : callM Try.prog 90 #[(Value.agg #[(Sl.v g0_1)]), (VI still1_1), with2_1] h K := by
  refine c90 (Value.agg #[(Sl.v g0_1)]) (VI still1_1) with2_1 h K ?_
  unfold u90 at H
  unfold t90
  have hL : Vars h [] := .nil
  refine eop_box 32 (Value.agg #[(Sl.v g0_1)]) rfl hL (fun b_1 h_1 hb_1 hf_1 hL_1 => ?_)
  refine pop_field 0 fld32_0 b_1 0 ?_
  refine rop_loc one22 hL_1 0 rfl 0 (v := (Sl.v g0_1)) rfl ?_
  refine pop_len g0_1 _ _ sli22 ?_
  have H := H b_1 h_1 (Nat.le_trans (Fr.size (Fr.r (In []) _)) hb_1) (Fr.no' (Fr.r (In []) _) hf_1) hL_1
  refine H.mono fun rv_1 h_2 H => ?_
  obtain ⟨t11_1, rfl, hL_2, H⟩ := H
  obtain ⟨J_1, ⟨n_4, h0_2⟩, HB_2⟩ := H
  refine loop_intro (J := fun (n : Nat) (vs : List Value) (h' : Heap) => vs = [] ∧ J_1 n  h' ∧ Vars h' [(b_1, [(Sl.v g0_1)])]) n_4 ⟨rfl, h0_2, hL_2⟩ ?_
  intro I_2 mu_2 hI_2 junk_1  h_3 hi_1
  obtain ⟨n_1, ⟨hv, hJ_1, hL_3⟩, hn_1⟩ := hI_2 _ _ hi_1
  cases hv
  have H := HB_2 n_1  h_3 hJ_1 hL_3
  refine H.mono fun rv_2 h_4 H => ?_
  obtain ⟨t14_1, rfl, hL_4, H⟩ := H
  refine pop_not t14_1 ?_
  refine condM_b (fun hb_2 => ?_) (fun hb_2 => ?_)
  ·have H := H.1 hb_2
   exact H
  have H := H.2 hb_2
  refine pop_len t11_1 _ _ sli27 ?_
  refine pop_sub .i64 (t11_1.n : Int) 1 ?_
  obtain ⟨J_2, ⟨n_3, h0_1⟩, HB_1⟩ := H
  refine loop_intro (J := fun (n : Nat) (vs : List Value) (h' : Heap) => ∃ p7_1 : Int, vs = [(VI p7_1)] ∧ J_2 n p7_1 h' ∧ Vars h' [(b_1, [(Sl.v g0_1)])]) n_3 ⟨(w64 ((t11_1.n : Int) - 1)), rfl, h0_1, hL_4⟩ ?_
  intro I_1 mu_1 hI_1 junk_2 tv_1 h_5 hi_2
  obtain ⟨n_2, ⟨p7_1, hv, hJ_2, hL_5⟩, hn_2⟩ := hI_1 _ _ hi_2
  cases hv
  have H := HB_1 n_2 p7_1 h_5 hJ_2 hL_5
  refine pop_geq .i64 p7_1 0 ?_
  refine guardM_st (fun hb_3 => ?_) (fun hb_3 => ?_)
  rotate_left
  ·have H := H.2 hb_3
   refine guardM_n' hb_3 (by decide) ?_
   refine guardM_n' hb_3 (by decide) ?_
   refine guardM_n' hb_3 (by decide) ?_
   refine guardM_n (by decide) ?_
   refine guardM_n (by decide) ?_
   refine guardM_n (by decide) ?_
   refine guardM_n (by decide) ?_
   refine guardM_n (by decide) ?_
   refine guardM_n (by decide) ?_
   refine guardM_n (by decide) ?_
   refine guardM_n (by decide) ?_
   refine guardM_n (by decide) ?_
   refine guardM_n (by decide) ?_
   refine guardM_n (by decide) ?_
   refine guardM_n (by decide) ?_
   refine guardM_n' hb_3 (by decide) ?_
   refine pop_pickf' hb_3 ?_
   refine condM_f ?_
   refine pop_lss .i64 p7_1 0 ?_
   refine condM_b (fun hb_7 => ?_) (fun hb_7 => ?_)
   ·have H := H.1 hb_7
    exact H
   have H := H.2 hb_7
   obtain ⟨hi_9, H⟩ := H
   refine pop_index sli27 siz3 .i64 t11_1 p7_1 hi_9 ?_
   obtain ⟨t50_2, hc_4, H⟩ := H
   refine rop_one one3 (VI t50_2) hc_4 ?_
   refine pop_add .i64 t50_2 1 ?_
   obtain ⟨hi_10, H⟩ := H
   refine pop_index sli27 siz3 .i64 t11_1 p7_1 hi_10 ?_
   obtain ⟨hw_4, hL_9, H⟩ := H
   refine uop_cell (v := (VI (w64 (t50_2 + 1)))) siz3 hw_4 rfl (fun h_9 he_4 => ?_)
   rw [← he_4] at hL_9
   have H := H h_9 he_4 hL_9
   obtain ⟨m_4, hm_4, H⟩ := H
   exact hn_1 _ _ ⟨m_4, hm_4, rfl, H, hL_9⟩
  have H := H.1 hb_3
  refine guardM_y' hb_3 ?_
  refine guardM_y' hb_3 ?_
  refine pop_ieq .i64 _ _ p7_1 still1_1 ?_
  refine guardM_y' hb_3 ?_
  refine guardM_sf (fun hb_4 => ?_) (fun hb_4 => ?_)
  rotate_left
  ·have H := H.1 hb_4
   refine guardM_n' hb_4 (by decide) ?_
   refine guardM_n' hb_4 (by decide) ?_
   refine guardM_n' hb_4 (by decide) ?_
   refine guardM_n' hb_4 (by decide) ?_
   refine guardM_n' hb_4 (by decide) ?_
   refine guardM_n' hb_4 (by decide) ?_
   refine guardM_n' hb_4 (by decide) ?_
   refine guardM_n' hb_4 (by decide) ?_
   refine guardM_n' hb_4 (by decide) ?_
   refine guardM_n' hb_4 (by decide) ?_
   refine guardM_n' hb_4 (by decide) ?_
   refine guardM_y' hb_3 ?_
   refine pop_pickt' hb_4 ?_
   refine pop_pickt' hb_3 ?_
   refine condM_t ?_
   obtain ⟨hi_8, H⟩ := H
   refine pop_index sli27 siz3 .i64 t11_1 p7_1 hi_8 ?_
   obtain ⟨hw_3, hL_8, H⟩ := H
   refine uop_cell (v := (VI 0)) siz3 hw_3 rfl (fun h_8 he_3 => ?_)
   rw [← he_3] at hL_8
   have H := H h_8 he_3 hL_8
   refine pop_sub .i64 p7_1 1 ?_
   obtain ⟨m_3, hm_3, H⟩ := H
   exact hn_2 _ _ ⟨m_3, hm_3, (w64 (p7_1 - 1)), rfl, H, hL_8⟩
  have H := H.2 hb_4
  refine guardM_y' hb_4 ?_
  refine guardM_y' hb_4 ?_
  obtain ⟨hi_3, H⟩ := H
  refine pop_index sli27 siz3 .i64 t11_1 p7_1 hi_3 ?_
  refine guardM_y' hb_4 ?_
  obtain ⟨t29_1, hc_3, H⟩ := H
  refine rop_one one3 (VI t29_1) hc_3 ?_
  refine guardM_y' hb_4 ?_
  refine pop_field 0 fld32_0 b_1 0 ?_
  refine guardM_y' hb_4 ?_
  refine rop_loc one22 hL_5 0 rfl 0 (v := (Sl.v g0_1)) rfl ?_
  refine guardM_y' hb_4 ?_
  refine guardM_y' hb_4 ?_
  obtain ⟨hi_4, H⟩ := H
  refine pop_index sli22 siz27 .i64 g0_1 p7_1 hi_4 ?_
  refine guardM_y' hb_4 ?_
  obtain ⟨t34_1, hc_2, H⟩ := H
  refine rop_one one27 (Sl.v t34_1) hc_2 ?_
  refine guardM_y' hb_4 ?_
  refine pop_len t34_1 _ _ sli27 ?_
  refine guardM_y' hb_4 ?_
  refine pop_sub .i64 (t34_1.n : Int) 1 ?_
  refine guardM_y' hb_4 ?_
  refine pop_geq .i64 t29_1 (w64 ((t34_1.n : Int) - 1)) ?_
  refine guardM_y' hb_3 ?_
  refine pop_pickf' hb_4 ?_
  refine pop_pickt' hb_3 ?_
  refine condM_b (fun hb_5 => ?_) (fun hb_5 => ?_)
  ·have H := H.1 hb_5
   obtain ⟨hi_5, H⟩ := H
   refine pop_index sli27 siz3 .i64 t11_1 p7_1 hi_5 ?_
   obtain ⟨hw_1, hL_6, H⟩ := H
   refine uop_cell (v := (VI 0)) siz3 hw_1 rfl (fun h_6 he_1 => ?_)
   rw [← he_1] at hL_6
   have H := H h_6 he_1 hL_6
   refine pop_sub .i64 p7_1 1 ?_
   obtain ⟨m_1, hm_1, H⟩ := H
   exact hn_2 _ _ ⟨m_1, hm_1, (w64 (p7_1 - 1)), rfl, H, hL_6⟩
  have H := H.2 hb_5
  refine pop_lss .i64 p7_1 0 ?_
  refine condM_b (fun hb_6 => ?_) (fun hb_6 => ?_)
  ·have H := H.1 hb_6
   exact H
  have H := H.2 hb_6
  obtain ⟨hi_6, H⟩ := H
  refine pop_index sli27 siz3 .i64 t11_1 p7_1 hi_6 ?_
  obtain ⟨t50_1, hc_1, H⟩ := H
  refine rop_one one3 (VI t50_1) hc_1 ?_
  refine pop_add .i64 t50_1 1 ?_
  obtain ⟨hi_7, H⟩ := H
  refine pop_index sli27 siz3 .i64 t11_1 p7_1 hi_7 ?_
  obtain ⟨hw_2, hL_7, H⟩ := H
  refine uop_cell (v := (VI (w64 (t50_1 + 1)))) siz3 hw_2 rfl (fun h_7 he_2 => ?_)
  rw [← he_2] at hL_7
  have H := H h_7 he_2 hL_7
  obtain ⟨m_2, hm_2, H⟩ := H
  exact hn_1 _ _ ⟨m_2, hm_2, rfl, H, hL_7⟩

/-! impl.AllUnicycles$1 -/
def u91 (P : Program) (rotors0_1 : Sl) (b_1 : Nat) (t1_1 : Int) (b_2 : Nat) (t2_1 : Sl) (b_3 : Nat) (t3_1 : Sl) (h : Heap) (K : Value → Heap → Prop) : Prop :=
  ∀ (b_4 : Nat) (h_2 : Heap), h.size ≤ b_4 → Fr (In []) h h_2 → Vars h_2 [(b_4, [(Sl.v rotors0_1), (VI t1_1)]), (b_1, [(VI t1_1)]), (b_2, [(Sl.v t2_1)]), (b_3, [(Sl.v t3_1)])] →
  callM P 92 #[(Value.agg #[(Sl.v t2_1)]), (Value.agg #[(Sl.v rotors0_1), (VI t1_1)])] h_2 fun rv_1 h_3 => ∃ t12_1 : Bool, rv_1 = (VB t12_1) ∧ Vars h_3 [(b_4, [(Sl.v rotors0_1), (VI t1_1)]), (b_1, [(VI t1_1)]), (b_2, [(Sl.v t2_1)]), (b_3, [(Sl.v t3_1)])] ∧
  (t12_1 = true →
  callM P 93 #[(Value.agg #[(Sl.v rotors0_1), (VI t1_1)])] h_3 fun rv_2 h_4 => ∃ t15_1 : Sl, ∃ t15_2 : Int, rv_2 = (Value.agg #[(Sl.v t15_1), (VI t15_2)]) ∧ Vars h_4 [(b_4, [(Sl.v rotors0_1), (VI t1_1)]), (b_1, [(VI t1_1)]), (b_2, [(Sl.v t2_1)]), (b_3, [(Sl.v t3_1)])] ∧
  eop P (Instr.buildSlice 67 1 #[(0, (Value.agg #[(Sl.v t15_1), (VI t15_2)]))]) h_4 fun rv_3 h_5 => ∃ t16_1 : Sl, rv_3 = (Sl.v t16_1) ∧ Vars h_5 [(b_4, [(Sl.v rotors0_1), (VI t1_1)]), (b_1, [(VI t1_1)]), (b_2, [(Sl.v t2_1)]), (b_3, [(Sl.v t3_1)])] ∧
  eop P (appS 67 67 67 (Sl.v t3_1) (Sl.v t16_1)) h_5 fun rv_4 h_6 => ∃ t17_1 : Sl, rv_4 = (Sl.v t17_1) ∧ Vars h_6 [(b_4, [(Sl.v rotors0_1), (VI t1_1)]), (b_1, [(VI t1_1)]), (b_2, [(Sl.v t2_1)]), (b_3, [(Sl.v t3_1)])] ∧
  ∀ (h_7 : Heap), Fr (In [b_3]) h_6 h_7 → Vars h_7 [(b_4, [(Sl.v rotors0_1), (VI t1_1)]), (b_1, [(VI t1_1)]), (b_2, [(Sl.v t2_1)]), (b_3, [(Sl.v t17_1)])] →
  K (VB true) h_7) ∧
  (t12_1 = false →
  K (VB true) h_3)
theorem v91 (rotors0_1 : Sl) (b_1 : Nat) (t1_1 : Int) (b_2 : Nat) (t2_1 : Sl) (b_3 : Nat) (t3_1 : Sl) (h : Heap) (K : Value → Heap → Prop) (hL : Vars h [(b_1, [(VI t1_1)]), (b_2, [(Sl.v t2_1)]), (b_3, [(Sl.v t3_1)])]) (H : u91 Try.prog rotors0_1 b_1 t1_1 b_2 t2_1 b_3 t3_1 h K) : callM Try.prog 91 #[(Sl.v rotors0_1), (VP b_1 0), (VP b_2 0), (VP b_3 0)] h K := by
  refine c91 (Sl.v rotors0_1) (VP b_1 0) (VP b_2 0) (VP b_3 0) h K ?_
  unfold u91 at H
  unfold t91
  refine rop_loc one3 hL 0 rfl 0 (v := (VI t1_1)) rfl ?_
  refine pop.mk' (v := (Value.agg #[(Sl.v rotors0_1), (VI t1_1)])) (fun w => by kernel_rfl) ?_
  refine eop_alloc 101 zer101 rfl hL (fun b_4 h_1 hb_1 hf_1 hL_1 => ?_)
  refine uop_loc siz101 hL_1 0 rfl 0 [(Sl.v rotors0_1), (VI t1_1)] rfl rfl rfl (Nat.le_of_ble_eq_true rfl) (L' := [(b_4, [(Sl.v rotors0_1), (VI t1_1)]), (b_1, [(VI t1_1)]), (b_2, [(Sl.v t2_1)]), (b_3, [(Sl.v t3_1)])]) rfl (fun h_2 hf_2 hL_2 => ?_)
  refine rop_locA agg32 hL_2 2 rfl 0 (vs := [(Sl.v t2_1)]) rfl rfl ?_
  refine rop_locA agg101 hL_2 0 rfl 0 (vs := [(Sl.v rotors0_1), (VI t1_1)]) rfl rfl ?_
  have H := H b_4 h_2 (Nat.le_trans (Fr.size (Fr.r (In []) _)) hb_1) (Fr.new (Fr.no' (Fr.r (In []) _) hf_1) (Nat.le_trans (Fr.size (Fr.r (In []) _)) hb_1) hf_2) hL_2
  refine H.mono fun rv_1 h_3 H => ?_
  obtain ⟨t12_1, rfl, hL_3, H⟩ := H
  refine condM_b (fun hb_2 => ?_) (fun hb_2 => ?_)
  rotate_left
  ·have H := H.2 hb_2
   exact H
  have H := H.1 hb_2
  refine rop_loc one67 hL_3 3 rfl 0 (v := (Sl.v t3_1)) rfl ?_
  refine rop_locA agg101 hL_3 0 rfl 0 (vs := [(Sl.v rotors0_1), (VI t1_1)]) rfl rfl ?_
  refine H.mono fun rv_2 h_4 H => ?_
  obtain ⟨t15_1, t15_2, rfl, hL_4, H⟩ := H
  refine ⟨?_, ?_⟩
  ·exact still_loc one67 hL_4 3 rfl 0 (v := (Sl.v t3_1)) rfl
  refine H.mono fun rv_3 h_5 H => ?_
  obtain ⟨t16_1, rfl, hL_5, H⟩ := H
  refine ⟨?_, ?_⟩
  ·exact still_loc one67 hL_5 3 rfl 0 (v := (Sl.v t3_1)) rfl
  refine H.mono fun rv_4 h_6 H => ?_
  obtain ⟨t17_1, rfl, hL_6, H⟩ := H
  refine uop_loc siz67 hL_6 3 rfl 0 [(Sl.v t17_1)] rfl rfl rfl (Nat.le_of_ble_eq_true rfl) (L' := [(b_4, [(Sl.v rotors0_1), (VI t1_1)]), (b_1, [(VI t1_1)]), (b_2, [(Sl.v t2_1)]), (b_3, [(Sl.v t17_1)])]) rfl (fun h_7 hf_3 hL_7 => ?_)
  have H := H  h_7  (Fr.old (Fr.r (In []) _) hf_3) hL_7
  exact H

/-! (impl.Graph).isUnicycle -/
def u92 (P : Program) (g0_1 : Sl) (w1_1 : Sl) (w1_2 : Int) (h : Heap) (K : Value → Heap → Prop) : Prop :=
  ∀ (b_1 : Nat) (b_2 : Nat) (h_2 : Heap), h.size ≤ b_1 → h.size ≤ b_2 → Fr (In []) h h_2 → Vars h_2 [(b_2, [(Sl.v w1_1), (VI w1_2)]), (b_1, [(Sl.v g0_1)])] →
  ∃ J_1 : Nat → Int → Heap → Prop, (∃ n0 : Nat, J_1 n0 0 h_2) ∧
  ∀ (n_1 : Nat) (t11_1 : Int) (h_3 : Heap), J_1 n_1 t11_1 h_3 → Vars h_3 [(b_2, [(Sl.v w1_1), (VI w1_2)]), (b_1, [(Sl.v g0_1)])] →
  ((decide (t11_1 < (g0_1.n : Int))) = true →
  callM P 118 #[(Value.agg #[(Sl.v g0_1)]), (Sl.v w1_1), (VI t11_1)] h_3 fun rv_1 h_4 => ∃ t19_1 : Sl, ∃ t19_2 : Bool, rv_1 = (Value.tuple #[(Sl.v t19_1), (VB t19_2)]) ∧ Vars h_4 [(b_2, [(Sl.v w1_1), (VI w1_2)]), (b_1, [(Sl.v g0_1)])] ∧
  ((!t19_2) = true →
  K (VB false) h_4) ∧
  ((!t19_2) = false →
  callM P 72 #[(Sl.v t19_1), (VI w1_2)] h_4 fun rv_2 h_5 => ∃ t28_1 : Bool, rv_2 = (VB t28_1) ∧ Vars h_5 [(b_2, [(Sl.v w1_1), (VI w1_2)]), (b_1, [(Sl.v g0_1)])] ∧
  ((!t28_1) = true →
  K (VB false) h_5) ∧
  ((!t28_1) = false →
  ∃ m : Nat, m < n_1 ∧ J_1 m (w64 (t11_1 + 1)) h_5))) ∧
  ((decide (t11_1 < (g0_1.n : Int))) = false →
  K (VB true) h_3)
theorem v92 (g0_1 : Sl) (w1_1 : Sl) (w1_2 : Int) (h : Heap) (K : Value → Heap → Prop) (H : u92 Try.prog g0_1 w1_1 w1_2 h K) : callM Try.prog 92 #[(Value.agg #[(Sl.v g0_1)]), (Value.agg #[(Sl.v w1_1), (VI w1_2)])] h K := by
  refine c92 (Value.agg #[(Sl.v g0_1)]) (Value.agg #[(Sl.v w1_1), (VI w1_2)]) h K ?_
  unfold u92 at H
  unfold t92
  have hL : Vars h [] := .nil
  refine eop_box 32 (Value.agg #[(Sl.v g0_1)]) rfl hL (fun b_1 h_1 hb_1 hf_1 hL_1 => ?_)
  refine eop_box 101 (Value.agg #[(Sl.v w1_1), (VI w1_2)]) rfl hL_1 (fun b_2 h_2 hb_2 hf_2 hL_2 => ?_)
  refine pop_field 0 fld32_0 b_1 0 ?_
  refine rop_loc one22 hL_2 1 rfl 0 (v := (Sl.v g0_1)) rfl ?_
  refine pop_len g0_1 _ _ sli22 ?_
  have H := H b_1 b_2 h_2 (Nat.le_trans (Fr.size (Fr.r (In []) _)) hb_1) (Nat.le_trans (Fr.size (Fr.no' (Fr.r (In []) _) hf_1)) hb_2) (Fr.no' (Fr.no' (Fr.r (In []) _) hf_1) hf_2) hL_2
  obtain ⟨J_1, ⟨n_2, h0_1⟩, HB_1⟩ := H
  refine loop_intro (J := fun (n : Nat) (vs : List Value) (h' : Heap) => ∃ t11_1 : Int, vs = [(VI t11_1)] ∧ J_1 n t11_1 h' ∧ Vars h' [(b_2, [(Sl.v w1_1), (VI w1_2)]), (b_1, [(Sl.v g0_1)])]) n_2 ⟨0, rfl, h0_1, hL_2⟩ ?_
  intro I_1 mu_1 hI_1 junk_1 tv_1 h_3 hi_1
  obtain ⟨n_1, ⟨t11_1, hv, hJ_1, hL_3⟩, hn_1⟩ := hI_1 _ _ hi_1
  cases hv
  have H := HB_1 n_1 t11_1 h_3 hJ_1 hL_3
  refine pop_lss .i64 t11_1 (g0_1.n : Int) ?_
  refine condM_b (fun hb_3 => ?_) (fun hb_3 => ?_)
  rotate_left
  ·have H := H.2 hb_3
   exact H
  have H := H.1 hb_3
  refine rop_locA agg32 hL_3 1 rfl 0 (vs := [(Sl.v g0_1)]) rfl rfl ?_
  refine pop_field 0 fld101_0 b_2 0 ?_
  refine rop_loc one27 hL_3 0 rfl 0 (v := (Sl.v w1_1)) rfl ?_
  refine H.mono fun rv_1 h_4 H => ?_
  obtain ⟨t19_1, t19_2, rfl, hL_4, H⟩ := H
  refine pop_ext (v := (Sl.v t19_1)) rfl ?_
  refine pop_ext (v := (VB t19_2)) rfl ?_
  refine pop_not t19_2 ?_
  refine guardM_sf (fun hb_4 => ?_) (fun hb_4 => ?_)
  rotate_left
  ·have H := H.1 hb_4
   refine guardM_n' hb_4 (by decide) ?_
   refine guardM_n' hb_4 (by decide) ?_
   refine guardM_n' hb_4 (by decide) ?_
   refine guardM_n' hb_4 (by decide) ?_
   refine pop_pickt' hb_4 ?_
   refine condM_t ?_
   exact H
  have H := H.2 hb_4
  refine guardM_y' hb_4 ?_
  refine pop_field 1 fld101_1 b_2 0 ?_
  refine guardM_y' hb_4 ?_
  refine rop_loc one3 hL_4 0 rfl 1 (v := (VI w1_2)) rfl ?_
  refine guardM_y' hb_4 ?_
  refine H.mono fun rv_2 h_5 H => ?_
  obtain ⟨t28_1, rfl, hL_5, H⟩ := H
  refine guardM_y' hb_4 ?_
  refine pop_not t28_1 ?_
  refine pop_pickf' hb_4 ?_
  refine condM_b (fun hb_5 => ?_) (fun hb_5 => ?_)
  ·have H := H.1 hb_5
   exact H
  have H := H.2 hb_5
  refine pop_add .i64 t11_1 1 ?_
  obtain ⟨m_1, hm_1, H⟩ := H
  exact hn_1 _ _ ⟨m_1, hm_1, (w64 (t11_1 + 1)), rfl, H, hL_5⟩

/-! (impl.Walk).copied -/
def u93 (P : Program) (w0_1 : Sl) (w0_2 : Int) (h : Heap) (K : Value → Heap → Prop) : Prop :=
  ∀ (b_1 : Nat) (b_2 : Nat) (h_2 : Heap), h.size ≤ b_1 → h.size ≤ b_2 → Fr (In []) h h_2 → Vars h_2 [(b_2, [(Sl.v nilSl), (VI 0)]), (b_1, [(Sl.v w0_1), (VI w0_2)])] →
  callM P 119 #[(Sl.v w0_1)] h_2 fun rv_1 h_3 => ∃ t5_1 : Sl, rv_1 = (Sl.v t5_1) ∧ Vars h_3 [(b_2, [(Sl.v nilSl), (VI 0)]), (b_1, [(Sl.v w0_1), (VI w0_2)])] ∧
  ∀ (h_4 : Heap), Fr (In [b_2]) h_3 h_4 → Vars h_4 [(b_2, [(Sl.v t5_1), (VI w0_2)]), (b_1, [(Sl.v w0_1), (VI w0_2)])] →
  K (Value.agg #[(Sl.v t5_1), (VI w0_2)]) h_4
theorem v93 (w0_1 : Sl) (w0_2 : Int) (h : Heap) (K : Value → Heap → Prop) (H : u93 Try.prog w0_1 w0_2 h K) : callM Try.prog 93 #[(Value.agg #[(Sl.v w0_1), (VI w0_2)])] h K := by
  refine c93 (Value.agg #[(Sl.v w0_1), (VI w0_2)]) h K ?_
  unfold u93 at H
  unfold t93
  have hL : Vars h [] := .nil
  refine eop_box 101 (Value.agg #[(Sl.v w0_1), (VI w0_2)]) rfl hL (fun b_1 h_1 hb_1 hf_1 hL_1 => ?_)
  refine eop_alloc 101 zer101 rfl hL_1 (fun b_2 h_2 hb_2 hf_2 hL_2 => ?_)
  refine pop_field 0 fld101_0 b_1 0 ?_
  refine rop_loc one27 hL_2 1 rfl 0 (v := (Sl.v w0_1)) rfl ?_
  refine pop_field 1 fld101_1 b_1 0 ?_
  refine rop_loc one3 hL_2 1 rfl 1 (v := (VI w0_2)) rfl ?_
  have H := H b_1 b_2 h_2 (Nat.le_trans (Fr.size (Fr.r (In []) _)) hb_1) (Nat.le_trans (Fr.size (Fr.no' (Fr.r (In []) _) hf_1)) hb_2) (Fr.no' (Fr.no' (Fr.r (In []) _) hf_1) hf_2) hL_2
  refine H.mono fun rv_1 h_3 H => ?_
  obtain ⟨t5_1, rfl, hL_3, H⟩ := H
  refine ⟨?_, ?_⟩
  ·exact still_loc one3 hL_3 1 rfl 1 (v := (VI w0_2)) rfl
  refine pop.mk' (v := (Value.agg #[(Sl.v t5_1), (VI w0_2)])) (fun w => by kernel_rfl) ?_
  refine uop_loc siz101 hL_3 0 rfl 0 [(Sl.v t5_1), (VI w0_2)] rfl rfl rfl (Nat.le_of_ble_eq_true rfl) (L' := [(b_2, [(Sl.v t5_1), (VI w0_2)]), (b_1, [(Sl.v w0_1), (VI w0_2)])]) rfl (fun h_4 hf_3 hL_4 => ?_)
  refine rop_locA agg101 hL_4 0 rfl 0 (vs := [(Sl.v t5_1), (VI w0_2)]) rfl rfl ?_
  have H := H  h_4  (Fr.old (Fr.r (In []) _) hf_3) hL_4
  exact H

/-! laws.eqWalk -/
def u94 (P : Program) (a0_1 : Sl) (a0_2 : Int) (b1_1 : Sl) (b1_2 : Int) (h : Heap) (K : Value → Heap → Prop) : Prop :=
  ∀ (b_1 : Nat) (b_2 : Nat) (h_2 : Heap), h.size ≤ b_1 → h.size ≤ b_2 → Fr (In []) h h_2 → Vars h_2 [(b_2, [(Sl.v b1_1), (VI b1_2)]), (b_1, [(Sl.v a0_1), (VI a0_2)])] →
  callM P 14 #[(Sl.v a0_1), (Sl.v b1_1)] h_2 fun rv_1 h_3 => ∃ t9_1 : Bool, rv_1 = (VB t9_1) ∧ Vars h_3 [(b_2, [(Sl.v b1_1), (VI b1_2)]), (b_1, [(Sl.v a0_1), (VI a0_2)])] ∧
  ((!t9_1) = true →
  K (VB false) h_3) ∧
  ((!t9_1) = false →
  ((!decide (a0_2 = b1_2)) = true →
  K (VB false) h_3) ∧
  ((!decide (a0_2 = b1_2)) = false →
  K (VB true) h_3))
theorem v94 (a0_1 : Sl) (a0_2 : Int) (b1_1 : Sl) (b1_2 : Int) (h : Heap) (K : Value → Heap → Prop) (H : u94 Try.prog a0_1 a0_2 b1_1 b1_2 h K) : callM Try.prog 94 #[(Value.agg #[(Sl.v a0_1), (VI a0_2)]), (Value.agg #[(Sl.v b1_1), (VI b1_2)])] h K := by
  refine c94 (Value.agg #[(Sl.v a0_1), (VI a0_2)]) (Value.agg #[(Sl.v b1_1), (VI b1_2)]) h K ?_
  unfold u94 at H
  unfold t94
  have hL : Vars h [] := .nil
  refine eop_box 101 (Value.agg #[(Sl.v a0_1), (VI a0_2)]) rfl hL (fun b_1 h_1 hb_1 hf_1 hL_1 => ?_)
  refine eop_box 101 (Value.agg #[(Sl.v b1_1), (VI b1_2)]) rfl hL_1 (fun b_2 h_2 hb_2 hf_2 hL_2 => ?_)
  refine pop_field 0 fld101_0 b_1 0 ?_
  refine rop_loc one27 hL_2 1 rfl 0 (v := (Sl.v a0_1)) rfl ?_
  refine pop_field 0 fld101_0 b_2 0 ?_
  refine rop_loc one27 hL_2 0 rfl 0 (v := (Sl.v b1_1)) rfl ?_
  have H := H b_1 b_2 h_2 (Nat.le_trans (Fr.size (Fr.r (In []) _)) hb_1) (Nat.le_trans (Fr.size (Fr.no' (Fr.r (In []) _) hf_1)) hb_2) (Fr.no' (Fr.no' (Fr.r (In []) _) hf_1) hf_2) hL_2
  refine H.mono fun rv_1 h_3 H => ?_
  obtain ⟨t9_1, rfl, hL_3, H⟩ := H
  refine pop_not t9_1 ?_
  refine condM_b (fun hb_3 => ?_) (fun hb_3 => ?_)
  ·have H := H.1 hb_3
   exact H
  have H := H.2 hb_3
  refine pop_field 1 fld101_1 b_1 0 ?_
  refine rop_loc one3 hL_3 1 rfl 1 (v := (VI a0_2)) rfl ?_
  refine pop_field 1 fld101_1 b_2 0 ?_
  refine rop_loc one3 hL_3 0 rfl 1 (v := (VI b1_2)) rfl ?_
  refine pop_ine .i64 _ _ a0_2 b1_2 ?_
  refine condM_b (fun hb_4 => ?_) (fun hb_4 => ?_)
  ·have H := H.1 hb_4
   exact H
  have H := H.2 hb_4
  exact H

/-! laws.szIntS -/
def u95 (P : Program) (a0_1 : Sl) (left1_1 : Int) (h : Heap) (K : Value → Heap → Prop) : Prop :=
  ((decide ((w64 (left1_1 - (a0_1.n : Int))) < 0)) = true →
  K (VI (-1)) h) ∧
  ((decide ((w64 (left1_1 - (a0_1.n : Int))) < 0)) = false →
  K (VI (w64 (left1_1 - (a0_1.n : Int)))) h)
theorem v95 (a0_1 : Sl) (left1_1 : Int) (h : Heap) (K : Value → Heap → Prop) (H : u95 Try.prog a0_1 left1_1 h K) : callM Try.prog 95 #[(Sl.v a0_1), (VI left1_1)] h K := by
  refine c95 (Sl.v a0_1) (VI left1_1) h K ?_
  unfold u95 at H
  unfold t95
  have hL : Vars h [] := .nil
  refine pop_len a0_1 _ _ sli27 ?_
  refine pop_sub .i64 left1_1 (a0_1.n : Int) ?_
  refine pop_lss .i64 (w64 (left1_1 - (a0_1.n : Int))) 0 ?_
  refine condM_b (fun hb_1 => ?_) (fun hb_1 => ?_)
  ·have H := H.1 hb_1
   exact H
  have H := H.2 hb_1
  exact H

/-! spec.l1All -/
def u96 (P : Program) (l0_1 : Sl) (lo1_1 : Int) (hi2_1 : Int) (h : Heap) (K : Value → Heap → Prop) : Prop :=
  ∃ J_1 : Nat → Int → Heap → Prop, (∃ n0 : Nat, J_1 n0 0 h) ∧
  ∀ (n_1 : Nat) (t11_1 : Int) (h_1 : Heap), J_1 n_1 t11_1 h_1 → Vars h_1 [] →
  ((decide (t11_1 < (l0_1.n : Int))) = true →
  InB l0_1 t11_1 ∧
  ∃ t14_1 : Int, hcell h_1 (Sl.at l0_1 t11_1 1) = some (VI t14_1) ∧
  callM P 113 #[(VI t14_1), (VI lo1_1), (VI hi2_1)] h_1 fun rv_1 h_2 => ∃ t18_1 : Bool, rv_1 = (VB t18_1) ∧ Vars h_2 [] ∧
  ((!t18_1) = true →
  K (VB false) h_2) ∧
  ((!t18_1) = false →
  ∃ m : Nat, m < n_1 ∧ J_1 m (w64 (t11_1 + 1)) h_2)) ∧
  ((decide (t11_1 < (l0_1.n : Int))) = false →
  K (VB true) h_1)
theorem v96 (l0_1 : Sl) (lo1_1 : Int) (hi2_1 : Int) (h : Heap) (K : Value → Heap → Prop) (H : u96 Try.prog l0_1 lo1_1 hi2_1 h K) : callM Try.prog 96 #[(Sl.v l0_1), (VI lo1_1), (VI hi2_1)] h K := by
  refine c96 (Sl.v l0_1) (VI lo1_1) (VI hi2_1) h K ?_
  unfold u96 at H
  unfold t96
  have hL : Vars h [] := .nil
  refine pop_len l0_1 _ _ sli27 ?_
  obtain ⟨J_1, ⟨n_2, h0_1⟩, HB_1⟩ := H
  refine loop_intro (J := fun (n : Nat) (vs : List Value) (h' : Heap) => ∃ t11_1 : Int, vs = [(VI t11_1)] ∧ J_1 n t11_1 h' ∧ Vars h' []) n_2 ⟨0, rfl, h0_1, hL⟩ ?_
  intro I_1 mu_1 hI_1 junk_1 tv_1 h_1 hi_1
  obtain ⟨n_1, ⟨t11_1, hv, hJ_1, hL_1⟩, hn_1⟩ := hI_1 _ _ hi_1
  cases hv
  have H := HB_1 n_1 t11_1 h_1 hJ_1 hL_1
  refine pop_lss .i64 t11_1 (l0_1.n : Int) ?_
  refine condM_b (fun hb_1 => ?_) (fun hb_1 => ?_)
  rotate_left
  ·have H := H.2 hb_1
   exact H
  have H := H.1 hb_1
  obtain ⟨hi_2, H⟩ := H
  refine pop_index sli27 siz3 .i64 l0_1 t11_1 hi_2 ?_
  obtain ⟨t14_1, hc_1, H⟩ := H
  refine rop_one one3 (VI t14_1) hc_1 ?_
  refine H.mono fun rv_1 h_2 H => ?_
  obtain ⟨t18_1, rfl, hL_2, H⟩ := H
  refine pop_not t18_1 ?_
  refine condM_b (fun hb_2 => ?_) (fun hb_2 => ?_)
  ·have H := H.1 hb_2
   exact H
  have H := H.2 hb_2
  refine pop_add .i64 t11_1 1 ?_
  obtain ⟨m_1, hm_1, H⟩ := H
  exact hn_1 _ _ ⟨m_1, hm_1, (w64 (t11_1 + 1)), rfl, H, hL_2⟩

/-! impl.in -/
def u102 (P : Program) (n0_1 : Int) (low1_1 : Int) (high2_1 : Int) (h : Heap) (K : Value → Heap → Prop) : Prop :=
  ((decide (low1_1 ≤ n0_1)) = true →
  K (VB (decide (n0_1 ≤ high2_1))) h) ∧
  ((decide (low1_1 ≤ n0_1)) = false →
  K (VB false) h)
theorem v102 (n0_1 : Int) (low1_1 : Int) (high2_1 : Int) (h : Heap) (K : Value → Heap → Prop) (H : u102 Try.prog n0_1 low1_1 high2_1 h K) : callM Try.prog 102 #[(VI n0_1), (VI low1_1), (VI high2_1)] h K := by
  refine c102 (VI n0_1) (VI low1_1) (VI high2_1) h K ?_
  unfold u102 at H
  unfold t102
  have hL : Vars h [] := .nil
  refine pop_leq .i64 low1_1 n0_1 ?_
  refine guardM_st (fun hb_1 => ?_) (fun hb_1 => ?_)
  rotate_left
  ·have H := H.2 hb_1
   refine guardM_n' hb_1 (by decide) ?_
   refine guardM_n' hb_1 (by decide) ?_
   refine pop_pickf' hb_1 ?_
   exact H
  have H := H.1 hb_1
  refine guardM_y' hb_1 ?_
  refine guardM_y' hb_1 ?_
  refine pop_leq .i64 n0_1 high2_1 ?_
  refine pop_pickt' hb_1 ?_
  exact H

/-! slices.ContainsFunc[[]int,int] -/
def u103 (P : Program) (s0_1 : Sl) (f1_1 : Value) (h : Heap) (K : Value → Heap → Prop) : Prop :=
  callM P 121 #[(Sl.v s0_1), f1_1] h fun rv_1 h_1 => ∃ t7_1 : Int, rv_1 = (VI t7_1) ∧ Vars h_1 [] ∧
  K (VB (decide (0 ≤ t7_1))) h_1
theorem v103 (s0_1 : Sl) (f1_1 : Value) (h : Heap) (K : Value → Heap → Prop) (H : u103 Try.prog s0_1 f1_1 h K) : callM Try.prog 103 #[(Sl.v s0_1), f1_1] h K := by
  refine c103 (Sl.v s0_1) f1_1 h K ?_
  unfold u103 at H
  unfold t103
  have hL : Vars h [] := .nil
  refine H.mono fun rv_1 h_1 H => ?_
  obtain ⟨t7_1, rfl, hL_1, H⟩ := H
  refine pop_geq .i64 t7_1 0 ?_
  exact H

/-! impl.isGraph$1 -/
def u104 (P : Program) (q0_1 : Int) (b_1 : Nat) (t1_1 : Int) (h : Heap) (K : Value → Heap → Prop) : Prop :=
  callM P 102 #[(VI q0_1), (VI 0), (VI (w64 (t1_1 - 1)))] h fun rv_1 h_1 => ∃ t7_1 : Bool, rv_1 = (VB t7_1) ∧ Vars h_1 [(b_1, [(VI t1_1)])] ∧
  K (VB (!t7_1)) h_1
theorem v104 (q0_1 : Int) (b_1 : Nat) (t1_1 : Int) (h : Heap) (K : Value → Heap → Prop) (hL : Vars h [(b_1, [(VI t1_1)])]) (H : u104 Try.prog q0_1 b_1 t1_1 h K) : callM Try.prog 104 #[(VI q0_1), (VP b_1 0)] h K := by
  refine c104 (VI q0_1) (VP b_1 0) h K ?_
  unfold u104 at H
  unfold t104
  refine rop_loc one3 hL 0 rfl 0 (v := (VI t1_1)) rfl ?_
  refine pop_sub .i64 t1_1 1 ?_
  refine H.mono fun rv_1 h_1 H => ?_
  obtain ⟨t7_1, rfl, hL_1, H⟩ := H
  refine pop_not t7_1 ?_
  exact H

/-! impl.has$1 -/
def u111 (P : Program) (p0_1 : Int) (b_1 : Nat) (t1_1 : Sl) (h : Heap) (K : Value → Heap → Prop) : Prop :=
  callM P 102 #[(VI p0_1), (VI 0), (VI (w64 ((t1_1.n : Int) - 1)))] h fun rv_1 h_1 => ∃ t9_1 : Bool, rv_1 = (VB t9_1) ∧ Vars h_1 [(b_1, [(Sl.v t1_1)])] ∧
  K (VB (!t9_1)) h_1
theorem v111 (p0_1 : Int) (b_1 : Nat) (t1_1 : Sl) (h : Heap) (K : Value → Heap → Prop) (hL : Vars h [(b_1, [(Sl.v t1_1)])]) (H : u111 Try.prog p0_1 b_1 t1_1 h K) : callM Try.prog 111 #[(VI p0_1), (VP b_1 0)] h K := by
  refine c111 (VI p0_1) (VP b_1 0) h K ?_
  unfold u111 at H
  unfold t111
  refine pop_field 0 fld32_0 b_1 0 ?_
  refine rop_loc one22 hL 0 rfl 0 (v := (Sl.v t1_1)) rfl ?_
  refine pop_len t1_1 _ _ sli22 ?_
  refine pop_sub .i64 (t1_1.n : Int) 1 ?_
  refine H.mono fun rv_1 h_1 H => ?_
  obtain ⟨t9_1, rfl, hL_1, H⟩ := H
  refine pop_not t9_1 ?_
  exact H

/-! spec.l1In -/
def u113 (P : Program) (n0_1 : Int) (lo1_1 : Int) (hi2_1 : Int) (h : Heap) (K : Value → Heap → Prop) : Prop :=
  ((decide (lo1_1 ≤ n0_1)) = true →
  K (VB (decide (n0_1 ≤ hi2_1))) h) ∧
  ((decide (lo1_1 ≤ n0_1)) = false →
  K (VB false) h)
theorem v113 (n0_1 : Int) (lo1_1 : Int) (hi2_1 : Int) (h : Heap) (K : Value → Heap → Prop) (H : u113 Try.prog n0_1 lo1_1 hi2_1 h K) : callM Try.prog 113 #[(VI n0_1), (VI lo1_1), (VI hi2_1)] h K := by
  refine c113 (VI n0_1) (VI lo1_1) (VI hi2_1) h K ?_
  unfold u113 at H
  unfold t113
  have hL : Vars h [] := .nil
  refine pop_geq .i64 n0_1 lo1_1 ?_
  refine guardM_st (fun hb_1 => ?_) (fun hb_1 => ?_)
  rotate_left
  ·have H := H.2 hb_1
   refine guardM_n' hb_1 (by decide) ?_
   refine guardM_n' hb_1 (by decide) ?_
   refine pop_pickf' hb_1 ?_
   exact H
  have H := H.1 hb_1
  refine guardM_y' hb_1 ?_
  refine guardM_y' hb_1 ?_
  refine pop_leq .i64 n0_1 hi2_1 ?_
  refine pop_pickt' hb_1 ?_
  exact H

/-! slices.Index[[]int,int] -/
def u114 (P : Program) (s0_1 : Sl) (v1_1 : Int) (h : Heap) (K : Value → Heap → Prop) : Prop :=
  ∃ J_1 : Nat → Int → Heap → Prop, (∃ n0 : Nat, J_1 n0 0 h) ∧
  ∀ (n_1 : Nat) (t8_1 : Int) (h_1 : Heap), J_1 n_1 t8_1 h_1 → Vars h_1 [] →
  ((decide (t8_1 < (s0_1.n : Int))) = true →
  InB s0_1 t8_1 ∧
  ∃ t15_1 : Int, hcell h_1 (Sl.at s0_1 t8_1 1) = some (VI t15_1) ∧
  ((decide (v1_1 = t15_1)) = true →
  K (VI t8_1) h_1) ∧
  ((decide (v1_1 = t15_1)) = false →
  ∃ m : Nat, m < n_1 ∧ J_1 m (w64 (t8_1 + 1)) h_1)) ∧
  ((decide (t8_1 < (s0_1.n : Int))) = false →
  K (VI (-1)) h_1)
theorem v114 (s0_1 : Sl) (v1_1 : Int) (h : Heap) (K : Value → Heap → Prop) (H : u114 Try.prog s0_1 v1_1 h K) : callM Try.prog 114 #[(Sl.v s0_1), (VI v1_1)] h K := by
  refine c114 (Sl.v s0_1) (VI v1_1) h K ?_
  unfold u114 at H
  unfold t114
  have hL : Vars h [] := .nil
  refine pop_len s0_1 _ _ sli27 ?_
  obtain ⟨J_1, ⟨n_2, h0_1⟩, HB_1⟩ := H
  refine loop_intro (J := fun (n : Nat) (vs : List Value) (h' : Heap) => ∃ t8_1 : Int, vs = [(VI t8_1)] ∧ J_1 n t8_1 h' ∧ Vars h' []) n_2 ⟨0, rfl, h0_1, hL⟩ ?_
  intro I_1 mu_1 hI_1 junk_1 tv_1 h_1 hi_1
  obtain ⟨n_1, ⟨t8_1, hv, hJ_1, hL_1⟩, hn_1⟩ := hI_1 _ _ hi_1
  cases hv
  have H := HB_1 n_1 t8_1 h_1 hJ_1 hL_1
  refine pop_lss .i64 t8_1 (s0_1.n : Int) ?_
  refine condM_b (fun hb_1 => ?_) (fun hb_1 => ?_)
  rotate_left
  ·have H := H.2 hb_1
   exact H
  have H := H.1 hb_1
  obtain ⟨hi_2, H⟩ := H
  refine pop_index sli27 siz3 .i64 s0_1 t8_1 hi_2 ?_
  obtain ⟨t15_1, hc_1, H⟩ := H
  refine rop_one one3 (VI t15_1) hc_1 ?_
  refine pop_ieq .i64 _ _ v1_1 t15_1 ?_
  refine condM_b (fun hb_2 => ?_) (fun hb_2 => ?_)
  ·have H := H.1 hb_2
   exact H
  have H := H.2 hb_2
  refine pop_add .i64 t8_1 1 ?_
  obtain ⟨m_1, hm_1, H⟩ := H
  exact hn_1 _ _ ⟨m_1, hm_1, (w64 (t8_1 + 1)), rfl, H, hL_1⟩

/-! (*spec.trSearch).look -/
def u115 (P : Program) (b_1 : Nat) (s0_1 : Sl) (s0_2 : Int) (s0_3 : Sl) (s0_4 : Sl) (s0_5 : Int) (p1_1 : Int) (h : Heap) (K : Value → Heap → Prop) : Prop :=
  ((decide (s0_5 < (s0_4.n : Int))) = true →
  K (Value.tuple #[]) h) ∧
  ((decide (s0_5 < (s0_4.n : Int))) = false →
  ((decide (p1_1 = (s0_1.n : Int))) = true →
  callM P 87 #[(Sl.v s0_3)] h fun rv_1 h_1 => ∃ t32_1 : Sl, rv_1 = (Sl.v t32_1) ∧ Vars h_1 [(b_1, [(Sl.v s0_1), (VI s0_2), (Sl.v s0_3), (Sl.v s0_4), (VI s0_5)])] ∧
  eop P (Instr.buildSlice 22 1 #[(0, (Sl.v t32_1))]) h_1 fun rv_2 h_2 => ∃ t33_1 : Sl, rv_2 = (Sl.v t33_1) ∧ Vars h_2 [(b_1, [(Sl.v s0_1), (VI s0_2), (Sl.v s0_3), (Sl.v s0_4), (VI s0_5)])] ∧
  eop P (appS 22 22 22 (Sl.v s0_4) (Sl.v t33_1)) h_2 fun rv_3 h_3 => ∃ t34_1 : Sl, rv_3 = (Sl.v t34_1) ∧ Vars h_3 [(b_1, [(Sl.v s0_1), (VI s0_2), (Sl.v s0_3), (Sl.v s0_4), (VI s0_5)])] ∧
  ∀ (h_4 : Heap), Fr (In [b_1]) h_3 h_4 → Vars h_4 [(b_1, [(Sl.v s0_1), (VI s0_2), (Sl.v s0_3), (Sl.v t34_1), (VI s0_5)])] →
  K (Value.tuple #[]) h_4) ∧
  ((decide (p1_1 = (s0_1.n : Int))) = false →
  ((decide (p1_1 = s0_2)) = true →
  callM P 115 #[(VP b_1 0), (VI (w64 (p1_1 + 1)))] h fun rv_4 h_5 => ∃ x_1 : Sl, ∃ x_2 : Int, ∃ x_3 : Sl, ∃ x_4 : Sl, ∃ x_5 : Int, Vars h_5 [(b_1, [(Sl.v x_1), (VI x_2), (Sl.v x_3), (Sl.v x_4), (VI x_5)])] ∧
  K (Value.tuple #[]) h_5) ∧
  ((decide (p1_1 = s0_2)) = false →
  InB s0_1 p1_1 ∧
  ∃ t54_1 : Sl, hcell h (Sl.at s0_1 p1_1 1) = some (Sl.v t54_1) ∧
  ∃ J_1 : Nat → Int → Sl → Int → Sl → Sl → Int → Heap → Prop, (∃ n0 : Nat, J_1 n0 0 s0_1 s0_2 s0_3 s0_4 s0_5 h) ∧
  ∀ (n_1 : Nat) (t56_1 : Int) (x_6 : Sl) (x_7 : Int) (x_8 : Sl) (x_9 : Sl) (x_10 : Int) (h_6 : Heap), J_1 n_1 t56_1 x_6 x_7 x_8 x_9 x_10 h_6 → Vars h_6 [(b_1, [(Sl.v x_6), (VI x_7), (Sl.v x_8), (Sl.v x_9), (VI x_10)])] →
  ((decide (t56_1 < (t54_1.n : Int))) = true →
  InB x_8 p1_1 ∧
  Writable h_6 (Sl.at x_8 p1_1 1) ∧ Vars (hset h_6 (Sl.at x_8 p1_1 1) (VI t56_1)) [(b_1, [(Sl.v x_6), (VI x_7), (Sl.v x_8), (Sl.v x_9), (VI x_10)])] ∧
  ∀ h_7 : Heap, h_7 = hset h_6 (Sl.at x_8 p1_1 1) (VI t56_1) → Vars h_7 [(b_1, [(Sl.v x_6), (VI x_7), (Sl.v x_8), (Sl.v x_9), (VI x_10)])] →
  callM P 133 #[(VP b_1 0), (VI p1_1)] h_7 fun rv_5 h_8 => ∃ x_11 : Sl, ∃ x_12 : Int, ∃ x_13 : Sl, ∃ x_14 : Sl, ∃ x_15 : Int, ∃ t68_1 : Bool, rv_5 = (VB t68_1) ∧ Vars h_8 [(b_1, [(Sl.v x_11), (VI x_12), (Sl.v x_13), (Sl.v x_14), (VI x_15)])] ∧
  ((!t68_1) = true →
  callM P 115 #[(VP b_1 0), (VI (w64 (p1_1 + 1)))] h_8 fun rv_6 h_9 => ∃ x_16 : Sl, ∃ x_17 : Int, ∃ x_18 : Sl, ∃ x_19 : Sl, ∃ x_20 : Int, Vars h_9 [(b_1, [(Sl.v x_16), (VI x_17), (Sl.v x_18), (Sl.v x_19), (VI x_20)])] ∧
  ∃ m : Nat, m < n_1 ∧ J_1 m (w64 (t56_1 + 1)) x_16 x_17 x_18 x_19 x_20 h_9) ∧
  ((!t68_1) = false →
  ∃ m : Nat, m < n_1 ∧ J_1 m (w64 (t56_1 + 1)) x_11 x_12 x_13 x_14 x_15 h_8)) ∧
  ((decide (t56_1 < (t54_1.n : Int))) = false →
  InB x_8 p1_1 ∧
  Writable h_6 (Sl.at x_8 p1_1 1) ∧ Vars (hset h_6 (Sl.at x_8 p1_1 1) (VI 0)) [(b_1, [(Sl.v x_6), (VI x_7), (Sl.v x_8), (Sl.v x_9), (VI x_10)])] ∧
  ∀ h_10 : Heap, h_10 = hset h_6 (Sl.at x_8 p1_1 1) (VI 0) → Vars h_10 [(b_1, [(Sl.v x_6), (VI x_7), (Sl.v x_8), (Sl.v x_9), (VI x_10)])] →
  K (Value.tuple #[]) h_10))))
theorem v115 (b_1 : Nat) (s0_1 : Sl) (s0_2 : Int) (s0_3 : Sl) (s0_4 : Sl) (s0_5 : Int) (p1_1 : Int) (h : Heap) (K : Value → Heap → Prop) (hL : Vars h [(b_1, [(Sl.v s0_1), (VI s0_2), (Sl.v s0_3), (Sl.v s0_4), (VI s0_5)])]) (H : u115 Try.prog b_1 s0_1 s0_2 s0_3 s0_4 s0_5 p1_1 h K) : callM Try.prog 115 #[(VP b_1 0), (VI p1_1)] h K := by
  refine c115 (VP b_1 0) (VI p1_1) h K ?_
  unfold u115 at H
  unfold t115
  refine pop_nil _ ?_
  refine pop_field 3 fld123_3 b_1 0 ?_
  refine rop_loc one22 hL 0 rfl 3 (v := (Sl.v s0_4)) rfl ?_
  refine pop_len s0_4 _ _ sli22 ?_
  refine pop_nil _ ?_
  refine pop_field 4 fld123_4 b_1 0 ?_
  refine rop_loc one3 hL 0 rfl 4 (v := (VI s0_5)) rfl ?_
  refine pop_gtr .i64 (s0_4.n : Int) s0_5 ?_
  refine condM_b (fun hb_1 => ?_) (fun hb_1 => ?_)
  ·have H := H.1 hb_1
   exact H
  have H := H.2 hb_1
  refine pop_nil _ ?_
  refine pop_field 0 fld123_0 b_1 0 ?_
  refine pop_field 0 fld32_0 b_1 0 ?_
  refine rop_loc one22 hL 0 rfl 0 (v := (Sl.v s0_1)) rfl ?_
  refine pop_len s0_1 _ _ sli22 ?_
  refine pop_ieq .i64 _ _ p1_1 (s0_1.n : Int) ?_
  refine condM_b (fun hb_2 => ?_) (fun hb_2 => ?_)
  ·have H := H.1 hb_2
   refine pop_nil _ ?_
   refine pop_field 3 fld123_3 b_1 0 ?_
   refine rop_loc one22 hL 0 rfl 3 (v := (Sl.v s0_4)) rfl ?_
   refine pop_nil _ ?_
   refine pop_field 2 fld123_2 b_1 0 ?_
   refine rop_loc one27 hL 0 rfl 2 (v := (Sl.v s0_3)) rfl ?_
   refine H.mono fun rv_1 h_1 H => ?_
   obtain ⟨t32_1, rfl, hL_1, H⟩ := H
   refine ⟨?_, ?_⟩
   ·exact still_loc one22 hL_1 0 rfl 3 (v := (Sl.v s0_4)) rfl
   refine H.mono fun rv_2 h_2 H => ?_
   obtain ⟨t33_1, rfl, hL_2, H⟩ := H
   refine ⟨?_, ?_⟩
   ·exact still_loc one22 hL_2 0 rfl 3 (v := (Sl.v s0_4)) rfl
   refine H.mono fun rv_3 h_3 H => ?_
   obtain ⟨t34_1, rfl, hL_3, H⟩ := H
   refine pop_nil _ ?_
   refine pop_field 3 fld123_3 b_1 0 ?_
   refine uop_loc siz22 hL_3 0 rfl 3 [(Sl.v t34_1)] rfl rfl rfl (Nat.le_of_ble_eq_true rfl) (L' := [(b_1, [(Sl.v s0_1), (VI s0_2), (Sl.v s0_3), (Sl.v t34_1), (VI s0_5)])]) rfl (fun h_4 hf_1 hL_4 => ?_)
   have H := H  h_4  (Fr.old (Fr.r (In []) _) hf_1) hL_4
   exact H
  have H := H.2 hb_2
  refine pop_nil _ ?_
  refine pop_field 1 fld123_1 b_1 0 ?_
  refine rop_loc one3 hL 0 rfl 1 (v := (VI s0_2)) rfl ?_
  refine pop_ieq .i64 _ _ p1_1 s0_2 ?_
  refine condM_b (fun hb_3 => ?_) (fun hb_3 => ?_)
  ·have H := H.1 hb_3
   refine pop_add .i64 p1_1 1 ?_
   refine H.mono fun rv_4 h_5 H => ?_
   obtain ⟨x_1, x_2, x_3, x_4, x_5, hL_5, H⟩ := H
   exact H
  have H := H.2 hb_3
  refine pop_nil _ ?_
  refine pop_field 0 fld123_0 b_1 0 ?_
  refine pop_field 0 fld32_0 b_1 0 ?_
  refine rop_loc one22 hL 0 rfl 0 (v := (Sl.v s0_1)) rfl ?_
  obtain ⟨hi_1, H⟩ := H
  refine pop_index sli22 siz27 .i64 s0_1 p1_1 hi_1 ?_
  obtain ⟨t54_1, hc_1, H⟩ := H
  refine rop_one one27 (Sl.v t54_1) hc_1 ?_
  refine pop_len t54_1 _ _ sli27 ?_
  obtain ⟨J_1, ⟨n_2, h0_1⟩, HB_1⟩ := H
  refine loop_intro (J := fun (n : Nat) (vs : List Value) (h' : Heap) => ∃ t56_1 : Int, ∃ x_6 : Sl, ∃ x_7 : Int, ∃ x_8 : Sl, ∃ x_9 : Sl, ∃ x_10 : Int, vs = [(VI t56_1)] ∧ J_1 n t56_1 x_6 x_7 x_8 x_9 x_10 h' ∧ Vars h' [(b_1, [(Sl.v x_6), (VI x_7), (Sl.v x_8), (Sl.v x_9), (VI x_10)])]) n_2 ⟨0, s0_1, s0_2, s0_3, s0_4, s0_5, rfl, h0_1, hL⟩ ?_
  intro I_1 mu_1 hI_1 junk_1 tv_1 h_6 hi_2
  obtain ⟨n_1, ⟨t56_1, x_6, x_7, x_8, x_9, x_10, hv, hJ_1, hL_6⟩, hn_1⟩ := hI_1 _ _ hi_2
  cases hv
  have H := HB_1 n_1 t56_1 x_6 x_7 x_8 x_9 x_10 h_6 hJ_1 hL_6
  refine pop_lss .i64 t56_1 (t54_1.n : Int) ?_
  refine condM_b (fun hb_4 => ?_) (fun hb_4 => ?_)
  rotate_left
  ·have H := H.2 hb_4
   refine pop_nil _ ?_
   refine pop_field 2 fld123_2 b_1 0 ?_
   refine rop_loc one27 hL_6 0 rfl 2 (v := (Sl.v x_8)) rfl ?_
   obtain ⟨hi_4, H⟩ := H
   refine pop_index sli27 siz3 .i64 x_8 p1_1 hi_4 ?_
   obtain ⟨hw_2, hL_10, H⟩ := H
   refine uop_cell (v := (VI 0)) siz3 hw_2 rfl (fun h_10 he_2 => ?_)
   rw [← he_2] at hL_10
   have H := H h_10 he_2 hL_10
   exact H
  have H := H.1 hb_4
  refine pop_nil _ ?_
  refine pop_field 2 fld123_2 b_1 0 ?_
  refine rop_loc one27 hL_6 0 rfl 2 (v := (Sl.v x_8)) rfl ?_
  obtain ⟨hi_3, H⟩ := H
  refine pop_index sli27 siz3 .i64 x_8 p1_1 hi_3 ?_
  obtain ⟨hw_1, hL_7, H⟩ := H
  refine uop_cell (v := (VI t56_1)) siz3 hw_1 rfl (fun h_7 he_1 => ?_)
  rw [← he_1] at hL_7
  have H := H h_7 he_1 hL_7
  refine H.mono fun rv_5 h_8 H => ?_
  obtain ⟨x_11, x_12, x_13, x_14, x_15, t68_1, rfl, hL_8, H⟩ := H
  refine pop_not t68_1 ?_
  refine condM_b (fun hb_5 => ?_) (fun hb_5 => ?_)
  rotate_left
  ·have H := H.2 hb_5
   refine pop_add .i64 t56_1 1 ?_
   obtain ⟨m_2, hm_2, H⟩ := H
   exact hn_1 _ _ ⟨m_2, hm_2, (w64 (t56_1 + 1)), x_11, x_12, x_13, x_14, x_15, rfl, H, hL_8⟩
  have H := H.1 hb_5
  refine pop_add .i64 p1_1 1 ?_
  refine H.mono fun rv_6 h_9 H => ?_
  obtain ⟨x_16, x_17, x_18, x_19, x_20, hL_9, H⟩ := H
  refine pop_add .i64 t56_1 1 ?_
  obtain ⟨m_1, hm_1, H⟩ := H
  exact hn_1 _ _ ⟨m_1, hm_1, (w64 (t56_1 + 1)), x_16, x_17, x_18, x_19, x_20, rfl, H, hL_9⟩

/-! impl.determinant -/
def u116 (P : Program) (m0_1 : Sl) (h : Heap) (K : Value → Heap → Prop) : Prop :=
  eop P (Instr.buildSlice 22 0 #[]) h fun rv_1 h_1 => ∃ t15_1 : Sl, rv_1 = (Sl.v t15_1) ∧ Vars h_1 [] ∧
  ∃ J_1 : Nat → Sl → Int → Heap → Prop, (∃ n0 : Nat, J_1 n0 t15_1 0 h_1) ∧
  ∀ (n_1 : Nat) (a6_1 : Sl) (t18_1 : Int) (h_2 : Heap), J_1 n_1 a6_1 t18_1 h_2 → Vars h_2 [] →
  ((decide (t18_1 < (m0_1.n : Int))) = true →
  InB m0_1 t18_1 ∧
  ∃ t21_1 : Sl, hcell h_2 (Sl.at m0_1 t18_1 1) = some (Sl.v t21_1) ∧
  callM P 119 #[(Sl.v t21_1)] h_2 fun rv_2 h_3 => ∃ t24_1 : Sl, rv_2 = (Sl.v t24_1) ∧ Vars h_3 [] ∧
  eop P (Instr.buildSlice 22 1 #[(0, (Sl.v t24_1))]) h_3 fun rv_3 h_4 => ∃ t25_1 : Sl, rv_3 = (Sl.v t25_1) ∧ Vars h_4 [] ∧
  eop P (appS 22 22 22 (Sl.v a6_1) (Sl.v t25_1)) h_4 fun rv_4 h_5 => ∃ t26_1 : Sl, rv_4 = (Sl.v t26_1) ∧ Vars h_5 [] ∧
  ∃ m : Nat, m < n_1 ∧ J_1 m t26_1 (w64 (t18_1 + 1)) h_5) ∧
  ((decide (t18_1 < (m0_1.n : Int))) = false →
  ∃ J_2 : Nat → Int → Int → Int → Heap → Prop, (∃ n0 : Nat, J_2 n0 1 1 0 h_2) ∧
  ∀ (n_2 : Nat) (sign4_1 : Int) (last5_1 : Int) (t29_1 : Int) (h_6 : Heap), J_2 n_2 sign4_1 last5_1 t29_1 h_6 → Vars h_6 [] →
  ((decide (t29_1 < (m0_1.n : Int))) = true →
  ∃ J_3 : Nat → Int → Heap → Prop, (∃ n0 : Nat, J_3 n0 t29_1 h_6) ∧
  ∀ (n_3 : Nat) (pivot10_1 : Int) (h_7 : Heap), J_3 n_3 pivot10_1 h_7 → Vars h_7 [] →
  ((decide (pivot10_1 < (m0_1.n : Int))) = true →
  InB a6_1 pivot10_1 ∧
  ∃ t40_1 : Sl, hcell h_7 (Sl.at a6_1 pivot10_1 1) = some (Sl.v t40_1) ∧
  InB t40_1 t29_1 ∧
  ∃ t43_1 : Int, hcell h_7 (Sl.at t40_1 t29_1 1) = some (VI t43_1) ∧
  ((decide (t43_1 = 0)) = true →
  ∃ m : Nat, m < n_3 ∧ J_3 m (w64 (pivot10_1 + 1)) h_7) ∧
  ((decide (t43_1 = 0)) = false →
  ((decide (pivot10_1 = (m0_1.n : Int))) = true →
  K (VI 0) h_7) ∧
  ((decide (pivot10_1 = (m0_1.n : Int))) = false →
  ∃ J_4 : Int → Heap → Prop, (((!decide (pivot10_1 = t29_1)) = true →
  InB a6_1 t29_1 ∧
  ∃ t61_1 : Sl, hcell h_7 (Sl.at a6_1 t29_1 1) = some (Sl.v t61_1) ∧
  InB a6_1 pivot10_1 ∧
  ∃ t65_1 : Sl, hcell h_7 (Sl.at a6_1 pivot10_1 1) = some (Sl.v t65_1) ∧
  InB a6_1 pivot10_1 ∧
  Writable h_7 (Sl.at a6_1 pivot10_1 1) ∧ Vars (hset h_7 (Sl.at a6_1 pivot10_1 1) (Sl.v t61_1)) [] ∧
  ∀ h_8 : Heap, h_8 = hset h_7 (Sl.at a6_1 pivot10_1 1) (Sl.v t61_1) → Vars h_8 [] →
  InB a6_1 t29_1 ∧
  Writable h_8 (Sl.at a6_1 t29_1 1) ∧ Vars (hset h_8 (Sl.at a6_1 t29_1 1) (Sl.v t65_1)) [] ∧
  ∀ h_9 : Heap, h_9 = hset h_8 (Sl.at a6_1 t29_1 1) (Sl.v t65_1) → Vars h_9 [] →
  J_4 (w64 (0 - sign4_1)) h_9) ∧
  ((!decide (pivot10_1 = t29_1)) = false →
  J_4 sign4_1 h_7)) ∧
  ∀ (x_1 : Int) (h_10 : Heap), J_4 x_1 h_10 → Vars h_10 [] →
  ∃ J_5 : Nat → Int → Heap → Prop, (∃ n0 : Nat, J_5 n0 (w64 (t29_1 + 1)) h_10) ∧
  ∀ (n_4 : Nat) (i11_1 : Int) (h_11 : Heap), J_5 n_4 i11_1 h_11 → Vars h_11 [] →
  ((decide (i11_1 < (m0_1.n : Int))) = true →
  ∃ J_6 : Nat → Int → Heap → Prop, (∃ n0 : Nat, J_6 n0 (w64 (t29_1 + 1)) h_11) ∧
  ∀ (n_5 : Nat) (j12_1 : Int) (h_12 : Heap), J_6 n_5 j12_1 h_12 → Vars h_12 [] →
  ((decide (j12_1 < (m0_1.n : Int))) = true →
  InB a6_1 i11_1 ∧
  ∃ t87_1 : Sl, hcell h_12 (Sl.at a6_1 i11_1 1) = some (Sl.v t87_1) ∧
  InB a6_1 i11_1 ∧
  ∃ t92_1 : Sl, hcell h_12 (Sl.at a6_1 i11_1 1) = some (Sl.v t92_1) ∧
  InB t92_1 j12_1 ∧
  ∃ t95_1 : Int, hcell h_12 (Sl.at t92_1 j12_1 1) = some (VI t95_1) ∧
  InB a6_1 t29_1 ∧
  ∃ t99_1 : Sl, hcell h_12 (Sl.at a6_1 t29_1 1) = some (Sl.v t99_1) ∧
  InB t99_1 t29_1 ∧
  ∃ t102_1 : Int, hcell h_12 (Sl.at t99_1 t29_1 1) = some (VI t102_1) ∧
  InB a6_1 i11_1 ∧
  ∃ t107_1 : Sl, hcell h_12 (Sl.at a6_1 i11_1 1) = some (Sl.v t107_1) ∧
  InB t107_1 t29_1 ∧
  ∃ t110_1 : Int, hcell h_12 (Sl.at t107_1 t29_1 1) = some (VI t110_1) ∧
  InB a6_1 t29_1 ∧
  ∃ t114_1 : Sl, hcell h_12 (Sl.at a6_1 t29_1 1) = some (Sl.v t114_1) ∧
  InB t114_1 j12_1 ∧
  ∃ t117_1 : Int, hcell h_12 (Sl.at t114_1 j12_1 1) = some (VI t117_1) ∧
  last5_1 ≠ 0 ∧
  InB t87_1 j12_1 ∧
  Writable h_12 (Sl.at t87_1 j12_1 1) ∧ Vars (hset h_12 (Sl.at t87_1 j12_1 1) (VI (w64 (Int.tdiv (w64 ((w64 (t95_1 * t102_1)) - (w64 (t110_1 * t117_1)))) last5_1)))) [] ∧
  ∀ h_13 : Heap, h_13 = hset h_12 (Sl.at t87_1 j12_1 1) (VI (w64 (Int.tdiv (w64 ((w64 (t95_1 * t102_1)) - (w64 (t110_1 * t117_1)))) last5_1))) → Vars h_13 [] →
  ∃ m : Nat, m < n_5 ∧ J_6 m (w64 (j12_1 + 1)) h_13) ∧
  ((decide (j12_1 < (m0_1.n : Int))) = false →
  ∃ m : Nat, m < n_4 ∧ J_5 m (w64 (i11_1 + 1)) h_12)) ∧
  ((decide (i11_1 < (m0_1.n : Int))) = false →
  InB a6_1 t29_1 ∧
  ∃ t126_1 : Sl, hcell h_11 (Sl.at a6_1 t29_1 1) = some (Sl.v t126_1) ∧
  InB t126_1 t29_1 ∧
  ∃ t129_1 : Int, hcell h_11 (Sl.at t126_1 t29_1 1) = some (VI t129_1) ∧
  ∃ m : Nat, m < n_2 ∧ J_2 m x_1 t129_1 (w64 (t29_1 + 1)) h_11)))) ∧
  ((decide (pivot10_1 < (m0_1.n : Int))) = false →
  ((decide (pivot10_1 = (m0_1.n : Int))) = true →
  K (VI 0) h_7) ∧
  ((decide (pivot10_1 = (m0_1.n : Int))) = false →
  ∃ J_7 : Int → Heap → Prop, (((!decide (pivot10_1 = t29_1)) = true →
  InB a6_1 t29_1 ∧
  ∃ t61_2 : Sl, hcell h_7 (Sl.at a6_1 t29_1 1) = some (Sl.v t61_2) ∧
  InB a6_1 pivot10_1 ∧
  ∃ t65_2 : Sl, hcell h_7 (Sl.at a6_1 pivot10_1 1) = some (Sl.v t65_2) ∧
  InB a6_1 pivot10_1 ∧
  Writable h_7 (Sl.at a6_1 pivot10_1 1) ∧ Vars (hset h_7 (Sl.at a6_1 pivot10_1 1) (Sl.v t61_2)) [] ∧
  ∀ h_14 : Heap, h_14 = hset h_7 (Sl.at a6_1 pivot10_1 1) (Sl.v t61_2) → Vars h_14 [] →
  InB a6_1 t29_1 ∧
  Writable h_14 (Sl.at a6_1 t29_1 1) ∧ Vars (hset h_14 (Sl.at a6_1 t29_1 1) (Sl.v t65_2)) [] ∧
  ∀ h_15 : Heap, h_15 = hset h_14 (Sl.at a6_1 t29_1 1) (Sl.v t65_2) → Vars h_15 [] →
  J_7 (w64 (0 - sign4_1)) h_15) ∧
  ((!decide (pivot10_1 = t29_1)) = false →
  J_7 sign4_1 h_7)) ∧
  ∀ (x_2 : Int) (h_16 : Heap), J_7 x_2 h_16 → Vars h_16 [] →
  ∃ J_8 : Nat → Int → Heap → Prop, (∃ n0 : Nat, J_8 n0 (w64 (t29_1 + 1)) h_16) ∧
  ∀ (n_8 : Nat) (i11_2 : Int) (h_17 : Heap), J_8 n_8 i11_2 h_17 → Vars h_17 [] →
  ((decide (i11_2 < (m0_1.n : Int))) = true →
  ∃ J_9 : Nat → Int → Heap → Prop, (∃ n0 : Nat, J_9 n0 (w64 (t29_1 + 1)) h_17) ∧
  ∀ (n_9 : Nat) (j12_2 : Int) (h_18 : Heap), J_9 n_9 j12_2 h_18 → Vars h_18 [] →
  ((decide (j12_2 < (m0_1.n : Int))) = true →
  InB a6_1 i11_2 ∧
  ∃ t87_2 : Sl, hcell h_18 (Sl.at a6_1 i11_2 1) = some (Sl.v t87_2) ∧
  InB a6_1 i11_2 ∧
  ∃ t92_2 : Sl, hcell h_18 (Sl.at a6_1 i11_2 1) = some (Sl.v t92_2) ∧
  InB t92_2 j12_2 ∧
  ∃ t95_2 : Int, hcell h_18 (Sl.at t92_2 j12_2 1) = some (VI t95_2) ∧
  InB a6_1 t29_1 ∧
  ∃ t99_2 : Sl, hcell h_18 (Sl.at a6_1 t29_1 1) = some (Sl.v t99_2) ∧
  InB t99_2 t29_1 ∧
  ∃ t102_2 : Int, hcell h_18 (Sl.at t99_2 t29_1 1) = some (VI t102_2) ∧
  InB a6_1 i11_2 ∧
  ∃ t107_2 : Sl, hcell h_18 (Sl.at a6_1 i11_2 1) = some (Sl.v t107_2) ∧
  InB t107_2 t29_1 ∧
  ∃ t110_2 : Int, hcell h_18 (Sl.at t107_2 t29_1 1) = some (VI t110_2) ∧
  InB a6_1 t29_1 ∧
  ∃ t114_2 : Sl, hcell h_18 (Sl.at a6_1 t29_1 1) = some (Sl.v t114_2) ∧
  InB t114_2 j12_2 ∧
  ∃ t117_2 : Int, hcell h_18 (Sl.at t114_2 j12_2 1) = some (VI t117_2) ∧
  last5_1 ≠ 0 ∧
  InB t87_2 j12_2 ∧
  Writable h_18 (Sl.at t87_2 j12_2 1) ∧ Vars (hset h_18 (Sl.at t87_2 j12_2 1) (VI (w64 (Int.tdiv (w64 ((w64 (t95_2 * t102_2)) - (w64 (t110_2 * t117_2)))) last5_1)))) [] ∧
  ∀ h_19 : Heap, h_19 = hset h_18 (Sl.at t87_2 j12_2 1) (VI (w64 (Int.tdiv (w64 ((w64 (t95_2 * t102_2)) - (w64 (t110_2 * t117_2)))) last5_1))) → Vars h_19 [] →
  ∃ m : Nat, m < n_9 ∧ J_9 m (w64 (j12_2 + 1)) h_19) ∧
  ((decide (j12_2 < (m0_1.n : Int))) = false →
  ∃ m : Nat, m < n_8 ∧ J_8 m (w64 (i11_2 + 1)) h_18)) ∧
  ((decide (i11_2 < (m0_1.n : Int))) = false →
  InB a6_1 t29_1 ∧
  ∃ t126_2 : Sl, hcell h_17 (Sl.at a6_1 t29_1 1) = some (Sl.v t126_2) ∧
  InB t126_2 t29_1 ∧
  ∃ t129_2 : Int, hcell h_17 (Sl.at t126_2 t29_1 1) = some (VI t129_2) ∧
  ∃ m : Nat, m < n_2 ∧ J_2 m x_2 t129_2 (w64 (t29_1 + 1)) h_17)))) ∧
  ((decide (t29_1 < (m0_1.n : Int))) = false →
  K (VI (w64 (sign4_1 * last5_1))) h_6))
theorem v116 (m0_1 : Sl) (h : Heap) (K : Value → Heap → Prop) (H : u116 Try.prog m0_1 h K) : callM Try.prog 116 #[(Sl.v m0_1)] h K := by
  refine c116 (Sl.v m0_1) h K ?_
  unfold u116 at H
  unfold t116
  have hL : Vars h [] := .nil
  refine pop_len m0_1 _ _ sli22 ?_
  refine H.mono fun rv_1 h_1 H => ?_
  obtain ⟨t15_1, rfl, hL_1, H⟩ := H
  refine pop_len m0_1 _ _ sli22 ?_
  obtain ⟨J_1, ⟨n_14, h0_7⟩, HB_9⟩ := H
  refine loop_intro (J := fun (n : Nat) (vs : List Value) (h' : Heap) => ∃ a6_1 : Sl, ∃ t18_1 : Int, vs = [(Sl.v a6_1), (VI t18_1)] ∧ J_1 n a6_1 t18_1 h' ∧ Vars h' []) n_14 ⟨t15_1, 0, rfl, h0_7, hL_1⟩ ?_
  intro I_7 mu_7 hI_7 junk_1 tv_11 tv_12 h_2 hi_1
  obtain ⟨n_1, ⟨a6_1, t18_1, hv, hJ_1, hL_2⟩, hn_1⟩ := hI_7 _ _ hi_1
  cases hv
  have H := HB_9 n_1 a6_1 t18_1 h_2 hJ_1 hL_2
  refine pop_lss .i64 t18_1 (m0_1.n : Int) ?_
  refine condM_b (fun hb_1 => ?_) (fun hb_1 => ?_)
  ·have H := H.1 hb_1
   obtain ⟨hi_2, H⟩ := H
   refine pop_index sli22 siz27 .i64 m0_1 t18_1 hi_2 ?_
   obtain ⟨t21_1, hc_1, H⟩ := H
   refine rop_one one27 (Sl.v t21_1) hc_1 ?_
   refine H.mono fun rv_2 h_3 H => ?_
   obtain ⟨t24_1, rfl, hL_3, H⟩ := H
   refine H.mono fun rv_3 h_4 H => ?_
   obtain ⟨t25_1, rfl, hL_4, H⟩ := H
   refine H.mono fun rv_4 h_5 H => ?_
   obtain ⟨t26_1, rfl, hL_5, H⟩ := H
   refine pop_add .i64 t18_1 1 ?_
   obtain ⟨m_1, hm_1, H⟩ := H
   exact hn_1 _ _ ⟨m_1, hm_1, t26_1, (w64 (t18_1 + 1)), rfl, H, hL_5⟩
  have H := H.2 hb_1
  obtain ⟨J_2, ⟨n_13, h0_6⟩, HB_8⟩ := H
  refine loop_intro (J := fun (n : Nat) (vs : List Value) (h' : Heap) => ∃ sign4_1 : Int, ∃ last5_1 : Int, ∃ t29_1 : Int, vs = [(VI sign4_1), (VI last5_1), (VI t29_1)] ∧ J_2 n sign4_1 last5_1 t29_1 h' ∧ Vars h' []) n_13 ⟨1, 1, 0, rfl, h0_6, hL_2⟩ ?_
  intro I_6 mu_6 hI_6 junk_2 tv_8 tv_9 tv_10 h_6 hi_3
  obtain ⟨n_2, ⟨sign4_1, last5_1, t29_1, hv, hJ_2, hL_6⟩, hn_2⟩ := hI_6 _ _ hi_3
  cases hv
  have H := HB_8 n_2 sign4_1 last5_1 t29_1 h_6 hJ_2 hL_6
  refine pop_lss .i64 t29_1 (m0_1.n : Int) ?_
  refine condM_b (fun hb_2 => ?_) (fun hb_2 => ?_)
  rotate_left
  ·have H := H.2 hb_2
   refine pop_mul .i64 sign4_1 last5_1 ?_
   exact H
  have H := H.1 hb_2
  obtain ⟨J_3, ⟨n_12, h0_5⟩, HB_7⟩ := H
  refine loop_intro (J := fun (n : Nat) (vs : List Value) (h' : Heap) => ∃ pivot10_1 : Int, vs = [(VI pivot10_1)] ∧ J_3 n pivot10_1 h' ∧ Vars h' []) n_12 ⟨t29_1, rfl, h0_5, hL_6⟩ ?_
  intro I_5 mu_5 hI_5 junk_3 tv_7 h_7 hi_4
  obtain ⟨n_3, ⟨pivot10_1, hv, hJ_3, hL_7⟩, hn_3⟩ := hI_5 _ _ hi_4
  cases hv
  have H := HB_7 n_3 pivot10_1 h_7 hJ_3 hL_7
  refine pop_lss .i64 pivot10_1 (m0_1.n : Int) ?_
  refine guardM_st (fun hb_3 => ?_) (fun hb_3 => ?_)
  rotate_left
  ·have H := H.2 hb_3
   refine guardM_n' hb_3 (by decide) ?_
   refine guardM_n' hb_3 (by decide) ?_
   refine guardM_n' hb_3 (by decide) ?_
   refine guardM_n' hb_3 (by decide) ?_
   refine guardM_n' hb_3 (by decide) ?_
   refine guardM_n' hb_3 (by decide) ?_
   refine guardM_n' hb_3 (by decide) ?_
   refine pop_pickf' hb_3 ?_
   refine condM_f ?_
   refine pop_ieq .i64 _ _ pivot10_1 (m0_1.n : Int) ?_
   refine condM_b (fun hb_9 => ?_) (fun hb_9 => ?_)
   ·have H := H.1 hb_9
    exact H
   have H := H.2 hb_9
   obtain ⟨J_7, H, HB_6⟩ := H
   refine ⟨fun (vs : List Value) (h' : Heap) => ∃ x_2 : Int, vs = [(VI x_2)] ∧ J_7 x_2 h' ∧ Vars h' [], ?_, ?_⟩
   ·refine pop_ine .i64 _ _ pivot10_1 t29_1 ?_
    refine condM_b (fun hb_10 => ?_) (fun hb_10 => ?_)
    rotate_left
    ·have H := H.2 hb_10
     exact ⟨sign4_1, rfl, H, hL_7⟩
    have H := H.1 hb_10
    obtain ⟨hi_25, H⟩ := H
    refine pop_index sli22 siz27 .i64 a6_1 t29_1 hi_25 ?_
    obtain ⟨t61_2, hc_18, H⟩ := H
    refine rop_one one27 (Sl.v t61_2) hc_18 ?_
    obtain ⟨hi_26, H⟩ := H
    refine pop_index sli22 siz27 .i64 a6_1 pivot10_1 hi_26 ?_
    obtain ⟨t65_2, hc_17, H⟩ := H
    refine rop_one one27 (Sl.v t65_2) hc_17 ?_
    obtain ⟨hi_27, H⟩ := H
    refine pop_index sli22 siz27 .i64 a6_1 pivot10_1 hi_27 ?_
    obtain ⟨hw_4, hL_14, H⟩ := H
    refine uop_cell (v := (Sl.v t61_2)) siz27 hw_4 rfl (fun h_14 he_4 => ?_)
    rw [← he_4] at hL_14
    have H := H h_14 he_4 hL_14
    obtain ⟨hi_28, H⟩ := H
    refine pop_index sli22 siz27 .i64 a6_1 t29_1 hi_28 ?_
    obtain ⟨hw_5, hL_15, H⟩ := H
    refine uop_cell (v := (Sl.v t65_2)) siz27 hw_5 rfl (fun h_15 he_5 => ?_)
    rw [← he_5] at hL_15
    have H := H h_15 he_5 hL_15
    refine pop_neg .i64 sign4_1 ?_
    exact ⟨(w64 (0 - sign4_1)), rfl, H, hL_15⟩
   intro junk_7 tv_4 h_16
   rintro ⟨x_2, hv, hJ_7, hL_16⟩
   cases hv
   have H := HB_6 x_2 h_16 hJ_7 hL_16
   refine pop_add .i64 t29_1 1 ?_
   obtain ⟨J_8, ⟨n_11, h0_4⟩, HB_5⟩ := H
   refine loop_intro (J := fun (n : Nat) (vs : List Value) (h' : Heap) => ∃ i11_2 : Int, vs = [(VI i11_2)] ∧ J_8 n i11_2 h' ∧ Vars h' []) n_11 ⟨(w64 (t29_1 + 1)), rfl, h0_4, hL_16⟩ ?_
   intro I_4 mu_4 hI_4 junk_8 tv_6 h_17 hi_29
   obtain ⟨n_8, ⟨i11_2, hv, hJ_8, hL_17⟩, hn_6⟩ := hI_4 _ _ hi_29
   cases hv
   have H := HB_5 n_8 i11_2 h_17 hJ_8 hL_17
   refine pop_lss .i64 i11_2 (m0_1.n : Int) ?_
   refine condM_b (fun hb_11 => ?_) (fun hb_11 => ?_)
   rotate_left
   ·have H := H.2 hb_11
    obtain ⟨hi_41, H⟩ := H
    refine pop_index sli22 siz27 .i64 a6_1 t29_1 hi_41 ?_
    obtain ⟨t126_2, hc_29, H⟩ := H
    refine rop_one one27 (Sl.v t126_2) hc_29 ?_
    obtain ⟨hi_42, H⟩ := H
    refine pop_index sli27 siz3 .i64 t126_2 t29_1 hi_42 ?_
    obtain ⟨t129_2, hc_28, H⟩ := H
    refine rop_one one3 (VI t129_2) hc_28 ?_
    refine pop_add .i64 t29_1 1 ?_
    obtain ⟨m_8, hm_8, H⟩ := H
    exact hn_2 _ _ ⟨m_8, hm_8, x_2, t129_2, (w64 (t29_1 + 1)), rfl, H, hL_17⟩
   have H := H.1 hb_11
   refine pop_add .i64 t29_1 1 ?_
   obtain ⟨J_9, ⟨n_10, h0_3⟩, HB_4⟩ := H
   refine loop_intro (J := fun (n : Nat) (vs : List Value) (h' : Heap) => ∃ j12_2 : Int, vs = [(VI j12_2)] ∧ J_9 n j12_2 h' ∧ Vars h' []) n_10 ⟨(w64 (t29_1 + 1)), rfl, h0_3, hL_17⟩ ?_
   intro I_3 mu_3 hI_3 junk_9 tv_5 h_18 hi_30
   obtain ⟨n_9, ⟨j12_2, hv, hJ_9, hL_18⟩, hn_7⟩ := hI_3 _ _ hi_30
   cases hv
   have H := HB_4 n_9 j12_2 h_18 hJ_9 hL_18
   refine pop_lss .i64 j12_2 (m0_1.n : Int) ?_
   refine condM_b (fun hb_12 => ?_) (fun hb_12 => ?_)
   rotate_left
   ·have H := H.2 hb_12
    refine pop_add .i64 i11_2 1 ?_
    obtain ⟨m_7, hm_7, H⟩ := H
    exact hn_6 _ _ ⟨m_7, hm_7, (w64 (i11_2 + 1)), rfl, H, hL_18⟩
   have H := H.1 hb_12
   obtain ⟨hi_31, H⟩ := H
   refine pop_index sli22 siz27 .i64 a6_1 i11_2 hi_31 ?_
   obtain ⟨t87_2, hc_27, H⟩ := H
   refine rop_one one27 (Sl.v t87_2) hc_27 ?_
   obtain ⟨hi_32, H⟩ := H
   refine pop_index sli22 siz27 .i64 a6_1 i11_2 hi_32 ?_
   obtain ⟨t92_2, hc_26, H⟩ := H
   refine rop_one one27 (Sl.v t92_2) hc_26 ?_
   obtain ⟨hi_33, H⟩ := H
   refine pop_index sli27 siz3 .i64 t92_2 j12_2 hi_33 ?_
   obtain ⟨t95_2, hc_25, H⟩ := H
   refine rop_one one3 (VI t95_2) hc_25 ?_
   obtain ⟨hi_34, H⟩ := H
   refine pop_index sli22 siz27 .i64 a6_1 t29_1 hi_34 ?_
   obtain ⟨t99_2, hc_24, H⟩ := H
   refine rop_one one27 (Sl.v t99_2) hc_24 ?_
   obtain ⟨hi_35, H⟩ := H
   refine pop_index sli27 siz3 .i64 t99_2 t29_1 hi_35 ?_
   obtain ⟨t102_2, hc_23, H⟩ := H
   refine rop_one one3 (VI t102_2) hc_23 ?_
   refine pop_mul .i64 t95_2 t102_2 ?_
   obtain ⟨hi_36, H⟩ := H
   refine pop_index sli22 siz27 .i64 a6_1 i11_2 hi_36 ?_
   obtain ⟨t107_2, hc_22, H⟩ := H
   refine rop_one one27 (Sl.v t107_2) hc_22 ?_
   obtain ⟨hi_37, H⟩ := H
   refine pop_index sli27 siz3 .i64 t107_2 t29_1 hi_37 ?_
   obtain ⟨t110_2, hc_21, H⟩ := H
   refine rop_one one3 (VI t110_2) hc_21 ?_
   obtain ⟨hi_38, H⟩ := H
   refine pop_index sli22 siz27 .i64 a6_1 t29_1 hi_38 ?_
   obtain ⟨t114_2, hc_20, H⟩ := H
   refine rop_one one27 (Sl.v t114_2) hc_20 ?_
   obtain ⟨hi_39, H⟩ := H
   refine pop_index sli27 siz3 .i64 t114_2 j12_2 hi_39 ?_
   obtain ⟨t117_2, hc_19, H⟩ := H
   refine rop_one one3 (VI t117_2) hc_19 ?_
   refine pop_mul .i64 t110_2 t117_2 ?_
   refine pop_sub .i64 (w64 (t95_2 * t102_2)) (w64 (t110_2 * t117_2)) ?_
   obtain ⟨hz_2, H⟩ := H
   refine pop_quo .i64 (w64 ((w64 (t95_2 * t102_2)) - (w64 (t110_2 * t117_2)))) last5_1 hz_2 ?_
   obtain ⟨hi_40, H⟩ := H
   refine pop_index sli27 siz3 .i64 t87_2 j12_2 hi_40 ?_
   obtain ⟨hw_6, hL_19, H⟩ := H
   refine uop_cell (v := (VI (w64 (Int.tdiv (w64 ((w64 (t95_2 * t102_2)) - (w64 (t110_2 * t117_2)))) last5_1)))) siz3 hw_6 rfl (fun h_19 he_6 => ?_)
   rw [← he_6] at hL_19
   have H := H h_19 he_6 hL_19
   refine pop_add .i64 j12_2 1 ?_
   obtain ⟨m_6, hm_6, H⟩ := H
   exact hn_7 _ _ ⟨m_6, hm_6, (w64 (j12_2 + 1)), rfl, H, hL_19⟩
  have H := H.1 hb_3
  refine guardM_y' hb_3 ?_
  refine guardM_y' hb_3 ?_
  obtain ⟨hi_5, H⟩ := H
  refine pop_index sli22 siz27 .i64 a6_1 pivot10_1 hi_5 ?_
  refine guardM_y' hb_3 ?_
  obtain ⟨t40_1, hc_16, H⟩ := H
  refine rop_one one27 (Sl.v t40_1) hc_16 ?_
  refine guardM_y' hb_3 ?_
  refine guardM_y' hb_3 ?_
  obtain ⟨hi_6, H⟩ := H
  refine pop_index sli27 siz3 .i64 t40_1 t29_1 hi_6 ?_
  refine guardM_y' hb_3 ?_
  obtain ⟨t43_1, hc_15, H⟩ := H
  refine rop_one one3 (VI t43_1) hc_15 ?_
  refine guardM_y' hb_3 ?_
  refine pop_ieq .i64 _ _ t43_1 0 ?_
  refine pop_pickt' hb_3 ?_
  refine condM_b (fun hb_4 => ?_) (fun hb_4 => ?_)
  ·have H := H.1 hb_4
   refine pop_add .i64 pivot10_1 1 ?_
   obtain ⟨m_2, hm_2, H⟩ := H
   exact hn_3 _ _ ⟨m_2, hm_2, (w64 (pivot10_1 + 1)), rfl, H, hL_7⟩
  have H := H.2 hb_4
  refine pop_ieq .i64 _ _ pivot10_1 (m0_1.n : Int) ?_
  refine condM_b (fun hb_5 => ?_) (fun hb_5 => ?_)
  ·have H := H.1 hb_5
   exact H
  have H := H.2 hb_5
  obtain ⟨J_4, H, HB_3⟩ := H
  refine ⟨fun (vs : List Value) (h' : Heap) => ∃ x_1 : Int, vs = [(VI x_1)] ∧ J_4 x_1 h' ∧ Vars h' [], ?_, ?_⟩
  ·refine pop_ine .i64 _ _ pivot10_1 t29_1 ?_
   refine condM_b (fun hb_6 => ?_) (fun hb_6 => ?_)
   rotate_left
   ·have H := H.2 hb_6
    exact ⟨sign4_1, rfl, H, hL_7⟩
   have H := H.1 hb_6
   obtain ⟨hi_7, H⟩ := H
   refine pop_index sli22 siz27 .i64 a6_1 t29_1 hi_7 ?_
   obtain ⟨t61_1, hc_3, H⟩ := H
   refine rop_one one27 (Sl.v t61_1) hc_3 ?_
   obtain ⟨hi_8, H⟩ := H
   refine pop_index sli22 siz27 .i64 a6_1 pivot10_1 hi_8 ?_
   obtain ⟨t65_1, hc_2, H⟩ := H
   refine rop_one one27 (Sl.v t65_1) hc_2 ?_
   obtain ⟨hi_9, H⟩ := H
   refine pop_index sli22 siz27 .i64 a6_1 pivot10_1 hi_9 ?_
   obtain ⟨hw_1, hL_8, H⟩ := H
   refine uop_cell (v := (Sl.v t61_1)) siz27 hw_1 rfl (fun h_8 he_1 => ?_)
   rw [← he_1] at hL_8
   have H := H h_8 he_1 hL_8
   obtain ⟨hi_10, H⟩ := H
   refine pop_index sli22 siz27 .i64 a6_1 t29_1 hi_10 ?_
   obtain ⟨hw_2, hL_9, H⟩ := H
   refine uop_cell (v := (Sl.v t65_1)) siz27 hw_2 rfl (fun h_9 he_2 => ?_)
   rw [← he_2] at hL_9
   have H := H h_9 he_2 hL_9
   refine pop_neg .i64 sign4_1 ?_
   exact ⟨(w64 (0 - sign4_1)), rfl, H, hL_9⟩
  intro junk_4 tv_1 h_10
  rintro ⟨x_1, hv, hJ_4, hL_10⟩
  cases hv
  have H := HB_3 x_1 h_10 hJ_4 hL_10
  refine pop_add .i64 t29_1 1 ?_
  obtain ⟨J_5, ⟨n_7, h0_2⟩, HB_2⟩ := H
  refine loop_intro (J := fun (n : Nat) (vs : List Value) (h' : Heap) => ∃ i11_1 : Int, vs = [(VI i11_1)] ∧ J_5 n i11_1 h' ∧ Vars h' []) n_7 ⟨(w64 (t29_1 + 1)), rfl, h0_2, hL_10⟩ ?_
  intro I_2 mu_2 hI_2 junk_5 tv_3 h_11 hi_11
  obtain ⟨n_4, ⟨i11_1, hv, hJ_5, hL_11⟩, hn_4⟩ := hI_2 _ _ hi_11
  cases hv
  have H := HB_2 n_4 i11_1 h_11 hJ_5 hL_11
  refine pop_lss .i64 i11_1 (m0_1.n : Int) ?_
  refine condM_b (fun hb_7 => ?_) (fun hb_7 => ?_)
  rotate_left
  ·have H := H.2 hb_7
   obtain ⟨hi_23, H⟩ := H
   refine pop_index sli22 siz27 .i64 a6_1 t29_1 hi_23 ?_
   obtain ⟨t126_1, hc_14, H⟩ := H
   refine rop_one one27 (Sl.v t126_1) hc_14 ?_
   obtain ⟨hi_24, H⟩ := H
   refine pop_index sli27 siz3 .i64 t126_1 t29_1 hi_24 ?_
   obtain ⟨t129_1, hc_13, H⟩ := H
   refine rop_one one3 (VI t129_1) hc_13 ?_
   refine pop_add .i64 t29_1 1 ?_
   obtain ⟨m_5, hm_5, H⟩ := H
   exact hn_2 _ _ ⟨m_5, hm_5, x_1, t129_1, (w64 (t29_1 + 1)), rfl, H, hL_11⟩
  have H := H.1 hb_7
  refine pop_add .i64 t29_1 1 ?_
  obtain ⟨J_6, ⟨n_6, h0_1⟩, HB_1⟩ := H
  refine loop_intro (J := fun (n : Nat) (vs : List Value) (h' : Heap) => ∃ j12_1 : Int, vs = [(VI j12_1)] ∧ J_6 n j12_1 h' ∧ Vars h' []) n_6 ⟨(w64 (t29_1 + 1)), rfl, h0_1, hL_11⟩ ?_
  intro I_1 mu_1 hI_1 junk_6 tv_2 h_12 hi_12
  obtain ⟨n_5, ⟨j12_1, hv, hJ_6, hL_12⟩, hn_5⟩ := hI_1 _ _ hi_12
  cases hv
  have H := HB_1 n_5 j12_1 h_12 hJ_6 hL_12
  refine pop_lss .i64 j12_1 (m0_1.n : Int) ?_
  refine condM_b (fun hb_8 => ?_) (fun hb_8 => ?_)
  rotate_left
  ·have H := H.2 hb_8
   refine pop_add .i64 i11_1 1 ?_
   obtain ⟨m_4, hm_4, H⟩ := H
   exact hn_4 _ _ ⟨m_4, hm_4, (w64 (i11_1 + 1)), rfl, H, hL_12⟩
  have H := H.1 hb_8
  obtain ⟨hi_13, H⟩ := H
  refine pop_index sli22 siz27 .i64 a6_1 i11_1 hi_13 ?_
  obtain ⟨t87_1, hc_12, H⟩ := H
  refine rop_one one27 (Sl.v t87_1) hc_12 ?_
  obtain ⟨hi_14, H⟩ := H
  refine pop_index sli22 siz27 .i64 a6_1 i11_1 hi_14 ?_
  obtain ⟨t92_1, hc_11, H⟩ := H
  refine rop_one one27 (Sl.v t92_1) hc_11 ?_
  obtain ⟨hi_15, H⟩ := H
  refine pop_index sli27 siz3 .i64 t92_1 j12_1 hi_15 ?_
  obtain ⟨t95_1, hc_10, H⟩ := H
  refine rop_one one3 (VI t95_1) hc_10 ?_
  obtain ⟨hi_16, H⟩ := H
  refine pop_index sli22 siz27 .i64 a6_1 t29_1 hi_16 ?_
  obtain ⟨t99_1, hc_9, H⟩ := H
  refine rop_one one27 (Sl.v t99_1) hc_9 ?_
  obtain ⟨hi_17, H⟩ := H
  refine pop_index sli27 siz3 .i64 t99_1 t29_1 hi_17 ?_
  obtain ⟨t102_1, hc_8, H⟩ := H
  refine rop_one one3 (VI t102_1) hc_8 ?_
  refine pop_mul .i64 t95_1 t102_1 ?_
  obtain ⟨hi_18, H⟩ := H
  refine pop_index sli22 siz27 .i64 a6_1 i11_1 hi_18 ?_
  obtain ⟨t107_1, hc_7, H⟩ := H
  refine rop_one one27 (Sl.v t107_1) hc_7 ?_
  obtain ⟨hi_19, H⟩ := H
  refine pop_index sli27 siz3 .i64 t107_1 t29_1 hi_19 ?_
  obtain ⟨t110_1, hc_6, H⟩ := H
  refine rop_one one3 (VI t110_1) hc_6 ?_
  obtain ⟨hi_20, H⟩ := H
  refine pop_index sli22 siz27 .i64 a6_1 t29_1 hi_20 ?_
  obtain ⟨t114_1, hc_5, H⟩ := H
  refine rop_one one27 (Sl.v t114_1) hc_5 ?_
  obtain ⟨hi_21, H⟩ := H
  refine pop_index sli27 siz3 .i64 t114_1 j12_1 hi_21 ?_
  obtain ⟨t117_1, hc_4, H⟩ := H
  refine rop_one one3 (VI t117_1) hc_4 ?_
  refine pop_mul .i64 t110_1 t117_1 ?_
  refine pop_sub .i64 (w64 (t95_1 * t102_1)) (w64 (t110_1 * t117_1)) ?_
  obtain ⟨hz_1, H⟩ := H
  refine pop_quo .i64 (w64 ((w64 (t95_1 * t102_1)) - (w64 (t110_1 * t117_1)))) last5_1 hz_1 ?_
  obtain ⟨hi_22, H⟩ := H
  refine pop_index sli27 siz3 .i64 t87_1 j12_1 hi_22 ?_
  obtain ⟨hw_3, hL_13, H⟩ := H
  refine uop_cell (v := (VI (w64 (Int.tdiv (w64 ((w64 (t95_1 * t102_1)) - (w64 (t110_1 * t117_1)))) last5_1)))) siz3 hw_3 rfl (fun h_13 he_3 => ?_)
  rw [← he_3] at hL_13
  have H := H h_13 he_3 hL_13
  refine pop_add .i64 j12_1 1 ?_
  obtain ⟨m_3, hm_3, H⟩ := H
  exact hn_5 _ _ ⟨m_3, hm_3, (w64 (j12_1 + 1)), rfl, H, hL_13⟩

/-! impl.laplace -/
def u117 (P : Program) (g0_1 : Sl) (sink1_1 : Int) (h : Heap) (K : Value → Heap → Prop) : Prop :=
  ∀ (b_1 : Nat) (h_1 : Heap), h.size ≤ b_1 → Fr (In []) h h_1 → Vars h_1 [(b_1, [(Sl.v g0_1)])] →
  eop P (Instr.buildSlice 22 0 #[]) h_1 fun rv_1 h_2 => ∃ t11_1 : Sl, rv_1 = (Sl.v t11_1) ∧ Vars h_2 [(b_1, [(Sl.v g0_1)])] ∧
  ∃ J_1 : Nat → Sl → Int → Heap → Prop, (∃ n0 : Nat, J_1 n0 t11_1 0 h_2) ∧
  ∀ (n_1 : Nat) (out5_1 : Sl) (t15_1 : Int) (h_3 : Heap), J_1 n_1 out5_1 t15_1 h_3 → Vars h_3 [(b_1, [(Sl.v g0_1)])] →
  ((decide (t15_1 < (g0_1.n : Int))) = true →
  InB g0_1 t15_1 ∧
  ∃ t19_1 : Sl, hcell h_3 (Sl.at g0_1 t15_1 1) = some (Sl.v t19_1) ∧
  ((decide (t15_1 = sink1_1)) = true →
  ∃ m : Nat, m < n_1 ∧ J_1 m out5_1 (w64 (t15_1 + 1)) h_3) ∧
  ((decide (t15_1 = sink1_1)) = false →
  eop P (Instr.makeSlice 27 (VI (g0_1.n : Int)) (VI (g0_1.n : Int))) h_3 fun rv_2 h_4 => ∃ t26_1 : Sl, rv_2 = (Sl.v t26_1) ∧ Vars h_4 [(b_1, [(Sl.v g0_1)])] ∧
  InB t26_1 t15_1 ∧
  Writable h_4 (Sl.at t26_1 t15_1 1) ∧ Vars (hset h_4 (Sl.at t26_1 t15_1 1) (VI (t19_1.n : Int))) [(b_1, [(Sl.v g0_1)])] ∧
  ∀ h_5 : Heap, h_5 = hset h_4 (Sl.at t26_1 t15_1 1) (VI (t19_1.n : Int)) → Vars h_5 [(b_1, [(Sl.v g0_1)])] →
  ∃ J_2 : Nat → Int → Heap → Prop, (∃ n0 : Nat, J_2 n0 0 h_5) ∧
  ∀ (n_2 : Nat) (t34_1 : Int) (h_6 : Heap), J_2 n_2 t34_1 h_6 → Vars h_6 [(b_1, [(Sl.v g0_1)])] →
  ((decide (t34_1 < (t19_1.n : Int))) = true →
  InB t19_1 t34_1 ∧
  ∃ t37_1 : Int, hcell h_6 (Sl.at t19_1 t34_1 1) = some (VI t37_1) ∧
  InB t26_1 t37_1 ∧
  ∃ t41_1 : Int, hcell h_6 (Sl.at t26_1 t37_1 1) = some (VI t41_1) ∧
  InB t26_1 t37_1 ∧
  Writable h_6 (Sl.at t26_1 t37_1 1) ∧ Vars (hset h_6 (Sl.at t26_1 t37_1 1) (VI (w64 (t41_1 - 1)))) [(b_1, [(Sl.v g0_1)])] ∧
  ∀ h_7 : Heap, h_7 = hset h_6 (Sl.at t26_1 t37_1 1) (VI (w64 (t41_1 - 1))) → Vars h_7 [(b_1, [(Sl.v g0_1)])] →
  ∃ m : Nat, m < n_2 ∧ J_2 m (w64 (t34_1 + 1)) h_7) ∧
  ((decide (t34_1 < (t19_1.n : Int))) = false →
  callM P 134 #[(Sl.v t26_1), (VI sink1_1), (VI (w64 (sink1_1 + 1)))] h_6 fun rv_3 h_8 => ∃ t50_1 : Sl, rv_3 = (Sl.v t50_1) ∧ Vars h_8 [(b_1, [(Sl.v g0_1)])] ∧
  eop P (Instr.buildSlice 22 1 #[(0, (Sl.v t50_1))]) h_8 fun rv_4 h_9 => ∃ t51_1 : Sl, rv_4 = (Sl.v t51_1) ∧ Vars h_9 [(b_1, [(Sl.v g0_1)])] ∧
  eop P (appS 22 22 22 (Sl.v out5_1) (Sl.v t51_1)) h_9 fun rv_5 h_10 => ∃ t52_1 : Sl, rv_5 = (Sl.v t52_1) ∧ Vars h_10 [(b_1, [(Sl.v g0_1)])] ∧
  ∃ m : Nat, m < n_1 ∧ J_1 m t52_1 (w64 (t15_1 + 1)) h_10))) ∧
  ((decide (t15_1 < (g0_1.n : Int))) = false →
  K (Sl.v out5_1) h_3)
theorem v117 (g0_1 : Sl) (sink1_1 : Int) (h : Heap) (K : Value → Heap → Prop) (H : u117 Try.prog g0_1 sink1_1 h K) : callM Try.prog 117 #[(Value.agg #[(Sl.v g0_1)]), (VI sink1_1)] h K := by
  refine c117 (Value.agg #[(Sl.v g0_1)]) (VI sink1_1) h K ?_
  unfold u117 at H
  unfold t117
  have hL : Vars h [] := .nil
  refine eop_box 32 (Value.agg #[(Sl.v g0_1)]) rfl hL (fun b_1 h_1 hb_1 hf_1 hL_1 => ?_)
  have H := H b_1 h_1 (Nat.le_trans (Fr.size (Fr.r (In []) _)) hb_1) (Fr.no' (Fr.r (In []) _) hf_1) hL_1
  refine H.mono fun rv_1 h_2 H => ?_
  obtain ⟨t11_1, rfl, hL_2, H⟩ := H
  refine pop_field 0 fld32_0 b_1 0 ?_
  refine rop_loc one22 hL_2 0 rfl 0 (v := (Sl.v g0_1)) rfl ?_
  refine pop_len g0_1 _ _ sli22 ?_
  obtain ⟨J_1, ⟨n_4, h0_2⟩, HB_2⟩ := H
  refine loop_intro (J := fun (n : Nat) (vs : List Value) (h' : Heap) => ∃ out5_1 : Sl, ∃ t15_1 : Int, vs = [(Sl.v out5_1), (VI t15_1)] ∧ J_1 n out5_1 t15_1 h' ∧ Vars h' [(b_1, [(Sl.v g0_1)])]) n_4 ⟨t11_1, 0, rfl, h0_2, hL_2⟩ ?_
  intro I_2 mu_2 hI_2 junk_1 tv_2 tv_3 h_3 hi_1
  obtain ⟨n_1, ⟨out5_1, t15_1, hv, hJ_1, hL_3⟩, hn_1⟩ := hI_2 _ _ hi_1
  cases hv
  have H := HB_2 n_1 out5_1 t15_1 h_3 hJ_1 hL_3
  refine pop_lss .i64 t15_1 (g0_1.n : Int) ?_
  refine condM_b (fun hb_2 => ?_) (fun hb_2 => ?_)
  rotate_left
  ·have H := H.2 hb_2
   exact H
  have H := H.1 hb_2
  obtain ⟨hi_2, H⟩ := H
  refine pop_index sli22 siz27 .i64 g0_1 t15_1 hi_2 ?_
  obtain ⟨t19_1, hc_3, H⟩ := H
  refine rop_one one27 (Sl.v t19_1) hc_3 ?_
  refine pop_ieq .i64 _ _ t15_1 sink1_1 ?_
  refine condM_b (fun hb_3 => ?_) (fun hb_3 => ?_)
  ·have H := H.1 hb_3
   refine pop_add .i64 t15_1 1 ?_
   obtain ⟨m_1, hm_1, H⟩ := H
   exact hn_1 _ _ ⟨m_1, hm_1, out5_1, (w64 (t15_1 + 1)), rfl, H, hL_3⟩
  have H := H.2 hb_3
  refine pop_field 0 fld32_0 b_1 0 ?_
  refine rop_loc one22 hL_3 0 rfl 0 (v := (Sl.v g0_1)) rfl ?_
  refine pop_len g0_1 _ _ sli22 ?_
  refine H.mono fun rv_2 h_4 H => ?_
  obtain ⟨t26_1, rfl, hL_4, H⟩ := H
  refine pop_len t19_1 _ _ sli27 ?_
  obtain ⟨hi_3, H⟩ := H
  refine pop_index sli27 siz3 .i64 t26_1 t15_1 hi_3 ?_
  obtain ⟨hw_1, hL_5, H⟩ := H
  refine uop_cell (v := (VI (t19_1.n : Int))) siz3 hw_1 rfl (fun h_5 he_1 => ?_)
  rw [← he_1] at hL_5
  have H := H h_5 he_1 hL_5
  refine pop_len t19_1 _ _ sli27 ?_
  obtain ⟨J_2, ⟨n_3, h0_1⟩, HB_1⟩ := H
  refine loop_intro (J := fun (n : Nat) (vs : List Value) (h' : Heap) => ∃ t34_1 : Int, vs = [(VI t34_1)] ∧ J_2 n t34_1 h' ∧ Vars h' [(b_1, [(Sl.v g0_1)])]) n_3 ⟨0, rfl, h0_1, hL_5⟩ ?_
  intro I_1 mu_1 hI_1 junk_2 tv_1 h_6 hi_4
  obtain ⟨n_2, ⟨t34_1, hv, hJ_2, hL_6⟩, hn_2⟩ := hI_1 _ _ hi_4
  cases hv
  have H := HB_1 n_2 t34_1 h_6 hJ_2 hL_6
  refine pop_lss .i64 t34_1 (t19_1.n : Int) ?_
  refine condM_b (fun hb_4 => ?_) (fun hb_4 => ?_)
  rotate_left
  ·have H := H.2 hb_4
   refine pop_add .i64 sink1_1 1 ?_
   refine H.mono fun rv_3 h_8 H => ?_
   obtain ⟨t50_1, rfl, hL_8, H⟩ := H
   refine H.mono fun rv_4 h_9 H => ?_
   obtain ⟨t51_1, rfl, hL_9, H⟩ := H
   refine H.mono fun rv_5 h_10 H => ?_
   obtain ⟨t52_1, rfl, hL_10, H⟩ := H
   refine pop_add .i64 t15_1 1 ?_
   obtain ⟨m_3, hm_3, H⟩ := H
   exact hn_1 _ _ ⟨m_3, hm_3, t52_1, (w64 (t15_1 + 1)), rfl, H, hL_10⟩
  have H := H.1 hb_4
  obtain ⟨hi_5, H⟩ := H
  refine pop_index sli27 siz3 .i64 t19_1 t34_1 hi_5 ?_
  obtain ⟨t37_1, hc_2, H⟩ := H
  refine rop_one one3 (VI t37_1) hc_2 ?_
  obtain ⟨hi_6, H⟩ := H
  refine pop_index sli27 siz3 .i64 t26_1 t37_1 hi_6 ?_
  obtain ⟨t41_1, hc_1, H⟩ := H
  refine rop_one one3 (VI t41_1) hc_1 ?_
  refine pop_sub .i64 t41_1 1 ?_
  obtain ⟨hi_7, H⟩ := H
  refine pop_index sli27 siz3 .i64 t26_1 t37_1 hi_7 ?_
  obtain ⟨hw_2, hL_7, H⟩ := H
  refine uop_cell (v := (VI (w64 (t41_1 - 1)))) siz3 hw_2 rfl (fun h_7 he_2 => ?_)
  rw [← he_2] at hL_7
  have H := H h_7 he_2 hL_7
  refine pop_add .i64 t34_1 1 ?_
  obtain ⟨m_2, hm_2, H⟩ := H
  exact hn_2 _ _ ⟨m_2, hm_2, (w64 (t34_1 + 1)), rfl, H, hL_7⟩

/-! (impl.Graph).cycleFrom -/
def u118 (P : Program) (g0_1 : Sl) (rotors1_1 : Sl) (p2_1 : Int) (h : Heap) (K : Value → Heap → Prop) : Prop :=
  ∀ (b_1 : Nat) (h_1 : Heap), h.size ≤ b_1 → Fr (In []) h h_1 → Vars h_1 [(b_1, [(Sl.v g0_1)])] →
  eop P (Instr.buildSlice 27 0 #[]) h_1 fun rv_1 h_2 => ∃ t9_1 : Sl, rv_1 = (Sl.v t9_1) ∧ Vars h_2 [(b_1, [(Sl.v g0_1)])] ∧
  ∃ J_1 : Nat → Int → Sl → Heap → Prop, (∃ n0 : Nat, J_1 n0 p2_1 t9_1 h_2) ∧
  ∀ (n_1 : Nat) (p2_2 : Int) (met8_1 : Sl) (h_3 : Heap), J_1 n_1 p2_2 met8_1 h_3 → Vars h_3 [(b_1, [(Sl.v g0_1)])] →
  callM P 72 #[(Sl.v met8_1), (VI p2_2)] h_3 fun rv_2 h_4 => ∃ t12_1 : Bool, rv_2 = (VB t12_1) ∧ Vars h_4 [(b_1, [(Sl.v g0_1)])] ∧
  ((!t12_1) = true →
  eop P (Instr.buildSlice 27 1 #[(0, (VI p2_2))]) h_4 fun rv_3 h_5 => ∃ t16_1 : Sl, rv_3 = (Sl.v t16_1) ∧ Vars h_5 [(b_1, [(Sl.v g0_1)])] ∧
  eop P (appS 27 27 27 (Sl.v met8_1) (Sl.v t16_1)) h_5 fun rv_4 h_6 => ∃ t17_1 : Sl, rv_4 = (Sl.v t17_1) ∧ Vars h_6 [(b_1, [(Sl.v g0_1)])] ∧
  callM P 135 #[(Value.agg #[(Sl.v g0_1)]), (Sl.v rotors1_1), (VI p2_2)] h_6 fun rv_5 h_7 => ∃ t21_1 : Int, rv_5 = (VI t21_1) ∧ Vars h_7 [(b_1, [(Sl.v g0_1)])] ∧
  ((decide (t21_1 < 0)) = true →
  K (Value.tuple #[(Sl.v nilSl), (VB false)]) h_7) ∧
  ((decide (t21_1 < 0)) = false →
  ∃ m : Nat, m < n_1 ∧ J_1 m t21_1 t17_1 h_7)) ∧
  ((!t12_1) = false →
  callM P 114 #[(Sl.v met8_1), (VI p2_2)] h_4 fun rv_6 h_8 => ∃ t27_1 : Int, rv_6 = (VI t27_1) ∧ Vars h_8 [(b_1, [(Sl.v g0_1)])] ∧
  pop P (Instr.sliceAt 27 (Sl.v met8_1) (some (VI t27_1)) none none) fun rv_7 => ∃ t28_1 : Sl, rv_7 = (Sl.v t28_1) ∧ 
  K (Value.tuple #[(Sl.v t28_1), (VB true)]) h_8)
theorem v118 (g0_1 : Sl) (rotors1_1 : Sl) (p2_1 : Int) (h : Heap) (K : Value → Heap → Prop) (H : u118 Try.prog g0_1 rotors1_1 p2_1 h K) : callM Try.prog 118 #[(Value.agg #[(Sl.v g0_1)]), (Sl.v rotors1_1), (VI p2_1)] h K := by
  refine c118 (Value.agg #[(Sl.v g0_1)]) (Sl.v rotors1_1) (VI p2_1) h K ?_
  unfold u118 at H
  unfold t118
  have hL : Vars h [] := .nil
  refine eop_box 32 (Value.agg #[(Sl.v g0_1)]) rfl hL (fun b_1 h_1 hb_1 hf_1 hL_1 => ?_)
  have H := H b_1 h_1 (Nat.le_trans (Fr.size (Fr.r (In []) _)) hb_1) (Fr.no' (Fr.r (In []) _) hf_1) hL_1
  refine H.mono fun rv_1 h_2 H => ?_
  obtain ⟨t9_1, rfl, hL_2, H⟩ := H
  obtain ⟨J_1, ⟨n_2, h0_1⟩, HB_1⟩ := H
  refine loop_intro (J := fun (n : Nat) (vs : List Value) (h' : Heap) => ∃ p2_2 : Int, ∃ met8_1 : Sl, vs = [(VI p2_2), (Sl.v met8_1)] ∧ J_1 n p2_2 met8_1 h' ∧ Vars h' [(b_1, [(Sl.v g0_1)])]) n_2 ⟨p2_1, t9_1, rfl, h0_1, hL_2⟩ ?_
  intro I_1 mu_1 hI_1 junk_1 tv_1 tv_2 h_3 hi_1
  obtain ⟨n_1, ⟨p2_2, met8_1, hv, hJ_1, hL_3⟩, hn_1⟩ := hI_1 _ _ hi_1
  cases hv
  have H := HB_1 n_1 p2_2 met8_1 h_3 hJ_1 hL_3
  refine H.mono fun rv_2 h_4 H => ?_
  obtain ⟨t12_1, rfl, hL_4, H⟩ := H
  refine pop_not t12_1 ?_
  refine condM_b (fun hb_2 => ?_) (fun hb_2 => ?_)
  rotate_left
  ·have H := H.2 hb_2
   refine H.mono fun rv_6 h_8 H => ?_
   obtain ⟨t27_1, rfl, hL_8, H⟩ := H
   refine H.mono fun rv_7 H => ?_
   obtain ⟨t28_1, rfl, H⟩ := H
   exact H
  have H := H.1 hb_2
  refine H.mono fun rv_3 h_5 H => ?_
  obtain ⟨t16_1, rfl, hL_5, H⟩ := H
  refine H.mono fun rv_4 h_6 H => ?_
  obtain ⟨t17_1, rfl, hL_6, H⟩ := H
  refine rop_locA agg32 hL_6 0 rfl 0 (vs := [(Sl.v g0_1)]) rfl rfl ?_
  refine H.mono fun rv_5 h_7 H => ?_
  obtain ⟨t21_1, rfl, hL_7, H⟩ := H
  refine pop_lss .i64 t21_1 0 ?_
  refine condM_b (fun hb_3 => ?_) (fun hb_3 => ?_)
  ·have H := H.1 hb_3
   exact H
  have H := H.2 hb_3
  obtain ⟨m_1, hm_1, H⟩ := H
  exact hn_1 _ _ ⟨m_1, hm_1, t21_1, t17_1, rfl, H, hL_7⟩

/-! slices.Clone[[]int,int] -/
def u119 (P : Program) (s0_1 : Sl) (h : Heap) (K : Value → Heap → Prop) : Prop :=
  pop P (binE .eql 27 (.tmp 3) (.const (Value.slice none 0 0)) (Sl.v s0_1) (Value.slice none 0 0)) fun rv_1 => ∃ t4_1 : Bool, rv_1 = (VB t4_1) ∧ 
  (t4_1 = true →
  K (Sl.v nilSl) h) ∧
  (t4_1 = false →
  eop P (Instr.buildSlice 27 0 #[]) h fun rv_2 h_1 => ∃ t5_1 : Sl, rv_2 = (Sl.v t5_1) ∧ Vars h_1 [] ∧
  eop P (appS 27 27 27 (Sl.v t5_1) (Sl.v s0_1)) h_1 fun rv_3 h_2 => ∃ t7_1 : Sl, rv_3 = (Sl.v t7_1) ∧ Vars h_2 [] ∧
  K (Sl.v t7_1) h_2)
theorem v119 (s0_1 : Sl) (h : Heap) (K : Value → Heap → Prop) (H : u119 Try.prog s0_1 h K) : callM Try.prog 119 #[(Sl.v s0_1)] h K := by
  refine c119 (Sl.v s0_1) h K ?_
  unfold u119 at H
  unfold t119
  have hL : Vars h [] := .nil
  refine H.mono fun rv_1 H => ?_
  obtain ⟨t4_1, rfl, H⟩ := H
  refine condM_b (fun hb_1 => ?_) (fun hb_1 => ?_)
  ·have H := H.1 hb_1
   exact H
  have H := H.2 hb_1
  refine H.mono fun rv_2 h_1 H => ?_
  obtain ⟨t5_1, rfl, hL_1, H⟩ := H
  refine H.mono fun rv_3 h_2 H => ?_
  obtain ⟨t7_1, rfl, hL_2, H⟩ := H
  exact H

/-! slices.IndexFunc[[]int,int] -/
def u121 (P : Program) (s0_1 : Sl) (f1_1 : Value) (h : Heap) (K : Value → Heap → Prop) : Prop :=
  ∃ J_1 : Nat → Int → Heap → Prop, (∃ n0 : Nat, J_1 n0 0 h) ∧
  ∀ (n_1 : Nat) (t8_1 : Int) (h_1 : Heap), J_1 n_1 t8_1 h_1 → Vars h_1 [] →
  ((decide (t8_1 < (s0_1.n : Int))) = true →
  InB s0_1 t8_1 ∧
  ∃ t15_1 : Int, hcell h_1 (Sl.at s0_1 t8_1 1) = some (VI t15_1) ∧
  callV P f1_1 [(VI t15_1)] h_1 fun rv_1 h_2 => ∃ t16_1 : Bool, rv_1 = (VB t16_1) ∧ Vars h_2 [] ∧
  (t16_1 = true →
  K (VI t8_1) h_2) ∧
  (t16_1 = false →
  ∃ m : Nat, m < n_1 ∧ J_1 m (w64 (t8_1 + 1)) h_2)) ∧
  ((decide (t8_1 < (s0_1.n : Int))) = false →
  K (VI (-1)) h_1)
theorem v121 (s0_1 : Sl) (f1_1 : Value) (h : Heap) (K : Value → Heap → Prop) (H : u121 Try.prog s0_1 f1_1 h K) : callM Try.prog 121 #[(Sl.v s0_1), f1_1] h K := by
  refine c121 (Sl.v s0_1) f1_1 h K ?_
  unfold u121 at H
  unfold t121
  have hL : Vars h [] := .nil
  refine pop_len s0_1 _ _ sli27 ?_
  obtain ⟨J_1, ⟨n_2, h0_1⟩, HB_1⟩ := H
  refine loop_intro (J := fun (n : Nat) (vs : List Value) (h' : Heap) => ∃ t8_1 : Int, vs = [(VI t8_1)] ∧ J_1 n t8_1 h' ∧ Vars h' []) n_2 ⟨0, rfl, h0_1, hL⟩ ?_
  intro I_1 mu_1 hI_1 junk_1 tv_1 h_1 hi_1
  obtain ⟨n_1, ⟨t8_1, hv, hJ_1, hL_1⟩, hn_1⟩ := hI_1 _ _ hi_1
  cases hv
  have H := HB_1 n_1 t8_1 h_1 hJ_1 hL_1
  refine pop_lss .i64 t8_1 (s0_1.n : Int) ?_
  refine condM_b (fun hb_1 => ?_) (fun hb_1 => ?_)
  rotate_left
  ·have H := H.2 hb_1
   exact H
  have H := H.1 hb_1
  obtain ⟨hi_2, H⟩ := H
  refine pop_index sli27 siz3 .i64 s0_1 t8_1 hi_2 ?_
  obtain ⟨t15_1, hc_1, H⟩ := H
  refine rop_one one3 (VI t15_1) hc_1 ?_
  refine H.mono fun rv_1 h_2 H => ?_
  obtain ⟨t16_1, rfl, hL_2, H⟩ := H
  refine condM_b (fun hb_2 => ?_) (fun hb_2 => ?_)
  ·have H := H.1 hb_2
   exact H
  have H := H.2 hb_2
  refine pop_add .i64 t8_1 1 ?_
  obtain ⟨m_1, hm_1, H⟩ := H
  exact hn_1 _ _ ⟨m_1, hm_1, (w64 (t8_1 + 1)), rfl, H, hL_2⟩

/-! (*spec.trSearch).loops -/
def u133 (P : Program) (b_1 : Nat) (s0_1 : Sl) (s0_2 : Int) (s0_3 : Sl) (s0_4 : Sl) (s0_5 : Int) (p1_1 : Int) (h : Heap) (K : Value → Heap → Prop) : Prop :=
  ∃ J_1 : Nat → Int → Int → Heap → Prop, (∃ n0 : Nat, J_1 n0 p1_1 0 h) ∧
  ∀ (n_1 : Nat) (q5_1 : Int) (n6_1 : Int) (h_1 : Heap), J_1 n_1 q5_1 n6_1 h_1 → Vars h_1 [(b_1, [(Sl.v s0_1), (VI s0_2), (Sl.v s0_3), (Sl.v s0_4), (VI s0_5)])] →
  ((decide (n6_1 ≤ (s0_1.n : Int))) = true →
  ((decide (q5_1 = s0_2)) = true →
  K (VB false) h_1) ∧
  ((decide (q5_1 = s0_2)) = false →
  ((decide (p1_1 < q5_1)) = true →
  K (VB false) h_1) ∧
  ((decide (p1_1 < q5_1)) = false →
  callM P 143 #[(Value.agg #[(Sl.v s0_1)]), (Sl.v s0_3), (VI q5_1)] h_1 fun rv_1 h_2 => ∃ t38_1 : Int, rv_1 = (VI t38_1) ∧ Vars h_2 [(b_1, [(Sl.v s0_1), (VI s0_2), (Sl.v s0_3), (Sl.v s0_4), (VI s0_5)])] ∧
  ((decide (t38_1 < 0)) = true →
  K (VB true) h_2) ∧
  ((decide (t38_1 < 0)) = false →
  ∃ m : Nat, m < n_1 ∧ J_1 m t38_1 (w64 (n6_1 + 1)) h_2)))) ∧
  ((decide (n6_1 ≤ (s0_1.n : Int))) = false →
  K (VB true) h_1)
theorem v133 (b_1 : Nat) (s0_1 : Sl) (s0_2 : Int) (s0_3 : Sl) (s0_4 : Sl) (s0_5 : Int) (p1_1 : Int) (h : Heap) (K : Value → Heap → Prop) (hL : Vars h [(b_1, [(Sl.v s0_1), (VI s0_2), (Sl.v s0_3), (Sl.v s0_4), (VI s0_5)])]) (H : u133 Try.prog b_1 s0_1 s0_2 s0_3 s0_4 s0_5 p1_1 h K) : callM Try.prog 133 #[(VP b_1 0), (VI p1_1)] h K := by
  refine c133 (VP b_1 0) (VI p1_1) h K ?_
  unfold u133 at H
  unfold t133
  obtain ⟨J_1, ⟨n_2, h0_1⟩, HB_1⟩ := H
  refine loop_intro (J := fun (n : Nat) (vs : List Value) (h' : Heap) => ∃ q5_1 : Int, ∃ n6_1 : Int, vs = [(VI q5_1), (VI n6_1)] ∧ J_1 n q5_1 n6_1 h' ∧ Vars h' [(b_1, [(Sl.v s0_1), (VI s0_2), (Sl.v s0_3), (Sl.v s0_4), (VI s0_5)])]) n_2 ⟨p1_1, 0, rfl, h0_1, hL⟩ ?_
  intro I_1 mu_1 hI_1 junk_1 tv_1 tv_2 h_1 hi_1
  obtain ⟨n_1, ⟨q5_1, n6_1, hv, hJ_1, hL_1⟩, hn_1⟩ := hI_1 _ _ hi_1
  cases hv
  have H := HB_1 n_1 q5_1 n6_1 h_1 hJ_1 hL_1
  refine pop_nil _ ?_
  refine pop_field 0 fld123_0 b_1 0 ?_
  refine pop_field 0 fld32_0 b_1 0 ?_
  refine rop_loc one22 hL_1 0 rfl 0 (v := (Sl.v s0_1)) rfl ?_
  refine pop_len s0_1 _ _ sli22 ?_
  refine pop_leq .i64 n6_1 (s0_1.n : Int) ?_
  refine condM_b (fun hb_1 => ?_) (fun hb_1 => ?_)
  rotate_left
  ·have H := H.2 hb_1
   exact H
  have H := H.1 hb_1
  refine pop_nil _ ?_
  refine pop_field 1 fld123_1 b_1 0 ?_
  refine rop_loc one3 hL_1 0 rfl 1 (v := (VI s0_2)) rfl ?_
  refine pop_ieq .i64 _ _ q5_1 s0_2 ?_
  refine guardM_sf (fun hb_2 => ?_) (fun hb_2 => ?_)
  rotate_left
  ·have H := H.1 hb_2
   refine guardM_n' hb_2 (by decide) ?_
   refine guardM_n' hb_2 (by decide) ?_
   refine pop_pickt' hb_2 ?_
   refine condM_t ?_
   exact H
  have H := H.2 hb_2
  refine guardM_y' hb_2 ?_
  refine guardM_y' hb_2 ?_
  refine pop_gtr .i64 q5_1 p1_1 ?_
  refine pop_pickf' hb_2 ?_
  refine condM_b (fun hb_3 => ?_) (fun hb_3 => ?_)
  ·have H := H.1 hb_3
   exact H
  have H := H.2 hb_3
  refine pop_nil _ ?_
  refine pop_field 0 fld123_0 b_1 0 ?_
  refine rop_locA agg32 hL_1 0 rfl 0 (vs := [(Sl.v s0_1)]) rfl rfl ?_
  refine pop_nil _ ?_
  refine pop_field 2 fld123_2 b_1 0 ?_
  refine rop_loc one27 hL_1 0 rfl 2 (v := (Sl.v s0_3)) rfl ?_
  refine H.mono fun rv_1 h_2 H => ?_
  obtain ⟨t38_1, rfl, hL_2, H⟩ := H
  refine pop_lss .i64 t38_1 0 ?_
  refine condM_b (fun hb_4 => ?_) (fun hb_4 => ?_)
  ·have H := H.1 hb_4
   exact H
  have H := H.2 hb_4
  refine pop_add .i64 n6_1 1 ?_
  obtain ⟨m_1, hm_1, H⟩ := H
  exact hn_1 _ _ ⟨m_1, hm_1, t38_1, (w64 (n6_1 + 1)), rfl, H, hL_2⟩

/-! (impl.Graph).next -/
def u135 (P : Program) (g0_1 : Sl) (rotors1_1 : Sl) (p2_1 : Int) (h : Heap) (K : Value → Heap → Prop) : Prop :=
  InB g0_1 p2_1 ∧
  ∀ (b_1 : Nat) (h_1 : Heap), h.size ≤ b_1 → Fr (In []) h h_1 → Vars h_1 [(b_1, [(Sl.v g0_1)])] →
  ∃ t11_1 : Sl, hcell h_1 (Sl.at g0_1 p2_1 1) = some (Sl.v t11_1) ∧
  ((decide ((t11_1.n : Int) = 0)) = true →
  K (VI (-1)) h_1) ∧
  ((decide ((t11_1.n : Int) = 0)) = false →
  InB g0_1 p2_1 ∧
  ∃ t18_1 : Sl, hcell h_1 (Sl.at g0_1 p2_1 1) = some (Sl.v t18_1) ∧
  InB rotors1_1 p2_1 ∧
  ∃ t22_1 : Int, hcell h_1 (Sl.at rotors1_1 p2_1 1) = some (VI t22_1) ∧
  InB t18_1 t22_1 ∧
  ∃ t24_1 : Int, hcell h_1 (Sl.at t18_1 t22_1 1) = some (VI t24_1) ∧
  K (VI t24_1) h_1)
theorem v135 (g0_1 : Sl) (rotors1_1 : Sl) (p2_1 : Int) (h : Heap) (K : Value → Heap → Prop) (H : u135 Try.prog g0_1 rotors1_1 p2_1 h K) : callM Try.prog 135 #[(Value.agg #[(Sl.v g0_1)]), (Sl.v rotors1_1), (VI p2_1)] h K := by
  refine c135 (Value.agg #[(Sl.v g0_1)]) (Sl.v rotors1_1) (VI p2_1) h K ?_
  unfold u135 at H
  unfold t135
  have hL : Vars h [] := .nil
  refine eop_box 32 (Value.agg #[(Sl.v g0_1)]) rfl hL (fun b_1 h_1 hb_1 hf_1 hL_1 => ?_)
  refine pop_field 0 fld32_0 b_1 0 ?_
  refine rop_loc one22 hL_1 0 rfl 0 (v := (Sl.v g0_1)) rfl ?_
  obtain ⟨hi_1, H⟩ := H
  refine pop_index sli22 siz27 .i64 g0_1 p2_1 hi_1 ?_
  have H := H b_1 h_1 (Nat.le_trans (Fr.size (Fr.r (In []) _)) hb_1) (Fr.no' (Fr.r (In []) _) hf_1) hL_1
  obtain ⟨t11_1, hc_4, H⟩ := H
  refine rop_one one27 (Sl.v t11_1) hc_4 ?_
  refine pop_len t11_1 _ _ sli27 ?_
  refine pop_ieq .i64 _ _ (t11_1.n : Int) 0 ?_
  refine condM_b (fun hb_2 => ?_) (fun hb_2 => ?_)
  ·have H := H.1 hb_2
   exact H
  have H := H.2 hb_2
  refine pop_field 0 fld32_0 b_1 0 ?_
  refine rop_loc one22 hL_1 0 rfl 0 (v := (Sl.v g0_1)) rfl ?_
  obtain ⟨hi_2, H⟩ := H
  refine pop_index sli22 siz27 .i64 g0_1 p2_1 hi_2 ?_
  obtain ⟨t18_1, hc_3, H⟩ := H
  refine rop_one one27 (Sl.v t18_1) hc_3 ?_
  obtain ⟨hi_3, H⟩ := H
  refine pop_index sli27 siz3 .i64 rotors1_1 p2_1 hi_3 ?_
  obtain ⟨t22_1, hc_2, H⟩ := H
  refine rop_one one3 (VI t22_1) hc_2 ?_
  obtain ⟨hi_4, H⟩ := H
  refine pop_index sli27 siz3 .i64 t18_1 t22_1 hi_4 ?_
  obtain ⟨t24_1, hc_1, H⟩ := H
  refine rop_one one3 (VI t24_1) hc_1 ?_
  exact H

/-! spec.trNext -/
def u143 (P : Program) (g0_1 : Sl) (rotors1_1 : Sl) (p2_1 : Int) (h : Heap) (K : Value → Heap → Prop) : Prop :=
  InB g0_1 p2_1 ∧
  ∀ (b_1 : Nat) (h_1 : Heap), h.size ≤ b_1 → Fr (In []) h h_1 → Vars h_1 [(b_1, [(Sl.v g0_1)])] →
  ∃ t11_1 : Sl, hcell h_1 (Sl.at g0_1 p2_1 1) = some (Sl.v t11_1) ∧
  ((decide ((t11_1.n : Int) = 0)) = true →
  K (VI (-1)) h_1) ∧
  ((decide ((t11_1.n : Int) = 0)) = false →
  InB g0_1 p2_1 ∧
  ∃ t18_1 : Sl, hcell h_1 (Sl.at g0_1 p2_1 1) = some (Sl.v t18_1) ∧
  InB rotors1_1 p2_1 ∧
  ∃ t22_1 : Int, hcell h_1 (Sl.at rotors1_1 p2_1 1) = some (VI t22_1) ∧
  InB t18_1 t22_1 ∧
  ∃ t24_1 : Int, hcell h_1 (Sl.at t18_1 t22_1 1) = some (VI t24_1) ∧
  K (VI t24_1) h_1)
theorem v143 (g0_1 : Sl) (rotors1_1 : Sl) (p2_1 : Int) (h : Heap) (K : Value → Heap → Prop) (H : u143 Try.prog g0_1 rotors1_1 p2_1 h K) : callM Try.prog 143 #[(Value.agg #[(Sl.v g0_1)]), (Sl.v rotors1_1), (VI p2_1)] h K := by
  refine c143 (Value.agg #[(Sl.v g0_1)]) (Sl.v rotors1_1) (VI p2_1) h K ?_
  unfold u143 at H
  unfold t143
  have hL : Vars h [] := .nil
  refine eop_box 32 (Value.agg #[(Sl.v g0_1)]) rfl hL (fun b_1 h_1 hb_1 hf_1 hL_1 => ?_)
  refine pop_field 0 fld32_0 b_1 0 ?_
  refine rop_loc one22 hL_1 0 rfl 0 (v := (Sl.v g0_1)) rfl ?_
  obtain ⟨hi_1, H⟩ := H
  refine pop_index sli22 siz27 .i64 g0_1 p2_1 hi_1 ?_
  have H := H b_1 h_1 (Nat.le_trans (Fr.size (Fr.r (In []) _)) hb_1) (Fr.no' (Fr.r (In []) _) hf_1) hL_1
  obtain ⟨t11_1, hc_4, H⟩ := H
  refine rop_one one27 (Sl.v t11_1) hc_4 ?_
  refine pop_len t11_1 _ _ sli27 ?_
  refine pop_ieq .i64 _ _ (t11_1.n : Int) 0 ?_
  refine condM_b (fun hb_2 => ?_) (fun hb_2 => ?_)
  ·have H := H.1 hb_2
   exact H
  have H := H.2 hb_2
  refine pop_field 0 fld32_0 b_1 0 ?_
  refine rop_loc one22 hL_1 0 rfl 0 (v := (Sl.v g0_1)) rfl ?_
  obtain ⟨hi_2, H⟩ := H
  refine pop_index sli22 siz27 .i64 g0_1 p2_1 hi_2 ?_
  obtain ⟨t18_1, hc_3, H⟩ := H
  refine rop_one one27 (Sl.v t18_1) hc_3 ?_
  obtain ⟨hi_3, H⟩ := H
  refine pop_index sli27 siz3 .i64 rotors1_1 p2_1 hi_3 ?_
  obtain ⟨t22_1, hc_2, H⟩ := H
  refine rop_one one3 (VI t22_1) hc_2 ?_
  obtain ⟨hi_4, H⟩ := H
  refine pop_index sli27 siz3 .i64 t18_1 t22_1 hi_4 ?_
  obtain ⟨t24_1, hc_1, H⟩ := H
  refine rop_one one3 (VI t24_1) hc_1 ?_
  exact H

end Go.Proofs.Ytkjkfjkapbpgiaa
