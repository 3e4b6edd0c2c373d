/-
  The same over typed data. Written by a program.
-/
import Derived.Test.YtkjkfjkapbpgiaaStepsByWalksT
import Derived.Test.YtkjkfjkapbpgiaaM2
set_option linter.unusedVariables false
set_option linter.unusedSimpArgs false
set_option maxRecDepth 100000
set_option maxHeartbeats 16000000
namespace Go.Proofs.Ytkjkfjkapbpgiaa
open Go Go.Mx
theorem agg24 : aggC Try.prog 24 = some 1 := by kernel_rfl
theorem agg26 : aggC Try.prog 26 = some 1 := by kernel_rfl
theorem agg32 : aggC Try.prog 32 = some 1 := by kernel_rfl
theorem agg34 : aggC Try.prog 34 = some 1 := by kernel_rfl
theorem boo4 : Try.prog.underlying 4 = some .bool := by kernel_rfl
theorem fld24_0 : fieldC Try.prog 24 0 = some 0 := by kernel_rfl
theorem fld26_0 : fieldC Try.prog 26 0 = some 0 := by kernel_rfl
theorem fld32_0 : fieldC Try.prog 32 0 = some 0 := by kernel_rfl
theorem fld34_0 : fieldC Try.prog 34 0 = some 0 := by kernel_rfl
theorem one156 : oneC Try.prog 156 = true := by kernel_rfl
theorem one22 : oneC Try.prog 22 = true := by kernel_rfl
theorem one27 : oneC Try.prog 27 = true := by kernel_rfl
theorem one3 : oneC Try.prog 3 = true := by kernel_rfl
theorem one4 : oneC Try.prog 4 = true := by kernel_rfl
theorem siz156 : sizeC Try.prog 156 = some 1 := by kernel_rfl
theorem siz22 : sizeC Try.prog 22 = some 1 := by kernel_rfl
theorem siz27 : sizeC Try.prog 27 = some 1 := by kernel_rfl
theorem siz3 : sizeC Try.prog 3 = some 1 := by kernel_rfl
theorem siz32 : sizeC Try.prog 32 = some 1 := by kernel_rfl
theorem siz34 : sizeC Try.prog 34 = some 1 := by kernel_rfl
theorem siz4 : sizeC Try.prog 4 = some 1 := by kernel_rfl
theorem sli22 : Try.prog.underlying 22 = some (.slice 27) := by kernel_rfl
theorem sli27 : Try.prog.underlying 27 = some (.slice 3) := by kernel_rfl
theorem sli93 : Try.prog.underlying 93 = some (.slice 4) := by kernel_rfl
theorem zer156 : zeroC Try.prog 156 = some (Value.int .u64 0) := by kernel_rfl
theorem zer3 : zeroC Try.prog 3 = some (VI 0) := by kernel_rfl
theorem zer32 : zeroC Try.prog 32 = some (Value.agg #[(Sl.v nilSl)]) := by kernel_rfl
theorem zer34 : zeroC Try.prog 34 = some (Value.agg #[(Sl.v nilSl)]) := by kernel_rfl
/-! laws.FnExactStepsByWalks -/
def u4 (P : Program) (aG0_1 : Sl) (aSink1_1 : Int) (aS2_1 : Sl) (aOrder3_1 : Sl) (h : Heap) (K : Value → Heap → Prop) : Prop :=
  ((decide (1048576 < (aOrder3_1.n : Int))) = true →
  ∀ (b_1 : Nat) (b_2 : Nat) (h_2 : Heap), h.size ≤ b_1 → h.size ≤ b_2 → Fr (In []) h h_2 → Vars h_2 [(b_2, [(Sl.v aS2_1)]), (b_1, [(Sl.v aG0_1)])] →
  K (VB true) h_2) ∧
  ((decide (1048576 < (aOrder3_1.n : Int))) = false →
  ∀ (b_1 : Nat) (b_2 : Nat) (h_2 : Heap), h.size ≤ b_1 → h.size ≤ b_2 → Fr (In []) h h_2 → Vars h_2 [(b_2, [(Sl.v aS2_1)]), (b_1, [(Sl.v aG0_1)])] →
  callM P 7 #[(Value.agg #[(Sl.v aG0_1)]), (VI 1048576)] h_2 fun rv_1 h_3 => ∃ t22_1 : Int, rv_1 = (VI t22_1) ∧ Vars h_3 [(b_2, [(Sl.v aS2_1)]), (b_1, [(Sl.v aG0_1)])] ∧
  ((decide (t22_1 < 0)) = true →
  K (VB true) h_3) ∧
  ((decide (t22_1 < 0)) = false →
  callM P 8 #[(Value.agg #[(Sl.v aS2_1)]), (VI t22_1)] h_3 fun rv_2 h_4 => ∃ t27_1 : Int, rv_2 = (VI t27_1) ∧ Vars h_4 [(b_2, [(Sl.v aS2_1)]), (b_1, [(Sl.v aG0_1)])] ∧
  ((decide (t27_1 < 0)) = true →
  K (VB true) h_4) ∧
  ((decide (t27_1 < 0)) = false →
  callM P 10 #[(Value.agg #[(Sl.v aG0_1)])] h_4 fun rv_3 h_5 => ∃ t32_1 : Sl, rv_3 = (Value.agg #[(Sl.v t32_1)]) ∧ Vars h_5 [(b_2, [(Sl.v aS2_1)]), (b_1, [(Sl.v aG0_1)])] ∧
  callM P 11 #[(Value.agg #[(Sl.v aS2_1)])] h_5 fun rv_4 h_6 => ∃ t35_1 : Sl, rv_4 = (Value.agg #[(Sl.v t35_1)]) ∧ Vars h_6 [(b_2, [(Sl.v aS2_1)]), (b_1, [(Sl.v aG0_1)])] ∧
  callM P 12 #[(Sl.v aOrder3_1)] h_6 fun rv_5 h_7 => ∃ t37_1 : Sl, rv_5 = (Sl.v t37_1) ∧ Vars h_7 [(b_2, [(Sl.v aS2_1)]), (b_1, [(Sl.v aG0_1)])] ∧
  callM P 21 #[(Value.agg #[(Sl.v t32_1)]), (VI aSink1_1), (Value.agg #[(Sl.v t35_1)]), (Sl.v t37_1)] h_7 fun rv_6 h_8 => ∃ t38_1 : Int, ∃ t38_2 : Bool, rv_6 = (Value.tuple #[(VI t38_1), (VB t38_2)]) ∧ Vars h_8 [(b_2, [(Sl.v aS2_1)]), (b_1, [(Sl.v aG0_1)])] ∧
  callM P 10 #[(Value.agg #[(Sl.v aG0_1)])] h_8 fun rv_7 h_9 => ∃ t42_1 : Sl, rv_7 = (Value.agg #[(Sl.v t42_1)]) ∧ Vars h_9 [(b_2, [(Sl.v aS2_1)]), (b_1, [(Sl.v aG0_1)])] ∧
  ∀ (b_3 : Nat) (h_11 : Heap), h_9.size ≤ b_3 → Fr (In []) h_9 h_11 → Vars h_11 [(b_3, [(Sl.v t42_1)]), (b_2, [(Sl.v aS2_1)]), (b_1, [(Sl.v aG0_1)])] →
  callM P 11 #[(Value.agg #[(Sl.v aS2_1)])] h_11 fun rv_8 h_12 => ∃ t44_1 : Sl, rv_8 = (Value.agg #[(Sl.v t44_1)]) ∧ Vars h_12 [(b_3, [(Sl.v t42_1)]), (b_2, [(Sl.v aS2_1)]), (b_1, [(Sl.v aG0_1)])] ∧
  ∀ (b_4 : Nat) (h_14 : Heap), h_12.size ≤ b_4 → Fr (In []) h_12 h_14 → Vars h_14 [(b_4, [(Sl.v t44_1)]), (b_3, [(Sl.v t42_1)]), (b_2, [(Sl.v aS2_1)]), (b_1, [(Sl.v aG0_1)])] →
  callM P 12 #[(Sl.v aOrder3_1)] h_14 fun rv_9 h_15 => ∃ t46_1 : Sl, rv_9 = (Sl.v t46_1) ∧ Vars h_15 [(b_4, [(Sl.v t44_1)]), (b_3, [(Sl.v t42_1)]), (b_2, [(Sl.v aS2_1)]), (b_1, [(Sl.v aG0_1)])] ∧
  callM P 22 #[(Value.agg #[(Sl.v t42_1)]), (VI aSink1_1), (Value.agg #[(Sl.v t44_1)]), (Sl.v t46_1)] h_15 fun rv_10 h_16 => ∃ t52_1 : Int, ∃ t52_2 : Bool, rv_10 = (Value.tuple #[(VI t52_1), (VB t52_2)]) ∧ Vars h_16 [(b_4, [(Sl.v t44_1)]), (b_3, [(Sl.v t42_1)]), (b_2, [(Sl.v aS2_1)]), (b_1, [(Sl.v aG0_1)])] ∧
  ((!decide (t52_1 = t38_1)) = true →
  K (VB false) h_16) ∧
  ((!decide (t52_1 = t38_1)) = false →
  ((!(t52_2 == t38_2)) = true →
  K (VB false) h_16) ∧
  ((!(t52_2 == t38_2)) = false →
  callM P 10 #[(Value.agg #[(Sl.v aG0_1)])] h_16 fun rv_11 h_17 => ∃ t65_1 : Sl, rv_11 = (Value.agg #[(Sl.v t65_1)]) ∧ Vars h_17 [(b_4, [(Sl.v t44_1)]), (b_3, [(Sl.v t42_1)]), (b_2, [(Sl.v aS2_1)]), (b_1, [(Sl.v aG0_1)])] ∧
  callM P 15 #[(Value.agg #[(Sl.v t42_1)]), (Value.agg #[(Sl.v t65_1)])] h_17 fun rv_12 h_18 => ∃ t66_1 : Bool, rv_12 = (VB t66_1) ∧ Vars h_18 [(b_4, [(Sl.v t44_1)]), (b_3, [(Sl.v t42_1)]), (b_2, [(Sl.v aS2_1)]), (b_1, [(Sl.v aG0_1)])] ∧
  ((!t66_1) = true →
  K (VB false) h_18) ∧
  ((!t66_1) = false →
  callM P 11 #[(Value.agg #[(Sl.v aS2_1)])] h_18 fun rv_13 h_19 => ∃ t70_1 : Sl, rv_13 = (Value.agg #[(Sl.v t70_1)]) ∧ Vars h_19 [(b_4, [(Sl.v t44_1)]), (b_3, [(Sl.v t42_1)]), (b_2, [(Sl.v aS2_1)]), (b_1, [(Sl.v aG0_1)])] ∧
  callM P 16 #[(Value.agg #[(Sl.v t44_1)]), (Value.agg #[(Sl.v t70_1)])] h_19 fun rv_14 h_20 => ∃ t71_1 : Bool, rv_14 = (VB t71_1) ∧ Vars h_20 [(b_4, [(Sl.v t44_1)]), (b_3, [(Sl.v t42_1)]), (b_2, [(Sl.v aS2_1)]), (b_1, [(Sl.v aG0_1)])] ∧
  ((!t71_1) = true →
  K (VB false) h_20) ∧
  ((!t71_1) = false →
  callM P 12 #[(Sl.v aOrder3_1)] h_20 fun rv_15 h_21 => ∃ t75_1 : Sl, rv_15 = (Sl.v t75_1) ∧ Vars h_21 [(b_4, [(Sl.v t44_1)]), (b_3, [(Sl.v t42_1)]), (b_2, [(Sl.v aS2_1)]), (b_1, [(Sl.v aG0_1)])] ∧
  callM P 14 #[(Sl.v t46_1), (Sl.v t75_1)] h_21 fun rv_16 h_22 => ∃ t76_1 : Bool, rv_16 = (VB t76_1) ∧ Vars h_22 [(b_4, [(Sl.v t44_1)]), (b_3, [(Sl.v t42_1)]), (b_2, [(Sl.v aS2_1)]), (b_1, [(Sl.v aG0_1)])] ∧
  ((!t76_1) = true →
  K (VB false) h_22) ∧
  ((!t76_1) = false →
  K (VB true) h_22))))))))
theorem v4 (aG0_1 : Sl) (aSink1_1 : Int) (aS2_1 : Sl) (aOrder3_1 : Sl) (h : Heap) (K : Value → Heap → Prop) (H : u4 Try.prog aG0_1 aSink1_1 aS2_1 aOrder3_1 h K) : callM Try.prog 4 #[(Value.agg #[(Sl.v aG0_1)]), (VI aSink1_1), (Value.agg #[(Sl.v aS2_1)]), (Sl.v aOrder3_1)] h K := by
  refine c4 (Value.agg #[(Sl.v aG0_1)]) (VI aSink1_1) (Value.agg #[(Sl.v aS2_1)]) (Sl.v aOrder3_1) h K ?_
  unfold u4 at H
  unfold t4
  have hL : Vars h [] := .nil
  refine eop_box 24 (Value.agg #[(Sl.v aG0_1)]) rfl hL (fun b_1 h_1 hb_1 hf_1 hL_1 => ?_)
  refine eop_box 26 (Value.agg #[(Sl.v aS2_1)]) rfl hL_1 (fun b_2 h_2 hb_2 hf_2 hL_2 => ?_)
  refine pop_len aOrder3_1 _ _ sli27 ?_
  refine pop_gtr .i64 (aOrder3_1.n : Int) 1048576 ?_
  refine condM_b (fun hb_3 => ?_) (fun hb_3 => ?_)
  · have H := H.1 hb_3
    have H := H b_1 b_2 h_2 (Nat.le_trans (Fr.size (Fr.r (In []) _)) hb_1) (Nat.le_trans (Fr.size (Fr.no' (Fr.r (In []) _) hf_1)) hb_2) (Fr.no' (Fr.no' (Fr.r (In []) _) hf_1) hf_2) hL_2
    exact H
  · have H := H.2 hb_3
    refine rop_locA agg24 hL_2 1 rfl 0 (vs := [(Sl.v aG0_1)]) rfl rfl ?_
    have H := H b_1 b_2 h_2 (Nat.le_trans (Fr.size (Fr.r (In []) _)) hb_1) (Nat.le_trans (Fr.size (Fr.no' (Fr.r (In []) _) hf_1)) hb_2) (Fr.no' (Fr.no' (Fr.r (In []) _) hf_1) hf_2) hL_2
    refine H.mono fun rv_1 h_3 H => ?_
    obtain ⟨t22_1, rfl, hL_3, H⟩ := H
    refine pop_lss .i64 t22_1 0 ?_
    refine condM_b (fun hb_4 => ?_) (fun hb_4 => ?_)
    · have H := H.1 hb_4
      exact H
    · have H := H.2 hb_4
      refine rop_locA agg26 hL_3 0 rfl 0 (vs := [(Sl.v aS2_1)]) rfl rfl ?_
      refine H.mono fun rv_2 h_4 H => ?_
      obtain ⟨t27_1, rfl, hL_4, H⟩ := H
      refine pop_lss .i64 t27_1 0 ?_
      refine condM_b (fun hb_5 => ?_) (fun hb_5 => ?_)
      · have H := H.1 hb_5
        exact H
      · have H := H.2 hb_5
        refine rop_locA agg24 hL_4 1 rfl 0 (vs := [(Sl.v aG0_1)]) rfl rfl ?_
        refine rop_locA agg26 hL_4 0 rfl 0 (vs := [(Sl.v aS2_1)]) rfl rfl ?_
        refine H.mono fun rv_3 h_5 H => ?_
        obtain ⟨t32_1, rfl, hL_5, H⟩ := H
        refine ⟨?_, ?_⟩
        · exact still_locA agg26 hL_5 0 rfl 0 (vs := [(Sl.v aS2_1)]) rfl rfl
        refine H.mono fun rv_4 h_6 H => ?_
        obtain ⟨t35_1, rfl, hL_6, H⟩ := H
        refine H.mono fun rv_5 h_7 H => ?_
        obtain ⟨t37_1, rfl, hL_7, H⟩ := H
        refine H.mono fun rv_6 h_8 H => ?_
        obtain ⟨t38_1, t38_2, rfl, hL_8, H⟩ := H
        refine pop_ext (v := (VI t38_1)) rfl ?_
        refine pop_ext (v := (VB t38_2)) rfl ?_
        refine rop_locA agg24 hL_8 1 rfl 0 (vs := [(Sl.v aG0_1)]) rfl rfl ?_
        refine H.mono fun rv_7 h_9 H => ?_
        obtain ⟨t42_1, rfl, hL_9, H⟩ := H
        refine eop_alloc 32 zer32 rfl hL_9 (fun b_3 h_10 hb_6 hf_3 hL_10 => ?_)
        refine uop_loc siz32 hL_10 0 rfl 0 [(Sl.v t42_1)] rfl rfl rfl (Nat.le_of_ble_eq_true rfl) (L' := [(b_3, [(Sl.v t42_1)]), (b_2, [(Sl.v aS2_1)]), (b_1, [(Sl.v aG0_1)])]) rfl (fun h_11 hf_4 hL_11 => ?_)
        refine rop_locA agg26 hL_11 1 rfl 0 (vs := [(Sl.v aS2_1)]) rfl rfl ?_
        have H := H b_3 h_11 (Nat.le_trans (Fr.size (Fr.r (In []) _)) hb_6) (Fr.new (Fr.no' (Fr.r (In []) _) hf_3) (Nat.le_trans (Fr.size (Fr.r (In []) _)) hb_6) hf_4) hL_11
        refine H.mono fun rv_8 h_12 H => ?_
        obtain ⟨t44_1, rfl, hL_12, H⟩ := H
        refine eop_alloc 34 zer34 rfl hL_12 (fun b_4 h_13 hb_7 hf_5 hL_13 => ?_)
        refine uop_loc siz34 hL_13 0 rfl 0 [(Sl.v t44_1)] rfl rfl rfl (Nat.le_of_ble_eq_true rfl) (L' := [(b_4, [(Sl.v t44_1)]), (b_3, [(Sl.v t42_1)]), (b_2, [(Sl.v aS2_1)]), (b_1, [(Sl.v aG0_1)])]) rfl (fun h_14 hf_6 hL_14 => ?_)
        have H := H b_4 h_14 (Nat.le_trans (Fr.size (Fr.r (In []) _)) hb_7) (Fr.new (Fr.no' (Fr.r (In []) _) hf_5) (Nat.le_trans (Fr.size (Fr.r (In []) _)) hb_7) hf_6) hL_14
        refine H.mono fun rv_9 h_15 H => ?_
        obtain ⟨t46_1, rfl, hL_15, H⟩ := H
        refine rop_locA agg32 hL_15 1 rfl 0 (vs := [(Sl.v t42_1)]) rfl rfl ?_
        refine rop_locA agg34 hL_15 0 rfl 0 (vs := [(Sl.v t44_1)]) rfl rfl ?_
        refine H.mono fun rv_10 h_16 H => ?_
        obtain ⟨t52_1, t52_2, rfl, hL_16, H⟩ := H
        refine pop_ext (v := (VI t52_1)) rfl ?_
        refine pop_ext (v := (VB t52_2)) rfl ?_
        refine pop_ine .i64 _ _ t52_1 t38_1 ?_
        refine guardM_sf (fun hb_8 => ?_) (fun hb_8 => ?_)
        · have H := H.2 hb_8
          refine guardM_y' hb_8 ?_
          refine guardM_y' hb_8 ?_
          refine pop_bne boo4 _ _ t52_2 t38_2 ?_
          refine pop_pickf' hb_8 ?_
          refine condM_b (fun hb_9 => ?_) (fun hb_9 => ?_)
          · have H := H.1 hb_9
            exact H
          · have H := H.2 hb_9
            refine rop_locA agg32 hL_16 1 rfl 0 (vs := [(Sl.v t42_1)]) rfl rfl ?_
            refine rop_locA agg24 hL_16 3 rfl 0 (vs := [(Sl.v aG0_1)]) rfl rfl ?_
            refine H.mono fun rv_11 h_17 H => ?_
            obtain ⟨t65_1, rfl, hL_17, H⟩ := H
            refine ⟨?_, ?_⟩
            · exact still_locA agg32 hL_17 1 rfl 0 (vs := [(Sl.v t42_1)]) rfl rfl
            refine H.mono fun rv_12 h_18 H => ?_
            obtain ⟨t66_1, rfl, hL_18, H⟩ := H
            refine pop_not t66_1 ?_
            refine condM_b (fun hb_10 => ?_) (fun hb_10 => ?_)
            · have H := H.1 hb_10
              exact H
            · have H := H.2 hb_10
              refine rop_locA agg34 hL_18 0 rfl 0 (vs := [(Sl.v t44_1)]) rfl rfl ?_
              refine rop_locA agg26 hL_18 2 rfl 0 (vs := [(Sl.v aS2_1)]) rfl rfl ?_
              refine H.mono fun rv_13 h_19 H => ?_
              obtain ⟨t70_1, rfl, hL_19, H⟩ := H
              refine ⟨?_, ?_⟩
              · exact still_locA agg34 hL_19 0 rfl 0 (vs := [(Sl.v t44_1)]) rfl rfl
              refine H.mono fun rv_14 h_20 H => ?_
              obtain ⟨t71_1, rfl, hL_20, H⟩ := H
              refine pop_not t71_1 ?_
              refine condM_b (fun hb_11 => ?_) (fun hb_11 => ?_)
              · have H := H.1 hb_11
                exact H
              · have H := H.2 hb_11
                refine H.mono fun rv_15 h_21 H => ?_
                obtain ⟨t75_1, rfl, hL_21, H⟩ := H
                refine H.mono fun rv_16 h_22 H => ?_
                obtain ⟨t76_1, rfl, hL_22, H⟩ := H
                refine pop_not t76_1 ?_
                refine condM_b (fun hb_12 => ?_) (fun hb_12 => ?_)
                · have H := H.1 hb_12
                  exact H
                · have H := H.2 hb_12
                  exact H
        · have H := H.1 hb_8
          refine guardM_n' hb_8 (by decide) ?_
          refine guardM_n' hb_8 (by decide) ?_
          refine pop_pickt' hb_8 ?_
          refine condM_t ?_
          exact H

/-! laws.szGraph -/
def u7 (P : Program) (a0_1 : Sl) (left1_1 : Int) (h : Heap) (K : Value → Heap → Prop) : Prop :=
  ∀ (b_1 : Nat) (h_1 : Heap), h.size ≤ b_1 → Fr (In []) h h_1 → Vars h_1 [(b_1, [(Sl.v a0_1)])] →
  callM P 50 #[(Sl.v a0_1), (VI left1_1)] h_1 fun rv_1 h_2 => ∃ t8_1 : Int, rv_1 = (VI t8_1) ∧ Vars h_2 [(b_1, [(Sl.v a0_1)])] ∧
  ((decide (t8_1 < 0)) = true →
  K (VI (-1)) h_2) ∧
  ((decide (t8_1 < 0)) = false →
  K (VI t8_1) h_2)
theorem v7 (a0_1 : Sl) (left1_1 : Int) (h : Heap) (K : Value → Heap → Prop) (H : u7 Try.prog a0_1 left1_1 h K) : callM Try.prog 7 #[(Value.agg #[(Sl.v a0_1)]), (VI left1_1)] h K := by
  refine c7 (Value.agg #[(Sl.v a0_1)]) (VI left1_1) h K ?_
  unfold u7 at H
  unfold t7
  have hL : Vars h [] := .nil
  refine eop_box 24 (Value.agg #[(Sl.v a0_1)]) rfl hL (fun b_1 h_1 hb_1 hf_1 hL_1 => ?_)
  refine pop_field 0 fld24_0 b_1 0 ?_
  refine rop_loc one22 hL_1 0 rfl 0 (v := (Sl.v a0_1)) rfl ?_
  have H := H b_1 h_1 (Nat.le_trans (Fr.size (Fr.r (In []) _)) hb_1) (Fr.no' (Fr.r (In []) _) hf_1) hL_1
  refine H.mono fun rv_1 h_2 H => ?_
  obtain ⟨t8_1, rfl, hL_2, H⟩ := H
  refine pop_lss .i64 t8_1 0 ?_
  refine condM_b (fun hb_2 => ?_) (fun hb_2 => ?_)
  · have H := H.1 hb_2
    exact H
  · have H := H.2 hb_2
    exact H

/-! laws.szStacks -/
def u8 (P : Program) (a0_1 : Sl) (left1_1 : Int) (h : Heap) (K : Value → Heap → Prop) : Prop :=
  ∀ (b_1 : Nat) (h_1 : Heap), h.size ≤ b_1 → Fr (In []) h h_1 → Vars h_1 [(b_1, [(Sl.v a0_1)])] →
  callM P 50 #[(Sl.v a0_1), (VI left1_1)] h_1 fun rv_1 h_2 => ∃ t8_1 : Int, rv_1 = (VI t8_1) ∧ Vars h_2 [(b_1, [(Sl.v a0_1)])] ∧
  ((decide (t8_1 < 0)) = true →
  K (VI (-1)) h_2) ∧
  ((decide (t8_1 < 0)) = false →
  K (VI t8_1) h_2)
theorem v8 (a0_1 : Sl) (left1_1 : Int) (h : Heap) (K : Value → Heap → Prop) (H : u8 Try.prog a0_1 left1_1 h K) : callM Try.prog 8 #[(Value.agg #[(Sl.v a0_1)]), (VI left1_1)] h K := by
  refine c8 (Value.agg #[(Sl.v a0_1)]) (VI left1_1) h K ?_
  unfold u8 at H
  unfold t8
  have hL : Vars h [] := .nil
  refine eop_box 26 (Value.agg #[(Sl.v a0_1)]) rfl hL (fun b_1 h_1 hb_1 hf_1 hL_1 => ?_)
  refine pop_field 0 fld26_0 b_1 0 ?_
  refine rop_loc one22 hL_1 0 rfl 0 (v := (Sl.v a0_1)) rfl ?_
  have H := H b_1 h_1 (Nat.le_trans (Fr.size (Fr.r (In []) _)) hb_1) (Fr.no' (Fr.r (In []) _) hf_1) hL_1
  refine H.mono fun rv_1 h_2 H => ?_
  obtain ⟨t8_1, rfl, hL_2, H⟩ := H
  refine pop_lss .i64 t8_1 0 ?_
  refine condM_b (fun hb_2 => ?_) (fun hb_2 => ?_)
  · have H := H.1 hb_2
    exact H
  · have H := H.2 hb_2
    exact H

/-! laws.toGraph -/
def u10 (P : Program) (a0_1 : Sl) (h : Heap) (K : Value → Heap → Prop) : Prop :=
  ∀ (b_1 : Nat) (b_2 : Nat) (b_3 : Nat) (h_3 : Heap), h.size ≤ b_1 → h.size ≤ b_2 → h.size ≤ b_3 → Fr (In []) h h_3 → Vars h_3 [(b_3, [(Sl.v nilSl)]), (b_2, [(Sl.v nilSl)]), (b_1, [(Sl.v a0_1)])] →
  callM P 55 #[(Sl.v a0_1)] h_3 fun rv_1 h_4 => ∃ t6_1 : Sl, rv_1 = (Sl.v t6_1) ∧ Vars h_4 [(b_3, [(Sl.v nilSl)]), (b_2, [(Sl.v nilSl)]), (b_1, [(Sl.v a0_1)])] ∧
  ∀ (h_6 : Heap), Fr (In [b_2, b_3]) h_4 h_6 → Vars h_6 [(b_3, [(Sl.v t6_1)]), (b_2, [(Sl.v t6_1)]), (b_1, [(Sl.v a0_1)])] →
  K (Value.agg #[(Sl.v t6_1)]) h_6
theorem v10 (a0_1 : Sl) (h : Heap) (K : Value → Heap → Prop) (H : u10 Try.prog a0_1 h K) : callM Try.prog 10 #[(Value.agg #[(Sl.v a0_1)])] h K := by
  refine c10 (Value.agg #[(Sl.v a0_1)]) h K ?_
  unfold u10 at H
  unfold t10
  have hL : Vars h [] := .nil
  refine eop_box 24 (Value.agg #[(Sl.v a0_1)]) rfl hL (fun b_1 h_1 hb_1 hf_1 hL_1 => ?_)
  refine eop_alloc 32 zer32 rfl hL_1 (fun b_2 h_2 hb_2 hf_2 hL_2 => ?_)
  refine eop_alloc 32 zer32 rfl hL_2 (fun b_3 h_3 hb_3 hf_3 hL_3 => ?_)
  refine pop_field 0 fld24_0 b_1 0 ?_
  refine rop_loc one22 hL_3 2 rfl 0 (v := (Sl.v a0_1)) rfl ?_
  have H := H b_1 b_2 b_3 h_3 (Nat.le_trans (Fr.size (Fr.r (In []) _)) hb_1) (Nat.le_trans (Fr.size (Fr.no' (Fr.r (In []) _) hf_1)) hb_2) (Nat.le_trans (Fr.size (Fr.no' (Fr.no' (Fr.r (In []) _) hf_1) hf_2)) hb_3) (Fr.no' (Fr.no' (Fr.no' (Fr.r (In []) _) hf_1) hf_2) hf_3) hL_3
  refine H.mono fun rv_1 h_4 H => ?_
  obtain ⟨t6_1, rfl, hL_4, H⟩ := H
  refine pop_field 0 fld32_0 b_3 0 ?_
  refine uop_loc siz22 hL_4 0 rfl 0 [(Sl.v t6_1)] rfl rfl rfl (Nat.le_of_ble_eq_true rfl) (L' := [(b_3, [(Sl.v t6_1)]), (b_2, [(Sl.v nilSl)]), (b_1, [(Sl.v a0_1)])]) rfl (fun h_5 hf_4 hL_5 => ?_)
  refine rop_locA agg32 hL_5 0 rfl 0 (vs := [(Sl.v t6_1)]) rfl rfl ?_
  refine uop_loc siz32 hL_5 1 rfl 0 [(Sl.v t6_1)] rfl rfl rfl (Nat.le_of_ble_eq_true rfl) (L' := [(b_3, [(Sl.v t6_1)]), (b_2, [(Sl.v t6_1)]), (b_1, [(Sl.v a0_1)])]) rfl (fun h_6 hf_5 hL_6 => ?_)
  refine rop_locA agg32 hL_6 1 rfl 0 (vs := [(Sl.v t6_1)]) rfl rfl ?_
  have H := H  h_6  (Fr.old (Fr.old (Fr.r (In []) _) hf_4) hf_5) hL_6
  exact H

/-! laws.toStacks -/
def u11 (P : Program) (a0_1 : Sl) (h : Heap) (K : Value → Heap → Prop) : Prop :=
  ∀ (b_1 : Nat) (b_2 : Nat) (b_3 : Nat) (h_3 : Heap), h.size ≤ b_1 → h.size ≤ b_2 → h.size ≤ b_3 → Fr (In []) h h_3 → Vars h_3 [(b_3, [(Sl.v nilSl)]), (b_2, [(Sl.v nilSl)]), (b_1, [(Sl.v a0_1)])] →
  callM P 55 #[(Sl.v a0_1)] h_3 fun rv_1 h_4 => ∃ t6_1 : Sl, rv_1 = (Sl.v t6_1) ∧ Vars h_4 [(b_3, [(Sl.v nilSl)]), (b_2, [(Sl.v nilSl)]), (b_1, [(Sl.v a0_1)])] ∧
  ∀ (h_6 : Heap), Fr (In [b_2, b_3]) h_4 h_6 → Vars h_6 [(b_3, [(Sl.v t6_1)]), (b_2, [(Sl.v t6_1)]), (b_1, [(Sl.v a0_1)])] →
  K (Value.agg #[(Sl.v t6_1)]) h_6
theorem v11 (a0_1 : Sl) (h : Heap) (K : Value → Heap → Prop) (H : u11 Try.prog a0_1 h K) : callM Try.prog 11 #[(Value.agg #[(Sl.v a0_1)])] h K := by
  refine c11 (Value.agg #[(Sl.v a0_1)]) h K ?_
  unfold u11 at H
  unfold t11
  have hL : Vars h [] := .nil
  refine eop_box 26 (Value.agg #[(Sl.v a0_1)]) rfl hL (fun b_1 h_1 hb_1 hf_1 hL_1 => ?_)
  refine eop_alloc 34 zer34 rfl hL_1 (fun b_2 h_2 hb_2 hf_2 hL_2 => ?_)
  refine eop_alloc 34 zer34 rfl hL_2 (fun b_3 h_3 hb_3 hf_3 hL_3 => ?_)
  refine pop_field 0 fld26_0 b_1 0 ?_
  refine rop_loc one22 hL_3 2 rfl 0 (v := (Sl.v a0_1)) rfl ?_
  have H := H b_1 b_2 b_3 h_3 (Nat.le_trans (Fr.size (Fr.r (In []) _)) hb_1) (Nat.le_trans (Fr.size (Fr.no' (Fr.r (In []) _) hf_1)) hb_2) (Nat.le_trans (Fr.size (Fr.no' (Fr.no' (Fr.r (In []) _) hf_1) hf_2)) hb_3) (Fr.no' (Fr.no' (Fr.no' (Fr.r (In []) _) hf_1) hf_2) hf_3) hL_3
  refine H.mono fun rv_1 h_4 H => ?_
  obtain ⟨t6_1, rfl, hL_4, H⟩ := H
  refine pop_field 0 fld34_0 b_3 0 ?_
  refine uop_loc siz22 hL_4 0 rfl 0 [(Sl.v t6_1)] rfl rfl rfl (Nat.le_of_ble_eq_true rfl) (L' := [(b_3, [(Sl.v t6_1)]), (b_2, [(Sl.v nilSl)]), (b_1, [(Sl.v a0_1)])]) rfl (fun h_5 hf_4 hL_5 => ?_)
  refine rop_locA agg34 hL_5 0 rfl 0 (vs := [(Sl.v t6_1)]) rfl rfl ?_
  refine uop_loc siz34 hL_5 1 rfl 0 [(Sl.v t6_1)] rfl rfl rfl (Nat.le_of_ble_eq_true rfl) (L' := [(b_3, [(Sl.v t6_1)]), (b_2, [(Sl.v t6_1)]), (b_1, [(Sl.v a0_1)])]) rfl (fun h_6 hf_5 hL_6 => ?_)
  refine rop_locA agg34 hL_6 1 rfl 0 (vs := [(Sl.v t6_1)]) rfl rfl ?_
  have H := H  h_6  (Fr.old (Fr.old (Fr.r (In []) _) hf_4) hf_5) hL_6
  exact H

/-! laws.toIntS -/
def u12 (P : Program) (a0_1 : Sl) (h : Heap) (K : Value → Heap → Prop) : Prop :=
  eop P (Instr.makeSlice 27 (VI (a0_1.n : Int)) (VI (a0_1.n : Int))) h fun rv_1 h_1 => ∃ t7_1 : Sl, rv_1 = (Sl.v t7_1) ∧ Vars h_1 [] ∧
  ∃ J_1 : Nat → Int → Heap → Prop, (∃ n0 : Nat, J_1 n0 0 h_1) ∧
  ∀ (n_1 : Nat) (i4_1 : Int) (h_2 : Heap), J_1 n_1 i4_1 h_2 → Vars h_2 [] →
  ((decide (i4_1 < (a0_1.n : Int))) = true →
  InB a0_1 i4_1 ∧
  ∃ t19_1 : Int, hcell h_2 (Sl.at a0_1 i4_1 1) = some (VI t19_1) ∧
  InB t7_1 i4_1 ∧
  Writable h_2 (Sl.at t7_1 i4_1 1) ∧ Vars (hset h_2 (Sl.at t7_1 i4_1 1) (VI t19_1)) [] ∧
  ∀ h_3 : Heap, h_3 = hset h_2 (Sl.at t7_1 i4_1 1) (VI t19_1) → Vars h_3 [] →
  ∃ m : Nat, m < n_1 ∧ J_1 m (w64 (i4_1 + 1)) h_3) ∧
  ((decide (i4_1 < (a0_1.n : Int))) = false →
  K (Sl.v t7_1) h_2)
theorem v12 (a0_1 : Sl) (h : Heap) (K : Value → Heap → Prop) (H : u12 Try.prog a0_1 h K) : callM Try.prog 12 #[(Sl.v a0_1)] h K := by
  refine c12 (Sl.v a0_1) h K ?_
  unfold u12 at H
  unfold t12
  have hL : Vars h [] := .nil
  refine pop_len a0_1 _ _ sli27 ?_
  refine H.mono fun rv_1 h_1 H => ?_
  obtain ⟨t7_1, rfl, hL_1, H⟩ := H
  obtain ⟨J_1, ⟨n_2, h0_1⟩, HB_1⟩ := H
  refine loop_intro (J := fun (n : Nat) (vs : List Value) (h' : Heap) => ∃ i4_1 : Int, vs = [(VI i4_1)] ∧ J_1 n i4_1 h' ∧ Vars h' []) n_2 ⟨0, rfl, h0_1, hL_1⟩ ?_
  intro I_1 mu_1 hI_1 junk_1 tv_1 h_2 hi_1
  obtain ⟨n_1, ⟨i4_1, hv, hJ_1, hL_2⟩, hn_1⟩ := hI_1 _ _ hi_1
  cases hv
  have H := HB_1 n_1 i4_1 h_2 hJ_1 hL_2
  refine pop_len a0_1 _ _ sli27 ?_
  refine pop_lss .i64 i4_1 (a0_1.n : Int) ?_
  refine condM_b (fun hb_1 => ?_) (fun hb_1 => ?_)
  · have H := H.1 hb_1
    obtain ⟨hi_2, H⟩ := H
    refine pop_index sli27 siz3 .i64 a0_1 i4_1 hi_2 ?_
    obtain ⟨t19_1, hc_1, H⟩ := H
    refine rop_one one3 (VI t19_1) hc_1 ?_
    obtain ⟨hi_3, H⟩ := H
    refine pop_index sli27 siz3 .i64 t7_1 i4_1 hi_3 ?_
    obtain ⟨hw_1, hL_3, H⟩ := H
    refine uop_cell (v := (VI t19_1)) siz3 hw_1 rfl (fun h_3 he_1 => ?_)
    rw [← he_1] at hL_3
    have H := H h_3 he_1 hL_3
    refine pop_add .i64 i4_1 1 ?_
    obtain ⟨m_1, hm_1, H⟩ := H
    exact hn_1 _ _ ⟨m_1, hm_1, (w64 (i4_1 + 1)), rfl, H, hL_3⟩
  · have H := H.2 hb_1
    exact H

/-! laws.eqIntS -/
def u14 (P : Program) (a0_1 : Sl) (b1_1 : Sl) (h : Heap) (K : Value → Heap → Prop) : Prop :=
  ((!decide ((a0_1.n : Int) = (b1_1.n : Int))) = true →
  K (VB false) h) ∧
  ((!decide ((a0_1.n : Int) = (b1_1.n : Int))) = false →
  ∃ J_1 : Nat → Int → Heap → Prop, (∃ n0 : Nat, J_1 n0 0 h) ∧
  ∀ (n_1 : Nat) (i5_1 : Int) (h_1 : Heap), J_1 n_1 i5_1 h_1 → Vars h_1 [] →
  ((decide (i5_1 < (a0_1.n : Int))) = true →
  InB a0_1 i5_1 ∧
  ∃ t20_1 : Int, hcell h_1 (Sl.at a0_1 i5_1 1) = some (VI t20_1) ∧
  InB b1_1 i5_1 ∧
  ∃ t24_1 : Int, hcell h_1 (Sl.at b1_1 i5_1 1) = some (VI t24_1) ∧
  ((!decide (t20_1 = t24_1)) = true →
  K (VB false) h_1) ∧
  ((!decide (t20_1 = t24_1)) = false →
  ∃ m : Nat, m < n_1 ∧ J_1 m (w64 (i5_1 + 1)) h_1)) ∧
  ((decide (i5_1 < (a0_1.n : Int))) = false →
  K (VB true) h_1))
theorem v14 (a0_1 : Sl) (b1_1 : Sl) (h : Heap) (K : Value → Heap → Prop) (H : u14 Try.prog a0_1 b1_1 h K) : callM Try.prog 14 #[(Sl.v a0_1), (Sl.v b1_1)] h K := by
  refine c14 (Sl.v a0_1) (Sl.v b1_1) h K ?_
  unfold u14 at H
  unfold t14
  have hL : Vars h [] := .nil
  refine pop_len a0_1 _ _ sli27 ?_
  refine pop_len b1_1 _ _ sli27 ?_
  refine pop_ine .i64 _ _ (a0_1.n : Int) (b1_1.n : Int) ?_
  refine condM_b (fun hb_1 => ?_) (fun hb_1 => ?_)
  · have H := H.1 hb_1
    exact H
  · have H := H.2 hb_1
    obtain ⟨J_1, ⟨n_2, h0_1⟩, HB_1⟩ := H
    refine loop_intro (J := fun (n : Nat) (vs : List Value) (h' : Heap) => ∃ i5_1 : Int, vs = [(VI i5_1)] ∧ J_1 n i5_1 h' ∧ Vars h' []) n_2 ⟨0, rfl, h0_1, hL⟩ ?_
    intro I_1 mu_1 hI_1 junk_1 tv_1 h_1 hi_1
    obtain ⟨n_1, ⟨i5_1, hv, hJ_1, hL_1⟩, hn_1⟩ := hI_1 _ _ hi_1
    cases hv
    have H := HB_1 n_1 i5_1 h_1 hJ_1 hL_1
    refine pop_len a0_1 _ _ sli27 ?_
    refine pop_lss .i64 i5_1 (a0_1.n : Int) ?_
    refine condM_b (fun hb_2 => ?_) (fun hb_2 => ?_)
    · have H := H.1 hb_2
      obtain ⟨hi_2, H⟩ := H
      refine pop_index sli27 siz3 .i64 a0_1 i5_1 hi_2 ?_
      obtain ⟨t20_1, hc_2, H⟩ := H
      refine rop_one one3 (VI t20_1) hc_2 ?_
      obtain ⟨hi_3, H⟩ := H
      refine pop_index sli27 siz3 .i64 b1_1 i5_1 hi_3 ?_
      obtain ⟨t24_1, hc_1, H⟩ := H
      refine rop_one one3 (VI t24_1) hc_1 ?_
      refine pop_ine .i64 _ _ t20_1 t24_1 ?_
      refine condM_b (fun hb_3 => ?_) (fun hb_3 => ?_)
      · have H := H.1 hb_3
        exact H
      · have H := H.2 hb_3
        refine pop_add .i64 i5_1 1 ?_
        obtain ⟨m_1, hm_1, H⟩ := H
        exact hn_1 _ _ ⟨m_1, hm_1, (w64 (i5_1 + 1)), rfl, H, hL_1⟩
    · have H := H.2 hb_2
      exact H

/-! laws.eqGraph -/
def u15 (P : Program) (a0_1 : Sl) (b1_1 : Sl) (h : Heap) (K : Value → Heap → Prop) : Prop :=
  ∀ (b_1 : Nat) (b_2 : Nat) (h_2 : Heap), h.size ≤ b_1 → h.size ≤ b_2 → Fr (In []) h h_2 → Vars h_2 [(b_2, [(Sl.v b1_1)]), (b_1, [(Sl.v a0_1)])] →
  callM P 59 #[(Sl.v a0_1), (Sl.v b1_1)] h_2 fun rv_1 h_3 => ∃ t9_1 : Bool, rv_1 = (VB t9_1) ∧ Vars h_3 [(b_2, [(Sl.v b1_1)]), (b_1, [(Sl.v a0_1)])] ∧
  ((!t9_1) = true →
  K (VB false) h_3) ∧
  ((!t9_1) = false →
  K (VB true) h_3)
theorem v15 (a0_1 : Sl) (b1_1 : Sl) (h : Heap) (K : Value → Heap → Prop) (H : u15 Try.prog a0_1 b1_1 h K) : callM Try.prog 15 #[(Value.agg #[(Sl.v a0_1)]), (Value.agg #[(Sl.v b1_1)])] h K := by
  refine c15 (Value.agg #[(Sl.v a0_1)]) (Value.agg #[(Sl.v b1_1)]) h K ?_
  unfold u15 at H
  unfold t15
  have hL : Vars h [] := .nil
  refine eop_box 32 (Value.agg #[(Sl.v a0_1)]) rfl hL (fun b_1 h_1 hb_1 hf_1 hL_1 => ?_)
  refine eop_box 32 (Value.agg #[(Sl.v b1_1)]) rfl hL_1 (fun b_2 h_2 hb_2 hf_2 hL_2 => ?_)
  refine pop_field 0 fld32_0 b_1 0 ?_
  refine rop_loc one22 hL_2 1 rfl 0 (v := (Sl.v a0_1)) rfl ?_
  refine pop_field 0 fld32_0 b_2 0 ?_
  refine rop_loc one22 hL_2 0 rfl 0 (v := (Sl.v b1_1)) rfl ?_
  have H := H b_1 b_2 h_2 (Nat.le_trans (Fr.size (Fr.r (In []) _)) hb_1) (Nat.le_trans (Fr.size (Fr.no' (Fr.r (In []) _) hf_1)) hb_2) (Fr.no' (Fr.no' (Fr.r (In []) _) hf_1) hf_2) hL_2
  refine H.mono fun rv_1 h_3 H => ?_
  obtain ⟨t9_1, rfl, hL_3, H⟩ := H
  refine pop_not t9_1 ?_
  refine condM_b (fun hb_3 => ?_) (fun hb_3 => ?_)
  · have H := H.1 hb_3
    exact H
  · have H := H.2 hb_3
    exact H

/-! laws.eqStacks -/
def u16 (P : Program) (a0_1 : Sl) (b1_1 : Sl) (h : Heap) (K : Value → Heap → Prop) : Prop :=
  ∀ (b_1 : Nat) (b_2 : Nat) (h_2 : Heap), h.size ≤ b_1 → h.size ≤ b_2 → Fr (In []) h h_2 → Vars h_2 [(b_2, [(Sl.v b1_1)]), (b_1, [(Sl.v a0_1)])] →
  callM P 59 #[(Sl.v a0_1), (Sl.v b1_1)] h_2 fun rv_1 h_3 => ∃ t9_1 : Bool, rv_1 = (VB t9_1) ∧ Vars h_3 [(b_2, [(Sl.v b1_1)]), (b_1, [(Sl.v a0_1)])] ∧
  ((!t9_1) = true →
  K (VB false) h_3) ∧
  ((!t9_1) = false →
  K (VB true) h_3)
theorem v16 (a0_1 : Sl) (b1_1 : Sl) (h : Heap) (K : Value → Heap → Prop) (H : u16 Try.prog a0_1 b1_1 h K) : callM Try.prog 16 #[(Value.agg #[(Sl.v a0_1)]), (Value.agg #[(Sl.v b1_1)])] h K := by
  refine c16 (Value.agg #[(Sl.v a0_1)]) (Value.agg #[(Sl.v b1_1)]) h K ?_
  unfold u16 at H
  unfold t16
  have hL : Vars h [] := .nil
  refine eop_box 34 (Value.agg #[(Sl.v a0_1)]) rfl hL (fun b_1 h_1 hb_1 hf_1 hL_1 => ?_)
  refine eop_box 34 (Value.agg #[(Sl.v b1_1)]) rfl hL_1 (fun b_2 h_2 hb_2 hf_2 hL_2 => ?_)
  refine pop_field 0 fld34_0 b_1 0 ?_
  refine rop_loc one22 hL_2 1 rfl 0 (v := (Sl.v a0_1)) rfl ?_
  refine pop_field 0 fld34_0 b_2 0 ?_
  refine rop_loc one22 hL_2 0 rfl 0 (v := (Sl.v b1_1)) rfl ?_
  have H := H b_1 b_2 h_2 (Nat.le_trans (Fr.size (Fr.r (In []) _)) hb_1) (Nat.le_trans (Fr.size (Fr.no' (Fr.r (In []) _) hf_1)) hb_2) (Fr.no' (Fr.no' (Fr.r (In []) _) hf_1) hf_2) hL_2
  refine H.mono fun rv_1 h_3 H => ?_
  obtain ⟨t9_1, rfl, hL_3, H⟩ := H
  refine pop_not t9_1 ?_
  refine condM_b (fun hb_3 => ?_) (fun hb_3 => ?_)
  · have H := H.1 hb_3
    exact H
  · have H := H.2 hb_3
    exact H

/-! spec.StepsByWalks -/
def u21 (P : Program) (g0_1 : Sl) (sink1_1 : Int) (s2_1 : Sl) (order3_1 : Sl) (h : Heap) (K : Value → Heap → Prop) : Prop :=
  ∀ (b_1 : Nat) (b_2 : Nat) (h_2 : Heap), h.size ≤ b_1 → h.size ≤ b_2 → Fr (In []) h h_2 → Vars h_2 [(b_2, [(Sl.v s2_1)]), (b_1, [(Sl.v g0_1)])] →
  callM P 51 #[(Value.agg #[(Sl.v g0_1)]), (VI sink1_1), (Value.agg #[(Sl.v s2_1)])] h_2 fun rv_1 h_3 => ∃ t19_1 : Bool, rv_1 = (VB t19_1) ∧ Vars h_3 [(b_2, [(Sl.v s2_1)]), (b_1, [(Sl.v g0_1)])] ∧
  ((!t19_1) = true →
  K (Value.tuple #[(VI 0), (VB false)]) h_3) ∧
  ((!t19_1) = false →
  callM P 52 #[(Sl.v order3_1), (VI (g0_1.n : Int))] h_3 fun rv_2 h_4 => ∃ t26_1 : Bool, rv_2 = (VB t26_1) ∧ Vars h_4 [(b_2, [(Sl.v s2_1)]), (b_1, [(Sl.v g0_1)])] ∧
  ((!t26_1) = true →
  K (Value.tuple #[(VI 0), (VB false)]) h_4) ∧
  ((!t26_1) = false →
  callM P 53 #[(Value.agg #[(Sl.v g0_1)]), (VI sink1_1), (Value.agg #[(Sl.v s2_1)]), (Sl.v nilSl)] h_4 fun rv_3 h_5 => ∃ t33_1 : Sl, ∃ t33_2 : Int, ∃ t33_3 : Bool, rv_3 = (Value.tuple #[(Value.agg #[(Sl.v t33_1)]), (VI t33_2), (VB t33_3)]) ∧ Vars h_5 [(b_2, [(Sl.v s2_1)]), (b_1, [(Sl.v g0_1)])] ∧
  ((!t33_3) = true →
  ∀ (b_3 : Nat) (h_7 : Heap), h_5.size ≤ b_3 → Fr (In []) h_5 h_7 → Vars h_7 [(b_3, [(Sl.v t33_1)]), (b_2, [(Sl.v s2_1)]), (b_1, [(Sl.v g0_1)])] →
  K (Value.tuple #[(VI 0), (VB false)]) h_7) ∧
  ((!t33_3) = false →
  ∀ (b_3 : Nat) (h_7 : Heap), h_5.size ≤ b_3 → Fr (In []) h_5 h_7 → Vars h_7 [(b_3, [(Sl.v t33_1)]), (b_2, [(Sl.v s2_1)]), (b_1, [(Sl.v g0_1)])] →
  callM P 54 #[(Value.agg #[(Sl.v g0_1)]), (VI sink1_1), (Value.agg #[(Sl.v s2_1)]), (Sl.v order3_1)] h_7 fun rv_4 h_8 => ∃ t44_1 : Sl, ∃ t44_2 : Int, ∃ t44_3 : Bool, rv_4 = (Value.tuple #[(Sl.v t44_1), (VI t44_2), (VB t44_3)]) ∧ Vars h_8 [(b_3, [(Sl.v t33_1)]), (b_2, [(Sl.v s2_1)]), (b_1, [(Sl.v g0_1)])] ∧
  ((!t44_3) = true →
  K (Value.tuple #[(VI 0), (VB false)]) h_8) ∧
  ((!t44_3) = false →
  K (Value.tuple #[(VI t44_2), (VB true)]) h_8))))
theorem v21 (g0_1 : Sl) (sink1_1 : Int) (s2_1 : Sl) (order3_1 : Sl) (h : Heap) (K : Value → Heap → Prop) (H : u21 Try.prog g0_1 sink1_1 s2_1 order3_1 h K) : callM Try.prog 21 #[(Value.agg #[(Sl.v g0_1)]), (VI sink1_1), (Value.agg #[(Sl.v s2_1)]), (Sl.v order3_1)] h K := by
  refine c21 (Value.agg #[(Sl.v g0_1)]) (VI sink1_1) (Value.agg #[(Sl.v s2_1)]) (Sl.v order3_1) h K ?_
  unfold u21 at H
  unfold t21
  have hL : Vars h [] := .nil
  refine eop_box 32 (Value.agg #[(Sl.v g0_1)]) rfl hL (fun b_1 h_1 hb_1 hf_1 hL_1 => ?_)
  refine eop_box 34 (Value.agg #[(Sl.v s2_1)]) rfl hL_1 (fun b_2 h_2 hb_2 hf_2 hL_2 => ?_)
  refine rop_locA agg32 hL_2 1 rfl 0 (vs := [(Sl.v g0_1)]) rfl rfl ?_
  refine rop_locA agg34 hL_2 0 rfl 0 (vs := [(Sl.v s2_1)]) rfl rfl ?_
  have H := H b_1 b_2 h_2 (Nat.le_trans (Fr.size (Fr.r (In []) _)) hb_1) (Nat.le_trans (Fr.size (Fr.no' (Fr.r (In []) _) hf_1)) hb_2) (Fr.no' (Fr.no' (Fr.r (In []) _) hf_1) hf_2) hL_2
  refine H.mono fun rv_1 h_3 H => ?_
  obtain ⟨t19_1, rfl, hL_3, H⟩ := H
  refine pop_not t19_1 ?_
  refine guardM_sf (fun hb_3 => ?_) (fun hb_3 => ?_)
  · have H := H.2 hb_3
    refine guardM_y' hb_3 ?_
    refine pop_field 0 fld32_0 b_1 0 ?_
    refine guardM_y' hb_3 ?_
    refine rop_loc one22 hL_3 1 rfl 0 (v := (Sl.v g0_1)) rfl ?_
    refine guardM_y' hb_3 ?_
    refine pop_len g0_1 _ _ sli22 ?_
    refine guardM_y' hb_3 ?_
    refine H.mono fun rv_2 h_4 H => ?_
    obtain ⟨t26_1, rfl, hL_4, H⟩ := H
    refine guardM_y' hb_3 ?_
    refine pop_not t26_1 ?_
    refine pop_pickf' hb_3 ?_
    refine condM_b (fun hb_4 => ?_) (fun hb_4 => ?_)
    · have H := H.1 hb_4
      exact H
    · have H := H.2 hb_4
      refine rop_locA agg32 hL_4 1 rfl 0 (vs := [(Sl.v g0_1)]) rfl rfl ?_
      refine rop_locA agg34 hL_4 0 rfl 0 (vs := [(Sl.v s2_1)]) rfl rfl ?_
      refine H.mono fun rv_3 h_5 H => ?_
      obtain ⟨t33_1, t33_2, t33_3, rfl, hL_5, H⟩ := H
      refine pop_ext (v := (Value.agg #[(Sl.v t33_1)])) rfl ?_
      refine pop_ext (v := (VI t33_2)) rfl ?_
      refine pop_ext (v := (VB t33_3)) rfl ?_
      refine eop_alloc 34 zer34 rfl hL_5 (fun b_3 h_6 hb_5 hf_3 hL_6 => ?_)
      refine uop_loc siz34 hL_6 0 rfl 0 [(Sl.v t33_1)] rfl rfl rfl (Nat.le_of_ble_eq_true rfl) (L' := [(b_3, [(Sl.v t33_1)]), (b_2, [(Sl.v s2_1)]), (b_1, [(Sl.v g0_1)])]) rfl (fun h_7 hf_4 hL_7 => ?_)
      refine pop_not t33_3 ?_
      refine condM_b (fun hb_6 => ?_) (fun hb_6 => ?_)
      · have H := H.1 hb_6
        have H := H b_3 h_7 (Nat.le_trans (Fr.size (Fr.r (In []) _)) hb_5) (Fr.new (Fr.no' (Fr.r (In []) _) hf_3) (Nat.le_trans (Fr.size (Fr.r (In []) _)) hb_5) hf_4) hL_7
        exact H
      · have H := H.2 hb_6
        refine rop_locA agg32 hL_7 2 rfl 0 (vs := [(Sl.v g0_1)]) rfl rfl ?_
        refine rop_locA agg34 hL_7 1 rfl 0 (vs := [(Sl.v s2_1)]) rfl rfl ?_
        have H := H b_3 h_7 (Nat.le_trans (Fr.size (Fr.r (In []) _)) hb_5) (Fr.new (Fr.no' (Fr.r (In []) _) hf_3) (Nat.le_trans (Fr.size (Fr.r (In []) _)) hb_5) hf_4) hL_7
        refine H.mono fun rv_4 h_8 H => ?_
        obtain ⟨t44_1, t44_2, t44_3, rfl, hL_8, H⟩ := H
        refine pop_ext (v := (Sl.v t44_1)) rfl ?_
        refine pop_ext (v := (VI t44_2)) rfl ?_
        refine pop_ext (v := (VB t44_3)) rfl ?_
        refine pop_not t44_3 ?_
        refine condM_b (fun hb_7 => ?_) (fun hb_7 => ?_)
        · have H := H.1 hb_7
          exact H
        · have H := H.2 hb_7
          exact H
  · have H := H.1 hb_3
    refine guardM_n' hb_3 (by decide) ?_
    refine guardM_n' hb_3 (by decide) ?_
    refine guardM_n' hb_3 (by decide) ?_
    refine guardM_n' hb_3 (by decide) ?_
    refine guardM_n' hb_3 (by decide) ?_
    refine pop_pickt' hb_3 ?_
    refine condM_t ?_
    exact H

/-! impl.StepsByWalks -/
def u22 (P : Program) (g0_1 : Sl) (sink1_1 : Int) (s2_1 : Sl) (order3_1 : Sl) (h : Heap) (K : Value → Heap → Prop) : Prop :=
  ∀ (b_1 : Nat) (b_2 : Nat) (h_2 : Heap), h.size ≤ b_1 → h.size ≤ b_2 → Fr (In []) h h_2 → Vars h_2 [(b_2, [(Sl.v s2_1)]), (b_1, [(Sl.v g0_1)])] →
  callM P 56 #[(Value.agg #[(Sl.v g0_1)])] h_2 fun rv_1 h_3 => ∃ t13_1 : Bool, rv_1 = (VB t13_1) ∧ Vars h_3 [(b_2, [(Sl.v s2_1)]), (b_1, [(Sl.v g0_1)])] ∧
  ((!t13_1) = true →
  K (Value.tuple #[(VI 0), (VB false)]) h_3) ∧
  ((!t13_1) = false →
  callM P 57 #[(Value.agg #[(Sl.v g0_1)]), (Sl.v order3_1)] h_3 fun rv_2 h_4 => ∃ t18_1 : Bool, rv_2 = (VB t18_1) ∧ Vars h_4 [(b_2, [(Sl.v s2_1)]), (b_1, [(Sl.v g0_1)])] ∧
  ((!t18_1) = true →
  K (Value.tuple #[(VI 0), (VB false)]) h_4) ∧
  ((!t18_1) = false →
  callM P 61 #[(Value.agg #[(Sl.v g0_1)]), (VI sink1_1), (Value.agg #[(Sl.v s2_1)])] h_4 fun rv_3 h_5 => ∃ t25_1 : Sl, ∃ t25_2 : Bool, rv_3 = (Value.tuple #[(Sl.v t25_1), (VB t25_2)]) ∧ Vars h_5 [(b_2, [(Sl.v s2_1)]), (b_1, [(Sl.v g0_1)])] ∧
  ((!t25_2) = true →
  K (Value.tuple #[(VI 0), (VB false)]) h_5) ∧
  ((!t25_2) = false →
  callM P 62 #[(Sl.v t25_1)] h_5 fun rv_4 h_6 => ∃ t31_1 : Int, rv_4 = (VI t31_1) ∧ Vars h_6 [(b_2, [(Sl.v s2_1)]), (b_1, [(Sl.v g0_1)])] ∧
  K (Value.tuple #[(VI (w64 ((w64 (t31_1 + (g0_1.n : Int))) - 1))), (VB true)]) h_6)))
theorem v22 (g0_1 : Sl) (sink1_1 : Int) (s2_1 : Sl) (order3_1 : Sl) (h : Heap) (K : Value → Heap → Prop) (H : u22 Try.prog g0_1 sink1_1 s2_1 order3_1 h K) : callM Try.prog 22 #[(Value.agg #[(Sl.v g0_1)]), (VI sink1_1), (Value.agg #[(Sl.v s2_1)]), (Sl.v order3_1)] h K := by
  refine c22 (Value.agg #[(Sl.v g0_1)]) (VI sink1_1) (Value.agg #[(Sl.v s2_1)]) (Sl.v order3_1) h K ?_
  unfold u22 at H
  unfold t22
  have hL : Vars h [] := .nil
  refine eop_box 32 (Value.agg #[(Sl.v g0_1)]) rfl hL (fun b_1 h_1 hb_1 hf_1 hL_1 => ?_)
  refine eop_box 34 (Value.agg #[(Sl.v s2_1)]) rfl hL_1 (fun b_2 h_2 hb_2 hf_2 hL_2 => ?_)
  refine rop_locA agg32 hL_2 1 rfl 0 (vs := [(Sl.v g0_1)]) rfl rfl ?_
  have H := H b_1 b_2 h_2 (Nat.le_trans (Fr.size (Fr.r (In []) _)) hb_1) (Nat.le_trans (Fr.size (Fr.no' (Fr.r (In []) _) hf_1)) hb_2) (Fr.no' (Fr.no' (Fr.r (In []) _) hf_1) hf_2) hL_2
  refine H.mono fun rv_1 h_3 H => ?_
  obtain ⟨t13_1, rfl, hL_3, H⟩ := H
  refine pop_not t13_1 ?_
  refine guardM_sf (fun hb_3 => ?_) (fun hb_3 => ?_)
  · have H := H.2 hb_3
    refine rop_locA agg32 hL_3 1 rfl 0 (vs := [(Sl.v g0_1)]) rfl rfl ?_
    refine guardM_y' hb_3 ?_
    refine guardM_y' hb_3 ?_
    refine H.mono fun rv_2 h_4 H => ?_
    obtain ⟨t18_1, rfl, hL_4, H⟩ := H
    refine guardM_y' hb_3 ?_
    refine pop_not t18_1 ?_
    refine pop_pickf' hb_3 ?_
    refine condM_b (fun hb_4 => ?_) (fun hb_4 => ?_)
    · have H := H.1 hb_4
      exact H
    · have H := H.2 hb_4
      refine rop_locA agg32 hL_4 1 rfl 0 (vs := [(Sl.v g0_1)]) rfl rfl ?_
      refine rop_locA agg34 hL_4 0 rfl 0 (vs := [(Sl.v s2_1)]) rfl rfl ?_
      refine H.mono fun rv_3 h_5 H => ?_
      obtain ⟨t25_1, t25_2, rfl, hL_5, H⟩ := H
      refine pop_ext (v := (Sl.v t25_1)) rfl ?_
      refine pop_ext (v := (VB t25_2)) rfl ?_
      refine pop_not t25_2 ?_
      refine condM_b (fun hb_5 => ?_) (fun hb_5 => ?_)
      · have H := H.1 hb_5
        exact H
      · have H := H.2 hb_5
        refine pop_field 0 fld32_0 b_1 0 ?_
        refine rop_loc one22 hL_5 1 rfl 0 (v := (Sl.v g0_1)) rfl ?_
        refine pop_len g0_1 _ _ sli22 ?_
        refine H.mono fun rv_4 h_6 H => ?_
        obtain ⟨t31_1, rfl, hL_6, H⟩ := H
        refine ⟨?_, ?_⟩
        · exact still_loc one22 hL_6 1 rfl 0 (v := (Sl.v g0_1)) rfl
        refine pop_add .i64 t31_1 (g0_1.n : Int) ?_
        refine pop_sub .i64 (w64 (t31_1 + (g0_1.n : Int))) 1 ?_
        exact H
  · have H := H.1 hb_3
    refine guardM_n' hb_3 (by decide) ?_
    refine guardM_n' hb_3 (by decide) ?_
    refine guardM_n' hb_3 (by decide) ?_
    refine pop_pickt' hb_3 ?_
    refine condM_t ?_
    exact H

/-! laws.szIntSS -/
def u50 (P : Program) (a0_1 : Sl) (left1_1 : Int) (h : Heap) (K : Value → Heap → Prop) : Prop :=
  ((decide ((w64 (left1_1 - (a0_1.n : Int))) < 0)) = true →
  K (VI (-1)) h) ∧
  ((decide ((w64 (left1_1 - (a0_1.n : Int))) < 0)) = false →
  ∃ J_1 : Nat → Int → Int → Heap → Prop, (∃ n0 : Nat, J_1 n0 (w64 (left1_1 - (a0_1.n : Int))) 0 h) ∧
  ∀ (n_1 : Nat) (left1_2 : Int) (i5_1 : Int) (h_1 : Heap), J_1 n_1 left1_2 i5_1 h_1 → Vars h_1 [] →
  ((decide (i5_1 < (a0_1.n : Int))) = true →
  InB a0_1 i5_1 ∧
  ∃ t21_1 : Sl, hcell h_1 (Sl.at a0_1 i5_1 1) = some (Sl.v t21_1) ∧
  callM P 95 #[(Sl.v t21_1), (VI left1_2)] h_1 fun rv_1 h_2 => ∃ t23_1 : Int, rv_1 = (VI t23_1) ∧ Vars h_2 [] ∧
  ((decide (t23_1 < 0)) = true →
  K (VI (-1)) h_2) ∧
  ((decide (t23_1 < 0)) = false →
  ∃ m : Nat, m < n_1 ∧ J_1 m t23_1 (w64 (i5_1 + 1)) h_2)) ∧
  ((decide (i5_1 < (a0_1.n : Int))) = false →
  K (VI left1_2) h_1))
theorem v50 (a0_1 : Sl) (left1_1 : Int) (h : Heap) (K : Value → Heap → Prop) (H : u50 Try.prog a0_1 left1_1 h K) : callM Try.prog 50 #[(Sl.v a0_1), (VI left1_1)] h K := by
  refine c50 (Sl.v a0_1) (VI left1_1) h K ?_
  unfold u50 at H
  unfold t50
  have hL : Vars h [] := .nil
  refine pop_len a0_1 _ _ sli22 ?_
  refine pop_sub .i64 left1_1 (a0_1.n : Int) ?_
  refine pop_lss .i64 (w64 (left1_1 - (a0_1.n : Int))) 0 ?_
  refine condM_b (fun hb_1 => ?_) (fun hb_1 => ?_)
  · have H := H.1 hb_1
    exact H
  · have H := H.2 hb_1
    obtain ⟨J_1, ⟨n_2, h0_1⟩, HB_1⟩ := H
    refine loop_intro (J := fun (n : Nat) (vs : List Value) (h' : Heap) => ∃ left1_2 : Int, ∃ i5_1 : Int, vs = [(VI left1_2), (VI i5_1)] ∧ J_1 n left1_2 i5_1 h' ∧ Vars h' []) n_2 ⟨(w64 (left1_1 - (a0_1.n : Int))), 0, rfl, h0_1, hL⟩ ?_
    intro I_1 mu_1 hI_1 junk_1 tv_1 tv_2 h_1 hi_1
    obtain ⟨n_1, ⟨left1_2, i5_1, hv, hJ_1, hL_1⟩, hn_1⟩ := hI_1 _ _ hi_1
    cases hv
    have H := HB_1 n_1 left1_2 i5_1 h_1 hJ_1 hL_1
    refine pop_len a0_1 _ _ sli22 ?_
    refine pop_lss .i64 i5_1 (a0_1.n : Int) ?_
    refine condM_b (fun hb_2 => ?_) (fun hb_2 => ?_)
    · have H := H.1 hb_2
      obtain ⟨hi_2, H⟩ := H
      refine pop_index sli22 siz27 .i64 a0_1 i5_1 hi_2 ?_
      obtain ⟨t21_1, hc_1, H⟩ := H
      refine rop_one one27 (Sl.v t21_1) hc_1 ?_
      refine H.mono fun rv_1 h_2 H => ?_
      obtain ⟨t23_1, rfl, hL_2, H⟩ := H
      refine pop_lss .i64 t23_1 0 ?_
      refine condM_b (fun hb_3 => ?_) (fun hb_3 => ?_)
      · have H := H.1 hb_3
        exact H
      · have H := H.2 hb_3
        refine pop_add .i64 i5_1 1 ?_
        obtain ⟨m_1, hm_1, H⟩ := H
        exact hn_1 _ _ ⟨m_1, hm_1, t23_1, (w64 (i5_1 + 1)), rfl, H, hL_2⟩
    · have H := H.2 hb_2
      exact H

/-! spec.skGood -/
def u51 (P : Program) (g0_1 : Sl) (sink1_1 : Int) (s2_1 : Sl) (h : Heap) (K : Value → Heap → Prop) : Prop :=
  ∀ (b_1 : Nat) (b_2 : Nat) (h_2 : Heap), h.size ≤ b_1 → h.size ≤ b_2 → Fr (In []) h h_2 → Vars h_2 [(b_2, [(Sl.v s2_1)]), (b_1, [(Sl.v g0_1)])] →
  callM P 67 #[(Value.agg #[(Sl.v g0_1)]), (VI sink1_1)] h_2 fun rv_1 h_3 => ∃ t11_1 : Bool, rv_1 = (VB t11_1) ∧ Vars h_3 [(b_2, [(Sl.v s2_1)]), (b_1, [(Sl.v g0_1)])] ∧
  ((!t11_1) = true →
  K (VB false) h_3) ∧
  ((!t11_1) = false →
  ((!decide ((s2_1.n : Int) = (g0_1.n : Int))) = true →
  K (VB false) h_3) ∧
  ((!decide ((s2_1.n : Int) = (g0_1.n : Int))) = false →
  InB s2_1 sink1_1 ∧
  ∃ t27_1 : Sl, hcell h_3 (Sl.at s2_1 sink1_1 1) = some (Sl.v t27_1) ∧
  ((decide (0 < (t27_1.n : Int))) = true →
  K (VB false) h_3) ∧
  ((decide (0 < (t27_1.n : Int))) = false →
  ∃ J_1 : Nat → Int → Heap → Prop, (∃ n0 : Nat, J_1 n0 0 h_3) ∧
  ∀ (n_1 : Nat) (t34_1 : Int) (h_4 : Heap), J_1 n_1 t34_1 h_4 → Vars h_4 [(b_2, [(Sl.v s2_1)]), (b_1, [(Sl.v g0_1)])] →
  ((decide (t34_1 < (s2_1.n : Int))) = true →
  InB s2_1 t34_1 ∧
  ∃ t38_1 : Sl, hcell h_4 (Sl.at s2_1 t34_1 1) = some (Sl.v t38_1) ∧
  ((decide (12 < (t38_1.n : Int))) = true →
  K (VB false) h_4) ∧
  ((decide (12 < (t38_1.n : Int))) = false →
  InB g0_1 t34_1 ∧
  ∃ t48_1 : Sl, hcell h_4 (Sl.at g0_1 t34_1 1) = some (Sl.v t48_1) ∧
  callM P 96 #[(Sl.v t38_1), (VI 0), (VI (w64 ((t48_1.n : Int) - 1)))] h_4 fun rv_2 h_5 => ∃ t51_1 : Bool, rv_2 = (VB t51_1) ∧ Vars h_5 [(b_2, [(Sl.v s2_1)]), (b_1, [(Sl.v g0_1)])] ∧
  ((!t51_1) = true →
  K (VB false) h_5) ∧
  ((!t51_1) = false →
  ∃ m : Nat, m < n_1 ∧ J_1 m (w64 (t34_1 + 1)) h_5))) ∧
  ((decide (t34_1 < (s2_1.n : Int))) = false →
  K (VB true) h_4))))
theorem v51 (g0_1 : Sl) (sink1_1 : Int) (s2_1 : Sl) (h : Heap) (K : Value → Heap → Prop) (H : u51 Try.prog g0_1 sink1_1 s2_1 h K) : callM Try.prog 51 #[(Value.agg #[(Sl.v g0_1)]), (VI sink1_1), (Value.agg #[(Sl.v s2_1)])] h K := by
  refine c51 (Value.agg #[(Sl.v g0_1)]) (VI sink1_1) (Value.agg #[(Sl.v s2_1)]) h K ?_
  unfold u51 at H
  unfold t51
  have hL : Vars h [] := .nil
  refine eop_box 32 (Value.agg #[(Sl.v g0_1)]) rfl hL (fun b_1 h_1 hb_1 hf_1 hL_1 => ?_)
  refine eop_box 34 (Value.agg #[(Sl.v s2_1)]) rfl hL_1 (fun b_2 h_2 hb_2 hf_2 hL_2 => ?_)
  refine rop_locA agg32 hL_2 1 rfl 0 (vs := [(Sl.v g0_1)]) rfl rfl ?_
  have H := H b_1 b_2 h_2 (Nat.le_trans (Fr.size (Fr.r (In []) _)) hb_1) (Nat.le_trans (Fr.size (Fr.no' (Fr.r (In []) _) hf_1)) hb_2) (Fr.no' (Fr.no' (Fr.r (In []) _) hf_1) hf_2) hL_2
  refine H.mono fun rv_1 h_3 H => ?_
  obtain ⟨t11_1, rfl, hL_3, H⟩ := H
  refine pop_not t11_1 ?_
  refine guardM_sf (fun hb_3 => ?_) (fun hb_3 => ?_)
  · have H := H.2 hb_3
    refine pop_field 0 fld34_0 b_2 0 ?_
    refine guardM_y' hb_3 ?_
    refine rop_loc one22 hL_3 0 rfl 0 (v := (Sl.v s2_1)) rfl ?_
    refine guardM_y' hb_3 ?_
    refine pop_len s2_1 _ _ sli22 ?_
    refine guardM_y' hb_3 ?_
    refine pop_field 0 fld32_0 b_1 0 ?_
    refine guardM_y' hb_3 ?_
    refine rop_loc one22 hL_3 1 rfl 0 (v := (Sl.v g0_1)) rfl ?_
    refine guardM_y' hb_3 ?_
    refine pop_len g0_1 _ _ sli22 ?_
    refine guardM_y' hb_3 ?_
    refine pop_ine .i64 _ _ (s2_1.n : Int) (g0_1.n : Int) ?_
    refine pop_pickf' hb_3 ?_
    refine guardM_sf (fun hb_4 => ?_) (fun hb_4 => ?_)
    · have H := H.2 hb_4
      refine pop_field 0 fld34_0 b_2 0 ?_
      refine guardM_y' hb_4 ?_
      refine rop_loc one22 hL_3 0 rfl 0 (v := (Sl.v s2_1)) rfl ?_
      refine guardM_y' hb_4 ?_
      refine guardM_y' hb_4 ?_
      obtain ⟨hi_1, H⟩ := H
      refine pop_index sli22 siz27 .i64 s2_1 sink1_1 hi_1 ?_
      refine guardM_y' hb_4 ?_
      obtain ⟨t27_1, hc_3, H⟩ := H
      refine rop_one one27 (Sl.v t27_1) hc_3 ?_
      refine guardM_y' hb_4 ?_
      refine pop_len t27_1 _ _ sli27 ?_
      refine guardM_y' hb_4 ?_
      refine pop_gtr .i64 (t27_1.n : Int) 0 ?_
      refine pop_pickf' hb_4 ?_
      refine condM_b (fun hb_5 => ?_) (fun hb_5 => ?_)
      · have H := H.1 hb_5
        exact H
      · have H := H.2 hb_5
        refine pop_field 0 fld34_0 b_2 0 ?_
        refine rop_loc one22 hL_3 0 rfl 0 (v := (Sl.v s2_1)) rfl ?_
        refine pop_len s2_1 _ _ sli22 ?_
        obtain ⟨J_1, ⟨n_2, h0_1⟩, HB_1⟩ := H
        refine loop_intro (J := fun (n : Nat) (vs : List Value) (h' : Heap) => ∃ t34_1 : Int, vs = [(VI t34_1)] ∧ J_1 n t34_1 h' ∧ Vars h' [(b_2, [(Sl.v s2_1)]), (b_1, [(Sl.v g0_1)])]) n_2 ⟨0, rfl, h0_1, hL_3⟩ ?_
        intro I_1 mu_1 hI_1 junk_1 tv_1 h_4 hi_2
        obtain ⟨n_1, ⟨t34_1, hv, hJ_1, hL_4⟩, hn_1⟩ := hI_1 _ _ hi_2
        cases hv
        have H := HB_1 n_1 t34_1 h_4 hJ_1 hL_4
        refine pop_lss .i64 t34_1 (s2_1.n : Int) ?_
        refine condM_b (fun hb_6 => ?_) (fun hb_6 => ?_)
        · have H := H.1 hb_6
          obtain ⟨hi_3, H⟩ := H
          refine pop_index sli22 siz27 .i64 s2_1 t34_1 hi_3 ?_
          obtain ⟨t38_1, hc_2, H⟩ := H
          refine rop_one one27 (Sl.v t38_1) hc_2 ?_
          refine pop_len t38_1 _ _ sli27 ?_
          refine pop_gtr .i64 (t38_1.n : Int) 12 ?_
          refine guardM_sf (fun hb_7 => ?_) (fun hb_7 => ?_)
          · have H := H.2 hb_7
            refine guardM_y' hb_7 ?_
            refine pop_field 0 fld32_0 b_1 0 ?_
            refine guardM_y' hb_7 ?_
            refine rop_loc one22 hL_4 1 rfl 0 (v := (Sl.v g0_1)) rfl ?_
            refine guardM_y' hb_7 ?_
            refine guardM_y' hb_7 ?_
            obtain ⟨hi_4, H⟩ := H
            refine pop_index sli22 siz27 .i64 g0_1 t34_1 hi_4 ?_
            refine guardM_y' hb_7 ?_
            obtain ⟨t48_1, hc_1, H⟩ := H
            refine rop_one one27 (Sl.v t48_1) hc_1 ?_
            refine guardM_y' hb_7 ?_
            refine pop_len t48_1 _ _ sli27 ?_
            refine guardM_y' hb_7 ?_
            refine pop_sub .i64 (t48_1.n : Int) 1 ?_
            refine guardM_y' hb_7 ?_
            refine H.mono fun rv_2 h_5 H => ?_
            obtain ⟨t51_1, rfl, hL_5, H⟩ := H
            refine guardM_y' hb_7 ?_
            refine pop_not t51_1 ?_
            refine pop_pickf' hb_7 ?_
            refine condM_b (fun hb_8 => ?_) (fun hb_8 => ?_)
            · have H := H.1 hb_8
              exact H
            · have H := H.2 hb_8
              refine pop_add .i64 t34_1 1 ?_
              obtain ⟨m_1, hm_1, H⟩ := H
              exact hn_1 _ _ ⟨m_1, hm_1, (w64 (t34_1 + 1)), rfl, H, hL_5⟩
          · have H := H.1 hb_7
            refine guardM_n' hb_7 (by decide) ?_
            refine guardM_n' hb_7 (by decide) ?_
            refine guardM_n' hb_7 (by decide) ?_
            refine guardM_n' hb_7 (by decide) ?_
            refine guardM_n' hb_7 (by decide) ?_
            refine guardM_n' hb_7 (by decide) ?_
            refine guardM_n' hb_7 (by decide) ?_
            refine guardM_n' hb_7 (by decide) ?_
            refine guardM_n' hb_7 (by decide) ?_
            refine pop_pickt' hb_7 ?_
            refine condM_t ?_
            exact H
        · have H := H.2 hb_6
          exact H
    · have H := H.1 hb_4
      refine guardM_n' hb_4 (by decide) ?_
      refine guardM_n' hb_4 (by decide) ?_
      refine guardM_n' hb_4 (by decide) ?_
      refine guardM_n' hb_4 (by decide) ?_
      refine guardM_n' hb_4 (by decide) ?_
      refine guardM_n' hb_4 (by decide) ?_
      refine pop_pickt' hb_4 ?_
      refine condM_t ?_
      exact H
  · have H := H.1 hb_3
    refine guardM_n' hb_3 (by decide) ?_
    refine guardM_n' hb_3 (by decide) ?_
    refine guardM_n' hb_3 (by decide) ?_
    refine guardM_n' hb_3 (by decide) ?_
    refine guardM_n' hb_3 (by decide) ?_
    refine guardM_n' hb_3 (by decide) ?_
    refine pop_pickt' hb_3 ?_
    refine guardM_n (by decide) ?_
    refine guardM_n (by decide) ?_
    refine guardM_n (by decide) ?_
    refine guardM_n (by decide) ?_
    refine guardM_n (by decide) ?_
    refine guardM_n (by decide) ?_
    refine guardM_n (by decide) ?_
    refine pop_pickt _ _ ?_
    refine condM_t ?_
    exact H

/-! spec.grNames -/
def u52 (P : Program) (names0_1 : Sl) (n1_1 : Int) (h : Heap) (K : Value → Heap → Prop) : Prop :=
  ((!decide ((names0_1.n : Int) = n1_1)) = true →
  K (VB false) h) ∧
  ((!decide ((names0_1.n : Int) = n1_1)) = false →
  callM P 96 #[(Sl.v names0_1), (VI 0), (VI (w64 (n1_1 - 1)))] h fun rv_1 h_1 => ∃ t15_1 : Bool, rv_1 = (VB t15_1) ∧ Vars h_1 [] ∧
  ((!t15_1) = true →
  K (VB false) h_1) ∧
  ((!t15_1) = false →
  ∃ J_1 : Nat → Int → Heap → Prop, (∃ n0 : Nat, J_1 n0 0 h_1) ∧
  ∀ (n_1 : Nat) (t20_1 : Int) (h_2 : Heap), J_1 n_1 t20_1 h_2 → Vars h_2 [] →
  ((decide (t20_1 < (names0_1.n : Int))) = true →
  InB names0_1 t20_1 ∧
  ∃ t24_1 : Int, hcell h_2 (Sl.at names0_1 t20_1 1) = some (VI t24_1) ∧
  pop P (Instr.sliceAt 27 (Sl.v names0_1) none (some (VI t20_1)) none) fun rv_2 => ∃ t27_1 : Sl, rv_2 = (Sl.v t27_1) ∧ 
  callM P 74 #[(Sl.v t27_1), (VI t24_1)] h_2 fun rv_3 h_3 => ∃ t29_1 : Bool, rv_3 = (VB t29_1) ∧ Vars h_3 [] ∧
  (t29_1 = true →
  K (VB false) h_3) ∧
  (t29_1 = false →
  ∃ m : Nat, m < n_1 ∧ J_1 m (w64 (t20_1 + 1)) h_3)) ∧
  ((decide (t20_1 < (names0_1.n : Int))) = false →
  K (VB true) h_2)))
theorem v52 (names0_1 : Sl) (n1_1 : Int) (h : Heap) (K : Value → Heap → Prop) (H : u52 Try.prog names0_1 n1_1 h K) : callM Try.prog 52 #[(Sl.v names0_1), (VI n1_1)] h K := by
  refine c52 (Sl.v names0_1) (VI n1_1) h K ?_
  unfold u52 at H
  unfold t52
  have hL : Vars h [] := .nil
  refine pop_len names0_1 _ _ sli27 ?_
  refine pop_ine .i64 _ _ (names0_1.n : Int) n1_1 ?_
  refine guardM_sf (fun hb_1 => ?_) (fun hb_1 => ?_)
  · have H := H.2 hb_1
    refine guardM_y' hb_1 ?_
    refine guardM_y' hb_1 ?_
    refine pop_sub .i64 n1_1 1 ?_
    refine guardM_y' hb_1 ?_
    refine H.mono fun rv_1 h_1 H => ?_
    obtain ⟨t15_1, rfl, hL_1, H⟩ := H
    refine guardM_y' hb_1 ?_
    refine pop_not t15_1 ?_
    refine pop_pickf' hb_1 ?_
    refine condM_b (fun hb_2 => ?_) (fun hb_2 => ?_)
    · have H := H.1 hb_2
      exact H
    · have H := H.2 hb_2
      refine pop_len names0_1 _ _ sli27 ?_
      obtain ⟨J_1, ⟨n_2, h0_1⟩, HB_1⟩ := H
      refine loop_intro (J := fun (n : Nat) (vs : List Value) (h' : Heap) => ∃ t20_1 : Int, vs = [(VI t20_1)] ∧ J_1 n t20_1 h' ∧ Vars h' []) n_2 ⟨0, rfl, h0_1, hL_1⟩ ?_
      intro I_1 mu_1 hI_1 junk_1 tv_1 h_2 hi_1
      obtain ⟨n_1, ⟨t20_1, hv, hJ_1, hL_2⟩, hn_1⟩ := hI_1 _ _ hi_1
      cases hv
      have H := HB_1 n_1 t20_1 h_2 hJ_1 hL_2
      refine pop_lss .i64 t20_1 (names0_1.n : Int) ?_
      refine condM_b (fun hb_3 => ?_) (fun hb_3 => ?_)
      · have H := H.1 hb_3
        obtain ⟨hi_2, H⟩ := H
        refine pop_index sli27 siz3 .i64 names0_1 t20_1 hi_2 ?_
        obtain ⟨t24_1, hc_1, H⟩ := H
        refine rop_one one3 (VI t24_1) hc_1 ?_
        refine H.mono fun rv_2 H => ?_
        obtain ⟨t27_1, rfl, H⟩ := H
        refine H.mono fun rv_3 h_3 H => ?_
        obtain ⟨t29_1, rfl, hL_3, H⟩ := H
        refine condM_b (fun hb_4 => ?_) (fun hb_4 => ?_)
        · have H := H.1 hb_4
          exact H
        · have H := H.2 hb_4
          refine pop_add .i64 t20_1 1 ?_
          obtain ⟨m_1, hm_1, H⟩ := H
          exact hn_1 _ _ ⟨m_1, hm_1, (w64 (t20_1 + 1)), rfl, H, hL_3⟩
      · have H := H.2 hb_3
        exact H
  · have H := H.1 hb_1
    refine guardM_n' hb_1 (by decide) ?_
    refine guardM_n' hb_1 (by decide) ?_
    refine guardM_n' hb_1 (by decide) ?_
    refine guardM_n' hb_1 (by decide) ?_
    refine pop_pickt' hb_1 ?_
    refine condM_t ?_
    exact H

/-! spec.skEnd -/
def u53 (P : Program) (g0_1 : Sl) (sink1_1 : Int) (s2_1 : Sl) (choices3_1 : Sl) (h : Heap) (K : Value → Heap → Prop) : Prop :=
  ∀ (b_1 : Nat) (b_2 : Nat) (b_3 : Nat) (h_3 : Heap), h.size ≤ b_1 → h.size ≤ b_2 → h.size ≤ b_3 → Fr (In []) h h_3 → Vars h_3 [(b_3, [(Sl.v nilSl)]), (b_2, [(Sl.v s2_1)]), (b_1, [(Sl.v g0_1)])] →
  ∃ J_1 : Nat → Int → Sl → Heap → Prop, (∃ n0 : Nat, J_1 n0 0 s2_1 h_3) ∧
  ∀ (n_1 : Nat) (n11_1 : Int) (x_1 : Sl) (h_4 : Heap), J_1 n_1 n11_1 x_1 h_4 → Vars h_4 [(b_3, [(Sl.v nilSl)]), (b_2, [(Sl.v x_1)]), (b_1, [(Sl.v g0_1)])] →
  ((decide (n11_1 ≤ 200)) = true →
  callM P 97 #[(Value.agg #[(Sl.v g0_1)]), (Value.agg #[(Sl.v x_1)])] h_4 fun rv_1 h_5 => ∃ t22_1 : Sl, rv_1 = (Sl.v t22_1) ∧ Vars h_5 [(b_3, [(Sl.v nilSl)]), (b_2, [(Sl.v x_1)]), (b_1, [(Sl.v g0_1)])] ∧
  ((decide ((t22_1.n : Int) = 0)) = true →
  callM P 98 #[(Value.agg #[(Sl.v g0_1)]), (VI sink1_1), (Value.agg #[(Sl.v x_1)])] h_5 fun rv_2 h_6 => ∃ t30_1 : Sl, ∃ t30_2 : Bool, rv_2 = (Value.tuple #[(Sl.v t30_1), (VB t30_2)]) ∧ Vars h_6 [(b_3, [(Sl.v nilSl)]), (b_2, [(Sl.v x_1)]), (b_1, [(Sl.v g0_1)])] ∧
  ∀ (h_7 : Heap), Fr (In [b_3]) h_6 h_7 → Vars h_7 [(b_3, [(Sl.v x_1)]), (b_2, [(Sl.v x_1)]), (b_1, [(Sl.v g0_1)])] →
  K (Value.tuple #[(Value.agg #[(Sl.v x_1)]), (VI n11_1), (VB t30_2)]) h_7) ∧
  ((decide ((t22_1.n : Int) = 0)) = false →
  ∃ J_2 : Int → Heap → Prop, (((decide (n11_1 < (choices3_1.n : Int))) = true →
  InB choices3_1 n11_1 ∧
  ∃ t43_1 : Int, hcell h_5 (Sl.at choices3_1 n11_1 1) = some (VI t43_1) ∧
  (t22_1.n : Int) ≠ 0 ∧
  J_2 (Int.tmod t43_1 (t22_1.n : Int)) h_5) ∧
  ((decide (n11_1 < (choices3_1.n : Int))) = false →
  J_2 0 h_5)) ∧
  ∀ (x_2 : Int) (h_8 : Heap), J_2 x_2 h_8 → Vars h_8 [(b_3, [(Sl.v nilSl)]), (b_2, [(Sl.v x_1)]), (b_1, [(Sl.v g0_1)])] →
  InB t22_1 x_2 ∧
  ∃ t51_1 : Sl, hcell h_8 (Sl.at t22_1 x_2 1) = some (Sl.v t51_1) ∧
  callM P 99 #[(Value.agg #[(Sl.v x_1)]), (Sl.v t51_1)] h_8 fun rv_3 h_9 => ∃ t52_1 : Sl, rv_3 = (Value.agg #[(Sl.v t52_1)]) ∧ Vars h_9 [(b_3, [(Sl.v nilSl)]), (b_2, [(Sl.v x_1)]), (b_1, [(Sl.v g0_1)])] ∧
  ∀ (h_10 : Heap), Fr (In [b_2]) h_9 h_10 → Vars h_10 [(b_3, [(Sl.v nilSl)]), (b_2, [(Sl.v t52_1)]), (b_1, [(Sl.v g0_1)])] →
  ∃ m : Nat, m < n_1 ∧ J_1 m (w64 (n11_1 + 1)) t52_1 h_10)) ∧
  ((decide (n11_1 ≤ 200)) = false →
  ∀ (h_11 : Heap), Fr (In [b_3]) h_4 h_11 → Vars h_11 [(b_3, [(Sl.v x_1)]), (b_2, [(Sl.v x_1)]), (b_1, [(Sl.v g0_1)])] →
  K (Value.tuple #[(Value.agg #[(Sl.v x_1)]), (VI 0), (VB false)]) h_11)
theorem v53 (g0_1 : Sl) (sink1_1 : Int) (s2_1 : Sl) (choices3_1 : Sl) (h : Heap) (K : Value → Heap → Prop) (H : u53 Try.prog g0_1 sink1_1 s2_1 choices3_1 h K) : callM Try.prog 53 #[(Value.agg #[(Sl.v g0_1)]), (VI sink1_1), (Value.agg #[(Sl.v s2_1)]), (Sl.v choices3_1)] h K := by
  refine c53 (Value.agg #[(Sl.v g0_1)]) (VI sink1_1) (Value.agg #[(Sl.v s2_1)]) (Sl.v choices3_1) h K ?_
  unfold u53 at H
  unfold t53
  have hL : Vars h [] := .nil
  refine eop_box 32 (Value.agg #[(Sl.v g0_1)]) rfl hL (fun b_1 h_1 hb_1 hf_1 hL_1 => ?_)
  refine eop_box 34 (Value.agg #[(Sl.v s2_1)]) rfl hL_1 (fun b_2 h_2 hb_2 hf_2 hL_2 => ?_)
  refine eop_alloc 34 zer34 rfl hL_2 (fun b_3 h_3 hb_3 hf_3 hL_3 => ?_)
  have H := H b_1 b_2 b_3 h_3 (Nat.le_trans (Fr.size (Fr.r (In []) _)) hb_1) (Nat.le_trans (Fr.size (Fr.no' (Fr.r (In []) _) hf_1)) hb_2) (Nat.le_trans (Fr.size (Fr.no' (Fr.no' (Fr.r (In []) _) hf_1) hf_2)) hb_3) (Fr.no' (Fr.no' (Fr.no' (Fr.r (In []) _) hf_1) hf_2) hf_3) hL_3
  obtain ⟨J_1, ⟨n_2, h0_1⟩, HB_2⟩ := H
  refine loop_intro (J := fun (n : Nat) (vs : List Value) (h' : Heap) => ∃ n11_1 : Int, ∃ x_1 : Sl, vs = [(VI n11_1)] ∧ J_1 n n11_1 x_1 h' ∧ Vars h' [(b_3, [(Sl.v nilSl)]), (b_2, [(Sl.v x_1)]), (b_1, [(Sl.v g0_1)])]) n_2 ⟨0, s2_1, rfl, h0_1, hL_3⟩ ?_
  intro I_1 mu_1 hI_1 junk_1 tv_2 h_4 hi_1
  obtain ⟨n_1, ⟨n11_1, x_1, hv, hJ_1, hL_4⟩, hn_1⟩ := hI_1 _ _ hi_1
  cases hv
  have H := HB_2 n_1 n11_1 x_1 h_4 hJ_1 hL_4
  refine pop_leq .i64 n11_1 200 ?_
  refine condM_b (fun hb_4 => ?_) (fun hb_4 => ?_)
  · have H := H.1 hb_4
    refine rop_locA agg32 hL_4 2 rfl 0 (vs := [(Sl.v g0_1)]) rfl rfl ?_
    refine rop_locA agg34 hL_4 1 rfl 0 (vs := [(Sl.v x_1)]) rfl rfl ?_
    refine H.mono fun rv_1 h_5 H => ?_
    obtain ⟨t22_1, rfl, hL_5, H⟩ := H
    refine pop_len t22_1 _ _ sli22 ?_
    refine pop_ieq .i64 _ _ (t22_1.n : Int) 0 ?_
    refine condM_b (fun hb_5 => ?_) (fun hb_5 => ?_)
    · have H := H.1 hb_5
      refine rop_locA agg32 hL_5 2 rfl 0 (vs := [(Sl.v g0_1)]) rfl rfl ?_
      refine rop_locA agg34 hL_5 1 rfl 0 (vs := [(Sl.v x_1)]) rfl rfl ?_
      refine H.mono fun rv_2 h_6 H => ?_
      obtain ⟨t30_1, t30_2, rfl, hL_6, H⟩ := H
      refine pop_ext (v := (Sl.v t30_1)) rfl ?_
      refine pop_ext (v := (VB t30_2)) rfl ?_
      refine rop_locA agg34 hL_6 1 rfl 0 (vs := [(Sl.v x_1)]) rfl rfl ?_
      refine uop_loc siz34 hL_6 0 rfl 0 [(Sl.v x_1)] rfl rfl rfl (Nat.le_of_ble_eq_true rfl) (L' := [(b_3, [(Sl.v x_1)]), (b_2, [(Sl.v x_1)]), (b_1, [(Sl.v g0_1)])]) rfl (fun h_7 hf_4 hL_7 => ?_)
      refine rop_locA agg34 hL_7 0 rfl 0 (vs := [(Sl.v x_1)]) rfl rfl ?_
      have H := H  h_7  (Fr.old (Fr.r (In []) _) hf_4) hL_7
      exact H
    · have H := H.2 hb_5
      obtain ⟨J_2, H, HB_1⟩ := H
      refine ⟨fun (vs : List Value) (h' : Heap) => ∃ x_2 : Int, vs = [(VI x_2)] ∧ J_2 x_2 h' ∧ Vars h' [(b_3, [(Sl.v nilSl)]), (b_2, [(Sl.v x_1)]), (b_1, [(Sl.v g0_1)])], ?_, ?_⟩
      · refine pop_len choices3_1 _ _ sli27 ?_
        refine pop_lss .i64 n11_1 (choices3_1.n : Int) ?_
        refine condM_b (fun hb_6 => ?_) (fun hb_6 => ?_)
        · have H := H.1 hb_6
          obtain ⟨hi_2, H⟩ := H
          refine pop_index sli27 siz3 .i64 choices3_1 n11_1 hi_2 ?_
          obtain ⟨t43_1, hc_1, H⟩ := H
          refine rop_one one3 (VI t43_1) hc_1 ?_
          refine pop_len t22_1 _ _ sli22 ?_
          obtain ⟨hz_1, H⟩ := H
          refine pop_rem .i64 t43_1 (t22_1.n : Int) hz_1 ?_
          exact ⟨(Int.tmod t43_1 (t22_1.n : Int)), rfl, H, hL_5⟩
        · have H := H.2 hb_6
          exact ⟨0, rfl, H, hL_5⟩
      intro junk_2 tv_1 h_8
      rintro ⟨x_2, hv, hJ_2, hL_8⟩
      cases hv
      have H := HB_1 x_2 h_8 hJ_2 hL_8
      refine rop_locA agg34 hL_8 1 rfl 0 (vs := [(Sl.v x_1)]) rfl rfl ?_
      obtain ⟨hi_3, H⟩ := H
      refine pop_index sli22 siz27 .i64 t22_1 x_2 hi_3 ?_
      obtain ⟨t51_1, hc_2, H⟩ := H
      refine rop_one one27 (Sl.v t51_1) hc_2 ?_
      refine H.mono fun rv_3 h_9 H => ?_
      obtain ⟨t52_1, rfl, hL_9, H⟩ := H
      refine uop_loc siz34 hL_9 1 rfl 0 [(Sl.v t52_1)] rfl rfl rfl (Nat.le_of_ble_eq_true rfl) (L' := [(b_3, [(Sl.v nilSl)]), (b_2, [(Sl.v t52_1)]), (b_1, [(Sl.v g0_1)])]) rfl (fun h_10 hf_5 hL_10 => ?_)
      refine pop_add .i64 n11_1 1 ?_
      have H := H  h_10  (Fr.old (Fr.r (In []) _) hf_5) hL_10
      obtain ⟨m_1, hm_1, H⟩ := H
      exact hn_1 _ _ ⟨m_1, hm_1, (w64 (n11_1 + 1)), t52_1, rfl, H, hL_10⟩
  · have H := H.2 hb_4
    refine rop_locA agg34 hL_4 1 rfl 0 (vs := [(Sl.v x_1)]) rfl rfl ?_
    refine uop_loc siz34 hL_4 0 rfl 0 [(Sl.v x_1)] rfl rfl rfl (Nat.le_of_ble_eq_true rfl) (L' := [(b_3, [(Sl.v x_1)]), (b_2, [(Sl.v x_1)]), (b_1, [(Sl.v g0_1)])]) rfl (fun h_11 hf_6 hL_11 => ?_)
    refine rop_locA agg34 hL_11 0 rfl 0 (vs := [(Sl.v x_1)]) rfl rfl ?_
    have H := H  h_11  (Fr.old (Fr.r (In []) _) hf_6) hL_11
    exact H

/-! spec.skWalks -/
def u54 (P : Program) (g0_1 : Sl) (sink1_1 : Int) (s2_1 : Sl) (order3_1 : Sl) (h : Heap) (K : Value → Heap → Prop) : Prop :=
  ∀ (b_1 : Nat) (b_2 : Nat) (h_2 : Heap), h.size ≤ b_1 → h.size ≤ b_2 → Fr (In []) h h_2 → Vars h_2 [(b_2, [(Sl.v s2_1)]), (b_1, [(Sl.v g0_1)])] →
  callM P 99 #[(Value.agg #[(Sl.v s2_1)]), (Sl.v nilSl)] h_2 fun rv_1 h_3 => ∃ t24_1 : Sl, rv_1 = (Value.agg #[(Sl.v t24_1)]) ∧ Vars h_3 [(b_2, [(Sl.v s2_1)]), (b_1, [(Sl.v g0_1)])] ∧
  ∀ (h_4 : Heap), Fr (In [b_2]) h_3 h_4 → Vars h_4 [(b_2, [(Sl.v t24_1)]), (b_1, [(Sl.v g0_1)])] →
  eop P (Instr.makeSlice 93 (VI (g0_1.n : Int)) (VI (g0_1.n : Int))) h_4 fun rv_2 h_5 => ∃ t28_1 : Sl, rv_2 = (Sl.v t28_1) ∧ Vars h_5 [(b_2, [(Sl.v t24_1)]), (b_1, [(Sl.v g0_1)])] ∧
  InB t28_1 sink1_1 ∧
  Writable h_5 (Sl.at t28_1 sink1_1 1) ∧ Vars (hset h_5 (Sl.at t28_1 sink1_1 1) (VB true)) [(b_2, [(Sl.v t24_1)]), (b_1, [(Sl.v g0_1)])] ∧
  ∀ h_6 : Heap, h_6 = hset h_5 (Sl.at t28_1 sink1_1 1) (VB true) → Vars h_6 [(b_2, [(Sl.v t24_1)]), (b_1, [(Sl.v g0_1)])] →
  ∃ J_1 : Nat → Int → Int → Sl → Heap → Prop, (∃ n0 : Nat, J_1 n0 0 0 t24_1 h_6) ∧
  ∀ (n_1 : Nat) (steps12_1 : Int) (t34_1 : Int) (x_1 : Sl) (h_7 : Heap), J_1 n_1 steps12_1 t34_1 x_1 h_7 → Vars h_7 [(b_2, [(Sl.v x_1)]), (b_1, [(Sl.v g0_1)])] →
  ((decide (t34_1 < (order3_1.n : Int))) = true →
  InB order3_1 t34_1 ∧
  ∃ t37_1 : Int, hcell h_7 (Sl.at order3_1 t34_1 1) = some (VI t37_1) ∧
  InB t28_1 t37_1 ∧
  ∃ t41_1 : Bool, hcell h_7 (Sl.at t28_1 t37_1 1) = some (VB t41_1) ∧
  (t41_1 = true →
  ∃ m : Nat, m < n_1 ∧ J_1 m steps12_1 (w64 (t34_1 + 1)) x_1 h_7) ∧
  (t41_1 = false →
  eop P (Instr.buildSlice 27 1 #[(0, (VI t37_1))]) h_7 fun rv_3 h_8 => ∃ t43_1 : Sl, rv_3 = (Sl.v t43_1) ∧ Vars h_8 [(b_2, [(Sl.v x_1)]), (b_1, [(Sl.v g0_1)])] ∧
  ∃ J_2 : Nat → Int → Sl → Int → Sl → Heap → Prop, (∃ n0 : Nat, J_2 n0 steps12_1 t43_1 t37_1 x_1 h_8) ∧
  ∀ (n_2 : Nat) (steps12_2 : Int) (way15_1 : Sl) (p16_1 : Int) (x_2 : Sl) (h_9 : Heap), J_2 n_2 steps12_2 way15_1 p16_1 x_2 h_9 → Vars h_9 [(b_2, [(Sl.v x_2)]), (b_1, [(Sl.v g0_1)])] →
  InB t28_1 p16_1 ∧
  ∃ t48_1 : Bool, hcell h_9 (Sl.at t28_1 p16_1 1) = some (VB t48_1) ∧
  ((!t48_1) = true →
  callM P 100 #[(Value.agg #[(Sl.v g0_1)]), (Value.agg #[(Sl.v x_2)]), (VI p16_1)] h_9 fun rv_4 h_10 => ∃ t53_1 : Int, rv_4 = (VI t53_1) ∧ Vars h_10 [(b_2, [(Sl.v x_2)]), (b_1, [(Sl.v g0_1)])] ∧
  ((decide (t53_1 < 0)) = true →
  K (Value.tuple #[(Sl.v nilSl), (VI 0), (VB false)]) h_10) ∧
  ((decide (t53_1 < 0)) = false →
  callM P 101 #[(Sl.v way15_1), (VI t53_1)] h_10 fun rv_5 h_11 => ∃ t60_1 : Int, rv_5 = (VI t60_1) ∧ Vars h_11 [(b_2, [(Sl.v x_2)]), (b_1, [(Sl.v g0_1)])] ∧
  ((decide (0 ≤ t60_1)) = true →
  pop P (Instr.sliceAt 27 (Sl.v way15_1) (some (VI t60_1)) none none) fun rv_6 => ∃ t66_1 : Sl, rv_6 = (Sl.v t66_1) ∧ 
  callM P 99 #[(Value.agg #[(Sl.v x_2)]), (Sl.v t66_1)] h_11 fun rv_7 h_12 => ∃ t67_1 : Sl, rv_7 = (Value.agg #[(Sl.v t67_1)]) ∧ Vars h_12 [(b_2, [(Sl.v x_2)]), (b_1, [(Sl.v g0_1)])] ∧
  pop P (Instr.sliceAt 27 (Sl.v way15_1) none (some (VI (w64 (t60_1 + 1)))) none) fun rv_8 => ∃ t71_1 : Sl, rv_8 = (Sl.v t71_1) ∧ 
  ∀ (h_13 : Heap), Fr (In [b_2]) h_12 h_13 → Vars h_13 [(b_2, [(Sl.v t67_1)]), (b_1, [(Sl.v g0_1)])] →
  callM P 87 #[(Sl.v t71_1)] h_13 fun rv_9 h_14 => ∃ t72_1 : Sl, rv_9 = (Sl.v t72_1) ∧ Vars h_14 [(b_2, [(Sl.v t67_1)]), (b_1, [(Sl.v g0_1)])] ∧
  ∃ m : Nat, m < n_2 ∧ J_2 m (w64 (steps12_2 + 1)) t72_1 t53_1 t67_1 h_14) ∧
  ((decide (0 ≤ t60_1)) = false →
  eop P (Instr.buildSlice 27 1 #[(0, (VI t53_1))]) h_11 fun rv_10 h_15 => ∃ t75_1 : Sl, rv_10 = (Sl.v t75_1) ∧ Vars h_15 [(b_2, [(Sl.v x_2)]), (b_1, [(Sl.v g0_1)])] ∧
  eop P (appS 27 27 27 (Sl.v way15_1) (Sl.v t75_1)) h_15 fun rv_11 h_16 => ∃ t76_1 : Sl, rv_11 = (Sl.v t76_1) ∧ Vars h_16 [(b_2, [(Sl.v x_2)]), (b_1, [(Sl.v g0_1)])] ∧
  ∃ m : Nat, m < n_2 ∧ J_2 m (w64 (steps12_2 + 1)) t76_1 t53_1 x_2 h_16))) ∧
  ((!t48_1) = false →
  ∃ J_3 : Nat → Int → Heap → Prop, (∃ n0 : Nat, J_3 n0 0 h_9) ∧
  ∀ (n_3 : Nat) (t80_1 : Int) (h_17 : Heap), J_3 n_3 t80_1 h_17 → Vars h_17 [(b_2, [(Sl.v x_2)]), (b_1, [(Sl.v g0_1)])] →
  ((decide (t80_1 < (way15_1.n : Int))) = true →
  InB way15_1 t80_1 ∧
  ∃ t83_1 : Int, hcell h_17 (Sl.at way15_1 t80_1 1) = some (VI t83_1) ∧
  InB t28_1 t83_1 ∧
  Writable h_17 (Sl.at t28_1 t83_1 1) ∧ Vars (hset h_17 (Sl.at t28_1 t83_1 1) (VB true)) [(b_2, [(Sl.v x_2)]), (b_1, [(Sl.v g0_1)])] ∧
  ∀ h_18 : Heap, h_18 = hset h_17 (Sl.at t28_1 t83_1 1) (VB true) → Vars h_18 [(b_2, [(Sl.v x_2)]), (b_1, [(Sl.v g0_1)])] →
  ∃ m : Nat, m < n_3 ∧ J_3 m (w64 (t80_1 + 1)) h_18) ∧
  ((decide (t80_1 < (way15_1.n : Int))) = false →
  ∃ m : Nat, m < n_1 ∧ J_1 m steps12_2 (w64 (t34_1 + 1)) x_2 h_17)))) ∧
  ((decide (t34_1 < (order3_1.n : Int))) = false →
  callM P 98 #[(Value.agg #[(Sl.v g0_1)]), (VI sink1_1), (Value.agg #[(Sl.v x_1)])] h_7 fun rv_12 h_19 => ∃ t93_1 : Sl, ∃ t93_2 : Bool, rv_12 = (Value.tuple #[(Sl.v t93_1), (VB t93_2)]) ∧ Vars h_19 [(b_2, [(Sl.v x_1)]), (b_1, [(Sl.v g0_1)])] ∧
  K (Value.tuple #[(Sl.v t93_1), (VI steps12_1), (VB t93_2)]) h_19)
theorem v54 (g0_1 : Sl) (sink1_1 : Int) (s2_1 : Sl) (order3_1 : Sl) (h : Heap) (K : Value → Heap → Prop) (H : u54 Try.prog g0_1 sink1_1 s2_1 order3_1 h K) : callM Try.prog 54 #[(Value.agg #[(Sl.v g0_1)]), (VI sink1_1), (Value.agg #[(Sl.v s2_1)]), (Sl.v order3_1)] h K := by
  refine c54 (Value.agg #[(Sl.v g0_1)]) (VI sink1_1) (Value.agg #[(Sl.v s2_1)]) (Sl.v order3_1) h K ?_
  unfold u54 at H
  unfold t54
  have hL : Vars h [] := .nil
  refine eop_box 32 (Value.agg #[(Sl.v g0_1)]) rfl hL (fun b_1 h_1 hb_1 hf_1 hL_1 => ?_)
  refine eop_box 34 (Value.agg #[(Sl.v s2_1)]) rfl hL_1 (fun b_2 h_2 hb_2 hf_2 hL_2 => ?_)
  refine rop_locA agg34 hL_2 0 rfl 0 (vs := [(Sl.v s2_1)]) rfl rfl ?_
  have H := H b_1 b_2 h_2 (Nat.le_trans (Fr.size (Fr.r (In []) _)) hb_1) (Nat.le_trans (Fr.size (Fr.no' (Fr.r (In []) _) hf_1)) hb_2) (Fr.no' (Fr.no' (Fr.r (In []) _) hf_1) hf_2) hL_2
  refine H.mono fun rv_1 h_3 H => ?_
  obtain ⟨t24_1, rfl, hL_3, H⟩ := H
  refine uop_loc siz34 hL_3 0 rfl 0 [(Sl.v t24_1)] rfl rfl rfl (Nat.le_of_ble_eq_true rfl) (L' := [(b_2, [(Sl.v t24_1)]), (b_1, [(Sl.v g0_1)])]) rfl (fun h_4 hf_3 hL_4 => ?_)
  refine pop_field 0 fld32_0 b_1 0 ?_
  refine rop_loc one22 hL_4 1 rfl 0 (v := (Sl.v g0_1)) rfl ?_
  refine pop_len g0_1 _ _ sli22 ?_
  have H := H  h_4  (Fr.old (Fr.r (In []) _) hf_3) hL_4
  refine H.mono fun rv_2 h_5 H => ?_
  obtain ⟨t28_1, rfl, hL_5, H⟩ := H
  obtain ⟨hi_1, H⟩ := H
  refine pop_index sli93 siz4 .i64 t28_1 sink1_1 hi_1 ?_
  obtain ⟨hw_1, hL_6, H⟩ := H
  refine uop_cell (v := (VB true)) siz4 hw_1 rfl (fun h_6 he_1 => ?_)
  rw [← he_1] at hL_6
  have H := H h_6 he_1 hL_6
  refine pop_len order3_1 _ _ sli27 ?_
  obtain ⟨J_1, ⟨n_6, h0_3⟩, HB_3⟩ := H
  refine loop_intro (J := fun (n : Nat) (vs : List Value) (h' : Heap) => ∃ steps12_1 : Int, ∃ t34_1 : Int, ∃ x_1 : Sl, vs = [(VI steps12_1), (VI t34_1)] ∧ J_1 n steps12_1 t34_1 x_1 h' ∧ Vars h' [(b_2, [(Sl.v x_1)]), (b_1, [(Sl.v g0_1)])]) n_6 ⟨0, 0, t24_1, rfl, h0_3, hL_6⟩ ?_
  intro I_3 mu_3 hI_3 junk_1 tv_5 tv_6 h_7 hi_2
  obtain ⟨n_1, ⟨steps12_1, t34_1, x_1, hv, hJ_1, hL_7⟩, hn_1⟩ := hI_3 _ _ hi_2
  cases hv
  have H := HB_3 n_1 steps12_1 t34_1 x_1 h_7 hJ_1 hL_7
  refine pop_lss .i64 t34_1 (order3_1.n : Int) ?_
  refine condM_b (fun hb_3 => ?_) (fun hb_3 => ?_)
  · have H := H.1 hb_3
    obtain ⟨hi_3, H⟩ := H
    refine pop_index sli27 siz3 .i64 order3_1 t34_1 hi_3 ?_
    obtain ⟨t37_1, hc_4, H⟩ := H
    refine rop_one one3 (VI t37_1) hc_4 ?_
    obtain ⟨hi_4, H⟩ := H
    refine pop_index sli93 siz4 .i64 t28_1 t37_1 hi_4 ?_
    obtain ⟨t41_1, hc_3, H⟩ := H
    refine rop_one one4 (VB t41_1) hc_3 ?_
    refine condM_b (fun hb_4 => ?_) (fun hb_4 => ?_)
    · have H := H.1 hb_4
      refine pop_add .i64 t34_1 1 ?_
      obtain ⟨m_1, hm_1, H⟩ := H
      exact hn_1 _ _ ⟨m_1, hm_1, steps12_1, (w64 (t34_1 + 1)), x_1, rfl, H, hL_7⟩
    · have H := H.2 hb_4
      refine H.mono fun rv_3 h_8 H => ?_
      obtain ⟨t43_1, rfl, hL_8, H⟩ := H
      obtain ⟨J_2, ⟨n_5, h0_2⟩, HB_2⟩ := H
      refine loop_intro (J := fun (n : Nat) (vs : List Value) (h' : Heap) => ∃ steps12_2 : Int, ∃ way15_1 : Sl, ∃ p16_1 : Int, ∃ x_2 : Sl, vs = [(VI steps12_2), (Sl.v way15_1), (VI p16_1)] ∧ J_2 n steps12_2 way15_1 p16_1 x_2 h' ∧ Vars h' [(b_2, [(Sl.v x_2)]), (b_1, [(Sl.v g0_1)])]) n_5 ⟨steps12_1, t43_1, t37_1, x_1, rfl, h0_2, hL_8⟩ ?_
      intro I_2 mu_2 hI_2 junk_2 tv_2 tv_3 tv_4 h_9 hi_5
      obtain ⟨n_2, ⟨steps12_2, way15_1, p16_1, x_2, hv, hJ_2, hL_9⟩, hn_2⟩ := hI_2 _ _ hi_5
      cases hv
      have H := HB_2 n_2 steps12_2 way15_1 p16_1 x_2 h_9 hJ_2 hL_9
      obtain ⟨hi_6, H⟩ := H
      refine pop_index sli93 siz4 .i64 t28_1 p16_1 hi_6 ?_
      obtain ⟨t48_1, hc_2, H⟩ := H
      refine rop_one one4 (VB t48_1) hc_2 ?_
      refine pop_not t48_1 ?_
      refine condM_b (fun hb_5 => ?_) (fun hb_5 => ?_)
      · have H := H.1 hb_5
        refine rop_locA agg32 hL_9 1 rfl 0 (vs := [(Sl.v g0_1)]) rfl rfl ?_
        refine rop_locA agg34 hL_9 0 rfl 0 (vs := [(Sl.v x_2)]) rfl rfl ?_
        refine H.mono fun rv_4 h_10 H => ?_
        obtain ⟨t53_1, rfl, hL_10, H⟩ := H
        refine pop_lss .i64 t53_1 0 ?_
        refine condM_b (fun hb_6 => ?_) (fun hb_6 => ?_)
        · have H := H.1 hb_6
          exact H
        · have H := H.2 hb_6
          refine pop_add .i64 steps12_2 1 ?_
          refine H.mono fun rv_5 h_11 H => ?_
          obtain ⟨t60_1, rfl, hL_11, H⟩ := H
          refine pop_geq .i64 t60_1 0 ?_
          refine condM_b (fun hb_7 => ?_) (fun hb_7 => ?_)
          · have H := H.1 hb_7
            refine rop_locA agg34 hL_11 0 rfl 0 (vs := [(Sl.v x_2)]) rfl rfl ?_
            refine H.mono fun rv_6 H => ?_
            obtain ⟨t66_1, rfl, H⟩ := H
            refine H.mono fun rv_7 h_12 H => ?_
            obtain ⟨t67_1, rfl, hL_12, H⟩ := H
            refine uop_loc siz34 hL_12 0 rfl 0 [(Sl.v t67_1)] rfl rfl rfl (Nat.le_of_ble_eq_true rfl) (L' := [(b_2, [(Sl.v t67_1)]), (b_1, [(Sl.v g0_1)])]) rfl (fun h_13 hf_4 hL_13 => ?_)
            refine pop_add .i64 t60_1 1 ?_
            refine H.mono fun rv_8 H => ?_
            obtain ⟨t71_1, rfl, H⟩ := H
            have H := H  h_13  (Fr.old (Fr.r (In []) _) hf_4) hL_13
            refine H.mono fun rv_9 h_14 H => ?_
            obtain ⟨t72_1, rfl, hL_14, H⟩ := H
            obtain ⟨m_2, hm_2, H⟩ := H
            exact hn_2 _ _ ⟨m_2, hm_2, (w64 (steps12_2 + 1)), t72_1, t53_1, t67_1, rfl, H, hL_14⟩
          · have H := H.2 hb_7
            refine H.mono fun rv_10 h_15 H => ?_
            obtain ⟨t75_1, rfl, hL_15, H⟩ := H
            refine H.mono fun rv_11 h_16 H => ?_
            obtain ⟨t76_1, rfl, hL_16, H⟩ := H
            obtain ⟨m_3, hm_3, H⟩ := H
            exact hn_2 _ _ ⟨m_3, hm_3, (w64 (steps12_2 + 1)), t76_1, t53_1, x_2, rfl, H, hL_16⟩
      · have H := H.2 hb_5
        refine pop_len way15_1 _ _ sli27 ?_
        obtain ⟨J_3, ⟨n_4, h0_1⟩, HB_1⟩ := H
        refine loop_intro (J := fun (n : Nat) (vs : List Value) (h' : Heap) => ∃ t80_1 : Int, vs = [(VI t80_1)] ∧ J_3 n t80_1 h' ∧ Vars h' [(b_2, [(Sl.v x_2)]), (b_1, [(Sl.v g0_1)])]) n_4 ⟨0, rfl, h0_1, hL_9⟩ ?_
        intro I_1 mu_1 hI_1 junk_3 tv_1 h_17 hi_7
        obtain ⟨n_3, ⟨t80_1, hv, hJ_3, hL_17⟩, hn_3⟩ := hI_1 _ _ hi_7
        cases hv
        have H := HB_1 n_3 t80_1 h_17 hJ_3 hL_17
        refine pop_lss .i64 t80_1 (way15_1.n : Int) ?_
        refine condM_b (fun hb_8 => ?_) (fun hb_8 => ?_)
        · have H := H.1 hb_8
          obtain ⟨hi_8, H⟩ := H
          refine pop_index sli27 siz3 .i64 way15_1 t80_1 hi_8 ?_
          obtain ⟨t83_1, hc_1, H⟩ := H
          refine rop_one one3 (VI t83_1) hc_1 ?_
          obtain ⟨hi_9, H⟩ := H
          refine pop_index sli93 siz4 .i64 t28_1 t83_1 hi_9 ?_
          obtain ⟨hw_2, hL_18, H⟩ := H
          refine uop_cell (v := (VB true)) siz4 hw_2 rfl (fun h_18 he_2 => ?_)
          rw [← he_2] at hL_18
          have H := H h_18 he_2 hL_18
          refine pop_add .i64 t80_1 1 ?_
          obtain ⟨m_4, hm_4, H⟩ := H
          exact hn_3 _ _ ⟨m_4, hm_4, (w64 (t80_1 + 1)), rfl, H, hL_18⟩
        · have H := H.2 hb_8
          refine pop_add .i64 t34_1 1 ?_
          obtain ⟨m_5, hm_5, H⟩ := H
          exact hn_1 _ _ ⟨m_5, hm_5, steps12_2, (w64 (t34_1 + 1)), x_2, rfl, H, hL_17⟩
  · have H := H.2 hb_3
    refine rop_locA agg32 hL_7 1 rfl 0 (vs := [(Sl.v g0_1)]) rfl rfl ?_
    refine rop_locA agg34 hL_7 0 rfl 0 (vs := [(Sl.v x_1)]) rfl rfl ?_
    refine H.mono fun rv_12 h_19 H => ?_
    obtain ⟨t93_1, t93_2, rfl, hL_19, H⟩ := H
    refine pop_ext (v := (Sl.v t93_1)) rfl ?_
    refine pop_ext (v := (VB t93_2)) rfl ?_
    exact H

/-! laws.toIntSS -/
def u55 (P : Program) (a0_1 : Sl) (h : Heap) (K : Value → Heap → Prop) : Prop :=
  eop P (Instr.makeSlice 22 (VI (a0_1.n : Int)) (VI (a0_1.n : Int))) h fun rv_1 h_1 => ∃ t7_1 : Sl, rv_1 = (Sl.v t7_1) ∧ Vars h_1 [] ∧
  ∃ J_1 : Nat → Int → Heap → Prop, (∃ n0 : Nat, J_1 n0 0 h_1) ∧
  ∀ (n_1 : Nat) (i4_1 : Int) (h_2 : Heap), J_1 n_1 i4_1 h_2 → Vars h_2 [] →
  ((decide (i4_1 < (a0_1.n : Int))) = true →
  InB a0_1 i4_1 ∧
  ∃ t19_1 : Sl, hcell h_2 (Sl.at a0_1 i4_1 1) = some (Sl.v t19_1) ∧
  callM P 12 #[(Sl.v t19_1)] h_2 fun rv_2 h_3 => ∃ t20_1 : Sl, rv_2 = (Sl.v t20_1) ∧ Vars h_3 [] ∧
  InB t7_1 i4_1 ∧
  Writable h_3 (Sl.at t7_1 i4_1 1) ∧ Vars (hset h_3 (Sl.at t7_1 i4_1 1) (Sl.v t20_1)) [] ∧
  ∀ h_4 : Heap, h_4 = hset h_3 (Sl.at t7_1 i4_1 1) (Sl.v t20_1) → Vars h_4 [] →
  ∃ m : Nat, m < n_1 ∧ J_1 m (w64 (i4_1 + 1)) h_4) ∧
  ((decide (i4_1 < (a0_1.n : Int))) = false →
  K (Sl.v t7_1) h_2)
theorem v55 (a0_1 : Sl) (h : Heap) (K : Value → Heap → Prop) (H : u55 Try.prog a0_1 h K) : callM Try.prog 55 #[(Sl.v a0_1)] h K := by
  refine c55 (Sl.v a0_1) h K ?_
  unfold u55 at H
  unfold t55
  have hL : Vars h [] := .nil
  refine pop_len a0_1 _ _ sli22 ?_
  refine H.mono fun rv_1 h_1 H => ?_
  obtain ⟨t7_1, rfl, hL_1, H⟩ := H
  obtain ⟨J_1, ⟨n_2, h0_1⟩, HB_1⟩ := H
  refine loop_intro (J := fun (n : Nat) (vs : List Value) (h' : Heap) => ∃ i4_1 : Int, vs = [(VI i4_1)] ∧ J_1 n i4_1 h' ∧ Vars h' []) n_2 ⟨0, rfl, h0_1, hL_1⟩ ?_
  intro I_1 mu_1 hI_1 junk_1 tv_1 h_2 hi_1
  obtain ⟨n_1, ⟨i4_1, hv, hJ_1, hL_2⟩, hn_1⟩ := hI_1 _ _ hi_1
  cases hv
  have H := HB_1 n_1 i4_1 h_2 hJ_1 hL_2
  refine pop_len a0_1 _ _ sli22 ?_
  refine pop_lss .i64 i4_1 (a0_1.n : Int) ?_
  refine condM_b (fun hb_1 => ?_) (fun hb_1 => ?_)
  · have H := H.1 hb_1
    obtain ⟨hi_2, H⟩ := H
    refine pop_index sli22 siz27 .i64 a0_1 i4_1 hi_2 ?_
    obtain ⟨t19_1, hc_1, H⟩ := H
    refine rop_one one27 (Sl.v t19_1) hc_1 ?_
    refine H.mono fun rv_2 h_3 H => ?_
    obtain ⟨t20_1, rfl, hL_3, H⟩ := H
    obtain ⟨hi_3, H⟩ := H
    refine pop_index sli22 siz27 .i64 t7_1 i4_1 hi_3 ?_
    obtain ⟨hw_1, hL_4, H⟩ := H
    refine uop_cell (v := (Sl.v t20_1)) siz27 hw_1 rfl (fun h_4 he_1 => ?_)
    rw [← he_1] at hL_4
    have H := H h_4 he_1 hL_4
    refine pop_add .i64 i4_1 1 ?_
    obtain ⟨m_1, hm_1, H⟩ := H
    exact hn_1 _ _ ⟨m_1, hm_1, (w64 (i4_1 + 1)), rfl, H, hL_4⟩
  · have H := H.2 hb_1
    exact H

/-! impl.isGraph -/
def u56 (P : Program) (g0_1 : Sl) (h : Heap) (K : Value → Heap → Prop) : Prop :=
  ∀ (b_1 : Nat) (b_2 : Nat) (h_3 : Heap), h.size ≤ b_1 → h.size ≤ b_2 → Fr (In []) h h_3 → Vars h_3 [(b_2, [(VI (g0_1.n : Int))]), (b_1, [(Sl.v g0_1)])] →
  callM P 102 #[(VI (g0_1.n : Int)), (VI 1), (VI 8)] h_3 fun rv_1 h_4 => ∃ t10_1 : Bool, rv_1 = (VB t10_1) ∧ Vars h_4 [(b_2, [(VI (g0_1.n : Int))]), (b_1, [(Sl.v g0_1)])] ∧
  ((!t10_1) = true →
  K (VB false) h_4) ∧
  ((!t10_1) = false →
  ∃ J_1 : Nat → Int → Int → Heap → Prop, (∃ n0 : Nat, J_1 n0 0 (g0_1.n : Int) h_4) ∧
  ∀ (n_1 : Nat) (t15_1 : Int) (x_1 : Int) (h_5 : Heap), J_1 n_1 t15_1 x_1 h_5 → Vars h_5 [(b_2, [(VI x_1)]), (b_1, [(Sl.v g0_1)])] →
  ((decide (t15_1 < (g0_1.n : Int))) = true →
  InB g0_1 t15_1 ∧
  ∃ t18_1 : Sl, hcell h_5 (Sl.at g0_1 t15_1 1) = some (Sl.v t18_1) ∧
  ((decide (5 < (t18_1.n : Int))) = true →
  K (VB false) h_5) ∧
  ((decide (5 < (t18_1.n : Int))) = false →
  callM P 103 #[(Sl.v t18_1), (Value.func (Fn.func 104) #[] #[(VP b_2 0)])] h_5 fun rv_2 h_6 => ∃ x_2 : Int, ∃ t25_1 : Bool, rv_2 = (VB t25_1) ∧ Vars h_6 [(b_2, [(VI x_2)]), (b_1, [(Sl.v g0_1)])] ∧
  (t25_1 = true →
  K (VB false) h_6) ∧
  (t25_1 = false →
  ∃ m : Nat, m < n_1 ∧ J_1 m (w64 (t15_1 + 1)) x_2 h_6))) ∧
  ((decide (t15_1 < (g0_1.n : Int))) = false →
  K (VB true) h_5))
theorem v56 (g0_1 : Sl) (h : Heap) (K : Value → Heap → Prop) (H : u56 Try.prog g0_1 h K) : callM Try.prog 56 #[(Value.agg #[(Sl.v g0_1)])] h K := by
  refine c56 (Value.agg #[(Sl.v g0_1)]) h K ?_
  unfold u56 at H
  unfold t56
  have hL : Vars h [] := .nil
  refine eop_box 32 (Value.agg #[(Sl.v g0_1)]) rfl hL (fun b_1 h_1 hb_1 hf_1 hL_1 => ?_)
  refine pop_field 0 fld32_0 b_1 0 ?_
  refine rop_loc one22 hL_1 0 rfl 0 (v := (Sl.v g0_1)) rfl ?_
  refine pop_len g0_1 _ _ sli22 ?_
  refine eop_alloc 3 zer3 rfl hL_1 (fun b_2 h_2 hb_2 hf_2 hL_2 => ?_)
  refine uop_loc siz3 hL_2 0 rfl 0 [(VI (g0_1.n : Int))] rfl rfl rfl (Nat.le_of_ble_eq_true rfl) (L' := [(b_2, [(VI (g0_1.n : Int))]), (b_1, [(Sl.v g0_1)])]) rfl (fun h_3 hf_3 hL_3 => ?_)
  refine rop_loc one3 hL_3 0 rfl 0 (v := (VI (g0_1.n : Int))) rfl ?_
  have H := H b_1 b_2 h_3 (Nat.le_trans (Fr.size (Fr.r (In []) _)) hb_1) (Nat.le_trans (Fr.size (Fr.no' (Fr.r (In []) _) hf_1)) hb_2) (Fr.new (Fr.no' (Fr.no' (Fr.r (In []) _) hf_1) hf_2) (Nat.le_trans (Fr.size (Fr.no' (Fr.r (In []) _) hf_1)) hb_2) hf_3) hL_3
  refine H.mono fun rv_1 h_4 H => ?_
  obtain ⟨t10_1, rfl, hL_4, H⟩ := H
  refine pop_not t10_1 ?_
  refine condM_b (fun hb_3 => ?_) (fun hb_3 => ?_)
  · have H := H.1 hb_3
    exact H
  · have H := H.2 hb_3
    refine pop_field 0 fld32_0 b_1 0 ?_
    refine rop_loc one22 hL_4 1 rfl 0 (v := (Sl.v g0_1)) rfl ?_
    refine pop_len g0_1 _ _ sli22 ?_
    obtain ⟨J_1, ⟨n_2, h0_1⟩, HB_1⟩ := H
    refine loop_intro (J := fun (n : Nat) (vs : List Value) (h' : Heap) => ∃ t15_1 : Int, ∃ x_1 : Int, vs = [(VI t15_1)] ∧ J_1 n t15_1 x_1 h' ∧ Vars h' [(b_2, [(VI x_1)]), (b_1, [(Sl.v g0_1)])]) n_2 ⟨0, (g0_1.n : Int), rfl, h0_1, hL_4⟩ ?_
    intro I_1 mu_1 hI_1 junk_1 tv_1 h_5 hi_1
    obtain ⟨n_1, ⟨t15_1, x_1, hv, hJ_1, hL_5⟩, hn_1⟩ := hI_1 _ _ hi_1
    cases hv
    have H := HB_1 n_1 t15_1 x_1 h_5 hJ_1 hL_5
    refine pop_lss .i64 t15_1 (g0_1.n : Int) ?_
    refine condM_b (fun hb_4 => ?_) (fun hb_4 => ?_)
    · have H := H.1 hb_4
      obtain ⟨hi_2, H⟩ := H
      refine pop_index sli22 siz27 .i64 g0_1 t15_1 hi_2 ?_
      obtain ⟨t18_1, hc_1, H⟩ := H
      refine rop_one one27 (Sl.v t18_1) hc_1 ?_
      refine pop_len t18_1 _ _ sli27 ?_
      refine pop_gtr .i64 (t18_1.n : Int) 5 ?_
      refine guardM_sf (fun hb_5 => ?_) (fun hb_5 => ?_)
      · have H := H.2 hb_5
        refine guardM_y' hb_5 ?_
        refine pop_func _ _ _ ?_
        refine guardM_y' hb_5 ?_
        refine H.mono fun rv_2 h_6 H => ?_
        obtain ⟨x_2, t25_1, rfl, hL_6, H⟩ := H
        refine pop_pickf' hb_5 ?_
        refine condM_b (fun hb_6 => ?_) (fun hb_6 => ?_)
        · have H := H.1 hb_6
          exact H
        · have H := H.2 hb_6
          refine pop_add .i64 t15_1 1 ?_
          obtain ⟨m_1, hm_1, H⟩ := H
          exact hn_1 _ _ ⟨m_1, hm_1, (w64 (t15_1 + 1)), x_2, rfl, H, hL_6⟩
      · have H := H.1 hb_5
        refine guardM_n' hb_5 (by decide) ?_
        refine guardM_n' hb_5 (by decide) ?_
        refine pop_pickt' hb_5 ?_
        refine condM_t ?_
        exact H
    · have H := H.2 hb_4
      exact H

/-! impl.areNames -/
def u57 (P : Program) (g0_1 : Sl) (names1_1 : Sl) (h : Heap) (K : Value → Heap → Prop) : Prop :=
  ((!decide ((names1_1.n : Int) = (g0_1.n : Int))) = true →
  ∀ (b_1 : Nat) (h_1 : Heap), h.size ≤ b_1 → Fr (In []) h h_1 → Vars h_1 [(b_1, [(Sl.v g0_1)])] →
  K (VB false) h_1) ∧
  ((!decide ((names1_1.n : Int) = (g0_1.n : Int))) = false →
  ∀ (b_1 : Nat) (h_1 : Heap), h.size ≤ b_1 → Fr (In []) h h_1 → Vars h_1 [(b_1, [(Sl.v g0_1)])] →
  callM P 106 #[(Sl.v names1_1)] h_1 fun rv_1 h_2 => ∃ t14_1 : Value, rv_1 = t14_1 ∧ Vars h_2 [(b_1, [(Sl.v g0_1)])] ∧
  callM P 105 #[t14_1] h_2 fun rv_2 h_3 => ∃ t15_1 : Sl, rv_2 = (Sl.v t15_1) ∧ Vars h_3 [(b_1, [(Sl.v g0_1)])] ∧
  ∃ J_1 : Nat → Int → Heap → Prop, (∃ n0 : Nat, J_1 n0 0 h_3) ∧
  ∀ (n_1 : Nat) (t17_1 : Int) (h_4 : Heap), J_1 n_1 t17_1 h_4 → Vars h_4 [(b_1, [(Sl.v g0_1)])] →
  ((decide (t17_1 < (t15_1.n : Int))) = true →
  InB t15_1 t17_1 ∧
  ∃ t21_1 : Int, hcell h_4 (Sl.at t15_1 t17_1 1) = some (VI t21_1) ∧
  ((!decide (t17_1 = t21_1)) = true →
  K (VB false) h_4) ∧
  ((!decide (t17_1 = t21_1)) = false →
  ∃ m : Nat, m < n_1 ∧ J_1 m (w64 (t17_1 + 1)) h_4)) ∧
  ((decide (t17_1 < (t15_1.n : Int))) = false →
  K (VB true) h_4))
theorem v57 (g0_1 : Sl) (names1_1 : Sl) (h : Heap) (K : Value → Heap → Prop) (H : u57 Try.prog g0_1 names1_1 h K) : callM Try.prog 57 #[(Value.agg #[(Sl.v g0_1)]), (Sl.v names1_1)] h K := by
  refine c57 (Value.agg #[(Sl.v g0_1)]) (Sl.v names1_1) h K ?_
  unfold u57 at H
  unfold t57
  have hL : Vars h [] := .nil
  refine eop_box 32 (Value.agg #[(Sl.v g0_1)]) rfl hL (fun b_1 h_1 hb_1 hf_1 hL_1 => ?_)
  refine pop_len names1_1 _ _ sli27 ?_
  refine pop_field 0 fld32_0 b_1 0 ?_
  refine rop_loc one22 hL_1 0 rfl 0 (v := (Sl.v g0_1)) rfl ?_
  refine pop_len g0_1 _ _ sli22 ?_
  refine pop_ine .i64 _ _ (names1_1.n : Int) (g0_1.n : Int) ?_
  refine condM_b (fun hb_2 => ?_) (fun hb_2 => ?_)
  · have H := H.1 hb_2
    have H := H b_1 h_1 (Nat.le_trans (Fr.size (Fr.r (In []) _)) hb_1) (Fr.no' (Fr.r (In []) _) hf_1) hL_1
    exact H
  · have H := H.2 hb_2
    have H := H b_1 h_1 (Nat.le_trans (Fr.size (Fr.r (In []) _)) hb_1) (Fr.no' (Fr.r (In []) _) hf_1) hL_1
    refine H.mono fun rv_1 h_2 H => ?_
    obtain ⟨t14_1, rfl, hL_2, H⟩ := H
    refine H.mono fun rv_2 h_3 H => ?_
    obtain ⟨t15_1, rfl, hL_3, H⟩ := H
    refine pop_len t15_1 _ _ sli27 ?_
    obtain ⟨J_1, ⟨n_2, h0_1⟩, HB_1⟩ := H
    refine loop_intro (J := fun (n : Nat) (vs : List Value) (h' : Heap) => ∃ t17_1 : Int, vs = [(VI t17_1)] ∧ J_1 n t17_1 h' ∧ Vars h' [(b_1, [(Sl.v g0_1)])]) n_2 ⟨0, rfl, h0_1, hL_3⟩ ?_
    intro I_1 mu_1 hI_1 junk_1 tv_1 h_4 hi_1
    obtain ⟨n_1, ⟨t17_1, hv, hJ_1, hL_4⟩, hn_1⟩ := hI_1 _ _ hi_1
    cases hv
    have H := HB_1 n_1 t17_1 h_4 hJ_1 hL_4
    refine pop_lss .i64 t17_1 (t15_1.n : Int) ?_
    refine condM_b (fun hb_3 => ?_) (fun hb_3 => ?_)
    · have H := H.1 hb_3
      obtain ⟨hi_2, H⟩ := H
      refine pop_index sli27 siz3 .i64 t15_1 t17_1 hi_2 ?_
      obtain ⟨t21_1, hc_1, H⟩ := H
      refine rop_one one3 (VI t21_1) hc_1 ?_
      refine pop_ine .i64 _ _ t17_1 t21_1 ?_
      refine condM_b (fun hb_4 => ?_) (fun hb_4 => ?_)
      · have H := H.1 hb_4
        exact H
      · have H := H.2 hb_4
        refine pop_add .i64 t17_1 1 ?_
        obtain ⟨m_1, hm_1, H⟩ := H
        exact hn_1 _ _ ⟨m_1, hm_1, (w64 (t17_1 + 1)), rfl, H, hL_4⟩
    · have H := H.2 hb_3
      exact H

/-! laws.eqIntSS -/
def u59 (P : Program) (a0_1 : Sl) (b1_1 : Sl) (h : Heap) (K : Value → Heap → Prop) : Prop :=
  ((!decide ((a0_1.n : Int) = (b1_1.n : Int))) = true →
  K (VB false) h) ∧
  ((!decide ((a0_1.n : Int) = (b1_1.n : Int))) = false →
  ∃ J_1 : Nat → Int → Heap → Prop, (∃ n0 : Nat, J_1 n0 0 h) ∧
  ∀ (n_1 : Nat) (i5_1 : Int) (h_1 : Heap), J_1 n_1 i5_1 h_1 → Vars h_1 [] →
  ((decide (i5_1 < (a0_1.n : Int))) = true →
  InB a0_1 i5_1 ∧
  ∃ t20_1 : Sl, hcell h_1 (Sl.at a0_1 i5_1 1) = some (Sl.v t20_1) ∧
  InB b1_1 i5_1 ∧
  ∃ t24_1 : Sl, hcell h_1 (Sl.at b1_1 i5_1 1) = some (Sl.v t24_1) ∧
  callM P 14 #[(Sl.v t20_1), (Sl.v t24_1)] h_1 fun rv_1 h_2 => ∃ t25_1 : Bool, rv_1 = (VB t25_1) ∧ Vars h_2 [] ∧
  ((!t25_1) = true →
  K (VB false) h_2) ∧
  ((!t25_1) = false →
  ∃ m : Nat, m < n_1 ∧ J_1 m (w64 (i5_1 + 1)) h_2)) ∧
  ((decide (i5_1 < (a0_1.n : Int))) = false →
  K (VB true) h_1))
theorem v59 (a0_1 : Sl) (b1_1 : Sl) (h : Heap) (K : Value → Heap → Prop) (H : u59 Try.prog a0_1 b1_1 h K) : callM Try.prog 59 #[(Sl.v a0_1), (Sl.v b1_1)] h K := by
  refine c59 (Sl.v a0_1) (Sl.v b1_1) h K ?_
  unfold u59 at H
  unfold t59
  have hL : Vars h [] := .nil
  refine pop_len a0_1 _ _ sli22 ?_
  refine pop_len b1_1 _ _ sli22 ?_
  refine pop_ine .i64 _ _ (a0_1.n : Int) (b1_1.n : Int) ?_
  refine condM_b (fun hb_1 => ?_) (fun hb_1 => ?_)
  · have H := H.1 hb_1
    exact H
  · have H := H.2 hb_1
    obtain ⟨J_1, ⟨n_2, h0_1⟩, HB_1⟩ := H
    refine loop_intro (J := fun (n : Nat) (vs : List Value) (h' : Heap) => ∃ i5_1 : Int, vs = [(VI i5_1)] ∧ J_1 n i5_1 h' ∧ Vars h' []) n_2 ⟨0, rfl, h0_1, hL⟩ ?_
    intro I_1 mu_1 hI_1 junk_1 tv_1 h_1 hi_1
    obtain ⟨n_1, ⟨i5_1, hv, hJ_1, hL_1⟩, hn_1⟩ := hI_1 _ _ hi_1
    cases hv
    have H := HB_1 n_1 i5_1 h_1 hJ_1 hL_1
    refine pop_len a0_1 _ _ sli22 ?_
    refine pop_lss .i64 i5_1 (a0_1.n : Int) ?_
    refine condM_b (fun hb_2 => ?_) (fun hb_2 => ?_)
    · have H := H.1 hb_2
      obtain ⟨hi_2, H⟩ := H
      refine pop_index sli22 siz27 .i64 a0_1 i5_1 hi_2 ?_
      obtain ⟨t20_1, hc_2, H⟩ := H
      refine rop_one one27 (Sl.v t20_1) hc_2 ?_
      obtain ⟨hi_3, H⟩ := H
      refine pop_index sli22 siz27 .i64 b1_1 i5_1 hi_3 ?_
      obtain ⟨t24_1, hc_1, H⟩ := H
      refine rop_one one27 (Sl.v t24_1) hc_1 ?_
      refine H.mono fun rv_1 h_2 H => ?_
      obtain ⟨t25_1, rfl, hL_2, H⟩ := H
      refine pop_not t25_1 ?_
      refine condM_b (fun hb_3 => ?_) (fun hb_3 => ?_)
      · have H := H.1 hb_3
        exact H
      · have H := H.2 hb_3
        refine pop_add .i64 i5_1 1 ?_
        obtain ⟨m_1, hm_1, H⟩ := H
        exact hn_1 _ _ ⟨m_1, hm_1, (w64 (i5_1 + 1)), rfl, H, hL_2⟩
    · have H := H.2 hb_2
      exact H

/-! impl.PopsOf -/
def u61 (P : Program) (g0_1 : Sl) (sink1_1 : Int) (s2_1 : Sl) (h : Heap) (K : Value → Heap → Prop) : Prop :=
  ∀ (b_1 : Nat) (b_2 : Nat) (h_2 : Heap), h.size ≤ b_1 → h.size ≤ b_2 → Fr (In []) h h_2 → Vars h_2 [(b_2, [(Sl.v s2_1)]), (b_1, [(Sl.v g0_1)])] →
  callM P 107 #[(Value.agg #[(Sl.v g0_1)]), (VI sink1_1), (Value.agg #[(Sl.v s2_1)]), (Sl.v nilSl)] h_2 fun rv_1 h_3 => ∃ t18_1 : Sl, ∃ t18_2 : Int, ∃ t18_3 : Bool, rv_1 = (Value.tuple #[(Value.agg #[(Sl.v t18_1)]), (VI t18_2), (VB t18_3)]) ∧ Vars h_3 [(b_2, [(Sl.v s2_1)]), (b_1, [(Sl.v g0_1)])] ∧
  ((!t18_3) = true →
  ∀ (b_3 : Nat) (h_5 : Heap), h_3.size ≤ b_3 → Fr (In []) h_3 h_5 → Vars h_5 [(b_3, [(Sl.v t18_1)]), (b_2, [(Sl.v s2_1)]), (b_1, [(Sl.v g0_1)])] →
  K (Value.tuple #[(Sl.v nilSl), (VB false)]) h_5) ∧
  ((!t18_3) = false →
  ∀ (b_3 : Nat) (h_5 : Heap), h_3.size ≤ b_3 → Fr (In []) h_3 h_5 → Vars h_5 [(b_3, [(Sl.v t18_1)]), (b_2, [(Sl.v s2_1)]), (b_1, [(Sl.v g0_1)])] →
  eop P (Instr.buildSlice 27 0 #[]) h_5 fun rv_2 h_6 => ∃ t24_1 : Sl, rv_2 = (Sl.v t24_1) ∧ Vars h_6 [(b_3, [(Sl.v t18_1)]), (b_2, [(Sl.v s2_1)]), (b_1, [(Sl.v g0_1)])] ∧
  ∃ J_1 : Nat → Sl → Int → Heap → Prop, (∃ n0 : Nat, J_1 n0 t24_1 0 h_6) ∧
  ∀ (n_1 : Nat) (out11_1 : Sl) (t28_1 : Int) (h_7 : Heap), J_1 n_1 out11_1 t28_1 h_7 → Vars h_7 [(b_3, [(Sl.v t18_1)]), (b_2, [(Sl.v s2_1)]), (b_1, [(Sl.v g0_1)])] →
  ((decide (t28_1 < (s2_1.n : Int))) = true →
  InB s2_1 t28_1 ∧
  ∃ t32_1 : Sl, hcell h_7 (Sl.at s2_1 t28_1 1) = some (Sl.v t32_1) ∧
  InB t18_1 t28_1 ∧
  ∃ t40_1 : Sl, hcell h_7 (Sl.at t18_1 t28_1 1) = some (Sl.v t40_1) ∧
  eop P (Instr.buildSlice 27 1 #[(0, (VI (w64 ((t32_1.n : Int) - (t40_1.n : Int)))))]) h_7 fun rv_3 h_8 => ∃ t43_1 : Sl, rv_3 = (Sl.v t43_1) ∧ Vars h_8 [(b_3, [(Sl.v t18_1)]), (b_2, [(Sl.v s2_1)]), (b_1, [(Sl.v g0_1)])] ∧
  eop P (appS 27 27 27 (Sl.v out11_1) (Sl.v t43_1)) h_8 fun rv_4 h_9 => ∃ t44_1 : Sl, rv_4 = (Sl.v t44_1) ∧ Vars h_9 [(b_3, [(Sl.v t18_1)]), (b_2, [(Sl.v s2_1)]), (b_1, [(Sl.v g0_1)])] ∧
  ∃ m : Nat, m < n_1 ∧ J_1 m t44_1 (w64 (t28_1 + 1)) h_9) ∧
  ((decide (t28_1 < (s2_1.n : Int))) = false →
  K (Value.tuple #[(Sl.v out11_1), (VB true)]) h_7))
theorem v61 (g0_1 : Sl) (sink1_1 : Int) (s2_1 : Sl) (h : Heap) (K : Value → Heap → Prop) (H : u61 Try.prog g0_1 sink1_1 s2_1 h K) : callM Try.prog 61 #[(Value.agg #[(Sl.v g0_1)]), (VI sink1_1), (Value.agg #[(Sl.v s2_1)])] h K := by
  refine c61 (Value.agg #[(Sl.v g0_1)]) (VI sink1_1) (Value.agg #[(Sl.v s2_1)]) h K ?_
  unfold u61 at H
  unfold t61
  have hL : Vars h [] := .nil
  refine eop_box 32 (Value.agg #[(Sl.v g0_1)]) rfl hL (fun b_1 h_1 hb_1 hf_1 hL_1 => ?_)
  refine eop_box 34 (Value.agg #[(Sl.v s2_1)]) rfl hL_1 (fun b_2 h_2 hb_2 hf_2 hL_2 => ?_)
  refine rop_locA agg32 hL_2 1 rfl 0 (vs := [(Sl.v g0_1)]) rfl rfl ?_
  refine rop_locA agg34 hL_2 0 rfl 0 (vs := [(Sl.v s2_1)]) rfl rfl ?_
  have H := H b_1 b_2 h_2 (Nat.le_trans (Fr.size (Fr.r (In []) _)) hb_1) (Nat.le_trans (Fr.size (Fr.no' (Fr.r (In []) _) hf_1)) hb_2) (Fr.no' (Fr.no' (Fr.r (In []) _) hf_1) hf_2) hL_2
  refine H.mono fun rv_1 h_3 H => ?_
  obtain ⟨t18_1, t18_2, t18_3, rfl, hL_3, H⟩ := H
  refine pop_ext (v := (Value.agg #[(Sl.v t18_1)])) rfl ?_
  refine pop_ext (v := (VI t18_2)) rfl ?_
  refine pop_ext (v := (VB t18_3)) rfl ?_
  refine eop_alloc 34 zer34 rfl hL_3 (fun b_3 h_4 hb_3 hf_3 hL_4 => ?_)
  refine uop_loc siz34 hL_4 0 rfl 0 [(Sl.v t18_1)] rfl rfl rfl (Nat.le_of_ble_eq_true rfl) (L' := [(b_3, [(Sl.v t18_1)]), (b_2, [(Sl.v s2_1)]), (b_1, [(Sl.v g0_1)])]) rfl (fun h_5 hf_4 hL_5 => ?_)
  refine pop_not t18_3 ?_
  refine condM_b (fun hb_4 => ?_) (fun hb_4 => ?_)
  · have H := H.1 hb_4
    have H := H b_3 h_5 (Nat.le_trans (Fr.size (Fr.r (In []) _)) hb_3) (Fr.new (Fr.no' (Fr.r (In []) _) hf_3) (Nat.le_trans (Fr.size (Fr.r (In []) _)) hb_3) hf_4) hL_5
    exact H
  · have H := H.2 hb_4
    have H := H b_3 h_5 (Nat.le_trans (Fr.size (Fr.r (In []) _)) hb_3) (Fr.new (Fr.no' (Fr.r (In []) _) hf_3) (Nat.le_trans (Fr.size (Fr.r (In []) _)) hb_3) hf_4) hL_5
    refine H.mono fun rv_2 h_6 H => ?_
    obtain ⟨t24_1, rfl, hL_6, H⟩ := H
    refine pop_field 0 fld34_0 b_2 0 ?_
    refine rop_loc one22 hL_6 1 rfl 0 (v := (Sl.v s2_1)) rfl ?_
    refine pop_len s2_1 _ _ sli22 ?_
    obtain ⟨J_1, ⟨n_2, h0_1⟩, HB_1⟩ := H
    refine loop_intro (J := fun (n : Nat) (vs : List Value) (h' : Heap) => ∃ out11_1 : Sl, ∃ t28_1 : Int, vs = [(Sl.v out11_1), (VI t28_1)] ∧ J_1 n out11_1 t28_1 h' ∧ Vars h' [(b_3, [(Sl.v t18_1)]), (b_2, [(Sl.v s2_1)]), (b_1, [(Sl.v g0_1)])]) n_2 ⟨t24_1, 0, rfl, h0_1, hL_6⟩ ?_
    intro I_1 mu_1 hI_1 junk_1 tv_1 tv_2 h_7 hi_1
    obtain ⟨n_1, ⟨out11_1, t28_1, hv, hJ_1, hL_7⟩, hn_1⟩ := hI_1 _ _ hi_1
    cases hv
    have H := HB_1 n_1 out11_1 t28_1 h_7 hJ_1 hL_7
    refine pop_lss .i64 t28_1 (s2_1.n : Int) ?_
    refine condM_b (fun hb_5 => ?_) (fun hb_5 => ?_)
    · have H := H.1 hb_5
      obtain ⟨hi_2, H⟩ := H
      refine pop_index sli22 siz27 .i64 s2_1 t28_1 hi_2 ?_
      obtain ⟨t32_1, hc_2, H⟩ := H
      refine rop_one one27 (Sl.v t32_1) hc_2 ?_
      refine pop_len t32_1 _ _ sli27 ?_
      refine pop_field 0 fld34_0 b_3 0 ?_
      refine rop_loc one22 hL_7 0 rfl 0 (v := (Sl.v t18_1)) rfl ?_
      obtain ⟨hi_3, H⟩ := H
      refine pop_index sli22 siz27 .i64 t18_1 t28_1 hi_3 ?_
      obtain ⟨t40_1, hc_1, H⟩ := H
      refine rop_one one27 (Sl.v t40_1) hc_1 ?_
      refine pop_len t40_1 _ _ sli27 ?_
      refine pop_sub .i64 (t32_1.n : Int) (t40_1.n : Int) ?_
      refine H.mono fun rv_3 h_8 H => ?_
      obtain ⟨t43_1, rfl, hL_8, H⟩ := H
      refine H.mono fun rv_4 h_9 H => ?_
      obtain ⟨t44_1, rfl, hL_9, H⟩ := H
      refine pop_add .i64 t28_1 1 ?_
      obtain ⟨m_1, hm_1, H⟩ := H
      exact hn_1 _ _ ⟨m_1, hm_1, t44_1, (w64 (t28_1 + 1)), rfl, H, hL_9⟩
    · have H := H.2 hb_5
      exact H

/-! impl.sum -/
def u62 (P : Program) (list0_1 : Sl) (h : Heap) (K : Value → Heap → Prop) : Prop :=
  ∃ J_1 : Nat → Int → Int → Heap → Prop, (∃ n0 : Nat, J_1 n0 0 0 h) ∧
  ∀ (n_1 : Nat) (out3_1 : Int) (t8_1 : Int) (h_1 : Heap), J_1 n_1 out3_1 t8_1 h_1 → Vars h_1 [] →
  ((decide (t8_1 < (list0_1.n : Int))) = true →
  InB list0_1 t8_1 ∧
  ∃ t11_1 : Int, hcell h_1 (Sl.at list0_1 t8_1 1) = some (VI t11_1) ∧
  ∃ m : Nat, m < n_1 ∧ J_1 m (w64 (out3_1 + t11_1)) (w64 (t8_1 + 1)) h_1) ∧
  ((decide (t8_1 < (list0_1.n : Int))) = false →
  K (VI out3_1) h_1)
theorem v62 (list0_1 : Sl) (h : Heap) (K : Value → Heap → Prop) (H : u62 Try.prog list0_1 h K) : callM Try.prog 62 #[(Sl.v list0_1)] h K := by
  refine c62 (Sl.v list0_1) h K ?_
  unfold u62 at H
  unfold t62
  have hL : Vars h [] := .nil
  refine pop_len list0_1 _ _ sli27 ?_
  obtain ⟨J_1, ⟨n_2, h0_1⟩, HB_1⟩ := H
  refine loop_intro (J := fun (n : Nat) (vs : List Value) (h' : Heap) => ∃ out3_1 : Int, ∃ t8_1 : Int, vs = [(VI out3_1), (VI t8_1)] ∧ J_1 n out3_1 t8_1 h' ∧ Vars h' []) n_2 ⟨0, 0, rfl, h0_1, hL⟩ ?_
  intro I_1 mu_1 hI_1 junk_1 tv_1 tv_2 h_1 hi_1
  obtain ⟨n_1, ⟨out3_1, t8_1, hv, hJ_1, hL_1⟩, hn_1⟩ := hI_1 _ _ hi_1
  cases hv
  have H := HB_1 n_1 out3_1 t8_1 h_1 hJ_1 hL_1
  refine pop_lss .i64 t8_1 (list0_1.n : Int) ?_
  refine condM_b (fun hb_1 => ?_) (fun hb_1 => ?_)
  · have H := H.1 hb_1
    obtain ⟨hi_2, H⟩ := H
    refine pop_index sli27 siz3 .i64 list0_1 t8_1 hi_2 ?_
    obtain ⟨t11_1, hc_1, H⟩ := H
    refine rop_one one3 (VI t11_1) hc_1 ?_
    refine pop_add .i64 out3_1 t11_1 ?_
    refine pop_add .i64 t8_1 1 ?_
    obtain ⟨m_1, hm_1, H⟩ := H
    exact hn_1 _ _ ⟨m_1, hm_1, (w64 (out3_1 + t11_1)), (w64 (t8_1 + 1)), rfl, H, hL_1⟩
  · have H := H.2 hb_1
    exact H

/-! impl.has -/
def u65 (P : Program) (g0_1 : Sl) (places1_1 : Sl) (h : Heap) (K : Value → Heap → Prop) : Prop :=
  ∀ (b_1 : Nat) (h_1 : Heap), h.size ≤ b_1 → Fr (In []) h h_1 → Vars h_1 [(b_1, [(Sl.v g0_1)])] →
  callM P 56 #[(Value.agg #[(Sl.v g0_1)])] h_1 fun rv_1 h_2 => ∃ t6_1 : Bool, rv_1 = (VB t6_1) ∧ Vars h_2 [(b_1, [(Sl.v g0_1)])] ∧
  (t6_1 = true →
  callM P 103 #[(Sl.v places1_1), (Value.func (Fn.func 111) #[] #[(VP b_1 0)])] h_2 fun rv_2 h_3 => ∃ x_1 : Sl, ∃ t10_1 : Bool, rv_2 = (VB t10_1) ∧ Vars h_3 [(b_1, [(Sl.v x_1)])] ∧
  K (VB (!t10_1)) h_3) ∧
  (t6_1 = false →
  K (VB false) h_2)
theorem v65 (g0_1 : Sl) (places1_1 : Sl) (h : Heap) (K : Value → Heap → Prop) (H : u65 Try.prog g0_1 places1_1 h K) : callM Try.prog 65 #[(Value.agg #[(Sl.v g0_1)]), (Sl.v places1_1)] h K := by
  refine c65 (Value.agg #[(Sl.v g0_1)]) (Sl.v places1_1) h K ?_
  unfold u65 at H
  unfold t65
  have hL : Vars h [] := .nil
  refine eop_box 32 (Value.agg #[(Sl.v g0_1)]) rfl hL (fun b_1 h_1 hb_1 hf_1 hL_1 => ?_)
  refine rop_locA agg32 hL_1 0 rfl 0 (vs := [(Sl.v g0_1)]) rfl rfl ?_
  have H := H b_1 h_1 (Nat.le_trans (Fr.size (Fr.r (In []) _)) hb_1) (Fr.no' (Fr.r (In []) _) hf_1) hL_1
  refine H.mono fun rv_1 h_2 H => ?_
  obtain ⟨t6_1, rfl, hL_2, H⟩ := H
  refine guardM_st (fun hb_2 => ?_) (fun hb_2 => ?_)
  · have H := H.1 hb_2
    refine guardM_y' hb_2 ?_
    refine pop_func _ _ _ ?_
    refine guardM_y' hb_2 ?_
    refine H.mono fun rv_2 h_3 H => ?_
    obtain ⟨x_1, t10_1, rfl, hL_3, H⟩ := H
    refine guardM_y' hb_2 ?_
    refine pop_not t10_1 ?_
    refine pop_pickt' hb_2 ?_
    exact H
  · have H := H.2 hb_2
    refine guardM_n' hb_2 (by decide) ?_
    refine guardM_n' hb_2 (by decide) ?_
    refine guardM_n' hb_2 (by decide) ?_
    refine pop_pickf' hb_2 ?_
    exact H

/-! spec.grPlace -/
def u67 (P : Program) (g0_1 : Sl) (p1_1 : Int) (h : Heap) (K : Value → Heap → Prop) : Prop :=
  ∀ (b_1 : Nat) (h_1 : Heap), h.size ≤ b_1 → Fr (In []) h h_1 → Vars h_1 [(b_1, [(Sl.v g0_1)])] →
  callM P 73 #[(Value.agg #[(Sl.v g0_1)])] h_1 fun rv_1 h_2 => ∃ t6_1 : Bool, rv_1 = (VB t6_1) ∧ Vars h_2 [(b_1, [(Sl.v g0_1)])] ∧
  (t6_1 = true →
  callM P 113 #[(VI p1_1), (VI 0), (VI (w64 ((g0_1.n : Int) - 1)))] h_2 fun rv_2 h_3 => ∃ t13_1 : Bool, rv_2 = (VB t13_1) ∧ Vars h_3 [(b_1, [(Sl.v g0_1)])] ∧
  K (VB t13_1) h_3) ∧
  (t6_1 = false →
  K (VB false) h_2)
theorem v67 (g0_1 : Sl) (p1_1 : Int) (h : Heap) (K : Value → Heap → Prop) (H : u67 Try.prog g0_1 p1_1 h K) : callM Try.prog 67 #[(Value.agg #[(Sl.v g0_1)]), (VI p1_1)] h K := by
  refine c67 (Value.agg #[(Sl.v g0_1)]) (VI p1_1) h K ?_
  unfold u67 at H
  unfold t67
  have hL : Vars h [] := .nil
  refine eop_box 32 (Value.agg #[(Sl.v g0_1)]) rfl hL (fun b_1 h_1 hb_1 hf_1 hL_1 => ?_)
  refine rop_locA agg32 hL_1 0 rfl 0 (vs := [(Sl.v g0_1)]) rfl rfl ?_
  have H := H b_1 h_1 (Nat.le_trans (Fr.size (Fr.r (In []) _)) hb_1) (Fr.no' (Fr.r (In []) _) hf_1) hL_1
  refine H.mono fun rv_1 h_2 H => ?_
  obtain ⟨t6_1, rfl, hL_2, H⟩ := H
  refine guardM_st (fun hb_2 => ?_) (fun hb_2 => ?_)
  · have H := H.1 hb_2
    refine guardM_y' hb_2 ?_
    refine pop_field 0 fld32_0 b_1 0 ?_
    refine guardM_y' hb_2 ?_
    refine rop_loc one22 hL_2 0 rfl 0 (v := (Sl.v g0_1)) rfl ?_
    refine guardM_y' hb_2 ?_
    refine pop_len g0_1 _ _ sli22 ?_
    refine guardM_y' hb_2 ?_
    refine pop_sub .i64 (g0_1.n : Int) 1 ?_
    refine guardM_y' hb_2 ?_
    refine H.mono fun rv_2 h_3 H => ?_
    obtain ⟨t13_1, rfl, hL_3, H⟩ := H
    refine pop_pickt' hb_2 ?_
    exact H
  · have H := H.2 hb_2
    refine guardM_n' hb_2 (by decide) ?_
    refine guardM_n' hb_2 (by decide) ?_
    refine guardM_n' hb_2 (by decide) ?_
    refine guardM_n' hb_2 (by decide) ?_
    refine guardM_n' hb_2 (by decide) ?_
    refine pop_pickf' hb_2 ?_
    exact H

/-! spec.grGood -/
def u73 (P : Program) (g0_1 : Sl) (h : Heap) (K : Value → Heap → Prop) : Prop :=
  ∀ (b_1 : Nat) (h_1 : Heap), h.size ≤ b_1 → Fr (In []) h h_1 → Vars h_1 [(b_1, [(Sl.v g0_1)])] →
  callM P 113 #[(VI (g0_1.n : Int)), (VI 1), (VI 8)] h_1 fun rv_1 h_2 => ∃ t10_1 : Bool, rv_1 = (VB t10_1) ∧ Vars h_2 [(b_1, [(Sl.v g0_1)])] ∧
  ((!t10_1) = true →
  K (VB false) h_2) ∧
  ((!t10_1) = false →
  ∃ J_1 : Nat → Int → Heap → Prop, (∃ n0 : Nat, J_1 n0 0 h_2) ∧
  ∀ (n_1 : Nat) (t15_1 : Int) (h_3 : Heap), J_1 n_1 t15_1 h_3 → Vars h_3 [(b_1, [(Sl.v g0_1)])] →
  ((decide (t15_1 < (g0_1.n : Int))) = true →
  InB g0_1 t15_1 ∧
  ∃ t18_1 : Sl, hcell h_3 (Sl.at g0_1 t15_1 1) = some (Sl.v t18_1) ∧
  ((decide (5 < (t18_1.n : Int))) = true →
  K (VB false) h_3) ∧
  ((decide (5 < (t18_1.n : Int))) = false →
  callM P 96 #[(Sl.v t18_1), (VI 0), (VI (w64 ((g0_1.n : Int) - 1)))] h_3 fun rv_2 h_4 => ∃ t26_1 : Bool, rv_2 = (VB t26_1) ∧ Vars h_4 [(b_1, [(Sl.v g0_1)])] ∧
  ((!t26_1) = true →
  K (VB false) h_4) ∧
  ((!t26_1) = false →
  ∃ m : Nat, m < n_1 ∧ J_1 m (w64 (t15_1 + 1)) h_4))) ∧
  ((decide (t15_1 < (g0_1.n : Int))) = false →
  K (VB true) h_3))
theorem v73 (g0_1 : Sl) (h : Heap) (K : Value → Heap → Prop) (H : u73 Try.prog g0_1 h K) : callM Try.prog 73 #[(Value.agg #[(Sl.v g0_1)])] h K := by
  refine c73 (Value.agg #[(Sl.v g0_1)]) h K ?_
  unfold u73 at H
  unfold t73
  have hL : Vars h [] := .nil
  refine eop_box 32 (Value.agg #[(Sl.v g0_1)]) rfl hL (fun b_1 h_1 hb_1 hf_1 hL_1 => ?_)
  refine pop_field 0 fld32_0 b_1 0 ?_
  refine rop_loc one22 hL_1 0 rfl 0 (v := (Sl.v g0_1)) rfl ?_
  refine pop_len g0_1 _ _ sli22 ?_
  have H := H b_1 h_1 (Nat.le_trans (Fr.size (Fr.r (In []) _)) hb_1) (Fr.no' (Fr.r (In []) _) hf_1) hL_1
  refine H.mono fun rv_1 h_2 H => ?_
  obtain ⟨t10_1, rfl, hL_2, H⟩ := H
  refine pop_not t10_1 ?_
  refine condM_b (fun hb_2 => ?_) (fun hb_2 => ?_)
  · have H := H.1 hb_2
    exact H
  · have H := H.2 hb_2
    refine pop_field 0 fld32_0 b_1 0 ?_
    refine rop_loc one22 hL_2 0 rfl 0 (v := (Sl.v g0_1)) rfl ?_
    refine pop_len g0_1 _ _ sli22 ?_
    obtain ⟨J_1, ⟨n_2, h0_1⟩, HB_1⟩ := H
    refine loop_intro (J := fun (n : Nat) (vs : List Value) (h' : Heap) => ∃ t15_1 : Int, vs = [(VI t15_1)] ∧ J_1 n t15_1 h' ∧ Vars h' [(b_1, [(Sl.v g0_1)])]) n_2 ⟨0, rfl, h0_1, hL_2⟩ ?_
    intro I_1 mu_1 hI_1 junk_1 tv_1 h_3 hi_1
    obtain ⟨n_1, ⟨t15_1, hv, hJ_1, hL_3⟩, hn_1⟩ := hI_1 _ _ hi_1
    cases hv
    have H := HB_1 n_1 t15_1 h_3 hJ_1 hL_3
    refine pop_lss .i64 t15_1 (g0_1.n : Int) ?_
    refine condM_b (fun hb_3 => ?_) (fun hb_3 => ?_)
    · have H := H.1 hb_3
      obtain ⟨hi_2, H⟩ := H
      refine pop_index sli22 siz27 .i64 g0_1 t15_1 hi_2 ?_
      obtain ⟨t18_1, hc_1, H⟩ := H
      refine rop_one one27 (Sl.v t18_1) hc_1 ?_
      refine pop_len t18_1 _ _ sli27 ?_
      refine pop_gtr .i64 (t18_1.n : Int) 5 ?_
      refine guardM_sf (fun hb_4 => ?_) (fun hb_4 => ?_)
      · have H := H.2 hb_4
        refine guardM_y' hb_4 ?_
        refine guardM_y' hb_4 ?_
        refine pop_sub .i64 (g0_1.n : Int) 1 ?_
        refine guardM_y' hb_4 ?_
        refine H.mono fun rv_2 h_4 H => ?_
        obtain ⟨t26_1, rfl, hL_4, H⟩ := H
        refine guardM_y' hb_4 ?_
        refine pop_not t26_1 ?_
        refine pop_pickf' hb_4 ?_
        refine condM_b (fun hb_5 => ?_) (fun hb_5 => ?_)
        · have H := H.1 hb_5
          exact H
        · have H := H.2 hb_5
          refine pop_add .i64 t15_1 1 ?_
          obtain ⟨m_1, hm_1, H⟩ := H
          exact hn_1 _ _ ⟨m_1, hm_1, (w64 (t15_1 + 1)), rfl, H, hL_4⟩
      · have H := H.1 hb_4
        refine guardM_n' hb_4 (by decide) ?_
        refine guardM_n' hb_4 (by decide) ?_
        refine guardM_n' hb_4 (by decide) ?_
        refine guardM_n' hb_4 (by decide) ?_
        refine pop_pickt' hb_4 ?_
        refine condM_t ?_
        exact H
    · have H := H.2 hb_3
      exact H

/-! spec.l1Has -/
def u74 (P : Program) (l0_1 : Sl) (n1_1 : Int) (h : Heap) (K : Value → Heap → Prop) : Prop :=
  ∃ J_1 : Nat → Int → Heap → Prop, (∃ n0 : Nat, J_1 n0 0 h) ∧
  ∀ (n_1 : Nat) (t9_1 : Int) (h_1 : Heap), J_1 n_1 t9_1 h_1 → Vars h_1 [] →
  ((decide (t9_1 < (l0_1.n : Int))) = true →
  InB l0_1 t9_1 ∧
  ∃ t12_1 : Int, hcell h_1 (Sl.at l0_1 t9_1 1) = some (VI t12_1) ∧
  ((decide (t12_1 = n1_1)) = true →
  K (VB true) h_1) ∧
  ((decide (t12_1 = n1_1)) = false →
  ∃ m : Nat, m < n_1 ∧ J_1 m (w64 (t9_1 + 1)) h_1)) ∧
  ((decide (t9_1 < (l0_1.n : Int))) = false →
  K (VB false) h_1)
theorem v74 (l0_1 : Sl) (n1_1 : Int) (h : Heap) (K : Value → Heap → Prop) (H : u74 Try.prog l0_1 n1_1 h K) : callM Try.prog 74 #[(Sl.v l0_1), (VI n1_1)] h K := by
  refine c74 (Sl.v l0_1) (VI n1_1) h K ?_
  unfold u74 at H
  unfold t74
  have hL : Vars h [] := .nil
  refine pop_len l0_1 _ _ sli27 ?_
  obtain ⟨J_1, ⟨n_2, h0_1⟩, HB_1⟩ := H
  refine loop_intro (J := fun (n : Nat) (vs : List Value) (h' : Heap) => ∃ t9_1 : Int, vs = [(VI t9_1)] ∧ J_1 n t9_1 h' ∧ Vars h' []) n_2 ⟨0, rfl, h0_1, hL⟩ ?_
  intro I_1 mu_1 hI_1 junk_1 tv_1 h_1 hi_1
  obtain ⟨n_1, ⟨t9_1, hv, hJ_1, hL_1⟩, hn_1⟩ := hI_1 _ _ hi_1
  cases hv
  have H := HB_1 n_1 t9_1 h_1 hJ_1 hL_1
  refine pop_lss .i64 t9_1 (l0_1.n : Int) ?_
  refine condM_b (fun hb_1 => ?_) (fun hb_1 => ?_)
  · have H := H.1 hb_1
    obtain ⟨hi_2, H⟩ := H
    refine pop_index sli27 siz3 .i64 l0_1 t9_1 hi_2 ?_
    obtain ⟨t12_1, hc_1, H⟩ := H
    refine rop_one one3 (VI t12_1) hc_1 ?_
    refine pop_ieq .i64 _ _ t12_1 n1_1 ?_
    refine condM_b (fun hb_2 => ?_) (fun hb_2 => ?_)
    · have H := H.1 hb_2
      exact H
    · have H := H.2 hb_2
      refine pop_add .i64 t9_1 1 ?_
      obtain ⟨m_1, hm_1, H⟩ := H
      exact hn_1 _ _ ⟨m_1, hm_1, (w64 (t9_1 + 1)), rfl, H, hL_1⟩
  · have H := H.2 hb_1
    exact H

/-! spec.l1Own -/
def u87 (P : Program) (l0_1 : Sl) (h : Heap) (K : Value → Heap → Prop) : Prop :=
  eop P (Instr.buildSlice 27 0 #[]) h fun rv_1 h_1 => ∃ t3_1 : Sl, rv_1 = (Sl.v t3_1) ∧ Vars h_1 [] ∧
  eop P (appS 27 27 27 (Sl.v t3_1) (Sl.v l0_1)) h_1 fun rv_2 h_2 => ∃ t5_1 : Sl, rv_2 = (Sl.v t5_1) ∧ Vars h_2 [] ∧
  K (Sl.v t5_1) h_2
theorem v87 (l0_1 : Sl) (h : Heap) (K : Value → Heap → Prop) (H : u87 Try.prog l0_1 h K) : callM Try.prog 87 #[(Sl.v l0_1)] h K := by
  refine c87 (Sl.v l0_1) h K ?_
  unfold u87 at H
  unfold t87
  have hL : Vars h [] := .nil
  refine H.mono fun rv_1 h_1 H => ?_
  obtain ⟨t3_1, rfl, hL_1, H⟩ := H
  refine H.mono fun rv_2 h_2 H => ?_
  obtain ⟨t5_1, rfl, hL_2, H⟩ := H
  exact H

/-! laws.szIntS -/
def u95 (P : Program) (a0_1 : Sl) (left1_1 : Int) (h : Heap) (K : Value → Heap → Prop) : Prop :=
  ((decide ((w64 (left1_1 - (a0_1.n : Int))) < 0)) = true →
  K (VI (-1)) h) ∧
  ((decide ((w64 (left1_1 - (a0_1.n : Int))) < 0)) = false →
  K (VI (w64 (left1_1 - (a0_1.n : Int)))) h)
theorem v95 (a0_1 : Sl) (left1_1 : Int) (h : Heap) (K : Value → Heap → Prop) (H : u95 Try.prog a0_1 left1_1 h K) : callM Try.prog 95 #[(Sl.v a0_1), (VI left1_1)] h K := by
  refine c95 (Sl.v a0_1) (VI left1_1) h K ?_
  unfold u95 at H
  unfold t95
  have hL : Vars h [] := .nil
  refine pop_len a0_1 _ _ sli27 ?_
  refine pop_sub .i64 left1_1 (a0_1.n : Int) ?_
  refine pop_lss .i64 (w64 (left1_1 - (a0_1.n : Int))) 0 ?_
  refine condM_b (fun hb_1 => ?_) (fun hb_1 => ?_)
  · have H := H.1 hb_1
    exact H
  · have H := H.2 hb_1
    exact H

/-! spec.l1All -/
def u96 (P : Program) (l0_1 : Sl) (lo1_1 : Int) (hi2_1 : Int) (h : Heap) (K : Value → Heap → Prop) : Prop :=
  ∃ J_1 : Nat → Int → Heap → Prop, (∃ n0 : Nat, J_1 n0 0 h) ∧
  ∀ (n_1 : Nat) (t11_1 : Int) (h_1 : Heap), J_1 n_1 t11_1 h_1 → Vars h_1 [] →
  ((decide (t11_1 < (l0_1.n : Int))) = true →
  InB l0_1 t11_1 ∧
  ∃ t14_1 : Int, hcell h_1 (Sl.at l0_1 t11_1 1) = some (VI t14_1) ∧
  callM P 113 #[(VI t14_1), (VI lo1_1), (VI hi2_1)] h_1 fun rv_1 h_2 => ∃ t18_1 : Bool, rv_1 = (VB t18_1) ∧ Vars h_2 [] ∧
  ((!t18_1) = true →
  K (VB false) h_2) ∧
  ((!t18_1) = false →
  ∃ m : Nat, m < n_1 ∧ J_1 m (w64 (t11_1 + 1)) h_2)) ∧
  ((decide (t11_1 < (l0_1.n : Int))) = false →
  K (VB true) h_1)
theorem v96 (l0_1 : Sl) (lo1_1 : Int) (hi2_1 : Int) (h : Heap) (K : Value → Heap → Prop) (H : u96 Try.prog l0_1 lo1_1 hi2_1 h K) : callM Try.prog 96 #[(Sl.v l0_1), (VI lo1_1), (VI hi2_1)] h K := by
  refine c96 (Sl.v l0_1) (VI lo1_1) (VI hi2_1) h K ?_
  unfold u96 at H
  unfold t96
  have hL : Vars h [] := .nil
  refine pop_len l0_1 _ _ sli27 ?_
  obtain ⟨J_1, ⟨n_2, h0_1⟩, HB_1⟩ := H
  refine loop_intro (J := fun (n : Nat) (vs : List Value) (h' : Heap) => ∃ t11_1 : Int, vs = [(VI t11_1)] ∧ J_1 n t11_1 h' ∧ Vars h' []) n_2 ⟨0, rfl, h0_1, hL⟩ ?_
  intro I_1 mu_1 hI_1 junk_1 tv_1 h_1 hi_1
  obtain ⟨n_1, ⟨t11_1, hv, hJ_1, hL_1⟩, hn_1⟩ := hI_1 _ _ hi_1
  cases hv
  have H := HB_1 n_1 t11_1 h_1 hJ_1 hL_1
  refine pop_lss .i64 t11_1 (l0_1.n : Int) ?_
  refine condM_b (fun hb_1 => ?_) (fun hb_1 => ?_)
  · have H := H.1 hb_1
    obtain ⟨hi_2, H⟩ := H
    refine pop_index sli27 siz3 .i64 l0_1 t11_1 hi_2 ?_
    obtain ⟨t14_1, hc_1, H⟩ := H
    refine rop_one one3 (VI t14_1) hc_1 ?_
    refine H.mono fun rv_1 h_2 H => ?_
    obtain ⟨t18_1, rfl, hL_2, H⟩ := H
    refine pop_not t18_1 ?_
    refine condM_b (fun hb_2 => ?_) (fun hb_2 => ?_)
    · have H := H.1 hb_2
      exact H
    · have H := H.2 hb_2
      refine pop_add .i64 t11_1 1 ?_
      obtain ⟨m_1, hm_1, H⟩ := H
      exact hn_1 _ _ ⟨m_1, hm_1, (w64 (t11_1 + 1)), rfl, H, hL_2⟩
  · have H := H.2 hb_1
    exact H

/-! spec.skCycles -/
def u97 (P : Program) (g0_1 : Sl) (s1_1 : Sl) (h : Heap) (K : Value → Heap → Prop) : Prop :=
  ∀ (b_1 : Nat) (b_2 : Nat) (h_2 : Heap), h.size ≤ b_1 → h.size ≤ b_2 → Fr (In []) h h_2 → Vars h_2 [(b_2, [(Sl.v s1_1)]), (b_1, [(Sl.v g0_1)])] →
  ∃ J_1 : Nat → Sl → Int → Heap → Prop, (∃ n0 : Nat, J_1 n0 nilSl 0 h_2) ∧
  ∀ (n_1 : Nat) (out5_1 : Sl) (t11_1 : Int) (h_3 : Heap), J_1 n_1 out5_1 t11_1 h_3 → Vars h_3 [(b_2, [(Sl.v s1_1)]), (b_1, [(Sl.v g0_1)])] →
  ((decide (t11_1 < (g0_1.n : Int))) = true →
  callM P 120 #[(Value.agg #[(Sl.v g0_1)]), (Value.agg #[(Sl.v s1_1)]), (VI t11_1)] h_3 fun rv_1 h_4 => ∃ t17_1 : Sl, rv_1 = (Sl.v t17_1) ∧ Vars h_4 [(b_2, [(Sl.v s1_1)]), (b_1, [(Sl.v g0_1)])] ∧
  ((decide (0 < (t17_1.n : Int))) = true →
  InB t17_1 0 ∧
  ∃ t24_1 : Int, hcell h_4 (Sl.at t17_1 0 1) = some (VI t24_1) ∧
  ((decide (t24_1 = t11_1)) = true →
  eop P (Instr.buildSlice 22 1 #[(0, (Sl.v t17_1))]) h_4 fun rv_2 h_5 => ∃ t30_1 : Sl, rv_2 = (Sl.v t30_1) ∧ Vars h_5 [(b_2, [(Sl.v s1_1)]), (b_1, [(Sl.v g0_1)])] ∧
  eop P (appS 22 22 22 (Sl.v out5_1) (Sl.v t30_1)) h_5 fun rv_3 h_6 => ∃ t31_1 : Sl, rv_3 = (Sl.v t31_1) ∧ Vars h_6 [(b_2, [(Sl.v s1_1)]), (b_1, [(Sl.v g0_1)])] ∧
  ∃ m : Nat, m < n_1 ∧ J_1 m t31_1 (w64 (t11_1 + 1)) h_6) ∧
  ((decide (t24_1 = t11_1)) = false →
  ∃ m : Nat, m < n_1 ∧ J_1 m out5_1 (w64 (t11_1 + 1)) h_4)) ∧
  ((decide (0 < (t17_1.n : Int))) = false →
  ∃ m : Nat, m < n_1 ∧ J_1 m out5_1 (w64 (t11_1 + 1)) h_4)) ∧
  ((decide (t11_1 < (g0_1.n : Int))) = false →
  K (Sl.v out5_1) h_3)
theorem v97 (g0_1 : Sl) (s1_1 : Sl) (h : Heap) (K : Value → Heap → Prop) (H : u97 Try.prog g0_1 s1_1 h K) : callM Try.prog 97 #[(Value.agg #[(Sl.v g0_1)]), (Value.agg #[(Sl.v s1_1)])] h K := by
  refine c97 (Value.agg #[(Sl.v g0_1)]) (Value.agg #[(Sl.v s1_1)]) h K ?_
  unfold u97 at H
  unfold t97
  have hL : Vars h [] := .nil
  refine eop_box 32 (Value.agg #[(Sl.v g0_1)]) rfl hL (fun b_1 h_1 hb_1 hf_1 hL_1 => ?_)
  refine eop_box 34 (Value.agg #[(Sl.v s1_1)]) rfl hL_1 (fun b_2 h_2 hb_2 hf_2 hL_2 => ?_)
  refine pop_field 0 fld32_0 b_1 0 ?_
  refine rop_loc one22 hL_2 1 rfl 0 (v := (Sl.v g0_1)) rfl ?_
  refine pop_len g0_1 _ _ sli22 ?_
  have H := H b_1 b_2 h_2 (Nat.le_trans (Fr.size (Fr.r (In []) _)) hb_1) (Nat.le_trans (Fr.size (Fr.no' (Fr.r (In []) _) hf_1)) hb_2) (Fr.no' (Fr.no' (Fr.r (In []) _) hf_1) hf_2) hL_2
  obtain ⟨J_1, ⟨n_2, h0_1⟩, HB_1⟩ := H
  refine loop_intro (J := fun (n : Nat) (vs : List Value) (h' : Heap) => ∃ out5_1 : Sl, ∃ t11_1 : Int, vs = [(Sl.v out5_1), (VI t11_1)] ∧ J_1 n out5_1 t11_1 h' ∧ Vars h' [(b_2, [(Sl.v s1_1)]), (b_1, [(Sl.v g0_1)])]) n_2 ⟨nilSl, 0, rfl, h0_1, hL_2⟩ ?_
  intro I_1 mu_1 hI_1 junk_1 tv_1 tv_2 h_3 hi_1
  obtain ⟨n_1, ⟨out5_1, t11_1, hv, hJ_1, hL_3⟩, hn_1⟩ := hI_1 _ _ hi_1
  cases hv
  have H := HB_1 n_1 out5_1 t11_1 h_3 hJ_1 hL_3
  refine pop_lss .i64 t11_1 (g0_1.n : Int) ?_
  refine condM_b (fun hb_3 => ?_) (fun hb_3 => ?_)
  · have H := H.1 hb_3
    refine rop_locA agg32 hL_3 1 rfl 0 (vs := [(Sl.v g0_1)]) rfl rfl ?_
    refine rop_locA agg34 hL_3 0 rfl 0 (vs := [(Sl.v s1_1)]) rfl rfl ?_
    refine H.mono fun rv_1 h_4 H => ?_
    obtain ⟨t17_1, rfl, hL_4, H⟩ := H
    refine pop_len t17_1 _ _ sli27 ?_
    refine pop_gtr .i64 (t17_1.n : Int) 0 ?_
    refine guardM_st (fun hb_4 => ?_) (fun hb_4 => ?_)
    · have H := H.1 hb_4
      refine guardM_y' hb_4 ?_
      obtain ⟨hi_2, H⟩ := H
      refine pop_index sli27 siz3 .i64 t17_1 0 hi_2 ?_
      refine guardM_y' hb_4 ?_
      obtain ⟨t24_1, hc_1, H⟩ := H
      refine rop_one one3 (VI t24_1) hc_1 ?_
      refine guardM_y' hb_4 ?_
      refine guardM_y' hb_4 ?_
      refine pop_ieq .i64 _ _ t24_1 t11_1 ?_
      refine pop_pickt' hb_4 ?_
      refine condM_b (fun hb_5 => ?_) (fun hb_5 => ?_)
      · have H := H.1 hb_5
        refine H.mono fun rv_2 h_5 H => ?_
        obtain ⟨t30_1, rfl, hL_5, H⟩ := H
        refine H.mono fun rv_3 h_6 H => ?_
        obtain ⟨t31_1, rfl, hL_6, H⟩ := H
        refine pop_add .i64 t11_1 1 ?_
        obtain ⟨m_1, hm_1, H⟩ := H
        exact hn_1 _ _ ⟨m_1, hm_1, t31_1, (w64 (t11_1 + 1)), rfl, H, hL_6⟩
      · have H := H.2 hb_5
        refine pop_add .i64 t11_1 1 ?_
        obtain ⟨m_2, hm_2, H⟩ := H
        exact hn_1 _ _ ⟨m_2, hm_2, out5_1, (w64 (t11_1 + 1)), rfl, H, hL_4⟩
    · have H := H.2 hb_4
      refine guardM_n' hb_4 (by decide) ?_
      refine guardM_n' hb_4 (by decide) ?_
      refine guardM_n' hb_4 (by decide) ?_
      refine guardM_n' hb_4 (by decide) ?_
      refine pop_pickf' hb_4 ?_
      refine condM_f ?_
      refine pop_add .i64 t11_1 1 ?_
      obtain ⟨m_3, hm_3, H⟩ := H
      exact hn_1 _ _ ⟨m_3, hm_3, out5_1, (w64 (t11_1 + 1)), rfl, H, hL_4⟩
  · have H := H.2 hb_3
    exact H

/-! spec.skTops -/
def u98 (P : Program) (g0_1 : Sl) (sink1_1 : Int) (s2_1 : Sl) (h : Heap) (K : Value → Heap → Prop) : Prop :=
  ∀ (b_1 : Nat) (b_2 : Nat) (h_2 : Heap), h.size ≤ b_1 → h.size ≤ b_2 → Fr (In []) h h_2 → Vars h_2 [(b_2, [(Sl.v s2_1)]), (b_1, [(Sl.v g0_1)])] →
  eop P (Instr.makeSlice 27 (VI (g0_1.n : Int)) (VI (g0_1.n : Int))) h_2 fun rv_1 h_3 => ∃ t14_1 : Sl, rv_1 = (Sl.v t14_1) ∧ Vars h_3 [(b_2, [(Sl.v s2_1)]), (b_1, [(Sl.v g0_1)])] ∧
  ∃ J_1 : Nat → Int → Heap → Prop, (∃ n0 : Nat, J_1 n0 0 h_3) ∧
  ∀ (n_1 : Nat) (t18_1 : Int) (h_4 : Heap), J_1 n_1 t18_1 h_4 → Vars h_4 [(b_2, [(Sl.v s2_1)]), (b_1, [(Sl.v g0_1)])] →
  ((decide (t18_1 < (s2_1.n : Int))) = true →
  InB s2_1 t18_1 ∧
  ∃ t22_1 : Sl, hcell h_4 (Sl.at s2_1 t18_1 1) = some (Sl.v t22_1) ∧
  ((decide (t18_1 = sink1_1)) = true →
  ∃ m : Nat, m < n_1 ∧ J_1 m (w64 (t18_1 + 1)) h_4) ∧
  ((decide (t18_1 = sink1_1)) = false →
  ((decide ((t22_1.n : Int) = 0)) = true →
  K (Value.tuple #[(Sl.v nilSl), (VB false)]) h_4) ∧
  ((decide ((t22_1.n : Int) = 0)) = false →
  InB t22_1 0 ∧
  ∃ t33_1 : Int, hcell h_4 (Sl.at t22_1 0 1) = some (VI t33_1) ∧
  InB t14_1 t18_1 ∧
  Writable h_4 (Sl.at t14_1 t18_1 1) ∧ Vars (hset h_4 (Sl.at t14_1 t18_1 1) (VI t33_1)) [(b_2, [(Sl.v s2_1)]), (b_1, [(Sl.v g0_1)])] ∧
  ∀ h_5 : Heap, h_5 = hset h_4 (Sl.at t14_1 t18_1 1) (VI t33_1) → Vars h_5 [(b_2, [(Sl.v s2_1)]), (b_1, [(Sl.v g0_1)])] →
  ∃ m : Nat, m < n_1 ∧ J_1 m (w64 (t18_1 + 1)) h_5))) ∧
  ((decide (t18_1 < (s2_1.n : Int))) = false →
  K (Value.tuple #[(Sl.v t14_1), (VB true)]) h_4)
theorem v98 (g0_1 : Sl) (sink1_1 : Int) (s2_1 : Sl) (h : Heap) (K : Value → Heap → Prop) (H : u98 Try.prog g0_1 sink1_1 s2_1 h K) : callM Try.prog 98 #[(Value.agg #[(Sl.v g0_1)]), (VI sink1_1), (Value.agg #[(Sl.v s2_1)])] h K := by
  refine c98 (Value.agg #[(Sl.v g0_1)]) (VI sink1_1) (Value.agg #[(Sl.v s2_1)]) h K ?_
  unfold u98 at H
  unfold t98
  have hL : Vars h [] := .nil
  refine eop_box 32 (Value.agg #[(Sl.v g0_1)]) rfl hL (fun b_1 h_1 hb_1 hf_1 hL_1 => ?_)
  refine eop_box 34 (Value.agg #[(Sl.v s2_1)]) rfl hL_1 (fun b_2 h_2 hb_2 hf_2 hL_2 => ?_)
  refine pop_field 0 fld32_0 b_1 0 ?_
  refine rop_loc one22 hL_2 1 rfl 0 (v := (Sl.v g0_1)) rfl ?_
  refine pop_len g0_1 _ _ sli22 ?_
  have H := H b_1 b_2 h_2 (Nat.le_trans (Fr.size (Fr.r (In []) _)) hb_1) (Nat.le_trans (Fr.size (Fr.no' (Fr.r (In []) _) hf_1)) hb_2) (Fr.no' (Fr.no' (Fr.r (In []) _) hf_1) hf_2) hL_2
  refine H.mono fun rv_1 h_3 H => ?_
  obtain ⟨t14_1, rfl, hL_3, H⟩ := H
  refine pop_field 0 fld34_0 b_2 0 ?_
  refine rop_loc one22 hL_3 0 rfl 0 (v := (Sl.v s2_1)) rfl ?_
  refine pop_len s2_1 _ _ sli22 ?_
  obtain ⟨J_1, ⟨n_2, h0_1⟩, HB_1⟩ := H
  refine loop_intro (J := fun (n : Nat) (vs : List Value) (h' : Heap) => ∃ t18_1 : Int, vs = [(VI t18_1)] ∧ J_1 n t18_1 h' ∧ Vars h' [(b_2, [(Sl.v s2_1)]), (b_1, [(Sl.v g0_1)])]) n_2 ⟨0, rfl, h0_1, hL_3⟩ ?_
  intro I_1 mu_1 hI_1 junk_1 tv_1 h_4 hi_1
  obtain ⟨n_1, ⟨t18_1, hv, hJ_1, hL_4⟩, hn_1⟩ := hI_1 _ _ hi_1
  cases hv
  have H := HB_1 n_1 t18_1 h_4 hJ_1 hL_4
  refine pop_lss .i64 t18_1 (s2_1.n : Int) ?_
  refine condM_b (fun hb_3 => ?_) (fun hb_3 => ?_)
  · have H := H.1 hb_3
    obtain ⟨hi_2, H⟩ := H
    refine pop_index sli22 siz27 .i64 s2_1 t18_1 hi_2 ?_
    obtain ⟨t22_1, hc_2, H⟩ := H
    refine rop_one one27 (Sl.v t22_1) hc_2 ?_
    refine pop_ieq .i64 _ _ t18_1 sink1_1 ?_
    refine condM_b (fun hb_4 => ?_) (fun hb_4 => ?_)
    · have H := H.1 hb_4
      refine pop_add .i64 t18_1 1 ?_
      obtain ⟨m_1, hm_1, H⟩ := H
      exact hn_1 _ _ ⟨m_1, hm_1, (w64 (t18_1 + 1)), rfl, H, hL_4⟩
    · have H := H.2 hb_4
      refine pop_len t22_1 _ _ sli27 ?_
      refine pop_ieq .i64 _ _ (t22_1.n : Int) 0 ?_
      refine condM_b (fun hb_5 => ?_) (fun hb_5 => ?_)
      · have H := H.1 hb_5
        exact H
      · have H := H.2 hb_5
        obtain ⟨hi_3, H⟩ := H
        refine pop_index sli27 siz3 .i64 t22_1 0 hi_3 ?_
        obtain ⟨t33_1, hc_1, H⟩ := H
        refine rop_one one3 (VI t33_1) hc_1 ?_
        obtain ⟨hi_4, H⟩ := H
        refine pop_index sli27 siz3 .i64 t14_1 t18_1 hi_4 ?_
        obtain ⟨hw_1, hL_5, H⟩ := H
        refine uop_cell (v := (VI t33_1)) siz3 hw_1 rfl (fun h_5 he_1 => ?_)
        rw [← he_1] at hL_5
        have H := H h_5 he_1 hL_5
        refine pop_add .i64 t18_1 1 ?_
        obtain ⟨m_2, hm_2, H⟩ := H
        exact hn_1 _ _ ⟨m_2, hm_2, (w64 (t18_1 + 1)), rfl, H, hL_5⟩
  · have H := H.2 hb_3
    exact H

/-! spec.skPop -/
def u99 (P : Program) (s0_1 : Sl) (cycle1_1 : Sl) (h : Heap) (K : Value → Heap → Prop) : Prop :=
  ∀ (b_1 : Nat) (b_2 : Nat) (b_3 : Nat) (h_4 : Heap), h.size ≤ b_1 → h.size ≤ b_2 → h.size ≤ b_3 → Fr (In []) h h_4 → Vars h_4 [(b_3, [(Sl.v nilSl)]), (b_2, [(Sl.v nilSl)]), (b_1, [(Sl.v s0_1)])] →
  ∃ J_1 : Nat → Int → Sl → Heap → Prop, (∃ n0 : Nat, J_1 n0 0 nilSl h_4) ∧
  ∀ (n_1 : Nat) (t12_1 : Int) (x_1 : Sl) (h_5 : Heap), J_1 n_1 t12_1 x_1 h_5 → Vars h_5 [(b_3, [(Sl.v x_1)]), (b_2, [(Sl.v nilSl)]), (b_1, [(Sl.v s0_1)])] →
  ((decide (t12_1 < (s0_1.n : Int))) = true →
  InB s0_1 t12_1 ∧
  ∃ t16_1 : Sl, hcell h_5 (Sl.at s0_1 t12_1 1) = some (Sl.v t16_1) ∧
  ∃ J_2 : Sl → Heap → Prop, (callM P 74 #[(Sl.v cycle1_1), (VI t12_1)] h_5 fun rv_1 h_6 => ∃ t19_1 : Bool, rv_1 = (VB t19_1) ∧ Vars h_6 [(b_3, [(Sl.v x_1)]), (b_2, [(Sl.v nilSl)]), (b_1, [(Sl.v s0_1)])] ∧
  (t19_1 = true →
  pop P (Instr.sliceAt 27 (Sl.v t16_1) (some (Value.int IntKind.i64 1)) none none) fun rv_2 => ∃ t21_1 : Sl, rv_2 = (Sl.v t21_1) ∧ 
  J_2 t21_1 h_6) ∧
  (t19_1 = false →
  J_2 t16_1 h_6)) ∧
  ∀ (x_2 : Sl) (h_7 : Heap), J_2 x_2 h_7 → Vars h_7 [(b_3, [(Sl.v x_1)]), (b_2, [(Sl.v nilSl)]), (b_1, [(Sl.v s0_1)])] →
  callM P 87 #[(Sl.v x_2)] h_7 fun rv_3 h_8 => ∃ t25_1 : Sl, rv_3 = (Sl.v t25_1) ∧ Vars h_8 [(b_3, [(Sl.v x_1)]), (b_2, [(Sl.v nilSl)]), (b_1, [(Sl.v s0_1)])] ∧
  eop P (Instr.buildSlice 22 1 #[(0, (Sl.v t25_1))]) h_8 fun rv_4 h_9 => ∃ t26_1 : Sl, rv_4 = (Sl.v t26_1) ∧ Vars h_9 [(b_3, [(Sl.v x_1)]), (b_2, [(Sl.v nilSl)]), (b_1, [(Sl.v s0_1)])] ∧
  eop P (appS 22 22 22 (Sl.v x_1) (Sl.v t26_1)) h_9 fun rv_5 h_10 => ∃ t27_1 : Sl, rv_5 = (Sl.v t27_1) ∧ Vars h_10 [(b_3, [(Sl.v x_1)]), (b_2, [(Sl.v nilSl)]), (b_1, [(Sl.v s0_1)])] ∧
  ∀ (h_11 : Heap), Fr (In [b_3]) h_10 h_11 → Vars h_11 [(b_3, [(Sl.v t27_1)]), (b_2, [(Sl.v nilSl)]), (b_1, [(Sl.v s0_1)])] →
  ∃ m : Nat, m < n_1 ∧ J_1 m (w64 (t12_1 + 1)) t27_1 h_11) ∧
  ((decide (t12_1 < (s0_1.n : Int))) = false →
  ∀ (h_12 : Heap), Fr (In [b_2]) h_5 h_12 → Vars h_12 [(b_3, [(Sl.v x_1)]), (b_2, [(Sl.v x_1)]), (b_1, [(Sl.v s0_1)])] →
  K (Value.agg #[(Sl.v x_1)]) h_12)
theorem v99 (s0_1 : Sl) (cycle1_1 : Sl) (h : Heap) (K : Value → Heap → Prop) (H : u99 Try.prog s0_1 cycle1_1 h K) : callM Try.prog 99 #[(Value.agg #[(Sl.v s0_1)]), (Sl.v cycle1_1)] h K := by
  refine c99 (Value.agg #[(Sl.v s0_1)]) (Sl.v cycle1_1) h K ?_
  unfold u99 at H
  unfold t99
  have hL : Vars h [] := .nil
  refine eop_box 34 (Value.agg #[(Sl.v s0_1)]) rfl hL (fun b_1 h_1 hb_1 hf_1 hL_1 => ?_)
  refine eop_alloc 34 zer34 rfl hL_1 (fun b_2 h_2 hb_2 hf_2 hL_2 => ?_)
  refine pop.mk' (v := (Value.agg #[(Sl.v nilSl)])) (fun w => by kernel_rfl) ?_
  refine eop_alloc 34 zer34 rfl hL_2 (fun b_3 h_3 hb_3 hf_3 hL_3 => ?_)
  refine uop_loc siz34 hL_3 0 rfl 0 [(Sl.v nilSl)] rfl rfl rfl (Nat.le_of_ble_eq_true rfl) (L' := [(b_3, [(Sl.v nilSl)]), (b_2, [(Sl.v nilSl)]), (b_1, [(Sl.v s0_1)])]) rfl (fun h_4 hf_4 hL_4 => ?_)
  refine pop_field 0 fld34_0 b_1 0 ?_
  refine rop_loc one22 hL_4 2 rfl 0 (v := (Sl.v s0_1)) rfl ?_
  refine pop_len s0_1 _ _ sli22 ?_
  have H := H b_1 b_2 b_3 h_4 (Nat.le_trans (Fr.size (Fr.r (In []) _)) hb_1) (Nat.le_trans (Fr.size (Fr.no' (Fr.r (In []) _) hf_1)) hb_2) (Nat.le_trans (Fr.size (Fr.no' (Fr.no' (Fr.r (In []) _) hf_1) hf_2)) hb_3) (Fr.new (Fr.no' (Fr.no' (Fr.no' (Fr.r (In []) _) hf_1) hf_2) hf_3) (Nat.le_trans (Fr.size (Fr.no' (Fr.no' (Fr.r (In []) _) hf_1) hf_2)) hb_3) hf_4) hL_4
  obtain ⟨J_1, ⟨n_2, h0_1⟩, HB_2⟩ := H
  refine loop_intro (J := fun (n : Nat) (vs : List Value) (h' : Heap) => ∃ t12_1 : Int, ∃ x_1 : Sl, vs = [(VI t12_1)] ∧ J_1 n t12_1 x_1 h' ∧ Vars h' [(b_3, [(Sl.v x_1)]), (b_2, [(Sl.v nilSl)]), (b_1, [(Sl.v s0_1)])]) n_2 ⟨0, nilSl, rfl, h0_1, hL_4⟩ ?_
  intro I_1 mu_1 hI_1 junk_1 tv_2 h_5 hi_1
  obtain ⟨n_1, ⟨t12_1, x_1, hv, hJ_1, hL_5⟩, hn_1⟩ := hI_1 _ _ hi_1
  cases hv
  have H := HB_2 n_1 t12_1 x_1 h_5 hJ_1 hL_5
  refine pop_lss .i64 t12_1 (s0_1.n : Int) ?_
  refine condM_b (fun hb_4 => ?_) (fun hb_4 => ?_)
  · have H := H.1 hb_4
    obtain ⟨hi_2, H⟩ := H
    refine pop_index sli22 siz27 .i64 s0_1 t12_1 hi_2 ?_
    obtain ⟨t16_1, hc_1, H⟩ := H
    refine rop_one one27 (Sl.v t16_1) hc_1 ?_
    obtain ⟨J_2, H, HB_1⟩ := H
    refine ⟨fun (vs : List Value) (h' : Heap) => ∃ x_2 : Sl, vs = [(Sl.v x_2)] ∧ J_2 x_2 h' ∧ Vars h' [(b_3, [(Sl.v x_1)]), (b_2, [(Sl.v nilSl)]), (b_1, [(Sl.v s0_1)])], ?_, ?_⟩
    · refine H.mono fun rv_1 h_6 H => ?_
      obtain ⟨t19_1, rfl, hL_6, H⟩ := H
      refine condM_b (fun hb_5 => ?_) (fun hb_5 => ?_)
      · have H := H.1 hb_5
        refine H.mono fun rv_2 H => ?_
        obtain ⟨t21_1, rfl, H⟩ := H
        exact ⟨t21_1, rfl, H, hL_6⟩
      · have H := H.2 hb_5
        exact ⟨t16_1, rfl, H, hL_6⟩
    intro junk_2 tv_1 h_7
    rintro ⟨x_2, hv, hJ_2, hL_7⟩
    cases hv
    have H := HB_1 x_2 h_7 hJ_2 hL_7
    refine pop_field 0 fld34_0 b_3 0 ?_
    refine rop_loc one22 hL_7 0 rfl 0 (v := (Sl.v x_1)) rfl ?_
    refine H.mono fun rv_3 h_8 H => ?_
    obtain ⟨t25_1, rfl, hL_8, H⟩ := H
    refine ⟨?_, ?_⟩
    · exact still_loc one22 hL_8 0 rfl 0 (v := (Sl.v x_1)) rfl
    refine H.mono fun rv_4 h_9 H => ?_
    obtain ⟨t26_1, rfl, hL_9, H⟩ := H
    refine ⟨?_, ?_⟩
    · exact still_loc one22 hL_9 0 rfl 0 (v := (Sl.v x_1)) rfl
    refine H.mono fun rv_5 h_10 H => ?_
    obtain ⟨t27_1, rfl, hL_10, H⟩ := H
    refine pop_field 0 fld34_0 b_3 0 ?_
    refine uop_loc siz22 hL_10 0 rfl 0 [(Sl.v t27_1)] rfl rfl rfl (Nat.le_of_ble_eq_true rfl) (L' := [(b_3, [(Sl.v t27_1)]), (b_2, [(Sl.v nilSl)]), (b_1, [(Sl.v s0_1)])]) rfl (fun h_11 hf_5 hL_11 => ?_)
    refine pop_add .i64 t12_1 1 ?_
    have H := H  h_11  (Fr.old (Fr.r (In []) _) hf_5) hL_11
    obtain ⟨m_1, hm_1, H⟩ := H
    exact hn_1 _ _ ⟨m_1, hm_1, (w64 (t12_1 + 1)), t27_1, rfl, H, hL_11⟩
  · have H := H.2 hb_4
    refine rop_locA agg34 hL_5 0 rfl 0 (vs := [(Sl.v x_1)]) rfl rfl ?_
    refine uop_loc siz34 hL_5 1 rfl 0 [(Sl.v x_1)] rfl rfl rfl (Nat.le_of_ble_eq_true rfl) (L' := [(b_3, [(Sl.v x_1)]), (b_2, [(Sl.v x_1)]), (b_1, [(Sl.v s0_1)])]) rfl (fun h_12 hf_6 hL_12 => ?_)
    refine rop_locA agg34 hL_12 1 rfl 0 (vs := [(Sl.v x_1)]) rfl rfl ?_
    have H := H  h_12  (Fr.old (Fr.r (In []) _) hf_6) hL_12
    exact H

/-! spec.skNext -/
def u100 (P : Program) (g0_1 : Sl) (s1_1 : Sl) (p2_1 : Int) (h : Heap) (K : Value → Heap → Prop) : Prop :=
  InB s1_1 p2_1 ∧
  ∀ (b_1 : Nat) (b_2 : Nat) (h_2 : Heap), h.size ≤ b_1 → h.size ≤ b_2 → Fr (In []) h h_2 → Vars h_2 [(b_2, [(Sl.v s1_1)]), (b_1, [(Sl.v g0_1)])] →
  ∃ t11_1 : Sl, hcell h_2 (Sl.at s1_1 p2_1 1) = some (Sl.v t11_1) ∧
  ((decide ((t11_1.n : Int) = 0)) = true →
  K (VI (-1)) h_2) ∧
  ((decide ((t11_1.n : Int) = 0)) = false →
  InB g0_1 p2_1 ∧
  ∃ t18_1 : Sl, hcell h_2 (Sl.at g0_1 p2_1 1) = some (Sl.v t18_1) ∧
  InB s1_1 p2_1 ∧
  ∃ t23_1 : Sl, hcell h_2 (Sl.at s1_1 p2_1 1) = some (Sl.v t23_1) ∧
  InB t23_1 0 ∧
  ∃ t25_1 : Int, hcell h_2 (Sl.at t23_1 0 1) = some (VI t25_1) ∧
  InB t18_1 t25_1 ∧
  ∃ t27_1 : Int, hcell h_2 (Sl.at t18_1 t25_1 1) = some (VI t27_1) ∧
  K (VI t27_1) h_2)
theorem v100 (g0_1 : Sl) (s1_1 : Sl) (p2_1 : Int) (h : Heap) (K : Value → Heap → Prop) (H : u100 Try.prog g0_1 s1_1 p2_1 h K) : callM Try.prog 100 #[(Value.agg #[(Sl.v g0_1)]), (Value.agg #[(Sl.v s1_1)]), (VI p2_1)] h K := by
  refine c100 (Value.agg #[(Sl.v g0_1)]) (Value.agg #[(Sl.v s1_1)]) (VI p2_1) h K ?_
  unfold u100 at H
  unfold t100
  have hL : Vars h [] := .nil
  refine eop_box 32 (Value.agg #[(Sl.v g0_1)]) rfl hL (fun b_1 h_1 hb_1 hf_1 hL_1 => ?_)
  refine eop_box 34 (Value.agg #[(Sl.v s1_1)]) rfl hL_1 (fun b_2 h_2 hb_2 hf_2 hL_2 => ?_)
  refine pop_field 0 fld34_0 b_2 0 ?_
  refine rop_loc one22 hL_2 0 rfl 0 (v := (Sl.v s1_1)) rfl ?_
  obtain ⟨hi_1, H⟩ := H
  refine pop_index sli22 siz27 .i64 s1_1 p2_1 hi_1 ?_
  have H := H b_1 b_2 h_2 (Nat.le_trans (Fr.size (Fr.r (In []) _)) hb_1) (Nat.le_trans (Fr.size (Fr.no' (Fr.r (In []) _) hf_1)) hb_2) (Fr.no' (Fr.no' (Fr.r (In []) _) hf_1) hf_2) hL_2
  obtain ⟨t11_1, hc_5, H⟩ := H
  refine rop_one one27 (Sl.v t11_1) hc_5 ?_
  refine pop_len t11_1 _ _ sli27 ?_
  refine pop_ieq .i64 _ _ (t11_1.n : Int) 0 ?_
  refine condM_b (fun hb_3 => ?_) (fun hb_3 => ?_)
  · have H := H.1 hb_3
    exact H
  · have H := H.2 hb_3
    refine pop_field 0 fld32_0 b_1 0 ?_
    refine rop_loc one22 hL_2 1 rfl 0 (v := (Sl.v g0_1)) rfl ?_
    obtain ⟨hi_2, H⟩ := H
    refine pop_index sli22 siz27 .i64 g0_1 p2_1 hi_2 ?_
    obtain ⟨t18_1, hc_4, H⟩ := H
    refine rop_one one27 (Sl.v t18_1) hc_4 ?_
    refine pop_field 0 fld34_0 b_2 0 ?_
    refine rop_loc one22 hL_2 0 rfl 0 (v := (Sl.v s1_1)) rfl ?_
    obtain ⟨hi_3, H⟩ := H
    refine pop_index sli22 siz27 .i64 s1_1 p2_1 hi_3 ?_
    obtain ⟨t23_1, hc_3, H⟩ := H
    refine rop_one one27 (Sl.v t23_1) hc_3 ?_
    obtain ⟨hi_4, H⟩ := H
    refine pop_index sli27 siz3 .i64 t23_1 0 hi_4 ?_
    obtain ⟨t25_1, hc_2, H⟩ := H
    refine rop_one one3 (VI t25_1) hc_2 ?_
    obtain ⟨hi_5, H⟩ := H
    refine pop_index sli27 siz3 .i64 t18_1 t25_1 hi_5 ?_
    obtain ⟨t27_1, hc_1, H⟩ := H
    refine rop_one one3 (VI t27_1) hc_1 ?_
    exact H

/-! spec.skPlace -/
def u101 (P : Program) (list0_1 : Sl) (x1_1 : Int) (h : Heap) (K : Value → Heap → Prop) : Prop :=
  ∃ J_1 : Nat → Int → Heap → Prop, (∃ n0 : Nat, J_1 n0 0 h) ∧
  ∀ (n_1 : Nat) (t9_1 : Int) (h_1 : Heap), J_1 n_1 t9_1 h_1 → Vars h_1 [] →
  ((decide (t9_1 < (list0_1.n : Int))) = true →
  InB list0_1 t9_1 ∧
  ∃ t13_1 : Int, hcell h_1 (Sl.at list0_1 t9_1 1) = some (VI t13_1) ∧
  ((decide (t13_1 = x1_1)) = true →
  K (VI t9_1) h_1) ∧
  ((decide (t13_1 = x1_1)) = false →
  ∃ m : Nat, m < n_1 ∧ J_1 m (w64 (t9_1 + 1)) h_1)) ∧
  ((decide (t9_1 < (list0_1.n : Int))) = false →
  K (VI (-1)) h_1)
theorem v101 (list0_1 : Sl) (x1_1 : Int) (h : Heap) (K : Value → Heap → Prop) (H : u101 Try.prog list0_1 x1_1 h K) : callM Try.prog 101 #[(Sl.v list0_1), (VI x1_1)] h K := by
  refine c101 (Sl.v list0_1) (VI x1_1) h K ?_
  unfold u101 at H
  unfold t101
  have hL : Vars h [] := .nil
  refine pop_len list0_1 _ _ sli27 ?_
  obtain ⟨J_1, ⟨n_2, h0_1⟩, HB_1⟩ := H
  refine loop_intro (J := fun (n : Nat) (vs : List Value) (h' : Heap) => ∃ t9_1 : Int, vs = [(VI t9_1)] ∧ J_1 n t9_1 h' ∧ Vars h' []) n_2 ⟨0, rfl, h0_1, hL⟩ ?_
  intro I_1 mu_1 hI_1 junk_1 tv_1 h_1 hi_1
  obtain ⟨n_1, ⟨t9_1, hv, hJ_1, hL_1⟩, hn_1⟩ := hI_1 _ _ hi_1
  cases hv
  have H := HB_1 n_1 t9_1 h_1 hJ_1 hL_1
  refine pop_lss .i64 t9_1 (list0_1.n : Int) ?_
  refine condM_b (fun hb_1 => ?_) (fun hb_1 => ?_)
  · have H := H.1 hb_1
    obtain ⟨hi_2, H⟩ := H
    refine pop_index sli27 siz3 .i64 list0_1 t9_1 hi_2 ?_
    obtain ⟨t13_1, hc_1, H⟩ := H
    refine rop_one one3 (VI t13_1) hc_1 ?_
    refine pop_ieq .i64 _ _ t13_1 x1_1 ?_
    refine condM_b (fun hb_2 => ?_) (fun hb_2 => ?_)
    · have H := H.1 hb_2
      exact H
    · have H := H.2 hb_2
      refine pop_add .i64 t9_1 1 ?_
      obtain ⟨m_1, hm_1, H⟩ := H
      exact hn_1 _ _ ⟨m_1, hm_1, (w64 (t9_1 + 1)), rfl, H, hL_1⟩
  · have H := H.2 hb_1
    exact H

/-! impl.in -/
def u102 (P : Program) (n0_1 : Int) (low1_1 : Int) (high2_1 : Int) (h : Heap) (K : Value → Heap → Prop) : Prop :=
  ((decide (low1_1 ≤ n0_1)) = true →
  K (VB (decide (n0_1 ≤ high2_1))) h) ∧
  ((decide (low1_1 ≤ n0_1)) = false →
  K (VB false) h)
theorem v102 (n0_1 : Int) (low1_1 : Int) (high2_1 : Int) (h : Heap) (K : Value → Heap → Prop) (H : u102 Try.prog n0_1 low1_1 high2_1 h K) : callM Try.prog 102 #[(VI n0_1), (VI low1_1), (VI high2_1)] h K := by
  refine c102 (VI n0_1) (VI low1_1) (VI high2_1) h K ?_
  unfold u102 at H
  unfold t102
  have hL : Vars h [] := .nil
  refine pop_leq .i64 low1_1 n0_1 ?_
  refine guardM_st (fun hb_1 => ?_) (fun hb_1 => ?_)
  · have H := H.1 hb_1
    refine guardM_y' hb_1 ?_
    refine guardM_y' hb_1 ?_
    refine pop_leq .i64 n0_1 high2_1 ?_
    refine pop_pickt' hb_1 ?_
    exact H
  · have H := H.2 hb_1
    refine guardM_n' hb_1 (by decide) ?_
    refine guardM_n' hb_1 (by decide) ?_
    refine pop_pickf' hb_1 ?_
    exact H

/-! slices.ContainsFunc[[]int,int] -/
def u103 (P : Program) (s0_1 : Sl) (f1_1 : Value) (h : Heap) (K : Value → Heap → Prop) : Prop :=
  callM P 121 #[(Sl.v s0_1), f1_1] h fun rv_1 h_1 => ∃ t7_1 : Int, rv_1 = (VI t7_1) ∧ Vars h_1 [] ∧
  K (VB (decide (0 ≤ t7_1))) h_1
theorem v103 (s0_1 : Sl) (f1_1 : Value) (h : Heap) (K : Value → Heap → Prop) (H : u103 Try.prog s0_1 f1_1 h K) : callM Try.prog 103 #[(Sl.v s0_1), f1_1] h K := by
  refine c103 (Sl.v s0_1) f1_1 h K ?_
  unfold u103 at H
  unfold t103
  have hL : Vars h [] := .nil
  refine H.mono fun rv_1 h_1 H => ?_
  obtain ⟨t7_1, rfl, hL_1, H⟩ := H
  refine pop_geq .i64 t7_1 0 ?_
  exact H

/-! impl.isGraph$1 -/
def u104 (P : Program) (q0_1 : Int) (b_1 : Nat) (t1_1 : Int) (h : Heap) (K : Value → Heap → Prop) : Prop :=
  callM P 102 #[(VI q0_1), (VI 0), (VI (w64 (t1_1 - 1)))] h fun rv_1 h_1 => ∃ t7_1 : Bool, rv_1 = (VB t7_1) ∧ Vars h_1 [(b_1, [(VI t1_1)])] ∧
  K (VB (!t7_1)) h_1
theorem v104 (q0_1 : Int) (b_1 : Nat) (t1_1 : Int) (h : Heap) (K : Value → Heap → Prop) (hL : Vars h [(b_1, [(VI t1_1)])]) (H : u104 Try.prog q0_1 b_1 t1_1 h K) : callM Try.prog 104 #[(VI q0_1), (VP b_1 0)] h K := by
  refine c104 (VI q0_1) (VP b_1 0) h K ?_
  unfold u104 at H
  unfold t104
  refine rop_loc one3 hL 0 rfl 0 (v := (VI t1_1)) rfl ?_
  refine pop_sub .i64 t1_1 1 ?_
  refine H.mono fun rv_1 h_1 H => ?_
  obtain ⟨t7_1, rfl, hL_1, H⟩ := H
  refine pop_not t7_1 ?_
  exact H

/-! slices.Sorted[int] -/
def u105 (P : Program) (seq0_1 : Value) (h : Heap) (K : Value → Heap → Prop) : Prop :=
  callM P 122 #[seq0_1] h fun rv_1 h_1 => ∃ t5_1 : Sl, rv_1 = (Sl.v t5_1) ∧ Vars h_1 [] ∧
  callM P 123 #[(Sl.v t5_1)] h_1 fun rv_2 h_2 => Vars h_2 [] ∧
  K (Sl.v t5_1) h_2
theorem v105 (seq0_1 : Value) (h : Heap) (K : Value → Heap → Prop) (H : u105 Try.prog seq0_1 h K) : callM Try.prog 105 #[seq0_1] h K := by
  refine c105 seq0_1 h K ?_
  unfold u105 at H
  unfold t105
  have hL : Vars h [] := .nil
  refine H.mono fun rv_1 h_1 H => ?_
  obtain ⟨t5_1, rfl, hL_1, H⟩ := H
  refine H.mono fun rv_2 h_2 H => ?_
  obtain ⟨hL_2, H⟩ := H
  exact H

/-! slices.Values[[]int,int] -/
def u106 (P : Program) (s0_1 : Sl) (h : Heap) (K : Value → Heap → Prop) : Prop :=
  ∀ (b_1 : Nat) (h_1 : Heap), h.size ≤ b_1 → Fr (In []) h h_1 → Vars h_1 [(b_1, [(Sl.v s0_1)])] →
  K (Value.func (Fn.func 124) #[] #[(VP b_1 0)]) h_1
theorem v106 (s0_1 : Sl) (h : Heap) (K : Value → Heap → Prop) (H : u106 Try.prog s0_1 h K) : callM Try.prog 106 #[(Sl.v s0_1)] h K := by
  refine c106 (Sl.v s0_1) h K ?_
  unfold u106 at H
  unfold t106
  have hL : Vars h [] := .nil
  refine eop_box 27 (Sl.v s0_1) rfl hL (fun b_1 h_1 hb_1 hf_1 hL_1 => ?_)
  refine pop_func _ _ _ ?_
  have H := H b_1 h_1 (Nat.le_trans (Fr.size (Fr.r (In []) _)) hb_1) (Fr.no' (Fr.r (In []) _) hf_1) hL_1
  exact H

/-! impl.popped -/
def u107 (P : Program) (g0_1 : Sl) (sink1_1 : Int) (s2_1 : Sl) (choices3_1 : Sl) (h : Heap) (K : Value → Heap → Prop) : Prop :=
  ∀ (b_1 : Nat) (b_2 : Nat) (b_3 : Nat) (h_3 : Heap), h.size ≤ b_1 → h.size ≤ b_2 → h.size ≤ b_3 → Fr (In []) h h_3 → Vars h_3 [(b_3, [(Sl.v nilSl)]), (b_2, [(Sl.v s2_1)]), (b_1, [(Sl.v g0_1)])] →
  callM P 125 #[(Value.agg #[(Sl.v g0_1)]), (VI sink1_1), (Value.agg #[(Sl.v s2_1)])] h_3 fun rv_1 h_4 => ∃ t20_1 : Bool, rv_1 = (VB t20_1) ∧ Vars h_4 [(b_3, [(Sl.v nilSl)]), (b_2, [(Sl.v s2_1)]), (b_1, [(Sl.v g0_1)])] ∧
  ((!t20_1) = true →
  ∀ (h_20 : Heap), Fr (In [b_3]) h_4 h_20 → Vars h_20 [(b_3, [(Sl.v nilSl)]), (b_2, [(Sl.v s2_1)]), (b_1, [(Sl.v g0_1)])] →
  K (Value.tuple #[(Value.agg #[(Sl.v nilSl)]), (VI 0), (VB false)]) h_20) ∧
  ((!t20_1) = false →
  ((decide (100 < (choices3_1.n : Int))) = true →
  ∀ (h_19 : Heap), Fr (In [b_3]) h_4 h_19 → Vars h_19 [(b_3, [(Sl.v nilSl)]), (b_2, [(Sl.v s2_1)]), (b_1, [(Sl.v g0_1)])] →
  K (Value.tuple #[(Value.agg #[(Sl.v nilSl)]), (VI 0), (VB false)]) h_19) ∧
  ((decide (100 < (choices3_1.n : Int))) = false →
  callM P 103 #[(Sl.v choices3_1), (Value.func (.func 126) #[] #[])] h_4 fun rv_2 h_5 => ∃ t29_1 : Bool, rv_2 = (VB t29_1) ∧ Vars h_5 [(b_3, [(Sl.v nilSl)]), (b_2, [(Sl.v s2_1)]), (b_1, [(Sl.v g0_1)])] ∧
  (t29_1 = true →
  ∀ (h_6 : Heap), Fr (In [b_3]) h_5 h_6 → Vars h_6 [(b_3, [(Sl.v nilSl)]), (b_2, [(Sl.v s2_1)]), (b_1, [(Sl.v g0_1)])] →
  K (Value.tuple #[(Value.agg #[(Sl.v nilSl)]), (VI 0), (VB false)]) h_6) ∧
  (t29_1 = false →
  callM P 127 #[(Value.agg #[(Sl.v s2_1)])] h_5 fun rv_3 h_7 => ∃ t33_1 : Sl, rv_3 = (Value.agg #[(Sl.v t33_1)]) ∧ Vars h_7 [(b_3, [(Sl.v nilSl)]), (b_2, [(Sl.v s2_1)]), (b_1, [(Sl.v g0_1)])] ∧
  ∀ (b_4 : Nat) (h_9 : Heap), h_7.size ≤ b_4 → Fr (In []) h_7 h_9 → Vars h_9 [(b_4, [(Sl.v t33_1)]), (b_3, [(Sl.v nilSl)]), (b_2, [(Sl.v s2_1)]), (b_1, [(Sl.v g0_1)])] →
  ∃ J_1 : Nat → Int → Heap → Prop, (∃ n0 : Nat, J_1 n0 0 h_9) ∧
  ∀ (n_1 : Nat) (many12_1 : Int) (h_10 : Heap), J_1 n_1 many12_1 h_10 → Vars h_10 [(b_4, [(Sl.v t33_1)]), (b_3, [(Sl.v nilSl)]), (b_2, [(Sl.v s2_1)]), (b_1, [(Sl.v g0_1)])] →
  callM P 128 #[(Value.agg #[(Sl.v t33_1)]), (Value.agg #[(Sl.v g0_1)])] h_10 fun rv_4 h_11 => ∃ t36_1 : Sl, rv_4 = (Sl.v t36_1) ∧ Vars h_11 [(b_4, [(Sl.v t33_1)]), (b_3, [(Sl.v nilSl)]), (b_2, [(Sl.v s2_1)]), (b_1, [(Sl.v g0_1)])] ∧
  ((decide ((t36_1.n : Int) = 0)) = true →
  callM P 108 #[(Value.agg #[(Sl.v t33_1)]), (VI sink1_1)] h_11 fun rv_5 h_12 => ∃ t65_1 : Sl, ∃ t65_2 : Bool, rv_5 = (Value.tuple #[(Sl.v t65_1), (VB t65_2)]) ∧ Vars h_12 [(b_4, [(Sl.v t33_1)]), (b_3, [(Sl.v nilSl)]), (b_2, [(Sl.v s2_1)]), (b_1, [(Sl.v g0_1)])] ∧
  ((!t65_2) = true →
  ∀ (h_13 : Heap), Fr (In [b_3]) h_12 h_13 → Vars h_13 [(b_4, [(Sl.v t33_1)]), (b_3, [(Sl.v nilSl)]), (b_2, [(Sl.v s2_1)]), (b_1, [(Sl.v g0_1)])] →
  K (Value.tuple #[(Value.agg #[(Sl.v nilSl)]), (VI 0), (VB false)]) h_13) ∧
  ((!t65_2) = false →
  callM P 127 #[(Value.agg #[(Sl.v t33_1)])] h_12 fun rv_6 h_14 => ∃ t72_1 : Sl, rv_6 = (Value.agg #[(Sl.v t72_1)]) ∧ Vars h_14 [(b_4, [(Sl.v t33_1)]), (b_3, [(Sl.v nilSl)]), (b_2, [(Sl.v s2_1)]), (b_1, [(Sl.v g0_1)])] ∧
  ∀ (h_15 : Heap), Fr (In [b_3]) h_14 h_15 → Vars h_15 [(b_4, [(Sl.v t33_1)]), (b_3, [(Sl.v t72_1)]), (b_2, [(Sl.v s2_1)]), (b_1, [(Sl.v g0_1)])] →
  K (Value.tuple #[(Value.agg #[(Sl.v t72_1)]), (VI many12_1), (VB true)]) h_15)) ∧
  ((decide ((t36_1.n : Int) = 0)) = false →
  ((decide (many12_1 = 200)) = true →
  ∀ (h_16 : Heap), Fr (In [b_3]) h_11 h_16 → Vars h_16 [(b_4, [(Sl.v t33_1)]), (b_3, [(Sl.v nilSl)]), (b_2, [(Sl.v s2_1)]), (b_1, [(Sl.v g0_1)])] →
  K (Value.tuple #[(Value.agg #[(Sl.v nilSl)]), (VI 0), (VB false)]) h_16) ∧
  ((decide (many12_1 = 200)) = false →
  ∃ J_2 : Int → Heap → Prop, (((decide (many12_1 < (choices3_1.n : Int))) = true →
  InB choices3_1 many12_1 ∧
  ∃ t50_1 : Int, hcell h_11 (Sl.at choices3_1 many12_1 1) = some (VI t50_1) ∧
  (t36_1.n : Int) ≠ 0 ∧
  J_2 (Int.tmod t50_1 (t36_1.n : Int)) h_11) ∧
  ((decide (many12_1 < (choices3_1.n : Int))) = false →
  J_2 0 h_11)) ∧
  ∀ (x_1 : Int) (h_17 : Heap), J_2 x_1 h_17 → Vars h_17 [(b_4, [(Sl.v t33_1)]), (b_3, [(Sl.v nilSl)]), (b_2, [(Sl.v s2_1)]), (b_1, [(Sl.v g0_1)])] →
  InB t36_1 x_1 ∧
  ∃ t58_1 : Sl, hcell h_17 (Sl.at t36_1 x_1 1) = some (Sl.v t58_1) ∧
  callM P 129 #[(Value.agg #[(Sl.v t33_1)]), (Sl.v t58_1)] h_17 fun rv_7 h_18 => Vars h_18 [(b_4, [(Sl.v t33_1)]), (b_3, [(Sl.v nilSl)]), (b_2, [(Sl.v s2_1)]), (b_1, [(Sl.v g0_1)])] ∧
  ∃ m : Nat, m < n_1 ∧ J_1 m (w64 (many12_1 + 1)) h_18)))))
theorem v107 (g0_1 : Sl) (sink1_1 : Int) (s2_1 : Sl) (choices3_1 : Sl) (h : Heap) (K : Value → Heap → Prop) (H : u107 Try.prog g0_1 sink1_1 s2_1 choices3_1 h K) : callM Try.prog 107 #[(Value.agg #[(Sl.v g0_1)]), (VI sink1_1), (Value.agg #[(Sl.v s2_1)]), (Sl.v choices3_1)] h K := by
  refine c107 (Value.agg #[(Sl.v g0_1)]) (VI sink1_1) (Value.agg #[(Sl.v s2_1)]) (Sl.v choices3_1) h K ?_
  unfold u107 at H
  unfold t107
  have hL : Vars h [] := .nil
  refine eop_box 32 (Value.agg #[(Sl.v g0_1)]) rfl hL (fun b_1 h_1 hb_1 hf_1 hL_1 => ?_)
  refine eop_box 34 (Value.agg #[(Sl.v s2_1)]) rfl hL_1 (fun b_2 h_2 hb_2 hf_2 hL_2 => ?_)
  refine eop_alloc 34 zer34 rfl hL_2 (fun b_3 h_3 hb_3 hf_3 hL_3 => ?_)
  refine rop_locA agg32 hL_3 2 rfl 0 (vs := [(Sl.v g0_1)]) rfl rfl ?_
  refine rop_locA agg34 hL_3 1 rfl 0 (vs := [(Sl.v s2_1)]) rfl rfl ?_
  have H := H b_1 b_2 b_3 h_3 (Nat.le_trans (Fr.size (Fr.r (In []) _)) hb_1) (Nat.le_trans (Fr.size (Fr.no' (Fr.r (In []) _) hf_1)) hb_2) (Nat.le_trans (Fr.size (Fr.no' (Fr.no' (Fr.r (In []) _) hf_1) hf_2)) hb_3) (Fr.no' (Fr.no' (Fr.no' (Fr.r (In []) _) hf_1) hf_2) hf_3) hL_3
  refine H.mono fun rv_1 h_4 H => ?_
  obtain ⟨t20_1, rfl, hL_4, H⟩ := H
  refine pop_not t20_1 ?_
  refine guardM_sf (fun hb_4 => ?_) (fun hb_4 => ?_)
  · have H := H.2 hb_4
    refine guardM_y' hb_4 ?_
    refine pop_len choices3_1 _ _ sli27 ?_
    refine guardM_y' hb_4 ?_
    refine pop_gtr .i64 (choices3_1.n : Int) 100 ?_
    refine pop_pickf' hb_4 ?_
    refine guardM_sf (fun hb_5 => ?_) (fun hb_5 => ?_)
    · have H := H.2 hb_5
      refine guardM_y' hb_5 ?_
      refine H.mono fun rv_2 h_5 H => ?_
      obtain ⟨t29_1, rfl, hL_5, H⟩ := H
      refine pop_pickf' hb_5 ?_
      refine condM_b (fun hb_6 => ?_) (fun hb_6 => ?_)
      · have H := H.1 hb_6
        refine pop.mk' (v := (Value.agg #[(Sl.v nilSl)])) (fun w => by kernel_rfl) ?_
        refine uop_loc siz34 hL_5 0 rfl 0 [(Sl.v nilSl)] rfl rfl rfl (Nat.le_of_ble_eq_true rfl) (L' := [(b_3, [(Sl.v nilSl)]), (b_2, [(Sl.v s2_1)]), (b_1, [(Sl.v g0_1)])]) rfl (fun h_6 hf_4 hL_6 => ?_)
        refine rop_locA agg34 hL_6 0 rfl 0 (vs := [(Sl.v nilSl)]) rfl rfl ?_
        have H := H  h_6  (Fr.old (Fr.r (In []) _) hf_4) hL_6
        exact H
      · have H := H.2 hb_6
        refine rop_locA agg34 hL_5 1 rfl 0 (vs := [(Sl.v s2_1)]) rfl rfl ?_
        refine H.mono fun rv_3 h_7 H => ?_
        obtain ⟨t33_1, rfl, hL_7, H⟩ := H
        refine eop_alloc 34 zer34 rfl hL_7 (fun b_4 h_8 hb_7 hf_5 hL_8 => ?_)
        refine uop_loc siz34 hL_8 0 rfl 0 [(Sl.v t33_1)] rfl rfl rfl (Nat.le_of_ble_eq_true rfl) (L' := [(b_4, [(Sl.v t33_1)]), (b_3, [(Sl.v nilSl)]), (b_2, [(Sl.v s2_1)]), (b_1, [(Sl.v g0_1)])]) rfl (fun h_9 hf_6 hL_9 => ?_)
        have H := H b_4 h_9 (Nat.le_trans (Fr.size (Fr.r (In []) _)) hb_7) (Fr.new (Fr.no' (Fr.r (In []) _) hf_5) (Nat.le_trans (Fr.size (Fr.r (In []) _)) hb_7) hf_6) hL_9
        obtain ⟨J_1, ⟨n_2, h0_1⟩, HB_2⟩ := H
        refine loop_intro (J := fun (n : Nat) (vs : List Value) (h' : Heap) => ∃ many12_1 : Int, vs = [(VI many12_1)] ∧ J_1 n many12_1 h' ∧ Vars h' [(b_4, [(Sl.v t33_1)]), (b_3, [(Sl.v nilSl)]), (b_2, [(Sl.v s2_1)]), (b_1, [(Sl.v g0_1)])]) n_2 ⟨0, rfl, h0_1, hL_9⟩ ?_
        intro I_1 mu_1 hI_1 junk_1 tv_2 h_10 hi_1
        obtain ⟨n_1, ⟨many12_1, hv, hJ_1, hL_10⟩, hn_1⟩ := hI_1 _ _ hi_1
        cases hv
        have H := HB_2 n_1 many12_1 h_10 hJ_1 hL_10
        refine rop_locA agg34 hL_10 0 rfl 0 (vs := [(Sl.v t33_1)]) rfl rfl ?_
        refine rop_locA agg32 hL_10 3 rfl 0 (vs := [(Sl.v g0_1)]) rfl rfl ?_
        refine H.mono fun rv_4 h_11 H => ?_
        obtain ⟨t36_1, rfl, hL_11, H⟩ := H
        refine pop_len t36_1 _ _ sli22 ?_
        refine pop_ieq .i64 _ _ (t36_1.n : Int) 0 ?_
        refine condM_b (fun hb_8 => ?_) (fun hb_8 => ?_)
        · have H := H.1 hb_8
          refine rop_locA agg34 hL_11 0 rfl 0 (vs := [(Sl.v t33_1)]) rfl rfl ?_
          refine H.mono fun rv_5 h_12 H => ?_
          obtain ⟨t65_1, t65_2, rfl, hL_12, H⟩ := H
          refine pop_ext (v := (Sl.v t65_1)) rfl ?_
          refine pop_ext (v := (VB t65_2)) rfl ?_
          refine pop_not t65_2 ?_
          refine condM_b (fun hb_9 => ?_) (fun hb_9 => ?_)
          · have H := H.1 hb_9
            refine pop.mk' (v := (Value.agg #[(Sl.v nilSl)])) (fun w => by kernel_rfl) ?_
            refine uop_loc siz34 hL_12 1 rfl 0 [(Sl.v nilSl)] rfl rfl rfl (Nat.le_of_ble_eq_true rfl) (L' := [(b_4, [(Sl.v t33_1)]), (b_3, [(Sl.v nilSl)]), (b_2, [(Sl.v s2_1)]), (b_1, [(Sl.v g0_1)])]) rfl (fun h_13 hf_7 hL_13 => ?_)
            refine rop_locA agg34 hL_13 1 rfl 0 (vs := [(Sl.v nilSl)]) rfl rfl ?_
            have H := H  h_13  (Fr.old (Fr.r (In []) _) hf_7) hL_13
            exact H
          · have H := H.2 hb_9
            refine rop_locA agg34 hL_12 0 rfl 0 (vs := [(Sl.v t33_1)]) rfl rfl ?_
            refine H.mono fun rv_6 h_14 H => ?_
            obtain ⟨t72_1, rfl, hL_14, H⟩ := H
            refine uop_loc siz34 hL_14 1 rfl 0 [(Sl.v t72_1)] rfl rfl rfl (Nat.le_of_ble_eq_true rfl) (L' := [(b_4, [(Sl.v t33_1)]), (b_3, [(Sl.v t72_1)]), (b_2, [(Sl.v s2_1)]), (b_1, [(Sl.v g0_1)])]) rfl (fun h_15 hf_8 hL_15 => ?_)
            refine rop_locA agg34 hL_15 1 rfl 0 (vs := [(Sl.v t72_1)]) rfl rfl ?_
            have H := H  h_15  (Fr.old (Fr.r (In []) _) hf_8) hL_15
            exact H
        · have H := H.2 hb_8
          refine pop_ieq .i64 _ _ many12_1 200 ?_
          refine condM_b (fun hb_10 => ?_) (fun hb_10 => ?_)
          · have H := H.1 hb_10
            refine pop.mk' (v := (Value.agg #[(Sl.v nilSl)])) (fun w => by kernel_rfl) ?_
            refine uop_loc siz34 hL_11 1 rfl 0 [(Sl.v nilSl)] rfl rfl rfl (Nat.le_of_ble_eq_true rfl) (L' := [(b_4, [(Sl.v t33_1)]), (b_3, [(Sl.v nilSl)]), (b_2, [(Sl.v s2_1)]), (b_1, [(Sl.v g0_1)])]) rfl (fun h_16 hf_9 hL_16 => ?_)
            refine rop_locA agg34 hL_16 1 rfl 0 (vs := [(Sl.v nilSl)]) rfl rfl ?_
            have H := H  h_16  (Fr.old (Fr.r (In []) _) hf_9) hL_16
            exact H
          · have H := H.2 hb_10
            obtain ⟨J_2, H, HB_1⟩ := H
            refine ⟨fun (vs : List Value) (h' : Heap) => ∃ x_1 : Int, vs = [(VI x_1)] ∧ J_2 x_1 h' ∧ Vars h' [(b_4, [(Sl.v t33_1)]), (b_3, [(Sl.v nilSl)]), (b_2, [(Sl.v s2_1)]), (b_1, [(Sl.v g0_1)])], ?_, ?_⟩
            · refine pop_len choices3_1 _ _ sli27 ?_
              refine pop_lss .i64 many12_1 (choices3_1.n : Int) ?_
              refine condM_b (fun hb_11 => ?_) (fun hb_11 => ?_)
              · have H := H.1 hb_11
                obtain ⟨hi_2, H⟩ := H
                refine pop_index sli27 siz3 .i64 choices3_1 many12_1 hi_2 ?_
                obtain ⟨t50_1, hc_1, H⟩ := H
                refine rop_one one3 (VI t50_1) hc_1 ?_
                refine pop_len t36_1 _ _ sli22 ?_
                obtain ⟨hz_1, H⟩ := H
                refine pop_rem .i64 t50_1 (t36_1.n : Int) hz_1 ?_
                exact ⟨(Int.tmod t50_1 (t36_1.n : Int)), rfl, H, hL_11⟩
              · have H := H.2 hb_11
                exact ⟨0, rfl, H, hL_11⟩
            intro junk_2 tv_1 h_17
            rintro ⟨x_1, hv, hJ_2, hL_17⟩
            cases hv
            have H := HB_1 x_1 h_17 hJ_2 hL_17
            refine rop_locA agg34 hL_17 0 rfl 0 (vs := [(Sl.v t33_1)]) rfl rfl ?_
            obtain ⟨hi_3, H⟩ := H
            refine pop_index sli22 siz27 .i64 t36_1 x_1 hi_3 ?_
            obtain ⟨t58_1, hc_2, H⟩ := H
            refine rop_one one27 (Sl.v t58_1) hc_2 ?_
            refine H.mono fun rv_7 h_18 H => ?_
            obtain ⟨hL_18, H⟩ := H
            refine pop_add .i64 many12_1 1 ?_
            obtain ⟨m_1, hm_1, H⟩ := H
            exact hn_1 _ _ ⟨m_1, hm_1, (w64 (many12_1 + 1)), rfl, H, hL_18⟩
    · have H := H.1 hb_5
      refine guardM_n' hb_5 (by decide) ?_
      refine pop_pickt' hb_5 ?_
      refine condM_t ?_
      refine pop.mk' (v := (Value.agg #[(Sl.v nilSl)])) (fun w => by kernel_rfl) ?_
      refine uop_loc siz34 hL_4 0 rfl 0 [(Sl.v nilSl)] rfl rfl rfl (Nat.le_of_ble_eq_true rfl) (L' := [(b_3, [(Sl.v nilSl)]), (b_2, [(Sl.v s2_1)]), (b_1, [(Sl.v g0_1)])]) rfl (fun h_19 hf_10 hL_19 => ?_)
      refine rop_locA agg34 hL_19 0 rfl 0 (vs := [(Sl.v nilSl)]) rfl rfl ?_
      have H := H  h_19  (Fr.old (Fr.r (In []) _) hf_10) hL_19
      exact H
  · have H := H.1 hb_4
    refine guardM_n' hb_4 (by decide) ?_
    refine guardM_n' hb_4 (by decide) ?_
    refine pop_pickt' hb_4 ?_
    refine guardM_n (by decide) ?_
    refine guardM_n (by decide) ?_
    refine pop_pickt _ _ ?_
    refine condM_t ?_
    refine pop.mk' (v := (Value.agg #[(Sl.v nilSl)])) (fun w => by kernel_rfl) ?_
    refine uop_loc siz34 hL_4 0 rfl 0 [(Sl.v nilSl)] rfl rfl rfl (Nat.le_of_ble_eq_true rfl) (L' := [(b_3, [(Sl.v nilSl)]), (b_2, [(Sl.v s2_1)]), (b_1, [(Sl.v g0_1)])]) rfl (fun h_20 hf_11 hL_20 => ?_)
    refine rop_locA agg34 hL_20 0 rfl 0 (vs := [(Sl.v nilSl)]) rfl rfl ?_
    have H := H  h_20  (Fr.old (Fr.r (In []) _) hf_11) hL_20
    exact H

/-! (impl.Stacks).tops -/
def u108 (P : Program) (s0_1 : Sl) (sink1_1 : Int) (h : Heap) (K : Value → Heap → Prop) : Prop :=
  ∀ (b_1 : Nat) (h_1 : Heap), h.size ≤ b_1 → Fr (In []) h h_1 → Vars h_1 [(b_1, [(Sl.v s0_1)])] →
  eop P (Instr.buildSlice 27 0 #[]) h_1 fun rv_1 h_2 => ∃ t9_1 : Sl, rv_1 = (Sl.v t9_1) ∧ Vars h_2 [(b_1, [(Sl.v s0_1)])] ∧
  ∃ J_1 : Nat → Sl → Int → Heap → Prop, (∃ n0 : Nat, J_1 n0 t9_1 0 h_2) ∧
  ∀ (n_1 : Nat) (out6_1 : Sl) (t13_1 : Int) (h_3 : Heap), J_1 n_1 out6_1 t13_1 h_3 → Vars h_3 [(b_1, [(Sl.v s0_1)])] →
  ((decide (t13_1 < (s0_1.n : Int))) = true →
  InB s0_1 t13_1 ∧
  ∃ t17_1 : Sl, hcell h_3 (Sl.at s0_1 t13_1 1) = some (Sl.v t17_1) ∧
  ((decide (t13_1 = sink1_1)) = true →
  eop P (Instr.buildSlice 27 1 #[(0, (Value.int IntKind.i64 0))]) h_3 fun rv_2 h_4 => ∃ t29_1 : Sl, rv_2 = (Sl.v t29_1) ∧ Vars h_4 [(b_1, [(Sl.v s0_1)])] ∧
  eop P (appS 27 27 27 (Sl.v out6_1) (Sl.v t29_1)) h_4 fun rv_3 h_5 => ∃ t30_1 : Sl, rv_3 = (Sl.v t30_1) ∧ Vars h_5 [(b_1, [(Sl.v s0_1)])] ∧
  ∃ m : Nat, m < n_1 ∧ J_1 m t30_1 (w64 (t13_1 + 1)) h_5) ∧
  ((decide (t13_1 = sink1_1)) = false →
  ((decide ((t17_1.n : Int) = 0)) = true →
  K (Value.tuple #[(Sl.v nilSl), (VB false)]) h_3) ∧
  ((decide ((t17_1.n : Int) = 0)) = false →
  InB t17_1 0 ∧
  ∃ t21_1 : Int, hcell h_3 (Sl.at t17_1 0 1) = some (VI t21_1) ∧
  eop P (Instr.buildSlice 27 1 #[(0, (VI t21_1))]) h_3 fun rv_4 h_6 => ∃ t22_1 : Sl, rv_4 = (Sl.v t22_1) ∧ Vars h_6 [(b_1, [(Sl.v s0_1)])] ∧
  eop P (appS 27 27 27 (Sl.v out6_1) (Sl.v t22_1)) h_6 fun rv_5 h_7 => ∃ t23_1 : Sl, rv_5 = (Sl.v t23_1) ∧ Vars h_7 [(b_1, [(Sl.v s0_1)])] ∧
  ∃ m : Nat, m < n_1 ∧ J_1 m t23_1 (w64 (t13_1 + 1)) h_7))) ∧
  ((decide (t13_1 < (s0_1.n : Int))) = false →
  K (Value.tuple #[(Sl.v out6_1), (VB true)]) h_3)
theorem v108 (s0_1 : Sl) (sink1_1 : Int) (h : Heap) (K : Value → Heap → Prop) (H : u108 Try.prog s0_1 sink1_1 h K) : callM Try.prog 108 #[(Value.agg #[(Sl.v s0_1)]), (VI sink1_1)] h K := by
  refine c108 (Value.agg #[(Sl.v s0_1)]) (VI sink1_1) h K ?_
  unfold u108 at H
  unfold t108
  have hL : Vars h [] := .nil
  refine eop_box 34 (Value.agg #[(Sl.v s0_1)]) rfl hL (fun b_1 h_1 hb_1 hf_1 hL_1 => ?_)
  have H := H b_1 h_1 (Nat.le_trans (Fr.size (Fr.r (In []) _)) hb_1) (Fr.no' (Fr.r (In []) _) hf_1) hL_1
  refine H.mono fun rv_1 h_2 H => ?_
  obtain ⟨t9_1, rfl, hL_2, H⟩ := H
  refine pop_field 0 fld34_0 b_1 0 ?_
  refine rop_loc one22 hL_2 0 rfl 0 (v := (Sl.v s0_1)) rfl ?_
  refine pop_len s0_1 _ _ sli22 ?_
  obtain ⟨J_1, ⟨n_2, h0_1⟩, HB_1⟩ := H
  refine loop_intro (J := fun (n : Nat) (vs : List Value) (h' : Heap) => ∃ out6_1 : Sl, ∃ t13_1 : Int, vs = [(Sl.v out6_1), (VI t13_1)] ∧ J_1 n out6_1 t13_1 h' ∧ Vars h' [(b_1, [(Sl.v s0_1)])]) n_2 ⟨t9_1, 0, rfl, h0_1, hL_2⟩ ?_
  intro I_1 mu_1 hI_1 junk_1 tv_1 tv_2 h_3 hi_1
  obtain ⟨n_1, ⟨out6_1, t13_1, hv, hJ_1, hL_3⟩, hn_1⟩ := hI_1 _ _ hi_1
  cases hv
  have H := HB_1 n_1 out6_1 t13_1 h_3 hJ_1 hL_3
  refine pop_lss .i64 t13_1 (s0_1.n : Int) ?_
  refine condM_b (fun hb_2 => ?_) (fun hb_2 => ?_)
  · have H := H.1 hb_2
    obtain ⟨hi_2, H⟩ := H
    refine pop_index sli22 siz27 .i64 s0_1 t13_1 hi_2 ?_
    obtain ⟨t17_1, hc_2, H⟩ := H
    refine rop_one one27 (Sl.v t17_1) hc_2 ?_
    refine pop_ieq .i64 _ _ t13_1 sink1_1 ?_
    refine condM_b (fun hb_3 => ?_) (fun hb_3 => ?_)
    · have H := H.1 hb_3
      refine H.mono fun rv_2 h_4 H => ?_
      obtain ⟨t29_1, rfl, hL_4, H⟩ := H
      refine H.mono fun rv_3 h_5 H => ?_
      obtain ⟨t30_1, rfl, hL_5, H⟩ := H
      refine pop_add .i64 t13_1 1 ?_
      obtain ⟨m_1, hm_1, H⟩ := H
      exact hn_1 _ _ ⟨m_1, hm_1, t30_1, (w64 (t13_1 + 1)), rfl, H, hL_5⟩
    · have H := H.2 hb_3
      refine pop_len t17_1 _ _ sli27 ?_
      refine pop_ieq .i64 _ _ (t17_1.n : Int) 0 ?_
      refine condM_b (fun hb_4 => ?_) (fun hb_4 => ?_)
      · have H := H.1 hb_4
        exact H
      · have H := H.2 hb_4
        obtain ⟨hi_3, H⟩ := H
        refine pop_index sli27 siz3 .i64 t17_1 0 hi_3 ?_
        obtain ⟨t21_1, hc_1, H⟩ := H
        refine rop_one one3 (VI t21_1) hc_1 ?_
        refine H.mono fun rv_4 h_6 H => ?_
        obtain ⟨t22_1, rfl, hL_6, H⟩ := H
        refine H.mono fun rv_5 h_7 H => ?_
        obtain ⟨t23_1, rfl, hL_7, H⟩ := H
        refine pop_add .i64 t13_1 1 ?_
        obtain ⟨m_2, hm_2, H⟩ := H
        exact hn_1 _ _ ⟨m_2, hm_2, t23_1, (w64 (t13_1 + 1)), rfl, H, hL_7⟩
  · have H := H.2 hb_2
    exact H

/-! impl.has$1 -/
def u111 (P : Program) (p0_1 : Int) (b_1 : Nat) (t1_1 : Sl) (h : Heap) (K : Value → Heap → Prop) : Prop :=
  callM P 102 #[(VI p0_1), (VI 0), (VI (w64 ((t1_1.n : Int) - 1)))] h fun rv_1 h_1 => ∃ t9_1 : Bool, rv_1 = (VB t9_1) ∧ Vars h_1 [(b_1, [(Sl.v t1_1)])] ∧
  K (VB (!t9_1)) h_1
theorem v111 (p0_1 : Int) (b_1 : Nat) (t1_1 : Sl) (h : Heap) (K : Value → Heap → Prop) (hL : Vars h [(b_1, [(Sl.v t1_1)])]) (H : u111 Try.prog p0_1 b_1 t1_1 h K) : callM Try.prog 111 #[(VI p0_1), (VP b_1 0)] h K := by
  refine c111 (VI p0_1) (VP b_1 0) h K ?_
  unfold u111 at H
  unfold t111
  refine pop_field 0 fld32_0 b_1 0 ?_
  refine rop_loc one22 hL 0 rfl 0 (v := (Sl.v t1_1)) rfl ?_
  refine pop_len t1_1 _ _ sli22 ?_
  refine pop_sub .i64 (t1_1.n : Int) 1 ?_
  refine H.mono fun rv_1 h_1 H => ?_
  obtain ⟨t9_1, rfl, hL_1, H⟩ := H
  refine pop_not t9_1 ?_
  exact H

/-! spec.l1In -/
def u113 (P : Program) (n0_1 : Int) (lo1_1 : Int) (hi2_1 : Int) (h : Heap) (K : Value → Heap → Prop) : Prop :=
  ((decide (lo1_1 ≤ n0_1)) = true →
  K (VB (decide (n0_1 ≤ hi2_1))) h) ∧
  ((decide (lo1_1 ≤ n0_1)) = false →
  K (VB false) h)
theorem v113 (n0_1 : Int) (lo1_1 : Int) (hi2_1 : Int) (h : Heap) (K : Value → Heap → Prop) (H : u113 Try.prog n0_1 lo1_1 hi2_1 h K) : callM Try.prog 113 #[(VI n0_1), (VI lo1_1), (VI hi2_1)] h K := by
  refine c113 (VI n0_1) (VI lo1_1) (VI hi2_1) h K ?_
  unfold u113 at H
  unfold t113
  have hL : Vars h [] := .nil
  refine pop_geq .i64 n0_1 lo1_1 ?_
  refine guardM_st (fun hb_1 => ?_) (fun hb_1 => ?_)
  · have H := H.1 hb_1
    refine guardM_y' hb_1 ?_
    refine guardM_y' hb_1 ?_
    refine pop_leq .i64 n0_1 hi2_1 ?_
    refine pop_pickt' hb_1 ?_
    exact H
  · have H := H.2 hb_1
    refine guardM_n' hb_1 (by decide) ?_
    refine guardM_n' hb_1 (by decide) ?_
    refine pop_pickf' hb_1 ?_
    exact H

/-! slices.Index[[]int,int] -/
def u114 (P : Program) (s0_1 : Sl) (v1_1 : Int) (h : Heap) (K : Value → Heap → Prop) : Prop :=
  ∃ J_1 : Nat → Int → Heap → Prop, (∃ n0 : Nat, J_1 n0 0 h) ∧
  ∀ (n_1 : Nat) (t8_1 : Int) (h_1 : Heap), J_1 n_1 t8_1 h_1 → Vars h_1 [] →
  ((decide (t8_1 < (s0_1.n : Int))) = true →
  InB s0_1 t8_1 ∧
  ∃ t15_1 : Int, hcell h_1 (Sl.at s0_1 t8_1 1) = some (VI t15_1) ∧
  ((decide (v1_1 = t15_1)) = true →
  K (VI t8_1) h_1) ∧
  ((decide (v1_1 = t15_1)) = false →
  ∃ m : Nat, m < n_1 ∧ J_1 m (w64 (t8_1 + 1)) h_1)) ∧
  ((decide (t8_1 < (s0_1.n : Int))) = false →
  K (VI (-1)) h_1)
theorem v114 (s0_1 : Sl) (v1_1 : Int) (h : Heap) (K : Value → Heap → Prop) (H : u114 Try.prog s0_1 v1_1 h K) : callM Try.prog 114 #[(Sl.v s0_1), (VI v1_1)] h K := by
  refine c114 (Sl.v s0_1) (VI v1_1) h K ?_
  unfold u114 at H
  unfold t114
  have hL : Vars h [] := .nil
  refine pop_len s0_1 _ _ sli27 ?_
  obtain ⟨J_1, ⟨n_2, h0_1⟩, HB_1⟩ := H
  refine loop_intro (J := fun (n : Nat) (vs : List Value) (h' : Heap) => ∃ t8_1 : Int, vs = [(VI t8_1)] ∧ J_1 n t8_1 h' ∧ Vars h' []) n_2 ⟨0, rfl, h0_1, hL⟩ ?_
  intro I_1 mu_1 hI_1 junk_1 tv_1 h_1 hi_1
  obtain ⟨n_1, ⟨t8_1, hv, hJ_1, hL_1⟩, hn_1⟩ := hI_1 _ _ hi_1
  cases hv
  have H := HB_1 n_1 t8_1 h_1 hJ_1 hL_1
  refine pop_lss .i64 t8_1 (s0_1.n : Int) ?_
  refine condM_b (fun hb_1 => ?_) (fun hb_1 => ?_)
  · have H := H.1 hb_1
    obtain ⟨hi_2, H⟩ := H
    refine pop_index sli27 siz3 .i64 s0_1 t8_1 hi_2 ?_
    obtain ⟨t15_1, hc_1, H⟩ := H
    refine rop_one one3 (VI t15_1) hc_1 ?_
    refine pop_ieq .i64 _ _ v1_1 t15_1 ?_
    refine condM_b (fun hb_2 => ?_) (fun hb_2 => ?_)
    · have H := H.1 hb_2
      exact H
    · have H := H.2 hb_2
      refine pop_add .i64 t8_1 1 ?_
      obtain ⟨m_1, hm_1, H⟩ := H
      exact hn_1 _ _ ⟨m_1, hm_1, (w64 (t8_1 + 1)), rfl, H, hL_1⟩
  · have H := H.2 hb_1
    exact H

/-! slices.Clone[[]int,int] -/
def u119 (P : Program) (s0_1 : Sl) (h : Heap) (K : Value → Heap → Prop) : Prop :=
  pop P (binE .eql 27 (.tmp 3) (.const (Value.slice none 0 0)) (Sl.v s0_1) (Value.slice none 0 0)) fun rv_1 => ∃ t4_1 : Bool, rv_1 = (VB t4_1) ∧ 
  (t4_1 = true →
  K (Sl.v nilSl) h) ∧
  (t4_1 = false →
  eop P (Instr.buildSlice 27 0 #[]) h fun rv_2 h_1 => ∃ t5_1 : Sl, rv_2 = (Sl.v t5_1) ∧ Vars h_1 [] ∧
  eop P (appS 27 27 27 (Sl.v t5_1) (Sl.v s0_1)) h_1 fun rv_3 h_2 => ∃ t7_1 : Sl, rv_3 = (Sl.v t7_1) ∧ Vars h_2 [] ∧
  K (Sl.v t7_1) h_2)
theorem v119 (s0_1 : Sl) (h : Heap) (K : Value → Heap → Prop) (H : u119 Try.prog s0_1 h K) : callM Try.prog 119 #[(Sl.v s0_1)] h K := by
  refine c119 (Sl.v s0_1) h K ?_
  unfold u119 at H
  unfold t119
  have hL : Vars h [] := .nil
  refine H.mono fun rv_1 H => ?_
  obtain ⟨t4_1, rfl, H⟩ := H
  refine condM_b (fun hb_1 => ?_) (fun hb_1 => ?_)
  · have H := H.1 hb_1
    exact H
  · have H := H.2 hb_1
    refine H.mono fun rv_2 h_1 H => ?_
    obtain ⟨t5_1, rfl, hL_1, H⟩ := H
    refine H.mono fun rv_3 h_2 H => ?_
    obtain ⟨t7_1, rfl, hL_2, H⟩ := H
    exact H

/-! spec.skCycle -/
def u120 (P : Program) (g0_1 : Sl) (s1_1 : Sl) (p2_1 : Int) (h : Heap) (K : Value → Heap → Prop) : Prop :=
  ∀ (b_1 : Nat) (b_2 : Nat) (h_2 : Heap), h.size ≤ b_1 → h.size ≤ b_2 → Fr (In []) h h_2 → Vars h_2 [(b_2, [(Sl.v s1_1)]), (b_1, [(Sl.v g0_1)])] →
  eop P (Instr.buildSlice 27 1 #[(0, (VI p2_1))]) h_2 fun rv_1 h_3 => ∃ t14_1 : Sl, rv_1 = (Sl.v t14_1) ∧ Vars h_3 [(b_2, [(Sl.v s1_1)]), (b_1, [(Sl.v g0_1)])] ∧
  callM P 100 #[(Value.agg #[(Sl.v g0_1)]), (Value.agg #[(Sl.v s1_1)]), (VI p2_1)] h_3 fun rv_2 h_4 => ∃ t18_1 : Int, rv_2 = (VI t18_1) ∧ Vars h_4 [(b_2, [(Sl.v s1_1)]), (b_1, [(Sl.v g0_1)])] ∧
  ∃ J_1 : Nat → Sl → Int → Int → Heap → Prop, (∃ n0 : Nat, J_1 n0 t14_1 t18_1 0 h_4) ∧
  ∀ (n_1 : Nat) (out7_1 : Sl) (q8_1 : Int) (n9_1 : Int) (h_5 : Heap), J_1 n_1 out7_1 q8_1 n9_1 h_5 → Vars h_5 [(b_2, [(Sl.v s1_1)]), (b_1, [(Sl.v g0_1)])] →
  ((decide (n9_1 < (g0_1.n : Int))) = true →
  ((decide (0 ≤ q8_1)) = true →
  ((!decide (q8_1 = p2_1)) = true →
  eop P (Instr.buildSlice 27 1 #[(0, (VI q8_1))]) h_5 fun rv_3 h_6 => ∃ t37_1 : Sl, rv_3 = (Sl.v t37_1) ∧ Vars h_6 [(b_2, [(Sl.v s1_1)]), (b_1, [(Sl.v g0_1)])] ∧
  eop P (appS 27 27 27 (Sl.v out7_1) (Sl.v t37_1)) h_6 fun rv_4 h_7 => ∃ t38_1 : Sl, rv_4 = (Sl.v t38_1) ∧ Vars h_7 [(b_2, [(Sl.v s1_1)]), (b_1, [(Sl.v g0_1)])] ∧
  callM P 100 #[(Value.agg #[(Sl.v g0_1)]), (Value.agg #[(Sl.v s1_1)]), (VI q8_1)] h_7 fun rv_5 h_8 => ∃ t42_1 : Int, rv_5 = (VI t42_1) ∧ Vars h_8 [(b_2, [(Sl.v s1_1)]), (b_1, [(Sl.v g0_1)])] ∧
  ∃ m : Nat, m < n_1 ∧ J_1 m t38_1 t42_1 (w64 (n9_1 + 1)) h_8) ∧
  ((!decide (q8_1 = p2_1)) = false →
  ∃ J_2 : Nat → Int → Int → Heap → Prop, (∃ n0 : Nat, J_2 n0 0 0 h_5) ∧
  ∀ (n_2 : Nat) (least10_1 : Int) (t48_1 : Int) (h_9 : Heap), J_2 n_2 least10_1 t48_1 h_9 → Vars h_9 [(b_2, [(Sl.v s1_1)]), (b_1, [(Sl.v g0_1)])] →
  ((decide (t48_1 < (out7_1.n : Int))) = true →
  InB out7_1 t48_1 ∧
  ∃ t52_1 : Int, hcell h_9 (Sl.at out7_1 t48_1 1) = some (VI t52_1) ∧
  InB out7_1 least10_1 ∧
  ∃ t57_1 : Int, hcell h_9 (Sl.at out7_1 least10_1 1) = some (VI t57_1) ∧
  ((decide (t52_1 < t57_1)) = true →
  ∃ m : Nat, m < n_2 ∧ J_2 m t48_1 (w64 (t48_1 + 1)) h_9) ∧
  ((decide (t52_1 < t57_1)) = false →
  ∃ m : Nat, m < n_2 ∧ J_2 m least10_1 (w64 (t48_1 + 1)) h_9)) ∧
  ((decide (t48_1 < (out7_1.n : Int))) = false →
  pop P (Instr.sliceAt 27 (Sl.v out7_1) (some (VI least10_1)) none none) fun rv_6 => ∃ t63_1 : Sl, rv_6 = (Sl.v t63_1) ∧ 
  pop P (Instr.sliceAt 27 (Sl.v out7_1) none (some (VI least10_1)) none) fun rv_7 => ∃ t67_1 : Sl, rv_7 = (Sl.v t67_1) ∧ 
  callM P 87 #[(Sl.v t63_1)] h_9 fun rv_8 h_10 => ∃ t64_1 : Sl, rv_8 = (Sl.v t64_1) ∧ Vars h_10 [(b_2, [(Sl.v s1_1)]), (b_1, [(Sl.v g0_1)])] ∧
  eop P (appS 27 27 27 (Sl.v t64_1) (Sl.v t67_1)) h_10 fun rv_9 h_11 => ∃ t68_1 : Sl, rv_9 = (Sl.v t68_1) ∧ Vars h_11 [(b_2, [(Sl.v s1_1)]), (b_1, [(Sl.v g0_1)])] ∧
  K (Sl.v t68_1) h_11))) ∧
  ((decide (0 ≤ q8_1)) = false →
  ((!decide (q8_1 = p2_1)) = true →
  K (Sl.v nilSl) h_5) ∧
  ((!decide (q8_1 = p2_1)) = false →
  ∃ J_3 : Nat → Int → Int → Heap → Prop, (∃ n0 : Nat, J_3 n0 0 0 h_5) ∧
  ∀ (n_4 : Nat) (least10_2 : Int) (t48_2 : Int) (h_12 : Heap), J_3 n_4 least10_2 t48_2 h_12 → Vars h_12 [(b_2, [(Sl.v s1_1)]), (b_1, [(Sl.v g0_1)])] →
  ((decide (t48_2 < (out7_1.n : Int))) = true →
  InB out7_1 t48_2 ∧
  ∃ t52_2 : Int, hcell h_12 (Sl.at out7_1 t48_2 1) = some (VI t52_2) ∧
  InB out7_1 least10_2 ∧
  ∃ t57_2 : Int, hcell h_12 (Sl.at out7_1 least10_2 1) = some (VI t57_2) ∧
  ((decide (t52_2 < t57_2)) = true →
  ∃ m : Nat, m < n_4 ∧ J_3 m t48_2 (w64 (t48_2 + 1)) h_12) ∧
  ((decide (t52_2 < t57_2)) = false →
  ∃ m : Nat, m < n_4 ∧ J_3 m least10_2 (w64 (t48_2 + 1)) h_12)) ∧
  ((decide (t48_2 < (out7_1.n : Int))) = false →
  pop P (Instr.sliceAt 27 (Sl.v out7_1) (some (VI least10_2)) none none) fun rv_10 => ∃ t63_2 : Sl, rv_10 = (Sl.v t63_2) ∧ 
  pop P (Instr.sliceAt 27 (Sl.v out7_1) none (some (VI least10_2)) none) fun rv_11 => ∃ t67_2 : Sl, rv_11 = (Sl.v t67_2) ∧ 
  callM P 87 #[(Sl.v t63_2)] h_12 fun rv_12 h_13 => ∃ t64_2 : Sl, rv_12 = (Sl.v t64_2) ∧ Vars h_13 [(b_2, [(Sl.v s1_1)]), (b_1, [(Sl.v g0_1)])] ∧
  eop P (appS 27 27 27 (Sl.v t64_2) (Sl.v t67_2)) h_13 fun rv_13 h_14 => ∃ t68_2 : Sl, rv_13 = (Sl.v t68_2) ∧ Vars h_14 [(b_2, [(Sl.v s1_1)]), (b_1, [(Sl.v g0_1)])] ∧
  K (Sl.v t68_2) h_14)))) ∧
  ((decide (n9_1 < (g0_1.n : Int))) = false →
  ((!decide (q8_1 = p2_1)) = true →
  K (Sl.v nilSl) h_5) ∧
  ((!decide (q8_1 = p2_1)) = false →
  ∃ J_4 : Nat → Int → Int → Heap → Prop, (∃ n0 : Nat, J_4 n0 0 0 h_5) ∧
  ∀ (n_6 : Nat) (least10_3 : Int) (t48_3 : Int) (h_15 : Heap), J_4 n_6 least10_3 t48_3 h_15 → Vars h_15 [(b_2, [(Sl.v s1_1)]), (b_1, [(Sl.v g0_1)])] →
  ((decide (t48_3 < (out7_1.n : Int))) = true →
  InB out7_1 t48_3 ∧
  ∃ t52_3 : Int, hcell h_15 (Sl.at out7_1 t48_3 1) = some (VI t52_3) ∧
  InB out7_1 least10_3 ∧
  ∃ t57_3 : Int, hcell h_15 (Sl.at out7_1 least10_3 1) = some (VI t57_3) ∧
  ((decide (t52_3 < t57_3)) = true →
  ∃ m : Nat, m < n_6 ∧ J_4 m t48_3 (w64 (t48_3 + 1)) h_15) ∧
  ((decide (t52_3 < t57_3)) = false →
  ∃ m : Nat, m < n_6 ∧ J_4 m least10_3 (w64 (t48_3 + 1)) h_15)) ∧
  ((decide (t48_3 < (out7_1.n : Int))) = false →
  pop P (Instr.sliceAt 27 (Sl.v out7_1) (some (VI least10_3)) none none) fun rv_14 => ∃ t63_3 : Sl, rv_14 = (Sl.v t63_3) ∧ 
  pop P (Instr.sliceAt 27 (Sl.v out7_1) none (some (VI least10_3)) none) fun rv_15 => ∃ t67_3 : Sl, rv_15 = (Sl.v t67_3) ∧ 
  callM P 87 #[(Sl.v t63_3)] h_15 fun rv_16 h_16 => ∃ t64_3 : Sl, rv_16 = (Sl.v t64_3) ∧ Vars h_16 [(b_2, [(Sl.v s1_1)]), (b_1, [(Sl.v g0_1)])] ∧
  eop P (appS 27 27 27 (Sl.v t64_3) (Sl.v t67_3)) h_16 fun rv_17 h_17 => ∃ t68_3 : Sl, rv_17 = (Sl.v t68_3) ∧ Vars h_17 [(b_2, [(Sl.v s1_1)]), (b_1, [(Sl.v g0_1)])] ∧
  K (Sl.v t68_3) h_17)))
theorem v120 (g0_1 : Sl) (s1_1 : Sl) (p2_1 : Int) (h : Heap) (K : Value → Heap → Prop) (H : u120 Try.prog g0_1 s1_1 p2_1 h K) : callM Try.prog 120 #[(Value.agg #[(Sl.v g0_1)]), (Value.agg #[(Sl.v s1_1)]), (VI p2_1)] h K := by
  refine c120 (Value.agg #[(Sl.v g0_1)]) (Value.agg #[(Sl.v s1_1)]) (VI p2_1) h K ?_
  unfold u120 at H
  unfold t120
  have hL : Vars h [] := .nil
  refine eop_box 32 (Value.agg #[(Sl.v g0_1)]) rfl hL (fun b_1 h_1 hb_1 hf_1 hL_1 => ?_)
  refine eop_box 34 (Value.agg #[(Sl.v s1_1)]) rfl hL_1 (fun b_2 h_2 hb_2 hf_2 hL_2 => ?_)
  have H := H b_1 b_2 h_2 (Nat.le_trans (Fr.size (Fr.r (In []) _)) hb_1) (Nat.le_trans (Fr.size (Fr.no' (Fr.r (In []) _) hf_1)) hb_2) (Fr.no' (Fr.no' (Fr.r (In []) _) hf_1) hf_2) hL_2
  refine H.mono fun rv_1 h_3 H => ?_
  obtain ⟨t14_1, rfl, hL_3, H⟩ := H
  refine rop_locA agg32 hL_3 1 rfl 0 (vs := [(Sl.v g0_1)]) rfl rfl ?_
  refine rop_locA agg34 hL_3 0 rfl 0 (vs := [(Sl.v s1_1)]) rfl rfl ?_
  refine H.mono fun rv_2 h_4 H => ?_
  obtain ⟨t18_1, rfl, hL_4, H⟩ := H
  obtain ⟨J_1, ⟨n_8, h0_4⟩, HB_4⟩ := H
  refine loop_intro (J := fun (n : Nat) (vs : List Value) (h' : Heap) => ∃ out7_1 : Sl, ∃ q8_1 : Int, ∃ n9_1 : Int, vs = [(Sl.v out7_1), (VI q8_1), (VI n9_1)] ∧ J_1 n out7_1 q8_1 n9_1 h' ∧ Vars h' [(b_2, [(Sl.v s1_1)]), (b_1, [(Sl.v g0_1)])]) n_8 ⟨t14_1, t18_1, 0, rfl, h0_4, hL_4⟩ ?_
  intro I_4 mu_4 hI_4 junk_1 tv_7 tv_8 tv_9 h_5 hi_1
  obtain ⟨n_1, ⟨out7_1, q8_1, n9_1, hv, hJ_1, hL_5⟩, hn_1⟩ := hI_4 _ _ hi_1
  cases hv
  have H := HB_4 n_1 out7_1 q8_1 n9_1 h_5 hJ_1 hL_5
  refine pop_field 0 fld32_0 b_1 0 ?_
  refine rop_loc one22 hL_5 1 rfl 0 (v := (Sl.v g0_1)) rfl ?_
  refine pop_len g0_1 _ _ sli22 ?_
  refine pop_lss .i64 n9_1 (g0_1.n : Int) ?_
  refine guardM_st (fun hb_3 => ?_) (fun hb_3 => ?_)
  · have H := H.1 hb_3
    refine guardM_y' hb_3 ?_
    refine pop_geq .i64 q8_1 0 ?_
    refine pop_pickt' hb_3 ?_
    refine guardM_st (fun hb_4 => ?_) (fun hb_4 => ?_)
    · have H := H.1 hb_4
      refine guardM_y' hb_4 ?_
      refine guardM_y' hb_4 ?_
      refine pop_ine .i64 _ _ q8_1 p2_1 ?_
      refine pop_pickt' hb_4 ?_
      refine condM_b (fun hb_5 => ?_) (fun hb_5 => ?_)
      · have H := H.1 hb_5
        refine H.mono fun rv_3 h_6 H => ?_
        obtain ⟨t37_1, rfl, hL_6, H⟩ := H
        refine H.mono fun rv_4 h_7 H => ?_
        obtain ⟨t38_1, rfl, hL_7, H⟩ := H
        refine rop_locA agg32 hL_7 1 rfl 0 (vs := [(Sl.v g0_1)]) rfl rfl ?_
        refine rop_locA agg34 hL_7 0 rfl 0 (vs := [(Sl.v s1_1)]) rfl rfl ?_
        refine H.mono fun rv_5 h_8 H => ?_
        obtain ⟨t42_1, rfl, hL_8, H⟩ := H
        refine pop_add .i64 n9_1 1 ?_
        obtain ⟨m_1, hm_1, H⟩ := H
        exact hn_1 _ _ ⟨m_1, hm_1, t38_1, t42_1, (w64 (n9_1 + 1)), rfl, H, hL_8⟩
      · have H := H.2 hb_5
        refine pop_ine .i64 _ _ q8_1 p2_1 ?_
        refine condM_f' hb_5 ?_
        refine pop_len out7_1 _ _ sli27 ?_
        obtain ⟨J_2, ⟨n_3, h0_1⟩, HB_1⟩ := H
        refine loop_intro (J := fun (n : Nat) (vs : List Value) (h' : Heap) => ∃ least10_1 : Int, ∃ t48_1 : Int, vs = [(VI least10_1), (VI t48_1)] ∧ J_2 n least10_1 t48_1 h' ∧ Vars h' [(b_2, [(Sl.v s1_1)]), (b_1, [(Sl.v g0_1)])]) n_3 ⟨0, 0, rfl, h0_1, hL_5⟩ ?_
        intro I_1 mu_1 hI_1 junk_2 tv_1 tv_2 h_9 hi_2
        obtain ⟨n_2, ⟨least10_1, t48_1, hv, hJ_2, hL_9⟩, hn_2⟩ := hI_1 _ _ hi_2
        cases hv
        have H := HB_1 n_2 least10_1 t48_1 h_9 hJ_2 hL_9
        refine pop_lss .i64 t48_1 (out7_1.n : Int) ?_
        refine condM_b (fun hb_6 => ?_) (fun hb_6 => ?_)
        · have H := H.1 hb_6
          obtain ⟨hi_3, H⟩ := H
          refine pop_index sli27 siz3 .i64 out7_1 t48_1 hi_3 ?_
          obtain ⟨t52_1, hc_2, H⟩ := H
          refine rop_one one3 (VI t52_1) hc_2 ?_
          obtain ⟨hi_4, H⟩ := H
          refine pop_index sli27 siz3 .i64 out7_1 least10_1 hi_4 ?_
          obtain ⟨t57_1, hc_1, H⟩ := H
          refine rop_one one3 (VI t57_1) hc_1 ?_
          refine pop_lss .i64 t52_1 t57_1 ?_
          refine condM_b (fun hb_7 => ?_) (fun hb_7 => ?_)
          · have H := H.1 hb_7
            refine pop_add .i64 t48_1 1 ?_
            obtain ⟨m_2, hm_2, H⟩ := H
            exact hn_2 _ _ ⟨m_2, hm_2, t48_1, (w64 (t48_1 + 1)), rfl, H, hL_9⟩
          · have H := H.2 hb_7
            refine pop_add .i64 t48_1 1 ?_
            obtain ⟨m_3, hm_3, H⟩ := H
            exact hn_2 _ _ ⟨m_3, hm_3, least10_1, (w64 (t48_1 + 1)), rfl, H, hL_9⟩
        · have H := H.2 hb_6
          refine H.mono fun rv_6 H => ?_
          obtain ⟨t63_1, rfl, H⟩ := H
          refine H.mono fun rv_7 H => ?_
          obtain ⟨t67_1, rfl, H⟩ := H
          refine H.mono fun rv_8 h_10 H => ?_
          obtain ⟨t64_1, rfl, hL_10, H⟩ := H
          refine H.mono fun rv_9 h_11 H => ?_
          obtain ⟨t68_1, rfl, hL_11, H⟩ := H
          exact H
    · have H := H.2 hb_4
      refine guardM_n' hb_4 (by decide) ?_
      refine guardM_n' hb_4 (by decide) ?_
      refine pop_pickf' hb_4 ?_
      refine condM_f ?_
      refine pop_ine .i64 _ _ q8_1 p2_1 ?_
      refine condM_b (fun hb_8 => ?_) (fun hb_8 => ?_)
      · have H := H.1 hb_8
        exact H
      · have H := H.2 hb_8
        refine pop_len out7_1 _ _ sli27 ?_
        obtain ⟨J_3, ⟨n_5, h0_2⟩, HB_2⟩ := H
        refine loop_intro (J := fun (n : Nat) (vs : List Value) (h' : Heap) => ∃ least10_2 : Int, ∃ t48_2 : Int, vs = [(VI least10_2), (VI t48_2)] ∧ J_3 n least10_2 t48_2 h' ∧ Vars h' [(b_2, [(Sl.v s1_1)]), (b_1, [(Sl.v g0_1)])]) n_5 ⟨0, 0, rfl, h0_2, hL_5⟩ ?_
        intro I_2 mu_2 hI_2 junk_3 tv_3 tv_4 h_12 hi_5
        obtain ⟨n_4, ⟨least10_2, t48_2, hv, hJ_3, hL_12⟩, hn_3⟩ := hI_2 _ _ hi_5
        cases hv
        have H := HB_2 n_4 least10_2 t48_2 h_12 hJ_3 hL_12
        refine pop_lss .i64 t48_2 (out7_1.n : Int) ?_
        refine condM_b (fun hb_9 => ?_) (fun hb_9 => ?_)
        · have H := H.1 hb_9
          obtain ⟨hi_6, H⟩ := H
          refine pop_index sli27 siz3 .i64 out7_1 t48_2 hi_6 ?_
          obtain ⟨t52_2, hc_4, H⟩ := H
          refine rop_one one3 (VI t52_2) hc_4 ?_
          obtain ⟨hi_7, H⟩ := H
          refine pop_index sli27 siz3 .i64 out7_1 least10_2 hi_7 ?_
          obtain ⟨t57_2, hc_3, H⟩ := H
          refine rop_one one3 (VI t57_2) hc_3 ?_
          refine pop_lss .i64 t52_2 t57_2 ?_
          refine condM_b (fun hb_10 => ?_) (fun hb_10 => ?_)
          · have H := H.1 hb_10
            refine pop_add .i64 t48_2 1 ?_
            obtain ⟨m_4, hm_4, H⟩ := H
            exact hn_3 _ _ ⟨m_4, hm_4, t48_2, (w64 (t48_2 + 1)), rfl, H, hL_12⟩
          · have H := H.2 hb_10
            refine pop_add .i64 t48_2 1 ?_
            obtain ⟨m_5, hm_5, H⟩ := H
            exact hn_3 _ _ ⟨m_5, hm_5, least10_2, (w64 (t48_2 + 1)), rfl, H, hL_12⟩
        · have H := H.2 hb_9
          refine H.mono fun rv_10 H => ?_
          obtain ⟨t63_2, rfl, H⟩ := H
          refine H.mono fun rv_11 H => ?_
          obtain ⟨t67_2, rfl, H⟩ := H
          refine H.mono fun rv_12 h_13 H => ?_
          obtain ⟨t64_2, rfl, hL_13, H⟩ := H
          refine H.mono fun rv_13 h_14 H => ?_
          obtain ⟨t68_2, rfl, hL_14, H⟩ := H
          exact H
  · have H := H.2 hb_3
    refine guardM_n' hb_3 (by decide) ?_
    refine pop_pickf' hb_3 ?_
    refine guardM_n (by decide) ?_
    refine guardM_n (by decide) ?_
    refine guardM_n (by decide) ?_
    refine pop_pickf _ _ ?_
    refine condM_f ?_
    refine pop_ine .i64 _ _ q8_1 p2_1 ?_
    refine condM_b (fun hb_11 => ?_) (fun hb_11 => ?_)
    · have H := H.1 hb_11
      exact H
    · have H := H.2 hb_11
      refine pop_len out7_1 _ _ sli27 ?_
      obtain ⟨J_4, ⟨n_7, h0_3⟩, HB_3⟩ := H
      refine loop_intro (J := fun (n : Nat) (vs : List Value) (h' : Heap) => ∃ least10_3 : Int, ∃ t48_3 : Int, vs = [(VI least10_3), (VI t48_3)] ∧ J_4 n least10_3 t48_3 h' ∧ Vars h' [(b_2, [(Sl.v s1_1)]), (b_1, [(Sl.v g0_1)])]) n_7 ⟨0, 0, rfl, h0_3, hL_5⟩ ?_
      intro I_3 mu_3 hI_3 junk_4 tv_5 tv_6 h_15 hi_8
      obtain ⟨n_6, ⟨least10_3, t48_3, hv, hJ_4, hL_15⟩, hn_4⟩ := hI_3 _ _ hi_8
      cases hv
      have H := HB_3 n_6 least10_3 t48_3 h_15 hJ_4 hL_15
      refine pop_lss .i64 t48_3 (out7_1.n : Int) ?_
      refine condM_b (fun hb_12 => ?_) (fun hb_12 => ?_)
      · have H := H.1 hb_12
        obtain ⟨hi_9, H⟩ := H
        refine pop_index sli27 siz3 .i64 out7_1 t48_3 hi_9 ?_
        obtain ⟨t52_3, hc_6, H⟩ := H
        refine rop_one one3 (VI t52_3) hc_6 ?_
        obtain ⟨hi_10, H⟩ := H
        refine pop_index sli27 siz3 .i64 out7_1 least10_3 hi_10 ?_
        obtain ⟨t57_3, hc_5, H⟩ := H
        refine rop_one one3 (VI t57_3) hc_5 ?_
        refine pop_lss .i64 t52_3 t57_3 ?_
        refine condM_b (fun hb_13 => ?_) (fun hb_13 => ?_)
        · have H := H.1 hb_13
          refine pop_add .i64 t48_3 1 ?_
          obtain ⟨m_6, hm_6, H⟩ := H
          exact hn_4 _ _ ⟨m_6, hm_6, t48_3, (w64 (t48_3 + 1)), rfl, H, hL_15⟩
        · have H := H.2 hb_13
          refine pop_add .i64 t48_3 1 ?_
          obtain ⟨m_7, hm_7, H⟩ := H
          exact hn_4 _ _ ⟨m_7, hm_7, least10_3, (w64 (t48_3 + 1)), rfl, H, hL_15⟩
      · have H := H.2 hb_12
        refine H.mono fun rv_14 H => ?_
        obtain ⟨t63_3, rfl, H⟩ := H
        refine H.mono fun rv_15 H => ?_
        obtain ⟨t67_3, rfl, H⟩ := H
        refine H.mono fun rv_16 h_16 H => ?_
        obtain ⟨t64_3, rfl, hL_16, H⟩ := H
        refine H.mono fun rv_17 h_17 H => ?_
        obtain ⟨t68_3, rfl, hL_17, H⟩ := H
        exact H

/-! slices.IndexFunc[[]int,int] -/
def u121 (P : Program) (s0_1 : Sl) (f1_1 : Value) (h : Heap) (K : Value → Heap → Prop) : Prop :=
  ∃ J_1 : Nat → Int → Heap → Prop, (∃ n0 : Nat, J_1 n0 0 h) ∧
  ∀ (n_1 : Nat) (t8_1 : Int) (h_1 : Heap), J_1 n_1 t8_1 h_1 → Vars h_1 [] →
  ((decide (t8_1 < (s0_1.n : Int))) = true →
  InB s0_1 t8_1 ∧
  ∃ t15_1 : Int, hcell h_1 (Sl.at s0_1 t8_1 1) = some (VI t15_1) ∧
  callV P f1_1 [(VI t15_1)] h_1 fun rv_1 h_2 => ∃ t16_1 : Bool, rv_1 = (VB t16_1) ∧ Vars h_2 [] ∧
  (t16_1 = true →
  K (VI t8_1) h_2) ∧
  (t16_1 = false →
  ∃ m : Nat, m < n_1 ∧ J_1 m (w64 (t8_1 + 1)) h_2)) ∧
  ((decide (t8_1 < (s0_1.n : Int))) = false →
  K (VI (-1)) h_1)
theorem v121 (s0_1 : Sl) (f1_1 : Value) (h : Heap) (K : Value → Heap → Prop) (H : u121 Try.prog s0_1 f1_1 h K) : callM Try.prog 121 #[(Sl.v s0_1), f1_1] h K := by
  refine c121 (Sl.v s0_1) f1_1 h K ?_
  unfold u121 at H
  unfold t121
  have hL : Vars h [] := .nil
  refine pop_len s0_1 _ _ sli27 ?_
  obtain ⟨J_1, ⟨n_2, h0_1⟩, HB_1⟩ := H
  refine loop_intro (J := fun (n : Nat) (vs : List Value) (h' : Heap) => ∃ t8_1 : Int, vs = [(VI t8_1)] ∧ J_1 n t8_1 h' ∧ Vars h' []) n_2 ⟨0, rfl, h0_1, hL⟩ ?_
  intro I_1 mu_1 hI_1 junk_1 tv_1 h_1 hi_1
  obtain ⟨n_1, ⟨t8_1, hv, hJ_1, hL_1⟩, hn_1⟩ := hI_1 _ _ hi_1
  cases hv
  have H := HB_1 n_1 t8_1 h_1 hJ_1 hL_1
  refine pop_lss .i64 t8_1 (s0_1.n : Int) ?_
  refine condM_b (fun hb_1 => ?_) (fun hb_1 => ?_)
  · have H := H.1 hb_1
    obtain ⟨hi_2, H⟩ := H
    refine pop_index sli27 siz3 .i64 s0_1 t8_1 hi_2 ?_
    obtain ⟨t15_1, hc_1, H⟩ := H
    refine rop_one one3 (VI t15_1) hc_1 ?_
    refine H.mono fun rv_1 h_2 H => ?_
    obtain ⟨t16_1, rfl, hL_2, H⟩ := H
    refine condM_b (fun hb_2 => ?_) (fun hb_2 => ?_)
    · have H := H.1 hb_2
      exact H
    · have H := H.2 hb_2
      refine pop_add .i64 t8_1 1 ?_
      obtain ⟨m_1, hm_1, H⟩ := H
      exact hn_1 _ _ ⟨m_1, hm_1, (w64 (t8_1 + 1)), rfl, H, hL_2⟩
  · have H := H.2 hb_1
    exact H

/-! slices.Collect[int] -/
def u122 (P : Program) (seq0_1 : Value) (h : Heap) (K : Value → Heap → Prop) : Prop :=
  callM P 136 #[(Sl.v nilSl), seq0_1] h fun rv_1 h_1 => ∃ t4_1 : Sl, rv_1 = (Sl.v t4_1) ∧ Vars h_1 [] ∧
  K (Sl.v t4_1) h_1
theorem v122 (seq0_1 : Value) (h : Heap) (K : Value → Heap → Prop) (H : u122 Try.prog seq0_1 h K) : callM Try.prog 122 #[seq0_1] h K := by
  refine c122 seq0_1 h K ?_
  unfold u122 at H
  unfold t122
  have hL : Vars h [] := .nil
  refine H.mono fun rv_1 h_1 H => ?_
  obtain ⟨t4_1, rfl, hL_1, H⟩ := H
  exact H

/-! slices.Sort[[]int,int] -/
def u123 (P : Program) (x0_1 : Sl) (h : Heap) (K : Value → Heap → Prop) : Prop :=
  rop P (convert 3 133 (VI (x0_1.n : Int))) h fun rv_1 => ∃ t8_1 : Int, rv_1 = (Value.int .u64 t8_1) ∧ 
  callM P 138 #[(Value.int .u64 t8_1)] h fun rv_2 h_1 => ∃ t9_1 : Int, rv_2 = (VI t9_1) ∧ Vars h_1 [] ∧
  callM P 137 #[(Sl.v x0_1), (VI 0), (VI (x0_1.n : Int)), (VI t9_1)] h_1 fun rv_3 h_2 => Vars h_2 [] ∧
  K (Value.tuple #[]) h_2
theorem v123 (x0_1 : Sl) (h : Heap) (K : Value → Heap → Prop) (H : u123 Try.prog x0_1 h K) : callM Try.prog 123 #[(Sl.v x0_1)] h K := by
  refine c123 (Sl.v x0_1) h K ?_
  unfold u123 at H
  unfold t123
  have hL : Vars h [] := .nil
  refine pop_len x0_1 _ _ sli27 ?_
  refine H.mono fun rv_1 H => ?_
  obtain ⟨t8_1, rfl, H⟩ := H
  refine H.mono fun rv_2 h_1 H => ?_
  obtain ⟨t9_1, rfl, hL_1, H⟩ := H
  refine H.mono fun rv_3 h_2 H => ?_
  obtain ⟨hL_2, H⟩ := H
  exact H

/-! slices.Values[[]int,int]$1 -/
def u124 (P : Program) (yield0_1 : Value) (b_1 : Nat) (t1_1 : Sl) (h : Heap) (K : Value → Heap → Prop) : Prop :=
  ∃ J_1 : Nat → Int → Heap → Prop, (∃ n0 : Nat, J_1 n0 0 h) ∧
  ∀ (n_1 : Nat) (t7_1 : Int) (h_1 : Heap), J_1 n_1 t7_1 h_1 → Vars h_1 [(b_1, [(Sl.v t1_1)])] →
  ((decide (t7_1 < (t1_1.n : Int))) = true →
  InB t1_1 t7_1 ∧
  ∃ t10_1 : Int, hcell h_1 (Sl.at t1_1 t7_1 1) = some (VI t10_1) ∧
  callV P yield0_1 [(VI t10_1)] h_1 fun rv_1 h_2 => ∃ t13_1 : Bool, rv_1 = (VB t13_1) ∧ Vars h_2 [(b_1, [(Sl.v t1_1)])] ∧
  ((!t13_1) = true →
  K (Value.tuple #[]) h_2) ∧
  ((!t13_1) = false →
  ∃ m : Nat, m < n_1 ∧ J_1 m (w64 (t7_1 + 1)) h_2)) ∧
  ((decide (t7_1 < (t1_1.n : Int))) = false →
  K (Value.tuple #[]) h_1)
theorem v124 (yield0_1 : Value) (b_1 : Nat) (t1_1 : Sl) (h : Heap) (K : Value → Heap → Prop) (hL : Vars h [(b_1, [(Sl.v t1_1)])]) (H : u124 Try.prog yield0_1 b_1 t1_1 h K) : callM Try.prog 124 #[yield0_1, (VP b_1 0)] h K := by
  refine c124 yield0_1 (VP b_1 0) h K ?_
  unfold u124 at H
  unfold t124
  refine rop_loc one27 hL 0 rfl 0 (v := (Sl.v t1_1)) rfl ?_
  refine pop_len t1_1 _ _ sli27 ?_
  obtain ⟨J_1, ⟨n_2, h0_1⟩, HB_1⟩ := H
  refine loop_intro (J := fun (n : Nat) (vs : List Value) (h' : Heap) => ∃ t7_1 : Int, vs = [(VI t7_1)] ∧ J_1 n t7_1 h' ∧ Vars h' [(b_1, [(Sl.v t1_1)])]) n_2 ⟨0, rfl, h0_1, hL⟩ ?_
  intro I_1 mu_1 hI_1 junk_1 tv_1 h_1 hi_1
  obtain ⟨n_1, ⟨t7_1, hv, hJ_1, hL_1⟩, hn_1⟩ := hI_1 _ _ hi_1
  cases hv
  have H := HB_1 n_1 t7_1 h_1 hJ_1 hL_1
  refine pop_lss .i64 t7_1 (t1_1.n : Int) ?_
  refine condM_b (fun hb_1 => ?_) (fun hb_1 => ?_)
  · have H := H.1 hb_1
    obtain ⟨hi_2, H⟩ := H
    refine pop_index sli27 siz3 .i64 t1_1 t7_1 hi_2 ?_
    obtain ⟨t10_1, hc_1, H⟩ := H
    refine rop_one one3 (VI t10_1) hc_1 ?_
    refine H.mono fun rv_1 h_2 H => ?_
    obtain ⟨t13_1, rfl, hL_2, H⟩ := H
    refine pop_not t13_1 ?_
    refine condM_b (fun hb_2 => ?_) (fun hb_2 => ?_)
    · have H := H.1 hb_2
      exact H
    · have H := H.2 hb_2
      refine pop_add .i64 t7_1 1 ?_
      obtain ⟨m_1, hm_1, H⟩ := H
      exact hn_1 _ _ ⟨m_1, hm_1, (w64 (t7_1 + 1)), rfl, H, hL_2⟩
  · have H := H.2 hb_1
    exact H

/-! impl.areStacks -/
def u125 (P : Program) (g0_1 : Sl) (sink1_1 : Int) (s2_1 : Sl) (h : Heap) (K : Value → Heap → Prop) : Prop :=
  ∀ (b_1 : Nat) (b_2 : Nat) (h_2 : Heap), h.size ≤ b_1 → h.size ≤ b_2 → Fr (In []) h h_2 → Vars h_2 [(b_2, [(Sl.v s2_1)]), (b_1, [(Sl.v g0_1)])] →
  eop P (Instr.buildSlice 27 1 #[(0, (VI sink1_1))]) h_2 fun rv_1 h_3 => ∃ t11_1 : Sl, rv_1 = (Sl.v t11_1) ∧ Vars h_3 [(b_2, [(Sl.v s2_1)]), (b_1, [(Sl.v g0_1)])] ∧
  callM P 65 #[(Value.agg #[(Sl.v g0_1)]), (Sl.v t11_1)] h_3 fun rv_2 h_4 => ∃ t12_1 : Bool, rv_2 = (VB t12_1) ∧ Vars h_4 [(b_2, [(Sl.v s2_1)]), (b_1, [(Sl.v g0_1)])] ∧
  ((!t12_1) = true →
  K (VB false) h_4) ∧
  ((!t12_1) = false →
  ((!decide ((s2_1.n : Int) = (g0_1.n : Int))) = true →
  K (VB false) h_4) ∧
  ((!decide ((s2_1.n : Int) = (g0_1.n : Int))) = false →
  InB s2_1 sink1_1 ∧
  ∃ t28_1 : Sl, hcell h_4 (Sl.at s2_1 sink1_1 1) = some (Sl.v t28_1) ∧
  ((!decide ((t28_1.n : Int) = 0)) = true →
  K (VB false) h_4) ∧
  ((!decide ((t28_1.n : Int) = 0)) = false →
  ∃ J_1 : Nat → Int → Sl → Heap → Prop, (∃ n0 : Nat, J_1 n0 0 g0_1 h_4) ∧
  ∀ (n_1 : Nat) (t35_1 : Int) (x_1 : Sl) (h_5 : Heap), J_1 n_1 t35_1 x_1 h_5 → Vars h_5 [(b_2, [(Sl.v s2_1)]), (b_1, [(Sl.v x_1)])] →
  ((decide (t35_1 < (s2_1.n : Int))) = true →
  InB s2_1 t35_1 ∧
  ∃ t39_1 : Sl, hcell h_5 (Sl.at s2_1 t35_1 1) = some (Sl.v t39_1) ∧
  ((decide (12 < (t39_1.n : Int))) = true →
  ∀ (b_3 : Nat) (h_7 : Heap), h_5.size ≤ b_3 → Fr (In []) h_5 h_7 → Vars h_7 [(b_3, [(VI t35_1)]), (b_2, [(Sl.v s2_1)]), (b_1, [(Sl.v x_1)])] →
  K (VB false) h_7) ∧
  ((decide (12 < (t39_1.n : Int))) = false →
  ∀ (b_3 : Nat) (h_7 : Heap), h_5.size ≤ b_3 → Fr (In []) h_5 h_7 → Vars h_7 [(b_3, [(VI t35_1)]), (b_2, [(Sl.v s2_1)]), (b_1, [(Sl.v x_1)])] →
  callM P 103 #[(Sl.v t39_1), (Value.func (Fn.func 139) #[] #[(VP b_1 0), (VP b_3 0)])] h_7 fun rv_3 h_8 => ∃ x_2 : Int, ∃ x_3 : Sl, ∃ t46_1 : Bool, rv_3 = (VB t46_1) ∧ Vars h_8 [(b_3, [(VI x_2)]), (b_2, [(Sl.v s2_1)]), (b_1, [(Sl.v x_3)])] ∧
  (t46_1 = true →
  K (VB false) h_8) ∧
  (t46_1 = false →
  ∃ m : Nat, m < n_1 ∧ J_1 m (w64 (t35_1 + 1)) x_3 h_8))) ∧
  ((decide (t35_1 < (s2_1.n : Int))) = false →
  K (VB true) h_5))))
theorem v125 (g0_1 : Sl) (sink1_1 : Int) (s2_1 : Sl) (h : Heap) (K : Value → Heap → Prop) (H : u125 Try.prog g0_1 sink1_1 s2_1 h K) : callM Try.prog 125 #[(Value.agg #[(Sl.v g0_1)]), (VI sink1_1), (Value.agg #[(Sl.v s2_1)])] h K := by
  refine c125 (Value.agg #[(Sl.v g0_1)]) (VI sink1_1) (Value.agg #[(Sl.v s2_1)]) h K ?_
  unfold u125 at H
  unfold t125
  have hL : Vars h [] := .nil
  refine eop_box 32 (Value.agg #[(Sl.v g0_1)]) rfl hL (fun b_1 h_1 hb_1 hf_1 hL_1 => ?_)
  refine eop_box 34 (Value.agg #[(Sl.v s2_1)]) rfl hL_1 (fun b_2 h_2 hb_2 hf_2 hL_2 => ?_)
  refine rop_locA agg32 hL_2 1 rfl 0 (vs := [(Sl.v g0_1)]) rfl rfl ?_
  have H := H b_1 b_2 h_2 (Nat.le_trans (Fr.size (Fr.r (In []) _)) hb_1) (Nat.le_trans (Fr.size (Fr.no' (Fr.r (In []) _) hf_1)) hb_2) (Fr.no' (Fr.no' (Fr.r (In []) _) hf_1) hf_2) hL_2
  refine H.mono fun rv_1 h_3 H => ?_
  obtain ⟨t11_1, rfl, hL_3, H⟩ := H
  refine H.mono fun rv_2 h_4 H => ?_
  obtain ⟨t12_1, rfl, hL_4, H⟩ := H
  refine pop_not t12_1 ?_
  refine guardM_sf (fun hb_3 => ?_) (fun hb_3 => ?_)
  · have H := H.2 hb_3
    refine pop_field 0 fld34_0 b_2 0 ?_
    refine guardM_y' hb_3 ?_
    refine rop_loc one22 hL_4 0 rfl 0 (v := (Sl.v s2_1)) rfl ?_
    refine guardM_y' hb_3 ?_
    refine pop_len s2_1 _ _ sli22 ?_
    refine guardM_y' hb_3 ?_
    refine pop_field 0 fld32_0 b_1 0 ?_
    refine guardM_y' hb_3 ?_
    refine rop_loc one22 hL_4 1 rfl 0 (v := (Sl.v g0_1)) rfl ?_
    refine guardM_y' hb_3 ?_
    refine pop_len g0_1 _ _ sli22 ?_
    refine guardM_y' hb_3 ?_
    refine pop_ine .i64 _ _ (s2_1.n : Int) (g0_1.n : Int) ?_
    refine pop_pickf' hb_3 ?_
    refine guardM_sf (fun hb_4 => ?_) (fun hb_4 => ?_)
    · have H := H.2 hb_4
      refine pop_field 0 fld34_0 b_2 0 ?_
      refine guardM_y' hb_4 ?_
      refine rop_loc one22 hL_4 0 rfl 0 (v := (Sl.v s2_1)) rfl ?_
      refine guardM_y' hb_4 ?_
      refine guardM_y' hb_4 ?_
      obtain ⟨hi_1, H⟩ := H
      refine pop_index sli22 siz27 .i64 s2_1 sink1_1 hi_1 ?_
      refine guardM_y' hb_4 ?_
      obtain ⟨t28_1, hc_2, H⟩ := H
      refine rop_one one27 (Sl.v t28_1) hc_2 ?_
      refine guardM_y' hb_4 ?_
      refine pop_len t28_1 _ _ sli27 ?_
      refine guardM_y' hb_4 ?_
      refine pop_ine .i64 _ _ (t28_1.n : Int) 0 ?_
      refine pop_pickf' hb_4 ?_
      refine condM_b (fun hb_5 => ?_) (fun hb_5 => ?_)
      · have H := H.1 hb_5
        exact H
      · have H := H.2 hb_5
        refine pop_field 0 fld34_0 b_2 0 ?_
        refine rop_loc one22 hL_4 0 rfl 0 (v := (Sl.v s2_1)) rfl ?_
        refine pop_len s2_1 _ _ sli22 ?_
        obtain ⟨J_1, ⟨n_2, h0_1⟩, HB_1⟩ := H
        refine loop_intro (J := fun (n : Nat) (vs : List Value) (h' : Heap) => ∃ t35_1 : Int, ∃ x_1 : Sl, vs = [(VI t35_1)] ∧ J_1 n t35_1 x_1 h' ∧ Vars h' [(b_2, [(Sl.v s2_1)]), (b_1, [(Sl.v x_1)])]) n_2 ⟨0, g0_1, rfl, h0_1, hL_4⟩ ?_
        intro I_1 mu_1 hI_1 junk_1 tv_1 h_5 hi_2
        obtain ⟨n_1, ⟨t35_1, x_1, hv, hJ_1, hL_5⟩, hn_1⟩ := hI_1 _ _ hi_2
        cases hv
        have H := HB_1 n_1 t35_1 x_1 h_5 hJ_1 hL_5
        refine pop_lss .i64 t35_1 (s2_1.n : Int) ?_
        refine condM_b (fun hb_6 => ?_) (fun hb_6 => ?_)
        · have H := H.1 hb_6
          obtain ⟨hi_3, H⟩ := H
          refine pop_index sli22 siz27 .i64 s2_1 t35_1 hi_3 ?_
          obtain ⟨t39_1, hc_1, H⟩ := H
          refine rop_one one27 (Sl.v t39_1) hc_1 ?_
          refine eop_alloc 3 zer3 rfl hL_5 (fun b_3 h_6 hb_7 hf_3 hL_6 => ?_)
          refine uop_loc siz3 hL_6 0 rfl 0 [(VI t35_1)] rfl rfl rfl (Nat.le_of_ble_eq_true rfl) (L' := [(b_3, [(VI t35_1)]), (b_2, [(Sl.v s2_1)]), (b_1, [(Sl.v x_1)])]) rfl (fun h_7 hf_4 hL_7 => ?_)
          refine pop_len t39_1 _ _ sli27 ?_
          refine pop_gtr .i64 (t39_1.n : Int) 12 ?_
          refine guardM_sf (fun hb_8 => ?_) (fun hb_8 => ?_)
          · have H := H.2 hb_8
            refine guardM_y' hb_8 ?_
            refine pop_func _ _ _ ?_
            refine guardM_y' hb_8 ?_
            have H := H b_3 h_7 (Nat.le_trans (Fr.size (Fr.r (In []) _)) hb_7) (Fr.new (Fr.no' (Fr.r (In []) _) hf_3) (Nat.le_trans (Fr.size (Fr.r (In []) _)) hb_7) hf_4) hL_7
            refine H.mono fun rv_3 h_8 H => ?_
            obtain ⟨x_2, x_3, t46_1, rfl, hL_8, H⟩ := H
            refine pop_pickf' hb_8 ?_
            refine condM_b (fun hb_9 => ?_) (fun hb_9 => ?_)
            · have H := H.1 hb_9
              exact H
            · have H := H.2 hb_9
              refine pop_add .i64 t35_1 1 ?_
              obtain ⟨m_1, hm_1, H⟩ := H
              exact hn_1 _ _ ⟨m_1, hm_1, (w64 (t35_1 + 1)), x_3, rfl, H, (Vars.tail hL_8)⟩
          · have H := H.1 hb_8
            refine guardM_n' hb_8 (by decide) ?_
            refine guardM_n' hb_8 (by decide) ?_
            refine pop_pickt' hb_8 ?_
            refine condM_t ?_
            have H := H b_3 h_7 (Nat.le_trans (Fr.size (Fr.r (In []) _)) hb_7) (Fr.new (Fr.no' (Fr.r (In []) _) hf_3) (Nat.le_trans (Fr.size (Fr.r (In []) _)) hb_7) hf_4) hL_7
            exact H
        · have H := H.2 hb_6
          exact H
    · have H := H.1 hb_4
      refine guardM_n' hb_4 (by decide) ?_
      refine guardM_n' hb_4 (by decide) ?_
      refine guardM_n' hb_4 (by decide) ?_
      refine guardM_n' hb_4 (by decide) ?_
      refine guardM_n' hb_4 (by decide) ?_
      refine guardM_n' hb_4 (by decide) ?_
      refine pop_pickt' hb_4 ?_
      refine condM_t ?_
      exact H
  · have H := H.1 hb_3
    refine guardM_n' hb_3 (by decide) ?_
    refine guardM_n' hb_3 (by decide) ?_
    refine guardM_n' hb_3 (by decide) ?_
    refine guardM_n' hb_3 (by decide) ?_
    refine guardM_n' hb_3 (by decide) ?_
    refine guardM_n' hb_3 (by decide) ?_
    refine pop_pickt' hb_3 ?_
    refine guardM_n (by decide) ?_
    refine guardM_n (by decide) ?_
    refine guardM_n (by decide) ?_
    refine guardM_n (by decide) ?_
    refine guardM_n (by decide) ?_
    refine guardM_n (by decide) ?_
    refine guardM_n (by decide) ?_
    refine pop_pickt _ _ ?_
    refine condM_t ?_
    exact H

/-! impl.popped$1 -/
def u126 (P : Program) (c0_1 : Int) (h : Heap) (K : Value → Heap → Prop) : Prop :=
  K (VB (decide (c0_1 < 0))) h
theorem v126 (c0_1 : Int) (h : Heap) (K : Value → Heap → Prop) (H : u126 Try.prog c0_1 h K) : callM Try.prog 126 #[(VI c0_1)] h K := by
  refine c126 (VI c0_1) h K ?_
  unfold u126 at H
  unfold t126
  have hL : Vars h [] := .nil
  refine pop_lss .i64 c0_1 0 ?_
  exact H

/-! (impl.Stacks).copied -/
def u127 (P : Program) (s0_1 : Sl) (h : Heap) (K : Value → Heap → Prop) : Prop :=
  ∀ (b_1 : Nat) (b_2 : Nat) (b_3 : Nat) (h_4 : Heap), h.size ≤ b_1 → h.size ≤ b_2 → h.size ≤ b_3 → Fr (In []) h h_4 → Vars h_4 [(b_3, [(Sl.v nilSl)]), (b_2, [(Sl.v nilSl)]), (b_1, [(Sl.v s0_1)])] →
  ∃ J_1 : Nat → Int → Sl → Heap → Prop, (∃ n0 : Nat, J_1 n0 0 nilSl h_4) ∧
  ∀ (n_1 : Nat) (t10_1 : Int) (x_1 : Sl) (h_5 : Heap), J_1 n_1 t10_1 x_1 h_5 → Vars h_5 [(b_3, [(Sl.v x_1)]), (b_2, [(Sl.v nilSl)]), (b_1, [(Sl.v s0_1)])] →
  ((decide (t10_1 < (s0_1.n : Int))) = true →
  InB s0_1 t10_1 ∧
  ∃ t13_1 : Sl, hcell h_5 (Sl.at s0_1 t10_1 1) = some (Sl.v t13_1) ∧
  callM P 119 #[(Sl.v t13_1)] h_5 fun rv_1 h_6 => ∃ t17_1 : Sl, rv_1 = (Sl.v t17_1) ∧ Vars h_6 [(b_3, [(Sl.v x_1)]), (b_2, [(Sl.v nilSl)]), (b_1, [(Sl.v s0_1)])] ∧
  eop P (Instr.buildSlice 22 1 #[(0, (Sl.v t17_1))]) h_6 fun rv_2 h_7 => ∃ t18_1 : Sl, rv_2 = (Sl.v t18_1) ∧ Vars h_7 [(b_3, [(Sl.v x_1)]), (b_2, [(Sl.v nilSl)]), (b_1, [(Sl.v s0_1)])] ∧
  eop P (appS 22 22 22 (Sl.v x_1) (Sl.v t18_1)) h_7 fun rv_3 h_8 => ∃ t19_1 : Sl, rv_3 = (Sl.v t19_1) ∧ Vars h_8 [(b_3, [(Sl.v x_1)]), (b_2, [(Sl.v nilSl)]), (b_1, [(Sl.v s0_1)])] ∧
  ∀ (h_9 : Heap), Fr (In [b_3]) h_8 h_9 → Vars h_9 [(b_3, [(Sl.v t19_1)]), (b_2, [(Sl.v nilSl)]), (b_1, [(Sl.v s0_1)])] →
  ∃ m : Nat, m < n_1 ∧ J_1 m (w64 (t10_1 + 1)) t19_1 h_9) ∧
  ((decide (t10_1 < (s0_1.n : Int))) = false →
  ∀ (h_10 : Heap), Fr (In [b_2]) h_5 h_10 → Vars h_10 [(b_3, [(Sl.v x_1)]), (b_2, [(Sl.v x_1)]), (b_1, [(Sl.v s0_1)])] →
  K (Value.agg #[(Sl.v x_1)]) h_10)
theorem v127 (s0_1 : Sl) (h : Heap) (K : Value → Heap → Prop) (H : u127 Try.prog s0_1 h K) : callM Try.prog 127 #[(Value.agg #[(Sl.v s0_1)])] h K := by
  refine c127 (Value.agg #[(Sl.v s0_1)]) h K ?_
  unfold u127 at H
  unfold t127
  have hL : Vars h [] := .nil
  refine eop_box 34 (Value.agg #[(Sl.v s0_1)]) rfl hL (fun b_1 h_1 hb_1 hf_1 hL_1 => ?_)
  refine eop_alloc 34 zer34 rfl hL_1 (fun b_2 h_2 hb_2 hf_2 hL_2 => ?_)
  refine pop.mk' (v := (Value.agg #[(Sl.v nilSl)])) (fun w => by kernel_rfl) ?_
  refine eop_alloc 34 zer34 rfl hL_2 (fun b_3 h_3 hb_3 hf_3 hL_3 => ?_)
  refine uop_loc siz34 hL_3 0 rfl 0 [(Sl.v nilSl)] rfl rfl rfl (Nat.le_of_ble_eq_true rfl) (L' := [(b_3, [(Sl.v nilSl)]), (b_2, [(Sl.v nilSl)]), (b_1, [(Sl.v s0_1)])]) rfl (fun h_4 hf_4 hL_4 => ?_)
  refine pop_field 0 fld34_0 b_1 0 ?_
  refine rop_loc one22 hL_4 2 rfl 0 (v := (Sl.v s0_1)) rfl ?_
  refine pop_len s0_1 _ _ sli22 ?_
  have H := H b_1 b_2 b_3 h_4 (Nat.le_trans (Fr.size (Fr.r (In []) _)) hb_1) (Nat.le_trans (Fr.size (Fr.no' (Fr.r (In []) _) hf_1)) hb_2) (Nat.le_trans (Fr.size (Fr.no' (Fr.no' (Fr.r (In []) _) hf_1) hf_2)) hb_3) (Fr.new (Fr.no' (Fr.no' (Fr.no' (Fr.r (In []) _) hf_1) hf_2) hf_3) (Nat.le_trans (Fr.size (Fr.no' (Fr.no' (Fr.r (In []) _) hf_1) hf_2)) hb_3) hf_4) hL_4
  obtain ⟨J_1, ⟨n_2, h0_1⟩, HB_1⟩ := H
  refine loop_intro (J := fun (n : Nat) (vs : List Value) (h' : Heap) => ∃ t10_1 : Int, ∃ x_1 : Sl, vs = [(VI t10_1)] ∧ J_1 n t10_1 x_1 h' ∧ Vars h' [(b_3, [(Sl.v x_1)]), (b_2, [(Sl.v nilSl)]), (b_1, [(Sl.v s0_1)])]) n_2 ⟨0, nilSl, rfl, h0_1, hL_4⟩ ?_
  intro I_1 mu_1 hI_1 junk_1 tv_1 h_5 hi_1
  obtain ⟨n_1, ⟨t10_1, x_1, hv, hJ_1, hL_5⟩, hn_1⟩ := hI_1 _ _ hi_1
  cases hv
  have H := HB_1 n_1 t10_1 x_1 h_5 hJ_1 hL_5
  refine pop_lss .i64 t10_1 (s0_1.n : Int) ?_
  refine condM_b (fun hb_4 => ?_) (fun hb_4 => ?_)
  · have H := H.1 hb_4
    obtain ⟨hi_2, H⟩ := H
    refine pop_index sli22 siz27 .i64 s0_1 t10_1 hi_2 ?_
    obtain ⟨t13_1, hc_1, H⟩ := H
    refine rop_one one27 (Sl.v t13_1) hc_1 ?_
    refine pop_field 0 fld34_0 b_3 0 ?_
    refine rop_loc one22 hL_5 0 rfl 0 (v := (Sl.v x_1)) rfl ?_
    refine H.mono fun rv_1 h_6 H => ?_
    obtain ⟨t17_1, rfl, hL_6, H⟩ := H
    refine ⟨?_, ?_⟩
    · exact still_loc one22 hL_6 0 rfl 0 (v := (Sl.v x_1)) rfl
    refine H.mono fun rv_2 h_7 H => ?_
    obtain ⟨t18_1, rfl, hL_7, H⟩ := H
    refine ⟨?_, ?_⟩
    · exact still_loc one22 hL_7 0 rfl 0 (v := (Sl.v x_1)) rfl
    refine H.mono fun rv_3 h_8 H => ?_
    obtain ⟨t19_1, rfl, hL_8, H⟩ := H
    refine pop_field 0 fld34_0 b_3 0 ?_
    refine uop_loc siz22 hL_8 0 rfl 0 [(Sl.v t19_1)] rfl rfl rfl (Nat.le_of_ble_eq_true rfl) (L' := [(b_3, [(Sl.v t19_1)]), (b_2, [(Sl.v nilSl)]), (b_1, [(Sl.v s0_1)])]) rfl (fun h_9 hf_5 hL_9 => ?_)
    refine pop_add .i64 t10_1 1 ?_
    have H := H  h_9  (Fr.old (Fr.r (In []) _) hf_5) hL_9
    obtain ⟨m_1, hm_1, H⟩ := H
    exact hn_1 _ _ ⟨m_1, hm_1, (w64 (t10_1 + 1)), t19_1, rfl, H, hL_9⟩
  · have H := H.2 hb_4
    refine rop_locA agg34 hL_5 0 rfl 0 (vs := [(Sl.v x_1)]) rfl rfl ?_
    refine uop_loc siz34 hL_5 1 rfl 0 [(Sl.v x_1)] rfl rfl rfl (Nat.le_of_ble_eq_true rfl) (L' := [(b_3, [(Sl.v x_1)]), (b_2, [(Sl.v x_1)]), (b_1, [(Sl.v s0_1)])]) rfl (fun h_10 hf_6 hL_10 => ?_)
    refine rop_locA agg34 hL_10 1 rfl 0 (vs := [(Sl.v x_1)]) rfl rfl ?_
    have H := H  h_10  (Fr.old (Fr.r (In []) _) hf_6) hL_10
    exact H

/-! (impl.Stacks).cycles -/
def u128 (P : Program) (s0_1 : Sl) (g1_1 : Sl) (h : Heap) (K : Value → Heap → Prop) : Prop :=
  ∀ (b_1 : Nat) (b_2 : Nat) (h_2 : Heap), h.size ≤ b_1 → h.size ≤ b_2 → Fr (In []) h h_2 → Vars h_2 [(b_2, [(Sl.v g1_1)]), (b_1, [(Sl.v s0_1)])] →
  eop P (Instr.buildSlice 22 0 #[]) h_2 fun rv_1 h_3 => ∃ t8_1 : Sl, rv_1 = (Sl.v t8_1) ∧ Vars h_3 [(b_2, [(Sl.v g1_1)]), (b_1, [(Sl.v s0_1)])] ∧
  ∃ J_1 : Nat → Sl → Int → Heap → Prop, (∃ n0 : Nat, J_1 n0 t8_1 0 h_3) ∧
  ∀ (n_1 : Nat) (out5_1 : Sl) (t12_1 : Int) (h_4 : Heap), J_1 n_1 out5_1 t12_1 h_4 → Vars h_4 [(b_2, [(Sl.v g1_1)]), (b_1, [(Sl.v s0_1)])] →
  ((decide (t12_1 < (g1_1.n : Int))) = true →
  callM P 140 #[(Value.agg #[(Sl.v s0_1)]), (Value.agg #[(Sl.v g1_1)]), (VI t12_1)] h_4 fun rv_2 h_5 => ∃ t18_1 : Sl, rv_2 = (Sl.v t18_1) ∧ Vars h_5 [(b_2, [(Sl.v g1_1)]), (b_1, [(Sl.v s0_1)])] ∧
  pop P (binE .neq 27 (.tmp 19) (.const (Value.slice none 0 0)) (Sl.v t18_1) (Value.slice none 0 0)) fun rv_3 => ∃ t20_1 : Bool, rv_3 = (VB t20_1) ∧ 
  (t20_1 = true →
  InB t18_1 0 ∧
  ∃ t24_1 : Int, hcell h_5 (Sl.at t18_1 0 1) = some (VI t24_1) ∧
  ((decide (t24_1 = t12_1)) = true →
  eop P (Instr.buildSlice 22 1 #[(0, (Sl.v t18_1))]) h_5 fun rv_4 h_6 => ∃ t30_1 : Sl, rv_4 = (Sl.v t30_1) ∧ Vars h_6 [(b_2, [(Sl.v g1_1)]), (b_1, [(Sl.v s0_1)])] ∧
  eop P (appS 22 22 22 (Sl.v out5_1) (Sl.v t30_1)) h_6 fun rv_5 h_7 => ∃ t31_1 : Sl, rv_5 = (Sl.v t31_1) ∧ Vars h_7 [(b_2, [(Sl.v g1_1)]), (b_1, [(Sl.v s0_1)])] ∧
  ∃ m : Nat, m < n_1 ∧ J_1 m t31_1 (w64 (t12_1 + 1)) h_7) ∧
  ((decide (t24_1 = t12_1)) = false →
  ∃ m : Nat, m < n_1 ∧ J_1 m out5_1 (w64 (t12_1 + 1)) h_5)) ∧
  (t20_1 = false →
  ∃ m : Nat, m < n_1 ∧ J_1 m out5_1 (w64 (t12_1 + 1)) h_5)) ∧
  ((decide (t12_1 < (g1_1.n : Int))) = false →
  K (Sl.v out5_1) h_4)
theorem v128 (s0_1 : Sl) (g1_1 : Sl) (h : Heap) (K : Value → Heap → Prop) (H : u128 Try.prog s0_1 g1_1 h K) : callM Try.prog 128 #[(Value.agg #[(Sl.v s0_1)]), (Value.agg #[(Sl.v g1_1)])] h K := by
  refine c128 (Value.agg #[(Sl.v s0_1)]) (Value.agg #[(Sl.v g1_1)]) h K ?_
  unfold u128 at H
  unfold t128
  have hL : Vars h [] := .nil
  refine eop_box 34 (Value.agg #[(Sl.v s0_1)]) rfl hL (fun b_1 h_1 hb_1 hf_1 hL_1 => ?_)
  refine eop_box 32 (Value.agg #[(Sl.v g1_1)]) rfl hL_1 (fun b_2 h_2 hb_2 hf_2 hL_2 => ?_)
  have H := H b_1 b_2 h_2 (Nat.le_trans (Fr.size (Fr.r (In []) _)) hb_1) (Nat.le_trans (Fr.size (Fr.no' (Fr.r (In []) _) hf_1)) hb_2) (Fr.no' (Fr.no' (Fr.r (In []) _) hf_1) hf_2) hL_2
  refine H.mono fun rv_1 h_3 H => ?_
  obtain ⟨t8_1, rfl, hL_3, H⟩ := H
  refine pop_field 0 fld32_0 b_2 0 ?_
  refine rop_loc one22 hL_3 0 rfl 0 (v := (Sl.v g1_1)) rfl ?_
  refine pop_len g1_1 _ _ sli22 ?_
  obtain ⟨J_1, ⟨n_2, h0_1⟩, HB_1⟩ := H
  refine loop_intro (J := fun (n : Nat) (vs : List Value) (h' : Heap) => ∃ out5_1 : Sl, ∃ t12_1 : Int, vs = [(Sl.v out5_1), (VI t12_1)] ∧ J_1 n out5_1 t12_1 h' ∧ Vars h' [(b_2, [(Sl.v g1_1)]), (b_1, [(Sl.v s0_1)])]) n_2 ⟨t8_1, 0, rfl, h0_1, hL_3⟩ ?_
  intro I_1 mu_1 hI_1 junk_1 tv_1 tv_2 h_4 hi_1
  obtain ⟨n_1, ⟨out5_1, t12_1, hv, hJ_1, hL_4⟩, hn_1⟩ := hI_1 _ _ hi_1
  cases hv
  have H := HB_1 n_1 out5_1 t12_1 h_4 hJ_1 hL_4
  refine pop_lss .i64 t12_1 (g1_1.n : Int) ?_
  refine condM_b (fun hb_3 => ?_) (fun hb_3 => ?_)
  · have H := H.1 hb_3
    refine rop_locA agg34 hL_4 1 rfl 0 (vs := [(Sl.v s0_1)]) rfl rfl ?_
    refine rop_locA agg32 hL_4 0 rfl 0 (vs := [(Sl.v g1_1)]) rfl rfl ?_
    refine H.mono fun rv_2 h_5 H => ?_
    obtain ⟨t18_1, rfl, hL_5, H⟩ := H
    refine H.mono fun rv_3 H => ?_
    obtain ⟨t20_1, rfl, H⟩ := H
    refine guardM_st (fun hb_4 => ?_) (fun hb_4 => ?_)
    · have H := H.1 hb_4
      refine guardM_y' hb_4 ?_
      obtain ⟨hi_2, H⟩ := H
      refine pop_index sli27 siz3 .i64 t18_1 0 hi_2 ?_
      refine guardM_y' hb_4 ?_
      obtain ⟨t24_1, hc_1, H⟩ := H
      refine rop_one one3 (VI t24_1) hc_1 ?_
      refine guardM_y' hb_4 ?_
      refine guardM_y' hb_4 ?_
      refine pop_ieq .i64 _ _ t24_1 t12_1 ?_
      refine pop_pickt' hb_4 ?_
      refine condM_b (fun hb_5 => ?_) (fun hb_5 => ?_)
      · have H := H.1 hb_5
        refine H.mono fun rv_4 h_6 H => ?_
        obtain ⟨t30_1, rfl, hL_6, H⟩ := H
        refine H.mono fun rv_5 h_7 H => ?_
        obtain ⟨t31_1, rfl, hL_7, H⟩ := H
        refine pop_add .i64 t12_1 1 ?_
        obtain ⟨m_1, hm_1, H⟩ := H
        exact hn_1 _ _ ⟨m_1, hm_1, t31_1, (w64 (t12_1 + 1)), rfl, H, hL_7⟩
      · have H := H.2 hb_5
        refine pop_add .i64 t12_1 1 ?_
        obtain ⟨m_2, hm_2, H⟩ := H
        exact hn_1 _ _ ⟨m_2, hm_2, out5_1, (w64 (t12_1 + 1)), rfl, H, hL_5⟩
    · have H := H.2 hb_4
      refine guardM_n' hb_4 (by decide) ?_
      refine guardM_n' hb_4 (by decide) ?_
      refine guardM_n' hb_4 (by decide) ?_
      refine guardM_n' hb_4 (by decide) ?_
      refine pop_pickf' hb_4 ?_
      refine condM_f ?_
      refine pop_add .i64 t12_1 1 ?_
      obtain ⟨m_3, hm_3, H⟩ := H
      exact hn_1 _ _ ⟨m_3, hm_3, out5_1, (w64 (t12_1 + 1)), rfl, H, hL_5⟩
  · have H := H.2 hb_3
    exact H

/-! (impl.Stacks).pop -/
def u129 (P : Program) (s0_1 : Sl) (cycle1_1 : Sl) (h : Heap) (K : Value → Heap → Prop) : Prop :=
  ∀ (b_1 : Nat) (h_1 : Heap), h.size ≤ b_1 → Fr (In []) h h_1 → Vars h_1 [(b_1, [(Sl.v s0_1)])] →
  ∃ J_1 : Nat → Int → Heap → Prop, (∃ n0 : Nat, J_1 n0 0 h_1) ∧
  ∀ (n_1 : Nat) (t8_1 : Int) (h_2 : Heap), J_1 n_1 t8_1 h_2 → Vars h_2 [(b_1, [(Sl.v s0_1)])] →
  ((decide (t8_1 < (cycle1_1.n : Int))) = true →
  InB cycle1_1 t8_1 ∧
  ∃ t11_1 : Int, hcell h_2 (Sl.at cycle1_1 t8_1 1) = some (VI t11_1) ∧
  InB s0_1 t11_1 ∧
  ∃ t19_1 : Sl, hcell h_2 (Sl.at s0_1 t11_1 1) = some (Sl.v t19_1) ∧
  pop P (Instr.sliceAt 27 (Sl.v t19_1) (some (Value.int IntKind.i64 1)) none none) fun rv_1 => ∃ t20_1 : Sl, rv_1 = (Sl.v t20_1) ∧ 
  InB s0_1 t11_1 ∧
  Writable h_2 (Sl.at s0_1 t11_1 1) ∧ Vars (hset h_2 (Sl.at s0_1 t11_1 1) (Sl.v t20_1)) [(b_1, [(Sl.v s0_1)])] ∧
  ∀ h_3 : Heap, h_3 = hset h_2 (Sl.at s0_1 t11_1 1) (Sl.v t20_1) → Vars h_3 [(b_1, [(Sl.v s0_1)])] →
  ∃ m : Nat, m < n_1 ∧ J_1 m (w64 (t8_1 + 1)) h_3) ∧
  ((decide (t8_1 < (cycle1_1.n : Int))) = false →
  K (Value.tuple #[]) h_2)
theorem v129 (s0_1 : Sl) (cycle1_1 : Sl) (h : Heap) (K : Value → Heap → Prop) (H : u129 Try.prog s0_1 cycle1_1 h K) : callM Try.prog 129 #[(Value.agg #[(Sl.v s0_1)]), (Sl.v cycle1_1)] h K := by
  refine c129 (Value.agg #[(Sl.v s0_1)]) (Sl.v cycle1_1) h K ?_
  unfold u129 at H
  unfold t129
  have hL : Vars h [] := .nil
  refine eop_box 34 (Value.agg #[(Sl.v s0_1)]) rfl hL (fun b_1 h_1 hb_1 hf_1 hL_1 => ?_)
  refine pop_len cycle1_1 _ _ sli27 ?_
  have H := H b_1 h_1 (Nat.le_trans (Fr.size (Fr.r (In []) _)) hb_1) (Fr.no' (Fr.r (In []) _) hf_1) hL_1
  obtain ⟨J_1, ⟨n_2, h0_1⟩, HB_1⟩ := H
  refine loop_intro (J := fun (n : Nat) (vs : List Value) (h' : Heap) => ∃ t8_1 : Int, vs = [(VI t8_1)] ∧ J_1 n t8_1 h' ∧ Vars h' [(b_1, [(Sl.v s0_1)])]) n_2 ⟨0, rfl, h0_1, hL_1⟩ ?_
  intro I_1 mu_1 hI_1 junk_1 tv_1 h_2 hi_1
  obtain ⟨n_1, ⟨t8_1, hv, hJ_1, hL_2⟩, hn_1⟩ := hI_1 _ _ hi_1
  cases hv
  have H := HB_1 n_1 t8_1 h_2 hJ_1 hL_2
  refine pop_lss .i64 t8_1 (cycle1_1.n : Int) ?_
  refine condM_b (fun hb_2 => ?_) (fun hb_2 => ?_)
  · have H := H.1 hb_2
    obtain ⟨hi_2, H⟩ := H
    refine pop_index sli27 siz3 .i64 cycle1_1 t8_1 hi_2 ?_
    obtain ⟨t11_1, hc_2, H⟩ := H
    refine rop_one one3 (VI t11_1) hc_2 ?_
    refine pop_field 0 fld34_0 b_1 0 ?_
    refine rop_loc one22 hL_2 0 rfl 0 (v := (Sl.v s0_1)) rfl ?_
    refine pop_field 0 fld34_0 b_1 0 ?_
    refine rop_loc one22 hL_2 0 rfl 0 (v := (Sl.v s0_1)) rfl ?_
    obtain ⟨hi_3, H⟩ := H
    refine pop_index sli22 siz27 .i64 s0_1 t11_1 hi_3 ?_
    obtain ⟨t19_1, hc_1, H⟩ := H
    refine rop_one one27 (Sl.v t19_1) hc_1 ?_
    refine H.mono fun rv_1 H => ?_
    obtain ⟨t20_1, rfl, H⟩ := H
    obtain ⟨hi_4, H⟩ := H
    refine pop_index sli22 siz27 .i64 s0_1 t11_1 hi_4 ?_
    obtain ⟨hw_1, hL_3, H⟩ := H
    refine uop_cell (v := (Sl.v t20_1)) siz27 hw_1 rfl (fun h_3 he_1 => ?_)
    rw [← he_1] at hL_3
    have H := H h_3 he_1 hL_3
    refine pop_add .i64 t8_1 1 ?_
    obtain ⟨m_1, hm_1, H⟩ := H
    exact hn_1 _ _ ⟨m_1, hm_1, (w64 (t8_1 + 1)), rfl, H, hL_3⟩
  · have H := H.2 hb_2
    exact H

/-! slices.pdqsortOrdered[int] -/
def u137 (P : Program) (data0_1 : Sl) (a1_1 : Int) (b2_1 : Int) (limit3_1 : Int) (h : Heap) (K : Value → Heap → Prop) : Prop :=
  ∃ J_1 : Nat → Int → Int → Int → Bool → Bool → Heap → Prop, (∃ n0 : Nat, J_1 n0 a1_1 b2_1 limit3_1 true true h) ∧
  ∀ (n_1 : Nat) (a1_2 : Int) (b2_2 : Int) (limit3_2 : Int) (wasBalanced8_1 : Bool) (wasPartitioned9_1 : Bool) (h_1 : Heap), J_1 n_1 a1_2 b2_2 limit3_2 wasBalanced8_1 wasPartitioned9_1 h_1 → Vars h_1 [] →
  ((decide ((w64 (b2_2 - a1_2)) ≤ 12)) = true →
  callM P 144 #[(Sl.v data0_1), (VI a1_2), (VI b2_2)] h_1 fun rv_1 h_2 => Vars h_2 [] ∧
  K (Value.tuple #[]) h_2) ∧
  ((decide ((w64 (b2_2 - a1_2)) ≤ 12)) = false →
  ((decide (limit3_2 = 0)) = true →
  callM P 145 #[(Sl.v data0_1), (VI a1_2), (VI b2_2)] h_1 fun rv_2 h_3 => Vars h_3 [] ∧
  K (Value.tuple #[]) h_3) ∧
  ((decide (limit3_2 = 0)) = false →
  ∃ J_2 : Int → Heap → Prop, (((!wasBalanced8_1) = true →
  callM P 146 #[(Sl.v data0_1), (VI a1_2), (VI b2_2)] h_1 fun rv_3 h_4 => Vars h_4 [] ∧
  J_2 (w64 (limit3_2 - 1)) h_4) ∧
  ((!wasBalanced8_1) = false →
  J_2 limit3_2 h_1)) ∧
  ∀ (x_1 : Int) (h_5 : Heap), J_2 x_1 h_5 → Vars h_5 [] →
  callM P 147 #[(Sl.v data0_1), (VI a1_2), (VI b2_2)] h_5 fun rv_4 h_6 => ∃ t46_1 : Int, ∃ t46_2 : Int, rv_4 = (Value.tuple #[(VI t46_1), (VI t46_2)]) ∧ Vars h_6 [] ∧
  ∃ J_3 : Int → Int → Heap → Prop, (((decide (t46_2 = 2)) = true →
  callM P 148 #[(Sl.v data0_1), (VI a1_2), (VI b2_2)] h_6 fun rv_5 h_7 => Vars h_7 [] ∧
  J_3 (w64 ((w64 (b2_2 - 1)) - (w64 (t46_1 - a1_2)))) 1 h_7) ∧
  ((decide (t46_2 = 2)) = false →
  J_3 t46_1 t46_2 h_6)) ∧
  ∀ (x_2 : Int) (x_3 : Int) (h_8 : Heap), J_3 x_2 x_3 h_8 → Vars h_8 [] →
  ∃ J_4 : Heap → Prop, ((wasBalanced8_1 = true →
  (wasPartitioned9_1 = true →
  ((decide (x_3 = 1)) = true →
  callM P 149 #[(Sl.v data0_1), (VI a1_2), (VI b2_2)] h_8 fun rv_6 h_9 => ∃ t72_1 : Bool, rv_6 = (VB t72_1) ∧ Vars h_9 [] ∧
  (t72_1 = true →
  K (Value.tuple #[]) h_9) ∧
  (t72_1 = false →
  J_4  h_9)) ∧
  ((decide (x_3 = 1)) = false →
  J_4  h_8)) ∧
  (wasPartitioned9_1 = false →
  J_4  h_8)) ∧
  (wasBalanced8_1 = false →
  J_4  h_8)) ∧
  ∀ (h_10 : Heap), J_4  h_10 → Vars h_10 [] →
  ((decide (0 < a1_2)) = true →
  InB data0_1 (w64 (a1_2 - 1)) ∧
  ∃ t80_1 : Int, hcell h_10 (Sl.at data0_1 (w64 (a1_2 - 1)) 1) = some (VI t80_1) ∧
  InB data0_1 x_2 ∧
  ∃ t84_1 : Int, hcell h_10 (Sl.at data0_1 x_2 1) = some (VI t84_1) ∧
  callM P 150 #[(VI t80_1), (VI t84_1)] h_10 fun rv_7 h_11 => ∃ t85_1 : Bool, rv_7 = (VB t85_1) ∧ Vars h_11 [] ∧
  ((!t85_1) = true →
  callM P 151 #[(Sl.v data0_1), (VI a1_2), (VI b2_2), (VI x_2)] h_11 fun rv_8 h_12 => ∃ t92_1 : Int, rv_8 = (VI t92_1) ∧ Vars h_12 [] ∧
  ∃ m : Nat, m < n_1 ∧ J_1 m t92_1 b2_2 x_1 wasBalanced8_1 wasPartitioned9_1 h_12) ∧
  ((!t85_1) = false →
  callM P 152 #[(Sl.v data0_1), (VI a1_2), (VI b2_2), (VI x_2)] h_11 fun rv_9 h_13 => ∃ t99_1 : Int, ∃ t99_2 : Bool, rv_9 = (Value.tuple #[(VI t99_1), (VB t99_2)]) ∧ Vars h_13 [] ∧
  ((decide ((w64 (t99_1 - a1_2)) < (w64 (b2_2 - t99_1)))) = true →
  callM P 137 #[(Sl.v data0_1), (VI a1_2), (VI t99_1), (VI x_1)] h_13 fun rv_10 h_14 => Vars h_14 [] ∧
  ∃ m : Nat, m < n_1 ∧ J_1 m (w64 (t99_1 + 1)) b2_2 x_1 (decide ((w64 (Int.tdiv (w64 (b2_2 - a1_2)) 8)) ≤ (w64 (t99_1 - a1_2)))) t99_2 h_14) ∧
  ((decide ((w64 (t99_1 - a1_2)) < (w64 (b2_2 - t99_1)))) = false →
  callM P 137 #[(Sl.v data0_1), (VI (w64 (t99_1 + 1))), (VI b2_2), (VI x_1)] h_13 fun rv_11 h_15 => Vars h_15 [] ∧
  ∃ m : Nat, m < n_1 ∧ J_1 m a1_2 t99_1 x_1 (decide ((w64 (Int.tdiv (w64 (b2_2 - a1_2)) 8)) ≤ (w64 (b2_2 - t99_1)))) t99_2 h_15))) ∧
  ((decide (0 < a1_2)) = false →
  callM P 152 #[(Sl.v data0_1), (VI a1_2), (VI b2_2), (VI x_2)] h_10 fun rv_12 h_16 => ∃ t99_3 : Int, ∃ t99_4 : Bool, rv_12 = (Value.tuple #[(VI t99_3), (VB t99_4)]) ∧ Vars h_16 [] ∧
  ((decide ((w64 (t99_3 - a1_2)) < (w64 (b2_2 - t99_3)))) = true →
  callM P 137 #[(Sl.v data0_1), (VI a1_2), (VI t99_3), (VI x_1)] h_16 fun rv_13 h_17 => Vars h_17 [] ∧
  ∃ m : Nat, m < n_1 ∧ J_1 m (w64 (t99_3 + 1)) b2_2 x_1 (decide ((w64 (Int.tdiv (w64 (b2_2 - a1_2)) 8)) ≤ (w64 (t99_3 - a1_2)))) t99_4 h_17) ∧
  ((decide ((w64 (t99_3 - a1_2)) < (w64 (b2_2 - t99_3)))) = false →
  callM P 137 #[(Sl.v data0_1), (VI (w64 (t99_3 + 1))), (VI b2_2), (VI x_1)] h_16 fun rv_14 h_18 => Vars h_18 [] ∧
  ∃ m : Nat, m < n_1 ∧ J_1 m a1_2 t99_3 x_1 (decide ((w64 (Int.tdiv (w64 (b2_2 - a1_2)) 8)) ≤ (w64 (b2_2 - t99_3)))) t99_4 h_18))))
theorem v137 (data0_1 : Sl) (a1_1 : Int) (b2_1 : Int) (limit3_1 : Int) (h : Heap) (K : Value → Heap → Prop) (H : u137 Try.prog data0_1 a1_1 b2_1 limit3_1 h K) : callM Try.prog 137 #[(Sl.v data0_1), (VI a1_1), (VI b2_1), (VI limit3_1)] h K := by
  refine c137 (Sl.v data0_1) (VI a1_1) (VI b2_1) (VI limit3_1) h K ?_
  unfold u137 at H
  unfold t137
  have hL : Vars h [] := .nil
  obtain ⟨J_1, ⟨n_2, h0_1⟩, HB_4⟩ := H
  refine loop_intro (J := fun (n : Nat) (vs : List Value) (h' : Heap) => ∃ a1_2 : Int, ∃ b2_2 : Int, ∃ limit3_2 : Int, ∃ wasBalanced8_1 : Bool, ∃ wasPartitioned9_1 : Bool, vs = [(VI a1_2), (VI b2_2), (VI limit3_2), (VB wasBalanced8_1), (VB wasPartitioned9_1)] ∧ J_1 n a1_2 b2_2 limit3_2 wasBalanced8_1 wasPartitioned9_1 h' ∧ Vars h' []) n_2 ⟨a1_1, b2_1, limit3_1, true, true, rfl, h0_1, hL⟩ ?_
  intro I_1 mu_1 hI_1 junk_1 tv_4 tv_5 tv_6 tv_7 tv_8 h_1 hi_1
  obtain ⟨n_1, ⟨a1_2, b2_2, limit3_2, wasBalanced8_1, wasPartitioned9_1, hv, hJ_1, hL_1⟩, hn_1⟩ := hI_1 _ _ hi_1
  cases hv
  have H := HB_4 n_1 a1_2 b2_2 limit3_2 wasBalanced8_1 wasPartitioned9_1 h_1 hJ_1 hL_1
  refine pop_sub .i64 b2_2 a1_2 ?_
  refine pop_leq .i64 (w64 (b2_2 - a1_2)) 12 ?_
  refine condM_b (fun hb_1 => ?_) (fun hb_1 => ?_)
  · have H := H.1 hb_1
    refine H.mono fun rv_1 h_2 H => ?_
    obtain ⟨hL_2, H⟩ := H
    exact H
  · have H := H.2 hb_1
    refine pop_ieq .i64 _ _ limit3_2 0 ?_
    refine condM_b (fun hb_2 => ?_) (fun hb_2 => ?_)
    · have H := H.1 hb_2
      refine H.mono fun rv_2 h_3 H => ?_
      obtain ⟨hL_3, H⟩ := H
      exact H
    · have H := H.2 hb_2
      obtain ⟨J_2, H, HB_3⟩ := H
      refine ⟨fun (vs : List Value) (h' : Heap) => ∃ x_1 : Int, vs = [(VI x_1)] ∧ J_2 x_1 h' ∧ Vars h' [], ?_, ?_⟩
      · refine pop_not wasBalanced8_1 ?_
        refine condM_b (fun hb_3 => ?_) (fun hb_3 => ?_)
        · have H := H.1 hb_3
          refine H.mono fun rv_3 h_4 H => ?_
          obtain ⟨hL_4, H⟩ := H
          refine pop_sub .i64 limit3_2 1 ?_
          exact ⟨(w64 (limit3_2 - 1)), rfl, H, hL_4⟩
        · have H := H.2 hb_3
          exact ⟨limit3_2, rfl, H, hL_1⟩
      intro junk_2 tv_1 h_5
      rintro ⟨x_1, hv, hJ_2, hL_5⟩
      cases hv
      have H := HB_3 x_1 h_5 hJ_2 hL_5
      refine H.mono fun rv_4 h_6 H => ?_
      obtain ⟨t46_1, t46_2, rfl, hL_6, H⟩ := H
      refine pop_ext (v := (VI t46_1)) rfl ?_
      refine pop_ext (v := (VI t46_2)) rfl ?_
      obtain ⟨J_3, H, HB_2⟩ := H
      refine ⟨fun (vs : List Value) (h' : Heap) => ∃ x_2 : Int, ∃ x_3 : Int, vs = [(VI x_2), (VI x_3)] ∧ J_3 x_2 x_3 h' ∧ Vars h' [], ?_, ?_⟩
      · refine pop_ieq .i64 _ _ t46_2 2 ?_
        refine condM_b (fun hb_4 => ?_) (fun hb_4 => ?_)
        · have H := H.1 hb_4
          refine H.mono fun rv_5 h_7 H => ?_
          obtain ⟨hL_7, H⟩ := H
          refine pop_sub .i64 b2_2 1 ?_
          refine pop_sub .i64 t46_1 a1_2 ?_
          refine pop_sub .i64 (w64 (b2_2 - 1)) (w64 (t46_1 - a1_2)) ?_
          exact ⟨(w64 ((w64 (b2_2 - 1)) - (w64 (t46_1 - a1_2)))), 1, rfl, H, hL_7⟩
        · have H := H.2 hb_4
          exact ⟨t46_1, t46_2, rfl, H, hL_6⟩
      intro junk_3 tv_2 tv_3 h_8
      rintro ⟨x_2, x_3, hv, hJ_3, hL_8⟩
      cases hv
      have H := HB_2 x_2 x_3 h_8 hJ_3 hL_8
      obtain ⟨J_4, H, HB_1⟩ := H
      refine ⟨fun (vs : List Value) (h' : Heap) => vs = [] ∧ J_4  h' ∧ Vars h' [], ?_, ?_⟩
      · refine guardM_st (fun hb_5 => ?_) (fun hb_5 => ?_)
        · have H := H.1 hb_5
          refine pop_pickt' hb_5 ?_
          refine guardM_st (fun hb_6 => ?_) (fun hb_6 => ?_)
          · have H := H.1 hb_6
            refine guardM_y' hb_6 ?_
            refine pop_ieq .i64 _ _ x_3 1 ?_
            refine pop_pickt' hb_6 ?_
            refine condM_b (fun hb_7 => ?_) (fun hb_7 => ?_)
            · have H := H.1 hb_7
              refine H.mono fun rv_6 h_9 H => ?_
              obtain ⟨t72_1, rfl, hL_9, H⟩ := H
              refine condM_b (fun hb_8 => ?_) (fun hb_8 => ?_)
              · have H := H.1 hb_8
                exact H
              · have H := H.2 hb_8
                exact ⟨rfl, H, hL_9⟩
            · have H := H.2 hb_7
              exact ⟨rfl, H, hL_8⟩
          · have H := H.2 hb_6
            refine guardM_n' hb_6 (by decide) ?_
            refine pop_pickf' hb_6 ?_
            refine condM_f ?_
            exact ⟨rfl, H, hL_8⟩
        · have H := H.2 hb_5
          refine pop_pickf' hb_5 ?_
          refine guardM_n (by decide) ?_
          refine guardM_n (by decide) ?_
          refine pop_pickf _ _ ?_
          refine condM_f ?_
          exact ⟨rfl, H, hL_8⟩
      intro junk_4  h_10
      rintro ⟨hv, hJ_4, hL_10⟩
      have H := HB_1  h_10 hJ_4 hL_10
      refine pop_gtr .i64 a1_2 0 ?_
      refine guardM_st (fun hb_9 => ?_) (fun hb_9 => ?_)
      · have H := H.1 hb_9
        refine guardM_y' hb_9 ?_
        refine guardM_y' hb_9 ?_
        refine pop_sub .i64 a1_2 1 ?_
        refine guardM_y' hb_9 ?_
        obtain ⟨hi_2, H⟩ := H
        refine pop_index sli27 siz3 .i64 data0_1 (w64 (a1_2 - 1)) hi_2 ?_
        refine guardM_y' hb_9 ?_
        obtain ⟨t80_1, hc_2, H⟩ := H
        refine rop_one one3 (VI t80_1) hc_2 ?_
        refine guardM_y' hb_9 ?_
        refine guardM_y' hb_9 ?_
        refine guardM_y' hb_9 ?_
        obtain ⟨hi_3, H⟩ := H
        refine pop_index sli27 siz3 .i64 data0_1 x_2 hi_3 ?_
        refine guardM_y' hb_9 ?_
        obtain ⟨t84_1, hc_1, H⟩ := H
        refine rop_one one3 (VI t84_1) hc_1 ?_
        refine guardM_y' hb_9 ?_
        refine H.mono fun rv_7 h_11 H => ?_
        obtain ⟨t85_1, rfl, hL_11, H⟩ := H
        refine guardM_y' hb_9 ?_
        refine pop_not t85_1 ?_
        refine pop_pickt' hb_9 ?_
        refine condM_b (fun hb_10 => ?_) (fun hb_10 => ?_)
        · have H := H.1 hb_10
          refine H.mono fun rv_8 h_12 H => ?_
          obtain ⟨t92_1, rfl, hL_12, H⟩ := H
          obtain ⟨m_1, hm_1, H⟩ := H
          exact hn_1 _ _ ⟨m_1, hm_1, t92_1, b2_2, x_1, wasBalanced8_1, wasPartitioned9_1, rfl, H, hL_12⟩
        · have H := H.2 hb_10
          refine H.mono fun rv_9 h_13 H => ?_
          obtain ⟨t99_1, t99_2, rfl, hL_13, H⟩ := H
          refine pop_ext (v := (VI t99_1)) rfl ?_
          refine pop_ext (v := (VB t99_2)) rfl ?_
          refine pop_sub .i64 t99_1 a1_2 ?_
          refine pop_sub .i64 b2_2 t99_1 ?_
          refine pop_quo .i64 (w64 (b2_2 - a1_2)) 8 (by decide) ?_
          refine pop_lss .i64 (w64 (t99_1 - a1_2)) (w64 (b2_2 - t99_1)) ?_
          refine condM_b (fun hb_11 => ?_) (fun hb_11 => ?_)
          · have H := H.1 hb_11
            refine pop_geq .i64 (w64 (t99_1 - a1_2)) (w64 (Int.tdiv (w64 (b2_2 - a1_2)) 8)) ?_
            refine H.mono fun rv_10 h_14 H => ?_
            obtain ⟨hL_14, H⟩ := H
            refine pop_add .i64 t99_1 1 ?_
            obtain ⟨m_2, hm_2, H⟩ := H
            exact hn_1 _ _ ⟨m_2, hm_2, (w64 (t99_1 + 1)), b2_2, x_1, (decide ((w64 (Int.tdiv (w64 (b2_2 - a1_2)) 8)) ≤ (w64 (t99_1 - a1_2)))), t99_2, rfl, H, hL_14⟩
          · have H := H.2 hb_11
            refine pop_geq .i64 (w64 (b2_2 - t99_1)) (w64 (Int.tdiv (w64 (b2_2 - a1_2)) 8)) ?_
            refine pop_add .i64 t99_1 1 ?_
            refine H.mono fun rv_11 h_15 H => ?_
            obtain ⟨hL_15, H⟩ := H
            obtain ⟨m_3, hm_3, H⟩ := H
            exact hn_1 _ _ ⟨m_3, hm_3, a1_2, t99_1, x_1, (decide ((w64 (Int.tdiv (w64 (b2_2 - a1_2)) 8)) ≤ (w64 (b2_2 - t99_1)))), t99_2, rfl, H, hL_15⟩
      · have H := H.2 hb_9
        refine guardM_n' hb_9 (by decide) ?_
        refine guardM_n' hb_9 (by decide) ?_
        refine guardM_n' hb_9 (by decide) ?_
        refine guardM_n' hb_9 (by decide) ?_
        refine guardM_n' hb_9 (by decide) ?_
        refine guardM_n' hb_9 (by decide) ?_
        refine guardM_n' hb_9 (by decide) ?_
        refine guardM_n' hb_9 (by decide) ?_
        refine guardM_n' hb_9 (by decide) ?_
        refine guardM_n' hb_9 (by decide) ?_
        refine pop_pickf' hb_9 ?_
        refine condM_f ?_
        refine H.mono fun rv_12 h_16 H => ?_
        obtain ⟨t99_3, t99_4, rfl, hL_16, H⟩ := H
        refine pop_ext (v := (VI t99_3)) rfl ?_
        refine pop_ext (v := (VB t99_4)) rfl ?_
        refine pop_sub .i64 t99_3 a1_2 ?_
        refine pop_sub .i64 b2_2 t99_3 ?_
        refine pop_quo .i64 (w64 (b2_2 - a1_2)) 8 (by decide) ?_
        refine pop_lss .i64 (w64 (t99_3 - a1_2)) (w64 (b2_2 - t99_3)) ?_
        refine condM_b (fun hb_12 => ?_) (fun hb_12 => ?_)
        · have H := H.1 hb_12
          refine pop_geq .i64 (w64 (t99_3 - a1_2)) (w64 (Int.tdiv (w64 (b2_2 - a1_2)) 8)) ?_
          refine H.mono fun rv_13 h_17 H => ?_
          obtain ⟨hL_17, H⟩ := H
          refine pop_add .i64 t99_3 1 ?_
          obtain ⟨m_4, hm_4, H⟩ := H
          exact hn_1 _ _ ⟨m_4, hm_4, (w64 (t99_3 + 1)), b2_2, x_1, (decide ((w64 (Int.tdiv (w64 (b2_2 - a1_2)) 8)) ≤ (w64 (t99_3 - a1_2)))), t99_4, rfl, H, hL_17⟩
        · have H := H.2 hb_12
          refine pop_geq .i64 (w64 (b2_2 - t99_3)) (w64 (Int.tdiv (w64 (b2_2 - a1_2)) 8)) ?_
          refine pop_add .i64 t99_3 1 ?_
          refine H.mono fun rv_14 h_18 H => ?_
          obtain ⟨hL_18, H⟩ := H
          obtain ⟨m_5, hm_5, H⟩ := H
          exact hn_1 _ _ ⟨m_5, hm_5, a1_2, t99_3, x_1, (decide ((w64 (Int.tdiv (w64 (b2_2 - a1_2)) 8)) ≤ (w64 (b2_2 - t99_3)))), t99_4, rfl, H, hL_18⟩

/-! math/bits.Len -/
def u138 (P : Program) (x0_1 : Int) (h : Heap) (K : Value → Heap → Prop) : Prop :=
  callM P 154 #[(Value.int .u64 x0_1)] h fun rv_1 h_1 => ∃ t7_1 : Int, rv_1 = (VI t7_1) ∧ Vars h_1 [] ∧
  K (VI t7_1) h_1
theorem v138 (x0_1 : Int) (h : Heap) (K : Value → Heap → Prop) (H : u138 Try.prog x0_1 h K) : callM Try.prog 138 #[(Value.int .u64 x0_1)] h K := by
  refine c138 (Value.int .u64 x0_1) h K ?_
  unfold u138 at H
  unfold t138
  have hL : Vars h [] := .nil
  refine condM_f ?_
  refine H.mono fun rv_1 h_1 H => ?_
  obtain ⟨t7_1, rfl, hL_1, H⟩ := H
  exact H

/-! impl.areStacks$1 -/
def u139 (P : Program) (k0_1 : Int) (b_1 : Nat) (t1_1 : Sl) (b_2 : Nat) (t2_1 : Int) (h : Heap) (K : Value → Heap → Prop) : Prop :=
  InB t1_1 t2_1 ∧
  ∃ t10_1 : Sl, hcell h (Sl.at t1_1 t2_1 1) = some (Sl.v t10_1) ∧
  callM P 102 #[(VI k0_1), (VI 0), (VI (w64 ((t10_1.n : Int) - 1)))] h fun rv_1 h_1 => ∃ t13_1 : Bool, rv_1 = (VB t13_1) ∧ Vars h_1 [(b_1, [(Sl.v t1_1)]), (b_2, [(VI t2_1)])] ∧
  K (VB (!t13_1)) h_1
theorem v139 (k0_1 : Int) (b_1 : Nat) (t1_1 : Sl) (b_2 : Nat) (t2_1 : Int) (h : Heap) (K : Value → Heap → Prop) (hL : Vars h [(b_1, [(Sl.v t1_1)]), (b_2, [(VI t2_1)])]) (H : u139 Try.prog k0_1 b_1 t1_1 b_2 t2_1 h K) : callM Try.prog 139 #[(VI k0_1), (VP b_1 0), (VP b_2 0)] h K := by
  refine c139 (VI k0_1) (VP b_1 0) (VP b_2 0) h K ?_
  unfold u139 at H
  unfold t139
  refine pop_field 0 fld32_0 b_1 0 ?_
  refine rop_loc one22 hL 0 rfl 0 (v := (Sl.v t1_1)) rfl ?_
  refine rop_loc one3 hL 1 rfl 0 (v := (VI t2_1)) rfl ?_
  obtain ⟨hi_1, H⟩ := H
  refine pop_index sli22 siz27 .i64 t1_1 t2_1 hi_1 ?_
  obtain ⟨t10_1, hc_1, H⟩ := H
  refine rop_one one27 (Sl.v t10_1) hc_1 ?_
  refine pop_len t10_1 _ _ sli27 ?_
  refine pop_sub .i64 (t10_1.n : Int) 1 ?_
  refine H.mono fun rv_1 h_1 H => ?_
  obtain ⟨t13_1, rfl, hL_1, H⟩ := H
  refine pop_not t13_1 ?_
  exact H

/-! (impl.Stacks).cycleOf -/
def u140 (P : Program) (s0_1 : Sl) (g1_1 : Sl) (p2_1 : Int) (h : Heap) (K : Value → Heap → Prop) : Prop :=
  ∀ (b_1 : Nat) (b_2 : Nat) (h_2 : Heap), h.size ≤ b_1 → h.size ≤ b_2 → Fr (In []) h h_2 → Vars h_2 [(b_2, [(Sl.v g1_1)]), (b_1, [(Sl.v s0_1)])] →
  eop P (Instr.buildSlice 27 0 #[]) h_2 fun rv_1 h_3 => ∃ t10_1 : Sl, rv_1 = (Sl.v t10_1) ∧ Vars h_3 [(b_2, [(Sl.v g1_1)]), (b_1, [(Sl.v s0_1)])] ∧
  ∃ J_1 : Nat → Sl → Int → Heap → Prop, (∃ n0 : Nat, J_1 n0 t10_1 p2_1 h_3) ∧
  ∀ (n_1 : Nat) (out7_1 : Sl) (at8_1 : Int) (h_4 : Heap), J_1 n_1 out7_1 at8_1 h_4 → Vars h_4 [(b_2, [(Sl.v g1_1)]), (b_1, [(Sl.v s0_1)])] →
  InB s0_1 at8_1 ∧
  ∃ t16_1 : Sl, hcell h_4 (Sl.at s0_1 at8_1 1) = some (Sl.v t16_1) ∧
  ((decide ((t16_1.n : Int) = 0)) = true →
  K (Sl.v nilSl) h_4) ∧
  ((decide ((t16_1.n : Int) = 0)) = false →
  ((decide ((g1_1.n : Int) < (out7_1.n : Int))) = true →
  K (Sl.v nilSl) h_4) ∧
  ((decide ((g1_1.n : Int) < (out7_1.n : Int))) = false →
  eop P (Instr.buildSlice 27 1 #[(0, (VI at8_1))]) h_4 fun rv_2 h_5 => ∃ t29_1 : Sl, rv_2 = (Sl.v t29_1) ∧ Vars h_5 [(b_2, [(Sl.v g1_1)]), (b_1, [(Sl.v s0_1)])] ∧
  eop P (appS 27 27 27 (Sl.v out7_1) (Sl.v t29_1)) h_5 fun rv_3 h_6 => ∃ t30_1 : Sl, rv_3 = (Sl.v t30_1) ∧ Vars h_6 [(b_2, [(Sl.v g1_1)]), (b_1, [(Sl.v s0_1)])] ∧
  InB g1_1 at8_1 ∧
  ∃ t35_1 : Sl, hcell h_6 (Sl.at g1_1 at8_1 1) = some (Sl.v t35_1) ∧
  InB s0_1 at8_1 ∧
  ∃ t40_1 : Sl, hcell h_6 (Sl.at s0_1 at8_1 1) = some (Sl.v t40_1) ∧
  InB t40_1 0 ∧
  ∃ t42_1 : Int, hcell h_6 (Sl.at t40_1 0 1) = some (VI t42_1) ∧
  InB t35_1 t42_1 ∧
  ∃ t44_1 : Int, hcell h_6 (Sl.at t35_1 t42_1 1) = some (VI t44_1) ∧
  ((decide (t44_1 = p2_1)) = true →
  callM P 155 #[(Sl.v t30_1)] h_6 fun rv_4 h_7 => ∃ t50_1 : Int, rv_4 = (VI t50_1) ∧ Vars h_7 [(b_2, [(Sl.v g1_1)]), (b_1, [(Sl.v s0_1)])] ∧
  callM P 114 #[(Sl.v t30_1), (VI t50_1)] h_7 fun rv_5 h_8 => ∃ t51_1 : Int, rv_5 = (VI t51_1) ∧ Vars h_8 [(b_2, [(Sl.v g1_1)]), (b_1, [(Sl.v s0_1)])] ∧
  pop P (Instr.sliceAt 27 (Sl.v t30_1) (some (VI t51_1)) none none) fun rv_6 => ∃ t54_1 : Sl, rv_6 = (Sl.v t54_1) ∧ 
  pop P (Instr.sliceAt 27 (Sl.v t30_1) none (some (VI t51_1)) none) fun rv_7 => ∃ t57_1 : Sl, rv_7 = (Sl.v t57_1) ∧ 
  eop P (Instr.buildSlice 22 2 #[(0, (Sl.v t54_1)), (1, (Sl.v t57_1))]) h_8 fun rv_8 h_9 => ∃ t58_1 : Sl, rv_8 = (Sl.v t58_1) ∧ Vars h_9 [(b_2, [(Sl.v g1_1)]), (b_1, [(Sl.v s0_1)])] ∧
  callM P 156 #[(Sl.v t58_1)] h_9 fun rv_9 h_10 => ∃ t59_1 : Sl, rv_9 = (Sl.v t59_1) ∧ Vars h_10 [(b_2, [(Sl.v g1_1)]), (b_1, [(Sl.v s0_1)])] ∧
  K (Sl.v t59_1) h_10) ∧
  ((decide (t44_1 = p2_1)) = false →
  ∃ m : Nat, m < n_1 ∧ J_1 m t30_1 t44_1 h_6)))
theorem v140 (s0_1 : Sl) (g1_1 : Sl) (p2_1 : Int) (h : Heap) (K : Value → Heap → Prop) (H : u140 Try.prog s0_1 g1_1 p2_1 h K) : callM Try.prog 140 #[(Value.agg #[(Sl.v s0_1)]), (Value.agg #[(Sl.v g1_1)]), (VI p2_1)] h K := by
  refine c140 (Value.agg #[(Sl.v s0_1)]) (Value.agg #[(Sl.v g1_1)]) (VI p2_1) h K ?_
  unfold u140 at H
  unfold t140
  have hL : Vars h [] := .nil
  refine eop_box 34 (Value.agg #[(Sl.v s0_1)]) rfl hL (fun b_1 h_1 hb_1 hf_1 hL_1 => ?_)
  refine eop_box 32 (Value.agg #[(Sl.v g1_1)]) rfl hL_1 (fun b_2 h_2 hb_2 hf_2 hL_2 => ?_)
  have H := H b_1 b_2 h_2 (Nat.le_trans (Fr.size (Fr.r (In []) _)) hb_1) (Nat.le_trans (Fr.size (Fr.no' (Fr.r (In []) _) hf_1)) hb_2) (Fr.no' (Fr.no' (Fr.r (In []) _) hf_1) hf_2) hL_2
  refine H.mono fun rv_1 h_3 H => ?_
  obtain ⟨t10_1, rfl, hL_3, H⟩ := H
  obtain ⟨J_1, ⟨n_2, h0_1⟩, HB_1⟩ := H
  refine loop_intro (J := fun (n : Nat) (vs : List Value) (h' : Heap) => ∃ out7_1 : Sl, ∃ at8_1 : Int, vs = [(Sl.v out7_1), (VI at8_1)] ∧ J_1 n out7_1 at8_1 h' ∧ Vars h' [(b_2, [(Sl.v g1_1)]), (b_1, [(Sl.v s0_1)])]) n_2 ⟨t10_1, p2_1, rfl, h0_1, hL_3⟩ ?_
  intro I_1 mu_1 hI_1 junk_1 tv_1 tv_2 h_4 hi_1
  obtain ⟨n_1, ⟨out7_1, at8_1, hv, hJ_1, hL_4⟩, hn_1⟩ := hI_1 _ _ hi_1
  cases hv
  have H := HB_1 n_1 out7_1 at8_1 h_4 hJ_1 hL_4
  refine pop_field 0 fld34_0 b_1 0 ?_
  refine rop_loc one22 hL_4 1 rfl 0 (v := (Sl.v s0_1)) rfl ?_
  obtain ⟨hi_2, H⟩ := H
  refine pop_index sli22 siz27 .i64 s0_1 at8_1 hi_2 ?_
  obtain ⟨t16_1, hc_5, H⟩ := H
  refine rop_one one27 (Sl.v t16_1) hc_5 ?_
  refine pop_len t16_1 _ _ sli27 ?_
  refine pop_ieq .i64 _ _ (t16_1.n : Int) 0 ?_
  refine guardM_sf (fun hb_3 => ?_) (fun hb_3 => ?_)
  · have H := H.2 hb_3
    refine guardM_y' hb_3 ?_
    refine pop_len out7_1 _ _ sli27 ?_
    refine guardM_y' hb_3 ?_
    refine pop_field 0 fld32_0 b_2 0 ?_
    refine guardM_y' hb_3 ?_
    refine rop_loc one22 hL_4 0 rfl 0 (v := (Sl.v g1_1)) rfl ?_
    refine guardM_y' hb_3 ?_
    refine pop_len g1_1 _ _ sli22 ?_
    refine guardM_y' hb_3 ?_
    refine pop_gtr .i64 (out7_1.n : Int) (g1_1.n : Int) ?_
    refine pop_pickf' hb_3 ?_
    refine condM_b (fun hb_4 => ?_) (fun hb_4 => ?_)
    · have H := H.1 hb_4
      exact H
    · have H := H.2 hb_4
      refine H.mono fun rv_2 h_5 H => ?_
      obtain ⟨t29_1, rfl, hL_5, H⟩ := H
      refine H.mono fun rv_3 h_6 H => ?_
      obtain ⟨t30_1, rfl, hL_6, H⟩ := H
      refine pop_field 0 fld32_0 b_2 0 ?_
      refine rop_loc one22 hL_6 0 rfl 0 (v := (Sl.v g1_1)) rfl ?_
      obtain ⟨hi_3, H⟩ := H
      refine pop_index sli22 siz27 .i64 g1_1 at8_1 hi_3 ?_
      obtain ⟨t35_1, hc_4, H⟩ := H
      refine rop_one one27 (Sl.v t35_1) hc_4 ?_
      refine pop_field 0 fld34_0 b_1 0 ?_
      refine rop_loc one22 hL_6 1 rfl 0 (v := (Sl.v s0_1)) rfl ?_
      obtain ⟨hi_4, H⟩ := H
      refine pop_index sli22 siz27 .i64 s0_1 at8_1 hi_4 ?_
      obtain ⟨t40_1, hc_3, H⟩ := H
      refine rop_one one27 (Sl.v t40_1) hc_3 ?_
      obtain ⟨hi_5, H⟩ := H
      refine pop_index sli27 siz3 .i64 t40_1 0 hi_5 ?_
      obtain ⟨t42_1, hc_2, H⟩ := H
      refine rop_one one3 (VI t42_1) hc_2 ?_
      obtain ⟨hi_6, H⟩ := H
      refine pop_index sli27 siz3 .i64 t35_1 t42_1 hi_6 ?_
      obtain ⟨t44_1, hc_1, H⟩ := H
      refine rop_one one3 (VI t44_1) hc_1 ?_
      refine pop_ieq .i64 _ _ t44_1 p2_1 ?_
      refine condM_b (fun hb_5 => ?_) (fun hb_5 => ?_)
      · have H := H.1 hb_5
        refine H.mono fun rv_4 h_7 H => ?_
        obtain ⟨t50_1, rfl, hL_7, H⟩ := H
        refine H.mono fun rv_5 h_8 H => ?_
        obtain ⟨t51_1, rfl, hL_8, H⟩ := H
        refine H.mono fun rv_6 H => ?_
        obtain ⟨t54_1, rfl, H⟩ := H
        refine H.mono fun rv_7 H => ?_
        obtain ⟨t57_1, rfl, H⟩ := H
        refine H.mono fun rv_8 h_9 H => ?_
        obtain ⟨t58_1, rfl, hL_9, H⟩ := H
        refine H.mono fun rv_9 h_10 H => ?_
        obtain ⟨t59_1, rfl, hL_10, H⟩ := H
        exact H
      · have H := H.2 hb_5
        obtain ⟨m_1, hm_1, H⟩ := H
        exact hn_1 _ _ ⟨m_1, hm_1, t30_1, t44_1, rfl, H, hL_6⟩
  · have H := H.1 hb_3
    refine guardM_n' hb_3 (by decide) ?_
    refine guardM_n' hb_3 (by decide) ?_
    refine guardM_n' hb_3 (by decide) ?_
    refine guardM_n' hb_3 (by decide) ?_
    refine guardM_n' hb_3 (by decide) ?_
    refine pop_pickt' hb_3 ?_
    refine condM_t ?_
    exact H

/-! slices.insertionSortOrdered[int] -/
def u144 (P : Program) (data0_1 : Sl) (a1_1 : Int) (b2_1 : Int) (h : Heap) (K : Value → Heap → Prop) : Prop :=
  ∃ J_1 : Nat → Int → Heap → Prop, (∃ n0 : Nat, J_1 n0 (w64 (a1_1 + 1)) h) ∧
  ∀ (n_1 : Nat) (i6_1 : Int) (h_1 : Heap), J_1 n_1 i6_1 h_1 → Vars h_1 [] →
  ((decide (i6_1 < b2_1)) = true →
  ∃ J_2 : Nat → Int → Heap → Prop, (∃ n0 : Nat, J_2 n0 i6_1 h_1) ∧
  ∀ (n_2 : Nat) (j7_1 : Int) (h_2 : Heap), J_2 n_2 j7_1 h_2 → Vars h_2 [] →
  ((decide (a1_1 < j7_1)) = true →
  InB data0_1 j7_1 ∧
  ∃ t23_1 : Int, hcell h_2 (Sl.at data0_1 j7_1 1) = some (VI t23_1) ∧
  InB data0_1 (w64 (j7_1 - 1)) ∧
  ∃ t28_1 : Int, hcell h_2 (Sl.at data0_1 (w64 (j7_1 - 1)) 1) = some (VI t28_1) ∧
  callM P 150 #[(VI t23_1), (VI t28_1)] h_2 fun rv_1 h_3 => ∃ t29_1 : Bool, rv_1 = (VB t29_1) ∧ Vars h_3 [] ∧
  (t29_1 = true →
  InB data0_1 (w64 (j7_1 - 1)) ∧
  ∃ t42_1 : Int, hcell h_3 (Sl.at data0_1 (w64 (j7_1 - 1)) 1) = some (VI t42_1) ∧
  InB data0_1 j7_1 ∧
  ∃ t46_1 : Int, hcell h_3 (Sl.at data0_1 j7_1 1) = some (VI t46_1) ∧
  InB data0_1 j7_1 ∧
  Writable h_3 (Sl.at data0_1 j7_1 1) ∧ Vars (hset h_3 (Sl.at data0_1 j7_1 1) (VI t42_1)) [] ∧
  ∀ h_4 : Heap, h_4 = hset h_3 (Sl.at data0_1 j7_1 1) (VI t42_1) → Vars h_4 [] →
  InB data0_1 (w64 (j7_1 - 1)) ∧
  Writable h_4 (Sl.at data0_1 (w64 (j7_1 - 1)) 1) ∧ Vars (hset h_4 (Sl.at data0_1 (w64 (j7_1 - 1)) 1) (VI t46_1)) [] ∧
  ∀ h_5 : Heap, h_5 = hset h_4 (Sl.at data0_1 (w64 (j7_1 - 1)) 1) (VI t46_1) → Vars h_5 [] →
  ∃ m : Nat, m < n_2 ∧ J_2 m (w64 (j7_1 - 1)) h_5) ∧
  (t29_1 = false →
  ∃ m : Nat, m < n_1 ∧ J_1 m (w64 (i6_1 + 1)) h_3)) ∧
  ((decide (a1_1 < j7_1)) = false →
  ∃ m : Nat, m < n_1 ∧ J_1 m (w64 (i6_1 + 1)) h_2)) ∧
  ((decide (i6_1 < b2_1)) = false →
  K (Value.tuple #[]) h_1)
theorem v144 (data0_1 : Sl) (a1_1 : Int) (b2_1 : Int) (h : Heap) (K : Value → Heap → Prop) (H : u144 Try.prog data0_1 a1_1 b2_1 h K) : callM Try.prog 144 #[(Sl.v data0_1), (VI a1_1), (VI b2_1)] h K := by
  refine c144 (Sl.v data0_1) (VI a1_1) (VI b2_1) h K ?_
  unfold u144 at H
  unfold t144
  have hL : Vars h [] := .nil
  refine pop_add .i64 a1_1 1 ?_
  obtain ⟨J_1, ⟨n_4, h0_2⟩, HB_2⟩ := H
  refine loop_intro (J := fun (n : Nat) (vs : List Value) (h' : Heap) => ∃ i6_1 : Int, vs = [(VI i6_1)] ∧ J_1 n i6_1 h' ∧ Vars h' []) n_4 ⟨(w64 (a1_1 + 1)), rfl, h0_2, hL⟩ ?_
  intro I_2 mu_2 hI_2 junk_1 tv_2 h_1 hi_1
  obtain ⟨n_1, ⟨i6_1, hv, hJ_1, hL_1⟩, hn_1⟩ := hI_2 _ _ hi_1
  cases hv
  have H := HB_2 n_1 i6_1 h_1 hJ_1 hL_1
  refine pop_lss .i64 i6_1 b2_1 ?_
  refine condM_b (fun hb_1 => ?_) (fun hb_1 => ?_)
  · have H := H.1 hb_1
    obtain ⟨J_2, ⟨n_3, h0_1⟩, HB_1⟩ := H
    refine loop_intro (J := fun (n : Nat) (vs : List Value) (h' : Heap) => ∃ j7_1 : Int, vs = [(VI j7_1)] ∧ J_2 n j7_1 h' ∧ Vars h' []) n_3 ⟨i6_1, rfl, h0_1, hL_1⟩ ?_
    intro I_1 mu_1 hI_1 junk_2 tv_1 h_2 hi_2
    obtain ⟨n_2, ⟨j7_1, hv, hJ_2, hL_2⟩, hn_2⟩ := hI_1 _ _ hi_2
    cases hv
    have H := HB_1 n_2 j7_1 h_2 hJ_2 hL_2
    refine pop_gtr .i64 j7_1 a1_1 ?_
    refine guardM_st (fun hb_2 => ?_) (fun hb_2 => ?_)
    · have H := H.1 hb_2
      refine guardM_y' hb_2 ?_
      refine guardM_y' hb_2 ?_
      obtain ⟨hi_3, H⟩ := H
      refine pop_index sli27 siz3 .i64 data0_1 j7_1 hi_3 ?_
      refine guardM_y' hb_2 ?_
      obtain ⟨t23_1, hc_4, H⟩ := H
      refine rop_one one3 (VI t23_1) hc_4 ?_
      refine guardM_y' hb_2 ?_
      refine guardM_y' hb_2 ?_
      refine guardM_y' hb_2 ?_
      refine pop_sub .i64 j7_1 1 ?_
      refine guardM_y' hb_2 ?_
      obtain ⟨hi_4, H⟩ := H
      refine pop_index sli27 siz3 .i64 data0_1 (w64 (j7_1 - 1)) hi_4 ?_
      refine guardM_y' hb_2 ?_
      obtain ⟨t28_1, hc_3, H⟩ := H
      refine rop_one one3 (VI t28_1) hc_3 ?_
      refine guardM_y' hb_2 ?_
      refine H.mono fun rv_1 h_3 H => ?_
      obtain ⟨t29_1, rfl, hL_3, H⟩ := H
      refine pop_pickt' hb_2 ?_
      refine condM_b (fun hb_3 => ?_) (fun hb_3 => ?_)
      · have H := H.1 hb_3
        refine pop_sub .i64 j7_1 1 ?_
        refine pop_sub .i64 j7_1 1 ?_
        obtain ⟨hi_5, H⟩ := H
        refine pop_index sli27 siz3 .i64 data0_1 (w64 (j7_1 - 1)) hi_5 ?_
        obtain ⟨t42_1, hc_2, H⟩ := H
        refine rop_one one3 (VI t42_1) hc_2 ?_
        obtain ⟨hi_6, H⟩ := H
        refine pop_index sli27 siz3 .i64 data0_1 j7_1 hi_6 ?_
        obtain ⟨t46_1, hc_1, H⟩ := H
        refine rop_one one3 (VI t46_1) hc_1 ?_
        obtain ⟨hi_7, H⟩ := H
        refine pop_index sli27 siz3 .i64 data0_1 j7_1 hi_7 ?_
        obtain ⟨hw_1, hL_4, H⟩ := H
        refine uop_cell (v := (VI t42_1)) siz3 hw_1 rfl (fun h_4 he_1 => ?_)
        rw [← he_1] at hL_4
        have H := H h_4 he_1 hL_4
        obtain ⟨hi_8, H⟩ := H
        refine pop_index sli27 siz3 .i64 data0_1 (w64 (j7_1 - 1)) hi_8 ?_
        obtain ⟨hw_2, hL_5, H⟩ := H
        refine uop_cell (v := (VI t46_1)) siz3 hw_2 rfl (fun h_5 he_2 => ?_)
        rw [← he_2] at hL_5
        have H := H h_5 he_2 hL_5
        refine pop_sub .i64 j7_1 1 ?_
        obtain ⟨m_1, hm_1, H⟩ := H
        exact hn_2 _ _ ⟨m_1, hm_1, (w64 (j7_1 - 1)), rfl, H, hL_5⟩
      · have H := H.2 hb_3
        refine pop_add .i64 i6_1 1 ?_
        obtain ⟨m_2, hm_2, H⟩ := H
        exact hn_1 _ _ ⟨m_2, hm_2, (w64 (i6_1 + 1)), rfl, H, hL_3⟩
    · have H := H.2 hb_2
      refine guardM_n' hb_2 (by decide) ?_
      refine guardM_n' hb_2 (by decide) ?_
      refine guardM_n' hb_2 (by decide) ?_
      refine guardM_n' hb_2 (by decide) ?_
      refine guardM_n' hb_2 (by decide) ?_
      refine guardM_n' hb_2 (by decide) ?_
      refine guardM_n' hb_2 (by decide) ?_
      refine guardM_n' hb_2 (by decide) ?_
      refine guardM_n' hb_2 (by decide) ?_
      refine pop_pickf' hb_2 ?_
      refine condM_f ?_
      refine pop_add .i64 i6_1 1 ?_
      obtain ⟨m_3, hm_3, H⟩ := H
      exact hn_1 _ _ ⟨m_3, hm_3, (w64 (i6_1 + 1)), rfl, H, hL_2⟩
  · have H := H.2 hb_1
    exact H

/-! slices.heapSortOrdered[int] -/
def u145 (P : Program) (data0_1 : Sl) (a1_1 : Int) (b2_1 : Int) (h : Heap) (K : Value → Heap → Prop) : Prop :=
  ∃ J_1 : Nat → Int → Heap → Prop, (∃ n0 : Nat, J_1 n0 (w64 (Int.tdiv (w64 ((w64 (b2_1 - a1_1)) - 1)) 2)) h) ∧
  ∀ (n_1 : Nat) (i9_1 : Int) (h_1 : Heap), J_1 n_1 i9_1 h_1 → Vars h_1 [] →
  ((decide (0 ≤ i9_1)) = true →
  callM P 157 #[(Sl.v data0_1), (VI i9_1), (VI (w64 (b2_1 - a1_1))), (VI a1_1)] h_1 fun rv_1 h_2 => Vars h_2 [] ∧
  ∃ m : Nat, m < n_1 ∧ J_1 m (w64 (i9_1 - 1)) h_2) ∧
  ((decide (0 ≤ i9_1)) = false →
  ∃ J_2 : Nat → Int → Heap → Prop, (∃ n0 : Nat, J_2 n0 (w64 ((w64 (b2_1 - a1_1)) - 1)) h_1) ∧
  ∀ (n_2 : Nat) (i10_1 : Int) (h_3 : Heap), J_2 n_2 i10_1 h_3 → Vars h_3 [] →
  ((decide (0 ≤ i10_1)) = true →
  InB data0_1 (w64 (a1_1 + i10_1)) ∧
  ∃ t44_1 : Int, hcell h_3 (Sl.at data0_1 (w64 (a1_1 + i10_1)) 1) = some (VI t44_1) ∧
  InB data0_1 a1_1 ∧
  ∃ t48_1 : Int, hcell h_3 (Sl.at data0_1 a1_1 1) = some (VI t48_1) ∧
  InB data0_1 a1_1 ∧
  Writable h_3 (Sl.at data0_1 a1_1 1) ∧ Vars (hset h_3 (Sl.at data0_1 a1_1 1) (VI t44_1)) [] ∧
  ∀ h_4 : Heap, h_4 = hset h_3 (Sl.at data0_1 a1_1 1) (VI t44_1) → Vars h_4 [] →
  InB data0_1 (w64 (a1_1 + i10_1)) ∧
  Writable h_4 (Sl.at data0_1 (w64 (a1_1 + i10_1)) 1) ∧ Vars (hset h_4 (Sl.at data0_1 (w64 (a1_1 + i10_1)) 1) (VI t48_1)) [] ∧
  ∀ h_5 : Heap, h_5 = hset h_4 (Sl.at data0_1 (w64 (a1_1 + i10_1)) 1) (VI t48_1) → Vars h_5 [] →
  callM P 157 #[(Sl.v data0_1), (VI 0), (VI i10_1), (VI a1_1)] h_5 fun rv_2 h_6 => Vars h_6 [] ∧
  ∃ m : Nat, m < n_2 ∧ J_2 m (w64 (i10_1 - 1)) h_6) ∧
  ((decide (0 ≤ i10_1)) = false →
  K (Value.tuple #[]) h_3))
theorem v145 (data0_1 : Sl) (a1_1 : Int) (b2_1 : Int) (h : Heap) (K : Value → Heap → Prop) (H : u145 Try.prog data0_1 a1_1 b2_1 h K) : callM Try.prog 145 #[(Sl.v data0_1), (VI a1_1), (VI b2_1)] h K := by
  refine c145 (Sl.v data0_1) (VI a1_1) (VI b2_1) h K ?_
  unfold u145 at H
  unfold t145
  have hL : Vars h [] := .nil
  refine pop_sub .i64 b2_1 a1_1 ?_
  refine pop_sub .i64 (w64 (b2_1 - a1_1)) 1 ?_
  refine pop_quo .i64 (w64 ((w64 (b2_1 - a1_1)) - 1)) 2 (by decide) ?_
  obtain ⟨J_1, ⟨n_4, h0_2⟩, HB_2⟩ := H
  refine loop_intro (J := fun (n : Nat) (vs : List Value) (h' : Heap) => ∃ i9_1 : Int, vs = [(VI i9_1)] ∧ J_1 n i9_1 h' ∧ Vars h' []) n_4 ⟨(w64 (Int.tdiv (w64 ((w64 (b2_1 - a1_1)) - 1)) 2)), rfl, h0_2, hL⟩ ?_
  intro I_2 mu_2 hI_2 junk_1 tv_2 h_1 hi_1
  obtain ⟨n_1, ⟨i9_1, hv, hJ_1, hL_1⟩, hn_1⟩ := hI_2 _ _ hi_1
  cases hv
  have H := HB_2 n_1 i9_1 h_1 hJ_1 hL_1
  refine pop_geq .i64 i9_1 0 ?_
  refine condM_b (fun hb_1 => ?_) (fun hb_1 => ?_)
  · have H := H.1 hb_1
    refine H.mono fun rv_1 h_2 H => ?_
    obtain ⟨hL_2, H⟩ := H
    refine pop_sub .i64 i9_1 1 ?_
    obtain ⟨m_1, hm_1, H⟩ := H
    exact hn_1 _ _ ⟨m_1, hm_1, (w64 (i9_1 - 1)), rfl, H, hL_2⟩
  · have H := H.2 hb_1
    refine pop_sub .i64 (w64 (b2_1 - a1_1)) 1 ?_
    obtain ⟨J_2, ⟨n_3, h0_1⟩, HB_1⟩ := H
    refine loop_intro (J := fun (n : Nat) (vs : List Value) (h' : Heap) => ∃ i10_1 : Int, vs = [(VI i10_1)] ∧ J_2 n i10_1 h' ∧ Vars h' []) n_3 ⟨(w64 ((w64 (b2_1 - a1_1)) - 1)), rfl, h0_1, hL_1⟩ ?_
    intro I_1 mu_1 hI_1 junk_2 tv_1 h_3 hi_2
    obtain ⟨n_2, ⟨i10_1, hv, hJ_2, hL_3⟩, hn_2⟩ := hI_1 _ _ hi_2
    cases hv
    have H := HB_1 n_2 i10_1 h_3 hJ_2 hL_3
    refine pop_geq .i64 i10_1 0 ?_
    refine condM_b (fun hb_2 => ?_) (fun hb_2 => ?_)
    · have H := H.1 hb_2
      refine pop_add .i64 a1_1 i10_1 ?_
      refine pop_add .i64 a1_1 i10_1 ?_
      obtain ⟨hi_3, H⟩ := H
      refine pop_index sli27 siz3 .i64 data0_1 (w64 (a1_1 + i10_1)) hi_3 ?_
      obtain ⟨t44_1, hc_2, H⟩ := H
      refine rop_one one3 (VI t44_1) hc_2 ?_
      obtain ⟨hi_4, H⟩ := H
      refine pop_index sli27 siz3 .i64 data0_1 a1_1 hi_4 ?_
      obtain ⟨t48_1, hc_1, H⟩ := H
      refine rop_one one3 (VI t48_1) hc_1 ?_
      obtain ⟨hi_5, H⟩ := H
      refine pop_index sli27 siz3 .i64 data0_1 a1_1 hi_5 ?_
      obtain ⟨hw_1, hL_4, H⟩ := H
      refine uop_cell (v := (VI t44_1)) siz3 hw_1 rfl (fun h_4 he_1 => ?_)
      rw [← he_1] at hL_4
      have H := H h_4 he_1 hL_4
      obtain ⟨hi_6, H⟩ := H
      refine pop_index sli27 siz3 .i64 data0_1 (w64 (a1_1 + i10_1)) hi_6 ?_
      obtain ⟨hw_2, hL_5, H⟩ := H
      refine uop_cell (v := (VI t48_1)) siz3 hw_2 rfl (fun h_5 he_2 => ?_)
      rw [← he_2] at hL_5
      have H := H h_5 he_2 hL_5
      refine H.mono fun rv_2 h_6 H => ?_
      obtain ⟨hL_6, H⟩ := H
      refine pop_sub .i64 i10_1 1 ?_
      obtain ⟨m_2, hm_2, H⟩ := H
      exact hn_2 _ _ ⟨m_2, hm_2, (w64 (i10_1 - 1)), rfl, H, hL_6⟩
    · have H := H.2 hb_2
      exact H

end Go.Proofs.Ytkjkfjkapbpgiaa
