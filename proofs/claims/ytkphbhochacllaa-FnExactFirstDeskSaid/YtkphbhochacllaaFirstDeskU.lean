/-
  The same over typed data. Written by a program.
-/
import Derived.Test.YtkphbhochacllaaFirstDeskT
import Derived.Test.YtkphbhochacllaaM2
set_option linter.unusedVariables false
set_option linter.unusedSimpArgs false
namespace Go.Proofs.Ytkphbhochacllaa
open Go Go.Mx
theorem agg24 : aggC Try.prog 24 = some 1 := by kernel_rfl
theorem agg27 : aggC Try.prog 27 = some 2 := by kernel_rfl
theorem agg29 : aggC Try.prog 29 = some 3 := by kernel_rfl
theorem fld24_0 : fieldC Try.prog 24 0 = some 0 := by kernel_rfl
theorem fld27_0 : fieldC Try.prog 27 0 = some 0 := by kernel_rfl
theorem fld27_1 : fieldC Try.prog 27 1 = some 1 := by kernel_rfl
theorem fld29_0 : fieldC Try.prog 29 0 = some 0 := by kernel_rfl
theorem fld29_1 : fieldC Try.prog 29 1 = some 1 := by kernel_rfl
theorem one22 : oneC Try.prog 22 = true := by kernel_rfl
theorem one25 : oneC Try.prog 25 = true := by kernel_rfl
theorem one3 : oneC Try.prog 3 = true := by kernel_rfl
theorem siz25 : sizeC Try.prog 25 = some 1 := by kernel_rfl
theorem siz29 : sizeC Try.prog 29 = some 3 := by kernel_rfl
theorem siz3 : sizeC Try.prog 3 = some 1 := by kernel_rfl
theorem sli22 : Try.prog.underlying 22 = some (.slice 25) := by kernel_rfl
theorem sli25 : Try.prog.underlying 25 = some (.slice 3) := by kernel_rfl
theorem zer29 : zeroC Try.prog 29 = some (Value.agg #[(Sl.v nilSl), (Sl.v nilSl), (VI 0)]) := by kernel_rfl
/-! laws.FnExactFirstDesk -/
def u3 (P : Program) (h : Heap) (K : Value → Heap → Prop) : Prop :=
  callM P 15 #[] h fun rv_1 h_1 => ∃ t6_1 : Sl, ∃ t6_2 : Sl, ∃ t6_3 : Int, rv_1 = (Value.agg #[(Sl.v t6_1), (Sl.v t6_2), (VI t6_3)]) ∧ Vars h_1 [] ∧
  ∀ (b_1 : Nat) (h_3 : Heap), h_1.size ≤ b_1 → Fr (In []) h_1 h_3 → Vars h_3 [(b_1, [(Sl.v t6_1), (Sl.v t6_2), (VI t6_3)])] →
  callM P 16 #[] h_3 fun rv_2 h_4 => ∃ t7_1 : Sl, ∃ t7_2 : Sl, ∃ t7_3 : Int, rv_2 = (Value.agg #[(Sl.v t7_1), (Sl.v t7_2), (VI t7_3)]) ∧ Vars h_4 [(b_1, [(Sl.v t6_1), (Sl.v t6_2), (VI t6_3)])] ∧
  ∀ (b_2 : Nat) (h_6 : Heap), h_4.size ≤ b_2 → Fr (In []) h_4 h_6 → Vars h_6 [(b_2, [(Sl.v t7_1), (Sl.v t7_2), (VI t7_3)]), (b_1, [(Sl.v t6_1), (Sl.v t6_2), (VI t6_3)])] →
  callM P 17 #[(Value.agg #[(Sl.v t7_1), (Sl.v t7_2), (VI t7_3)]), (Value.agg #[(Sl.v t6_1), (Sl.v t6_2), (VI t6_3)])] h_6 fun rv_3 h_7 => ∃ t10_1 : Bool, rv_3 = (VB t10_1) ∧ Vars h_7 [(b_2, [(Sl.v t7_1), (Sl.v t7_2), (VI t7_3)]), (b_1, [(Sl.v t6_1), (Sl.v t6_2), (VI t6_3)])] ∧
  ((!t10_1) = true →
  K (VB false) h_7) ∧
  ((!t10_1) = false →
  callM P 18 #[(Value.agg #[(Sl.v t7_1), (Sl.v t7_2), (VI t7_3)]), (VI 1)] h_7 fun rv_4 h_8 => ∃ t14_1 : Int, rv_4 = (VI t14_1) ∧ Vars h_8 [(b_2, [(Sl.v t7_1), (Sl.v t7_2), (VI t7_3)]), (b_1, [(Sl.v t6_1), (Sl.v t6_2), (VI t6_3)])] ∧
  callM P 19 #[(Value.agg #[(Sl.v t7_1), (Sl.v t7_2), (VI t7_3)]), (VI 1)] h_8 fun rv_5 h_9 => ∃ t17_1 : Int, rv_5 = (VI t17_1) ∧ Vars h_9 [(b_2, [(Sl.v t7_1), (Sl.v t7_2), (VI t7_3)]), (b_1, [(Sl.v t6_1), (Sl.v t6_2), (VI t6_3)])] ∧
  ((decide (t17_1 < 0)) = true →
  K (VB false) h_9) ∧
  ((decide (t17_1 < 0)) = false →
  ((!decide (t17_1 = t14_1)) = true →
  K (VB false) h_9) ∧
  ((!decide (t17_1 = t14_1)) = false →
  callM P 16 #[] h_9 fun rv_6 h_10 => ∃ t23_1 : Sl, ∃ t23_2 : Sl, ∃ t23_3 : Int, rv_6 = (Value.agg #[(Sl.v t23_1), (Sl.v t23_2), (VI t23_3)]) ∧ Vars h_10 [(b_2, [(Sl.v t7_1), (Sl.v t7_2), (VI t7_3)]), (b_1, [(Sl.v t6_1), (Sl.v t6_2), (VI t6_3)])] ∧
  ∀ (b_3 : Nat) (h_12 : Heap), h_10.size ≤ b_3 → Fr (In []) h_10 h_12 → Vars h_12 [(b_3, [(Sl.v t23_1), (Sl.v t23_2), (VI t23_3)]), (b_2, [(Sl.v t7_1), (Sl.v t7_2), (VI t7_3)]), (b_1, [(Sl.v t6_1), (Sl.v t6_2), (VI t6_3)])] →
  callM P 17 #[(Value.agg #[(Sl.v t23_1), (Sl.v t23_2), (VI t23_3)]), (Value.agg #[(Sl.v t6_1), (Sl.v t6_2), (VI t6_3)])] h_12 fun rv_7 h_13 => ∃ t26_1 : Bool, rv_7 = (VB t26_1) ∧ Vars h_13 [(b_3, [(Sl.v t23_1), (Sl.v t23_2), (VI t23_3)]), (b_2, [(Sl.v t7_1), (Sl.v t7_2), (VI t7_3)]), (b_1, [(Sl.v t6_1), (Sl.v t6_2), (VI t6_3)])] ∧
  ((!t26_1) = true →
  K (VB false) h_13) ∧
  ((!t26_1) = false →
  callM P 19 #[(Value.agg #[(Sl.v t7_1), (Sl.v t7_2), (VI t7_3)]), (VI 1)] h_13 fun rv_8 h_14 => ∃ t30_1 : Int, rv_8 = (VI t30_1) ∧ Vars h_14 [(b_3, [(Sl.v t23_1), (Sl.v t23_2), (VI t23_3)]), (b_2, [(Sl.v t7_1), (Sl.v t7_2), (VI t7_3)]), (b_1, [(Sl.v t6_1), (Sl.v t6_2), (VI t6_3)])] ∧
  ((decide (t30_1 < 0)) = true →
  K (VB false) h_14) ∧
  ((decide (t30_1 < 0)) = false →
  ((!decide (t30_1 = t14_1)) = true →
  K (VB false) h_14) ∧
  ((!decide (t30_1 = t14_1)) = false →
  K (VB true) h_14))))))
theorem v3 (h : Heap) (K : Value → Heap → Prop) (H : u3 Try.prog h K) : callM Try.prog 3 #[] h K := by
  refine c3  h K ?_
  unfold u3 at H
  unfold t3
  have hL : Vars h [] := .nil
  refine H.mono fun rv_1 h_1 H => ?_
  obtain ⟨t6_1, t6_2, t6_3, rfl, hL_1, H⟩ := H
  refine eop_alloc 29 zer29 rfl hL_1 (fun b_1 h_2 hb_1 hf_1 hL_2 => ?_)
  refine uop_loc siz29 hL_2 0 rfl 0 [(Sl.v t6_1), (Sl.v t6_2), (VI t6_3)] rfl rfl rfl (Nat.le_of_ble_eq_true rfl) (L' := [(b_1, [(Sl.v t6_1), (Sl.v t6_2), (VI t6_3)])]) rfl (fun h_3 hf_2 hL_3 => ?_)
  have H := H b_1 h_3 (Nat.le_trans (Fr.size (Fr.r (In []) _)) hb_1) (Fr.new (Fr.no' (Fr.r (In []) _) hf_1) (Nat.le_trans (Fr.size (Fr.r (In []) _)) hb_1) hf_2) hL_3
  refine H.mono fun rv_2 h_4 H => ?_
  obtain ⟨t7_1, t7_2, t7_3, rfl, hL_4, H⟩ := H
  refine eop_alloc 29 zer29 rfl hL_4 (fun b_2 h_5 hb_2 hf_3 hL_5 => ?_)
  refine uop_loc siz29 hL_5 0 rfl 0 [(Sl.v t7_1), (Sl.v t7_2), (VI t7_3)] rfl rfl rfl (Nat.le_of_ble_eq_true rfl) (L' := [(b_2, [(Sl.v t7_1), (Sl.v t7_2), (VI t7_3)]), (b_1, [(Sl.v t6_1), (Sl.v t6_2), (VI t6_3)])]) rfl (fun h_6 hf_4 hL_6 => ?_)
  refine rop_locA agg29 hL_6 0 rfl 0 (vs := [(Sl.v t7_1), (Sl.v t7_2), (VI t7_3)]) rfl rfl ?_
  refine rop_locA agg29 hL_6 1 rfl 0 (vs := [(Sl.v t6_1), (Sl.v t6_2), (VI t6_3)]) rfl rfl ?_
  have H := H b_2 h_6 (Nat.le_trans (Fr.size (Fr.r (In []) _)) hb_2) (Fr.new (Fr.no' (Fr.r (In []) _) hf_3) (Nat.le_trans (Fr.size (Fr.r (In []) _)) hb_2) hf_4) hL_6
  refine H.mono fun rv_3 h_7 H => ?_
  obtain ⟨t10_1, rfl, hL_7, H⟩ := H
  refine pop_not t10_1 ?_
  refine condM_b (fun hb_3 => ?_) (fun hb_3 => ?_)
  · have H := H.1 hb_3
    exact H
  · have H := H.2 hb_3
    refine rop_locA agg29 hL_7 0 rfl 0 (vs := [(Sl.v t7_1), (Sl.v t7_2), (VI t7_3)]) rfl rfl ?_
    refine H.mono fun rv_4 h_8 H => ?_
    obtain ⟨t14_1, rfl, hL_8, H⟩ := H
    refine rop_locA agg29 hL_8 0 rfl 0 (vs := [(Sl.v t7_1), (Sl.v t7_2), (VI t7_3)]) rfl rfl ?_
    refine H.mono fun rv_5 h_9 H => ?_
    obtain ⟨t17_1, rfl, hL_9, H⟩ := H
    refine pop_lss .i64 t17_1 0 ?_
    refine condM_b (fun hb_4 => ?_) (fun hb_4 => ?_)
    · have H := H.1 hb_4
      exact H
    · have H := H.2 hb_4
      refine pop_ine .i64 _ _ t17_1 t14_1 ?_
      refine condM_b (fun hb_5 => ?_) (fun hb_5 => ?_)
      · have H := H.1 hb_5
        exact H
      · have H := H.2 hb_5
        refine H.mono fun rv_6 h_10 H => ?_
        obtain ⟨t23_1, t23_2, t23_3, rfl, hL_10, H⟩ := H
        refine eop_alloc 29 zer29 rfl hL_10 (fun b_3 h_11 hb_6 hf_5 hL_11 => ?_)
        refine uop_loc siz29 hL_11 0 rfl 0 [(Sl.v t23_1), (Sl.v t23_2), (VI t23_3)] rfl rfl rfl (Nat.le_of_ble_eq_true rfl) (L' := [(b_3, [(Sl.v t23_1), (Sl.v t23_2), (VI t23_3)]), (b_2, [(Sl.v t7_1), (Sl.v t7_2), (VI t7_3)]), (b_1, [(Sl.v t6_1), (Sl.v t6_2), (VI t6_3)])]) rfl (fun h_12 hf_6 hL_12 => ?_)
        refine rop_locA agg29 hL_12 0 rfl 0 (vs := [(Sl.v t23_1), (Sl.v t23_2), (VI t23_3)]) rfl rfl ?_
        refine rop_locA agg29 hL_12 2 rfl 0 (vs := [(Sl.v t6_1), (Sl.v t6_2), (VI t6_3)]) rfl rfl ?_
        have H := H b_3 h_12 (Nat.le_trans (Fr.size (Fr.r (In []) _)) hb_6) (Fr.new (Fr.no' (Fr.r (In []) _) hf_5) (Nat.le_trans (Fr.size (Fr.r (In []) _)) hb_6) hf_6) hL_12
        refine H.mono fun rv_7 h_13 H => ?_
        obtain ⟨t26_1, rfl, hL_13, H⟩ := H
        refine pop_not t26_1 ?_
        refine condM_b (fun hb_7 => ?_) (fun hb_7 => ?_)
        · have H := H.1 hb_7
          exact H
        · have H := H.2 hb_7
          refine rop_locA agg29 hL_13 1 rfl 0 (vs := [(Sl.v t7_1), (Sl.v t7_2), (VI t7_3)]) rfl rfl ?_
          refine H.mono fun rv_8 h_14 H => ?_
          obtain ⟨t30_1, rfl, hL_14, H⟩ := H
          refine pop_lss .i64 t30_1 0 ?_
          refine condM_b (fun hb_8 => ?_) (fun hb_8 => ?_)
          · have H := H.1 hb_8
            exact H
          · have H := H.2 hb_8
            refine pop_ine .i64 _ _ t30_1 t14_1 ?_
            refine condM_b (fun hb_9 => ?_) (fun hb_9 => ?_)
            · have H := H.1 hb_9
              exact H
            · have H := H.2 hb_9
              exact H

/-! spec.FirstDesk -/
def u15 (P : Program) (h : Heap) (K : Value → Heap → Prop) : Prop :=
  ∀ (b_1 : Nat) (h_1 : Heap), h.size ≤ b_1 → Fr (In []) h h_1 → Vars h_1 [(b_1, [(Sl.v nilSl), (Sl.v nilSl), (VI 0)])] →
  eop P (Instr.buildSlice 25 2 #[(0, (Value.int IntKind.i64 1)), (1, (Value.int IntKind.i64 2))]) h_1 fun rv_1 h_2 => ∃ t1_1 : Sl, rv_1 = (Sl.v t1_1) ∧ Vars h_2 [(b_1, [(Sl.v nilSl), (Sl.v nilSl), (VI 0)])] ∧
  eop P (Instr.buildSlice 25 2 #[(0, (Value.int IntKind.i64 0)), (1, (Value.int IntKind.i64 2))]) h_2 fun rv_2 h_3 => ∃ t2_1 : Sl, rv_2 = (Sl.v t2_1) ∧ Vars h_3 [(b_1, [(Sl.v nilSl), (Sl.v nilSl), (VI 0)])] ∧
  eop P (Instr.buildSlice 25 1 #[(0, (Value.int IntKind.i64 0))]) h_3 fun rv_3 h_4 => ∃ t3_1 : Sl, rv_3 = (Sl.v t3_1) ∧ Vars h_4 [(b_1, [(Sl.v nilSl), (Sl.v nilSl), (VI 0)])] ∧
  eop P (Instr.buildSlice 22 3 #[(0, (Sl.v t1_1)), (1, (Sl.v t2_1)), (2, (Sl.v t3_1))]) h_4 fun rv_4 h_5 => ∃ t4_1 : Sl, rv_4 = (Sl.v t4_1) ∧ Vars h_5 [(b_1, [(Sl.v nilSl), (Sl.v nilSl), (VI 0)])] ∧
  eop P (Instr.buildSlice 25 3 #[(0, (Value.int IntKind.i64 0)), (1, (Value.int IntKind.i64 0)), (2, (Value.int IntKind.i64 0))]) h_5 fun rv_5 h_6 => ∃ t6_1 : Sl, rv_5 = (Sl.v t6_1) ∧ Vars h_6 [(b_1, [(Sl.v nilSl), (Sl.v nilSl), (VI 0)])] ∧
  ∀ (h_7 : Heap), Fr (In [b_1]) h_6 h_7 → Vars h_7 [(b_1, [(Sl.v t4_1), (Sl.v t6_1), (VI 0)])] →
  K (Value.agg #[(Sl.v t4_1), (Sl.v t6_1), (VI 0)]) h_7
theorem v15 (h : Heap) (K : Value → Heap → Prop) (H : u15 Try.prog h K) : callM Try.prog 15 #[] h K := by
  refine c15  h K ?_
  unfold u15 at H
  unfold t15
  have hL : Vars h [] := .nil
  refine eop_alloc 29 zer29 rfl hL (fun b_1 h_1 hb_1 hf_1 hL_1 => ?_)
  have H := H b_1 h_1 (Nat.le_trans (Fr.size (Fr.r (In []) _)) hb_1) (Fr.no' (Fr.r (In []) _) hf_1) hL_1
  refine H.mono fun rv_1 h_2 H => ?_
  obtain ⟨t1_1, rfl, hL_2, H⟩ := H
  refine H.mono fun rv_2 h_3 H => ?_
  obtain ⟨t2_1, rfl, hL_3, H⟩ := H
  refine H.mono fun rv_3 h_4 H => ?_
  obtain ⟨t3_1, rfl, hL_4, H⟩ := H
  refine H.mono fun rv_4 h_5 H => ?_
  obtain ⟨t4_1, rfl, hL_5, H⟩ := H
  refine pop.mk' (v := (Value.agg #[(Sl.v t4_1)])) (fun w => by kernel_rfl) ?_
  refine H.mono fun rv_5 h_6 H => ?_
  obtain ⟨t6_1, rfl, hL_6, H⟩ := H
  refine pop.mk' (v := (Value.agg #[(Sl.v t6_1), (VI 0)])) (fun w => by kernel_rfl) ?_
  refine pop.mk' (v := (Value.agg #[(Sl.v t4_1), (Sl.v t6_1), (VI 0)])) (fun w => by kernel_rfl) ?_
  refine uop_loc siz29 hL_6 0 rfl 0 [(Sl.v t4_1), (Sl.v t6_1), (VI 0)] rfl rfl rfl (Nat.le_of_ble_eq_true rfl) (L' := [(b_1, [(Sl.v t4_1), (Sl.v t6_1), (VI 0)])]) rfl (fun h_7 hf_2 hL_7 => ?_)
  refine rop_locA agg29 hL_7 0 rfl 0 (vs := [(Sl.v t4_1), (Sl.v t6_1), (VI 0)]) rfl rfl ?_
  have H := H  h_7  (Fr.old (Fr.r (In []) _) hf_2) hL_7
  exact H

/-! impl.FirstDesk -/
def u16 (P : Program) (h : Heap) (K : Value → Heap → Prop) : Prop :=
  ∀ (b_1 : Nat) (h_1 : Heap), h.size ≤ b_1 → Fr (In []) h h_1 → Vars h_1 [(b_1, [(Sl.v nilSl), (Sl.v nilSl), (VI 0)])] →
  eop P (Instr.buildSlice 25 2 #[(0, (Value.int IntKind.i64 1)), (1, (Value.int IntKind.i64 2))]) h_1 fun rv_1 h_2 => ∃ t1_1 : Sl, rv_1 = (Sl.v t1_1) ∧ Vars h_2 [(b_1, [(Sl.v nilSl), (Sl.v nilSl), (VI 0)])] ∧
  eop P (Instr.buildSlice 25 2 #[(0, (Value.int IntKind.i64 0)), (1, (Value.int IntKind.i64 2))]) h_2 fun rv_2 h_3 => ∃ t2_1 : Sl, rv_2 = (Sl.v t2_1) ∧ Vars h_3 [(b_1, [(Sl.v nilSl), (Sl.v nilSl), (VI 0)])] ∧
  eop P (Instr.buildSlice 25 1 #[(0, (Value.int IntKind.i64 0))]) h_3 fun rv_3 h_4 => ∃ t3_1 : Sl, rv_3 = (Sl.v t3_1) ∧ Vars h_4 [(b_1, [(Sl.v nilSl), (Sl.v nilSl), (VI 0)])] ∧
  eop P (Instr.buildSlice 22 3 #[(0, (Sl.v t1_1)), (1, (Sl.v t2_1)), (2, (Sl.v t3_1))]) h_4 fun rv_4 h_5 => ∃ t4_1 : Sl, rv_4 = (Sl.v t4_1) ∧ Vars h_5 [(b_1, [(Sl.v nilSl), (Sl.v nilSl), (VI 0)])] ∧
  callM P 60 #[(Value.agg #[(Sl.v t4_1)])] h_5 fun rv_5 h_6 => ∃ t6_1 : Sl, ∃ t6_2 : Sl, ∃ t6_3 : Int, rv_5 = (Value.agg #[(Sl.v t6_1), (Sl.v t6_2), (VI t6_3)]) ∧ Vars h_6 [(b_1, [(Sl.v nilSl), (Sl.v nilSl), (VI 0)])] ∧
  ∀ (h_7 : Heap), Fr (In [b_1]) h_6 h_7 → Vars h_7 [(b_1, [(Sl.v t6_1), (Sl.v t6_2), (VI t6_3)])] →
  K (Value.agg #[(Sl.v t6_1), (Sl.v t6_2), (VI t6_3)]) h_7
theorem v16 (h : Heap) (K : Value → Heap → Prop) (H : u16 Try.prog h K) : callM Try.prog 16 #[] h K := by
  refine c16  h K ?_
  unfold u16 at H
  unfold t16
  have hL : Vars h [] := .nil
  refine eop_alloc 29 zer29 rfl hL (fun b_1 h_1 hb_1 hf_1 hL_1 => ?_)
  have H := H b_1 h_1 (Nat.le_trans (Fr.size (Fr.r (In []) _)) hb_1) (Fr.no' (Fr.r (In []) _) hf_1) hL_1
  refine H.mono fun rv_1 h_2 H => ?_
  obtain ⟨t1_1, rfl, hL_2, H⟩ := H
  refine H.mono fun rv_2 h_3 H => ?_
  obtain ⟨t2_1, rfl, hL_3, H⟩ := H
  refine H.mono fun rv_3 h_4 H => ?_
  obtain ⟨t3_1, rfl, hL_4, H⟩ := H
  refine H.mono fun rv_4 h_5 H => ?_
  obtain ⟨t4_1, rfl, hL_5, H⟩ := H
  refine pop.mk' (v := (Value.agg #[(Sl.v t4_1)])) (fun w => by kernel_rfl) ?_
  refine H.mono fun rv_5 h_6 H => ?_
  obtain ⟨t6_1, t6_2, t6_3, rfl, hL_6, H⟩ := H
  refine uop_loc siz29 hL_6 0 rfl 0 [(Sl.v t6_1), (Sl.v t6_2), (VI t6_3)] rfl rfl rfl (Nat.le_of_ble_eq_true rfl) (L' := [(b_1, [(Sl.v t6_1), (Sl.v t6_2), (VI t6_3)])]) rfl (fun h_7 hf_2 hL_7 => ?_)
  refine rop_locA agg29 hL_7 0 rfl 0 (vs := [(Sl.v t6_1), (Sl.v t6_2), (VI t6_3)]) rfl rfl ?_
  have H := H  h_7  (Fr.old (Fr.r (In []) _) hf_2) hL_7
  exact H

/-! laws.eqDesk -/
def u17 (P : Program) (a0_1 : Sl) (a0_2 : Sl) (a0_3 : Int) (b1_1 : Sl) (b1_2 : Sl) (b1_3 : Int) (h : Heap) (K : Value → Heap → Prop) : Prop :=
  ∀ (b_1 : Nat) (b_2 : Nat) (h_2 : Heap), h.size ≤ b_1 → h.size ≤ b_2 → Fr (In []) h h_2 → Vars h_2 [(b_2, [(Sl.v b1_1), (Sl.v b1_2), (VI b1_3)]), (b_1, [(Sl.v a0_1), (Sl.v a0_2), (VI a0_3)])] →
  callM P 28 #[(Value.agg #[(Sl.v a0_1)]), (Value.agg #[(Sl.v b1_1)])] h_2 fun rv_1 h_3 => ∃ t9_1 : Bool, rv_1 = (VB t9_1) ∧ Vars h_3 [(b_2, [(Sl.v b1_1), (Sl.v b1_2), (VI b1_3)]), (b_1, [(Sl.v a0_1), (Sl.v a0_2), (VI a0_3)])] ∧
  ((!t9_1) = true →
  K (VB false) h_3) ∧
  ((!t9_1) = false →
  callM P 37 #[(Value.agg #[(Sl.v a0_2), (VI a0_3)]), (Value.agg #[(Sl.v b1_2), (VI b1_3)])] h_3 fun rv_2 h_4 => ∃ t15_1 : Bool, rv_2 = (VB t15_1) ∧ Vars h_4 [(b_2, [(Sl.v b1_1), (Sl.v b1_2), (VI b1_3)]), (b_1, [(Sl.v a0_1), (Sl.v a0_2), (VI a0_3)])] ∧
  ((!t15_1) = true →
  K (VB false) h_4) ∧
  ((!t15_1) = false →
  K (VB true) h_4))
theorem v17 (a0_1 : Sl) (a0_2 : Sl) (a0_3 : Int) (b1_1 : Sl) (b1_2 : Sl) (b1_3 : Int) (h : Heap) (K : Value → Heap → Prop) (H : u17 Try.prog a0_1 a0_2 a0_3 b1_1 b1_2 b1_3 h K) : callM Try.prog 17 #[(Value.agg #[(Sl.v a0_1), (Sl.v a0_2), (VI a0_3)]), (Value.agg #[(Sl.v b1_1), (Sl.v b1_2), (VI b1_3)])] h K := by
  refine c17 (Value.agg #[(Sl.v a0_1), (Sl.v a0_2), (VI a0_3)]) (Value.agg #[(Sl.v b1_1), (Sl.v b1_2), (VI b1_3)]) h K ?_
  unfold u17 at H
  unfold t17
  have hL : Vars h [] := .nil
  refine eop_box 29 (Value.agg #[(Sl.v a0_1), (Sl.v a0_2), (VI a0_3)]) rfl hL (fun b_1 h_1 hb_1 hf_1 hL_1 => ?_)
  refine eop_box 29 (Value.agg #[(Sl.v b1_1), (Sl.v b1_2), (VI b1_3)]) rfl hL_1 (fun b_2 h_2 hb_2 hf_2 hL_2 => ?_)
  refine pop_field 0 fld29_0 b_1 0 ?_
  refine rop_locA agg24 hL_2 1 rfl 0 (vs := [(Sl.v a0_1)]) rfl rfl ?_
  refine pop_field 0 fld29_0 b_2 0 ?_
  refine rop_locA agg24 hL_2 0 rfl 0 (vs := [(Sl.v b1_1)]) rfl rfl ?_
  have H := H b_1 b_2 h_2 (Nat.le_trans (Fr.size (Fr.r (In []) _)) hb_1) (Nat.le_trans (Fr.size (Fr.no' (Fr.r (In []) _) hf_1)) hb_2) (Fr.no' (Fr.no' (Fr.r (In []) _) hf_1) hf_2) hL_2
  refine H.mono fun rv_1 h_3 H => ?_
  obtain ⟨t9_1, rfl, hL_3, H⟩ := H
  refine pop_not t9_1 ?_
  refine condM_b (fun hb_3 => ?_) (fun hb_3 => ?_)
  · have H := H.1 hb_3
    exact H
  · have H := H.2 hb_3
    refine pop_field 1 fld29_1 b_1 0 ?_
    refine rop_locA agg27 hL_3 1 rfl 1 (vs := [(Sl.v a0_2), (VI a0_3)]) rfl rfl ?_
    refine pop_field 1 fld29_1 b_2 0 ?_
    refine rop_locA agg27 hL_3 0 rfl 1 (vs := [(Sl.v b1_2), (VI b1_3)]) rfl rfl ?_
    refine H.mono fun rv_2 h_4 H => ?_
    obtain ⟨t15_1, rfl, hL_4, H⟩ := H
    refine pop_not t15_1 ?_
    refine condM_b (fun hb_4 => ?_) (fun hb_4 => ?_)
    · have H := H.1 hb_4
      exact H
    · have H := H.2 hb_4
      exact H

/-! laws.markDesk -/
def u18 (P : Program) (a0_1 : Sl) (a0_2 : Sl) (a0_3 : Int) (k1_1 : Int) (h : Heap) (K : Value → Heap → Prop) : Prop :=
  ∀ (b_1 : Nat) (h_1 : Heap), h.size ≤ b_1 → Fr (In []) h h_1 → Vars h_1 [(b_1, [(Sl.v a0_1), (Sl.v a0_2), (VI a0_3)])] →
  callM P 29 #[(Value.agg #[(Sl.v a0_1)]), (VI k1_1)] h_1 fun rv_1 h_2 => ∃ t8_1 : Int, rv_1 = (VI t8_1) ∧ Vars h_2 [(b_1, [(Sl.v a0_1), (Sl.v a0_2), (VI a0_3)])] ∧
  callM P 45 #[(Value.agg #[(Sl.v a0_2), (VI a0_3)]), (VI t8_1)] h_2 fun rv_2 h_3 => ∃ t12_1 : Int, rv_2 = (VI t12_1) ∧ Vars h_3 [(b_1, [(Sl.v a0_1), (Sl.v a0_2), (VI a0_3)])] ∧
  K (VI t12_1) h_3
theorem v18 (a0_1 : Sl) (a0_2 : Sl) (a0_3 : Int) (k1_1 : Int) (h : Heap) (K : Value → Heap → Prop) (H : u18 Try.prog a0_1 a0_2 a0_3 k1_1 h K) : callM Try.prog 18 #[(Value.agg #[(Sl.v a0_1), (Sl.v a0_2), (VI a0_3)]), (VI k1_1)] h K := by
  refine c18 (Value.agg #[(Sl.v a0_1), (Sl.v a0_2), (VI a0_3)]) (VI k1_1) h K ?_
  unfold u18 at H
  unfold t18
  have hL : Vars h [] := .nil
  refine eop_box 29 (Value.agg #[(Sl.v a0_1), (Sl.v a0_2), (VI a0_3)]) rfl hL (fun b_1 h_1 hb_1 hf_1 hL_1 => ?_)
  refine pop_field 0 fld29_0 b_1 0 ?_
  refine rop_locA agg24 hL_1 0 rfl 0 (vs := [(Sl.v a0_1)]) rfl rfl ?_
  have H := H b_1 h_1 (Nat.le_trans (Fr.size (Fr.r (In []) _)) hb_1) (Fr.no' (Fr.r (In []) _) hf_1) hL_1
  refine H.mono fun rv_1 h_2 H => ?_
  obtain ⟨t8_1, rfl, hL_2, H⟩ := H
  refine pop_field 1 fld29_1 b_1 0 ?_
  refine rop_locA agg27 hL_2 0 rfl 1 (vs := [(Sl.v a0_2), (VI a0_3)]) rfl rfl ?_
  refine H.mono fun rv_2 h_3 H => ?_
  obtain ⟨t12_1, rfl, hL_3, H⟩ := H
  exact H

/-! laws.heldDesk -/
def u19 (P : Program) (a0_1 : Sl) (a0_2 : Sl) (a0_3 : Int) (k1_1 : Int) (h : Heap) (K : Value → Heap → Prop) : Prop :=
  ∀ (b_1 : Nat) (h_1 : Heap), h.size ≤ b_1 → Fr (In []) h h_1 → Vars h_1 [(b_1, [(Sl.v a0_1), (Sl.v a0_2), (VI a0_3)])] →
  callM P 30 #[(Value.agg #[(Sl.v a0_1)]), (VI k1_1)] h_1 fun rv_1 h_2 => ∃ t8_1 : Int, rv_1 = (VI t8_1) ∧ Vars h_2 [(b_1, [(Sl.v a0_1), (Sl.v a0_2), (VI a0_3)])] ∧
  ((decide (t8_1 < 0)) = true →
  K (VI (-1)) h_2) ∧
  ((decide (t8_1 < 0)) = false →
  callM P 50 #[(Value.agg #[(Sl.v a0_2), (VI a0_3)]), (VI t8_1)] h_2 fun rv_2 h_3 => ∃ t14_1 : Int, rv_2 = (VI t14_1) ∧ Vars h_3 [(b_1, [(Sl.v a0_1), (Sl.v a0_2), (VI a0_3)])] ∧
  ((decide (t14_1 < 0)) = true →
  K (VI (-1)) h_3) ∧
  ((decide (t14_1 < 0)) = false →
  K (VI t14_1) h_3))
theorem v19 (a0_1 : Sl) (a0_2 : Sl) (a0_3 : Int) (k1_1 : Int) (h : Heap) (K : Value → Heap → Prop) (H : u19 Try.prog a0_1 a0_2 a0_3 k1_1 h K) : callM Try.prog 19 #[(Value.agg #[(Sl.v a0_1), (Sl.v a0_2), (VI a0_3)]), (VI k1_1)] h K := by
  refine c19 (Value.agg #[(Sl.v a0_1), (Sl.v a0_2), (VI a0_3)]) (VI k1_1) h K ?_
  unfold u19 at H
  unfold t19
  have hL : Vars h [] := .nil
  refine eop_box 29 (Value.agg #[(Sl.v a0_1), (Sl.v a0_2), (VI a0_3)]) rfl hL (fun b_1 h_1 hb_1 hf_1 hL_1 => ?_)
  refine pop_field 0 fld29_0 b_1 0 ?_
  refine rop_locA agg24 hL_1 0 rfl 0 (vs := [(Sl.v a0_1)]) rfl rfl ?_
  have H := H b_1 h_1 (Nat.le_trans (Fr.size (Fr.r (In []) _)) hb_1) (Fr.no' (Fr.r (In []) _) hf_1) hL_1
  refine H.mono fun rv_1 h_2 H => ?_
  obtain ⟨t8_1, rfl, hL_2, H⟩ := H
  refine pop_lss .i64 t8_1 0 ?_
  refine condM_b (fun hb_2 => ?_) (fun hb_2 => ?_)
  · have H := H.1 hb_2
    exact H
  · have H := H.2 hb_2
    refine pop_field 1 fld29_1 b_1 0 ?_
    refine rop_locA agg27 hL_2 0 rfl 1 (vs := [(Sl.v a0_2), (VI a0_3)]) rfl rfl ?_
    refine H.mono fun rv_2 h_3 H => ?_
    obtain ⟨t14_1, rfl, hL_3, H⟩ := H
    refine pop_lss .i64 t14_1 0 ?_
    refine condM_b (fun hb_3 => ?_) (fun hb_3 => ?_)
    · have H := H.1 hb_3
      exact H
    · have H := H.2 hb_3
      exact H

/-! laws.eqGraph -/
def u28 (P : Program) (a0_1 : Sl) (b1_1 : Sl) (h : Heap) (K : Value → Heap → Prop) : Prop :=
  ∀ (b_1 : Nat) (b_2 : Nat) (h_2 : Heap), h.size ≤ b_1 → h.size ≤ b_2 → Fr (In []) h h_2 → Vars h_2 [(b_2, [(Sl.v b1_1)]), (b_1, [(Sl.v a0_1)])] →
  callM P 71 #[(Sl.v a0_1), (Sl.v b1_1)] h_2 fun rv_1 h_3 => ∃ t9_1 : Bool, rv_1 = (VB t9_1) ∧ Vars h_3 [(b_2, [(Sl.v b1_1)]), (b_1, [(Sl.v a0_1)])] ∧
  ((!t9_1) = true →
  K (VB false) h_3) ∧
  ((!t9_1) = false →
  K (VB true) h_3)
theorem v28 (a0_1 : Sl) (b1_1 : Sl) (h : Heap) (K : Value → Heap → Prop) (H : u28 Try.prog a0_1 b1_1 h K) : callM Try.prog 28 #[(Value.agg #[(Sl.v a0_1)]), (Value.agg #[(Sl.v b1_1)])] h K := by
  refine c28 (Value.agg #[(Sl.v a0_1)]) (Value.agg #[(Sl.v b1_1)]) h K ?_
  unfold u28 at H
  unfold t28
  have hL : Vars h [] := .nil
  refine eop_box 24 (Value.agg #[(Sl.v a0_1)]) rfl hL (fun b_1 h_1 hb_1 hf_1 hL_1 => ?_)
  refine eop_box 24 (Value.agg #[(Sl.v b1_1)]) rfl hL_1 (fun b_2 h_2 hb_2 hf_2 hL_2 => ?_)
  refine pop_field 0 fld24_0 b_1 0 ?_
  refine rop_loc one22 hL_2 1 rfl 0 (v := (Sl.v a0_1)) rfl ?_
  refine pop_field 0 fld24_0 b_2 0 ?_
  refine rop_loc one22 hL_2 0 rfl 0 (v := (Sl.v b1_1)) rfl ?_
  have H := H b_1 b_2 h_2 (Nat.le_trans (Fr.size (Fr.r (In []) _)) hb_1) (Nat.le_trans (Fr.size (Fr.no' (Fr.r (In []) _) hf_1)) hb_2) (Fr.no' (Fr.no' (Fr.r (In []) _) hf_1) hf_2) hL_2
  refine H.mono fun rv_1 h_3 H => ?_
  obtain ⟨t9_1, rfl, hL_3, H⟩ := H
  refine pop_not t9_1 ?_
  refine condM_b (fun hb_3 => ?_) (fun hb_3 => ?_)
  · have H := H.1 hb_3
    exact H
  · have H := H.2 hb_3
    exact H

/-! laws.markGraph -/
def u29 (P : Program) (a0_1 : Sl) (k1_1 : Int) (h : Heap) (K : Value → Heap → Prop) : Prop :=
  ∀ (b_1 : Nat) (h_1 : Heap), h.size ≤ b_1 → Fr (In []) h h_1 → Vars h_1 [(b_1, [(Sl.v a0_1)])] →
  callM P 72 #[(Sl.v a0_1), (VI k1_1)] h_1 fun rv_1 h_2 => ∃ t8_1 : Int, rv_1 = (VI t8_1) ∧ Vars h_2 [(b_1, [(Sl.v a0_1)])] ∧
  K (VI t8_1) h_2
theorem v29 (a0_1 : Sl) (k1_1 : Int) (h : Heap) (K : Value → Heap → Prop) (H : u29 Try.prog a0_1 k1_1 h K) : callM Try.prog 29 #[(Value.agg #[(Sl.v a0_1)]), (VI k1_1)] h K := by
  refine c29 (Value.agg #[(Sl.v a0_1)]) (VI k1_1) h K ?_
  unfold u29 at H
  unfold t29
  have hL : Vars h [] := .nil
  refine eop_box 24 (Value.agg #[(Sl.v a0_1)]) rfl hL (fun b_1 h_1 hb_1 hf_1 hL_1 => ?_)
  refine pop_field 0 fld24_0 b_1 0 ?_
  refine rop_loc one22 hL_1 0 rfl 0 (v := (Sl.v a0_1)) rfl ?_
  have H := H b_1 h_1 (Nat.le_trans (Fr.size (Fr.r (In []) _)) hb_1) (Fr.no' (Fr.r (In []) _) hf_1) hL_1
  refine H.mono fun rv_1 h_2 H => ?_
  obtain ⟨t8_1, rfl, hL_2, H⟩ := H
  exact H

/-! laws.heldGraph -/
def u30 (P : Program) (a0_1 : Sl) (k1_1 : Int) (h : Heap) (K : Value → Heap → Prop) : Prop :=
  ∀ (b_1 : Nat) (h_1 : Heap), h.size ≤ b_1 → Fr (In []) h h_1 → Vars h_1 [(b_1, [(Sl.v a0_1)])] →
  callM P 73 #[(Sl.v a0_1), (VI k1_1)] h_1 fun rv_1 h_2 => ∃ t8_1 : Int, rv_1 = (VI t8_1) ∧ Vars h_2 [(b_1, [(Sl.v a0_1)])] ∧
  ((decide (t8_1 < 0)) = true →
  K (VI (-1)) h_2) ∧
  ((decide (t8_1 < 0)) = false →
  K (VI t8_1) h_2)
theorem v30 (a0_1 : Sl) (k1_1 : Int) (h : Heap) (K : Value → Heap → Prop) (H : u30 Try.prog a0_1 k1_1 h K) : callM Try.prog 30 #[(Value.agg #[(Sl.v a0_1)]), (VI k1_1)] h K := by
  refine c30 (Value.agg #[(Sl.v a0_1)]) (VI k1_1) h K ?_
  unfold u30 at H
  unfold t30
  have hL : Vars h [] := .nil
  refine eop_box 24 (Value.agg #[(Sl.v a0_1)]) rfl hL (fun b_1 h_1 hb_1 hf_1 hL_1 => ?_)
  refine pop_field 0 fld24_0 b_1 0 ?_
  refine rop_loc one22 hL_1 0 rfl 0 (v := (Sl.v a0_1)) rfl ?_
  have H := H b_1 h_1 (Nat.le_trans (Fr.size (Fr.r (In []) _)) hb_1) (Fr.no' (Fr.r (In []) _) hf_1) hL_1
  refine H.mono fun rv_1 h_2 H => ?_
  obtain ⟨t8_1, rfl, hL_2, H⟩ := H
  refine pop_lss .i64 t8_1 0 ?_
  refine condM_b (fun hb_2 => ?_) (fun hb_2 => ?_)
  · have H := H.1 hb_2
    exact H
  · have H := H.2 hb_2
    exact H

/-! laws.eqWalk -/
def u37 (P : Program) (a0_1 : Sl) (a0_2 : Int) (b1_1 : Sl) (b1_2 : Int) (h : Heap) (K : Value → Heap → Prop) : Prop :=
  ∀ (b_1 : Nat) (b_2 : Nat) (h_2 : Heap), h.size ≤ b_1 → h.size ≤ b_2 → Fr (In []) h h_2 → Vars h_2 [(b_2, [(Sl.v b1_1), (VI b1_2)]), (b_1, [(Sl.v a0_1), (VI a0_2)])] →
  callM P 53 #[(Sl.v a0_1), (Sl.v b1_1)] h_2 fun rv_1 h_3 => ∃ t9_1 : Bool, rv_1 = (VB t9_1) ∧ Vars h_3 [(b_2, [(Sl.v b1_1), (VI b1_2)]), (b_1, [(Sl.v a0_1), (VI a0_2)])] ∧
  ((!t9_1) = true →
  K (VB false) h_3) ∧
  ((!t9_1) = false →
  ((!decide (a0_2 = b1_2)) = true →
  K (VB false) h_3) ∧
  ((!decide (a0_2 = b1_2)) = false →
  K (VB true) h_3))
theorem v37 (a0_1 : Sl) (a0_2 : Int) (b1_1 : Sl) (b1_2 : Int) (h : Heap) (K : Value → Heap → Prop) (H : u37 Try.prog a0_1 a0_2 b1_1 b1_2 h K) : callM Try.prog 37 #[(Value.agg #[(Sl.v a0_1), (VI a0_2)]), (Value.agg #[(Sl.v b1_1), (VI b1_2)])] h K := by
  refine c37 (Value.agg #[(Sl.v a0_1), (VI a0_2)]) (Value.agg #[(Sl.v b1_1), (VI b1_2)]) h K ?_
  unfold u37 at H
  unfold t37
  have hL : Vars h [] := .nil
  refine eop_box 27 (Value.agg #[(Sl.v a0_1), (VI a0_2)]) rfl hL (fun b_1 h_1 hb_1 hf_1 hL_1 => ?_)
  refine eop_box 27 (Value.agg #[(Sl.v b1_1), (VI b1_2)]) rfl hL_1 (fun b_2 h_2 hb_2 hf_2 hL_2 => ?_)
  refine pop_field 0 fld27_0 b_1 0 ?_
  refine rop_loc one25 hL_2 1 rfl 0 (v := (Sl.v a0_1)) rfl ?_
  refine pop_field 0 fld27_0 b_2 0 ?_
  refine rop_loc one25 hL_2 0 rfl 0 (v := (Sl.v b1_1)) rfl ?_
  have H := H b_1 b_2 h_2 (Nat.le_trans (Fr.size (Fr.r (In []) _)) hb_1) (Nat.le_trans (Fr.size (Fr.no' (Fr.r (In []) _) hf_1)) hb_2) (Fr.no' (Fr.no' (Fr.r (In []) _) hf_1) hf_2) hL_2
  refine H.mono fun rv_1 h_3 H => ?_
  obtain ⟨t9_1, rfl, hL_3, H⟩ := H
  refine pop_not t9_1 ?_
  refine condM_b (fun hb_3 => ?_) (fun hb_3 => ?_)
  · have H := H.1 hb_3
    exact H
  · have H := H.2 hb_3
    refine pop_field 1 fld27_1 b_1 0 ?_
    refine rop_loc one3 hL_3 1 rfl 1 (v := (VI a0_2)) rfl ?_
    refine pop_field 1 fld27_1 b_2 0 ?_
    refine rop_loc one3 hL_3 0 rfl 1 (v := (VI b1_2)) rfl ?_
    refine pop_ine .i64 _ _ a0_2 b1_2 ?_
    refine condM_b (fun hb_4 => ?_) (fun hb_4 => ?_)
    · have H := H.1 hb_4
      exact H
    · have H := H.2 hb_4
      exact H

/-! laws.markWalk -/
def u45 (P : Program) (a0_1 : Sl) (a0_2 : Int) (k1_1 : Int) (h : Heap) (K : Value → Heap → Prop) : Prop :=
  ∀ (b_1 : Nat) (h_1 : Heap), h.size ≤ b_1 → Fr (In []) h h_1 → Vars h_1 [(b_1, [(Sl.v a0_1), (VI a0_2)])] →
  callM P 54 #[(Sl.v a0_1), (VI k1_1)] h_1 fun rv_1 h_2 => ∃ t8_1 : Int, rv_1 = (VI t8_1) ∧ Vars h_2 [(b_1, [(Sl.v a0_1), (VI a0_2)])] ∧
  K (VI t8_1) h_2
theorem v45 (a0_1 : Sl) (a0_2 : Int) (k1_1 : Int) (h : Heap) (K : Value → Heap → Prop) (H : u45 Try.prog a0_1 a0_2 k1_1 h K) : callM Try.prog 45 #[(Value.agg #[(Sl.v a0_1), (VI a0_2)]), (VI k1_1)] h K := by
  refine c45 (Value.agg #[(Sl.v a0_1), (VI a0_2)]) (VI k1_1) h K ?_
  unfold u45 at H
  unfold t45
  have hL : Vars h [] := .nil
  refine eop_box 27 (Value.agg #[(Sl.v a0_1), (VI a0_2)]) rfl hL (fun b_1 h_1 hb_1 hf_1 hL_1 => ?_)
  refine pop_field 0 fld27_0 b_1 0 ?_
  refine rop_loc one25 hL_1 0 rfl 0 (v := (Sl.v a0_1)) rfl ?_
  have H := H b_1 h_1 (Nat.le_trans (Fr.size (Fr.r (In []) _)) hb_1) (Fr.no' (Fr.r (In []) _) hf_1) hL_1
  refine H.mono fun rv_1 h_2 H => ?_
  obtain ⟨t8_1, rfl, hL_2, H⟩ := H
  exact H

/-! laws.heldWalk -/
def u50 (P : Program) (a0_1 : Sl) (a0_2 : Int) (k1_1 : Int) (h : Heap) (K : Value → Heap → Prop) : Prop :=
  ∀ (b_1 : Nat) (h_1 : Heap), h.size ≤ b_1 → Fr (In []) h h_1 → Vars h_1 [(b_1, [(Sl.v a0_1), (VI a0_2)])] →
  callM P 55 #[(Sl.v a0_1), (VI k1_1)] h_1 fun rv_1 h_2 => ∃ t8_1 : Int, rv_1 = (VI t8_1) ∧ Vars h_2 [(b_1, [(Sl.v a0_1), (VI a0_2)])] ∧
  ((decide (t8_1 < 0)) = true →
  K (VI (-1)) h_2) ∧
  ((decide (t8_1 < 0)) = false →
  K (VI t8_1) h_2)
theorem v50 (a0_1 : Sl) (a0_2 : Int) (k1_1 : Int) (h : Heap) (K : Value → Heap → Prop) (H : u50 Try.prog a0_1 a0_2 k1_1 h K) : callM Try.prog 50 #[(Value.agg #[(Sl.v a0_1), (VI a0_2)]), (VI k1_1)] h K := by
  refine c50 (Value.agg #[(Sl.v a0_1), (VI a0_2)]) (VI k1_1) h K ?_
  unfold u50 at H
  unfold t50
  have hL : Vars h [] := .nil
  refine eop_box 27 (Value.agg #[(Sl.v a0_1), (VI a0_2)]) rfl hL (fun b_1 h_1 hb_1 hf_1 hL_1 => ?_)
  refine pop_field 0 fld27_0 b_1 0 ?_
  refine rop_loc one25 hL_1 0 rfl 0 (v := (Sl.v a0_1)) rfl ?_
  have H := H b_1 h_1 (Nat.le_trans (Fr.size (Fr.r (In []) _)) hb_1) (Fr.no' (Fr.r (In []) _) hf_1) hL_1
  refine H.mono fun rv_1 h_2 H => ?_
  obtain ⟨t8_1, rfl, hL_2, H⟩ := H
  refine pop_lss .i64 t8_1 0 ?_
  refine condM_b (fun hb_2 => ?_) (fun hb_2 => ?_)
  · have H := H.1 hb_2
    exact H
  · have H := H.2 hb_2
    exact H

/-! laws.eqIntS -/
def u53 (P : Program) (a0_1 : Sl) (b1_1 : Sl) (h : Heap) (K : Value → Heap → Prop) : Prop :=
  ((!decide ((a0_1.n : Int) = (b1_1.n : Int))) = true →
  K (VB false) h) ∧
  ((!decide ((a0_1.n : Int) = (b1_1.n : Int))) = false →
  ∃ J_1 : Nat → Int → Heap → Prop, (∃ n0 : Nat, J_1 n0 0 h) ∧
  ∀ (n_1 : Nat) (i5_1 : Int) (h_1 : Heap), J_1 n_1 i5_1 h_1 → Vars h_1 [] →
  ((decide (i5_1 < (a0_1.n : Int))) = true →
  InB a0_1 i5_1 ∧
  ∃ t20_1 : Int, hcell h_1 (Sl.at a0_1 i5_1 1) = some (VI t20_1) ∧
  InB b1_1 i5_1 ∧
  ∃ t24_1 : Int, hcell h_1 (Sl.at b1_1 i5_1 1) = some (VI t24_1) ∧
  ((!decide (t20_1 = t24_1)) = true →
  K (VB false) h_1) ∧
  ((!decide (t20_1 = t24_1)) = false →
  ∃ m : Nat, m < n_1 ∧ J_1 m (w64 (i5_1 + 1)) h_1)) ∧
  ((decide (i5_1 < (a0_1.n : Int))) = false →
  K (VB true) h_1))
theorem v53 (a0_1 : Sl) (b1_1 : Sl) (h : Heap) (K : Value → Heap → Prop) (H : u53 Try.prog a0_1 b1_1 h K) : callM Try.prog 53 #[(Sl.v a0_1), (Sl.v b1_1)] h K := by
  refine c53 (Sl.v a0_1) (Sl.v b1_1) h K ?_
  unfold u53 at H
  unfold t53
  have hL : Vars h [] := .nil
  refine pop_len a0_1 _ _ sli25 ?_
  refine pop_len b1_1 _ _ sli25 ?_
  refine pop_ine .i64 _ _ (a0_1.n : Int) (b1_1.n : Int) ?_
  refine condM_b (fun hb_1 => ?_) (fun hb_1 => ?_)
  · have H := H.1 hb_1
    exact H
  · have H := H.2 hb_1
    obtain ⟨J_1, ⟨n_2, h0_1⟩, HB_1⟩ := H
    refine loop_intro (J := fun (n : Nat) (vs : List Value) (h' : Heap) => ∃ i5_1 : Int, vs = [(VI i5_1)] ∧ J_1 n i5_1 h' ∧ Vars h' []) n_2 ⟨0, rfl, h0_1, hL⟩ ?_
    intro I_1 mu_1 hI_1 junk_1 tv_1 h_1 hi_1
    obtain ⟨n_1, ⟨i5_1, hv, hJ_1, hL_1⟩, hn_1⟩ := hI_1 _ _ hi_1
    cases hv
    have H := HB_1 n_1 i5_1 h_1 hJ_1 hL_1
    refine pop_len a0_1 _ _ sli25 ?_
    refine pop_lss .i64 i5_1 (a0_1.n : Int) ?_
    refine condM_b (fun hb_2 => ?_) (fun hb_2 => ?_)
    · have H := H.1 hb_2
      obtain ⟨hi_2, H⟩ := H
      refine pop_index sli25 siz3 .i64 a0_1 i5_1 hi_2 ?_
      obtain ⟨t20_1, hc_2, H⟩ := H
      refine rop_one one3 (VI t20_1) hc_2 ?_
      obtain ⟨hi_3, H⟩ := H
      refine pop_index sli25 siz3 .i64 b1_1 i5_1 hi_3 ?_
      obtain ⟨t24_1, hc_1, H⟩ := H
      refine rop_one one3 (VI t24_1) hc_1 ?_
      refine pop_ine .i64 _ _ t20_1 t24_1 ?_
      refine condM_b (fun hb_3 => ?_) (fun hb_3 => ?_)
      · have H := H.1 hb_3
        exact H
      · have H := H.2 hb_3
        refine pop_add .i64 i5_1 1 ?_
        obtain ⟨m_1, hm_1, H⟩ := H
        exact hn_1 _ _ ⟨m_1, hm_1, (w64 (i5_1 + 1)), rfl, H, hL_1⟩
    · have H := H.2 hb_2
      exact H

/-! laws.markIntS -/
def u54 (P : Program) (a0_1 : Sl) (k1_1 : Int) (h : Heap) (K : Value → Heap → Prop) : Prop :=
  ∃ J_1 : Nat → Int → Int → Heap → Prop, (∃ n0 : Nat, J_1 n0 k1_1 0 h) ∧
  ∀ (n_1 : Nat) (k1_2 : Int) (i5_1 : Int) (h_1 : Heap), J_1 n_1 k1_2 i5_1 h_1 → Vars h_1 [] →
  ((decide (i5_1 < (a0_1.n : Int))) = true →
  InB a0_1 i5_1 ∧
  Writable h_1 (Sl.at a0_1 i5_1 1) ∧ Vars (hset h_1 (Sl.at a0_1 i5_1 1) (VI k1_2)) [] ∧
  ∀ h_2 : Heap, h_2 = hset h_1 (Sl.at a0_1 i5_1 1) (VI k1_2) → Vars h_2 [] →
  ∃ m : Nat, m < n_1 ∧ J_1 m (w64 (k1_2 + 1)) (w64 (i5_1 + 1)) h_2) ∧
  ((decide (i5_1 < (a0_1.n : Int))) = false →
  K (VI k1_2) h_1)
theorem v54 (a0_1 : Sl) (k1_1 : Int) (h : Heap) (K : Value → Heap → Prop) (H : u54 Try.prog a0_1 k1_1 h K) : callM Try.prog 54 #[(Sl.v a0_1), (VI k1_1)] h K := by
  refine c54 (Sl.v a0_1) (VI k1_1) h K ?_
  unfold u54 at H
  unfold t54
  have hL : Vars h [] := .nil
  obtain ⟨J_1, ⟨n_2, h0_1⟩, HB_1⟩ := H
  refine loop_intro (J := fun (n : Nat) (vs : List Value) (h' : Heap) => ∃ k1_2 : Int, ∃ i5_1 : Int, vs = [(VI k1_2), (VI i5_1)] ∧ J_1 n k1_2 i5_1 h' ∧ Vars h' []) n_2 ⟨k1_1, 0, rfl, h0_1, hL⟩ ?_
  intro I_1 mu_1 hI_1 junk_1 tv_1 tv_2 h_1 hi_1
  obtain ⟨n_1, ⟨k1_2, i5_1, hv, hJ_1, hL_1⟩, hn_1⟩ := hI_1 _ _ hi_1
  cases hv
  have H := HB_1 n_1 k1_2 i5_1 h_1 hJ_1 hL_1
  refine pop_len a0_1 _ _ sli25 ?_
  refine pop_lss .i64 i5_1 (a0_1.n : Int) ?_
  refine condM_b (fun hb_1 => ?_) (fun hb_1 => ?_)
  · have H := H.1 hb_1
    obtain ⟨hi_2, H⟩ := H
    refine pop_index sli25 siz3 .i64 a0_1 i5_1 hi_2 ?_
    obtain ⟨hw_1, hL_2, H⟩ := H
    refine uop_cell (v := (VI k1_2)) siz3 hw_1 rfl (fun h_2 he_1 => ?_)
    rw [← he_1] at hL_2
    have H := H h_2 he_1 hL_2
    refine pop_add .i64 k1_2 1 ?_
    refine pop_add .i64 i5_1 1 ?_
    obtain ⟨m_1, hm_1, H⟩ := H
    exact hn_1 _ _ ⟨m_1, hm_1, (w64 (k1_2 + 1)), (w64 (i5_1 + 1)), rfl, H, hL_2⟩
  · have H := H.2 hb_1
    exact H

/-! laws.heldIntS -/
def u55 (P : Program) (a0_1 : Sl) (k1_1 : Int) (h : Heap) (K : Value → Heap → Prop) : Prop :=
  ∃ J_1 : Nat → Int → Int → Heap → Prop, (∃ n0 : Nat, J_1 n0 k1_1 0 h) ∧
  ∀ (n_1 : Nat) (k1_2 : Int) (i5_1 : Int) (h_1 : Heap), J_1 n_1 k1_2 i5_1 h_1 → Vars h_1 [] →
  ((decide (i5_1 < (a0_1.n : Int))) = true →
  InB a0_1 i5_1 ∧
  ∃ t15_1 : Int, hcell h_1 (Sl.at a0_1 i5_1 1) = some (VI t15_1) ∧
  ((!decide (t15_1 = k1_2)) = true →
  K (VI (-1)) h_1) ∧
  ((!decide (t15_1 = k1_2)) = false →
  ∃ m : Nat, m < n_1 ∧ J_1 m (w64 (k1_2 + 1)) (w64 (i5_1 + 1)) h_1)) ∧
  ((decide (i5_1 < (a0_1.n : Int))) = false →
  K (VI k1_2) h_1)
theorem v55 (a0_1 : Sl) (k1_1 : Int) (h : Heap) (K : Value → Heap → Prop) (H : u55 Try.prog a0_1 k1_1 h K) : callM Try.prog 55 #[(Sl.v a0_1), (VI k1_1)] h K := by
  refine c55 (Sl.v a0_1) (VI k1_1) h K ?_
  unfold u55 at H
  unfold t55
  have hL : Vars h [] := .nil
  obtain ⟨J_1, ⟨n_2, h0_1⟩, HB_1⟩ := H
  refine loop_intro (J := fun (n : Nat) (vs : List Value) (h' : Heap) => ∃ k1_2 : Int, ∃ i5_1 : Int, vs = [(VI k1_2), (VI i5_1)] ∧ J_1 n k1_2 i5_1 h' ∧ Vars h' []) n_2 ⟨k1_1, 0, rfl, h0_1, hL⟩ ?_
  intro I_1 mu_1 hI_1 junk_1 tv_1 tv_2 h_1 hi_1
  obtain ⟨n_1, ⟨k1_2, i5_1, hv, hJ_1, hL_1⟩, hn_1⟩ := hI_1 _ _ hi_1
  cases hv
  have H := HB_1 n_1 k1_2 i5_1 h_1 hJ_1 hL_1
  refine pop_len a0_1 _ _ sli25 ?_
  refine pop_lss .i64 i5_1 (a0_1.n : Int) ?_
  refine condM_b (fun hb_1 => ?_) (fun hb_1 => ?_)
  · have H := H.1 hb_1
    obtain ⟨hi_2, H⟩ := H
    refine pop_index sli25 siz3 .i64 a0_1 i5_1 hi_2 ?_
    obtain ⟨t15_1, hc_1, H⟩ := H
    refine rop_one one3 (VI t15_1) hc_1 ?_
    refine pop_ine .i64 _ _ t15_1 k1_2 ?_
    refine condM_b (fun hb_2 => ?_) (fun hb_2 => ?_)
    · have H := H.1 hb_2
      exact H
    · have H := H.2 hb_2
      refine pop_add .i64 k1_2 1 ?_
      refine pop_add .i64 i5_1 1 ?_
      obtain ⟨m_1, hm_1, H⟩ := H
      exact hn_1 _ _ ⟨m_1, hm_1, (w64 (k1_2 + 1)), (w64 (i5_1 + 1)), rfl, H, hL_1⟩
  · have H := H.2 hb_1
    exact H

/-! impl.deskOf -/
def u60 (P : Program) (g0_1 : Sl) (h : Heap) (K : Value → Heap → Prop) : Prop :=
  ∀ (b_1 : Nat) (b_2 : Nat) (h_2 : Heap), h.size ≤ b_1 → h.size ≤ b_2 → Fr (In []) h h_2 → Vars h_2 [(b_2, [(Sl.v nilSl), (Sl.v nilSl), (VI 0)]), (b_1, [(Sl.v g0_1)])] →
  eop P (Instr.makeSlice 25 (VI (g0_1.n : Int)) (VI (g0_1.n : Int))) h_2 fun rv_1 h_3 => ∃ t7_1 : Sl, rv_1 = (Sl.v t7_1) ∧ Vars h_3 [(b_2, [(Sl.v nilSl), (Sl.v nilSl), (VI 0)]), (b_1, [(Sl.v g0_1)])] ∧
  ∀ (h_4 : Heap), Fr (In [b_2]) h_3 h_4 → Vars h_4 [(b_2, [(Sl.v g0_1), (Sl.v t7_1), (VI 0)]), (b_1, [(Sl.v g0_1)])] →
  K (Value.agg #[(Sl.v g0_1), (Sl.v t7_1), (VI 0)]) h_4
theorem v60 (g0_1 : Sl) (h : Heap) (K : Value → Heap → Prop) (H : u60 Try.prog g0_1 h K) : callM Try.prog 60 #[(Value.agg #[(Sl.v g0_1)])] h K := by
  refine c60 (Value.agg #[(Sl.v g0_1)]) h K ?_
  unfold u60 at H
  unfold t60
  have hL : Vars h [] := .nil
  refine eop_box 24 (Value.agg #[(Sl.v g0_1)]) rfl hL (fun b_1 h_1 hb_1 hf_1 hL_1 => ?_)
  refine eop_alloc 29 zer29 rfl hL_1 (fun b_2 h_2 hb_2 hf_2 hL_2 => ?_)
  refine rop_locA agg24 hL_2 1 rfl 0 (vs := [(Sl.v g0_1)]) rfl rfl ?_
  refine pop_field 0 fld24_0 b_1 0 ?_
  refine rop_loc one22 hL_2 1 rfl 0 (v := (Sl.v g0_1)) rfl ?_
  refine pop_len g0_1 _ _ sli22 ?_
  have H := H b_1 b_2 h_2 (Nat.le_trans (Fr.size (Fr.r (In []) _)) hb_1) (Nat.le_trans (Fr.size (Fr.no' (Fr.r (In []) _) hf_1)) hb_2) (Fr.no' (Fr.no' (Fr.r (In []) _) hf_1) hf_2) hL_2
  refine H.mono fun rv_1 h_3 H => ?_
  obtain ⟨t7_1, rfl, hL_3, H⟩ := H
  refine ⟨?_, ?_⟩
  · exact still_loc one22 hL_3 1 rfl 0 (v := (Sl.v g0_1)) rfl
  refine ⟨?_, ?_⟩
  · exact still_locA agg24 hL_3 1 rfl 0 (vs := [(Sl.v g0_1)]) rfl rfl
  refine pop.mk' (v := (Value.agg #[(Sl.v t7_1), (VI 0)])) (fun w => by kernel_rfl) ?_
  refine pop.mk' (v := (Value.agg #[(Sl.v g0_1), (Sl.v t7_1), (VI 0)])) (fun w => by kernel_rfl) ?_
  refine uop_loc siz29 hL_3 0 rfl 0 [(Sl.v g0_1), (Sl.v t7_1), (VI 0)] rfl rfl rfl (Nat.le_of_ble_eq_true rfl) (L' := [(b_2, [(Sl.v g0_1), (Sl.v t7_1), (VI 0)]), (b_1, [(Sl.v g0_1)])]) rfl (fun h_4 hf_3 hL_4 => ?_)
  refine rop_locA agg29 hL_4 0 rfl 0 (vs := [(Sl.v g0_1), (Sl.v t7_1), (VI 0)]) rfl rfl ?_
  have H := H  h_4  (Fr.old (Fr.r (In []) _) hf_3) hL_4
  exact H

/-! laws.eqIntSS -/
def u71 (P : Program) (a0_1 : Sl) (b1_1 : Sl) (h : Heap) (K : Value → Heap → Prop) : Prop :=
  ((!decide ((a0_1.n : Int) = (b1_1.n : Int))) = true →
  K (VB false) h) ∧
  ((!decide ((a0_1.n : Int) = (b1_1.n : Int))) = false →
  ∃ J_1 : Nat → Int → Heap → Prop, (∃ n0 : Nat, J_1 n0 0 h) ∧
  ∀ (n_1 : Nat) (i5_1 : Int) (h_1 : Heap), J_1 n_1 i5_1 h_1 → Vars h_1 [] →
  ((decide (i5_1 < (a0_1.n : Int))) = true →
  InB a0_1 i5_1 ∧
  ∃ t20_1 : Sl, hcell h_1 (Sl.at a0_1 i5_1 1) = some (Sl.v t20_1) ∧
  InB b1_1 i5_1 ∧
  ∃ t24_1 : Sl, hcell h_1 (Sl.at b1_1 i5_1 1) = some (Sl.v t24_1) ∧
  callM P 53 #[(Sl.v t20_1), (Sl.v t24_1)] h_1 fun rv_1 h_2 => ∃ t25_1 : Bool, rv_1 = (VB t25_1) ∧ Vars h_2 [] ∧
  ((!t25_1) = true →
  K (VB false) h_2) ∧
  ((!t25_1) = false →
  ∃ m : Nat, m < n_1 ∧ J_1 m (w64 (i5_1 + 1)) h_2)) ∧
  ((decide (i5_1 < (a0_1.n : Int))) = false →
  K (VB true) h_1))
theorem v71 (a0_1 : Sl) (b1_1 : Sl) (h : Heap) (K : Value → Heap → Prop) (H : u71 Try.prog a0_1 b1_1 h K) : callM Try.prog 71 #[(Sl.v a0_1), (Sl.v b1_1)] h K := by
  refine c71 (Sl.v a0_1) (Sl.v b1_1) h K ?_
  unfold u71 at H
  unfold t71
  have hL : Vars h [] := .nil
  refine pop_len a0_1 _ _ sli22 ?_
  refine pop_len b1_1 _ _ sli22 ?_
  refine pop_ine .i64 _ _ (a0_1.n : Int) (b1_1.n : Int) ?_
  refine condM_b (fun hb_1 => ?_) (fun hb_1 => ?_)
  · have H := H.1 hb_1
    exact H
  · have H := H.2 hb_1
    obtain ⟨J_1, ⟨n_2, h0_1⟩, HB_1⟩ := H
    refine loop_intro (J := fun (n : Nat) (vs : List Value) (h' : Heap) => ∃ i5_1 : Int, vs = [(VI i5_1)] ∧ J_1 n i5_1 h' ∧ Vars h' []) n_2 ⟨0, rfl, h0_1, hL⟩ ?_
    intro I_1 mu_1 hI_1 junk_1 tv_1 h_1 hi_1
    obtain ⟨n_1, ⟨i5_1, hv, hJ_1, hL_1⟩, hn_1⟩ := hI_1 _ _ hi_1
    cases hv
    have H := HB_1 n_1 i5_1 h_1 hJ_1 hL_1
    refine pop_len a0_1 _ _ sli22 ?_
    refine pop_lss .i64 i5_1 (a0_1.n : Int) ?_
    refine condM_b (fun hb_2 => ?_) (fun hb_2 => ?_)
    · have H := H.1 hb_2
      obtain ⟨hi_2, H⟩ := H
      refine pop_index sli22 siz25 .i64 a0_1 i5_1 hi_2 ?_
      obtain ⟨t20_1, hc_2, H⟩ := H
      refine rop_one one25 (Sl.v t20_1) hc_2 ?_
      obtain ⟨hi_3, H⟩ := H
      refine pop_index sli22 siz25 .i64 b1_1 i5_1 hi_3 ?_
      obtain ⟨t24_1, hc_1, H⟩ := H
      refine rop_one one25 (Sl.v t24_1) hc_1 ?_
      refine H.mono fun rv_1 h_2 H => ?_
      obtain ⟨t25_1, rfl, hL_2, H⟩ := H
      refine pop_not t25_1 ?_
      refine condM_b (fun hb_3 => ?_) (fun hb_3 => ?_)
      · have H := H.1 hb_3
        exact H
      · have H := H.2 hb_3
        refine pop_add .i64 i5_1 1 ?_
        obtain ⟨m_1, hm_1, H⟩ := H
        exact hn_1 _ _ ⟨m_1, hm_1, (w64 (i5_1 + 1)), rfl, H, hL_2⟩
    · have H := H.2 hb_2
      exact H

/-! laws.markIntSS -/
def u72 (P : Program) (a0_1 : Sl) (k1_1 : Int) (h : Heap) (K : Value → Heap → Prop) : Prop :=
  ∃ J_1 : Nat → Int → Int → Heap → Prop, (∃ n0 : Nat, J_1 n0 k1_1 0 h) ∧
  ∀ (n_1 : Nat) (k1_2 : Int) (i5_1 : Int) (h_1 : Heap), J_1 n_1 k1_2 i5_1 h_1 → Vars h_1 [] →
  ((decide (i5_1 < (a0_1.n : Int))) = true →
  InB a0_1 i5_1 ∧
  ∃ t15_1 : Sl, hcell h_1 (Sl.at a0_1 i5_1 1) = some (Sl.v t15_1) ∧
  callM P 54 #[(Sl.v t15_1), (VI k1_2)] h_1 fun rv_1 h_2 => ∃ t17_1 : Int, rv_1 = (VI t17_1) ∧ Vars h_2 [] ∧
  ∃ m : Nat, m < n_1 ∧ J_1 m t17_1 (w64 (i5_1 + 1)) h_2) ∧
  ((decide (i5_1 < (a0_1.n : Int))) = false →
  K (VI k1_2) h_1)
theorem v72 (a0_1 : Sl) (k1_1 : Int) (h : Heap) (K : Value → Heap → Prop) (H : u72 Try.prog a0_1 k1_1 h K) : callM Try.prog 72 #[(Sl.v a0_1), (VI k1_1)] h K := by
  refine c72 (Sl.v a0_1) (VI k1_1) h K ?_
  unfold u72 at H
  unfold t72
  have hL : Vars h [] := .nil
  obtain ⟨J_1, ⟨n_2, h0_1⟩, HB_1⟩ := H
  refine loop_intro (J := fun (n : Nat) (vs : List Value) (h' : Heap) => ∃ k1_2 : Int, ∃ i5_1 : Int, vs = [(VI k1_2), (VI i5_1)] ∧ J_1 n k1_2 i5_1 h' ∧ Vars h' []) n_2 ⟨k1_1, 0, rfl, h0_1, hL⟩ ?_
  intro I_1 mu_1 hI_1 junk_1 tv_1 tv_2 h_1 hi_1
  obtain ⟨n_1, ⟨k1_2, i5_1, hv, hJ_1, hL_1⟩, hn_1⟩ := hI_1 _ _ hi_1
  cases hv
  have H := HB_1 n_1 k1_2 i5_1 h_1 hJ_1 hL_1
  refine pop_len a0_1 _ _ sli22 ?_
  refine pop_lss .i64 i5_1 (a0_1.n : Int) ?_
  refine condM_b (fun hb_1 => ?_) (fun hb_1 => ?_)
  · have H := H.1 hb_1
    obtain ⟨hi_2, H⟩ := H
    refine pop_index sli22 siz25 .i64 a0_1 i5_1 hi_2 ?_
    obtain ⟨t15_1, hc_1, H⟩ := H
    refine rop_one one25 (Sl.v t15_1) hc_1 ?_
    refine H.mono fun rv_1 h_2 H => ?_
    obtain ⟨t17_1, rfl, hL_2, H⟩ := H
    refine pop_add .i64 i5_1 1 ?_
    obtain ⟨m_1, hm_1, H⟩ := H
    exact hn_1 _ _ ⟨m_1, hm_1, t17_1, (w64 (i5_1 + 1)), rfl, H, hL_2⟩
  · have H := H.2 hb_1
    exact H

/-! laws.heldIntSS -/
def u73 (P : Program) (a0_1 : Sl) (k1_1 : Int) (h : Heap) (K : Value → Heap → Prop) : Prop :=
  ∃ J_1 : Nat → Int → Int → Heap → Prop, (∃ n0 : Nat, J_1 n0 k1_1 0 h) ∧
  ∀ (n_1 : Nat) (k1_2 : Int) (i5_1 : Int) (h_1 : Heap), J_1 n_1 k1_2 i5_1 h_1 → Vars h_1 [] →
  ((decide (i5_1 < (a0_1.n : Int))) = true →
  InB a0_1 i5_1 ∧
  ∃ t15_1 : Sl, hcell h_1 (Sl.at a0_1 i5_1 1) = some (Sl.v t15_1) ∧
  callM P 55 #[(Sl.v t15_1), (VI k1_2)] h_1 fun rv_1 h_2 => ∃ t17_1 : Int, rv_1 = (VI t17_1) ∧ Vars h_2 [] ∧
  ((decide (t17_1 < 0)) = true →
  K (VI (-1)) h_2) ∧
  ((decide (t17_1 < 0)) = false →
  ∃ m : Nat, m < n_1 ∧ J_1 m t17_1 (w64 (i5_1 + 1)) h_2)) ∧
  ((decide (i5_1 < (a0_1.n : Int))) = false →
  K (VI k1_2) h_1)
theorem v73 (a0_1 : Sl) (k1_1 : Int) (h : Heap) (K : Value → Heap → Prop) (H : u73 Try.prog a0_1 k1_1 h K) : callM Try.prog 73 #[(Sl.v a0_1), (VI k1_1)] h K := by
  refine c73 (Sl.v a0_1) (VI k1_1) h K ?_
  unfold u73 at H
  unfold t73
  have hL : Vars h [] := .nil
  obtain ⟨J_1, ⟨n_2, h0_1⟩, HB_1⟩ := H
  refine loop_intro (J := fun (n : Nat) (vs : List Value) (h' : Heap) => ∃ k1_2 : Int, ∃ i5_1 : Int, vs = [(VI k1_2), (VI i5_1)] ∧ J_1 n k1_2 i5_1 h' ∧ Vars h' []) n_2 ⟨k1_1, 0, rfl, h0_1, hL⟩ ?_
  intro I_1 mu_1 hI_1 junk_1 tv_1 tv_2 h_1 hi_1
  obtain ⟨n_1, ⟨k1_2, i5_1, hv, hJ_1, hL_1⟩, hn_1⟩ := hI_1 _ _ hi_1
  cases hv
  have H := HB_1 n_1 k1_2 i5_1 h_1 hJ_1 hL_1
  refine pop_len a0_1 _ _ sli22 ?_
  refine pop_lss .i64 i5_1 (a0_1.n : Int) ?_
  refine condM_b (fun hb_1 => ?_) (fun hb_1 => ?_)
  · have H := H.1 hb_1
    obtain ⟨hi_2, H⟩ := H
    refine pop_index sli22 siz25 .i64 a0_1 i5_1 hi_2 ?_
    obtain ⟨t15_1, hc_1, H⟩ := H
    refine rop_one one25 (Sl.v t15_1) hc_1 ?_
    refine H.mono fun rv_1 h_2 H => ?_
    obtain ⟨t17_1, rfl, hL_2, H⟩ := H
    refine pop_lss .i64 t17_1 0 ?_
    refine condM_b (fun hb_2 => ?_) (fun hb_2 => ?_)
    · have H := H.1 hb_2
      exact H
    · have H := H.2 hb_2
      refine pop_add .i64 i5_1 1 ?_
      obtain ⟨m_1, hm_1, H⟩ := H
      exact hn_1 _ _ ⟨m_1, hm_1, t17_1, (w64 (i5_1 + 1)), rfl, H, hL_2⟩
  · have H := H.2 hb_1
    exact H

end Go.Proofs.Ytkphbhochacllaa
