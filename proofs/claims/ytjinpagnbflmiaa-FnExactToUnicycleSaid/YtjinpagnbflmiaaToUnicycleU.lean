/-
  The same over typed data. Written by a program.
-/
import Derived.Test.YtjinpagnbflmiaaToUnicycleT
import Derived.Test.YtjinpagnbflmiaaM2
set_option linter.unusedVariables false
set_option linter.unusedSimpArgs false
namespace Go.Proofs.Ytjinpagnbflmiaa
open Go Go.Mx
theorem agg24 : aggC Try.prog 24 = some 1 := by kernel_rfl
theorem agg27 : aggC Try.prog 27 = some 2 := by kernel_rfl
theorem agg32 : aggC Try.prog 32 = some 1 := by kernel_rfl
theorem agg34 : aggC Try.prog 34 = some 2 := by kernel_rfl
theorem boo4 : Try.prog.underlying 4 = some .bool := by kernel_rfl
theorem fld24_0 : fieldC Try.prog 24 0 = some 0 := by kernel_rfl
theorem fld27_0 : fieldC Try.prog 27 0 = some 0 := by kernel_rfl
theorem fld27_1 : fieldC Try.prog 27 1 = some 1 := by kernel_rfl
theorem fld32_0 : fieldC Try.prog 32 0 = some 0 := by kernel_rfl
theorem fld34_0 : fieldC Try.prog 34 0 = some 0 := by kernel_rfl
theorem fld34_1 : fieldC Try.prog 34 1 = some 1 := by kernel_rfl
theorem one22 : oneC Try.prog 22 = true := by kernel_rfl
theorem one25 : oneC Try.prog 25 = true := by kernel_rfl
theorem one3 : oneC Try.prog 3 = true := by kernel_rfl
theorem siz22 : sizeC Try.prog 22 = some 1 := by kernel_rfl
theorem siz25 : sizeC Try.prog 25 = some 1 := by kernel_rfl
theorem siz3 : sizeC Try.prog 3 = some 1 := by kernel_rfl
theorem siz32 : sizeC Try.prog 32 = some 1 := by kernel_rfl
theorem siz34 : sizeC Try.prog 34 = some 2 := by kernel_rfl
theorem sli22 : Try.prog.underlying 22 = some (.slice 25) := by kernel_rfl
theorem sli25 : Try.prog.underlying 25 = some (.slice 3) := by kernel_rfl
theorem zer3 : zeroC Try.prog 3 = some (VI 0) := by kernel_rfl
theorem zer32 : zeroC Try.prog 32 = some (Value.agg #[(Sl.v nilSl)]) := by kernel_rfl
theorem zer34 : zeroC Try.prog 34 = some (Value.agg #[(Sl.v nilSl), (VI 0)]) := by kernel_rfl
/-! laws.FnExactToUnicycle -/
def u4 (P : Program) (aG0_1 : Sl) (aW1_1 : Sl) (aW1_2 : Int) (h : Heap) (K : Value → Heap → Prop) : Prop :=
  ∀ (b_1 : Nat) (b_2 : Nat) (h_2 : Heap), h.size ≤ b_1 → h.size ≤ b_2 → Fr (In []) h h_2 → Vars h_2 [(b_2, [(Sl.v aW1_1), (VI aW1_2)]), (b_1, [(Sl.v aG0_1)])] →
  callM P 15 #[(Value.agg #[(Sl.v aG0_1)]), (VI 1048576)] h_2 fun rv_1 h_3 => ∃ t14_1 : Int, rv_1 = (VI t14_1) ∧ Vars h_3 [(b_2, [(Sl.v aW1_1), (VI aW1_2)]), (b_1, [(Sl.v aG0_1)])] ∧
  ((decide (t14_1 < 0)) = true →
  K (VB true) h_3) ∧
  ((decide (t14_1 < 0)) = false →
  callM P 16 #[(Value.agg #[(Sl.v aW1_1), (VI aW1_2)]), (VI t14_1)] h_3 fun rv_2 h_4 => ∃ t19_1 : Int, rv_2 = (VI t19_1) ∧ Vars h_4 [(b_2, [(Sl.v aW1_1), (VI aW1_2)]), (b_1, [(Sl.v aG0_1)])] ∧
  ((decide (t19_1 < 0)) = true →
  K (VB true) h_4) ∧
  ((decide (t19_1 < 0)) = false →
  callM P 18 #[(Value.agg #[(Sl.v aG0_1)])] h_4 fun rv_3 h_5 => ∃ t24_1 : Sl, rv_3 = (Value.agg #[(Sl.v t24_1)]) ∧ Vars h_5 [(b_2, [(Sl.v aW1_1), (VI aW1_2)]), (b_1, [(Sl.v aG0_1)])] ∧
  callM P 19 #[(Value.agg #[(Sl.v aW1_1), (VI aW1_2)])] h_5 fun rv_4 h_6 => ∃ t26_1 : Sl, ∃ t26_2 : Int, rv_4 = (Value.agg #[(Sl.v t26_1), (VI t26_2)]) ∧ Vars h_6 [(b_2, [(Sl.v aW1_1), (VI aW1_2)]), (b_1, [(Sl.v aG0_1)])] ∧
  callM P 28 #[(Value.agg #[(Sl.v t24_1)]), (Value.agg #[(Sl.v t26_1), (VI t26_2)])] h_6 fun rv_5 h_7 => ∃ t27_1 : Int, ∃ t27_2 : Bool, rv_5 = (Value.tuple #[(VI t27_1), (VB t27_2)]) ∧ Vars h_7 [(b_2, [(Sl.v aW1_1), (VI aW1_2)]), (b_1, [(Sl.v aG0_1)])] ∧
  callM P 18 #[(Value.agg #[(Sl.v aG0_1)])] h_7 fun rv_6 h_8 => ∃ t31_1 : Sl, rv_6 = (Value.agg #[(Sl.v t31_1)]) ∧ Vars h_8 [(b_2, [(Sl.v aW1_1), (VI aW1_2)]), (b_1, [(Sl.v aG0_1)])] ∧
  ∀ (b_3 : Nat) (h_10 : Heap), h_8.size ≤ b_3 → Fr (In []) h_8 h_10 → Vars h_10 [(b_3, [(Sl.v t31_1)]), (b_2, [(Sl.v aW1_1), (VI aW1_2)]), (b_1, [(Sl.v aG0_1)])] →
  callM P 19 #[(Value.agg #[(Sl.v aW1_1), (VI aW1_2)])] h_10 fun rv_7 h_11 => ∃ t33_1 : Sl, ∃ t33_2 : Int, rv_7 = (Value.agg #[(Sl.v t33_1), (VI t33_2)]) ∧ Vars h_11 [(b_3, [(Sl.v t31_1)]), (b_2, [(Sl.v aW1_1), (VI aW1_2)]), (b_1, [(Sl.v aG0_1)])] ∧
  ∀ (b_4 : Nat) (h_13 : Heap), h_11.size ≤ b_4 → Fr (In []) h_11 h_13 → Vars h_13 [(b_4, [(Sl.v t33_1), (VI t33_2)]), (b_3, [(Sl.v t31_1)]), (b_2, [(Sl.v aW1_1), (VI aW1_2)]), (b_1, [(Sl.v aG0_1)])] →
  callM P 29 #[(Value.agg #[(Sl.v t31_1)]), (Value.agg #[(Sl.v t33_1), (VI t33_2)])] h_13 fun rv_8 h_14 => ∃ t37_1 : Int, ∃ t37_2 : Bool, rv_8 = (Value.tuple #[(VI t37_1), (VB t37_2)]) ∧ Vars h_14 [(b_4, [(Sl.v t33_1), (VI t33_2)]), (b_3, [(Sl.v t31_1)]), (b_2, [(Sl.v aW1_1), (VI aW1_2)]), (b_1, [(Sl.v aG0_1)])] ∧
  ((!decide (t37_1 = t27_1)) = true →
  K (VB false) h_14) ∧
  ((!decide (t37_1 = t27_1)) = false →
  ((!(t37_2 == t27_2)) = true →
  K (VB false) h_14) ∧
  ((!(t37_2 == t27_2)) = false →
  callM P 18 #[(Value.agg #[(Sl.v aG0_1)])] h_14 fun rv_9 h_15 => ∃ t50_1 : Sl, rv_9 = (Value.agg #[(Sl.v t50_1)]) ∧ Vars h_15 [(b_4, [(Sl.v t33_1), (VI t33_2)]), (b_3, [(Sl.v t31_1)]), (b_2, [(Sl.v aW1_1), (VI aW1_2)]), (b_1, [(Sl.v aG0_1)])] ∧
  callM P 22 #[(Value.agg #[(Sl.v t31_1)]), (Value.agg #[(Sl.v t50_1)])] h_15 fun rv_10 h_16 => ∃ t51_1 : Bool, rv_10 = (VB t51_1) ∧ Vars h_16 [(b_4, [(Sl.v t33_1), (VI t33_2)]), (b_3, [(Sl.v t31_1)]), (b_2, [(Sl.v aW1_1), (VI aW1_2)]), (b_1, [(Sl.v aG0_1)])] ∧
  ((!t51_1) = true →
  K (VB false) h_16) ∧
  ((!t51_1) = false →
  callM P 19 #[(Value.agg #[(Sl.v aW1_1), (VI aW1_2)])] h_16 fun rv_11 h_17 => ∃ t55_1 : Sl, ∃ t55_2 : Int, rv_11 = (Value.agg #[(Sl.v t55_1), (VI t55_2)]) ∧ Vars h_17 [(b_4, [(Sl.v t33_1), (VI t33_2)]), (b_3, [(Sl.v t31_1)]), (b_2, [(Sl.v aW1_1), (VI aW1_2)]), (b_1, [(Sl.v aG0_1)])] ∧
  callM P 23 #[(Value.agg #[(Sl.v t33_1), (VI t33_2)]), (Value.agg #[(Sl.v t55_1), (VI t55_2)])] h_17 fun rv_12 h_18 => ∃ t56_1 : Bool, rv_12 = (VB t56_1) ∧ Vars h_18 [(b_4, [(Sl.v t33_1), (VI t33_2)]), (b_3, [(Sl.v t31_1)]), (b_2, [(Sl.v aW1_1), (VI aW1_2)]), (b_1, [(Sl.v aG0_1)])] ∧
  ((!t56_1) = true →
  K (VB false) h_18) ∧
  ((!t56_1) = false →
  K (VB true) h_18))))))
theorem v4 (aG0_1 : Sl) (aW1_1 : Sl) (aW1_2 : Int) (h : Heap) (K : Value → Heap → Prop) (H : u4 Try.prog aG0_1 aW1_1 aW1_2 h K) : callM Try.prog 4 #[(Value.agg #[(Sl.v aG0_1)]), (Value.agg #[(Sl.v aW1_1), (VI aW1_2)])] h K := by
  refine c4 (Value.agg #[(Sl.v aG0_1)]) (Value.agg #[(Sl.v aW1_1), (VI aW1_2)]) h K ?_
  unfold u4 at H
  unfold t4
  have hL : Vars h [] := .nil
  refine eop_box 24 (Value.agg #[(Sl.v aG0_1)]) rfl hL (fun b_1 h_1 hb_1 hf_1 hL_1 => ?_)
  refine eop_box 27 (Value.agg #[(Sl.v aW1_1), (VI aW1_2)]) rfl hL_1 (fun b_2 h_2 hb_2 hf_2 hL_2 => ?_)
  refine rop_locA agg24 hL_2 1 rfl 0 (vs := [(Sl.v aG0_1)]) rfl rfl ?_
  have H := H b_1 b_2 h_2 (Nat.le_trans (Fr.size (Fr.r (In []) _)) hb_1) (Nat.le_trans (Fr.size (Fr.no' (Fr.r (In []) _) hf_1)) hb_2) (Fr.no' (Fr.no' (Fr.r (In []) _) hf_1) hf_2) hL_2
  refine H.mono fun rv_1 h_3 H => ?_
  obtain ⟨t14_1, rfl, hL_3, H⟩ := H
  refine pop_lss .i64 t14_1 0 ?_
  refine condM_b (fun hb_3 => ?_) (fun hb_3 => ?_)
  · have H := H.1 hb_3
    exact H
  · have H := H.2 hb_3
    refine rop_locA agg27 hL_3 0 rfl 0 (vs := [(Sl.v aW1_1), (VI aW1_2)]) rfl rfl ?_
    refine H.mono fun rv_2 h_4 H => ?_
    obtain ⟨t19_1, rfl, hL_4, H⟩ := H
    refine pop_lss .i64 t19_1 0 ?_
    refine condM_b (fun hb_4 => ?_) (fun hb_4 => ?_)
    · have H := H.1 hb_4
      exact H
    · have H := H.2 hb_4
      refine rop_locA agg24 hL_4 1 rfl 0 (vs := [(Sl.v aG0_1)]) rfl rfl ?_
      refine rop_locA agg27 hL_4 0 rfl 0 (vs := [(Sl.v aW1_1), (VI aW1_2)]) rfl rfl ?_
      refine H.mono fun rv_3 h_5 H => ?_
      obtain ⟨t24_1, rfl, hL_5, H⟩ := H
      refine ⟨?_, ?_⟩
      · exact still_locA agg27 hL_5 0 rfl 0 (vs := [(Sl.v aW1_1), (VI aW1_2)]) rfl rfl
      refine H.mono fun rv_4 h_6 H => ?_
      obtain ⟨t26_1, t26_2, rfl, hL_6, H⟩ := H
      refine H.mono fun rv_5 h_7 H => ?_
      obtain ⟨t27_1, t27_2, rfl, hL_7, H⟩ := H
      refine pop_ext (v := (VI t27_1)) rfl ?_
      refine pop_ext (v := (VB t27_2)) rfl ?_
      refine rop_locA agg24 hL_7 1 rfl 0 (vs := [(Sl.v aG0_1)]) rfl rfl ?_
      refine H.mono fun rv_6 h_8 H => ?_
      obtain ⟨t31_1, rfl, hL_8, H⟩ := H
      refine eop_alloc 32 zer32 rfl hL_8 (fun b_3 h_9 hb_5 hf_3 hL_9 => ?_)
      refine uop_loc siz32 hL_9 0 rfl 0 [(Sl.v t31_1)] rfl rfl rfl (Nat.le_of_ble_eq_true rfl) (L' := [(b_3, [(Sl.v t31_1)]), (b_2, [(Sl.v aW1_1), (VI aW1_2)]), (b_1, [(Sl.v aG0_1)])]) rfl (fun h_10 hf_4 hL_10 => ?_)
      refine rop_locA agg27 hL_10 1 rfl 0 (vs := [(Sl.v aW1_1), (VI aW1_2)]) rfl rfl ?_
      have H := H b_3 h_10 (Nat.le_trans (Fr.size (Fr.r (In []) _)) hb_5) (Fr.new (Fr.no' (Fr.r (In []) _) hf_3) (Nat.le_trans (Fr.size (Fr.r (In []) _)) hb_5) hf_4) hL_10
      refine H.mono fun rv_7 h_11 H => ?_
      obtain ⟨t33_1, t33_2, rfl, hL_11, H⟩ := H
      refine eop_alloc 34 zer34 rfl hL_11 (fun b_4 h_12 hb_6 hf_5 hL_12 => ?_)
      refine uop_loc siz34 hL_12 0 rfl 0 [(Sl.v t33_1), (VI t33_2)] rfl rfl rfl (Nat.le_of_ble_eq_true rfl) (L' := [(b_4, [(Sl.v t33_1), (VI t33_2)]), (b_3, [(Sl.v t31_1)]), (b_2, [(Sl.v aW1_1), (VI aW1_2)]), (b_1, [(Sl.v aG0_1)])]) rfl (fun h_13 hf_6 hL_13 => ?_)
      refine rop_locA agg32 hL_13 1 rfl 0 (vs := [(Sl.v t31_1)]) rfl rfl ?_
      refine rop_locA agg34 hL_13 0 rfl 0 (vs := [(Sl.v t33_1), (VI t33_2)]) rfl rfl ?_
      have H := H b_4 h_13 (Nat.le_trans (Fr.size (Fr.r (In []) _)) hb_6) (Fr.new (Fr.no' (Fr.r (In []) _) hf_5) (Nat.le_trans (Fr.size (Fr.r (In []) _)) hb_6) hf_6) hL_13
      refine H.mono fun rv_8 h_14 H => ?_
      obtain ⟨t37_1, t37_2, rfl, hL_14, H⟩ := H
      refine pop_ext (v := (VI t37_1)) rfl ?_
      refine pop_ext (v := (VB t37_2)) rfl ?_
      refine pop_ine .i64 _ _ t37_1 t27_1 ?_
      refine guardM_sf (fun hb_7 => ?_) (fun hb_7 => ?_)
      · have H := H.2 hb_7
        refine guardM_y' hb_7 ?_
        refine guardM_y' hb_7 ?_
        refine pop_bne boo4 _ _ t37_2 t27_2 ?_
        refine pop_pickf' hb_7 ?_
        refine condM_b (fun hb_8 => ?_) (fun hb_8 => ?_)
        · have H := H.1 hb_8
          exact H
        · have H := H.2 hb_8
          refine rop_locA agg32 hL_14 1 rfl 0 (vs := [(Sl.v t31_1)]) rfl rfl ?_
          refine rop_locA agg24 hL_14 3 rfl 0 (vs := [(Sl.v aG0_1)]) rfl rfl ?_
          refine H.mono fun rv_9 h_15 H => ?_
          obtain ⟨t50_1, rfl, hL_15, H⟩ := H
          refine ⟨?_, ?_⟩
          · exact still_locA agg32 hL_15 1 rfl 0 (vs := [(Sl.v t31_1)]) rfl rfl
          refine H.mono fun rv_10 h_16 H => ?_
          obtain ⟨t51_1, rfl, hL_16, H⟩ := H
          refine pop_not t51_1 ?_
          refine condM_b (fun hb_9 => ?_) (fun hb_9 => ?_)
          · have H := H.1 hb_9
            exact H
          · have H := H.2 hb_9
            refine rop_locA agg34 hL_16 0 rfl 0 (vs := [(Sl.v t33_1), (VI t33_2)]) rfl rfl ?_
            refine rop_locA agg27 hL_16 2 rfl 0 (vs := [(Sl.v aW1_1), (VI aW1_2)]) rfl rfl ?_
            refine H.mono fun rv_11 h_17 H => ?_
            obtain ⟨t55_1, t55_2, rfl, hL_17, H⟩ := H
            refine ⟨?_, ?_⟩
            · exact still_locA agg34 hL_17 0 rfl 0 (vs := [(Sl.v t33_1), (VI t33_2)]) rfl rfl
            refine H.mono fun rv_12 h_18 H => ?_
            obtain ⟨t56_1, rfl, hL_18, H⟩ := H
            refine pop_not t56_1 ?_
            refine condM_b (fun hb_10 => ?_) (fun hb_10 => ?_)
            · have H := H.1 hb_10
              exact H
            · have H := H.2 hb_10
              exact H
      · have H := H.1 hb_7
        refine guardM_n' hb_7 (by decide) ?_
        refine guardM_n' hb_7 (by decide) ?_
        refine pop_pickt' hb_7 ?_
        refine condM_t ?_
        exact H

/-! laws.szGraph -/
def u15 (P : Program) (a0_1 : Sl) (left1_1 : Int) (h : Heap) (K : Value → Heap → Prop) : Prop :=
  ∀ (b_1 : Nat) (h_1 : Heap), h.size ≤ b_1 → Fr (In []) h h_1 → Vars h_1 [(b_1, [(Sl.v a0_1)])] →
  callM P 64 #[(Sl.v a0_1), (VI left1_1)] h_1 fun rv_1 h_2 => ∃ t8_1 : Int, rv_1 = (VI t8_1) ∧ Vars h_2 [(b_1, [(Sl.v a0_1)])] ∧
  ((decide (t8_1 < 0)) = true →
  K (VI (-1)) h_2) ∧
  ((decide (t8_1 < 0)) = false →
  K (VI t8_1) h_2)
theorem v15 (a0_1 : Sl) (left1_1 : Int) (h : Heap) (K : Value → Heap → Prop) (H : u15 Try.prog a0_1 left1_1 h K) : callM Try.prog 15 #[(Value.agg #[(Sl.v a0_1)]), (VI left1_1)] h K := by
  refine c15 (Value.agg #[(Sl.v a0_1)]) (VI left1_1) h K ?_
  unfold u15 at H
  unfold t15
  have hL : Vars h [] := .nil
  refine eop_box 24 (Value.agg #[(Sl.v a0_1)]) rfl hL (fun b_1 h_1 hb_1 hf_1 hL_1 => ?_)
  refine pop_field 0 fld24_0 b_1 0 ?_
  refine rop_loc one22 hL_1 0 rfl 0 (v := (Sl.v a0_1)) rfl ?_
  have H := H b_1 h_1 (Nat.le_trans (Fr.size (Fr.r (In []) _)) hb_1) (Fr.no' (Fr.r (In []) _) hf_1) hL_1
  refine H.mono fun rv_1 h_2 H => ?_
  obtain ⟨t8_1, rfl, hL_2, H⟩ := H
  refine pop_lss .i64 t8_1 0 ?_
  refine condM_b (fun hb_2 => ?_) (fun hb_2 => ?_)
  · have H := H.1 hb_2
    exact H
  · have H := H.2 hb_2
    exact H

/-! laws.szWalk -/
def u16 (P : Program) (a0_1 : Sl) (a0_2 : Int) (left1_1 : Int) (h : Heap) (K : Value → Heap → Prop) : Prop :=
  ∀ (b_1 : Nat) (h_1 : Heap), h.size ≤ b_1 → Fr (In []) h h_1 → Vars h_1 [(b_1, [(Sl.v a0_1), (VI a0_2)])] →
  callM P 65 #[(Sl.v a0_1), (VI left1_1)] h_1 fun rv_1 h_2 => ∃ t8_1 : Int, rv_1 = (VI t8_1) ∧ Vars h_2 [(b_1, [(Sl.v a0_1), (VI a0_2)])] ∧
  ((decide (t8_1 < 0)) = true →
  K (VI (-1)) h_2) ∧
  ((decide (t8_1 < 0)) = false →
  K (VI t8_1) h_2)
theorem v16 (a0_1 : Sl) (a0_2 : Int) (left1_1 : Int) (h : Heap) (K : Value → Heap → Prop) (H : u16 Try.prog a0_1 a0_2 left1_1 h K) : callM Try.prog 16 #[(Value.agg #[(Sl.v a0_1), (VI a0_2)]), (VI left1_1)] h K := by
  refine c16 (Value.agg #[(Sl.v a0_1), (VI a0_2)]) (VI left1_1) h K ?_
  unfold u16 at H
  unfold t16
  have hL : Vars h [] := .nil
  refine eop_box 27 (Value.agg #[(Sl.v a0_1), (VI a0_2)]) rfl hL (fun b_1 h_1 hb_1 hf_1 hL_1 => ?_)
  refine pop_field 0 fld27_0 b_1 0 ?_
  refine rop_loc one25 hL_1 0 rfl 0 (v := (Sl.v a0_1)) rfl ?_
  have H := H b_1 h_1 (Nat.le_trans (Fr.size (Fr.r (In []) _)) hb_1) (Fr.no' (Fr.r (In []) _) hf_1) hL_1
  refine H.mono fun rv_1 h_2 H => ?_
  obtain ⟨t8_1, rfl, hL_2, H⟩ := H
  refine pop_lss .i64 t8_1 0 ?_
  refine condM_b (fun hb_2 => ?_) (fun hb_2 => ?_)
  · have H := H.1 hb_2
    exact H
  · have H := H.2 hb_2
    exact H

/-! laws.toGraph -/
def u18 (P : Program) (a0_1 : Sl) (h : Heap) (K : Value → Heap → Prop) : Prop :=
  ∀ (b_1 : Nat) (b_2 : Nat) (b_3 : Nat) (h_3 : Heap), h.size ≤ b_1 → h.size ≤ b_2 → h.size ≤ b_3 → Fr (In []) h h_3 → Vars h_3 [(b_3, [(Sl.v nilSl)]), (b_2, [(Sl.v nilSl)]), (b_1, [(Sl.v a0_1)])] →
  callM P 68 #[(Sl.v a0_1)] h_3 fun rv_1 h_4 => ∃ t6_1 : Sl, rv_1 = (Sl.v t6_1) ∧ Vars h_4 [(b_3, [(Sl.v nilSl)]), (b_2, [(Sl.v nilSl)]), (b_1, [(Sl.v a0_1)])] ∧
  ∀ (h_6 : Heap), Fr (In [b_2, b_3]) h_4 h_6 → Vars h_6 [(b_3, [(Sl.v t6_1)]), (b_2, [(Sl.v t6_1)]), (b_1, [(Sl.v a0_1)])] →
  K (Value.agg #[(Sl.v t6_1)]) h_6
theorem v18 (a0_1 : Sl) (h : Heap) (K : Value → Heap → Prop) (H : u18 Try.prog a0_1 h K) : callM Try.prog 18 #[(Value.agg #[(Sl.v a0_1)])] h K := by
  refine c18 (Value.agg #[(Sl.v a0_1)]) h K ?_
  unfold u18 at H
  unfold t18
  have hL : Vars h [] := .nil
  refine eop_box 24 (Value.agg #[(Sl.v a0_1)]) rfl hL (fun b_1 h_1 hb_1 hf_1 hL_1 => ?_)
  refine eop_alloc 32 zer32 rfl hL_1 (fun b_2 h_2 hb_2 hf_2 hL_2 => ?_)
  refine eop_alloc 32 zer32 rfl hL_2 (fun b_3 h_3 hb_3 hf_3 hL_3 => ?_)
  refine pop_field 0 fld24_0 b_1 0 ?_
  refine rop_loc one22 hL_3 2 rfl 0 (v := (Sl.v a0_1)) rfl ?_
  have H := H b_1 b_2 b_3 h_3 (Nat.le_trans (Fr.size (Fr.r (In []) _)) hb_1) (Nat.le_trans (Fr.size (Fr.no' (Fr.r (In []) _) hf_1)) hb_2) (Nat.le_trans (Fr.size (Fr.no' (Fr.no' (Fr.r (In []) _) hf_1) hf_2)) hb_3) (Fr.no' (Fr.no' (Fr.no' (Fr.r (In []) _) hf_1) hf_2) hf_3) hL_3
  refine H.mono fun rv_1 h_4 H => ?_
  obtain ⟨t6_1, rfl, hL_4, H⟩ := H
  refine pop_field 0 fld32_0 b_3 0 ?_
  refine uop_loc siz22 hL_4 0 rfl 0 [(Sl.v t6_1)] rfl rfl rfl (Nat.le_of_ble_eq_true rfl) (L' := [(b_3, [(Sl.v t6_1)]), (b_2, [(Sl.v nilSl)]), (b_1, [(Sl.v a0_1)])]) rfl (fun h_5 hf_4 hL_5 => ?_)
  refine rop_locA agg32 hL_5 0 rfl 0 (vs := [(Sl.v t6_1)]) rfl rfl ?_
  refine uop_loc siz32 hL_5 1 rfl 0 [(Sl.v t6_1)] rfl rfl rfl (Nat.le_of_ble_eq_true rfl) (L' := [(b_3, [(Sl.v t6_1)]), (b_2, [(Sl.v t6_1)]), (b_1, [(Sl.v a0_1)])]) rfl (fun h_6 hf_5 hL_6 => ?_)
  refine rop_locA agg32 hL_6 1 rfl 0 (vs := [(Sl.v t6_1)]) rfl rfl ?_
  have H := H  h_6  (Fr.old (Fr.old (Fr.r (In []) _) hf_4) hf_5) hL_6
  exact H

/-! laws.toWalk -/
def u19 (P : Program) (a0_1 : Sl) (a0_2 : Int) (h : Heap) (K : Value → Heap → Prop) : Prop :=
  ∀ (b_1 : Nat) (b_2 : Nat) (b_3 : Nat) (h_3 : Heap), h.size ≤ b_1 → h.size ≤ b_2 → h.size ≤ b_3 → Fr (In []) h h_3 → Vars h_3 [(b_3, [(Sl.v nilSl), (VI 0)]), (b_2, [(Sl.v nilSl), (VI 0)]), (b_1, [(Sl.v a0_1), (VI a0_2)])] →
  callM P 42 #[(Sl.v a0_1)] h_3 fun rv_1 h_4 => ∃ t6_1 : Sl, rv_1 = (Sl.v t6_1) ∧ Vars h_4 [(b_3, [(Sl.v nilSl), (VI 0)]), (b_2, [(Sl.v nilSl), (VI 0)]), (b_1, [(Sl.v a0_1), (VI a0_2)])] ∧
  ∀ (h_7 : Heap), Fr (In [b_2, b_3, b_3]) h_4 h_7 → Vars h_7 [(b_3, [(Sl.v t6_1), (VI a0_2)]), (b_2, [(Sl.v t6_1), (VI a0_2)]), (b_1, [(Sl.v a0_1), (VI a0_2)])] →
  K (Value.agg #[(Sl.v t6_1), (VI a0_2)]) h_7
theorem v19 (a0_1 : Sl) (a0_2 : Int) (h : Heap) (K : Value → Heap → Prop) (H : u19 Try.prog a0_1 a0_2 h K) : callM Try.prog 19 #[(Value.agg #[(Sl.v a0_1), (VI a0_2)])] h K := by
  refine c19 (Value.agg #[(Sl.v a0_1), (VI a0_2)]) h K ?_
  unfold u19 at H
  unfold t19
  have hL : Vars h [] := .nil
  refine eop_box 27 (Value.agg #[(Sl.v a0_1), (VI a0_2)]) rfl hL (fun b_1 h_1 hb_1 hf_1 hL_1 => ?_)
  refine eop_alloc 34 zer34 rfl hL_1 (fun b_2 h_2 hb_2 hf_2 hL_2 => ?_)
  refine eop_alloc 34 zer34 rfl hL_2 (fun b_3 h_3 hb_3 hf_3 hL_3 => ?_)
  refine pop_field 0 fld27_0 b_1 0 ?_
  refine rop_loc one25 hL_3 2 rfl 0 (v := (Sl.v a0_1)) rfl ?_
  have H := H b_1 b_2 b_3 h_3 (Nat.le_trans (Fr.size (Fr.r (In []) _)) hb_1) (Nat.le_trans (Fr.size (Fr.no' (Fr.r (In []) _) hf_1)) hb_2) (Nat.le_trans (Fr.size (Fr.no' (Fr.no' (Fr.r (In []) _) hf_1) hf_2)) hb_3) (Fr.no' (Fr.no' (Fr.no' (Fr.r (In []) _) hf_1) hf_2) hf_3) hL_3
  refine H.mono fun rv_1 h_4 H => ?_
  obtain ⟨t6_1, rfl, hL_4, H⟩ := H
  refine pop_field 0 fld34_0 b_3 0 ?_
  refine uop_loc siz25 hL_4 0 rfl 0 [(Sl.v t6_1)] rfl rfl rfl (Nat.le_of_ble_eq_true rfl) (L' := [(b_3, [(Sl.v t6_1), (VI 0)]), (b_2, [(Sl.v nilSl), (VI 0)]), (b_1, [(Sl.v a0_1), (VI a0_2)])]) rfl (fun h_5 hf_4 hL_5 => ?_)
  refine pop_field 1 fld27_1 b_1 0 ?_
  refine rop_loc one3 hL_5 2 rfl 1 (v := (VI a0_2)) rfl ?_
  refine pop_field 1 fld34_1 b_3 0 ?_
  refine uop_loc siz3 hL_5 0 rfl 1 [(VI a0_2)] rfl rfl rfl (Nat.le_of_ble_eq_true rfl) (L' := [(b_3, [(Sl.v t6_1), (VI a0_2)]), (b_2, [(Sl.v nilSl), (VI 0)]), (b_1, [(Sl.v a0_1), (VI a0_2)])]) rfl (fun h_6 hf_5 hL_6 => ?_)
  refine rop_locA agg34 hL_6 0 rfl 0 (vs := [(Sl.v t6_1), (VI a0_2)]) rfl rfl ?_
  refine uop_loc siz34 hL_6 1 rfl 0 [(Sl.v t6_1), (VI a0_2)] rfl rfl rfl (Nat.le_of_ble_eq_true rfl) (L' := [(b_3, [(Sl.v t6_1), (VI a0_2)]), (b_2, [(Sl.v t6_1), (VI a0_2)]), (b_1, [(Sl.v a0_1), (VI a0_2)])]) rfl (fun h_7 hf_6 hL_7 => ?_)
  refine rop_locA agg34 hL_7 1 rfl 0 (vs := [(Sl.v t6_1), (VI a0_2)]) rfl rfl ?_
  have H := H  h_7  (Fr.old (Fr.old (Fr.old (Fr.r (In []) _) hf_4) hf_5) hf_6) hL_7
  exact H

/-! laws.eqIntSS -/
def u21 (P : Program) (a0_1 : Sl) (b1_1 : Sl) (h : Heap) (K : Value → Heap → Prop) : Prop :=
  ((!decide ((a0_1.n : Int) = (b1_1.n : Int))) = true →
  K (VB false) h) ∧
  ((!decide ((a0_1.n : Int) = (b1_1.n : Int))) = false →
  ∃ J_1 : Nat → Int → Heap → Prop, (∃ n0 : Nat, J_1 n0 0 h) ∧
  ∀ (n_1 : Nat) (i5_1 : Int) (h_1 : Heap), J_1 n_1 i5_1 h_1 → Vars h_1 [] →
  ((decide (i5_1 < (a0_1.n : Int))) = true →
  InB a0_1 i5_1 ∧
  ∃ t20_1 : Sl, hcell h_1 (Sl.at a0_1 i5_1 1) = some (Sl.v t20_1) ∧
  InB b1_1 i5_1 ∧
  ∃ t24_1 : Sl, hcell h_1 (Sl.at b1_1 i5_1 1) = some (Sl.v t24_1) ∧
  callM P 45 #[(Sl.v t20_1), (Sl.v t24_1)] h_1 fun rv_1 h_2 => ∃ t25_1 : Bool, rv_1 = (VB t25_1) ∧ Vars h_2 [] ∧
  ((!t25_1) = true →
  K (VB false) h_2) ∧
  ((!t25_1) = false →
  ∃ m : Nat, m < n_1 ∧ J_1 m (w64 (i5_1 + 1)) h_2)) ∧
  ((decide (i5_1 < (a0_1.n : Int))) = false →
  K (VB true) h_1))
theorem v21 (a0_1 : Sl) (b1_1 : Sl) (h : Heap) (K : Value → Heap → Prop) (H : u21 Try.prog a0_1 b1_1 h K) : callM Try.prog 21 #[(Sl.v a0_1), (Sl.v b1_1)] h K := by
  refine c21 (Sl.v a0_1) (Sl.v b1_1) h K ?_
  unfold u21 at H
  unfold t21
  have hL : Vars h [] := .nil
  refine pop_len a0_1 _ _ sli22 ?_
  refine pop_len b1_1 _ _ sli22 ?_
  refine pop_ine .i64 _ _ (a0_1.n : Int) (b1_1.n : Int) ?_
  refine condM_b (fun hb_1 => ?_) (fun hb_1 => ?_)
  · have H := H.1 hb_1
    exact H
  · have H := H.2 hb_1
    obtain ⟨J_1, ⟨n_2, h0_1⟩, HB_1⟩ := H
    refine loop_intro (J := fun (n : Nat) (vs : List Value) (h' : Heap) => ∃ i5_1 : Int, vs = [(VI i5_1)] ∧ J_1 n i5_1 h' ∧ Vars h' []) n_2 ⟨0, rfl, h0_1, hL⟩ ?_
    intro I_1 mu_1 hI_1 junk_1 tv_1 h_1 hi_1
    obtain ⟨n_1, ⟨i5_1, hv, hJ_1, hL_1⟩, hn_1⟩ := hI_1 _ _ hi_1
    cases hv
    have H := HB_1 n_1 i5_1 h_1 hJ_1 hL_1
    refine pop_len a0_1 _ _ sli22 ?_
    refine pop_lss .i64 i5_1 (a0_1.n : Int) ?_
    refine condM_b (fun hb_2 => ?_) (fun hb_2 => ?_)
    · have H := H.1 hb_2
      obtain ⟨hi_2, H⟩ := H
      refine pop_index sli22 siz25 .i64 a0_1 i5_1 hi_2 ?_
      obtain ⟨t20_1, hc_2, H⟩ := H
      refine rop_one one25 (Sl.v t20_1) hc_2 ?_
      obtain ⟨hi_3, H⟩ := H
      refine pop_index sli22 siz25 .i64 b1_1 i5_1 hi_3 ?_
      obtain ⟨t24_1, hc_1, H⟩ := H
      refine rop_one one25 (Sl.v t24_1) hc_1 ?_
      refine H.mono fun rv_1 h_2 H => ?_
      obtain ⟨t25_1, rfl, hL_2, H⟩ := H
      refine pop_not t25_1 ?_
      refine condM_b (fun hb_3 => ?_) (fun hb_3 => ?_)
      · have H := H.1 hb_3
        exact H
      · have H := H.2 hb_3
        refine pop_add .i64 i5_1 1 ?_
        obtain ⟨m_1, hm_1, H⟩ := H
        exact hn_1 _ _ ⟨m_1, hm_1, (w64 (i5_1 + 1)), rfl, H, hL_2⟩
    · have H := H.2 hb_2
      exact H

/-! laws.eqGraph -/
def u22 (P : Program) (a0_1 : Sl) (b1_1 : Sl) (h : Heap) (K : Value → Heap → Prop) : Prop :=
  ∀ (b_1 : Nat) (b_2 : Nat) (h_2 : Heap), h.size ≤ b_1 → h.size ≤ b_2 → Fr (In []) h h_2 → Vars h_2 [(b_2, [(Sl.v b1_1)]), (b_1, [(Sl.v a0_1)])] →
  callM P 21 #[(Sl.v a0_1), (Sl.v b1_1)] h_2 fun rv_1 h_3 => ∃ t9_1 : Bool, rv_1 = (VB t9_1) ∧ Vars h_3 [(b_2, [(Sl.v b1_1)]), (b_1, [(Sl.v a0_1)])] ∧
  ((!t9_1) = true →
  K (VB false) h_3) ∧
  ((!t9_1) = false →
  K (VB true) h_3)
theorem v22 (a0_1 : Sl) (b1_1 : Sl) (h : Heap) (K : Value → Heap → Prop) (H : u22 Try.prog a0_1 b1_1 h K) : callM Try.prog 22 #[(Value.agg #[(Sl.v a0_1)]), (Value.agg #[(Sl.v b1_1)])] h K := by
  refine c22 (Value.agg #[(Sl.v a0_1)]) (Value.agg #[(Sl.v b1_1)]) h K ?_
  unfold u22 at H
  unfold t22
  have hL : Vars h [] := .nil
  refine eop_box 32 (Value.agg #[(Sl.v a0_1)]) rfl hL (fun b_1 h_1 hb_1 hf_1 hL_1 => ?_)
  refine eop_box 32 (Value.agg #[(Sl.v b1_1)]) rfl hL_1 (fun b_2 h_2 hb_2 hf_2 hL_2 => ?_)
  refine pop_field 0 fld32_0 b_1 0 ?_
  refine rop_loc one22 hL_2 1 rfl 0 (v := (Sl.v a0_1)) rfl ?_
  refine pop_field 0 fld32_0 b_2 0 ?_
  refine rop_loc one22 hL_2 0 rfl 0 (v := (Sl.v b1_1)) rfl ?_
  have H := H b_1 b_2 h_2 (Nat.le_trans (Fr.size (Fr.r (In []) _)) hb_1) (Nat.le_trans (Fr.size (Fr.no' (Fr.r (In []) _) hf_1)) hb_2) (Fr.no' (Fr.no' (Fr.r (In []) _) hf_1) hf_2) hL_2
  refine H.mono fun rv_1 h_3 H => ?_
  obtain ⟨t9_1, rfl, hL_3, H⟩ := H
  refine pop_not t9_1 ?_
  refine condM_b (fun hb_3 => ?_) (fun hb_3 => ?_)
  · have H := H.1 hb_3
    exact H
  · have H := H.2 hb_3
    exact H

/-! laws.eqWalk -/
def u23 (P : Program) (a0_1 : Sl) (a0_2 : Int) (b1_1 : Sl) (b1_2 : Int) (h : Heap) (K : Value → Heap → Prop) : Prop :=
  ∀ (b_1 : Nat) (b_2 : Nat) (h_2 : Heap), h.size ≤ b_1 → h.size ≤ b_2 → Fr (In []) h h_2 → Vars h_2 [(b_2, [(Sl.v b1_1), (VI b1_2)]), (b_1, [(Sl.v a0_1), (VI a0_2)])] →
  callM P 45 #[(Sl.v a0_1), (Sl.v b1_1)] h_2 fun rv_1 h_3 => ∃ t9_1 : Bool, rv_1 = (VB t9_1) ∧ Vars h_3 [(b_2, [(Sl.v b1_1), (VI b1_2)]), (b_1, [(Sl.v a0_1), (VI a0_2)])] ∧
  ((!t9_1) = true →
  K (VB false) h_3) ∧
  ((!t9_1) = false →
  ((!decide (a0_2 = b1_2)) = true →
  K (VB false) h_3) ∧
  ((!decide (a0_2 = b1_2)) = false →
  K (VB true) h_3))
theorem v23 (a0_1 : Sl) (a0_2 : Int) (b1_1 : Sl) (b1_2 : Int) (h : Heap) (K : Value → Heap → Prop) (H : u23 Try.prog a0_1 a0_2 b1_1 b1_2 h K) : callM Try.prog 23 #[(Value.agg #[(Sl.v a0_1), (VI a0_2)]), (Value.agg #[(Sl.v b1_1), (VI b1_2)])] h K := by
  refine c23 (Value.agg #[(Sl.v a0_1), (VI a0_2)]) (Value.agg #[(Sl.v b1_1), (VI b1_2)]) h K ?_
  unfold u23 at H
  unfold t23
  have hL : Vars h [] := .nil
  refine eop_box 34 (Value.agg #[(Sl.v a0_1), (VI a0_2)]) rfl hL (fun b_1 h_1 hb_1 hf_1 hL_1 => ?_)
  refine eop_box 34 (Value.agg #[(Sl.v b1_1), (VI b1_2)]) rfl hL_1 (fun b_2 h_2 hb_2 hf_2 hL_2 => ?_)
  refine pop_field 0 fld34_0 b_1 0 ?_
  refine rop_loc one25 hL_2 1 rfl 0 (v := (Sl.v a0_1)) rfl ?_
  refine pop_field 0 fld34_0 b_2 0 ?_
  refine rop_loc one25 hL_2 0 rfl 0 (v := (Sl.v b1_1)) rfl ?_
  have H := H b_1 b_2 h_2 (Nat.le_trans (Fr.size (Fr.r (In []) _)) hb_1) (Nat.le_trans (Fr.size (Fr.no' (Fr.r (In []) _) hf_1)) hb_2) (Fr.no' (Fr.no' (Fr.r (In []) _) hf_1) hf_2) hL_2
  refine H.mono fun rv_1 h_3 H => ?_
  obtain ⟨t9_1, rfl, hL_3, H⟩ := H
  refine pop_not t9_1 ?_
  refine condM_b (fun hb_3 => ?_) (fun hb_3 => ?_)
  · have H := H.1 hb_3
    exact H
  · have H := H.2 hb_3
    refine pop_field 1 fld34_1 b_1 0 ?_
    refine rop_loc one3 hL_3 1 rfl 1 (v := (VI a0_2)) rfl ?_
    refine pop_field 1 fld34_1 b_2 0 ?_
    refine rop_loc one3 hL_3 0 rfl 1 (v := (VI b1_2)) rfl ?_
    refine pop_ine .i64 _ _ a0_2 b1_2 ?_
    refine condM_b (fun hb_4 => ?_) (fun hb_4 => ?_)
    · have H := H.1 hb_4
      exact H
    · have H := H.2 hb_4
      exact H

/-! spec.ToUnicycle -/
def u28 (P : Program) (g0_1 : Sl) (w1_1 : Sl) (w1_2 : Int) (h : Heap) (K : Value → Heap → Prop) : Prop :=
  ∀ (b_1 : Nat) (b_2 : Nat) (h_2 : Heap), h.size ≤ b_1 → h.size ≤ b_2 → Fr (In []) h h_2 → Vars h_2 [(b_2, [(Sl.v w1_1), (VI w1_2)]), (b_1, [(Sl.v g0_1)])] →
  callM P 74 #[(Value.agg #[(Sl.v g0_1)]), (Value.agg #[(Sl.v w1_1), (VI w1_2)])] h_2 fun rv_1 h_3 => ∃ t11_1 : Bool, rv_1 = (VB t11_1) ∧ Vars h_3 [(b_2, [(Sl.v w1_1), (VI w1_2)]), (b_1, [(Sl.v g0_1)])] ∧
  ((!t11_1) = true →
  K (Value.tuple #[(VI 0), (VB false)]) h_3) ∧
  ((!t11_1) = false →
  ∃ J_1 : Nat → Int → Sl → Int → Heap → Prop, (∃ n0 : Nat, J_1 n0 0 w1_1 w1_2 h_3) ∧
  ∀ (n_1 : Nat) (n6_1 : Int) (x_1 : Sl) (x_2 : Int) (h_4 : Heap), J_1 n_1 n6_1 x_1 x_2 h_4 → Vars h_4 [(b_2, [(Sl.v x_1), (VI x_2)]), (b_1, [(Sl.v g0_1)])] →
  ((decide (n6_1 ≤ 2000)) = true →
  callM P 75 #[(Value.agg #[(Sl.v g0_1)]), (Value.agg #[(Sl.v x_1), (VI x_2)])] h_4 fun rv_2 h_5 => ∃ t19_1 : Bool, rv_2 = (VB t19_1) ∧ Vars h_5 [(b_2, [(Sl.v x_1), (VI x_2)]), (b_1, [(Sl.v g0_1)])] ∧
  (t19_1 = true →
  K (Value.tuple #[(VI n6_1), (VB true)]) h_5) ∧
  (t19_1 = false →
  callM P 76 #[(Value.agg #[(Sl.v g0_1)]), (Value.agg #[(Sl.v x_1), (VI x_2)])] h_5 fun rv_3 h_6 => ∃ t24_1 : Sl, ∃ t24_2 : Int, ∃ t24_3 : Bool, rv_3 = (Value.tuple #[(Value.agg #[(Sl.v t24_1), (VI t24_2)]), (VB t24_3)]) ∧ Vars h_6 [(b_2, [(Sl.v x_1), (VI x_2)]), (b_1, [(Sl.v g0_1)])] ∧
  ((!t24_3) = true →
  ∀ (b_3 : Nat) (h_8 : Heap), h_6.size ≤ b_3 → Fr (In []) h_6 h_8 → Vars h_8 [(b_3, [(Sl.v t24_1), (VI t24_2)]), (b_2, [(Sl.v x_1), (VI x_2)]), (b_1, [(Sl.v g0_1)])] →
  K (Value.tuple #[(VI 0), (VB false)]) h_8) ∧
  ((!t24_3) = false →
  ∀ (b_3 : Nat) (h_9 : Heap), h_6.size ≤ b_3 → Fr (In [b_2]) h_6 h_9 → Vars h_9 [(b_3, [(Sl.v t24_1), (VI t24_2)]), (b_2, [(Sl.v t24_1), (VI t24_2)]), (b_1, [(Sl.v g0_1)])] →
  ∃ m : Nat, m < n_1 ∧ J_1 m (w64 (n6_1 + 1)) t24_1 t24_2 h_9))) ∧
  ((decide (n6_1 ≤ 2000)) = false →
  K (Value.tuple #[(VI 0), (VB false)]) h_4))
theorem v28 (g0_1 : Sl) (w1_1 : Sl) (w1_2 : Int) (h : Heap) (K : Value → Heap → Prop) (H : u28 Try.prog g0_1 w1_1 w1_2 h K) : callM Try.prog 28 #[(Value.agg #[(Sl.v g0_1)]), (Value.agg #[(Sl.v w1_1), (VI w1_2)])] h K := by
  refine c28 (Value.agg #[(Sl.v g0_1)]) (Value.agg #[(Sl.v w1_1), (VI w1_2)]) h K ?_
  unfold u28 at H
  unfold t28
  have hL : Vars h [] := .nil
  refine eop_box 32 (Value.agg #[(Sl.v g0_1)]) rfl hL (fun b_1 h_1 hb_1 hf_1 hL_1 => ?_)
  refine eop_box 34 (Value.agg #[(Sl.v w1_1), (VI w1_2)]) rfl hL_1 (fun b_2 h_2 hb_2 hf_2 hL_2 => ?_)
  refine rop_locA agg32 hL_2 1 rfl 0 (vs := [(Sl.v g0_1)]) rfl rfl ?_
  refine rop_locA agg34 hL_2 0 rfl 0 (vs := [(Sl.v w1_1), (VI w1_2)]) rfl rfl ?_
  have H := H b_1 b_2 h_2 (Nat.le_trans (Fr.size (Fr.r (In []) _)) hb_1) (Nat.le_trans (Fr.size (Fr.no' (Fr.r (In []) _) hf_1)) hb_2) (Fr.no' (Fr.no' (Fr.r (In []) _) hf_1) hf_2) hL_2
  refine H.mono fun rv_1 h_3 H => ?_
  obtain ⟨t11_1, rfl, hL_3, H⟩ := H
  refine pop_not t11_1 ?_
  refine condM_b (fun hb_3 => ?_) (fun hb_3 => ?_)
  · have H := H.1 hb_3
    exact H
  · have H := H.2 hb_3
    obtain ⟨J_1, ⟨n_2, h0_1⟩, HB_1⟩ := H
    refine loop_intro (J := fun (n : Nat) (vs : List Value) (h' : Heap) => ∃ n6_1 : Int, ∃ x_1 : Sl, ∃ x_2 : Int, vs = [(VI n6_1)] ∧ J_1 n n6_1 x_1 x_2 h' ∧ Vars h' [(b_2, [(Sl.v x_1), (VI x_2)]), (b_1, [(Sl.v g0_1)])]) n_2 ⟨0, w1_1, w1_2, rfl, h0_1, hL_3⟩ ?_
    intro I_1 mu_1 hI_1 junk_1 tv_1 h_4 hi_1
    obtain ⟨n_1, ⟨n6_1, x_1, x_2, hv, hJ_1, hL_4⟩, hn_1⟩ := hI_1 _ _ hi_1
    cases hv
    have H := HB_1 n_1 n6_1 x_1 x_2 h_4 hJ_1 hL_4
    refine pop_leq .i64 n6_1 2000 ?_
    refine condM_b (fun hb_4 => ?_) (fun hb_4 => ?_)
    · have H := H.1 hb_4
      refine rop_locA agg32 hL_4 1 rfl 0 (vs := [(Sl.v g0_1)]) rfl rfl ?_
      refine rop_locA agg34 hL_4 0 rfl 0 (vs := [(Sl.v x_1), (VI x_2)]) rfl rfl ?_
      refine H.mono fun rv_2 h_5 H => ?_
      obtain ⟨t19_1, rfl, hL_5, H⟩ := H
      refine condM_b (fun hb_5 => ?_) (fun hb_5 => ?_)
      · have H := H.1 hb_5
        exact H
      · have H := H.2 hb_5
        refine rop_locA agg32 hL_5 1 rfl 0 (vs := [(Sl.v g0_1)]) rfl rfl ?_
        refine rop_locA agg34 hL_5 0 rfl 0 (vs := [(Sl.v x_1), (VI x_2)]) rfl rfl ?_
        refine H.mono fun rv_3 h_6 H => ?_
        obtain ⟨t24_1, t24_2, t24_3, rfl, hL_6, H⟩ := H
        refine pop_ext (v := (Value.agg #[(Sl.v t24_1), (VI t24_2)])) rfl ?_
        refine pop_ext (v := (VB t24_3)) rfl ?_
        refine eop_alloc 34 zer34 rfl hL_6 (fun b_3 h_7 hb_6 hf_3 hL_7 => ?_)
        refine uop_loc siz34 hL_7 0 rfl 0 [(Sl.v t24_1), (VI t24_2)] rfl rfl rfl (Nat.le_of_ble_eq_true rfl) (L' := [(b_3, [(Sl.v t24_1), (VI t24_2)]), (b_2, [(Sl.v x_1), (VI x_2)]), (b_1, [(Sl.v g0_1)])]) rfl (fun h_8 hf_4 hL_8 => ?_)
        refine pop_not t24_3 ?_
        refine condM_b (fun hb_7 => ?_) (fun hb_7 => ?_)
        · have H := H.1 hb_7
          have H := H b_3 h_8 (Nat.le_trans (Fr.size (Fr.r (In []) _)) hb_6) (Fr.new (Fr.no' (Fr.r (In []) _) hf_3) (Nat.le_trans (Fr.size (Fr.r (In []) _)) hb_6) hf_4) hL_8
          exact H
        · have H := H.2 hb_7
          refine rop_locA agg34 hL_8 0 rfl 0 (vs := [(Sl.v t24_1), (VI t24_2)]) rfl rfl ?_
          refine uop_loc siz34 hL_8 1 rfl 0 [(Sl.v t24_1), (VI t24_2)] rfl rfl rfl (Nat.le_of_ble_eq_true rfl) (L' := [(b_3, [(Sl.v t24_1), (VI t24_2)]), (b_2, [(Sl.v t24_1), (VI t24_2)]), (b_1, [(Sl.v g0_1)])]) rfl (fun h_9 hf_5 hL_9 => ?_)
          refine pop_add .i64 n6_1 1 ?_
          have H := H b_3 h_9 (Nat.le_trans (Fr.size (Fr.r (In []) _)) hb_6) (Fr.old (Fr.new (Fr.no' (Fr.r (In []) _) hf_3) (Nat.le_trans (Fr.size (Fr.r (In []) _)) hb_6) hf_4) hf_5) hL_9
          obtain ⟨m_1, hm_1, H⟩ := H
          exact hn_1 _ _ ⟨m_1, hm_1, (w64 (n6_1 + 1)), t24_1, t24_2, rfl, H, (Vars.tail hL_9)⟩
    · have H := H.2 hb_4
      exact H

/-! impl.ToUnicycle -/
def u29 (P : Program) (g0_1 : Sl) (w1_1 : Sl) (w1_2 : Int) (h : Heap) (K : Value → Heap → Prop) : Prop :=
  ∀ (b_1 : Nat) (b_2 : Nat) (h_2 : Heap), h.size ≤ b_1 → h.size ≤ b_2 → Fr (In []) h h_2 → Vars h_2 [(b_2, [(Sl.v w1_1), (VI w1_2)]), (b_1, [(Sl.v g0_1)])] →
  callM P 77 #[(Value.agg #[(Sl.v g0_1)]), (Value.agg #[(Sl.v w1_1), (VI w1_2)])] h_2 fun rv_1 h_3 => ∃ t8_1 : Bool, rv_1 = (VB t8_1) ∧ Vars h_3 [(b_2, [(Sl.v w1_1), (VI w1_2)]), (b_1, [(Sl.v g0_1)])] ∧
  ((!t8_1) = true →
  K (Value.tuple #[(VI 0), (VB false)]) h_3) ∧
  ((!t8_1) = false →
  callM P 78 #[(Value.agg #[(Sl.v g0_1)]), (Value.agg #[(Sl.v w1_1), (VI w1_2)]), (VI 0), (Value.func (Fn.func 79) #[(Value.agg #[(Sl.v g0_1)])] #[])] h_3 fun rv_2 h_4 => ∃ t14_1 : Int, ∃ t14_2 : Bool, rv_2 = (Value.tuple #[(VI t14_1), (VB t14_2)]) ∧ Vars h_4 [(b_2, [(Sl.v w1_1), (VI w1_2)]), (b_1, [(Sl.v g0_1)])] ∧
  K (Value.tuple #[(VI t14_1), (VB t14_2)]) h_4)
theorem v29 (g0_1 : Sl) (w1_1 : Sl) (w1_2 : Int) (h : Heap) (K : Value → Heap → Prop) (H : u29 Try.prog g0_1 w1_1 w1_2 h K) : callM Try.prog 29 #[(Value.agg #[(Sl.v g0_1)]), (Value.agg #[(Sl.v w1_1), (VI w1_2)])] h K := by
  refine c29 (Value.agg #[(Sl.v g0_1)]) (Value.agg #[(Sl.v w1_1), (VI w1_2)]) h K ?_
  unfold u29 at H
  unfold t29
  have hL : Vars h [] := .nil
  refine eop_box 32 (Value.agg #[(Sl.v g0_1)]) rfl hL (fun b_1 h_1 hb_1 hf_1 hL_1 => ?_)
  refine eop_box 34 (Value.agg #[(Sl.v w1_1), (VI w1_2)]) rfl hL_1 (fun b_2 h_2 hb_2 hf_2 hL_2 => ?_)
  refine rop_locA agg32 hL_2 1 rfl 0 (vs := [(Sl.v g0_1)]) rfl rfl ?_
  refine rop_locA agg34 hL_2 0 rfl 0 (vs := [(Sl.v w1_1), (VI w1_2)]) rfl rfl ?_
  have H := H b_1 b_2 h_2 (Nat.le_trans (Fr.size (Fr.r (In []) _)) hb_1) (Nat.le_trans (Fr.size (Fr.no' (Fr.r (In []) _) hf_1)) hb_2) (Fr.no' (Fr.no' (Fr.r (In []) _) hf_1) hf_2) hL_2
  refine H.mono fun rv_1 h_3 H => ?_
  obtain ⟨t8_1, rfl, hL_3, H⟩ := H
  refine pop_not t8_1 ?_
  refine condM_b (fun hb_3 => ?_) (fun hb_3 => ?_)
  · have H := H.1 hb_3
    exact H
  · have H := H.2 hb_3
    refine rop_locA agg32 hL_3 1 rfl 0 (vs := [(Sl.v g0_1)]) rfl rfl ?_
    refine rop_locA agg34 hL_3 0 rfl 0 (vs := [(Sl.v w1_1), (VI w1_2)]) rfl rfl ?_
    refine rop_locA agg32 hL_3 1 rfl 0 (vs := [(Sl.v g0_1)]) rfl rfl ?_
    refine pop_func _ _ _ ?_
    refine H.mono fun rv_2 h_4 H => ?_
    obtain ⟨t14_1, t14_2, rfl, hL_4, H⟩ := H
    refine pop_ext (v := (VI t14_1)) rfl ?_
    refine pop_ext (v := (VB t14_2)) rfl ?_
    exact H

/-! laws.toIntS -/
def u42 (P : Program) (a0_1 : Sl) (h : Heap) (K : Value → Heap → Prop) : Prop :=
  eop P (Instr.makeSlice 25 (VI (a0_1.n : Int)) (VI (a0_1.n : Int))) h fun rv_1 h_1 => ∃ t7_1 : Sl, rv_1 = (Sl.v t7_1) ∧ Vars h_1 [] ∧
  ∃ J_1 : Nat → Int → Heap → Prop, (∃ n0 : Nat, J_1 n0 0 h_1) ∧
  ∀ (n_1 : Nat) (i4_1 : Int) (h_2 : Heap), J_1 n_1 i4_1 h_2 → Vars h_2 [] →
  ((decide (i4_1 < (a0_1.n : Int))) = true →
  InB a0_1 i4_1 ∧
  ∃ t19_1 : Int, hcell h_2 (Sl.at a0_1 i4_1 1) = some (VI t19_1) ∧
  InB t7_1 i4_1 ∧
  Writable h_2 (Sl.at t7_1 i4_1 1) ∧ Vars (hset h_2 (Sl.at t7_1 i4_1 1) (VI t19_1)) [] ∧
  ∀ h_3 : Heap, h_3 = hset h_2 (Sl.at t7_1 i4_1 1) (VI t19_1) → Vars h_3 [] →
  ∃ m : Nat, m < n_1 ∧ J_1 m (w64 (i4_1 + 1)) h_3) ∧
  ((decide (i4_1 < (a0_1.n : Int))) = false →
  K (Sl.v t7_1) h_2)
theorem v42 (a0_1 : Sl) (h : Heap) (K : Value → Heap → Prop) (H : u42 Try.prog a0_1 h K) : callM Try.prog 42 #[(Sl.v a0_1)] h K := by
  refine c42 (Sl.v a0_1) h K ?_
  unfold u42 at H
  unfold t42
  have hL : Vars h [] := .nil
  refine pop_len a0_1 _ _ sli25 ?_
  refine H.mono fun rv_1 h_1 H => ?_
  obtain ⟨t7_1, rfl, hL_1, H⟩ := H
  obtain ⟨J_1, ⟨n_2, h0_1⟩, HB_1⟩ := H
  refine loop_intro (J := fun (n : Nat) (vs : List Value) (h' : Heap) => ∃ i4_1 : Int, vs = [(VI i4_1)] ∧ J_1 n i4_1 h' ∧ Vars h' []) n_2 ⟨0, rfl, h0_1, hL_1⟩ ?_
  intro I_1 mu_1 hI_1 junk_1 tv_1 h_2 hi_1
  obtain ⟨n_1, ⟨i4_1, hv, hJ_1, hL_2⟩, hn_1⟩ := hI_1 _ _ hi_1
  cases hv
  have H := HB_1 n_1 i4_1 h_2 hJ_1 hL_2
  refine pop_len a0_1 _ _ sli25 ?_
  refine pop_lss .i64 i4_1 (a0_1.n : Int) ?_
  refine condM_b (fun hb_1 => ?_) (fun hb_1 => ?_)
  · have H := H.1 hb_1
    obtain ⟨hi_2, H⟩ := H
    refine pop_index sli25 siz3 .i64 a0_1 i4_1 hi_2 ?_
    obtain ⟨t19_1, hc_1, H⟩ := H
    refine rop_one one3 (VI t19_1) hc_1 ?_
    obtain ⟨hi_3, H⟩ := H
    refine pop_index sli25 siz3 .i64 t7_1 i4_1 hi_3 ?_
    obtain ⟨hw_1, hL_3, H⟩ := H
    refine uop_cell (v := (VI t19_1)) siz3 hw_1 rfl (fun h_3 he_1 => ?_)
    rw [← he_1] at hL_3
    have H := H h_3 he_1 hL_3
    refine pop_add .i64 i4_1 1 ?_
    obtain ⟨m_1, hm_1, H⟩ := H
    exact hn_1 _ _ ⟨m_1, hm_1, (w64 (i4_1 + 1)), rfl, H, hL_3⟩
  · have H := H.2 hb_1
    exact H

/-! laws.eqIntS -/
def u45 (P : Program) (a0_1 : Sl) (b1_1 : Sl) (h : Heap) (K : Value → Heap → Prop) : Prop :=
  ((!decide ((a0_1.n : Int) = (b1_1.n : Int))) = true →
  K (VB false) h) ∧
  ((!decide ((a0_1.n : Int) = (b1_1.n : Int))) = false →
  ∃ J_1 : Nat → Int → Heap → Prop, (∃ n0 : Nat, J_1 n0 0 h) ∧
  ∀ (n_1 : Nat) (i5_1 : Int) (h_1 : Heap), J_1 n_1 i5_1 h_1 → Vars h_1 [] →
  ((decide (i5_1 < (a0_1.n : Int))) = true →
  InB a0_1 i5_1 ∧
  ∃ t20_1 : Int, hcell h_1 (Sl.at a0_1 i5_1 1) = some (VI t20_1) ∧
  InB b1_1 i5_1 ∧
  ∃ t24_1 : Int, hcell h_1 (Sl.at b1_1 i5_1 1) = some (VI t24_1) ∧
  ((!decide (t20_1 = t24_1)) = true →
  K (VB false) h_1) ∧
  ((!decide (t20_1 = t24_1)) = false →
  ∃ m : Nat, m < n_1 ∧ J_1 m (w64 (i5_1 + 1)) h_1)) ∧
  ((decide (i5_1 < (a0_1.n : Int))) = false →
  K (VB true) h_1))
theorem v45 (a0_1 : Sl) (b1_1 : Sl) (h : Heap) (K : Value → Heap → Prop) (H : u45 Try.prog a0_1 b1_1 h K) : callM Try.prog 45 #[(Sl.v a0_1), (Sl.v b1_1)] h K := by
  refine c45 (Sl.v a0_1) (Sl.v b1_1) h K ?_
  unfold u45 at H
  unfold t45
  have hL : Vars h [] := .nil
  refine pop_len a0_1 _ _ sli25 ?_
  refine pop_len b1_1 _ _ sli25 ?_
  refine pop_ine .i64 _ _ (a0_1.n : Int) (b1_1.n : Int) ?_
  refine condM_b (fun hb_1 => ?_) (fun hb_1 => ?_)
  · have H := H.1 hb_1
    exact H
  · have H := H.2 hb_1
    obtain ⟨J_1, ⟨n_2, h0_1⟩, HB_1⟩ := H
    refine loop_intro (J := fun (n : Nat) (vs : List Value) (h' : Heap) => ∃ i5_1 : Int, vs = [(VI i5_1)] ∧ J_1 n i5_1 h' ∧ Vars h' []) n_2 ⟨0, rfl, h0_1, hL⟩ ?_
    intro I_1 mu_1 hI_1 junk_1 tv_1 h_1 hi_1
    obtain ⟨n_1, ⟨i5_1, hv, hJ_1, hL_1⟩, hn_1⟩ := hI_1 _ _ hi_1
    cases hv
    have H := HB_1 n_1 i5_1 h_1 hJ_1 hL_1
    refine pop_len a0_1 _ _ sli25 ?_
    refine pop_lss .i64 i5_1 (a0_1.n : Int) ?_
    refine condM_b (fun hb_2 => ?_) (fun hb_2 => ?_)
    · have H := H.1 hb_2
      obtain ⟨hi_2, H⟩ := H
      refine pop_index sli25 siz3 .i64 a0_1 i5_1 hi_2 ?_
      obtain ⟨t20_1, hc_2, H⟩ := H
      refine rop_one one3 (VI t20_1) hc_2 ?_
      obtain ⟨hi_3, H⟩ := H
      refine pop_index sli25 siz3 .i64 b1_1 i5_1 hi_3 ?_
      obtain ⟨t24_1, hc_1, H⟩ := H
      refine rop_one one3 (VI t24_1) hc_1 ?_
      refine pop_ine .i64 _ _ t20_1 t24_1 ?_
      refine condM_b (fun hb_3 => ?_) (fun hb_3 => ?_)
      · have H := H.1 hb_3
        exact H
      · have H := H.2 hb_3
        refine pop_add .i64 i5_1 1 ?_
        obtain ⟨m_1, hm_1, H⟩ := H
        exact hn_1 _ _ ⟨m_1, hm_1, (w64 (i5_1 + 1)), rfl, H, hL_1⟩
    · have H := H.2 hb_2
      exact H

/-! laws.szIntSS -/
def u64 (P : Program) (a0_1 : Sl) (left1_1 : Int) (h : Heap) (K : Value → Heap → Prop) : Prop :=
  ((decide ((w64 (left1_1 - (a0_1.n : Int))) < 0)) = true →
  K (VI (-1)) h) ∧
  ((decide ((w64 (left1_1 - (a0_1.n : Int))) < 0)) = false →
  ∃ J_1 : Nat → Int → Int → Heap → Prop, (∃ n0 : Nat, J_1 n0 (w64 (left1_1 - (a0_1.n : Int))) 0 h) ∧
  ∀ (n_1 : Nat) (left1_2 : Int) (i5_1 : Int) (h_1 : Heap), J_1 n_1 left1_2 i5_1 h_1 → Vars h_1 [] →
  ((decide (i5_1 < (a0_1.n : Int))) = true →
  InB a0_1 i5_1 ∧
  ∃ t21_1 : Sl, hcell h_1 (Sl.at a0_1 i5_1 1) = some (Sl.v t21_1) ∧
  callM P 65 #[(Sl.v t21_1), (VI left1_2)] h_1 fun rv_1 h_2 => ∃ t23_1 : Int, rv_1 = (VI t23_1) ∧ Vars h_2 [] ∧
  ((decide (t23_1 < 0)) = true →
  K (VI (-1)) h_2) ∧
  ((decide (t23_1 < 0)) = false →
  ∃ m : Nat, m < n_1 ∧ J_1 m t23_1 (w64 (i5_1 + 1)) h_2)) ∧
  ((decide (i5_1 < (a0_1.n : Int))) = false →
  K (VI left1_2) h_1))
theorem v64 (a0_1 : Sl) (left1_1 : Int) (h : Heap) (K : Value → Heap → Prop) (H : u64 Try.prog a0_1 left1_1 h K) : callM Try.prog 64 #[(Sl.v a0_1), (VI left1_1)] h K := by
  refine c64 (Sl.v a0_1) (VI left1_1) h K ?_
  unfold u64 at H
  unfold t64
  have hL : Vars h [] := .nil
  refine pop_len a0_1 _ _ sli22 ?_
  refine pop_sub .i64 left1_1 (a0_1.n : Int) ?_
  refine pop_lss .i64 (w64 (left1_1 - (a0_1.n : Int))) 0 ?_
  refine condM_b (fun hb_1 => ?_) (fun hb_1 => ?_)
  · have H := H.1 hb_1
    exact H
  · have H := H.2 hb_1
    obtain ⟨J_1, ⟨n_2, h0_1⟩, HB_1⟩ := H
    refine loop_intro (J := fun (n : Nat) (vs : List Value) (h' : Heap) => ∃ left1_2 : Int, ∃ i5_1 : Int, vs = [(VI left1_2), (VI i5_1)] ∧ J_1 n left1_2 i5_1 h' ∧ Vars h' []) n_2 ⟨(w64 (left1_1 - (a0_1.n : Int))), 0, rfl, h0_1, hL⟩ ?_
    intro I_1 mu_1 hI_1 junk_1 tv_1 tv_2 h_1 hi_1
    obtain ⟨n_1, ⟨left1_2, i5_1, hv, hJ_1, hL_1⟩, hn_1⟩ := hI_1 _ _ hi_1
    cases hv
    have H := HB_1 n_1 left1_2 i5_1 h_1 hJ_1 hL_1
    refine pop_len a0_1 _ _ sli22 ?_
    refine pop_lss .i64 i5_1 (a0_1.n : Int) ?_
    refine condM_b (fun hb_2 => ?_) (fun hb_2 => ?_)
    · have H := H.1 hb_2
      obtain ⟨hi_2, H⟩ := H
      refine pop_index sli22 siz25 .i64 a0_1 i5_1 hi_2 ?_
      obtain ⟨t21_1, hc_1, H⟩ := H
      refine rop_one one25 (Sl.v t21_1) hc_1 ?_
      refine H.mono fun rv_1 h_2 H => ?_
      obtain ⟨t23_1, rfl, hL_2, H⟩ := H
      refine pop_lss .i64 t23_1 0 ?_
      refine condM_b (fun hb_3 => ?_) (fun hb_3 => ?_)
      · have H := H.1 hb_3
        exact H
      · have H := H.2 hb_3
        refine pop_add .i64 i5_1 1 ?_
        obtain ⟨m_1, hm_1, H⟩ := H
        exact hn_1 _ _ ⟨m_1, hm_1, t23_1, (w64 (i5_1 + 1)), rfl, H, hL_2⟩
    · have H := H.2 hb_2
      exact H

/-! laws.szIntS -/
def u65 (P : Program) (a0_1 : Sl) (left1_1 : Int) (h : Heap) (K : Value → Heap → Prop) : Prop :=
  ((decide ((w64 (left1_1 - (a0_1.n : Int))) < 0)) = true →
  K (VI (-1)) h) ∧
  ((decide ((w64 (left1_1 - (a0_1.n : Int))) < 0)) = false →
  K (VI (w64 (left1_1 - (a0_1.n : Int)))) h)
theorem v65 (a0_1 : Sl) (left1_1 : Int) (h : Heap) (K : Value → Heap → Prop) (H : u65 Try.prog a0_1 left1_1 h K) : callM Try.prog 65 #[(Sl.v a0_1), (VI left1_1)] h K := by
  refine c65 (Sl.v a0_1) (VI left1_1) h K ?_
  unfold u65 at H
  unfold t65
  have hL : Vars h [] := .nil
  refine pop_len a0_1 _ _ sli25 ?_
  refine pop_sub .i64 left1_1 (a0_1.n : Int) ?_
  refine pop_lss .i64 (w64 (left1_1 - (a0_1.n : Int))) 0 ?_
  refine condM_b (fun hb_1 => ?_) (fun hb_1 => ?_)
  · have H := H.1 hb_1
    exact H
  · have H := H.2 hb_1
    exact H

/-! laws.toIntSS -/
def u68 (P : Program) (a0_1 : Sl) (h : Heap) (K : Value → Heap → Prop) : Prop :=
  eop P (Instr.makeSlice 22 (VI (a0_1.n : Int)) (VI (a0_1.n : Int))) h fun rv_1 h_1 => ∃ t7_1 : Sl, rv_1 = (Sl.v t7_1) ∧ Vars h_1 [] ∧
  ∃ J_1 : Nat → Int → Heap → Prop, (∃ n0 : Nat, J_1 n0 0 h_1) ∧
  ∀ (n_1 : Nat) (i4_1 : Int) (h_2 : Heap), J_1 n_1 i4_1 h_2 → Vars h_2 [] →
  ((decide (i4_1 < (a0_1.n : Int))) = true →
  InB a0_1 i4_1 ∧
  ∃ t19_1 : Sl, hcell h_2 (Sl.at a0_1 i4_1 1) = some (Sl.v t19_1) ∧
  callM P 42 #[(Sl.v t19_1)] h_2 fun rv_2 h_3 => ∃ t20_1 : Sl, rv_2 = (Sl.v t20_1) ∧ Vars h_3 [] ∧
  InB t7_1 i4_1 ∧
  Writable h_3 (Sl.at t7_1 i4_1 1) ∧ Vars (hset h_3 (Sl.at t7_1 i4_1 1) (Sl.v t20_1)) [] ∧
  ∀ h_4 : Heap, h_4 = hset h_3 (Sl.at t7_1 i4_1 1) (Sl.v t20_1) → Vars h_4 [] →
  ∃ m : Nat, m < n_1 ∧ J_1 m (w64 (i4_1 + 1)) h_4) ∧
  ((decide (i4_1 < (a0_1.n : Int))) = false →
  K (Sl.v t7_1) h_2)
theorem v68 (a0_1 : Sl) (h : Heap) (K : Value → Heap → Prop) (H : u68 Try.prog a0_1 h K) : callM Try.prog 68 #[(Sl.v a0_1)] h K := by
  refine c68 (Sl.v a0_1) h K ?_
  unfold u68 at H
  unfold t68
  have hL : Vars h [] := .nil
  refine pop_len a0_1 _ _ sli22 ?_
  refine H.mono fun rv_1 h_1 H => ?_
  obtain ⟨t7_1, rfl, hL_1, H⟩ := H
  obtain ⟨J_1, ⟨n_2, h0_1⟩, HB_1⟩ := H
  refine loop_intro (J := fun (n : Nat) (vs : List Value) (h' : Heap) => ∃ i4_1 : Int, vs = [(VI i4_1)] ∧ J_1 n i4_1 h' ∧ Vars h' []) n_2 ⟨0, rfl, h0_1, hL_1⟩ ?_
  intro I_1 mu_1 hI_1 junk_1 tv_1 h_2 hi_1
  obtain ⟨n_1, ⟨i4_1, hv, hJ_1, hL_2⟩, hn_1⟩ := hI_1 _ _ hi_1
  cases hv
  have H := HB_1 n_1 i4_1 h_2 hJ_1 hL_2
  refine pop_len a0_1 _ _ sli22 ?_
  refine pop_lss .i64 i4_1 (a0_1.n : Int) ?_
  refine condM_b (fun hb_1 => ?_) (fun hb_1 => ?_)
  · have H := H.1 hb_1
    obtain ⟨hi_2, H⟩ := H
    refine pop_index sli22 siz25 .i64 a0_1 i4_1 hi_2 ?_
    obtain ⟨t19_1, hc_1, H⟩ := H
    refine rop_one one25 (Sl.v t19_1) hc_1 ?_
    refine H.mono fun rv_2 h_3 H => ?_
    obtain ⟨t20_1, rfl, hL_3, H⟩ := H
    obtain ⟨hi_3, H⟩ := H
    refine pop_index sli22 siz25 .i64 t7_1 i4_1 hi_3 ?_
    obtain ⟨hw_1, hL_4, H⟩ := H
    refine uop_cell (v := (Sl.v t20_1)) siz25 hw_1 rfl (fun h_4 he_1 => ?_)
    rw [← he_1] at hL_4
    have H := H h_4 he_1 hL_4
    refine pop_add .i64 i4_1 1 ?_
    obtain ⟨m_1, hm_1, H⟩ := H
    exact hn_1 _ _ ⟨m_1, hm_1, (w64 (i4_1 + 1)), rfl, H, hL_4⟩
  · have H := H.2 hb_1
    exact H

/-! (impl.Walk).copied -/
def u70 (P : Program) (w0_1 : Sl) (w0_2 : Int) (h : Heap) (K : Value → Heap → Prop) : Prop :=
  ∀ (b_1 : Nat) (b_2 : Nat) (h_2 : Heap), h.size ≤ b_1 → h.size ≤ b_2 → Fr (In []) h h_2 → Vars h_2 [(b_2, [(Sl.v nilSl), (VI 0)]), (b_1, [(Sl.v w0_1), (VI w0_2)])] →
  callM P 111 #[(Sl.v w0_1)] h_2 fun rv_1 h_3 => ∃ t5_1 : Sl, rv_1 = (Sl.v t5_1) ∧ Vars h_3 [(b_2, [(Sl.v nilSl), (VI 0)]), (b_1, [(Sl.v w0_1), (VI w0_2)])] ∧
  ∀ (h_4 : Heap), Fr (In [b_2]) h_3 h_4 → Vars h_4 [(b_2, [(Sl.v t5_1), (VI w0_2)]), (b_1, [(Sl.v w0_1), (VI w0_2)])] →
  K (Value.agg #[(Sl.v t5_1), (VI w0_2)]) h_4
theorem v70 (w0_1 : Sl) (w0_2 : Int) (h : Heap) (K : Value → Heap → Prop) (H : u70 Try.prog w0_1 w0_2 h K) : callM Try.prog 70 #[(Value.agg #[(Sl.v w0_1), (VI w0_2)])] h K := by
  refine c70 (Value.agg #[(Sl.v w0_1), (VI w0_2)]) h K ?_
  unfold u70 at H
  unfold t70
  have hL : Vars h [] := .nil
  refine eop_box 34 (Value.agg #[(Sl.v w0_1), (VI w0_2)]) rfl hL (fun b_1 h_1 hb_1 hf_1 hL_1 => ?_)
  refine eop_alloc 34 zer34 rfl hL_1 (fun b_2 h_2 hb_2 hf_2 hL_2 => ?_)
  refine pop_field 0 fld34_0 b_1 0 ?_
  refine rop_loc one25 hL_2 1 rfl 0 (v := (Sl.v w0_1)) rfl ?_
  refine pop_field 1 fld34_1 b_1 0 ?_
  refine rop_loc one3 hL_2 1 rfl 1 (v := (VI w0_2)) rfl ?_
  have H := H b_1 b_2 h_2 (Nat.le_trans (Fr.size (Fr.r (In []) _)) hb_1) (Nat.le_trans (Fr.size (Fr.no' (Fr.r (In []) _) hf_1)) hb_2) (Fr.no' (Fr.no' (Fr.r (In []) _) hf_1) hf_2) hL_2
  refine H.mono fun rv_1 h_3 H => ?_
  obtain ⟨t5_1, rfl, hL_3, H⟩ := H
  refine ⟨?_, ?_⟩
  · exact still_loc one3 hL_3 1 rfl 1 (v := (VI w0_2)) rfl
  refine pop.mk' (v := (Value.agg #[(Sl.v t5_1), (VI w0_2)])) (fun w => by kernel_rfl) ?_
  refine uop_loc siz34 hL_3 0 rfl 0 [(Sl.v t5_1), (VI w0_2)] rfl rfl rfl (Nat.le_of_ble_eq_true rfl) (L' := [(b_2, [(Sl.v t5_1), (VI w0_2)]), (b_1, [(Sl.v w0_1), (VI w0_2)])]) rfl (fun h_4 hf_3 hL_4 => ?_)
  refine rop_locA agg34 hL_4 0 rfl 0 (vs := [(Sl.v t5_1), (VI w0_2)]) rfl rfl ?_
  have H := H  h_4  (Fr.old (Fr.r (In []) _) hf_3) hL_4
  exact H

/-! spec.waGood -/
def u74 (P : Program) (g0_1 : Sl) (w1_1 : Sl) (w1_2 : Int) (h : Heap) (K : Value → Heap → Prop) : Prop :=
  ∀ (b_1 : Nat) (b_2 : Nat) (h_2 : Heap), h.size ≤ b_1 → h.size ≤ b_2 → Fr (In []) h h_2 → Vars h_2 [(b_2, [(Sl.v w1_1), (VI w1_2)]), (b_1, [(Sl.v g0_1)])] →
  callM P 81 #[(Value.agg #[(Sl.v g0_1)]), (VI w1_2)] h_2 fun rv_1 h_3 => ∃ t10_1 : Bool, rv_1 = (VB t10_1) ∧ Vars h_3 [(b_2, [(Sl.v w1_1), (VI w1_2)]), (b_1, [(Sl.v g0_1)])] ∧
  ((!t10_1) = true →
  K (VB false) h_3) ∧
  ((!t10_1) = false →
  ((!decide ((w1_1.n : Int) = (g0_1.n : Int))) = true →
  K (VB false) h_3) ∧
  ((!decide ((w1_1.n : Int) = (g0_1.n : Int))) = false →
  ∃ J_1 : Nat → Int → Heap → Prop, (∃ n0 : Nat, J_1 n0 0 h_3) ∧
  ∀ (n_1 : Nat) (t24_1 : Int) (h_4 : Heap), J_1 n_1 t24_1 h_4 → Vars h_4 [(b_2, [(Sl.v w1_1), (VI w1_2)]), (b_1, [(Sl.v g0_1)])] →
  ((decide (t24_1 < (g0_1.n : Int))) = true →
  InB g0_1 t24_1 ∧
  ∃ t28_1 : Sl, hcell h_4 (Sl.at g0_1 t24_1 1) = some (Sl.v t28_1) ∧
  InB w1_1 t24_1 ∧
  ∃ t33_1 : Int, hcell h_4 (Sl.at w1_1 t24_1 1) = some (VI t33_1) ∧
  callM P 113 #[(VI 0), (VI (w64 ((t28_1.n : Int) - 1)))] h_4 fun rv_2 h_5 => ∃ t37_1 : Int, rv_2 = (VI t37_1) ∧ Vars h_5 [(b_2, [(Sl.v w1_1), (VI w1_2)]), (b_1, [(Sl.v g0_1)])] ∧
  hcell h_5 (Sl.at w1_1 t24_1 1) = some (VI t33_1) ∧
  callM P 109 #[(VI t33_1), (VI 0), (VI t37_1)] h_5 fun rv_3 h_6 => ∃ t38_1 : Bool, rv_3 = (VB t38_1) ∧ Vars h_6 [(b_2, [(Sl.v w1_1), (VI w1_2)]), (b_1, [(Sl.v g0_1)])] ∧
  ((!t38_1) = true →
  K (VB false) h_6) ∧
  ((!t38_1) = false →
  ∃ m : Nat, m < n_1 ∧ J_1 m (w64 (t24_1 + 1)) h_6)) ∧
  ((decide (t24_1 < (g0_1.n : Int))) = false →
  K (VB true) h_4)))
theorem v74 (g0_1 : Sl) (w1_1 : Sl) (w1_2 : Int) (h : Heap) (K : Value → Heap → Prop) (H : u74 Try.prog g0_1 w1_1 w1_2 h K) : callM Try.prog 74 #[(Value.agg #[(Sl.v g0_1)]), (Value.agg #[(Sl.v w1_1), (VI w1_2)])] h K := by
  refine c74 (Value.agg #[(Sl.v g0_1)]) (Value.agg #[(Sl.v w1_1), (VI w1_2)]) h K ?_
  unfold u74 at H
  unfold t74
  have hL : Vars h [] := .nil
  refine eop_box 32 (Value.agg #[(Sl.v g0_1)]) rfl hL (fun b_1 h_1 hb_1 hf_1 hL_1 => ?_)
  refine eop_box 34 (Value.agg #[(Sl.v w1_1), (VI w1_2)]) rfl hL_1 (fun b_2 h_2 hb_2 hf_2 hL_2 => ?_)
  refine rop_locA agg32 hL_2 1 rfl 0 (vs := [(Sl.v g0_1)]) rfl rfl ?_
  refine pop_field 1 fld34_1 b_2 0 ?_
  refine rop_loc one3 hL_2 0 rfl 1 (v := (VI w1_2)) rfl ?_
  have H := H b_1 b_2 h_2 (Nat.le_trans (Fr.size (Fr.r (In []) _)) hb_1) (Nat.le_trans (Fr.size (Fr.no' (Fr.r (In []) _) hf_1)) hb_2) (Fr.no' (Fr.no' (Fr.r (In []) _) hf_1) hf_2) hL_2
  refine H.mono fun rv_1 h_3 H => ?_
  obtain ⟨t10_1, rfl, hL_3, H⟩ := H
  refine pop_not t10_1 ?_
  refine guardM_sf (fun hb_3 => ?_) (fun hb_3 => ?_)
  · have H := H.2 hb_3
    refine pop_field 0 fld34_0 b_2 0 ?_
    refine guardM_y' hb_3 ?_
    refine rop_loc one25 hL_3 0 rfl 0 (v := (Sl.v w1_1)) rfl ?_
    refine guardM_y' hb_3 ?_
    refine pop_len w1_1 _ _ sli25 ?_
    refine guardM_y' hb_3 ?_
    refine pop_field 0 fld32_0 b_1 0 ?_
    refine guardM_y' hb_3 ?_
    refine rop_loc one22 hL_3 1 rfl 0 (v := (Sl.v g0_1)) rfl ?_
    refine guardM_y' hb_3 ?_
    refine pop_len g0_1 _ _ sli22 ?_
    refine guardM_y' hb_3 ?_
    refine pop_ine .i64 _ _ (w1_1.n : Int) (g0_1.n : Int) ?_
    refine pop_pickf' hb_3 ?_
    refine condM_b (fun hb_4 => ?_) (fun hb_4 => ?_)
    · have H := H.1 hb_4
      exact H
    · have H := H.2 hb_4
      refine pop_field 0 fld32_0 b_1 0 ?_
      refine rop_loc one22 hL_3 1 rfl 0 (v := (Sl.v g0_1)) rfl ?_
      refine pop_len g0_1 _ _ sli22 ?_
      obtain ⟨J_1, ⟨n_2, h0_1⟩, HB_1⟩ := H
      refine loop_intro (J := fun (n : Nat) (vs : List Value) (h' : Heap) => ∃ t24_1 : Int, vs = [(VI t24_1)] ∧ J_1 n t24_1 h' ∧ Vars h' [(b_2, [(Sl.v w1_1), (VI w1_2)]), (b_1, [(Sl.v g0_1)])]) n_2 ⟨0, rfl, h0_1, hL_3⟩ ?_
      intro I_1 mu_1 hI_1 junk_1 tv_1 h_4 hi_1
      obtain ⟨n_1, ⟨t24_1, hv, hJ_1, hL_4⟩, hn_1⟩ := hI_1 _ _ hi_1
      cases hv
      have H := HB_1 n_1 t24_1 h_4 hJ_1 hL_4
      refine pop_lss .i64 t24_1 (g0_1.n : Int) ?_
      refine condM_b (fun hb_5 => ?_) (fun hb_5 => ?_)
      · have H := H.1 hb_5
        obtain ⟨hi_2, H⟩ := H
        refine pop_index sli22 siz25 .i64 g0_1 t24_1 hi_2 ?_
        obtain ⟨t28_1, hc_3, H⟩ := H
        refine rop_one one25 (Sl.v t28_1) hc_3 ?_
        refine pop_field 0 fld34_0 b_2 0 ?_
        refine rop_loc one25 hL_4 0 rfl 0 (v := (Sl.v w1_1)) rfl ?_
        obtain ⟨hi_3, H⟩ := H
        refine pop_index sli25 siz3 .i64 w1_1 t24_1 hi_3 ?_
        obtain ⟨t33_1, hc_2, H⟩ := H
        refine rop_one one3 (VI t33_1) hc_2 ?_
        refine pop_len t28_1 _ _ sli25 ?_
        refine pop_sub .i64 (t28_1.n : Int) 1 ?_
        refine H.mono fun rv_2 h_5 H => ?_
        obtain ⟨t37_1, rfl, hL_5, H⟩ := H
        refine ⟨?_, ?_⟩
        · exact still_one one3 H.1
        obtain ⟨hc_1, H⟩ := H
        refine ⟨?_, ?_⟩
        · exact still_loc one25 hL_5 0 rfl 0 (v := (Sl.v w1_1)) rfl
        refine H.mono fun rv_3 h_6 H => ?_
        obtain ⟨t38_1, rfl, hL_6, H⟩ := H
        refine ⟨?_, ?_⟩
        · exact still_loc one25 hL_6 0 rfl 0 (v := (Sl.v w1_1)) rfl
        refine pop_not t38_1 ?_
        refine condM_b (fun hb_6 => ?_) (fun hb_6 => ?_)
        · have H := H.1 hb_6
          exact H
        · have H := H.2 hb_6
          refine pop_add .i64 t24_1 1 ?_
          obtain ⟨m_1, hm_1, H⟩ := H
          exact hn_1 _ _ ⟨m_1, hm_1, (w64 (t24_1 + 1)), rfl, H, hL_6⟩
      · have H := H.2 hb_5
        exact H
  · have H := H.1 hb_3
    refine guardM_n' hb_3 (by decide) ?_
    refine guardM_n' hb_3 (by decide) ?_
    refine guardM_n' hb_3 (by decide) ?_
    refine guardM_n' hb_3 (by decide) ?_
    refine guardM_n' hb_3 (by decide) ?_
    refine guardM_n' hb_3 (by decide) ?_
    refine pop_pickt' hb_3 ?_
    refine condM_t ?_
    exact H

/-! spec.trUni -/
def u75 (P : Program) (g0_1 : Sl) (w1_1 : Sl) (w1_2 : Int) (h : Heap) (K : Value → Heap → Prop) : Prop :=
  ∀ (b_1 : Nat) (b_2 : Nat) (h_2 : Heap), h.size ≤ b_1 → h.size ≤ b_2 → Fr (In []) h h_2 → Vars h_2 [(b_2, [(Sl.v w1_1), (VI w1_2)]), (b_1, [(Sl.v g0_1)])] →
  callM P 114 #[(Value.agg #[(Sl.v g0_1)]), (Sl.v w1_1), (VI w1_2)] h_2 fun rv_1 h_3 => ∃ t16_1 : Sl, ∃ t16_2 : Bool, rv_1 = (Value.tuple #[(Sl.v t16_1), (VB t16_2)]) ∧ Vars h_3 [(b_2, [(Sl.v w1_1), (VI w1_2)]), (b_1, [(Sl.v g0_1)])] ∧
  ((!t16_2) = true →
  K (VB false) h_3) ∧
  ((!t16_2) = false →
  callM P 115 #[(Sl.v t16_1), (VI w1_2)] h_3 fun rv_2 h_4 => ∃ t25_1 : Bool, rv_2 = (VB t25_1) ∧ Vars h_4 [(b_2, [(Sl.v w1_1), (VI w1_2)]), (b_1, [(Sl.v g0_1)])] ∧
  ((!t25_1) = true →
  K (VB false) h_4) ∧
  ((!t25_1) = false →
  ∃ J_1 : Nat → Int → Heap → Prop, (∃ n0 : Nat, J_1 n0 0 h_4) ∧
  ∀ (n_1 : Nat) (t31_1 : Int) (h_5 : Heap), J_1 n_1 t31_1 h_5 → Vars h_5 [(b_2, [(Sl.v w1_1), (VI w1_2)]), (b_1, [(Sl.v g0_1)])] →
  ((decide (t31_1 < (g0_1.n : Int))) = true →
  callM P 114 #[(Value.agg #[(Sl.v g0_1)]), (Sl.v w1_1), (VI t31_1)] h_5 fun rv_3 h_6 => ∃ t39_1 : Sl, ∃ t39_2 : Bool, rv_3 = (Value.tuple #[(Sl.v t39_1), (VB t39_2)]) ∧ Vars h_6 [(b_2, [(Sl.v w1_1), (VI w1_2)]), (b_1, [(Sl.v g0_1)])] ∧
  ((!t39_2) = true →
  K (VB false) h_6) ∧
  ((!t39_2) = false →
  callM P 115 #[(Sl.v t39_1), (VI w1_2)] h_6 fun rv_4 h_7 => ∃ t48_1 : Bool, rv_4 = (VB t48_1) ∧ Vars h_7 [(b_2, [(Sl.v w1_1), (VI w1_2)]), (b_1, [(Sl.v g0_1)])] ∧
  ((!t48_1) = true →
  K (VB false) h_7) ∧
  ((!t48_1) = false →
  ∃ m : Nat, m < n_1 ∧ J_1 m (w64 (t31_1 + 1)) h_7))) ∧
  ((decide (t31_1 < (g0_1.n : Int))) = false →
  K (VB true) h_5)))
theorem v75 (g0_1 : Sl) (w1_1 : Sl) (w1_2 : Int) (h : Heap) (K : Value → Heap → Prop) (H : u75 Try.prog g0_1 w1_1 w1_2 h K) : callM Try.prog 75 #[(Value.agg #[(Sl.v g0_1)]), (Value.agg #[(Sl.v w1_1), (VI w1_2)])] h K := by
  refine c75 (Value.agg #[(Sl.v g0_1)]) (Value.agg #[(Sl.v w1_1), (VI w1_2)]) h K ?_
  unfold u75 at H
  unfold t75
  have hL : Vars h [] := .nil
  refine eop_box 32 (Value.agg #[(Sl.v g0_1)]) rfl hL (fun b_1 h_1 hb_1 hf_1 hL_1 => ?_)
  refine eop_box 34 (Value.agg #[(Sl.v w1_1), (VI w1_2)]) rfl hL_1 (fun b_2 h_2 hb_2 hf_2 hL_2 => ?_)
  refine rop_locA agg32 hL_2 1 rfl 0 (vs := [(Sl.v g0_1)]) rfl rfl ?_
  refine pop_field 0 fld34_0 b_2 0 ?_
  refine rop_loc one25 hL_2 0 rfl 0 (v := (Sl.v w1_1)) rfl ?_
  refine pop_field 1 fld34_1 b_2 0 ?_
  refine rop_loc one3 hL_2 0 rfl 1 (v := (VI w1_2)) rfl ?_
  have H := H b_1 b_2 h_2 (Nat.le_trans (Fr.size (Fr.r (In []) _)) hb_1) (Nat.le_trans (Fr.size (Fr.no' (Fr.r (In []) _) hf_1)) hb_2) (Fr.no' (Fr.no' (Fr.r (In []) _) hf_1) hf_2) hL_2
  refine H.mono fun rv_1 h_3 H => ?_
  obtain ⟨t16_1, t16_2, rfl, hL_3, H⟩ := H
  refine pop_ext (v := (Sl.v t16_1)) rfl ?_
  refine pop_ext (v := (VB t16_2)) rfl ?_
  refine pop_not t16_2 ?_
  refine guardM_sf (fun hb_3 => ?_) (fun hb_3 => ?_)
  · have H := H.2 hb_3
    refine guardM_y' hb_3 ?_
    refine pop_field 1 fld34_1 b_2 0 ?_
    refine guardM_y' hb_3 ?_
    refine rop_loc one3 hL_3 0 rfl 1 (v := (VI w1_2)) rfl ?_
    refine guardM_y' hb_3 ?_
    refine H.mono fun rv_2 h_4 H => ?_
    obtain ⟨t25_1, rfl, hL_4, H⟩ := H
    refine guardM_y' hb_3 ?_
    refine pop_not t25_1 ?_
    refine pop_pickf' hb_3 ?_
    refine condM_b (fun hb_4 => ?_) (fun hb_4 => ?_)
    · have H := H.1 hb_4
      exact H
    · have H := H.2 hb_4
      refine pop_field 0 fld32_0 b_1 0 ?_
      refine rop_loc one22 hL_4 1 rfl 0 (v := (Sl.v g0_1)) rfl ?_
      refine pop_len g0_1 _ _ sli22 ?_
      obtain ⟨J_1, ⟨n_2, h0_1⟩, HB_1⟩ := H
      refine loop_intro (J := fun (n : Nat) (vs : List Value) (h' : Heap) => ∃ t31_1 : Int, vs = [(VI t31_1)] ∧ J_1 n t31_1 h' ∧ Vars h' [(b_2, [(Sl.v w1_1), (VI w1_2)]), (b_1, [(Sl.v g0_1)])]) n_2 ⟨0, rfl, h0_1, hL_4⟩ ?_
      intro I_1 mu_1 hI_1 junk_1 tv_1 h_5 hi_1
      obtain ⟨n_1, ⟨t31_1, hv, hJ_1, hL_5⟩, hn_1⟩ := hI_1 _ _ hi_1
      cases hv
      have H := HB_1 n_1 t31_1 h_5 hJ_1 hL_5
      refine pop_lss .i64 t31_1 (g0_1.n : Int) ?_
      refine condM_b (fun hb_5 => ?_) (fun hb_5 => ?_)
      · have H := H.1 hb_5
        refine rop_locA agg32 hL_5 1 rfl 0 (vs := [(Sl.v g0_1)]) rfl rfl ?_
        refine pop_field 0 fld34_0 b_2 0 ?_
        refine rop_loc one25 hL_5 0 rfl 0 (v := (Sl.v w1_1)) rfl ?_
        refine H.mono fun rv_3 h_6 H => ?_
        obtain ⟨t39_1, t39_2, rfl, hL_6, H⟩ := H
        refine pop_ext (v := (Sl.v t39_1)) rfl ?_
        refine pop_ext (v := (VB t39_2)) rfl ?_
        refine pop_not t39_2 ?_
        refine guardM_sf (fun hb_6 => ?_) (fun hb_6 => ?_)
        · have H := H.2 hb_6
          refine guardM_y' hb_6 ?_
          refine pop_field 1 fld34_1 b_2 0 ?_
          refine guardM_y' hb_6 ?_
          refine rop_loc one3 hL_6 0 rfl 1 (v := (VI w1_2)) rfl ?_
          refine guardM_y' hb_6 ?_
          refine H.mono fun rv_4 h_7 H => ?_
          obtain ⟨t48_1, rfl, hL_7, H⟩ := H
          refine guardM_y' hb_6 ?_
          refine pop_not t48_1 ?_
          refine pop_pickf' hb_6 ?_
          refine condM_b (fun hb_7 => ?_) (fun hb_7 => ?_)
          · have H := H.1 hb_7
            exact H
          · have H := H.2 hb_7
            refine pop_add .i64 t31_1 1 ?_
            obtain ⟨m_1, hm_1, H⟩ := H
            exact hn_1 _ _ ⟨m_1, hm_1, (w64 (t31_1 + 1)), rfl, H, hL_7⟩
        · have H := H.1 hb_6
          refine guardM_n' hb_6 (by decide) ?_
          refine guardM_n' hb_6 (by decide) ?_
          refine guardM_n' hb_6 (by decide) ?_
          refine guardM_n' hb_6 (by decide) ?_
          refine pop_pickt' hb_6 ?_
          refine condM_t ?_
          exact H
      · have H := H.2 hb_5
        exact H
  · have H := H.1 hb_3
    refine guardM_n' hb_3 (by decide) ?_
    refine guardM_n' hb_3 (by decide) ?_
    refine guardM_n' hb_3 (by decide) ?_
    refine guardM_n' hb_3 (by decide) ?_
    refine pop_pickt' hb_3 ?_
    refine condM_t ?_
    exact H

/-! spec.waStep -/
def u76 (P : Program) (g0_1 : Sl) (w1_1 : Sl) (w1_2 : Int) (h : Heap) (K : Value → Heap → Prop) : Prop :=
  InB g0_1 w1_2 ∧
  ∀ (b_1 : Nat) (b_2 : Nat) (b_3 : Nat) (h_3 : Heap), h.size ≤ b_1 → h.size ≤ b_2 → h.size ≤ b_3 → Fr (In []) h h_3 → Vars h_3 [(b_3, [(Sl.v nilSl), (VI 0)]), (b_2, [(Sl.v w1_1), (VI w1_2)]), (b_1, [(Sl.v g0_1)])] →
  ∃ t14_1 : Sl, hcell h_3 (Sl.at g0_1 w1_2 1) = some (Sl.v t14_1) ∧
  ((decide ((t14_1.n : Int) = 0)) = true →
  ∀ (h_4 : Heap), Fr (In [b_3]) h_3 h_4 → Vars h_4 [(b_3, [(Sl.v w1_1), (VI w1_2)]), (b_2, [(Sl.v w1_1), (VI w1_2)]), (b_1, [(Sl.v g0_1)])] →
  K (Value.tuple #[(Value.agg #[(Sl.v w1_1), (VI w1_2)]), (VB false)]) h_4) ∧
  ((decide ((t14_1.n : Int) = 0)) = false →
  callM P 116 #[(Sl.v w1_1)] h_3 fun rv_1 h_5 => ∃ t21_1 : Sl, rv_1 = (Sl.v t21_1) ∧ Vars h_5 [(b_3, [(Sl.v nilSl), (VI 0)]), (b_2, [(Sl.v w1_1), (VI w1_2)]), (b_1, [(Sl.v g0_1)])] ∧
  InB w1_1 w1_2 ∧
  ∀ (b_4 : Nat) (h_7 : Heap), h_5.size ≤ b_4 → Fr (In []) h_5 h_7 → Vars h_7 [(b_4, [(Sl.v t21_1), (VI 0)]), (b_3, [(Sl.v nilSl), (VI 0)]), (b_2, [(Sl.v w1_1), (VI w1_2)]), (b_1, [(Sl.v g0_1)])] →
  ∃ t28_1 : Int, hcell h_7 (Sl.at w1_1 w1_2 1) = some (VI t28_1) ∧
  (t14_1.n : Int) ≠ 0 ∧
  InB t21_1 w1_2 ∧
  Writable h_7 (Sl.at t21_1 w1_2 1) ∧ Vars (hset h_7 (Sl.at t21_1 w1_2 1) (VI (Int.tmod (w64 (t28_1 + 1)) (t14_1.n : Int)))) [(b_4, [(Sl.v t21_1), (VI 0)]), (b_3, [(Sl.v nilSl), (VI 0)]), (b_2, [(Sl.v w1_1), (VI w1_2)]), (b_1, [(Sl.v g0_1)])] ∧
  ∀ h_8 : Heap, h_8 = hset h_7 (Sl.at t21_1 w1_2 1) (VI (Int.tmod (w64 (t28_1 + 1)) (t14_1.n : Int))) → Vars h_8 [(b_4, [(Sl.v t21_1), (VI 0)]), (b_3, [(Sl.v nilSl), (VI 0)]), (b_2, [(Sl.v w1_1), (VI w1_2)]), (b_1, [(Sl.v g0_1)])] →
  InB t14_1 (Int.tmod (w64 (t28_1 + 1)) (t14_1.n : Int)) ∧
  ∃ t42_1 : Int, hcell h_8 (Sl.at t14_1 (Int.tmod (w64 (t28_1 + 1)) (t14_1.n : Int)) 1) = some (VI t42_1) ∧
  ∀ (h_10 : Heap), Fr (In [b_3, b_4]) h_8 h_10 → Vars h_10 [(b_4, [(Sl.v t21_1), (VI t42_1)]), (b_3, [(Sl.v t21_1), (VI t42_1)]), (b_2, [(Sl.v w1_1), (VI w1_2)]), (b_1, [(Sl.v g0_1)])] →
  K (Value.tuple #[(Value.agg #[(Sl.v t21_1), (VI t42_1)]), (VB true)]) h_10)
theorem v76 (g0_1 : Sl) (w1_1 : Sl) (w1_2 : Int) (h : Heap) (K : Value → Heap → Prop) (H : u76 Try.prog g0_1 w1_1 w1_2 h K) : callM Try.prog 76 #[(Value.agg #[(Sl.v g0_1)]), (Value.agg #[(Sl.v w1_1), (VI w1_2)])] h K := by
  refine c76 (Value.agg #[(Sl.v g0_1)]) (Value.agg #[(Sl.v w1_1), (VI w1_2)]) h K ?_
  unfold u76 at H
  unfold t76
  have hL : Vars h [] := .nil
  refine eop_box 32 (Value.agg #[(Sl.v g0_1)]) rfl hL (fun b_1 h_1 hb_1 hf_1 hL_1 => ?_)
  refine eop_box 34 (Value.agg #[(Sl.v w1_1), (VI w1_2)]) rfl hL_1 (fun b_2 h_2 hb_2 hf_2 hL_2 => ?_)
  refine eop_alloc 34 zer34 rfl hL_2 (fun b_3 h_3 hb_3 hf_3 hL_3 => ?_)
  refine pop_field 0 fld32_0 b_1 0 ?_
  refine rop_loc one22 hL_3 2 rfl 0 (v := (Sl.v g0_1)) rfl ?_
  refine pop_field 1 fld34_1 b_2 0 ?_
  refine rop_loc one3 hL_3 1 rfl 1 (v := (VI w1_2)) rfl ?_
  obtain ⟨hi_1, H⟩ := H
  refine pop_index sli22 siz25 .i64 g0_1 w1_2 hi_1 ?_
  have H := H b_1 b_2 b_3 h_3 (Nat.le_trans (Fr.size (Fr.r (In []) _)) hb_1) (Nat.le_trans (Fr.size (Fr.no' (Fr.r (In []) _) hf_1)) hb_2) (Nat.le_trans (Fr.size (Fr.no' (Fr.no' (Fr.r (In []) _) hf_1) hf_2)) hb_3) (Fr.no' (Fr.no' (Fr.no' (Fr.r (In []) _) hf_1) hf_2) hf_3) hL_3
  obtain ⟨t14_1, hc_3, H⟩ := H
  refine rop_one one25 (Sl.v t14_1) hc_3 ?_
  refine pop_len t14_1 _ _ sli25 ?_
  refine pop_ieq .i64 _ _ (t14_1.n : Int) 0 ?_
  refine condM_b (fun hb_4 => ?_) (fun hb_4 => ?_)
  · have H := H.1 hb_4
    refine rop_locA agg34 hL_3 1 rfl 0 (vs := [(Sl.v w1_1), (VI w1_2)]) rfl rfl ?_
    refine uop_loc siz34 hL_3 0 rfl 0 [(Sl.v w1_1), (VI w1_2)] rfl rfl rfl (Nat.le_of_ble_eq_true rfl) (L' := [(b_3, [(Sl.v w1_1), (VI w1_2)]), (b_2, [(Sl.v w1_1), (VI w1_2)]), (b_1, [(Sl.v g0_1)])]) rfl (fun h_4 hf_4 hL_4 => ?_)
    refine rop_locA agg34 hL_4 0 rfl 0 (vs := [(Sl.v w1_1), (VI w1_2)]) rfl rfl ?_
    have H := H  h_4  (Fr.old (Fr.r (In []) _) hf_4) hL_4
    exact H
  · have H := H.2 hb_4
    refine pop_field 0 fld34_0 b_2 0 ?_
    refine rop_loc one25 hL_3 1 rfl 0 (v := (Sl.v w1_1)) rfl ?_
    refine H.mono fun rv_1 h_5 H => ?_
    obtain ⟨t21_1, rfl, hL_5, H⟩ := H
    refine pop.mk' (v := (Value.agg #[(Sl.v t21_1), (VI 0)])) (fun w => by kernel_rfl) ?_
    refine eop_alloc 34 zer34 rfl hL_5 (fun b_4 h_6 hb_5 hf_5 hL_6 => ?_)
    refine uop_loc siz34 hL_6 0 rfl 0 [(Sl.v t21_1), (VI 0)] rfl rfl rfl (Nat.le_of_ble_eq_true rfl) (L' := [(b_4, [(Sl.v t21_1), (VI 0)]), (b_3, [(Sl.v nilSl), (VI 0)]), (b_2, [(Sl.v w1_1), (VI w1_2)]), (b_1, [(Sl.v g0_1)])]) rfl (fun h_7 hf_6 hL_7 => ?_)
    refine pop_field 0 fld34_0 b_2 0 ?_
    refine rop_loc one25 hL_7 2 rfl 0 (v := (Sl.v w1_1)) rfl ?_
    refine pop_field 1 fld34_1 b_2 0 ?_
    refine rop_loc one3 hL_7 2 rfl 1 (v := (VI w1_2)) rfl ?_
    obtain ⟨hi_2, H⟩ := H
    refine pop_index sli25 siz3 .i64 w1_1 w1_2 hi_2 ?_
    have H := H b_4 h_7 (Nat.le_trans (Fr.size (Fr.r (In []) _)) hb_5) (Fr.new (Fr.no' (Fr.r (In []) _) hf_5) (Nat.le_trans (Fr.size (Fr.r (In []) _)) hb_5) hf_6) hL_7
    obtain ⟨t28_1, hc_2, H⟩ := H
    refine rop_one one3 (VI t28_1) hc_2 ?_
    refine pop_add .i64 t28_1 1 ?_
    refine pop_len t14_1 _ _ sli25 ?_
    obtain ⟨hz_1, H⟩ := H
    refine pop_rem .i64 (w64 (t28_1 + 1)) (t14_1.n : Int) hz_1 ?_
    refine pop_field 0 fld34_0 b_4 0 ?_
    refine rop_loc one25 hL_7 0 rfl 0 (v := (Sl.v t21_1)) rfl ?_
    refine pop_field 1 fld34_1 b_2 0 ?_
    refine rop_loc one3 hL_7 2 rfl 1 (v := (VI w1_2)) rfl ?_
    obtain ⟨hi_3, H⟩ := H
    refine pop_index sli25 siz3 .i64 t21_1 w1_2 hi_3 ?_
    obtain ⟨hw_1, hL_8, H⟩ := H
    refine uop_cell (v := (VI (Int.tmod (w64 (t28_1 + 1)) (t14_1.n : Int)))) siz3 hw_1 rfl (fun h_8 he_1 => ?_)
    rw [← he_1] at hL_8
    have H := H h_8 he_1 hL_8
    obtain ⟨hi_4, H⟩ := H
    refine pop_index sli25 siz3 .i64 t14_1 (Int.tmod (w64 (t28_1 + 1)) (t14_1.n : Int)) hi_4 ?_
    obtain ⟨t42_1, hc_1, H⟩ := H
    refine rop_one one3 (VI t42_1) hc_1 ?_
    refine pop_field 1 fld34_1 b_4 0 ?_
    refine uop_loc siz3 hL_8 0 rfl 1 [(VI t42_1)] rfl rfl rfl (Nat.le_of_ble_eq_true rfl) (L' := [(b_4, [(Sl.v t21_1), (VI t42_1)]), (b_3, [(Sl.v nilSl), (VI 0)]), (b_2, [(Sl.v w1_1), (VI w1_2)]), (b_1, [(Sl.v g0_1)])]) rfl (fun h_9 hf_7 hL_9 => ?_)
    refine rop_locA agg34 hL_9 0 rfl 0 (vs := [(Sl.v t21_1), (VI t42_1)]) rfl rfl ?_
    refine uop_loc siz34 hL_9 1 rfl 0 [(Sl.v t21_1), (VI t42_1)] rfl rfl rfl (Nat.le_of_ble_eq_true rfl) (L' := [(b_4, [(Sl.v t21_1), (VI t42_1)]), (b_3, [(Sl.v t21_1), (VI t42_1)]), (b_2, [(Sl.v w1_1), (VI w1_2)]), (b_1, [(Sl.v g0_1)])]) rfl (fun h_10 hf_8 hL_10 => ?_)
    refine rop_locA agg34 hL_10 1 rfl 0 (vs := [(Sl.v t21_1), (VI t42_1)]) rfl rfl ?_
    have H := H  h_10  (Fr.old (Fr.old (Fr.r (In []) _) hf_7) hf_8) hL_10
    exact H

/-! impl.isWalk -/
def u77 (P : Program) (g0_1 : Sl) (w1_1 : Sl) (w1_2 : Int) (h : Heap) (K : Value → Heap → Prop) : Prop :=
  ∀ (b_1 : Nat) (b_2 : Nat) (h_2 : Heap), h.size ≤ b_1 → h.size ≤ b_2 → Fr (In []) h h_2 → Vars h_2 [(b_2, [(Sl.v w1_1), (VI w1_2)]), (b_1, [(Sl.v g0_1)])] →
  eop P (Instr.buildSlice 25 1 #[(0, (VI w1_2))]) h_2 fun rv_1 h_3 => ∃ t10_1 : Sl, rv_1 = (Sl.v t10_1) ∧ Vars h_3 [(b_2, [(Sl.v w1_1), (VI w1_2)]), (b_1, [(Sl.v g0_1)])] ∧
  callM P 85 #[(Value.agg #[(Sl.v g0_1)]), (Sl.v t10_1)] h_3 fun rv_2 h_4 => ∃ t11_1 : Bool, rv_2 = (VB t11_1) ∧ Vars h_4 [(b_2, [(Sl.v w1_1), (VI w1_2)]), (b_1, [(Sl.v g0_1)])] ∧
  ((!t11_1) = true →
  K (VB false) h_4) ∧
  ((!t11_1) = false →
  ((!decide ((w1_1.n : Int) = (g0_1.n : Int))) = true →
  K (VB false) h_4) ∧
  ((!decide ((w1_1.n : Int) = (g0_1.n : Int))) = false →
  ∃ J_1 : Nat → Int → Heap → Prop, (∃ n0 : Nat, J_1 n0 0 h_4) ∧
  ∀ (n_1 : Nat) (t25_1 : Int) (h_5 : Heap), J_1 n_1 t25_1 h_5 → Vars h_5 [(b_2, [(Sl.v w1_1), (VI w1_2)]), (b_1, [(Sl.v g0_1)])] →
  ((decide (t25_1 < (w1_1.n : Int))) = true →
  InB w1_1 t25_1 ∧
  ∃ t29_1 : Int, hcell h_5 (Sl.at w1_1 t25_1 1) = some (VI t29_1) ∧
  InB g0_1 t25_1 ∧
  ∃ t35_1 : Sl, hcell h_5 (Sl.at g0_1 t25_1 1) = some (Sl.v t35_1) ∧
  pop P (Builtin.max_ #[3, 3] 3 #[(VI (w64 ((t35_1.n : Int) - 1))), (Value.int IntKind.i64 0)]) fun rv_3 => ∃ t38_1 : Int, rv_3 = (VI t38_1) ∧ 
  callM P 110 #[(VI t29_1), (VI 0), (VI t38_1)] h_5 fun rv_4 h_6 => ∃ t39_1 : Bool, rv_4 = (VB t39_1) ∧ Vars h_6 [(b_2, [(Sl.v w1_1), (VI w1_2)]), (b_1, [(Sl.v g0_1)])] ∧
  ((!t39_1) = true →
  K (VB false) h_6) ∧
  ((!t39_1) = false →
  ∃ m : Nat, m < n_1 ∧ J_1 m (w64 (t25_1 + 1)) h_6)) ∧
  ((decide (t25_1 < (w1_1.n : Int))) = false →
  K (VB true) h_5)))
theorem v77 (g0_1 : Sl) (w1_1 : Sl) (w1_2 : Int) (h : Heap) (K : Value → Heap → Prop) (H : u77 Try.prog g0_1 w1_1 w1_2 h K) : callM Try.prog 77 #[(Value.agg #[(Sl.v g0_1)]), (Value.agg #[(Sl.v w1_1), (VI w1_2)])] h K := by
  refine c77 (Value.agg #[(Sl.v g0_1)]) (Value.agg #[(Sl.v w1_1), (VI w1_2)]) h K ?_
  unfold u77 at H
  unfold t77
  have hL : Vars h [] := .nil
  refine eop_box 32 (Value.agg #[(Sl.v g0_1)]) rfl hL (fun b_1 h_1 hb_1 hf_1 hL_1 => ?_)
  refine eop_box 34 (Value.agg #[(Sl.v w1_1), (VI w1_2)]) rfl hL_1 (fun b_2 h_2 hb_2 hf_2 hL_2 => ?_)
  refine rop_locA agg32 hL_2 1 rfl 0 (vs := [(Sl.v g0_1)]) rfl rfl ?_
  refine pop_field 1 fld34_1 b_2 0 ?_
  refine rop_loc one3 hL_2 0 rfl 1 (v := (VI w1_2)) rfl ?_
  have H := H b_1 b_2 h_2 (Nat.le_trans (Fr.size (Fr.r (In []) _)) hb_1) (Nat.le_trans (Fr.size (Fr.no' (Fr.r (In []) _) hf_1)) hb_2) (Fr.no' (Fr.no' (Fr.r (In []) _) hf_1) hf_2) hL_2
  refine H.mono fun rv_1 h_3 H => ?_
  obtain ⟨t10_1, rfl, hL_3, H⟩ := H
  refine H.mono fun rv_2 h_4 H => ?_
  obtain ⟨t11_1, rfl, hL_4, H⟩ := H
  refine pop_not t11_1 ?_
  refine guardM_sf (fun hb_3 => ?_) (fun hb_3 => ?_)
  · have H := H.2 hb_3
    refine pop_field 0 fld34_0 b_2 0 ?_
    refine guardM_y' hb_3 ?_
    refine rop_loc one25 hL_4 0 rfl 0 (v := (Sl.v w1_1)) rfl ?_
    refine guardM_y' hb_3 ?_
    refine pop_len w1_1 _ _ sli25 ?_
    refine guardM_y' hb_3 ?_
    refine pop_field 0 fld32_0 b_1 0 ?_
    refine guardM_y' hb_3 ?_
    refine rop_loc one22 hL_4 1 rfl 0 (v := (Sl.v g0_1)) rfl ?_
    refine guardM_y' hb_3 ?_
    refine pop_len g0_1 _ _ sli22 ?_
    refine guardM_y' hb_3 ?_
    refine pop_ine .i64 _ _ (w1_1.n : Int) (g0_1.n : Int) ?_
    refine pop_pickf' hb_3 ?_
    refine condM_b (fun hb_4 => ?_) (fun hb_4 => ?_)
    · have H := H.1 hb_4
      exact H
    · have H := H.2 hb_4
      refine pop_field 0 fld34_0 b_2 0 ?_
      refine rop_loc one25 hL_4 0 rfl 0 (v := (Sl.v w1_1)) rfl ?_
      refine pop_len w1_1 _ _ sli25 ?_
      obtain ⟨J_1, ⟨n_2, h0_1⟩, HB_1⟩ := H
      refine loop_intro (J := fun (n : Nat) (vs : List Value) (h' : Heap) => ∃ t25_1 : Int, vs = [(VI t25_1)] ∧ J_1 n t25_1 h' ∧ Vars h' [(b_2, [(Sl.v w1_1), (VI w1_2)]), (b_1, [(Sl.v g0_1)])]) n_2 ⟨0, rfl, h0_1, hL_4⟩ ?_
      intro I_1 mu_1 hI_1 junk_1 tv_1 h_5 hi_1
      obtain ⟨n_1, ⟨t25_1, hv, hJ_1, hL_5⟩, hn_1⟩ := hI_1 _ _ hi_1
      cases hv
      have H := HB_1 n_1 t25_1 h_5 hJ_1 hL_5
      refine pop_lss .i64 t25_1 (w1_1.n : Int) ?_
      refine condM_b (fun hb_5 => ?_) (fun hb_5 => ?_)
      · have H := H.1 hb_5
        obtain ⟨hi_2, H⟩ := H
        refine pop_index sli25 siz3 .i64 w1_1 t25_1 hi_2 ?_
        obtain ⟨t29_1, hc_2, H⟩ := H
        refine rop_one one3 (VI t29_1) hc_2 ?_
        refine pop_field 0 fld32_0 b_1 0 ?_
        refine rop_loc one22 hL_5 1 rfl 0 (v := (Sl.v g0_1)) rfl ?_
        obtain ⟨hi_3, H⟩ := H
        refine pop_index sli22 siz25 .i64 g0_1 t25_1 hi_3 ?_
        obtain ⟨t35_1, hc_1, H⟩ := H
        refine rop_one one25 (Sl.v t35_1) hc_1 ?_
        refine pop_len t35_1 _ _ sli25 ?_
        refine pop_sub .i64 (t35_1.n : Int) 1 ?_
        refine H.mono fun rv_3 H => ?_
        obtain ⟨t38_1, rfl, H⟩ := H
        refine H.mono fun rv_4 h_6 H => ?_
        obtain ⟨t39_1, rfl, hL_6, H⟩ := H
        refine pop_not t39_1 ?_
        refine condM_b (fun hb_6 => ?_) (fun hb_6 => ?_)
        · have H := H.1 hb_6
          exact H
        · have H := H.2 hb_6
          refine pop_add .i64 t25_1 1 ?_
          obtain ⟨m_1, hm_1, H⟩ := H
          exact hn_1 _ _ ⟨m_1, hm_1, (w64 (t25_1 + 1)), rfl, H, hL_6⟩
      · have H := H.2 hb_5
        exact H
  · have H := H.1 hb_3
    refine guardM_n' hb_3 (by decide) ?_
    refine guardM_n' hb_3 (by decide) ?_
    refine guardM_n' hb_3 (by decide) ?_
    refine guardM_n' hb_3 (by decide) ?_
    refine guardM_n' hb_3 (by decide) ?_
    refine guardM_n' hb_3 (by decide) ?_
    refine pop_pickt' hb_3 ?_
    refine condM_t ?_
    exact H

/-! (impl.Graph).firstTime -/
def u78 (P : Program) (g0_1 : Sl) (w1_1 : Sl) (w1_2 : Int) (from2_1 : Int) (so3_1 : Value) (h : Heap) (K : Value → Heap → Prop) : Prop :=
  ∀ (b_1 : Nat) (b_2 : Nat) (h_2 : Heap), h.size ≤ b_1 → h.size ≤ b_2 → Fr (In []) h h_2 → Vars h_2 [(b_2, [(Sl.v w1_1), (VI w1_2)]), (b_1, [(Sl.v g0_1)])] →
  callM P 70 #[(Value.agg #[(Sl.v w1_1), (VI w1_2)])] h_2 fun rv_1 h_3 => ∃ t13_1 : Sl, ∃ t13_2 : Int, rv_1 = (Value.agg #[(Sl.v t13_1), (VI t13_2)]) ∧ Vars h_3 [(b_2, [(Sl.v w1_1), (VI w1_2)]), (b_1, [(Sl.v g0_1)])] ∧
  ∀ (b_3 : Nat) (h_5 : Heap), h_3.size ≤ b_3 → Fr (In []) h_3 h_5 → Vars h_5 [(b_3, [(Sl.v t13_1), (VI t13_2)]), (b_2, [(Sl.v w1_1), (VI w1_2)]), (b_1, [(Sl.v g0_1)])] →
  ∃ J_1 : Nat → Int → Sl → Int → Heap → Prop, (∃ n0 : Nat, J_1 n0 0 t13_1 t13_2 h_5) ∧
  ∀ (n_1 : Nat) (n11_1 : Int) (x_1 : Sl) (x_2 : Int) (h_6 : Heap), J_1 n_1 n11_1 x_1 x_2 h_6 → Vars h_6 [(b_3, [(Sl.v x_1), (VI x_2)]), (b_2, [(Sl.v w1_1), (VI w1_2)]), (b_1, [(Sl.v g0_1)])] →
  ((decide (n11_1 ≤ 2000)) = true →
  ((decide (from2_1 ≤ n11_1)) = true →
  callV P so3_1 [(Value.agg #[(Sl.v x_1), (VI x_2)])] h_6 fun rv_2 h_7 => ∃ t24_1 : Bool, rv_2 = (VB t24_1) ∧ Vars h_7 [(b_3, [(Sl.v x_1), (VI x_2)]), (b_2, [(Sl.v w1_1), (VI w1_2)]), (b_1, [(Sl.v g0_1)])] ∧
  (t24_1 = true →
  K (Value.tuple #[(VI n11_1), (VB true)]) h_7) ∧
  (t24_1 = false →
  callM P 112 #[(Value.agg #[(Sl.v g0_1)]), (VP b_3 0)] h_7 fun rv_3 h_8 => ∃ x_3 : Sl, ∃ x_4 : Int, ∃ t28_1 : Bool, rv_3 = (VB t28_1) ∧ Vars h_8 [(b_3, [(Sl.v x_3), (VI x_4)]), (b_2, [(Sl.v w1_1), (VI w1_2)]), (b_1, [(Sl.v g0_1)])] ∧
  ((!t28_1) = true →
  K (Value.tuple #[(VI 0), (VB false)]) h_8) ∧
  ((!t28_1) = false →
  ∃ m : Nat, m < n_1 ∧ J_1 m (w64 (n11_1 + 1)) x_3 x_4 h_8))) ∧
  ((decide (from2_1 ≤ n11_1)) = false →
  callM P 112 #[(Value.agg #[(Sl.v g0_1)]), (VP b_3 0)] h_6 fun rv_4 h_9 => ∃ x_5 : Sl, ∃ x_6 : Int, ∃ t28_2 : Bool, rv_4 = (VB t28_2) ∧ Vars h_9 [(b_3, [(Sl.v x_5), (VI x_6)]), (b_2, [(Sl.v w1_1), (VI w1_2)]), (b_1, [(Sl.v g0_1)])] ∧
  ((!t28_2) = true →
  K (Value.tuple #[(VI 0), (VB false)]) h_9) ∧
  ((!t28_2) = false →
  ∃ m : Nat, m < n_1 ∧ J_1 m (w64 (n11_1 + 1)) x_5 x_6 h_9))) ∧
  ((decide (n11_1 ≤ 2000)) = false →
  K (Value.tuple #[(VI 0), (VB false)]) h_6)
theorem v78 (g0_1 : Sl) (w1_1 : Sl) (w1_2 : Int) (from2_1 : Int) (so3_1 : Value) (h : Heap) (K : Value → Heap → Prop) (H : u78 Try.prog g0_1 w1_1 w1_2 from2_1 so3_1 h K) : callM Try.prog 78 #[(Value.agg #[(Sl.v g0_1)]), (Value.agg #[(Sl.v w1_1), (VI w1_2)]), (VI from2_1), so3_1] h K := by
  refine c78 (Value.agg #[(Sl.v g0_1)]) (Value.agg #[(Sl.v w1_1), (VI w1_2)]) (VI from2_1) so3_1 h K ?_
  unfold u78 at H
  unfold t78
  have hL : Vars h [] := .nil
  refine eop_box 32 (Value.agg #[(Sl.v g0_1)]) rfl hL (fun b_1 h_1 hb_1 hf_1 hL_1 => ?_)
  refine eop_box 34 (Value.agg #[(Sl.v w1_1), (VI w1_2)]) rfl hL_1 (fun b_2 h_2 hb_2 hf_2 hL_2 => ?_)
  refine rop_locA agg34 hL_2 0 rfl 0 (vs := [(Sl.v w1_1), (VI w1_2)]) rfl rfl ?_
  have H := H b_1 b_2 h_2 (Nat.le_trans (Fr.size (Fr.r (In []) _)) hb_1) (Nat.le_trans (Fr.size (Fr.no' (Fr.r (In []) _) hf_1)) hb_2) (Fr.no' (Fr.no' (Fr.r (In []) _) hf_1) hf_2) hL_2
  refine H.mono fun rv_1 h_3 H => ?_
  obtain ⟨t13_1, t13_2, rfl, hL_3, H⟩ := H
  refine eop_alloc 34 zer34 rfl hL_3 (fun b_3 h_4 hb_3 hf_3 hL_4 => ?_)
  refine uop_loc siz34 hL_4 0 rfl 0 [(Sl.v t13_1), (VI t13_2)] rfl rfl rfl (Nat.le_of_ble_eq_true rfl) (L' := [(b_3, [(Sl.v t13_1), (VI t13_2)]), (b_2, [(Sl.v w1_1), (VI w1_2)]), (b_1, [(Sl.v g0_1)])]) rfl (fun h_5 hf_4 hL_5 => ?_)
  have H := H b_3 h_5 (Nat.le_trans (Fr.size (Fr.r (In []) _)) hb_3) (Fr.new (Fr.no' (Fr.r (In []) _) hf_3) (Nat.le_trans (Fr.size (Fr.r (In []) _)) hb_3) hf_4) hL_5
  obtain ⟨J_1, ⟨n_2, h0_1⟩, HB_1⟩ := H
  refine loop_intro (J := fun (n : Nat) (vs : List Value) (h' : Heap) => ∃ n11_1 : Int, ∃ x_1 : Sl, ∃ x_2 : Int, vs = [(VI n11_1)] ∧ J_1 n n11_1 x_1 x_2 h' ∧ Vars h' [(b_3, [(Sl.v x_1), (VI x_2)]), (b_2, [(Sl.v w1_1), (VI w1_2)]), (b_1, [(Sl.v g0_1)])]) n_2 ⟨0, t13_1, t13_2, rfl, h0_1, hL_5⟩ ?_
  intro I_1 mu_1 hI_1 junk_1 tv_1 h_6 hi_1
  obtain ⟨n_1, ⟨n11_1, x_1, x_2, hv, hJ_1, hL_6⟩, hn_1⟩ := hI_1 _ _ hi_1
  cases hv
  have H := HB_1 n_1 n11_1 x_1 x_2 h_6 hJ_1 hL_6
  refine pop_leq .i64 n11_1 2000 ?_
  refine condM_b (fun hb_4 => ?_) (fun hb_4 => ?_)
  · have H := H.1 hb_4
    refine pop_geq .i64 n11_1 from2_1 ?_
    refine guardM_st (fun hb_5 => ?_) (fun hb_5 => ?_)
    · have H := H.1 hb_5
      refine guardM_y' hb_5 ?_
      refine rop_locA agg34 hL_6 0 rfl 0 (vs := [(Sl.v x_1), (VI x_2)]) rfl rfl ?_
      refine guardM_y' hb_5 ?_
      refine H.mono fun rv_2 h_7 H => ?_
      obtain ⟨t24_1, rfl, hL_7, H⟩ := H
      refine pop_pickt' hb_5 ?_
      refine condM_b (fun hb_6 => ?_) (fun hb_6 => ?_)
      · have H := H.1 hb_6
        exact H
      · have H := H.2 hb_6
        refine rop_locA agg32 hL_7 2 rfl 0 (vs := [(Sl.v g0_1)]) rfl rfl ?_
        refine H.mono fun rv_3 h_8 H => ?_
        obtain ⟨x_3, x_4, t28_1, rfl, hL_8, H⟩ := H
        refine pop_not t28_1 ?_
        refine condM_b (fun hb_7 => ?_) (fun hb_7 => ?_)
        · have H := H.1 hb_7
          exact H
        · have H := H.2 hb_7
          refine pop_add .i64 n11_1 1 ?_
          obtain ⟨m_1, hm_1, H⟩ := H
          exact hn_1 _ _ ⟨m_1, hm_1, (w64 (n11_1 + 1)), x_3, x_4, rfl, H, hL_8⟩
    · have H := H.2 hb_5
      refine guardM_n' hb_5 (by decide) ?_
      refine guardM_n' hb_5 (by decide) ?_
      refine pop_pickf' hb_5 ?_
      refine condM_f ?_
      refine rop_locA agg32 hL_6 2 rfl 0 (vs := [(Sl.v g0_1)]) rfl rfl ?_
      refine H.mono fun rv_4 h_9 H => ?_
      obtain ⟨x_5, x_6, t28_2, rfl, hL_9, H⟩ := H
      refine pop_not t28_2 ?_
      refine condM_b (fun hb_8 => ?_) (fun hb_8 => ?_)
      · have H := H.1 hb_8
        exact H
      · have H := H.2 hb_8
        refine pop_add .i64 n11_1 1 ?_
        obtain ⟨m_2, hm_2, H⟩ := H
        exact hn_1 _ _ ⟨m_2, hm_2, (w64 (n11_1 + 1)), x_5, x_6, rfl, H, hL_9⟩
  · have H := H.2 hb_4
    exact H

/-! (impl.Graph).isUnicycle -/
def u79 (P : Program) (g0_1 : Sl) (w1_1 : Sl) (w1_2 : Int) (h : Heap) (K : Value → Heap → Prop) : Prop :=
  ∀ (b_1 : Nat) (b_2 : Nat) (h_2 : Heap), h.size ≤ b_1 → h.size ≤ b_2 → Fr (In []) h h_2 → Vars h_2 [(b_2, [(Sl.v w1_1), (VI w1_2)]), (b_1, [(Sl.v g0_1)])] →
  ∃ J_1 : Nat → Int → Heap → Prop, (∃ n0 : Nat, J_1 n0 0 h_2) ∧
  ∀ (n_1 : Nat) (t11_1 : Int) (h_3 : Heap), J_1 n_1 t11_1 h_3 → Vars h_3 [(b_2, [(Sl.v w1_1), (VI w1_2)]), (b_1, [(Sl.v g0_1)])] →
  ((decide (t11_1 < (g0_1.n : Int))) = true →
  callM P 117 #[(Value.agg #[(Sl.v g0_1)]), (Sl.v w1_1), (VI t11_1)] h_3 fun rv_1 h_4 => ∃ t19_1 : Sl, ∃ t19_2 : Bool, rv_1 = (Value.tuple #[(Sl.v t19_1), (VB t19_2)]) ∧ Vars h_4 [(b_2, [(Sl.v w1_1), (VI w1_2)]), (b_1, [(Sl.v g0_1)])] ∧
  ((!t19_2) = true →
  K (VB false) h_4) ∧
  ((!t19_2) = false →
  callM P 118 #[(Sl.v t19_1), (VI w1_2)] h_4 fun rv_2 h_5 => ∃ t28_1 : Bool, rv_2 = (VB t28_1) ∧ Vars h_5 [(b_2, [(Sl.v w1_1), (VI w1_2)]), (b_1, [(Sl.v g0_1)])] ∧
  ((!t28_1) = true →
  K (VB false) h_5) ∧
  ((!t28_1) = false →
  ∃ m : Nat, m < n_1 ∧ J_1 m (w64 (t11_1 + 1)) h_5))) ∧
  ((decide (t11_1 < (g0_1.n : Int))) = false →
  K (VB true) h_3)
theorem v79 (g0_1 : Sl) (w1_1 : Sl) (w1_2 : Int) (h : Heap) (K : Value → Heap → Prop) (H : u79 Try.prog g0_1 w1_1 w1_2 h K) : callM Try.prog 79 #[(Value.agg #[(Sl.v g0_1)]), (Value.agg #[(Sl.v w1_1), (VI w1_2)])] h K := by
  refine c79 (Value.agg #[(Sl.v g0_1)]) (Value.agg #[(Sl.v w1_1), (VI w1_2)]) h K ?_
  unfold u79 at H
  unfold t79
  have hL : Vars h [] := .nil
  refine eop_box 32 (Value.agg #[(Sl.v g0_1)]) rfl hL (fun b_1 h_1 hb_1 hf_1 hL_1 => ?_)
  refine eop_box 34 (Value.agg #[(Sl.v w1_1), (VI w1_2)]) rfl hL_1 (fun b_2 h_2 hb_2 hf_2 hL_2 => ?_)
  refine pop_field 0 fld32_0 b_1 0 ?_
  refine rop_loc one22 hL_2 1 rfl 0 (v := (Sl.v g0_1)) rfl ?_
  refine pop_len g0_1 _ _ sli22 ?_
  have H := H b_1 b_2 h_2 (Nat.le_trans (Fr.size (Fr.r (In []) _)) hb_1) (Nat.le_trans (Fr.size (Fr.no' (Fr.r (In []) _) hf_1)) hb_2) (Fr.no' (Fr.no' (Fr.r (In []) _) hf_1) hf_2) hL_2
  obtain ⟨J_1, ⟨n_2, h0_1⟩, HB_1⟩ := H
  refine loop_intro (J := fun (n : Nat) (vs : List Value) (h' : Heap) => ∃ t11_1 : Int, vs = [(VI t11_1)] ∧ J_1 n t11_1 h' ∧ Vars h' [(b_2, [(Sl.v w1_1), (VI w1_2)]), (b_1, [(Sl.v g0_1)])]) n_2 ⟨0, rfl, h0_1, hL_2⟩ ?_
  intro I_1 mu_1 hI_1 junk_1 tv_1 h_3 hi_1
  obtain ⟨n_1, ⟨t11_1, hv, hJ_1, hL_3⟩, hn_1⟩ := hI_1 _ _ hi_1
  cases hv
  have H := HB_1 n_1 t11_1 h_3 hJ_1 hL_3
  refine pop_lss .i64 t11_1 (g0_1.n : Int) ?_
  refine condM_b (fun hb_3 => ?_) (fun hb_3 => ?_)
  · have H := H.1 hb_3
    refine rop_locA agg32 hL_3 1 rfl 0 (vs := [(Sl.v g0_1)]) rfl rfl ?_
    refine pop_field 0 fld34_0 b_2 0 ?_
    refine rop_loc one25 hL_3 0 rfl 0 (v := (Sl.v w1_1)) rfl ?_
    refine H.mono fun rv_1 h_4 H => ?_
    obtain ⟨t19_1, t19_2, rfl, hL_4, H⟩ := H
    refine pop_ext (v := (Sl.v t19_1)) rfl ?_
    refine pop_ext (v := (VB t19_2)) rfl ?_
    refine pop_not t19_2 ?_
    refine guardM_sf (fun hb_4 => ?_) (fun hb_4 => ?_)
    · have H := H.2 hb_4
      refine guardM_y' hb_4 ?_
      refine pop_field 1 fld34_1 b_2 0 ?_
      refine guardM_y' hb_4 ?_
      refine rop_loc one3 hL_4 0 rfl 1 (v := (VI w1_2)) rfl ?_
      refine guardM_y' hb_4 ?_
      refine H.mono fun rv_2 h_5 H => ?_
      obtain ⟨t28_1, rfl, hL_5, H⟩ := H
      refine guardM_y' hb_4 ?_
      refine pop_not t28_1 ?_
      refine pop_pickf' hb_4 ?_
      refine condM_b (fun hb_5 => ?_) (fun hb_5 => ?_)
      · have H := H.1 hb_5
        exact H
      · have H := H.2 hb_5
        refine pop_add .i64 t11_1 1 ?_
        obtain ⟨m_1, hm_1, H⟩ := H
        exact hn_1 _ _ ⟨m_1, hm_1, (w64 (t11_1 + 1)), rfl, H, hL_5⟩
    · have H := H.1 hb_4
      refine guardM_n' hb_4 (by decide) ?_
      refine guardM_n' hb_4 (by decide) ?_
      refine guardM_n' hb_4 (by decide) ?_
      refine guardM_n' hb_4 (by decide) ?_
      refine pop_pickt' hb_4 ?_
      refine condM_t ?_
      exact H
  · have H := H.2 hb_3
    exact H

/-! spec.grPlace -/
def u81 (P : Program) (g0_1 : Sl) (p1_1 : Int) (h : Heap) (K : Value → Heap → Prop) : Prop :=
  ∀ (b_1 : Nat) (h_1 : Heap), h.size ≤ b_1 → Fr (In []) h h_1 → Vars h_1 [(b_1, [(Sl.v g0_1)])] →
  callM P 119 #[(Value.agg #[(Sl.v g0_1)])] h_1 fun rv_1 h_2 => ∃ t6_1 : Bool, rv_1 = (VB t6_1) ∧ Vars h_2 [(b_1, [(Sl.v g0_1)])] ∧
  (t6_1 = true →
  callM P 109 #[(VI p1_1), (VI 0), (VI (w64 ((g0_1.n : Int) - 1)))] h_2 fun rv_2 h_3 => ∃ t13_1 : Bool, rv_2 = (VB t13_1) ∧ Vars h_3 [(b_1, [(Sl.v g0_1)])] ∧
  K (VB t13_1) h_3) ∧
  (t6_1 = false →
  K (VB false) h_2)
theorem v81 (g0_1 : Sl) (p1_1 : Int) (h : Heap) (K : Value → Heap → Prop) (H : u81 Try.prog g0_1 p1_1 h K) : callM Try.prog 81 #[(Value.agg #[(Sl.v g0_1)]), (VI p1_1)] h K := by
  refine c81 (Value.agg #[(Sl.v g0_1)]) (VI p1_1) h K ?_
  unfold u81 at H
  unfold t81
  have hL : Vars h [] := .nil
  refine eop_box 32 (Value.agg #[(Sl.v g0_1)]) rfl hL (fun b_1 h_1 hb_1 hf_1 hL_1 => ?_)
  refine rop_locA agg32 hL_1 0 rfl 0 (vs := [(Sl.v g0_1)]) rfl rfl ?_
  have H := H b_1 h_1 (Nat.le_trans (Fr.size (Fr.r (In []) _)) hb_1) (Fr.no' (Fr.r (In []) _) hf_1) hL_1
  refine H.mono fun rv_1 h_2 H => ?_
  obtain ⟨t6_1, rfl, hL_2, H⟩ := H
  refine guardM_st (fun hb_2 => ?_) (fun hb_2 => ?_)
  · have H := H.1 hb_2
    refine guardM_y' hb_2 ?_
    refine pop_field 0 fld32_0 b_1 0 ?_
    refine guardM_y' hb_2 ?_
    refine rop_loc one22 hL_2 0 rfl 0 (v := (Sl.v g0_1)) rfl ?_
    refine guardM_y' hb_2 ?_
    refine pop_len g0_1 _ _ sli22 ?_
    refine guardM_y' hb_2 ?_
    refine pop_sub .i64 (g0_1.n : Int) 1 ?_
    refine guardM_y' hb_2 ?_
    refine H.mono fun rv_2 h_3 H => ?_
    obtain ⟨t13_1, rfl, hL_3, H⟩ := H
    refine pop_pickt' hb_2 ?_
    exact H
  · have H := H.2 hb_2
    refine guardM_n' hb_2 (by decide) ?_
    refine guardM_n' hb_2 (by decide) ?_
    refine guardM_n' hb_2 (by decide) ?_
    refine guardM_n' hb_2 (by decide) ?_
    refine guardM_n' hb_2 (by decide) ?_
    refine pop_pickf' hb_2 ?_
    exact H

/-! impl.has -/
def u85 (P : Program) (g0_1 : Sl) (places1_1 : Sl) (h : Heap) (K : Value → Heap → Prop) : Prop :=
  ∀ (b_1 : Nat) (h_1 : Heap), h.size ≤ b_1 → Fr (In []) h h_1 → Vars h_1 [(b_1, [(Sl.v g0_1)])] →
  callM P 122 #[(Value.agg #[(Sl.v g0_1)])] h_1 fun rv_1 h_2 => ∃ t6_1 : Bool, rv_1 = (VB t6_1) ∧ Vars h_2 [(b_1, [(Sl.v g0_1)])] ∧
  (t6_1 = true →
  callM P 106 #[(Sl.v places1_1), (Value.func (Fn.func 123) #[] #[(VP b_1 0)])] h_2 fun rv_2 h_3 => ∃ x_1 : Sl, ∃ t10_1 : Bool, rv_2 = (VB t10_1) ∧ Vars h_3 [(b_1, [(Sl.v x_1)])] ∧
  K (VB (!t10_1)) h_3) ∧
  (t6_1 = false →
  K (VB false) h_2)
theorem v85 (g0_1 : Sl) (places1_1 : Sl) (h : Heap) (K : Value → Heap → Prop) (H : u85 Try.prog g0_1 places1_1 h K) : callM Try.prog 85 #[(Value.agg #[(Sl.v g0_1)]), (Sl.v places1_1)] h K := by
  refine c85 (Value.agg #[(Sl.v g0_1)]) (Sl.v places1_1) h K ?_
  unfold u85 at H
  unfold t85
  have hL : Vars h [] := .nil
  refine eop_box 32 (Value.agg #[(Sl.v g0_1)]) rfl hL (fun b_1 h_1 hb_1 hf_1 hL_1 => ?_)
  refine rop_locA agg32 hL_1 0 rfl 0 (vs := [(Sl.v g0_1)]) rfl rfl ?_
  have H := H b_1 h_1 (Nat.le_trans (Fr.size (Fr.r (In []) _)) hb_1) (Fr.no' (Fr.r (In []) _) hf_1) hL_1
  refine H.mono fun rv_1 h_2 H => ?_
  obtain ⟨t6_1, rfl, hL_2, H⟩ := H
  refine guardM_st (fun hb_2 => ?_) (fun hb_2 => ?_)
  · have H := H.1 hb_2
    refine guardM_y' hb_2 ?_
    refine pop_func _ _ _ ?_
    refine guardM_y' hb_2 ?_
    refine H.mono fun rv_2 h_3 H => ?_
    obtain ⟨x_1, t10_1, rfl, hL_3, H⟩ := H
    refine guardM_y' hb_2 ?_
    refine pop_not t10_1 ?_
    refine pop_pickt' hb_2 ?_
    exact H
  · have H := H.2 hb_2
    refine guardM_n' hb_2 (by decide) ?_
    refine guardM_n' hb_2 (by decide) ?_
    refine guardM_n' hb_2 (by decide) ?_
    refine pop_pickf' hb_2 ?_
    exact H

/-! spec.l1All -/
def u97 (P : Program) (l0_1 : Sl) (lo1_1 : Int) (hi2_1 : Int) (h : Heap) (K : Value → Heap → Prop) : Prop :=
  ∃ J_1 : Nat → Int → Heap → Prop, (∃ n0 : Nat, J_1 n0 0 h) ∧
  ∀ (n_1 : Nat) (t11_1 : Int) (h_1 : Heap), J_1 n_1 t11_1 h_1 → Vars h_1 [] →
  ((decide (t11_1 < (l0_1.n : Int))) = true →
  InB l0_1 t11_1 ∧
  ∃ t14_1 : Int, hcell h_1 (Sl.at l0_1 t11_1 1) = some (VI t14_1) ∧
  callM P 109 #[(VI t14_1), (VI lo1_1), (VI hi2_1)] h_1 fun rv_1 h_2 => ∃ t18_1 : Bool, rv_1 = (VB t18_1) ∧ Vars h_2 [] ∧
  ((!t18_1) = true →
  K (VB false) h_2) ∧
  ((!t18_1) = false →
  ∃ m : Nat, m < n_1 ∧ J_1 m (w64 (t11_1 + 1)) h_2)) ∧
  ((decide (t11_1 < (l0_1.n : Int))) = false →
  K (VB true) h_1)
theorem v97 (l0_1 : Sl) (lo1_1 : Int) (hi2_1 : Int) (h : Heap) (K : Value → Heap → Prop) (H : u97 Try.prog l0_1 lo1_1 hi2_1 h K) : callM Try.prog 97 #[(Sl.v l0_1), (VI lo1_1), (VI hi2_1)] h K := by
  refine c97 (Sl.v l0_1) (VI lo1_1) (VI hi2_1) h K ?_
  unfold u97 at H
  unfold t97
  have hL : Vars h [] := .nil
  refine pop_len l0_1 _ _ sli25 ?_
  obtain ⟨J_1, ⟨n_2, h0_1⟩, HB_1⟩ := H
  refine loop_intro (J := fun (n : Nat) (vs : List Value) (h' : Heap) => ∃ t11_1 : Int, vs = [(VI t11_1)] ∧ J_1 n t11_1 h' ∧ Vars h' []) n_2 ⟨0, rfl, h0_1, hL⟩ ?_
  intro I_1 mu_1 hI_1 junk_1 tv_1 h_1 hi_1
  obtain ⟨n_1, ⟨t11_1, hv, hJ_1, hL_1⟩, hn_1⟩ := hI_1 _ _ hi_1
  cases hv
  have H := HB_1 n_1 t11_1 h_1 hJ_1 hL_1
  refine pop_lss .i64 t11_1 (l0_1.n : Int) ?_
  refine condM_b (fun hb_1 => ?_) (fun hb_1 => ?_)
  · have H := H.1 hb_1
    obtain ⟨hi_2, H⟩ := H
    refine pop_index sli25 siz3 .i64 l0_1 t11_1 hi_2 ?_
    obtain ⟨t14_1, hc_1, H⟩ := H
    refine rop_one one3 (VI t14_1) hc_1 ?_
    refine H.mono fun rv_1 h_2 H => ?_
    obtain ⟨t18_1, rfl, hL_2, H⟩ := H
    refine pop_not t18_1 ?_
    refine condM_b (fun hb_2 => ?_) (fun hb_2 => ?_)
    · have H := H.1 hb_2
      exact H
    · have H := H.2 hb_2
      refine pop_add .i64 t11_1 1 ?_
      obtain ⟨m_1, hm_1, H⟩ := H
      exact hn_1 _ _ ⟨m_1, hm_1, (w64 (t11_1 + 1)), rfl, H, hL_2⟩
  · have H := H.2 hb_1
    exact H

/-! slices.ContainsFunc[[]int,int] -/
def u106 (P : Program) (s0_1 : Sl) (f1_1 : Value) (h : Heap) (K : Value → Heap → Prop) : Prop :=
  callM P 138 #[(Sl.v s0_1), f1_1] h fun rv_1 h_1 => ∃ t7_1 : Int, rv_1 = (VI t7_1) ∧ Vars h_1 [] ∧
  K (VB (decide (0 ≤ t7_1))) h_1
theorem v106 (s0_1 : Sl) (f1_1 : Value) (h : Heap) (K : Value → Heap → Prop) (H : u106 Try.prog s0_1 f1_1 h K) : callM Try.prog 106 #[(Sl.v s0_1), f1_1] h K := by
  refine c106 (Sl.v s0_1) f1_1 h K ?_
  unfold u106 at H
  unfold t106
  have hL : Vars h [] := .nil
  refine H.mono fun rv_1 h_1 H => ?_
  obtain ⟨t7_1, rfl, hL_1, H⟩ := H
  refine pop_geq .i64 t7_1 0 ?_
  exact H

/-! spec.l1In -/
def u109 (P : Program) (n0_1 : Int) (lo1_1 : Int) (hi2_1 : Int) (h : Heap) (K : Value → Heap → Prop) : Prop :=
  ((decide (lo1_1 ≤ n0_1)) = true →
  K (VB (decide (n0_1 ≤ hi2_1))) h) ∧
  ((decide (lo1_1 ≤ n0_1)) = false →
  K (VB false) h)
theorem v109 (n0_1 : Int) (lo1_1 : Int) (hi2_1 : Int) (h : Heap) (K : Value → Heap → Prop) (H : u109 Try.prog n0_1 lo1_1 hi2_1 h K) : callM Try.prog 109 #[(VI n0_1), (VI lo1_1), (VI hi2_1)] h K := by
  refine c109 (VI n0_1) (VI lo1_1) (VI hi2_1) h K ?_
  unfold u109 at H
  unfold t109
  have hL : Vars h [] := .nil
  refine pop_geq .i64 n0_1 lo1_1 ?_
  refine guardM_st (fun hb_1 => ?_) (fun hb_1 => ?_)
  · have H := H.1 hb_1
    refine guardM_y' hb_1 ?_
    refine guardM_y' hb_1 ?_
    refine pop_leq .i64 n0_1 hi2_1 ?_
    refine pop_pickt' hb_1 ?_
    exact H
  · have H := H.2 hb_1
    refine guardM_n' hb_1 (by decide) ?_
    refine guardM_n' hb_1 (by decide) ?_
    refine pop_pickf' hb_1 ?_
    exact H

/-! impl.in -/
def u110 (P : Program) (n0_1 : Int) (low1_1 : Int) (high2_1 : Int) (h : Heap) (K : Value → Heap → Prop) : Prop :=
  ((decide (low1_1 ≤ n0_1)) = true →
  K (VB (decide (n0_1 ≤ high2_1))) h) ∧
  ((decide (low1_1 ≤ n0_1)) = false →
  K (VB false) h)
theorem v110 (n0_1 : Int) (low1_1 : Int) (high2_1 : Int) (h : Heap) (K : Value → Heap → Prop) (H : u110 Try.prog n0_1 low1_1 high2_1 h K) : callM Try.prog 110 #[(VI n0_1), (VI low1_1), (VI high2_1)] h K := by
  refine c110 (VI n0_1) (VI low1_1) (VI high2_1) h K ?_
  unfold u110 at H
  unfold t110
  have hL : Vars h [] := .nil
  refine pop_leq .i64 low1_1 n0_1 ?_
  refine guardM_st (fun hb_1 => ?_) (fun hb_1 => ?_)
  · have H := H.1 hb_1
    refine guardM_y' hb_1 ?_
    refine guardM_y' hb_1 ?_
    refine pop_leq .i64 n0_1 high2_1 ?_
    refine pop_pickt' hb_1 ?_
    exact H
  · have H := H.2 hb_1
    refine guardM_n' hb_1 (by decide) ?_
    refine guardM_n' hb_1 (by decide) ?_
    refine pop_pickf' hb_1 ?_
    exact H

/-! slices.Clone[[]int,int] -/
def u111 (P : Program) (s0_1 : Sl) (h : Heap) (K : Value → Heap → Prop) : Prop :=
  pop P (binE .eql 25 (.tmp 3) (.const (Value.slice none 0 0)) (Sl.v s0_1) (Value.slice none 0 0)) fun rv_1 => ∃ t4_1 : Bool, rv_1 = (VB t4_1) ∧ 
  (t4_1 = true →
  K (Sl.v nilSl) h) ∧
  (t4_1 = false →
  eop P (Instr.buildSlice 25 0 #[]) h fun rv_2 h_1 => ∃ t5_1 : Sl, rv_2 = (Sl.v t5_1) ∧ Vars h_1 [] ∧
  eop P (appS 25 25 25 (Sl.v t5_1) (Sl.v s0_1)) h_1 fun rv_3 h_2 => ∃ t7_1 : Sl, rv_3 = (Sl.v t7_1) ∧ Vars h_2 [] ∧
  K (Sl.v t7_1) h_2)
theorem v111 (s0_1 : Sl) (h : Heap) (K : Value → Heap → Prop) (H : u111 Try.prog s0_1 h K) : callM Try.prog 111 #[(Sl.v s0_1)] h K := by
  refine c111 (Sl.v s0_1) h K ?_
  unfold u111 at H
  unfold t111
  have hL : Vars h [] := .nil
  refine H.mono fun rv_1 H => ?_
  obtain ⟨t4_1, rfl, H⟩ := H
  refine condM_b (fun hb_1 => ?_) (fun hb_1 => ?_)
  · have H := H.1 hb_1
    exact H
  · have H := H.2 hb_1
    refine H.mono fun rv_2 h_1 H => ?_
    obtain ⟨t5_1, rfl, hL_1, H⟩ := H
    refine H.mono fun rv_3 h_2 H => ?_
    obtain ⟨t7_1, rfl, hL_2, H⟩ := H
    exact H

/-! (impl.Graph).step -/
def u112 (P : Program) (g0_1 : Sl) (b_1 : Nat) (w1_1 : Sl) (w1_2 : Int) (h : Heap) (K : Value → Heap → Prop) : Prop :=
  InB g0_1 w1_2 ∧
  ∀ (b_2 : Nat) (h_1 : Heap), h.size ≤ b_2 → Fr (In []) h h_1 → Vars h_1 [(b_2, [(Sl.v g0_1)]), (b_1, [(Sl.v w1_1), (VI w1_2)])] →
  ∃ t13_1 : Sl, hcell h_1 (Sl.at g0_1 w1_2 1) = some (Sl.v t13_1) ∧
  ((decide ((t13_1.n : Int) = 0)) = true →
  K (VB false) h_1) ∧
  ((decide ((t13_1.n : Int) = 0)) = false →
  InB w1_1 w1_2 ∧
  ∃ t34_1 : Int, hcell h_1 (Sl.at w1_1 w1_2 1) = some (VI t34_1) ∧
  (t13_1.n : Int) ≠ 0 ∧
  InB w1_1 w1_2 ∧
  Writable h_1 (Sl.at w1_1 w1_2 1) ∧ Vars (hset h_1 (Sl.at w1_1 w1_2 1) (VI (Int.tmod (w64 (t34_1 + 1)) (t13_1.n : Int)))) [(b_2, [(Sl.v g0_1)]), (b_1, [(Sl.v w1_1), (VI w1_2)])] ∧
  ∀ h_2 : Heap, h_2 = hset h_1 (Sl.at w1_1 w1_2 1) (VI (Int.tmod (w64 (t34_1 + 1)) (t13_1.n : Int))) → Vars h_2 [(b_2, [(Sl.v g0_1)]), (b_1, [(Sl.v w1_1), (VI w1_2)])] →
  InB w1_1 w1_2 ∧
  ∃ t51_1 : Int, hcell h_2 (Sl.at w1_1 w1_2 1) = some (VI t51_1) ∧
  InB t13_1 t51_1 ∧
  ∃ t53_1 : Int, hcell h_2 (Sl.at t13_1 t51_1 1) = some (VI t53_1) ∧
  ∀ (h_3 : Heap), Fr (In [b_1]) h_2 h_3 → Vars h_3 [(b_2, [(Sl.v g0_1)]), (b_1, [(Sl.v w1_1), (VI t53_1)])] →
  K (VB true) h_3)
theorem v112 (g0_1 : Sl) (b_1 : Nat) (w1_1 : Sl) (w1_2 : Int) (h : Heap) (K : Value → Heap → Prop) (hL : Vars h [(b_1, [(Sl.v w1_1), (VI w1_2)])]) (H : u112 Try.prog g0_1 b_1 w1_1 w1_2 h K) : callM Try.prog 112 #[(Value.agg #[(Sl.v g0_1)]), (VP b_1 0)] h K := by
  refine c112 (Value.agg #[(Sl.v g0_1)]) (VP b_1 0) h K ?_
  unfold u112 at H
  unfold t112
  refine eop_box 32 (Value.agg #[(Sl.v g0_1)]) rfl hL (fun b_2 h_1 hb_1 hf_1 hL_1 => ?_)
  refine pop_field 0 fld32_0 b_2 0 ?_
  refine rop_loc one22 hL_1 0 rfl 0 (v := (Sl.v g0_1)) rfl ?_
  refine pop_nil _ ?_
  refine pop_field 1 fld34_1 b_1 0 ?_
  refine rop_loc one3 hL_1 1 rfl 1 (v := (VI w1_2)) rfl ?_
  obtain ⟨hi_1, H⟩ := H
  refine pop_index sli22 siz25 .i64 g0_1 w1_2 hi_1 ?_
  have H := H b_2 h_1 (Nat.le_trans (Fr.size (Fr.r (In []) _)) hb_1) (Fr.no' (Fr.r (In []) _) hf_1) hL_1
  obtain ⟨t13_1, hc_4, H⟩ := H
  refine rop_one one25 (Sl.v t13_1) hc_4 ?_
  refine pop_len t13_1 _ _ sli25 ?_
  refine pop_ieq .i64 _ _ (t13_1.n : Int) 0 ?_
  refine condM_b (fun hb_2 => ?_) (fun hb_2 => ?_)
  · have H := H.1 hb_2
    exact H
  · have H := H.2 hb_2
    refine pop_nil _ ?_
    refine pop_field 0 fld34_0 b_1 0 ?_
    refine rop_loc one25 hL_1 1 rfl 0 (v := (Sl.v w1_1)) rfl ?_
    refine pop_nil _ ?_
    refine pop_field 1 fld34_1 b_1 0 ?_
    refine rop_loc one3 hL_1 1 rfl 1 (v := (VI w1_2)) rfl ?_
    refine pop_nil _ ?_
    refine pop_field 0 fld34_0 b_1 0 ?_
    refine rop_loc one25 hL_1 1 rfl 0 (v := (Sl.v w1_1)) rfl ?_
    refine pop_nil _ ?_
    refine pop_field 1 fld34_1 b_1 0 ?_
    refine rop_loc one3 hL_1 1 rfl 1 (v := (VI w1_2)) rfl ?_
    obtain ⟨hi_2, H⟩ := H
    refine pop_index sli25 siz3 .i64 w1_1 w1_2 hi_2 ?_
    obtain ⟨t34_1, hc_3, H⟩ := H
    refine rop_one one3 (VI t34_1) hc_3 ?_
    refine pop_add .i64 t34_1 1 ?_
    refine pop_len t13_1 _ _ sli25 ?_
    obtain ⟨hz_1, H⟩ := H
    refine pop_rem .i64 (w64 (t34_1 + 1)) (t13_1.n : Int) hz_1 ?_
    obtain ⟨hi_3, H⟩ := H
    refine pop_index sli25 siz3 .i64 w1_1 w1_2 hi_3 ?_
    obtain ⟨hw_1, hL_2, H⟩ := H
    refine uop_cell (v := (VI (Int.tmod (w64 (t34_1 + 1)) (t13_1.n : Int)))) siz3 hw_1 rfl (fun h_2 he_1 => ?_)
    rw [← he_1] at hL_2
    have H := H h_2 he_1 hL_2
    refine pop_nil _ ?_
    refine pop_field 0 fld34_0 b_1 0 ?_
    refine rop_loc one25 hL_2 1 rfl 0 (v := (Sl.v w1_1)) rfl ?_
    refine pop_nil _ ?_
    refine pop_field 1 fld34_1 b_1 0 ?_
    refine rop_loc one3 hL_2 1 rfl 1 (v := (VI w1_2)) rfl ?_
    obtain ⟨hi_4, H⟩ := H
    refine pop_index sli25 siz3 .i64 w1_1 w1_2 hi_4 ?_
    obtain ⟨t51_1, hc_2, H⟩ := H
    refine rop_one one3 (VI t51_1) hc_2 ?_
    obtain ⟨hi_5, H⟩ := H
    refine pop_index sli25 siz3 .i64 t13_1 t51_1 hi_5 ?_
    obtain ⟨t53_1, hc_1, H⟩ := H
    refine rop_one one3 (VI t53_1) hc_1 ?_
    refine pop_nil _ ?_
    refine pop_field 1 fld34_1 b_1 0 ?_
    refine uop_loc siz3 hL_2 1 rfl 1 [(VI t53_1)] rfl rfl rfl (Nat.le_of_ble_eq_true rfl) (L' := [(b_2, [(Sl.v g0_1)]), (b_1, [(Sl.v w1_1), (VI t53_1)])]) rfl (fun h_3 hf_2 hL_3 => ?_)
    have H := H  h_3  (Fr.old (Fr.r (In []) _) hf_2) hL_3
    exact H

/-! spec.l1Most -/
def u113 (P : Program) (a0_1 : Int) (b1_1 : Int) (h : Heap) (K : Value → Heap → Prop) : Prop :=
  ((decide (b1_1 < a0_1)) = true →
  K (VI a0_1) h) ∧
  ((decide (b1_1 < a0_1)) = false →
  K (VI b1_1) h)
theorem v113 (a0_1 : Int) (b1_1 : Int) (h : Heap) (K : Value → Heap → Prop) (H : u113 Try.prog a0_1 b1_1 h K) : callM Try.prog 113 #[(VI a0_1), (VI b1_1)] h K := by
  refine c113 (VI a0_1) (VI b1_1) h K ?_
  unfold u113 at H
  unfold t113
  have hL : Vars h [] := .nil
  refine pop_gtr .i64 a0_1 b1_1 ?_
  refine condM_b (fun hb_1 => ?_) (fun hb_1 => ?_)
  · have H := H.1 hb_1
    exact H
  · have H := H.2 hb_1
    exact H

/-! spec.trCycle -/
def u114 (P : Program) (g0_1 : Sl) (rotors1_1 : Sl) (p2_1 : Int) (h : Heap) (K : Value → Heap → Prop) : Prop :=
  ∀ (b_1 : Nat) (h_1 : Heap), h.size ≤ b_1 → Fr (In []) h h_1 → Vars h_1 [(b_1, [(Sl.v g0_1)])] →
  ∃ J_1 : Nat → Int → Int → Heap → Prop, (∃ n0 : Nat, J_1 n0 p2_1 0 h_1) ∧
  ∀ (n_1 : Nat) (p2_2 : Int) (n8_1 : Int) (h_2 : Heap), J_1 n_1 p2_2 n8_1 h_2 → Vars h_2 [(b_1, [(Sl.v g0_1)])] →
  ((decide (n8_1 < (g0_1.n : Int))) = true →
  callM P 139 #[(Value.agg #[(Sl.v g0_1)]), (Sl.v rotors1_1), (VI p2_2)] h_2 fun rv_1 h_3 => ∃ t21_1 : Int, rv_1 = (VI t21_1) ∧ Vars h_3 [(b_1, [(Sl.v g0_1)])] ∧
  ((decide (t21_1 < 0)) = true →
  K (Value.tuple #[(Sl.v nilSl), (VB false)]) h_3) ∧
  ((decide (t21_1 < 0)) = false →
  ∃ m : Nat, m < n_1 ∧ J_1 m t21_1 (w64 (n8_1 + 1)) h_3)) ∧
  ((decide (n8_1 < (g0_1.n : Int))) = false →
  eop P (Instr.buildSlice 25 1 #[(0, (VI p2_2))]) h_2 fun rv_2 h_4 => ∃ t25_1 : Sl, rv_2 = (Sl.v t25_1) ∧ Vars h_4 [(b_1, [(Sl.v g0_1)])] ∧
  callM P 139 #[(Value.agg #[(Sl.v g0_1)]), (Sl.v rotors1_1), (VI p2_2)] h_4 fun rv_3 h_5 => ∃ t29_1 : Int, rv_3 = (VI t29_1) ∧ Vars h_5 [(b_1, [(Sl.v g0_1)])] ∧
  ∃ J_2 : Nat → Sl → Int → Heap → Prop, (∃ n0 : Nat, J_2 n0 t25_1 t29_1 h_5) ∧
  ∀ (n_2 : Nat) (out9_1 : Sl) (q10_1 : Int) (h_6 : Heap), J_2 n_2 out9_1 q10_1 h_6 → Vars h_6 [(b_1, [(Sl.v g0_1)])] →
  ((!decide (q10_1 = p2_2)) = true →
  eop P (Instr.buildSlice 25 1 #[(0, (VI q10_1))]) h_6 fun rv_4 h_7 => ∃ t39_1 : Sl, rv_4 = (Sl.v t39_1) ∧ Vars h_7 [(b_1, [(Sl.v g0_1)])] ∧
  eop P (appS 25 25 25 (Sl.v out9_1) (Sl.v t39_1)) h_7 fun rv_5 h_8 => ∃ t40_1 : Sl, rv_5 = (Sl.v t40_1) ∧ Vars h_8 [(b_1, [(Sl.v g0_1)])] ∧
  callM P 139 #[(Value.agg #[(Sl.v g0_1)]), (Sl.v rotors1_1), (VI q10_1)] h_8 fun rv_6 h_9 => ∃ t36_1 : Int, rv_6 = (VI t36_1) ∧ Vars h_9 [(b_1, [(Sl.v g0_1)])] ∧
  ∃ m : Nat, m < n_2 ∧ J_2 m t40_1 t36_1 h_9) ∧
  ((!decide (q10_1 = p2_2)) = false →
  K (Value.tuple #[(Sl.v out9_1), (VB true)]) h_6))
theorem v114 (g0_1 : Sl) (rotors1_1 : Sl) (p2_1 : Int) (h : Heap) (K : Value → Heap → Prop) (H : u114 Try.prog g0_1 rotors1_1 p2_1 h K) : callM Try.prog 114 #[(Value.agg #[(Sl.v g0_1)]), (Sl.v rotors1_1), (VI p2_1)] h K := by
  refine c114 (Value.agg #[(Sl.v g0_1)]) (Sl.v rotors1_1) (VI p2_1) h K ?_
  unfold u114 at H
  unfold t114
  have hL : Vars h [] := .nil
  refine eop_box 32 (Value.agg #[(Sl.v g0_1)]) rfl hL (fun b_1 h_1 hb_1 hf_1 hL_1 => ?_)
  have H := H b_1 h_1 (Nat.le_trans (Fr.size (Fr.r (In []) _)) hb_1) (Fr.no' (Fr.r (In []) _) hf_1) hL_1
  obtain ⟨J_1, ⟨n_4, h0_2⟩, HB_2⟩ := H
  refine loop_intro (J := fun (n : Nat) (vs : List Value) (h' : Heap) => ∃ p2_2 : Int, ∃ n8_1 : Int, vs = [(VI p2_2), (VI n8_1)] ∧ J_1 n p2_2 n8_1 h' ∧ Vars h' [(b_1, [(Sl.v g0_1)])]) n_4 ⟨p2_1, 0, rfl, h0_2, hL_1⟩ ?_
  intro I_2 mu_2 hI_2 junk_1 tv_3 tv_4 h_2 hi_1
  obtain ⟨n_1, ⟨p2_2, n8_1, hv, hJ_1, hL_2⟩, hn_1⟩ := hI_2 _ _ hi_1
  cases hv
  have H := HB_2 n_1 p2_2 n8_1 h_2 hJ_1 hL_2
  refine pop_field 0 fld32_0 b_1 0 ?_
  refine rop_loc one22 hL_2 0 rfl 0 (v := (Sl.v g0_1)) rfl ?_
  refine pop_len g0_1 _ _ sli22 ?_
  refine pop_lss .i64 n8_1 (g0_1.n : Int) ?_
  refine condM_b (fun hb_2 => ?_) (fun hb_2 => ?_)
  · have H := H.1 hb_2
    refine rop_locA agg32 hL_2 0 rfl 0 (vs := [(Sl.v g0_1)]) rfl rfl ?_
    refine H.mono fun rv_1 h_3 H => ?_
    obtain ⟨t21_1, rfl, hL_3, H⟩ := H
    refine pop_lss .i64 t21_1 0 ?_
    refine condM_b (fun hb_3 => ?_) (fun hb_3 => ?_)
    · have H := H.1 hb_3
      exact H
    · have H := H.2 hb_3
      refine pop_add .i64 n8_1 1 ?_
      obtain ⟨m_1, hm_1, H⟩ := H
      exact hn_1 _ _ ⟨m_1, hm_1, t21_1, (w64 (n8_1 + 1)), rfl, H, hL_3⟩
  · have H := H.2 hb_2
    refine H.mono fun rv_2 h_4 H => ?_
    obtain ⟨t25_1, rfl, hL_4, H⟩ := H
    refine rop_locA agg32 hL_4 0 rfl 0 (vs := [(Sl.v g0_1)]) rfl rfl ?_
    refine H.mono fun rv_3 h_5 H => ?_
    obtain ⟨t29_1, rfl, hL_5, H⟩ := H
    obtain ⟨J_2, ⟨n_3, h0_1⟩, HB_1⟩ := H
    refine loop_intro (J := fun (n : Nat) (vs : List Value) (h' : Heap) => ∃ out9_1 : Sl, ∃ q10_1 : Int, vs = [(Sl.v out9_1), (VI q10_1)] ∧ J_2 n out9_1 q10_1 h' ∧ Vars h' [(b_1, [(Sl.v g0_1)])]) n_3 ⟨t25_1, t29_1, rfl, h0_1, hL_5⟩ ?_
    intro I_1 mu_1 hI_1 junk_2 tv_1 tv_2 h_6 hi_2
    obtain ⟨n_2, ⟨out9_1, q10_1, hv, hJ_2, hL_6⟩, hn_2⟩ := hI_1 _ _ hi_2
    cases hv
    have H := HB_1 n_2 out9_1 q10_1 h_6 hJ_2 hL_6
    refine pop_ine .i64 _ _ q10_1 p2_2 ?_
    refine condM_b (fun hb_4 => ?_) (fun hb_4 => ?_)
    · have H := H.1 hb_4
      refine H.mono fun rv_4 h_7 H => ?_
      obtain ⟨t39_1, rfl, hL_7, H⟩ := H
      refine H.mono fun rv_5 h_8 H => ?_
      obtain ⟨t40_1, rfl, hL_8, H⟩ := H
      refine rop_locA agg32 hL_8 0 rfl 0 (vs := [(Sl.v g0_1)]) rfl rfl ?_
      refine H.mono fun rv_6 h_9 H => ?_
      obtain ⟨t36_1, rfl, hL_9, H⟩ := H
      obtain ⟨m_2, hm_2, H⟩ := H
      exact hn_2 _ _ ⟨m_2, hm_2, t40_1, t36_1, rfl, H, hL_9⟩
    · have H := H.2 hb_4
      exact H

/-! spec.l1Has -/
def u115 (P : Program) (l0_1 : Sl) (n1_1 : Int) (h : Heap) (K : Value → Heap → Prop) : Prop :=
  ∃ J_1 : Nat → Int → Heap → Prop, (∃ n0 : Nat, J_1 n0 0 h) ∧
  ∀ (n_1 : Nat) (t9_1 : Int) (h_1 : Heap), J_1 n_1 t9_1 h_1 → Vars h_1 [] →
  ((decide (t9_1 < (l0_1.n : Int))) = true →
  InB l0_1 t9_1 ∧
  ∃ t12_1 : Int, hcell h_1 (Sl.at l0_1 t9_1 1) = some (VI t12_1) ∧
  ((decide (t12_1 = n1_1)) = true →
  K (VB true) h_1) ∧
  ((decide (t12_1 = n1_1)) = false →
  ∃ m : Nat, m < n_1 ∧ J_1 m (w64 (t9_1 + 1)) h_1)) ∧
  ((decide (t9_1 < (l0_1.n : Int))) = false →
  K (VB false) h_1)
theorem v115 (l0_1 : Sl) (n1_1 : Int) (h : Heap) (K : Value → Heap → Prop) (H : u115 Try.prog l0_1 n1_1 h K) : callM Try.prog 115 #[(Sl.v l0_1), (VI n1_1)] h K := by
  refine c115 (Sl.v l0_1) (VI n1_1) h K ?_
  unfold u115 at H
  unfold t115
  have hL : Vars h [] := .nil
  refine pop_len l0_1 _ _ sli25 ?_
  obtain ⟨J_1, ⟨n_2, h0_1⟩, HB_1⟩ := H
  refine loop_intro (J := fun (n : Nat) (vs : List Value) (h' : Heap) => ∃ t9_1 : Int, vs = [(VI t9_1)] ∧ J_1 n t9_1 h' ∧ Vars h' []) n_2 ⟨0, rfl, h0_1, hL⟩ ?_
  intro I_1 mu_1 hI_1 junk_1 tv_1 h_1 hi_1
  obtain ⟨n_1, ⟨t9_1, hv, hJ_1, hL_1⟩, hn_1⟩ := hI_1 _ _ hi_1
  cases hv
  have H := HB_1 n_1 t9_1 h_1 hJ_1 hL_1
  refine pop_lss .i64 t9_1 (l0_1.n : Int) ?_
  refine condM_b (fun hb_1 => ?_) (fun hb_1 => ?_)
  · have H := H.1 hb_1
    obtain ⟨hi_2, H⟩ := H
    refine pop_index sli25 siz3 .i64 l0_1 t9_1 hi_2 ?_
    obtain ⟨t12_1, hc_1, H⟩ := H
    refine rop_one one3 (VI t12_1) hc_1 ?_
    refine pop_ieq .i64 _ _ t12_1 n1_1 ?_
    refine condM_b (fun hb_2 => ?_) (fun hb_2 => ?_)
    · have H := H.1 hb_2
      exact H
    · have H := H.2 hb_2
      refine pop_add .i64 t9_1 1 ?_
      obtain ⟨m_1, hm_1, H⟩ := H
      exact hn_1 _ _ ⟨m_1, hm_1, (w64 (t9_1 + 1)), rfl, H, hL_1⟩
  · have H := H.2 hb_1
    exact H

/-! spec.l1Own -/
def u116 (P : Program) (l0_1 : Sl) (h : Heap) (K : Value → Heap → Prop) : Prop :=
  eop P (Instr.buildSlice 25 0 #[]) h fun rv_1 h_1 => ∃ t3_1 : Sl, rv_1 = (Sl.v t3_1) ∧ Vars h_1 [] ∧
  eop P (appS 25 25 25 (Sl.v t3_1) (Sl.v l0_1)) h_1 fun rv_2 h_2 => ∃ t5_1 : Sl, rv_2 = (Sl.v t5_1) ∧ Vars h_2 [] ∧
  K (Sl.v t5_1) h_2
theorem v116 (l0_1 : Sl) (h : Heap) (K : Value → Heap → Prop) (H : u116 Try.prog l0_1 h K) : callM Try.prog 116 #[(Sl.v l0_1)] h K := by
  refine c116 (Sl.v l0_1) h K ?_
  unfold u116 at H
  unfold t116
  have hL : Vars h [] := .nil
  refine H.mono fun rv_1 h_1 H => ?_
  obtain ⟨t3_1, rfl, hL_1, H⟩ := H
  refine H.mono fun rv_2 h_2 H => ?_
  obtain ⟨t5_1, rfl, hL_2, H⟩ := H
  exact H

/-! (impl.Graph).cycleFrom -/
def u117 (P : Program) (g0_1 : Sl) (rotors1_1 : Sl) (p2_1 : Int) (h : Heap) (K : Value → Heap → Prop) : Prop :=
  ∀ (b_1 : Nat) (h_1 : Heap), h.size ≤ b_1 → Fr (In []) h h_1 → Vars h_1 [(b_1, [(Sl.v g0_1)])] →
  eop P (Instr.buildSlice 25 0 #[]) h_1 fun rv_1 h_2 => ∃ t9_1 : Sl, rv_1 = (Sl.v t9_1) ∧ Vars h_2 [(b_1, [(Sl.v g0_1)])] ∧
  ∃ J_1 : Nat → Int → Sl → Heap → Prop, (∃ n0 : Nat, J_1 n0 p2_1 t9_1 h_2) ∧
  ∀ (n_1 : Nat) (p2_2 : Int) (met8_1 : Sl) (h_3 : Heap), J_1 n_1 p2_2 met8_1 h_3 → Vars h_3 [(b_1, [(Sl.v g0_1)])] →
  callM P 118 #[(Sl.v met8_1), (VI p2_2)] h_3 fun rv_2 h_4 => ∃ t12_1 : Bool, rv_2 = (VB t12_1) ∧ Vars h_4 [(b_1, [(Sl.v g0_1)])] ∧
  ((!t12_1) = true →
  eop P (Instr.buildSlice 25 1 #[(0, (VI p2_2))]) h_4 fun rv_3 h_5 => ∃ t16_1 : Sl, rv_3 = (Sl.v t16_1) ∧ Vars h_5 [(b_1, [(Sl.v g0_1)])] ∧
  eop P (appS 25 25 25 (Sl.v met8_1) (Sl.v t16_1)) h_5 fun rv_4 h_6 => ∃ t17_1 : Sl, rv_4 = (Sl.v t17_1) ∧ Vars h_6 [(b_1, [(Sl.v g0_1)])] ∧
  callM P 140 #[(Value.agg #[(Sl.v g0_1)]), (Sl.v rotors1_1), (VI p2_2)] h_6 fun rv_5 h_7 => ∃ t21_1 : Int, rv_5 = (VI t21_1) ∧ Vars h_7 [(b_1, [(Sl.v g0_1)])] ∧
  ((decide (t21_1 < 0)) = true →
  K (Value.tuple #[(Sl.v nilSl), (VB false)]) h_7) ∧
  ((decide (t21_1 < 0)) = false →
  ∃ m : Nat, m < n_1 ∧ J_1 m t21_1 t17_1 h_7)) ∧
  ((!t12_1) = false →
  callM P 124 #[(Sl.v met8_1), (VI p2_2)] h_4 fun rv_6 h_8 => ∃ t27_1 : Int, rv_6 = (VI t27_1) ∧ Vars h_8 [(b_1, [(Sl.v g0_1)])] ∧
  pop P (Instr.sliceAt 25 (Sl.v met8_1) (some (VI t27_1)) none none) fun rv_7 => ∃ t28_1 : Sl, rv_7 = (Sl.v t28_1) ∧ 
  K (Value.tuple #[(Sl.v t28_1), (VB true)]) h_8)
theorem v117 (g0_1 : Sl) (rotors1_1 : Sl) (p2_1 : Int) (h : Heap) (K : Value → Heap → Prop) (H : u117 Try.prog g0_1 rotors1_1 p2_1 h K) : callM Try.prog 117 #[(Value.agg #[(Sl.v g0_1)]), (Sl.v rotors1_1), (VI p2_1)] h K := by
  refine c117 (Value.agg #[(Sl.v g0_1)]) (Sl.v rotors1_1) (VI p2_1) h K ?_
  unfold u117 at H
  unfold t117
  have hL : Vars h [] := .nil
  refine eop_box 32 (Value.agg #[(Sl.v g0_1)]) rfl hL (fun b_1 h_1 hb_1 hf_1 hL_1 => ?_)
  have H := H b_1 h_1 (Nat.le_trans (Fr.size (Fr.r (In []) _)) hb_1) (Fr.no' (Fr.r (In []) _) hf_1) hL_1
  refine H.mono fun rv_1 h_2 H => ?_
  obtain ⟨t9_1, rfl, hL_2, H⟩ := H
  obtain ⟨J_1, ⟨n_2, h0_1⟩, HB_1⟩ := H
  refine loop_intro (J := fun (n : Nat) (vs : List Value) (h' : Heap) => ∃ p2_2 : Int, ∃ met8_1 : Sl, vs = [(VI p2_2), (Sl.v met8_1)] ∧ J_1 n p2_2 met8_1 h' ∧ Vars h' [(b_1, [(Sl.v g0_1)])]) n_2 ⟨p2_1, t9_1, rfl, h0_1, hL_2⟩ ?_
  intro I_1 mu_1 hI_1 junk_1 tv_1 tv_2 h_3 hi_1
  obtain ⟨n_1, ⟨p2_2, met8_1, hv, hJ_1, hL_3⟩, hn_1⟩ := hI_1 _ _ hi_1
  cases hv
  have H := HB_1 n_1 p2_2 met8_1 h_3 hJ_1 hL_3
  refine H.mono fun rv_2 h_4 H => ?_
  obtain ⟨t12_1, rfl, hL_4, H⟩ := H
  refine pop_not t12_1 ?_
  refine condM_b (fun hb_2 => ?_) (fun hb_2 => ?_)
  · have H := H.1 hb_2
    refine H.mono fun rv_3 h_5 H => ?_
    obtain ⟨t16_1, rfl, hL_5, H⟩ := H
    refine H.mono fun rv_4 h_6 H => ?_
    obtain ⟨t17_1, rfl, hL_6, H⟩ := H
    refine rop_locA agg32 hL_6 0 rfl 0 (vs := [(Sl.v g0_1)]) rfl rfl ?_
    refine H.mono fun rv_5 h_7 H => ?_
    obtain ⟨t21_1, rfl, hL_7, H⟩ := H
    refine pop_lss .i64 t21_1 0 ?_
    refine condM_b (fun hb_3 => ?_) (fun hb_3 => ?_)
    · have H := H.1 hb_3
      exact H
    · have H := H.2 hb_3
      obtain ⟨m_1, hm_1, H⟩ := H
      exact hn_1 _ _ ⟨m_1, hm_1, t21_1, t17_1, rfl, H, hL_7⟩
  · have H := H.2 hb_2
    refine H.mono fun rv_6 h_8 H => ?_
    obtain ⟨t27_1, rfl, hL_8, H⟩ := H
    refine H.mono fun rv_7 H => ?_
    obtain ⟨t28_1, rfl, H⟩ := H
    exact H

/-! slices.Contains[[]int,int] -/
def u118 (P : Program) (s0_1 : Sl) (v1_1 : Int) (h : Heap) (K : Value → Heap → Prop) : Prop :=
  callM P 124 #[(Sl.v s0_1), (VI v1_1)] h fun rv_1 h_1 => ∃ t7_1 : Int, rv_1 = (VI t7_1) ∧ Vars h_1 [] ∧
  K (VB (decide (0 ≤ t7_1))) h_1
theorem v118 (s0_1 : Sl) (v1_1 : Int) (h : Heap) (K : Value → Heap → Prop) (H : u118 Try.prog s0_1 v1_1 h K) : callM Try.prog 118 #[(Sl.v s0_1), (VI v1_1)] h K := by
  refine c118 (Sl.v s0_1) (VI v1_1) h K ?_
  unfold u118 at H
  unfold t118
  have hL : Vars h [] := .nil
  refine H.mono fun rv_1 h_1 H => ?_
  obtain ⟨t7_1, rfl, hL_1, H⟩ := H
  refine pop_geq .i64 t7_1 0 ?_
  exact H

/-! spec.grGood -/
def u119 (P : Program) (g0_1 : Sl) (h : Heap) (K : Value → Heap → Prop) : Prop :=
  ∀ (b_1 : Nat) (h_1 : Heap), h.size ≤ b_1 → Fr (In []) h h_1 → Vars h_1 [(b_1, [(Sl.v g0_1)])] →
  callM P 109 #[(VI (g0_1.n : Int)), (VI 1), (VI 8)] h_1 fun rv_1 h_2 => ∃ t10_1 : Bool, rv_1 = (VB t10_1) ∧ Vars h_2 [(b_1, [(Sl.v g0_1)])] ∧
  ((!t10_1) = true →
  K (VB false) h_2) ∧
  ((!t10_1) = false →
  ∃ J_1 : Nat → Int → Heap → Prop, (∃ n0 : Nat, J_1 n0 0 h_2) ∧
  ∀ (n_1 : Nat) (t15_1 : Int) (h_3 : Heap), J_1 n_1 t15_1 h_3 → Vars h_3 [(b_1, [(Sl.v g0_1)])] →
  ((decide (t15_1 < (g0_1.n : Int))) = true →
  InB g0_1 t15_1 ∧
  ∃ t18_1 : Sl, hcell h_3 (Sl.at g0_1 t15_1 1) = some (Sl.v t18_1) ∧
  ((decide (5 < (t18_1.n : Int))) = true →
  K (VB false) h_3) ∧
  ((decide (5 < (t18_1.n : Int))) = false →
  callM P 97 #[(Sl.v t18_1), (VI 0), (VI (w64 ((g0_1.n : Int) - 1)))] h_3 fun rv_2 h_4 => ∃ t26_1 : Bool, rv_2 = (VB t26_1) ∧ Vars h_4 [(b_1, [(Sl.v g0_1)])] ∧
  ((!t26_1) = true →
  K (VB false) h_4) ∧
  ((!t26_1) = false →
  ∃ m : Nat, m < n_1 ∧ J_1 m (w64 (t15_1 + 1)) h_4))) ∧
  ((decide (t15_1 < (g0_1.n : Int))) = false →
  K (VB true) h_3))
theorem v119 (g0_1 : Sl) (h : Heap) (K : Value → Heap → Prop) (H : u119 Try.prog g0_1 h K) : callM Try.prog 119 #[(Value.agg #[(Sl.v g0_1)])] h K := by
  refine c119 (Value.agg #[(Sl.v g0_1)]) h K ?_
  unfold u119 at H
  unfold t119
  have hL : Vars h [] := .nil
  refine eop_box 32 (Value.agg #[(Sl.v g0_1)]) rfl hL (fun b_1 h_1 hb_1 hf_1 hL_1 => ?_)
  refine pop_field 0 fld32_0 b_1 0 ?_
  refine rop_loc one22 hL_1 0 rfl 0 (v := (Sl.v g0_1)) rfl ?_
  refine pop_len g0_1 _ _ sli22 ?_
  have H := H b_1 h_1 (Nat.le_trans (Fr.size (Fr.r (In []) _)) hb_1) (Fr.no' (Fr.r (In []) _) hf_1) hL_1
  refine H.mono fun rv_1 h_2 H => ?_
  obtain ⟨t10_1, rfl, hL_2, H⟩ := H
  refine pop_not t10_1 ?_
  refine condM_b (fun hb_2 => ?_) (fun hb_2 => ?_)
  · have H := H.1 hb_2
    exact H
  · have H := H.2 hb_2
    refine pop_field 0 fld32_0 b_1 0 ?_
    refine rop_loc one22 hL_2 0 rfl 0 (v := (Sl.v g0_1)) rfl ?_
    refine pop_len g0_1 _ _ sli22 ?_
    obtain ⟨J_1, ⟨n_2, h0_1⟩, HB_1⟩ := H
    refine loop_intro (J := fun (n : Nat) (vs : List Value) (h' : Heap) => ∃ t15_1 : Int, vs = [(VI t15_1)] ∧ J_1 n t15_1 h' ∧ Vars h' [(b_1, [(Sl.v g0_1)])]) n_2 ⟨0, rfl, h0_1, hL_2⟩ ?_
    intro I_1 mu_1 hI_1 junk_1 tv_1 h_3 hi_1
    obtain ⟨n_1, ⟨t15_1, hv, hJ_1, hL_3⟩, hn_1⟩ := hI_1 _ _ hi_1
    cases hv
    have H := HB_1 n_1 t15_1 h_3 hJ_1 hL_3
    refine pop_lss .i64 t15_1 (g0_1.n : Int) ?_
    refine condM_b (fun hb_3 => ?_) (fun hb_3 => ?_)
    · have H := H.1 hb_3
      obtain ⟨hi_2, H⟩ := H
      refine pop_index sli22 siz25 .i64 g0_1 t15_1 hi_2 ?_
      obtain ⟨t18_1, hc_1, H⟩ := H
      refine rop_one one25 (Sl.v t18_1) hc_1 ?_
      refine pop_len t18_1 _ _ sli25 ?_
      refine pop_gtr .i64 (t18_1.n : Int) 5 ?_
      refine guardM_sf (fun hb_4 => ?_) (fun hb_4 => ?_)
      · have H := H.2 hb_4
        refine guardM_y' hb_4 ?_
        refine guardM_y' hb_4 ?_
        refine pop_sub .i64 (g0_1.n : Int) 1 ?_
        refine guardM_y' hb_4 ?_
        refine H.mono fun rv_2 h_4 H => ?_
        obtain ⟨t26_1, rfl, hL_4, H⟩ := H
        refine guardM_y' hb_4 ?_
        refine pop_not t26_1 ?_
        refine pop_pickf' hb_4 ?_
        refine condM_b (fun hb_5 => ?_) (fun hb_5 => ?_)
        · have H := H.1 hb_5
          exact H
        · have H := H.2 hb_5
          refine pop_add .i64 t15_1 1 ?_
          obtain ⟨m_1, hm_1, H⟩ := H
          exact hn_1 _ _ ⟨m_1, hm_1, (w64 (t15_1 + 1)), rfl, H, hL_4⟩
      · have H := H.1 hb_4
        refine guardM_n' hb_4 (by decide) ?_
        refine guardM_n' hb_4 (by decide) ?_
        refine guardM_n' hb_4 (by decide) ?_
        refine guardM_n' hb_4 (by decide) ?_
        refine pop_pickt' hb_4 ?_
        refine condM_t ?_
        exact H
    · have H := H.2 hb_3
      exact H

/-! impl.isGraph -/
def u122 (P : Program) (g0_1 : Sl) (h : Heap) (K : Value → Heap → Prop) : Prop :=
  ∀ (b_1 : Nat) (b_2 : Nat) (h_3 : Heap), h.size ≤ b_1 → h.size ≤ b_2 → Fr (In []) h h_3 → Vars h_3 [(b_2, [(VI (g0_1.n : Int))]), (b_1, [(Sl.v g0_1)])] →
  callM P 110 #[(VI (g0_1.n : Int)), (VI 1), (VI 8)] h_3 fun rv_1 h_4 => ∃ t10_1 : Bool, rv_1 = (VB t10_1) ∧ Vars h_4 [(b_2, [(VI (g0_1.n : Int))]), (b_1, [(Sl.v g0_1)])] ∧
  ((!t10_1) = true →
  K (VB false) h_4) ∧
  ((!t10_1) = false →
  ∃ J_1 : Nat → Int → Int → Heap → Prop, (∃ n0 : Nat, J_1 n0 0 (g0_1.n : Int) h_4) ∧
  ∀ (n_1 : Nat) (t15_1 : Int) (x_1 : Int) (h_5 : Heap), J_1 n_1 t15_1 x_1 h_5 → Vars h_5 [(b_2, [(VI x_1)]), (b_1, [(Sl.v g0_1)])] →
  ((decide (t15_1 < (g0_1.n : Int))) = true →
  InB g0_1 t15_1 ∧
  ∃ t18_1 : Sl, hcell h_5 (Sl.at g0_1 t15_1 1) = some (Sl.v t18_1) ∧
  ((decide (5 < (t18_1.n : Int))) = true →
  K (VB false) h_5) ∧
  ((decide (5 < (t18_1.n : Int))) = false →
  callM P 106 #[(Sl.v t18_1), (Value.func (Fn.func 141) #[] #[(VP b_2 0)])] h_5 fun rv_2 h_6 => ∃ x_2 : Int, ∃ t25_1 : Bool, rv_2 = (VB t25_1) ∧ Vars h_6 [(b_2, [(VI x_2)]), (b_1, [(Sl.v g0_1)])] ∧
  (t25_1 = true →
  K (VB false) h_6) ∧
  (t25_1 = false →
  ∃ m : Nat, m < n_1 ∧ J_1 m (w64 (t15_1 + 1)) x_2 h_6))) ∧
  ((decide (t15_1 < (g0_1.n : Int))) = false →
  K (VB true) h_5))
theorem v122 (g0_1 : Sl) (h : Heap) (K : Value → Heap → Prop) (H : u122 Try.prog g0_1 h K) : callM Try.prog 122 #[(Value.agg #[(Sl.v g0_1)])] h K := by
  refine c122 (Value.agg #[(Sl.v g0_1)]) h K ?_
  unfold u122 at H
  unfold t122
  have hL : Vars h [] := .nil
  refine eop_box 32 (Value.agg #[(Sl.v g0_1)]) rfl hL (fun b_1 h_1 hb_1 hf_1 hL_1 => ?_)
  refine pop_field 0 fld32_0 b_1 0 ?_
  refine rop_loc one22 hL_1 0 rfl 0 (v := (Sl.v g0_1)) rfl ?_
  refine pop_len g0_1 _ _ sli22 ?_
  refine eop_alloc 3 zer3 rfl hL_1 (fun b_2 h_2 hb_2 hf_2 hL_2 => ?_)
  refine uop_loc siz3 hL_2 0 rfl 0 [(VI (g0_1.n : Int))] rfl rfl rfl (Nat.le_of_ble_eq_true rfl) (L' := [(b_2, [(VI (g0_1.n : Int))]), (b_1, [(Sl.v g0_1)])]) rfl (fun h_3 hf_3 hL_3 => ?_)
  refine rop_loc one3 hL_3 0 rfl 0 (v := (VI (g0_1.n : Int))) rfl ?_
  have H := H b_1 b_2 h_3 (Nat.le_trans (Fr.size (Fr.r (In []) _)) hb_1) (Nat.le_trans (Fr.size (Fr.no' (Fr.r (In []) _) hf_1)) hb_2) (Fr.new (Fr.no' (Fr.no' (Fr.r (In []) _) hf_1) hf_2) (Nat.le_trans (Fr.size (Fr.no' (Fr.r (In []) _) hf_1)) hb_2) hf_3) hL_3
  refine H.mono fun rv_1 h_4 H => ?_
  obtain ⟨t10_1, rfl, hL_4, H⟩ := H
  refine pop_not t10_1 ?_
  refine condM_b (fun hb_3 => ?_) (fun hb_3 => ?_)
  · have H := H.1 hb_3
    exact H
  · have H := H.2 hb_3
    refine pop_field 0 fld32_0 b_1 0 ?_
    refine rop_loc one22 hL_4 1 rfl 0 (v := (Sl.v g0_1)) rfl ?_
    refine pop_len g0_1 _ _ sli22 ?_
    obtain ⟨J_1, ⟨n_2, h0_1⟩, HB_1⟩ := H
    refine loop_intro (J := fun (n : Nat) (vs : List Value) (h' : Heap) => ∃ t15_1 : Int, ∃ x_1 : Int, vs = [(VI t15_1)] ∧ J_1 n t15_1 x_1 h' ∧ Vars h' [(b_2, [(VI x_1)]), (b_1, [(Sl.v g0_1)])]) n_2 ⟨0, (g0_1.n : Int), rfl, h0_1, hL_4⟩ ?_
    intro I_1 mu_1 hI_1 junk_1 tv_1 h_5 hi_1
    obtain ⟨n_1, ⟨t15_1, x_1, hv, hJ_1, hL_5⟩, hn_1⟩ := hI_1 _ _ hi_1
    cases hv
    have H := HB_1 n_1 t15_1 x_1 h_5 hJ_1 hL_5
    refine pop_lss .i64 t15_1 (g0_1.n : Int) ?_
    refine condM_b (fun hb_4 => ?_) (fun hb_4 => ?_)
    · have H := H.1 hb_4
      obtain ⟨hi_2, H⟩ := H
      refine pop_index sli22 siz25 .i64 g0_1 t15_1 hi_2 ?_
      obtain ⟨t18_1, hc_1, H⟩ := H
      refine rop_one one25 (Sl.v t18_1) hc_1 ?_
      refine pop_len t18_1 _ _ sli25 ?_
      refine pop_gtr .i64 (t18_1.n : Int) 5 ?_
      refine guardM_sf (fun hb_5 => ?_) (fun hb_5 => ?_)
      · have H := H.2 hb_5
        refine guardM_y' hb_5 ?_
        refine pop_func _ _ _ ?_
        refine guardM_y' hb_5 ?_
        refine H.mono fun rv_2 h_6 H => ?_
        obtain ⟨x_2, t25_1, rfl, hL_6, H⟩ := H
        refine pop_pickf' hb_5 ?_
        refine condM_b (fun hb_6 => ?_) (fun hb_6 => ?_)
        · have H := H.1 hb_6
          exact H
        · have H := H.2 hb_6
          refine pop_add .i64 t15_1 1 ?_
          obtain ⟨m_1, hm_1, H⟩ := H
          exact hn_1 _ _ ⟨m_1, hm_1, (w64 (t15_1 + 1)), x_2, rfl, H, hL_6⟩
      · have H := H.1 hb_5
        refine guardM_n' hb_5 (by decide) ?_
        refine guardM_n' hb_5 (by decide) ?_
        refine pop_pickt' hb_5 ?_
        refine condM_t ?_
        exact H
    · have H := H.2 hb_4
      exact H

/-! impl.has$1 -/
def u123 (P : Program) (p0_1 : Int) (b_1 : Nat) (t1_1 : Sl) (h : Heap) (K : Value → Heap → Prop) : Prop :=
  callM P 110 #[(VI p0_1), (VI 0), (VI (w64 ((t1_1.n : Int) - 1)))] h fun rv_1 h_1 => ∃ t9_1 : Bool, rv_1 = (VB t9_1) ∧ Vars h_1 [(b_1, [(Sl.v t1_1)])] ∧
  K (VB (!t9_1)) h_1
theorem v123 (p0_1 : Int) (b_1 : Nat) (t1_1 : Sl) (h : Heap) (K : Value → Heap → Prop) (hL : Vars h [(b_1, [(Sl.v t1_1)])]) (H : u123 Try.prog p0_1 b_1 t1_1 h K) : callM Try.prog 123 #[(VI p0_1), (VP b_1 0)] h K := by
  refine c123 (VI p0_1) (VP b_1 0) h K ?_
  unfold u123 at H
  unfold t123
  refine pop_field 0 fld32_0 b_1 0 ?_
  refine rop_loc one22 hL 0 rfl 0 (v := (Sl.v t1_1)) rfl ?_
  refine pop_len t1_1 _ _ sli22 ?_
  refine pop_sub .i64 (t1_1.n : Int) 1 ?_
  refine H.mono fun rv_1 h_1 H => ?_
  obtain ⟨t9_1, rfl, hL_1, H⟩ := H
  refine pop_not t9_1 ?_
  exact H

/-! slices.Index[[]int,int] -/
def u124 (P : Program) (s0_1 : Sl) (v1_1 : Int) (h : Heap) (K : Value → Heap → Prop) : Prop :=
  ∃ J_1 : Nat → Int → Heap → Prop, (∃ n0 : Nat, J_1 n0 0 h) ∧
  ∀ (n_1 : Nat) (t8_1 : Int) (h_1 : Heap), J_1 n_1 t8_1 h_1 → Vars h_1 [] →
  ((decide (t8_1 < (s0_1.n : Int))) = true →
  InB s0_1 t8_1 ∧
  ∃ t15_1 : Int, hcell h_1 (Sl.at s0_1 t8_1 1) = some (VI t15_1) ∧
  ((decide (v1_1 = t15_1)) = true →
  K (VI t8_1) h_1) ∧
  ((decide (v1_1 = t15_1)) = false →
  ∃ m : Nat, m < n_1 ∧ J_1 m (w64 (t8_1 + 1)) h_1)) ∧
  ((decide (t8_1 < (s0_1.n : Int))) = false →
  K (VI (-1)) h_1)
theorem v124 (s0_1 : Sl) (v1_1 : Int) (h : Heap) (K : Value → Heap → Prop) (H : u124 Try.prog s0_1 v1_1 h K) : callM Try.prog 124 #[(Sl.v s0_1), (VI v1_1)] h K := by
  refine c124 (Sl.v s0_1) (VI v1_1) h K ?_
  unfold u124 at H
  unfold t124
  have hL : Vars h [] := .nil
  refine pop_len s0_1 _ _ sli25 ?_
  obtain ⟨J_1, ⟨n_2, h0_1⟩, HB_1⟩ := H
  refine loop_intro (J := fun (n : Nat) (vs : List Value) (h' : Heap) => ∃ t8_1 : Int, vs = [(VI t8_1)] ∧ J_1 n t8_1 h' ∧ Vars h' []) n_2 ⟨0, rfl, h0_1, hL⟩ ?_
  intro I_1 mu_1 hI_1 junk_1 tv_1 h_1 hi_1
  obtain ⟨n_1, ⟨t8_1, hv, hJ_1, hL_1⟩, hn_1⟩ := hI_1 _ _ hi_1
  cases hv
  have H := HB_1 n_1 t8_1 h_1 hJ_1 hL_1
  refine pop_lss .i64 t8_1 (s0_1.n : Int) ?_
  refine condM_b (fun hb_1 => ?_) (fun hb_1 => ?_)
  · have H := H.1 hb_1
    obtain ⟨hi_2, H⟩ := H
    refine pop_index sli25 siz3 .i64 s0_1 t8_1 hi_2 ?_
    obtain ⟨t15_1, hc_1, H⟩ := H
    refine rop_one one3 (VI t15_1) hc_1 ?_
    refine pop_ieq .i64 _ _ v1_1 t15_1 ?_
    refine condM_b (fun hb_2 => ?_) (fun hb_2 => ?_)
    · have H := H.1 hb_2
      exact H
    · have H := H.2 hb_2
      refine pop_add .i64 t8_1 1 ?_
      obtain ⟨m_1, hm_1, H⟩ := H
      exact hn_1 _ _ ⟨m_1, hm_1, (w64 (t8_1 + 1)), rfl, H, hL_1⟩
  · have H := H.2 hb_1
    exact H

/-! slices.IndexFunc[[]int,int] -/
def u138 (P : Program) (s0_1 : Sl) (f1_1 : Value) (h : Heap) (K : Value → Heap → Prop) : Prop :=
  ∃ J_1 : Nat → Int → Heap → Prop, (∃ n0 : Nat, J_1 n0 0 h) ∧
  ∀ (n_1 : Nat) (t8_1 : Int) (h_1 : Heap), J_1 n_1 t8_1 h_1 → Vars h_1 [] →
  ((decide (t8_1 < (s0_1.n : Int))) = true →
  InB s0_1 t8_1 ∧
  ∃ t15_1 : Int, hcell h_1 (Sl.at s0_1 t8_1 1) = some (VI t15_1) ∧
  callV P f1_1 [(VI t15_1)] h_1 fun rv_1 h_2 => ∃ t16_1 : Bool, rv_1 = (VB t16_1) ∧ Vars h_2 [] ∧
  (t16_1 = true →
  K (VI t8_1) h_2) ∧
  (t16_1 = false →
  ∃ m : Nat, m < n_1 ∧ J_1 m (w64 (t8_1 + 1)) h_2)) ∧
  ((decide (t8_1 < (s0_1.n : Int))) = false →
  K (VI (-1)) h_1)
theorem v138 (s0_1 : Sl) (f1_1 : Value) (h : Heap) (K : Value → Heap → Prop) (H : u138 Try.prog s0_1 f1_1 h K) : callM Try.prog 138 #[(Sl.v s0_1), f1_1] h K := by
  refine c138 (Sl.v s0_1) f1_1 h K ?_
  unfold u138 at H
  unfold t138
  have hL : Vars h [] := .nil
  refine pop_len s0_1 _ _ sli25 ?_
  obtain ⟨J_1, ⟨n_2, h0_1⟩, HB_1⟩ := H
  refine loop_intro (J := fun (n : Nat) (vs : List Value) (h' : Heap) => ∃ t8_1 : Int, vs = [(VI t8_1)] ∧ J_1 n t8_1 h' ∧ Vars h' []) n_2 ⟨0, rfl, h0_1, hL⟩ ?_
  intro I_1 mu_1 hI_1 junk_1 tv_1 h_1 hi_1
  obtain ⟨n_1, ⟨t8_1, hv, hJ_1, hL_1⟩, hn_1⟩ := hI_1 _ _ hi_1
  cases hv
  have H := HB_1 n_1 t8_1 h_1 hJ_1 hL_1
  refine pop_lss .i64 t8_1 (s0_1.n : Int) ?_
  refine condM_b (fun hb_1 => ?_) (fun hb_1 => ?_)
  · have H := H.1 hb_1
    obtain ⟨hi_2, H⟩ := H
    refine pop_index sli25 siz3 .i64 s0_1 t8_1 hi_2 ?_
    obtain ⟨t15_1, hc_1, H⟩ := H
    refine rop_one one3 (VI t15_1) hc_1 ?_
    refine H.mono fun rv_1 h_2 H => ?_
    obtain ⟨t16_1, rfl, hL_2, H⟩ := H
    refine condM_b (fun hb_2 => ?_) (fun hb_2 => ?_)
    · have H := H.1 hb_2
      exact H
    · have H := H.2 hb_2
      refine pop_add .i64 t8_1 1 ?_
      obtain ⟨m_1, hm_1, H⟩ := H
      exact hn_1 _ _ ⟨m_1, hm_1, (w64 (t8_1 + 1)), rfl, H, hL_2⟩
  · have H := H.2 hb_1
    exact H

/-! spec.trNext -/
def u139 (P : Program) (g0_1 : Sl) (rotors1_1 : Sl) (p2_1 : Int) (h : Heap) (K : Value → Heap → Prop) : Prop :=
  InB g0_1 p2_1 ∧
  ∀ (b_1 : Nat) (h_1 : Heap), h.size ≤ b_1 → Fr (In []) h h_1 → Vars h_1 [(b_1, [(Sl.v g0_1)])] →
  ∃ t11_1 : Sl, hcell h_1 (Sl.at g0_1 p2_1 1) = some (Sl.v t11_1) ∧
  ((decide ((t11_1.n : Int) = 0)) = true →
  K (VI (-1)) h_1) ∧
  ((decide ((t11_1.n : Int) = 0)) = false →
  InB g0_1 p2_1 ∧
  ∃ t18_1 : Sl, hcell h_1 (Sl.at g0_1 p2_1 1) = some (Sl.v t18_1) ∧
  InB rotors1_1 p2_1 ∧
  ∃ t22_1 : Int, hcell h_1 (Sl.at rotors1_1 p2_1 1) = some (VI t22_1) ∧
  InB t18_1 t22_1 ∧
  ∃ t24_1 : Int, hcell h_1 (Sl.at t18_1 t22_1 1) = some (VI t24_1) ∧
  K (VI t24_1) h_1)
theorem v139 (g0_1 : Sl) (rotors1_1 : Sl) (p2_1 : Int) (h : Heap) (K : Value → Heap → Prop) (H : u139 Try.prog g0_1 rotors1_1 p2_1 h K) : callM Try.prog 139 #[(Value.agg #[(Sl.v g0_1)]), (Sl.v rotors1_1), (VI p2_1)] h K := by
  refine c139 (Value.agg #[(Sl.v g0_1)]) (Sl.v rotors1_1) (VI p2_1) h K ?_
  unfold u139 at H
  unfold t139
  have hL : Vars h [] := .nil
  refine eop_box 32 (Value.agg #[(Sl.v g0_1)]) rfl hL (fun b_1 h_1 hb_1 hf_1 hL_1 => ?_)
  refine pop_field 0 fld32_0 b_1 0 ?_
  refine rop_loc one22 hL_1 0 rfl 0 (v := (Sl.v g0_1)) rfl ?_
  obtain ⟨hi_1, H⟩ := H
  refine pop_index sli22 siz25 .i64 g0_1 p2_1 hi_1 ?_
  have H := H b_1 h_1 (Nat.le_trans (Fr.size (Fr.r (In []) _)) hb_1) (Fr.no' (Fr.r (In []) _) hf_1) hL_1
  obtain ⟨t11_1, hc_4, H⟩ := H
  refine rop_one one25 (Sl.v t11_1) hc_4 ?_
  refine pop_len t11_1 _ _ sli25 ?_
  refine pop_ieq .i64 _ _ (t11_1.n : Int) 0 ?_
  refine condM_b (fun hb_2 => ?_) (fun hb_2 => ?_)
  · have H := H.1 hb_2
    exact H
  · have H := H.2 hb_2
    refine pop_field 0 fld32_0 b_1 0 ?_
    refine rop_loc one22 hL_1 0 rfl 0 (v := (Sl.v g0_1)) rfl ?_
    obtain ⟨hi_2, H⟩ := H
    refine pop_index sli22 siz25 .i64 g0_1 p2_1 hi_2 ?_
    obtain ⟨t18_1, hc_3, H⟩ := H
    refine rop_one one25 (Sl.v t18_1) hc_3 ?_
    obtain ⟨hi_3, H⟩ := H
    refine pop_index sli25 siz3 .i64 rotors1_1 p2_1 hi_3 ?_
    obtain ⟨t22_1, hc_2, H⟩ := H
    refine rop_one one3 (VI t22_1) hc_2 ?_
    obtain ⟨hi_4, H⟩ := H
    refine pop_index sli25 siz3 .i64 t18_1 t22_1 hi_4 ?_
    obtain ⟨t24_1, hc_1, H⟩ := H
    refine rop_one one3 (VI t24_1) hc_1 ?_
    exact H

/-! (impl.Graph).next -/
def u140 (P : Program) (g0_1 : Sl) (rotors1_1 : Sl) (p2_1 : Int) (h : Heap) (K : Value → Heap → Prop) : Prop :=
  InB g0_1 p2_1 ∧
  ∀ (b_1 : Nat) (h_1 : Heap), h.size ≤ b_1 → Fr (In []) h h_1 → Vars h_1 [(b_1, [(Sl.v g0_1)])] →
  ∃ t11_1 : Sl, hcell h_1 (Sl.at g0_1 p2_1 1) = some (Sl.v t11_1) ∧
  ((decide ((t11_1.n : Int) = 0)) = true →
  K (VI (-1)) h_1) ∧
  ((decide ((t11_1.n : Int) = 0)) = false →
  InB g0_1 p2_1 ∧
  ∃ t18_1 : Sl, hcell h_1 (Sl.at g0_1 p2_1 1) = some (Sl.v t18_1) ∧
  InB rotors1_1 p2_1 ∧
  ∃ t22_1 : Int, hcell h_1 (Sl.at rotors1_1 p2_1 1) = some (VI t22_1) ∧
  InB t18_1 t22_1 ∧
  ∃ t24_1 : Int, hcell h_1 (Sl.at t18_1 t22_1 1) = some (VI t24_1) ∧
  K (VI t24_1) h_1)
theorem v140 (g0_1 : Sl) (rotors1_1 : Sl) (p2_1 : Int) (h : Heap) (K : Value → Heap → Prop) (H : u140 Try.prog g0_1 rotors1_1 p2_1 h K) : callM Try.prog 140 #[(Value.agg #[(Sl.v g0_1)]), (Sl.v rotors1_1), (VI p2_1)] h K := by
  refine c140 (Value.agg #[(Sl.v g0_1)]) (Sl.v rotors1_1) (VI p2_1) h K ?_
  unfold u140 at H
  unfold t140
  have hL : Vars h [] := .nil
  refine eop_box 32 (Value.agg #[(Sl.v g0_1)]) rfl hL (fun b_1 h_1 hb_1 hf_1 hL_1 => ?_)
  refine pop_field 0 fld32_0 b_1 0 ?_
  refine rop_loc one22 hL_1 0 rfl 0 (v := (Sl.v g0_1)) rfl ?_
  obtain ⟨hi_1, H⟩ := H
  refine pop_index sli22 siz25 .i64 g0_1 p2_1 hi_1 ?_
  have H := H b_1 h_1 (Nat.le_trans (Fr.size (Fr.r (In []) _)) hb_1) (Fr.no' (Fr.r (In []) _) hf_1) hL_1
  obtain ⟨t11_1, hc_4, H⟩ := H
  refine rop_one one25 (Sl.v t11_1) hc_4 ?_
  refine pop_len t11_1 _ _ sli25 ?_
  refine pop_ieq .i64 _ _ (t11_1.n : Int) 0 ?_
  refine condM_b (fun hb_2 => ?_) (fun hb_2 => ?_)
  · have H := H.1 hb_2
    exact H
  · have H := H.2 hb_2
    refine pop_field 0 fld32_0 b_1 0 ?_
    refine rop_loc one22 hL_1 0 rfl 0 (v := (Sl.v g0_1)) rfl ?_
    obtain ⟨hi_2, H⟩ := H
    refine pop_index sli22 siz25 .i64 g0_1 p2_1 hi_2 ?_
    obtain ⟨t18_1, hc_3, H⟩ := H
    refine rop_one one25 (Sl.v t18_1) hc_3 ?_
    obtain ⟨hi_3, H⟩ := H
    refine pop_index sli25 siz3 .i64 rotors1_1 p2_1 hi_3 ?_
    obtain ⟨t22_1, hc_2, H⟩ := H
    refine rop_one one3 (VI t22_1) hc_2 ?_
    obtain ⟨hi_4, H⟩ := H
    refine pop_index sli25 siz3 .i64 t18_1 t22_1 hi_4 ?_
    obtain ⟨t24_1, hc_1, H⟩ := H
    refine rop_one one3 (VI t24_1) hc_1 ?_
    exact H

/-! impl.isGraph$1 -/
def u141 (P : Program) (q0_1 : Int) (b_1 : Nat) (t1_1 : Int) (h : Heap) (K : Value → Heap → Prop) : Prop :=
  callM P 110 #[(VI q0_1), (VI 0), (VI (w64 (t1_1 - 1)))] h fun rv_1 h_1 => ∃ t7_1 : Bool, rv_1 = (VB t7_1) ∧ Vars h_1 [(b_1, [(VI t1_1)])] ∧
  K (VB (!t7_1)) h_1
theorem v141 (q0_1 : Int) (b_1 : Nat) (t1_1 : Int) (h : Heap) (K : Value → Heap → Prop) (hL : Vars h [(b_1, [(VI t1_1)])]) (H : u141 Try.prog q0_1 b_1 t1_1 h K) : callM Try.prog 141 #[(VI q0_1), (VP b_1 0)] h K := by
  refine c141 (VI q0_1) (VP b_1 0) h K ?_
  unfold u141 at H
  unfold t141
  refine rop_loc one3 hL 0 rfl 0 (v := (VI t1_1)) rfl ?_
  refine pop_sub .i64 t1_1 1 ?_
  refine H.mono fun rv_1 h_1 H => ?_
  obtain ⟨t7_1, rfl, hL_1, H⟩ := H
  refine pop_not t7_1 ?_
  exact H

end Go.Proofs.Ytjinpagnbflmiaa
