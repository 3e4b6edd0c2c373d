/-
  The same over typed data. Written by a program.
-/
import Derived.Test.YtjinpagnbflmiaaAreEnoughT
import Derived.Test.YtjinpagnbflmiaaM2
set_option linter.unusedVariables false
set_option linter.unusedSimpArgs false
namespace Go.Proofs.Ytjinpagnbflmiaa
open Go Go.Mx
theorem agg24 : aggC Try.prog 24 = some 1 := by kernel_rfl
theorem agg32 : aggC Try.prog 32 = some 1 := by kernel_rfl
theorem agg59 : aggC Try.prog 59 = some 2 := by kernel_rfl
theorem agg63 : aggC Try.prog 63 = some 2 := by kernel_rfl
theorem boo4 : Try.prog.underlying 4 = some .bool := by kernel_rfl
theorem fld24_0 : fieldC Try.prog 24 0 = some 0 := by kernel_rfl
theorem fld32_0 : fieldC Try.prog 32 0 = some 0 := by kernel_rfl
theorem fld34_0 : fieldC Try.prog 34 0 = some 0 := by kernel_rfl
theorem fld34_1 : fieldC Try.prog 34 1 = some 1 := by kernel_rfl
theorem fld59_0 : fieldC Try.prog 59 0 = some 0 := by kernel_rfl
theorem fld59_1 : fieldC Try.prog 59 1 = some 1 := by kernel_rfl
theorem fld63_0 : fieldC Try.prog 63 0 = some 0 := by kernel_rfl
theorem fld63_1 : fieldC Try.prog 63 1 = some 1 := by kernel_rfl
theorem one22 : oneC Try.prog 22 = true := by kernel_rfl
theorem one25 : oneC Try.prog 25 = true := by kernel_rfl
theorem one3 : oneC Try.prog 3 = true := by kernel_rfl
theorem siz22 : sizeC Try.prog 22 = some 1 := by kernel_rfl
theorem siz25 : sizeC Try.prog 25 = some 1 := by kernel_rfl
theorem siz3 : sizeC Try.prog 3 = some 1 := by kernel_rfl
theorem siz32 : sizeC Try.prog 32 = some 1 := by kernel_rfl
theorem siz34 : sizeC Try.prog 34 = some 2 := by kernel_rfl
theorem siz63 : sizeC Try.prog 63 = some 2 := by kernel_rfl
theorem sli22 : Try.prog.underlying 22 = some (.slice 25) := by kernel_rfl
theorem sli25 : Try.prog.underlying 25 = some (.slice 3) := by kernel_rfl
theorem zer3 : zeroC Try.prog 3 = some (VI 0) := by kernel_rfl
theorem zer32 : zeroC Try.prog 32 = some (Value.agg #[(Sl.v nilSl)]) := by kernel_rfl
theorem zer34 : zeroC Try.prog 34 = some (Value.agg #[(Sl.v nilSl), (VI 0)]) := by kernel_rfl
theorem zer63 : zeroC Try.prog 63 = some (Value.agg #[(Sl.v nilSl), (Sl.v nilSl)]) := by kernel_rfl
/-! laws.FnExactAreEnough -/
def u7 (P : Program) (aG0_1 : Sl) (aSink1_1 : Int) (aL2_1 : Sl) (aL2_2 : Sl) (aCounts3_1 : Sl) (h : Heap) (K : Value → Heap → Prop) : Prop :=
  ((decide (1048576 < (aCounts3_1.n : Int))) = true →
  ∀ (b_1 : Nat) (b_2 : Nat) (h_2 : Heap), h.size ≤ b_1 → h.size ≤ b_2 → Fr (In []) h h_2 → Vars h_2 [(b_2, [(Sl.v aL2_1), (Sl.v aL2_2)]), (b_1, [(Sl.v aG0_1)])] →
  K (VB true) h_2) ∧
  ((decide (1048576 < (aCounts3_1.n : Int))) = false →
  ∀ (b_1 : Nat) (b_2 : Nat) (h_2 : Heap), h.size ≤ b_1 → h.size ≤ b_2 → Fr (In []) h h_2 → Vars h_2 [(b_2, [(Sl.v aL2_1), (Sl.v aL2_2)]), (b_1, [(Sl.v aG0_1)])] →
  callM P 15 #[(Value.agg #[(Sl.v aG0_1)]), (VI 1048576)] h_2 fun rv_1 h_3 => ∃ t22_1 : Int, rv_1 = (VI t22_1) ∧ Vars h_3 [(b_2, [(Sl.v aL2_1), (Sl.v aL2_2)]), (b_1, [(Sl.v aG0_1)])] ∧
  ((decide (t22_1 < 0)) = true →
  K (VB true) h_3) ∧
  ((decide (t22_1 < 0)) = false →
  callM P 39 #[(Value.agg #[(Sl.v aL2_1), (Sl.v aL2_2)]), (VI t22_1)] h_3 fun rv_2 h_4 => ∃ t27_1 : Int, rv_2 = (VI t27_1) ∧ Vars h_4 [(b_2, [(Sl.v aL2_1), (Sl.v aL2_2)]), (b_1, [(Sl.v aG0_1)])] ∧
  ((decide (t27_1 < 0)) = true →
  K (VB true) h_4) ∧
  ((decide (t27_1 < 0)) = false →
  callM P 18 #[(Value.agg #[(Sl.v aG0_1)])] h_4 fun rv_3 h_5 => ∃ t32_1 : Sl, rv_3 = (Value.agg #[(Sl.v t32_1)]) ∧ Vars h_5 [(b_2, [(Sl.v aL2_1), (Sl.v aL2_2)]), (b_1, [(Sl.v aG0_1)])] ∧
  callM P 41 #[(Value.agg #[(Sl.v aL2_1), (Sl.v aL2_2)])] h_5 fun rv_4 h_6 => ∃ t35_1 : Sl, ∃ t35_2 : Sl, rv_4 = (Value.agg #[(Sl.v t35_1), (Sl.v t35_2)]) ∧ Vars h_6 [(b_2, [(Sl.v aL2_1), (Sl.v aL2_2)]), (b_1, [(Sl.v aG0_1)])] ∧
  callM P 42 #[(Sl.v aCounts3_1)] h_6 fun rv_5 h_7 => ∃ t37_1 : Sl, rv_5 = (Sl.v t37_1) ∧ Vars h_7 [(b_2, [(Sl.v aL2_1), (Sl.v aL2_2)]), (b_1, [(Sl.v aG0_1)])] ∧
  callM P 40 #[(Value.agg #[(Sl.v t32_1)]), (VI aSink1_1), (Value.agg #[(Sl.v t35_1), (Sl.v t35_2)]), (Sl.v t37_1)] h_7 fun rv_6 h_8 => ∃ t38_1 : Bool, ∃ t38_2 : Bool, rv_6 = (Value.tuple #[(VB t38_1), (VB t38_2)]) ∧ Vars h_8 [(b_2, [(Sl.v aL2_1), (Sl.v aL2_2)]), (b_1, [(Sl.v aG0_1)])] ∧
  callM P 18 #[(Value.agg #[(Sl.v aG0_1)])] h_8 fun rv_7 h_9 => ∃ t42_1 : Sl, rv_7 = (Value.agg #[(Sl.v t42_1)]) ∧ Vars h_9 [(b_2, [(Sl.v aL2_1), (Sl.v aL2_2)]), (b_1, [(Sl.v aG0_1)])] ∧
  ∀ (b_3 : Nat) (h_11 : Heap), h_9.size ≤ b_3 → Fr (In []) h_9 h_11 → Vars h_11 [(b_3, [(Sl.v t42_1)]), (b_2, [(Sl.v aL2_1), (Sl.v aL2_2)]), (b_1, [(Sl.v aG0_1)])] →
  callM P 41 #[(Value.agg #[(Sl.v aL2_1), (Sl.v aL2_2)])] h_11 fun rv_8 h_12 => ∃ t44_1 : Sl, ∃ t44_2 : Sl, rv_8 = (Value.agg #[(Sl.v t44_1), (Sl.v t44_2)]) ∧ Vars h_12 [(b_3, [(Sl.v t42_1)]), (b_2, [(Sl.v aL2_1), (Sl.v aL2_2)]), (b_1, [(Sl.v aG0_1)])] ∧
  ∀ (b_4 : Nat) (h_14 : Heap), h_12.size ≤ b_4 → Fr (In []) h_12 h_14 → Vars h_14 [(b_4, [(Sl.v t44_1), (Sl.v t44_2)]), (b_3, [(Sl.v t42_1)]), (b_2, [(Sl.v aL2_1), (Sl.v aL2_2)]), (b_1, [(Sl.v aG0_1)])] →
  callM P 42 #[(Sl.v aCounts3_1)] h_14 fun rv_9 h_15 => ∃ t46_1 : Sl, rv_9 = (Sl.v t46_1) ∧ Vars h_15 [(b_4, [(Sl.v t44_1), (Sl.v t44_2)]), (b_3, [(Sl.v t42_1)]), (b_2, [(Sl.v aL2_1), (Sl.v aL2_2)]), (b_1, [(Sl.v aG0_1)])] ∧
  callM P 43 #[(Value.agg #[(Sl.v t42_1)]), (VI aSink1_1), (Value.agg #[(Sl.v t44_1), (Sl.v t44_2)]), (Sl.v t46_1)] h_15 fun rv_10 h_16 => ∃ t52_1 : Bool, ∃ t52_2 : Bool, rv_10 = (Value.tuple #[(VB t52_1), (VB t52_2)]) ∧ Vars h_16 [(b_4, [(Sl.v t44_1), (Sl.v t44_2)]), (b_3, [(Sl.v t42_1)]), (b_2, [(Sl.v aL2_1), (Sl.v aL2_2)]), (b_1, [(Sl.v aG0_1)])] ∧
  ((!(t52_1 == t38_1)) = true →
  K (VB false) h_16) ∧
  ((!(t52_1 == t38_1)) = false →
  ((!(t52_2 == t38_2)) = true →
  K (VB false) h_16) ∧
  ((!(t52_2 == t38_2)) = false →
  callM P 18 #[(Value.agg #[(Sl.v aG0_1)])] h_16 fun rv_11 h_17 => ∃ t65_1 : Sl, rv_11 = (Value.agg #[(Sl.v t65_1)]) ∧ Vars h_17 [(b_4, [(Sl.v t44_1), (Sl.v t44_2)]), (b_3, [(Sl.v t42_1)]), (b_2, [(Sl.v aL2_1), (Sl.v aL2_2)]), (b_1, [(Sl.v aG0_1)])] ∧
  callM P 22 #[(Value.agg #[(Sl.v t42_1)]), (Value.agg #[(Sl.v t65_1)])] h_17 fun rv_12 h_18 => ∃ t66_1 : Bool, rv_12 = (VB t66_1) ∧ Vars h_18 [(b_4, [(Sl.v t44_1), (Sl.v t44_2)]), (b_3, [(Sl.v t42_1)]), (b_2, [(Sl.v aL2_1), (Sl.v aL2_2)]), (b_1, [(Sl.v aG0_1)])] ∧
  ((!t66_1) = true →
  K (VB false) h_18) ∧
  ((!t66_1) = false →
  callM P 41 #[(Value.agg #[(Sl.v aL2_1), (Sl.v aL2_2)])] h_18 fun rv_13 h_19 => ∃ t70_1 : Sl, ∃ t70_2 : Sl, rv_13 = (Value.agg #[(Sl.v t70_1), (Sl.v t70_2)]) ∧ Vars h_19 [(b_4, [(Sl.v t44_1), (Sl.v t44_2)]), (b_3, [(Sl.v t42_1)]), (b_2, [(Sl.v aL2_1), (Sl.v aL2_2)]), (b_1, [(Sl.v aG0_1)])] ∧
  callM P 44 #[(Value.agg #[(Sl.v t44_1), (Sl.v t44_2)]), (Value.agg #[(Sl.v t70_1), (Sl.v t70_2)])] h_19 fun rv_14 h_20 => ∃ t71_1 : Bool, rv_14 = (VB t71_1) ∧ Vars h_20 [(b_4, [(Sl.v t44_1), (Sl.v t44_2)]), (b_3, [(Sl.v t42_1)]), (b_2, [(Sl.v aL2_1), (Sl.v aL2_2)]), (b_1, [(Sl.v aG0_1)])] ∧
  ((!t71_1) = true →
  K (VB false) h_20) ∧
  ((!t71_1) = false →
  callM P 42 #[(Sl.v aCounts3_1)] h_20 fun rv_15 h_21 => ∃ t75_1 : Sl, rv_15 = (Sl.v t75_1) ∧ Vars h_21 [(b_4, [(Sl.v t44_1), (Sl.v t44_2)]), (b_3, [(Sl.v t42_1)]), (b_2, [(Sl.v aL2_1), (Sl.v aL2_2)]), (b_1, [(Sl.v aG0_1)])] ∧
  callM P 45 #[(Sl.v t46_1), (Sl.v t75_1)] h_21 fun rv_16 h_22 => ∃ t76_1 : Bool, rv_16 = (VB t76_1) ∧ Vars h_22 [(b_4, [(Sl.v t44_1), (Sl.v t44_2)]), (b_3, [(Sl.v t42_1)]), (b_2, [(Sl.v aL2_1), (Sl.v aL2_2)]), (b_1, [(Sl.v aG0_1)])] ∧
  ((!t76_1) = true →
  K (VB false) h_22) ∧
  ((!t76_1) = false →
  K (VB true) h_22))))))))
theorem v7 (aG0_1 : Sl) (aSink1_1 : Int) (aL2_1 : Sl) (aL2_2 : Sl) (aCounts3_1 : Sl) (h : Heap) (K : Value → Heap → Prop) (H : u7 Try.prog aG0_1 aSink1_1 aL2_1 aL2_2 aCounts3_1 h K) : callM Try.prog 7 #[(Value.agg #[(Sl.v aG0_1)]), (VI aSink1_1), (Value.agg #[(Sl.v aL2_1), (Sl.v aL2_2)]), (Sl.v aCounts3_1)] h K := by
  refine c7 (Value.agg #[(Sl.v aG0_1)]) (VI aSink1_1) (Value.agg #[(Sl.v aL2_1), (Sl.v aL2_2)]) (Sl.v aCounts3_1) h K ?_
  unfold u7 at H
  unfold t7
  have hL : Vars h [] := .nil
  refine eop_box 24 (Value.agg #[(Sl.v aG0_1)]) rfl hL (fun b_1 h_1 hb_1 hf_1 hL_1 => ?_)
  refine eop_box 59 (Value.agg #[(Sl.v aL2_1), (Sl.v aL2_2)]) rfl hL_1 (fun b_2 h_2 hb_2 hf_2 hL_2 => ?_)
  refine pop_len aCounts3_1 _ _ sli25 ?_
  refine pop_gtr .i64 (aCounts3_1.n : Int) 1048576 ?_
  refine condM_b (fun hb_3 => ?_) (fun hb_3 => ?_)
  · have H := H.1 hb_3
    have H := H b_1 b_2 h_2 (Nat.le_trans (Fr.size (Fr.r (In []) _)) hb_1) (Nat.le_trans (Fr.size (Fr.no' (Fr.r (In []) _) hf_1)) hb_2) (Fr.no' (Fr.no' (Fr.r (In []) _) hf_1) hf_2) hL_2
    exact H
  · have H := H.2 hb_3
    refine rop_locA agg24 hL_2 1 rfl 0 (vs := [(Sl.v aG0_1)]) rfl rfl ?_
    have H := H b_1 b_2 h_2 (Nat.le_trans (Fr.size (Fr.r (In []) _)) hb_1) (Nat.le_trans (Fr.size (Fr.no' (Fr.r (In []) _) hf_1)) hb_2) (Fr.no' (Fr.no' (Fr.r (In []) _) hf_1) hf_2) hL_2
    refine H.mono fun rv_1 h_3 H => ?_
    obtain ⟨t22_1, rfl, hL_3, H⟩ := H
    refine pop_lss .i64 t22_1 0 ?_
    refine condM_b (fun hb_4 => ?_) (fun hb_4 => ?_)
    · have H := H.1 hb_4
      exact H
    · have H := H.2 hb_4
      refine rop_locA agg59 hL_3 0 rfl 0 (vs := [(Sl.v aL2_1), (Sl.v aL2_2)]) rfl rfl ?_
      refine H.mono fun rv_2 h_4 H => ?_
      obtain ⟨t27_1, rfl, hL_4, H⟩ := H
      refine pop_lss .i64 t27_1 0 ?_
      refine condM_b (fun hb_5 => ?_) (fun hb_5 => ?_)
      · have H := H.1 hb_5
        exact H
      · have H := H.2 hb_5
        refine rop_locA agg24 hL_4 1 rfl 0 (vs := [(Sl.v aG0_1)]) rfl rfl ?_
        refine rop_locA agg59 hL_4 0 rfl 0 (vs := [(Sl.v aL2_1), (Sl.v aL2_2)]) rfl rfl ?_
        refine H.mono fun rv_3 h_5 H => ?_
        obtain ⟨t32_1, rfl, hL_5, H⟩ := H
        refine ⟨?_, ?_⟩
        · exact still_locA agg59 hL_5 0 rfl 0 (vs := [(Sl.v aL2_1), (Sl.v aL2_2)]) rfl rfl
        refine H.mono fun rv_4 h_6 H => ?_
        obtain ⟨t35_1, t35_2, rfl, hL_6, H⟩ := H
        refine H.mono fun rv_5 h_7 H => ?_
        obtain ⟨t37_1, rfl, hL_7, H⟩ := H
        refine H.mono fun rv_6 h_8 H => ?_
        obtain ⟨t38_1, t38_2, rfl, hL_8, H⟩ := H
        refine pop_ext (v := (VB t38_1)) rfl ?_
        refine pop_ext (v := (VB t38_2)) rfl ?_
        refine rop_locA agg24 hL_8 1 rfl 0 (vs := [(Sl.v aG0_1)]) rfl rfl ?_
        refine H.mono fun rv_7 h_9 H => ?_
        obtain ⟨t42_1, rfl, hL_9, H⟩ := H
        refine eop_alloc 32 zer32 rfl hL_9 (fun b_3 h_10 hb_6 hf_3 hL_10 => ?_)
        refine uop_loc siz32 hL_10 0 rfl 0 [(Sl.v t42_1)] rfl rfl rfl (Nat.le_of_ble_eq_true rfl) (L' := [(b_3, [(Sl.v t42_1)]), (b_2, [(Sl.v aL2_1), (Sl.v aL2_2)]), (b_1, [(Sl.v aG0_1)])]) rfl (fun h_11 hf_4 hL_11 => ?_)
        refine rop_locA agg59 hL_11 1 rfl 0 (vs := [(Sl.v aL2_1), (Sl.v aL2_2)]) rfl rfl ?_
        have H := H b_3 h_11 (Nat.le_trans (Fr.size (Fr.r (In []) _)) hb_6) (Fr.new (Fr.no' (Fr.r (In []) _) hf_3) (Nat.le_trans (Fr.size (Fr.r (In []) _)) hb_6) hf_4) hL_11
        refine H.mono fun rv_8 h_12 H => ?_
        obtain ⟨t44_1, t44_2, rfl, hL_12, H⟩ := H
        refine eop_alloc 63 zer63 rfl hL_12 (fun b_4 h_13 hb_7 hf_5 hL_13 => ?_)
        refine uop_loc siz63 hL_13 0 rfl 0 [(Sl.v t44_1), (Sl.v t44_2)] rfl rfl rfl (Nat.le_of_ble_eq_true rfl) (L' := [(b_4, [(Sl.v t44_1), (Sl.v t44_2)]), (b_3, [(Sl.v t42_1)]), (b_2, [(Sl.v aL2_1), (Sl.v aL2_2)]), (b_1, [(Sl.v aG0_1)])]) rfl (fun h_14 hf_6 hL_14 => ?_)
        have H := H b_4 h_14 (Nat.le_trans (Fr.size (Fr.r (In []) _)) hb_7) (Fr.new (Fr.no' (Fr.r (In []) _) hf_5) (Nat.le_trans (Fr.size (Fr.r (In []) _)) hb_7) hf_6) hL_14
        refine H.mono fun rv_9 h_15 H => ?_
        obtain ⟨t46_1, rfl, hL_15, H⟩ := H
        refine rop_locA agg32 hL_15 1 rfl 0 (vs := [(Sl.v t42_1)]) rfl rfl ?_
        refine rop_locA agg63 hL_15 0 rfl 0 (vs := [(Sl.v t44_1), (Sl.v t44_2)]) rfl rfl ?_
        refine H.mono fun rv_10 h_16 H => ?_
        obtain ⟨t52_1, t52_2, rfl, hL_16, H⟩ := H
        refine pop_ext (v := (VB t52_1)) rfl ?_
        refine pop_ext (v := (VB t52_2)) rfl ?_
        refine pop_bne boo4 _ _ t52_1 t38_1 ?_
        refine guardM_sf (fun hb_8 => ?_) (fun hb_8 => ?_)
        · have H := H.2 hb_8
          refine guardM_y' hb_8 ?_
          refine guardM_y' hb_8 ?_
          refine pop_bne boo4 _ _ t52_2 t38_2 ?_
          refine pop_pickf' hb_8 ?_
          refine condM_b (fun hb_9 => ?_) (fun hb_9 => ?_)
          · have H := H.1 hb_9
            exact H
          · have H := H.2 hb_9
            refine rop_locA agg32 hL_16 1 rfl 0 (vs := [(Sl.v t42_1)]) rfl rfl ?_
            refine rop_locA agg24 hL_16 3 rfl 0 (vs := [(Sl.v aG0_1)]) rfl rfl ?_
            refine H.mono fun rv_11 h_17 H => ?_
            obtain ⟨t65_1, rfl, hL_17, H⟩ := H
            refine ⟨?_, ?_⟩
            · exact still_locA agg32 hL_17 1 rfl 0 (vs := [(Sl.v t42_1)]) rfl rfl
            refine H.mono fun rv_12 h_18 H => ?_
            obtain ⟨t66_1, rfl, hL_18, H⟩ := H
            refine pop_not t66_1 ?_
            refine condM_b (fun hb_10 => ?_) (fun hb_10 => ?_)
            · have H := H.1 hb_10
              exact H
            · have H := H.2 hb_10
              refine rop_locA agg63 hL_18 0 rfl 0 (vs := [(Sl.v t44_1), (Sl.v t44_2)]) rfl rfl ?_
              refine rop_locA agg59 hL_18 2 rfl 0 (vs := [(Sl.v aL2_1), (Sl.v aL2_2)]) rfl rfl ?_
              refine H.mono fun rv_13 h_19 H => ?_
              obtain ⟨t70_1, t70_2, rfl, hL_19, H⟩ := H
              refine ⟨?_, ?_⟩
              · exact still_locA agg63 hL_19 0 rfl 0 (vs := [(Sl.v t44_1), (Sl.v t44_2)]) rfl rfl
              refine H.mono fun rv_14 h_20 H => ?_
              obtain ⟨t71_1, rfl, hL_20, H⟩ := H
              refine pop_not t71_1 ?_
              refine condM_b (fun hb_11 => ?_) (fun hb_11 => ?_)
              · have H := H.1 hb_11
                exact H
              · have H := H.2 hb_11
                refine H.mono fun rv_15 h_21 H => ?_
                obtain ⟨t75_1, rfl, hL_21, H⟩ := H
                refine H.mono fun rv_16 h_22 H => ?_
                obtain ⟨t76_1, rfl, hL_22, H⟩ := H
                refine pop_not t76_1 ?_
                refine condM_b (fun hb_12 => ?_) (fun hb_12 => ?_)
                · have H := H.1 hb_12
                  exact H
                · have H := H.2 hb_12
                  exact H
        · have H := H.1 hb_8
          refine guardM_n' hb_8 (by decide) ?_
          refine guardM_n' hb_8 (by decide) ?_
          refine pop_pickt' hb_8 ?_
          refine condM_t ?_
          exact H

/-! laws.szGraph -/
def u15 (P : Program) (a0_1 : Sl) (left1_1 : Int) (h : Heap) (K : Value → Heap → Prop) : Prop :=
  ∀ (b_1 : Nat) (h_1 : Heap), h.size ≤ b_1 → Fr (In []) h h_1 → Vars h_1 [(b_1, [(Sl.v a0_1)])] →
  callM P 64 #[(Sl.v a0_1), (VI left1_1)] h_1 fun rv_1 h_2 => ∃ t8_1 : Int, rv_1 = (VI t8_1) ∧ Vars h_2 [(b_1, [(Sl.v a0_1)])] ∧
  ((decide (t8_1 < 0)) = true →
  K (VI (-1)) h_2) ∧
  ((decide (t8_1 < 0)) = false →
  K (VI t8_1) h_2)
theorem v15 (a0_1 : Sl) (left1_1 : Int) (h : Heap) (K : Value → Heap → Prop) (H : u15 Try.prog a0_1 left1_1 h K) : callM Try.prog 15 #[(Value.agg #[(Sl.v a0_1)]), (VI left1_1)] h K := by
  refine c15 (Value.agg #[(Sl.v a0_1)]) (VI left1_1) h K ?_
  unfold u15 at H
  unfold t15
  have hL : Vars h [] := .nil
  refine eop_box 24 (Value.agg #[(Sl.v a0_1)]) rfl hL (fun b_1 h_1 hb_1 hf_1 hL_1 => ?_)
  refine pop_field 0 fld24_0 b_1 0 ?_
  refine rop_loc one22 hL_1 0 rfl 0 (v := (Sl.v a0_1)) rfl ?_
  have H := H b_1 h_1 (Nat.le_trans (Fr.size (Fr.r (In []) _)) hb_1) (Fr.no' (Fr.r (In []) _) hf_1) hL_1
  refine H.mono fun rv_1 h_2 H => ?_
  obtain ⟨t8_1, rfl, hL_2, H⟩ := H
  refine pop_lss .i64 t8_1 0 ?_
  refine condM_b (fun hb_2 => ?_) (fun hb_2 => ?_)
  · have H := H.1 hb_2
    exact H
  · have H := H.2 hb_2
    exact H

/-! laws.toGraph -/
def u18 (P : Program) (a0_1 : Sl) (h : Heap) (K : Value → Heap → Prop) : Prop :=
  ∀ (b_1 : Nat) (b_2 : Nat) (b_3 : Nat) (h_3 : Heap), h.size ≤ b_1 → h.size ≤ b_2 → h.size ≤ b_3 → Fr (In []) h h_3 → Vars h_3 [(b_3, [(Sl.v nilSl)]), (b_2, [(Sl.v nilSl)]), (b_1, [(Sl.v a0_1)])] →
  callM P 68 #[(Sl.v a0_1)] h_3 fun rv_1 h_4 => ∃ t6_1 : Sl, rv_1 = (Sl.v t6_1) ∧ Vars h_4 [(b_3, [(Sl.v nilSl)]), (b_2, [(Sl.v nilSl)]), (b_1, [(Sl.v a0_1)])] ∧
  ∀ (h_6 : Heap), Fr (In [b_2, b_3]) h_4 h_6 → Vars h_6 [(b_3, [(Sl.v t6_1)]), (b_2, [(Sl.v t6_1)]), (b_1, [(Sl.v a0_1)])] →
  K (Value.agg #[(Sl.v t6_1)]) h_6
theorem v18 (a0_1 : Sl) (h : Heap) (K : Value → Heap → Prop) (H : u18 Try.prog a0_1 h K) : callM Try.prog 18 #[(Value.agg #[(Sl.v a0_1)])] h K := by
  refine c18 (Value.agg #[(Sl.v a0_1)]) h K ?_
  unfold u18 at H
  unfold t18
  have hL : Vars h [] := .nil
  refine eop_box 24 (Value.agg #[(Sl.v a0_1)]) rfl hL (fun b_1 h_1 hb_1 hf_1 hL_1 => ?_)
  refine eop_alloc 32 zer32 rfl hL_1 (fun b_2 h_2 hb_2 hf_2 hL_2 => ?_)
  refine eop_alloc 32 zer32 rfl hL_2 (fun b_3 h_3 hb_3 hf_3 hL_3 => ?_)
  refine pop_field 0 fld24_0 b_1 0 ?_
  refine rop_loc one22 hL_3 2 rfl 0 (v := (Sl.v a0_1)) rfl ?_
  have H := H b_1 b_2 b_3 h_3 (Nat.le_trans (Fr.size (Fr.r (In []) _)) hb_1) (Nat.le_trans (Fr.size (Fr.no' (Fr.r (In []) _) hf_1)) hb_2) (Nat.le_trans (Fr.size (Fr.no' (Fr.no' (Fr.r (In []) _) hf_1) hf_2)) hb_3) (Fr.no' (Fr.no' (Fr.no' (Fr.r (In []) _) hf_1) hf_2) hf_3) hL_3
  refine H.mono fun rv_1 h_4 H => ?_
  obtain ⟨t6_1, rfl, hL_4, H⟩ := H
  refine pop_field 0 fld32_0 b_3 0 ?_
  refine uop_loc siz22 hL_4 0 rfl 0 [(Sl.v t6_1)] rfl rfl rfl (Nat.le_of_ble_eq_true rfl) (L' := [(b_3, [(Sl.v t6_1)]), (b_2, [(Sl.v nilSl)]), (b_1, [(Sl.v a0_1)])]) rfl (fun h_5 hf_4 hL_5 => ?_)
  refine rop_locA agg32 hL_5 0 rfl 0 (vs := [(Sl.v t6_1)]) rfl rfl ?_
  refine uop_loc siz32 hL_5 1 rfl 0 [(Sl.v t6_1)] rfl rfl rfl (Nat.le_of_ble_eq_true rfl) (L' := [(b_3, [(Sl.v t6_1)]), (b_2, [(Sl.v t6_1)]), (b_1, [(Sl.v a0_1)])]) rfl (fun h_6 hf_5 hL_6 => ?_)
  refine rop_locA agg32 hL_6 1 rfl 0 (vs := [(Sl.v t6_1)]) rfl rfl ?_
  have H := H  h_6  (Fr.old (Fr.old (Fr.r (In []) _) hf_4) hf_5) hL_6
  exact H

/-! laws.eqIntSS -/
def u21 (P : Program) (a0_1 : Sl) (b1_1 : Sl) (h : Heap) (K : Value → Heap → Prop) : Prop :=
  ((!decide ((a0_1.n : Int) = (b1_1.n : Int))) = true →
  K (VB false) h) ∧
  ((!decide ((a0_1.n : Int) = (b1_1.n : Int))) = false →
  ∃ J_1 : Nat → Int → Heap → Prop, (∃ n0 : Nat, J_1 n0 0 h) ∧
  ∀ (n_1 : Nat) (i5_1 : Int) (h_1 : Heap), J_1 n_1 i5_1 h_1 → Vars h_1 [] →
  ((decide (i5_1 < (a0_1.n : Int))) = true →
  InB a0_1 i5_1 ∧
  ∃ t20_1 : Sl, hcell h_1 (Sl.at a0_1 i5_1 1) = some (Sl.v t20_1) ∧
  InB b1_1 i5_1 ∧
  ∃ t24_1 : Sl, hcell h_1 (Sl.at b1_1 i5_1 1) = some (Sl.v t24_1) ∧
  callM P 45 #[(Sl.v t20_1), (Sl.v t24_1)] h_1 fun rv_1 h_2 => ∃ t25_1 : Bool, rv_1 = (VB t25_1) ∧ Vars h_2 [] ∧
  ((!t25_1) = true →
  K (VB false) h_2) ∧
  ((!t25_1) = false →
  ∃ m : Nat, m < n_1 ∧ J_1 m (w64 (i5_1 + 1)) h_2)) ∧
  ((decide (i5_1 < (a0_1.n : Int))) = false →
  K (VB true) h_1))
theorem v21 (a0_1 : Sl) (b1_1 : Sl) (h : Heap) (K : Value → Heap → Prop) (H : u21 Try.prog a0_1 b1_1 h K) : callM Try.prog 21 #[(Sl.v a0_1), (Sl.v b1_1)] h K := by
  refine c21 (Sl.v a0_1) (Sl.v b1_1) h K ?_
  unfold u21 at H
  unfold t21
  have hL : Vars h [] := .nil
  refine pop_len a0_1 _ _ sli22 ?_
  refine pop_len b1_1 _ _ sli22 ?_
  refine pop_ine .i64 _ _ (a0_1.n : Int) (b1_1.n : Int) ?_
  refine condM_b (fun hb_1 => ?_) (fun hb_1 => ?_)
  · have H := H.1 hb_1
    exact H
  · have H := H.2 hb_1
    obtain ⟨J_1, ⟨n_2, h0_1⟩, HB_1⟩ := H
    refine loop_intro (J := fun (n : Nat) (vs : List Value) (h' : Heap) => ∃ i5_1 : Int, vs = [(VI i5_1)] ∧ J_1 n i5_1 h' ∧ Vars h' []) n_2 ⟨0, rfl, h0_1, hL⟩ ?_
    intro I_1 mu_1 hI_1 junk_1 tv_1 h_1 hi_1
    obtain ⟨n_1, ⟨i5_1, hv, hJ_1, hL_1⟩, hn_1⟩ := hI_1 _ _ hi_1
    cases hv
    have H := HB_1 n_1 i5_1 h_1 hJ_1 hL_1
    refine pop_len a0_1 _ _ sli22 ?_
    refine pop_lss .i64 i5_1 (a0_1.n : Int) ?_
    refine condM_b (fun hb_2 => ?_) (fun hb_2 => ?_)
    · have H := H.1 hb_2
      obtain ⟨hi_2, H⟩ := H
      refine pop_index sli22 siz25 .i64 a0_1 i5_1 hi_2 ?_
      obtain ⟨t20_1, hc_2, H⟩ := H
      refine rop_one one25 (Sl.v t20_1) hc_2 ?_
      obtain ⟨hi_3, H⟩ := H
      refine pop_index sli22 siz25 .i64 b1_1 i5_1 hi_3 ?_
      obtain ⟨t24_1, hc_1, H⟩ := H
      refine rop_one one25 (Sl.v t24_1) hc_1 ?_
      refine H.mono fun rv_1 h_2 H => ?_
      obtain ⟨t25_1, rfl, hL_2, H⟩ := H
      refine pop_not t25_1 ?_
      refine condM_b (fun hb_3 => ?_) (fun hb_3 => ?_)
      · have H := H.1 hb_3
        exact H
      · have H := H.2 hb_3
        refine pop_add .i64 i5_1 1 ?_
        obtain ⟨m_1, hm_1, H⟩ := H
        exact hn_1 _ _ ⟨m_1, hm_1, (w64 (i5_1 + 1)), rfl, H, hL_2⟩
    · have H := H.2 hb_2
      exact H

/-! laws.eqGraph -/
def u22 (P : Program) (a0_1 : Sl) (b1_1 : Sl) (h : Heap) (K : Value → Heap → Prop) : Prop :=
  ∀ (b_1 : Nat) (b_2 : Nat) (h_2 : Heap), h.size ≤ b_1 → h.size ≤ b_2 → Fr (In []) h h_2 → Vars h_2 [(b_2, [(Sl.v b1_1)]), (b_1, [(Sl.v a0_1)])] →
  callM P 21 #[(Sl.v a0_1), (Sl.v b1_1)] h_2 fun rv_1 h_3 => ∃ t9_1 : Bool, rv_1 = (VB t9_1) ∧ Vars h_3 [(b_2, [(Sl.v b1_1)]), (b_1, [(Sl.v a0_1)])] ∧
  ((!t9_1) = true →
  K (VB false) h_3) ∧
  ((!t9_1) = false →
  K (VB true) h_3)
theorem v22 (a0_1 : Sl) (b1_1 : Sl) (h : Heap) (K : Value → Heap → Prop) (H : u22 Try.prog a0_1 b1_1 h K) : callM Try.prog 22 #[(Value.agg #[(Sl.v a0_1)]), (Value.agg #[(Sl.v b1_1)])] h K := by
  refine c22 (Value.agg #[(Sl.v a0_1)]) (Value.agg #[(Sl.v b1_1)]) h K ?_
  unfold u22 at H
  unfold t22
  have hL : Vars h [] := .nil
  refine eop_box 32 (Value.agg #[(Sl.v a0_1)]) rfl hL (fun b_1 h_1 hb_1 hf_1 hL_1 => ?_)
  refine eop_box 32 (Value.agg #[(Sl.v b1_1)]) rfl hL_1 (fun b_2 h_2 hb_2 hf_2 hL_2 => ?_)
  refine pop_field 0 fld32_0 b_1 0 ?_
  refine rop_loc one22 hL_2 1 rfl 0 (v := (Sl.v a0_1)) rfl ?_
  refine pop_field 0 fld32_0 b_2 0 ?_
  refine rop_loc one22 hL_2 0 rfl 0 (v := (Sl.v b1_1)) rfl ?_
  have H := H b_1 b_2 h_2 (Nat.le_trans (Fr.size (Fr.r (In []) _)) hb_1) (Nat.le_trans (Fr.size (Fr.no' (Fr.r (In []) _) hf_1)) hb_2) (Fr.no' (Fr.no' (Fr.r (In []) _) hf_1) hf_2) hL_2
  refine H.mono fun rv_1 h_3 H => ?_
  obtain ⟨t9_1, rfl, hL_3, H⟩ := H
  refine pop_not t9_1 ?_
  refine condM_b (fun hb_3 => ?_) (fun hb_3 => ?_)
  · have H := H.1 hb_3
    exact H
  · have H := H.2 hb_3
    exact H

/-! laws.szLoad -/
def u39 (P : Program) (a0_1 : Sl) (a0_2 : Sl) (left1_1 : Int) (h : Heap) (K : Value → Heap → Prop) : Prop :=
  ∀ (b_1 : Nat) (h_1 : Heap), h.size ≤ b_1 → Fr (In []) h h_1 → Vars h_1 [(b_1, [(Sl.v a0_1), (Sl.v a0_2)])] →
  callM P 65 #[(Sl.v a0_1), (VI left1_1)] h_1 fun rv_1 h_2 => ∃ t8_1 : Int, rv_1 = (VI t8_1) ∧ Vars h_2 [(b_1, [(Sl.v a0_1), (Sl.v a0_2)])] ∧
  ((decide (t8_1 < 0)) = true →
  K (VI (-1)) h_2) ∧
  ((decide (t8_1 < 0)) = false →
  callM P 65 #[(Sl.v a0_2), (VI t8_1)] h_2 fun rv_2 h_3 => ∃ t14_1 : Int, rv_2 = (VI t14_1) ∧ Vars h_3 [(b_1, [(Sl.v a0_1), (Sl.v a0_2)])] ∧
  ((decide (t14_1 < 0)) = true →
  K (VI (-1)) h_3) ∧
  ((decide (t14_1 < 0)) = false →
  K (VI t14_1) h_3))
theorem v39 (a0_1 : Sl) (a0_2 : Sl) (left1_1 : Int) (h : Heap) (K : Value → Heap → Prop) (H : u39 Try.prog a0_1 a0_2 left1_1 h K) : callM Try.prog 39 #[(Value.agg #[(Sl.v a0_1), (Sl.v a0_2)]), (VI left1_1)] h K := by
  refine c39 (Value.agg #[(Sl.v a0_1), (Sl.v a0_2)]) (VI left1_1) h K ?_
  unfold u39 at H
  unfold t39
  have hL : Vars h [] := .nil
  refine eop_box 59 (Value.agg #[(Sl.v a0_1), (Sl.v a0_2)]) rfl hL (fun b_1 h_1 hb_1 hf_1 hL_1 => ?_)
  refine pop_field 0 fld59_0 b_1 0 ?_
  refine rop_loc one25 hL_1 0 rfl 0 (v := (Sl.v a0_1)) rfl ?_
  have H := H b_1 h_1 (Nat.le_trans (Fr.size (Fr.r (In []) _)) hb_1) (Fr.no' (Fr.r (In []) _) hf_1) hL_1
  refine H.mono fun rv_1 h_2 H => ?_
  obtain ⟨t8_1, rfl, hL_2, H⟩ := H
  refine pop_lss .i64 t8_1 0 ?_
  refine condM_b (fun hb_2 => ?_) (fun hb_2 => ?_)
  · have H := H.1 hb_2
    exact H
  · have H := H.2 hb_2
    refine pop_field 1 fld59_1 b_1 0 ?_
    refine rop_loc one25 hL_2 0 rfl 1 (v := (Sl.v a0_2)) rfl ?_
    refine H.mono fun rv_2 h_3 H => ?_
    obtain ⟨t14_1, rfl, hL_3, H⟩ := H
    refine pop_lss .i64 t14_1 0 ?_
    refine condM_b (fun hb_3 => ?_) (fun hb_3 => ?_)
    · have H := H.1 hb_3
      exact H
    · have H := H.2 hb_3
      exact H

/-! spec.AreEnough -/
def u40 (P : Program) (g0_1 : Sl) (sink1_1 : Int) (l2_1 : Sl) (l2_2 : Sl) (counts3_1 : Sl) (h : Heap) (K : Value → Heap → Prop) : Prop :=
  ∀ (b_1 : Nat) (b_2 : Nat) (h_2 : Heap), h.size ≤ b_1 → h.size ≤ b_2 → Fr (In []) h h_2 → Vars h_2 [(b_2, [(Sl.v l2_1), (Sl.v l2_2)]), (b_1, [(Sl.v g0_1)])] →
  callM P 91 #[(Value.agg #[(Sl.v g0_1)]), (VI sink1_1), (Value.agg #[(Sl.v l2_1), (Sl.v l2_2)]), (Sl.v counts3_1)] h_2 fun rv_1 h_3 => ∃ t14_1 : Bool, rv_1 = (VB t14_1) ∧ Vars h_3 [(b_2, [(Sl.v l2_1), (Sl.v l2_2)]), (b_1, [(Sl.v g0_1)])] ∧
  ((!t14_1) = true →
  K (Value.tuple #[(VB false), (VB false)]) h_3) ∧
  ((!t14_1) = false →
  callM P 93 #[(Value.agg #[(Sl.v g0_1)]), (Value.agg #[(Sl.v l2_1), (Sl.v l2_2)]), (Sl.v counts3_1)] h_3 fun rv_2 h_4 => ∃ t20_1 : Sl, ∃ t20_2 : Sl, rv_2 = (Value.agg #[(Sl.v t20_1), (Sl.v t20_2)]) ∧ Vars h_4 [(b_2, [(Sl.v l2_1), (Sl.v l2_2)]), (b_1, [(Sl.v g0_1)])] ∧
  callM P 92 #[(VI sink1_1), (Sl.v t20_2)] h_4 fun rv_3 h_5 => ∃ t22_1 : Sl, rv_3 = (Sl.v t22_1) ∧ Vars h_5 [(b_2, [(Sl.v l2_1), (Sl.v l2_2)]), (b_1, [(Sl.v g0_1)])] ∧
  K (Value.tuple #[(VB (decide ((t22_1.n : Int) = 0))), (VB true)]) h_5)
theorem v40 (g0_1 : Sl) (sink1_1 : Int) (l2_1 : Sl) (l2_2 : Sl) (counts3_1 : Sl) (h : Heap) (K : Value → Heap → Prop) (H : u40 Try.prog g0_1 sink1_1 l2_1 l2_2 counts3_1 h K) : callM Try.prog 40 #[(Value.agg #[(Sl.v g0_1)]), (VI sink1_1), (Value.agg #[(Sl.v l2_1), (Sl.v l2_2)]), (Sl.v counts3_1)] h K := by
  refine c40 (Value.agg #[(Sl.v g0_1)]) (VI sink1_1) (Value.agg #[(Sl.v l2_1), (Sl.v l2_2)]) (Sl.v counts3_1) h K ?_
  unfold u40 at H
  unfold t40
  have hL : Vars h [] := .nil
  refine eop_box 32 (Value.agg #[(Sl.v g0_1)]) rfl hL (fun b_1 h_1 hb_1 hf_1 hL_1 => ?_)
  refine eop_box 63 (Value.agg #[(Sl.v l2_1), (Sl.v l2_2)]) rfl hL_1 (fun b_2 h_2 hb_2 hf_2 hL_2 => ?_)
  refine rop_locA agg32 hL_2 1 rfl 0 (vs := [(Sl.v g0_1)]) rfl rfl ?_
  refine rop_locA agg63 hL_2 0 rfl 0 (vs := [(Sl.v l2_1), (Sl.v l2_2)]) rfl rfl ?_
  have H := H b_1 b_2 h_2 (Nat.le_trans (Fr.size (Fr.r (In []) _)) hb_1) (Nat.le_trans (Fr.size (Fr.no' (Fr.r (In []) _) hf_1)) hb_2) (Fr.no' (Fr.no' (Fr.r (In []) _) hf_1) hf_2) hL_2
  refine H.mono fun rv_1 h_3 H => ?_
  obtain ⟨t14_1, rfl, hL_3, H⟩ := H
  refine pop_not t14_1 ?_
  refine condM_b (fun hb_3 => ?_) (fun hb_3 => ?_)
  · have H := H.1 hb_3
    exact H
  · have H := H.2 hb_3
    refine rop_locA agg32 hL_3 1 rfl 0 (vs := [(Sl.v g0_1)]) rfl rfl ?_
    refine rop_locA agg63 hL_3 0 rfl 0 (vs := [(Sl.v l2_1), (Sl.v l2_2)]) rfl rfl ?_
    refine H.mono fun rv_2 h_4 H => ?_
    obtain ⟨t20_1, t20_2, rfl, hL_4, H⟩ := H
    refine pop.mk' (v := (Sl.v t20_2)) (fun w => by kernel_rfl) ?_
    refine H.mono fun rv_3 h_5 H => ?_
    obtain ⟨t22_1, rfl, hL_5, H⟩ := H
    refine pop_len t22_1 _ _ sli25 ?_
    refine pop_ieq .i64 _ _ (t22_1.n : Int) 0 ?_
    exact H

/-! laws.toLoad -/
def u41 (P : Program) (a0_1 : Sl) (a0_2 : Sl) (h : Heap) (K : Value → Heap → Prop) : Prop :=
  ∀ (b_1 : Nat) (b_2 : Nat) (b_3 : Nat) (h_3 : Heap), h.size ≤ b_1 → h.size ≤ b_2 → h.size ≤ b_3 → Fr (In []) h h_3 → Vars h_3 [(b_3, [(Sl.v nilSl), (Sl.v nilSl)]), (b_2, [(Sl.v nilSl), (Sl.v nilSl)]), (b_1, [(Sl.v a0_1), (Sl.v a0_2)])] →
  callM P 42 #[(Sl.v a0_1)] h_3 fun rv_1 h_4 => ∃ t6_1 : Sl, rv_1 = (Sl.v t6_1) ∧ Vars h_4 [(b_3, [(Sl.v nilSl), (Sl.v nilSl)]), (b_2, [(Sl.v nilSl), (Sl.v nilSl)]), (b_1, [(Sl.v a0_1), (Sl.v a0_2)])] ∧
  ∀ (h_5 : Heap), Fr (In [b_3]) h_4 h_5 → Vars h_5 [(b_3, [(Sl.v t6_1), (Sl.v nilSl)]), (b_2, [(Sl.v nilSl), (Sl.v nilSl)]), (b_1, [(Sl.v a0_1), (Sl.v a0_2)])] →
  callM P 42 #[(Sl.v a0_2)] h_5 fun rv_2 h_6 => ∃ t10_1 : Sl, rv_2 = (Sl.v t10_1) ∧ Vars h_6 [(b_3, [(Sl.v t6_1), (Sl.v nilSl)]), (b_2, [(Sl.v nilSl), (Sl.v nilSl)]), (b_1, [(Sl.v a0_1), (Sl.v a0_2)])] ∧
  ∀ (h_8 : Heap), Fr (In [b_2, b_3]) h_6 h_8 → Vars h_8 [(b_3, [(Sl.v t6_1), (Sl.v t10_1)]), (b_2, [(Sl.v t6_1), (Sl.v t10_1)]), (b_1, [(Sl.v a0_1), (Sl.v a0_2)])] →
  K (Value.agg #[(Sl.v t6_1), (Sl.v t10_1)]) h_8
theorem v41 (a0_1 : Sl) (a0_2 : Sl) (h : Heap) (K : Value → Heap → Prop) (H : u41 Try.prog a0_1 a0_2 h K) : callM Try.prog 41 #[(Value.agg #[(Sl.v a0_1), (Sl.v a0_2)])] h K := by
  refine c41 (Value.agg #[(Sl.v a0_1), (Sl.v a0_2)]) h K ?_
  unfold u41 at H
  unfold t41
  have hL : Vars h [] := .nil
  refine eop_box 59 (Value.agg #[(Sl.v a0_1), (Sl.v a0_2)]) rfl hL (fun b_1 h_1 hb_1 hf_1 hL_1 => ?_)
  refine eop_alloc 63 zer63 rfl hL_1 (fun b_2 h_2 hb_2 hf_2 hL_2 => ?_)
  refine eop_alloc 63 zer63 rfl hL_2 (fun b_3 h_3 hb_3 hf_3 hL_3 => ?_)
  refine pop_field 0 fld59_0 b_1 0 ?_
  refine rop_loc one25 hL_3 2 rfl 0 (v := (Sl.v a0_1)) rfl ?_
  have H := H b_1 b_2 b_3 h_3 (Nat.le_trans (Fr.size (Fr.r (In []) _)) hb_1) (Nat.le_trans (Fr.size (Fr.no' (Fr.r (In []) _) hf_1)) hb_2) (Nat.le_trans (Fr.size (Fr.no' (Fr.no' (Fr.r (In []) _) hf_1) hf_2)) hb_3) (Fr.no' (Fr.no' (Fr.no' (Fr.r (In []) _) hf_1) hf_2) hf_3) hL_3
  refine H.mono fun rv_1 h_4 H => ?_
  obtain ⟨t6_1, rfl, hL_4, H⟩ := H
  refine pop_field 0 fld63_0 b_3 0 ?_
  refine uop_loc siz25 hL_4 0 rfl 0 [(Sl.v t6_1)] rfl rfl rfl (Nat.le_of_ble_eq_true rfl) (L' := [(b_3, [(Sl.v t6_1), (Sl.v nilSl)]), (b_2, [(Sl.v nilSl), (Sl.v nilSl)]), (b_1, [(Sl.v a0_1), (Sl.v a0_2)])]) rfl (fun h_5 hf_4 hL_5 => ?_)
  refine pop_field 1 fld59_1 b_1 0 ?_
  refine rop_loc one25 hL_5 2 rfl 1 (v := (Sl.v a0_2)) rfl ?_
  have H := H  h_5  (Fr.old (Fr.r (In []) _) hf_4) hL_5
  refine H.mono fun rv_2 h_6 H => ?_
  obtain ⟨t10_1, rfl, hL_6, H⟩ := H
  refine pop_field 1 fld63_1 b_3 0 ?_
  refine uop_loc siz25 hL_6 0 rfl 1 [(Sl.v t10_1)] rfl rfl rfl (Nat.le_of_ble_eq_true rfl) (L' := [(b_3, [(Sl.v t6_1), (Sl.v t10_1)]), (b_2, [(Sl.v nilSl), (Sl.v nilSl)]), (b_1, [(Sl.v a0_1), (Sl.v a0_2)])]) rfl (fun h_7 hf_5 hL_7 => ?_)
  refine rop_locA agg63 hL_7 0 rfl 0 (vs := [(Sl.v t6_1), (Sl.v t10_1)]) rfl rfl ?_
  refine uop_loc siz63 hL_7 1 rfl 0 [(Sl.v t6_1), (Sl.v t10_1)] rfl rfl rfl (Nat.le_of_ble_eq_true rfl) (L' := [(b_3, [(Sl.v t6_1), (Sl.v t10_1)]), (b_2, [(Sl.v t6_1), (Sl.v t10_1)]), (b_1, [(Sl.v a0_1), (Sl.v a0_2)])]) rfl (fun h_8 hf_6 hL_8 => ?_)
  refine rop_locA agg63 hL_8 1 rfl 0 (vs := [(Sl.v t6_1), (Sl.v t10_1)]) rfl rfl ?_
  have H := H  h_8  (Fr.old (Fr.old (Fr.r (In []) _) hf_5) hf_6) hL_8
  exact H

/-! laws.toIntS -/
def u42 (P : Program) (a0_1 : Sl) (h : Heap) (K : Value → Heap → Prop) : Prop :=
  eop P (Instr.makeSlice 25 (VI (a0_1.n : Int)) (VI (a0_1.n : Int))) h fun rv_1 h_1 => ∃ t7_1 : Sl, rv_1 = (Sl.v t7_1) ∧ Vars h_1 [] ∧
  ∃ J_1 : Nat → Int → Heap → Prop, (∃ n0 : Nat, J_1 n0 0 h_1) ∧
  ∀ (n_1 : Nat) (i4_1 : Int) (h_2 : Heap), J_1 n_1 i4_1 h_2 → Vars h_2 [] →
  ((decide (i4_1 < (a0_1.n : Int))) = true →
  InB a0_1 i4_1 ∧
  ∃ t19_1 : Int, hcell h_2 (Sl.at a0_1 i4_1 1) = some (VI t19_1) ∧
  InB t7_1 i4_1 ∧
  Writable h_2 (Sl.at t7_1 i4_1 1) ∧ Vars (hset h_2 (Sl.at t7_1 i4_1 1) (VI t19_1)) [] ∧
  ∀ h_3 : Heap, h_3 = hset h_2 (Sl.at t7_1 i4_1 1) (VI t19_1) → Vars h_3 [] →
  ∃ m : Nat, m < n_1 ∧ J_1 m (w64 (i4_1 + 1)) h_3) ∧
  ((decide (i4_1 < (a0_1.n : Int))) = false →
  K (Sl.v t7_1) h_2)
theorem v42 (a0_1 : Sl) (h : Heap) (K : Value → Heap → Prop) (H : u42 Try.prog a0_1 h K) : callM Try.prog 42 #[(Sl.v a0_1)] h K := by
  refine c42 (Sl.v a0_1) h K ?_
  unfold u42 at H
  unfold t42
  have hL : Vars h [] := .nil
  refine pop_len a0_1 _ _ sli25 ?_
  refine H.mono fun rv_1 h_1 H => ?_
  obtain ⟨t7_1, rfl, hL_1, H⟩ := H
  obtain ⟨J_1, ⟨n_2, h0_1⟩, HB_1⟩ := H
  refine loop_intro (J := fun (n : Nat) (vs : List Value) (h' : Heap) => ∃ i4_1 : Int, vs = [(VI i4_1)] ∧ J_1 n i4_1 h' ∧ Vars h' []) n_2 ⟨0, rfl, h0_1, hL_1⟩ ?_
  intro I_1 mu_1 hI_1 junk_1 tv_1 h_2 hi_1
  obtain ⟨n_1, ⟨i4_1, hv, hJ_1, hL_2⟩, hn_1⟩ := hI_1 _ _ hi_1
  cases hv
  have H := HB_1 n_1 i4_1 h_2 hJ_1 hL_2
  refine pop_len a0_1 _ _ sli25 ?_
  refine pop_lss .i64 i4_1 (a0_1.n : Int) ?_
  refine condM_b (fun hb_1 => ?_) (fun hb_1 => ?_)
  · have H := H.1 hb_1
    obtain ⟨hi_2, H⟩ := H
    refine pop_index sli25 siz3 .i64 a0_1 i4_1 hi_2 ?_
    obtain ⟨t19_1, hc_1, H⟩ := H
    refine rop_one one3 (VI t19_1) hc_1 ?_
    obtain ⟨hi_3, H⟩ := H
    refine pop_index sli25 siz3 .i64 t7_1 i4_1 hi_3 ?_
    obtain ⟨hw_1, hL_3, H⟩ := H
    refine uop_cell (v := (VI t19_1)) siz3 hw_1 rfl (fun h_3 he_1 => ?_)
    rw [← he_1] at hL_3
    have H := H h_3 he_1 hL_3
    refine pop_add .i64 i4_1 1 ?_
    obtain ⟨m_1, hm_1, H⟩ := H
    exact hn_1 _ _ ⟨m_1, hm_1, (w64 (i4_1 + 1)), rfl, H, hL_3⟩
  · have H := H.2 hb_1
    exact H

/-! impl.AreEnough -/
def u43 (P : Program) (g0_1 : Sl) (sink1_1 : Int) (l2_1 : Sl) (l2_2 : Sl) (counts3_1 : Sl) (h : Heap) (K : Value → Heap → Prop) : Prop :=
  ∀ (b_1 : Nat) (b_2 : Nat) (h_2 : Heap), h.size ≤ b_1 → h.size ≤ b_2 → Fr (In []) h h_2 → Vars h_2 [(b_2, [(Sl.v l2_1), (Sl.v l2_2)]), (b_1, [(Sl.v g0_1)])] →
  callM P 94 #[(Value.agg #[(Sl.v g0_1)]), (VI sink1_1), (Value.agg #[(Sl.v l2_1), (Sl.v l2_2)]), (Sl.v counts3_1)] h_2 fun rv_1 h_3 => ∃ t17_1 : Sl, ∃ t17_2 : Sl, ∃ t17_3 : Bool, rv_1 = (Value.tuple #[(Value.agg #[(Sl.v t17_1), (Sl.v t17_2)]), (VB t17_3)]) ∧ Vars h_3 [(b_2, [(Sl.v l2_1), (Sl.v l2_2)]), (b_1, [(Sl.v g0_1)])] ∧
  ((!t17_3) = true →
  ∀ (b_3 : Nat) (h_5 : Heap), h_3.size ≤ b_3 → Fr (In []) h_3 h_5 → Vars h_5 [(b_3, [(Sl.v t17_1), (Sl.v t17_2)]), (b_2, [(Sl.v l2_1), (Sl.v l2_2)]), (b_1, [(Sl.v g0_1)])] →
  K (Value.tuple #[(VB false), (VB false)]) h_5) ∧
  ((!t17_3) = false →
  ∀ (b_3 : Nat) (h_5 : Heap), h_3.size ≤ b_3 → Fr (In []) h_3 h_5 → Vars h_5 [(b_3, [(Sl.v t17_1), (Sl.v t17_2)]), (b_2, [(Sl.v l2_1), (Sl.v l2_2)]), (b_1, [(Sl.v g0_1)])] →
  callM P 95 #[(VP b_3 0), (VI sink1_1)] h_5 fun rv_2 h_6 => ∃ x_1 : Sl, ∃ x_2 : Sl, ∃ t23_1 : Sl, rv_2 = (Sl.v t23_1) ∧ Vars h_6 [(b_3, [(Sl.v x_1), (Sl.v x_2)]), (b_2, [(Sl.v l2_1), (Sl.v l2_2)]), (b_1, [(Sl.v g0_1)])] ∧
  K (Value.tuple #[(VB (decide ((t23_1.n : Int) = 0))), (VB true)]) h_6)
theorem v43 (g0_1 : Sl) (sink1_1 : Int) (l2_1 : Sl) (l2_2 : Sl) (counts3_1 : Sl) (h : Heap) (K : Value → Heap → Prop) (H : u43 Try.prog g0_1 sink1_1 l2_1 l2_2 counts3_1 h K) : callM Try.prog 43 #[(Value.agg #[(Sl.v g0_1)]), (VI sink1_1), (Value.agg #[(Sl.v l2_1), (Sl.v l2_2)]), (Sl.v counts3_1)] h K := by
  refine c43 (Value.agg #[(Sl.v g0_1)]) (VI sink1_1) (Value.agg #[(Sl.v l2_1), (Sl.v l2_2)]) (Sl.v counts3_1) h K ?_
  unfold u43 at H
  unfold t43
  have hL : Vars h [] := .nil
  refine eop_box 32 (Value.agg #[(Sl.v g0_1)]) rfl hL (fun b_1 h_1 hb_1 hf_1 hL_1 => ?_)
  refine eop_box 63 (Value.agg #[(Sl.v l2_1), (Sl.v l2_2)]) rfl hL_1 (fun b_2 h_2 hb_2 hf_2 hL_2 => ?_)
  refine rop_locA agg32 hL_2 1 rfl 0 (vs := [(Sl.v g0_1)]) rfl rfl ?_
  refine rop_locA agg63 hL_2 0 rfl 0 (vs := [(Sl.v l2_1), (Sl.v l2_2)]) rfl rfl ?_
  have H := H b_1 b_2 h_2 (Nat.le_trans (Fr.size (Fr.r (In []) _)) hb_1) (Nat.le_trans (Fr.size (Fr.no' (Fr.r (In []) _) hf_1)) hb_2) (Fr.no' (Fr.no' (Fr.r (In []) _) hf_1) hf_2) hL_2
  refine H.mono fun rv_1 h_3 H => ?_
  obtain ⟨t17_1, t17_2, t17_3, rfl, hL_3, H⟩ := H
  refine pop_ext (v := (Value.agg #[(Sl.v t17_1), (Sl.v t17_2)])) rfl ?_
  refine pop_ext (v := (VB t17_3)) rfl ?_
  refine eop_alloc 63 zer63 rfl hL_3 (fun b_3 h_4 hb_3 hf_3 hL_4 => ?_)
  refine uop_loc siz63 hL_4 0 rfl 0 [(Sl.v t17_1), (Sl.v t17_2)] rfl rfl rfl (Nat.le_of_ble_eq_true rfl) (L' := [(b_3, [(Sl.v t17_1), (Sl.v t17_2)]), (b_2, [(Sl.v l2_1), (Sl.v l2_2)]), (b_1, [(Sl.v g0_1)])]) rfl (fun h_5 hf_4 hL_5 => ?_)
  refine pop_not t17_3 ?_
  refine condM_b (fun hb_4 => ?_) (fun hb_4 => ?_)
  · have H := H.1 hb_4
    have H := H b_3 h_5 (Nat.le_trans (Fr.size (Fr.r (In []) _)) hb_3) (Fr.new (Fr.no' (Fr.r (In []) _) hf_3) (Nat.le_trans (Fr.size (Fr.r (In []) _)) hb_3) hf_4) hL_5
    exact H
  · have H := H.2 hb_4
    have H := H b_3 h_5 (Nat.le_trans (Fr.size (Fr.r (In []) _)) hb_3) (Fr.new (Fr.no' (Fr.r (In []) _) hf_3) (Nat.le_trans (Fr.size (Fr.r (In []) _)) hb_3) hf_4) hL_5
    refine H.mono fun rv_2 h_6 H => ?_
    obtain ⟨x_1, x_2, t23_1, rfl, hL_6, H⟩ := H
    refine pop_len t23_1 _ _ sli25 ?_
    refine pop_ieq .i64 _ _ (t23_1.n : Int) 0 ?_
    exact H

/-! laws.eqLoad -/
def u44 (P : Program) (a0_1 : Sl) (a0_2 : Sl) (b1_1 : Sl) (b1_2 : Sl) (h : Heap) (K : Value → Heap → Prop) : Prop :=
  ∀ (b_1 : Nat) (b_2 : Nat) (h_2 : Heap), h.size ≤ b_1 → h.size ≤ b_2 → Fr (In []) h h_2 → Vars h_2 [(b_2, [(Sl.v b1_1), (Sl.v b1_2)]), (b_1, [(Sl.v a0_1), (Sl.v a0_2)])] →
  callM P 45 #[(Sl.v a0_1), (Sl.v b1_1)] h_2 fun rv_1 h_3 => ∃ t9_1 : Bool, rv_1 = (VB t9_1) ∧ Vars h_3 [(b_2, [(Sl.v b1_1), (Sl.v b1_2)]), (b_1, [(Sl.v a0_1), (Sl.v a0_2)])] ∧
  ((!t9_1) = true →
  K (VB false) h_3) ∧
  ((!t9_1) = false →
  callM P 45 #[(Sl.v a0_2), (Sl.v b1_2)] h_3 fun rv_2 h_4 => ∃ t15_1 : Bool, rv_2 = (VB t15_1) ∧ Vars h_4 [(b_2, [(Sl.v b1_1), (Sl.v b1_2)]), (b_1, [(Sl.v a0_1), (Sl.v a0_2)])] ∧
  ((!t15_1) = true →
  K (VB false) h_4) ∧
  ((!t15_1) = false →
  K (VB true) h_4))
theorem v44 (a0_1 : Sl) (a0_2 : Sl) (b1_1 : Sl) (b1_2 : Sl) (h : Heap) (K : Value → Heap → Prop) (H : u44 Try.prog a0_1 a0_2 b1_1 b1_2 h K) : callM Try.prog 44 #[(Value.agg #[(Sl.v a0_1), (Sl.v a0_2)]), (Value.agg #[(Sl.v b1_1), (Sl.v b1_2)])] h K := by
  refine c44 (Value.agg #[(Sl.v a0_1), (Sl.v a0_2)]) (Value.agg #[(Sl.v b1_1), (Sl.v b1_2)]) h K ?_
  unfold u44 at H
  unfold t44
  have hL : Vars h [] := .nil
  refine eop_box 63 (Value.agg #[(Sl.v a0_1), (Sl.v a0_2)]) rfl hL (fun b_1 h_1 hb_1 hf_1 hL_1 => ?_)
  refine eop_box 63 (Value.agg #[(Sl.v b1_1), (Sl.v b1_2)]) rfl hL_1 (fun b_2 h_2 hb_2 hf_2 hL_2 => ?_)
  refine pop_field 0 fld63_0 b_1 0 ?_
  refine rop_loc one25 hL_2 1 rfl 0 (v := (Sl.v a0_1)) rfl ?_
  refine pop_field 0 fld63_0 b_2 0 ?_
  refine rop_loc one25 hL_2 0 rfl 0 (v := (Sl.v b1_1)) rfl ?_
  have H := H b_1 b_2 h_2 (Nat.le_trans (Fr.size (Fr.r (In []) _)) hb_1) (Nat.le_trans (Fr.size (Fr.no' (Fr.r (In []) _) hf_1)) hb_2) (Fr.no' (Fr.no' (Fr.r (In []) _) hf_1) hf_2) hL_2
  refine H.mono fun rv_1 h_3 H => ?_
  obtain ⟨t9_1, rfl, hL_3, H⟩ := H
  refine pop_not t9_1 ?_
  refine condM_b (fun hb_3 => ?_) (fun hb_3 => ?_)
  · have H := H.1 hb_3
    exact H
  · have H := H.2 hb_3
    refine pop_field 1 fld63_1 b_1 0 ?_
    refine rop_loc one25 hL_3 1 rfl 1 (v := (Sl.v a0_2)) rfl ?_
    refine pop_field 1 fld63_1 b_2 0 ?_
    refine rop_loc one25 hL_3 0 rfl 1 (v := (Sl.v b1_2)) rfl ?_
    refine H.mono fun rv_2 h_4 H => ?_
    obtain ⟨t15_1, rfl, hL_4, H⟩ := H
    refine pop_not t15_1 ?_
    refine condM_b (fun hb_4 => ?_) (fun hb_4 => ?_)
    · have H := H.1 hb_4
      exact H
    · have H := H.2 hb_4
      exact H

/-! laws.eqIntS -/
def u45 (P : Program) (a0_1 : Sl) (b1_1 : Sl) (h : Heap) (K : Value → Heap → Prop) : Prop :=
  ((!decide ((a0_1.n : Int) = (b1_1.n : Int))) = true →
  K (VB false) h) ∧
  ((!decide ((a0_1.n : Int) = (b1_1.n : Int))) = false →
  ∃ J_1 : Nat → Int → Heap → Prop, (∃ n0 : Nat, J_1 n0 0 h) ∧
  ∀ (n_1 : Nat) (i5_1 : Int) (h_1 : Heap), J_1 n_1 i5_1 h_1 → Vars h_1 [] →
  ((decide (i5_1 < (a0_1.n : Int))) = true →
  InB a0_1 i5_1 ∧
  ∃ t20_1 : Int, hcell h_1 (Sl.at a0_1 i5_1 1) = some (VI t20_1) ∧
  InB b1_1 i5_1 ∧
  ∃ t24_1 : Int, hcell h_1 (Sl.at b1_1 i5_1 1) = some (VI t24_1) ∧
  ((!decide (t20_1 = t24_1)) = true →
  K (VB false) h_1) ∧
  ((!decide (t20_1 = t24_1)) = false →
  ∃ m : Nat, m < n_1 ∧ J_1 m (w64 (i5_1 + 1)) h_1)) ∧
  ((decide (i5_1 < (a0_1.n : Int))) = false →
  K (VB true) h_1))
theorem v45 (a0_1 : Sl) (b1_1 : Sl) (h : Heap) (K : Value → Heap → Prop) (H : u45 Try.prog a0_1 b1_1 h K) : callM Try.prog 45 #[(Sl.v a0_1), (Sl.v b1_1)] h K := by
  refine c45 (Sl.v a0_1) (Sl.v b1_1) h K ?_
  unfold u45 at H
  unfold t45
  have hL : Vars h [] := .nil
  refine pop_len a0_1 _ _ sli25 ?_
  refine pop_len b1_1 _ _ sli25 ?_
  refine pop_ine .i64 _ _ (a0_1.n : Int) (b1_1.n : Int) ?_
  refine condM_b (fun hb_1 => ?_) (fun hb_1 => ?_)
  · have H := H.1 hb_1
    exact H
  · have H := H.2 hb_1
    obtain ⟨J_1, ⟨n_2, h0_1⟩, HB_1⟩ := H
    refine loop_intro (J := fun (n : Nat) (vs : List Value) (h' : Heap) => ∃ i5_1 : Int, vs = [(VI i5_1)] ∧ J_1 n i5_1 h' ∧ Vars h' []) n_2 ⟨0, rfl, h0_1, hL⟩ ?_
    intro I_1 mu_1 hI_1 junk_1 tv_1 h_1 hi_1
    obtain ⟨n_1, ⟨i5_1, hv, hJ_1, hL_1⟩, hn_1⟩ := hI_1 _ _ hi_1
    cases hv
    have H := HB_1 n_1 i5_1 h_1 hJ_1 hL_1
    refine pop_len a0_1 _ _ sli25 ?_
    refine pop_lss .i64 i5_1 (a0_1.n : Int) ?_
    refine condM_b (fun hb_2 => ?_) (fun hb_2 => ?_)
    · have H := H.1 hb_2
      obtain ⟨hi_2, H⟩ := H
      refine pop_index sli25 siz3 .i64 a0_1 i5_1 hi_2 ?_
      obtain ⟨t20_1, hc_2, H⟩ := H
      refine rop_one one3 (VI t20_1) hc_2 ?_
      obtain ⟨hi_3, H⟩ := H
      refine pop_index sli25 siz3 .i64 b1_1 i5_1 hi_3 ?_
      obtain ⟨t24_1, hc_1, H⟩ := H
      refine rop_one one3 (VI t24_1) hc_1 ?_
      refine pop_ine .i64 _ _ t20_1 t24_1 ?_
      refine condM_b (fun hb_3 => ?_) (fun hb_3 => ?_)
      · have H := H.1 hb_3
        exact H
      · have H := H.2 hb_3
        refine pop_add .i64 i5_1 1 ?_
        obtain ⟨m_1, hm_1, H⟩ := H
        exact hn_1 _ _ ⟨m_1, hm_1, (w64 (i5_1 + 1)), rfl, H, hL_1⟩
    · have H := H.2 hb_2
      exact H

/-! laws.szIntSS -/
def u64 (P : Program) (a0_1 : Sl) (left1_1 : Int) (h : Heap) (K : Value → Heap → Prop) : Prop :=
  ((decide ((w64 (left1_1 - (a0_1.n : Int))) < 0)) = true →
  K (VI (-1)) h) ∧
  ((decide ((w64 (left1_1 - (a0_1.n : Int))) < 0)) = false →
  ∃ J_1 : Nat → Int → Int → Heap → Prop, (∃ n0 : Nat, J_1 n0 (w64 (left1_1 - (a0_1.n : Int))) 0 h) ∧
  ∀ (n_1 : Nat) (left1_2 : Int) (i5_1 : Int) (h_1 : Heap), J_1 n_1 left1_2 i5_1 h_1 → Vars h_1 [] →
  ((decide (i5_1 < (a0_1.n : Int))) = true →
  InB a0_1 i5_1 ∧
  ∃ t21_1 : Sl, hcell h_1 (Sl.at a0_1 i5_1 1) = some (Sl.v t21_1) ∧
  callM P 65 #[(Sl.v t21_1), (VI left1_2)] h_1 fun rv_1 h_2 => ∃ t23_1 : Int, rv_1 = (VI t23_1) ∧ Vars h_2 [] ∧
  ((decide (t23_1 < 0)) = true →
  K (VI (-1)) h_2) ∧
  ((decide (t23_1 < 0)) = false →
  ∃ m : Nat, m < n_1 ∧ J_1 m t23_1 (w64 (i5_1 + 1)) h_2)) ∧
  ((decide (i5_1 < (a0_1.n : Int))) = false →
  K (VI left1_2) h_1))
theorem v64 (a0_1 : Sl) (left1_1 : Int) (h : Heap) (K : Value → Heap → Prop) (H : u64 Try.prog a0_1 left1_1 h K) : callM Try.prog 64 #[(Sl.v a0_1), (VI left1_1)] h K := by
  refine c64 (Sl.v a0_1) (VI left1_1) h K ?_
  unfold u64 at H
  unfold t64
  have hL : Vars h [] := .nil
  refine pop_len a0_1 _ _ sli22 ?_
  refine pop_sub .i64 left1_1 (a0_1.n : Int) ?_
  refine pop_lss .i64 (w64 (left1_1 - (a0_1.n : Int))) 0 ?_
  refine condM_b (fun hb_1 => ?_) (fun hb_1 => ?_)
  · have H := H.1 hb_1
    exact H
  · have H := H.2 hb_1
    obtain ⟨J_1, ⟨n_2, h0_1⟩, HB_1⟩ := H
    refine loop_intro (J := fun (n : Nat) (vs : List Value) (h' : Heap) => ∃ left1_2 : Int, ∃ i5_1 : Int, vs = [(VI left1_2), (VI i5_1)] ∧ J_1 n left1_2 i5_1 h' ∧ Vars h' []) n_2 ⟨(w64 (left1_1 - (a0_1.n : Int))), 0, rfl, h0_1, hL⟩ ?_
    intro I_1 mu_1 hI_1 junk_1 tv_1 tv_2 h_1 hi_1
    obtain ⟨n_1, ⟨left1_2, i5_1, hv, hJ_1, hL_1⟩, hn_1⟩ := hI_1 _ _ hi_1
    cases hv
    have H := HB_1 n_1 left1_2 i5_1 h_1 hJ_1 hL_1
    refine pop_len a0_1 _ _ sli22 ?_
    refine pop_lss .i64 i5_1 (a0_1.n : Int) ?_
    refine condM_b (fun hb_2 => ?_) (fun hb_2 => ?_)
    · have H := H.1 hb_2
      obtain ⟨hi_2, H⟩ := H
      refine pop_index sli22 siz25 .i64 a0_1 i5_1 hi_2 ?_
      obtain ⟨t21_1, hc_1, H⟩ := H
      refine rop_one one25 (Sl.v t21_1) hc_1 ?_
      refine H.mono fun rv_1 h_2 H => ?_
      obtain ⟨t23_1, rfl, hL_2, H⟩ := H
      refine pop_lss .i64 t23_1 0 ?_
      refine condM_b (fun hb_3 => ?_) (fun hb_3 => ?_)
      · have H := H.1 hb_3
        exact H
      · have H := H.2 hb_3
        refine pop_add .i64 i5_1 1 ?_
        obtain ⟨m_1, hm_1, H⟩ := H
        exact hn_1 _ _ ⟨m_1, hm_1, t23_1, (w64 (i5_1 + 1)), rfl, H, hL_2⟩
    · have H := H.2 hb_2
      exact H

/-! laws.szIntS -/
def u65 (P : Program) (a0_1 : Sl) (left1_1 : Int) (h : Heap) (K : Value → Heap → Prop) : Prop :=
  ((decide ((w64 (left1_1 - (a0_1.n : Int))) < 0)) = true →
  K (VI (-1)) h) ∧
  ((decide ((w64 (left1_1 - (a0_1.n : Int))) < 0)) = false →
  K (VI (w64 (left1_1 - (a0_1.n : Int)))) h)
theorem v65 (a0_1 : Sl) (left1_1 : Int) (h : Heap) (K : Value → Heap → Prop) (H : u65 Try.prog a0_1 left1_1 h K) : callM Try.prog 65 #[(Sl.v a0_1), (VI left1_1)] h K := by
  refine c65 (Sl.v a0_1) (VI left1_1) h K ?_
  unfold u65 at H
  unfold t65
  have hL : Vars h [] := .nil
  refine pop_len a0_1 _ _ sli25 ?_
  refine pop_sub .i64 left1_1 (a0_1.n : Int) ?_
  refine pop_lss .i64 (w64 (left1_1 - (a0_1.n : Int))) 0 ?_
  refine condM_b (fun hb_1 => ?_) (fun hb_1 => ?_)
  · have H := H.1 hb_1
    exact H
  · have H := H.2 hb_1
    exact H

/-! laws.toIntSS -/
def u68 (P : Program) (a0_1 : Sl) (h : Heap) (K : Value → Heap → Prop) : Prop :=
  eop P (Instr.makeSlice 22 (VI (a0_1.n : Int)) (VI (a0_1.n : Int))) h fun rv_1 h_1 => ∃ t7_1 : Sl, rv_1 = (Sl.v t7_1) ∧ Vars h_1 [] ∧
  ∃ J_1 : Nat → Int → Heap → Prop, (∃ n0 : Nat, J_1 n0 0 h_1) ∧
  ∀ (n_1 : Nat) (i4_1 : Int) (h_2 : Heap), J_1 n_1 i4_1 h_2 → Vars h_2 [] →
  ((decide (i4_1 < (a0_1.n : Int))) = true →
  InB a0_1 i4_1 ∧
  ∃ t19_1 : Sl, hcell h_2 (Sl.at a0_1 i4_1 1) = some (Sl.v t19_1) ∧
  callM P 42 #[(Sl.v t19_1)] h_2 fun rv_2 h_3 => ∃ t20_1 : Sl, rv_2 = (Sl.v t20_1) ∧ Vars h_3 [] ∧
  InB t7_1 i4_1 ∧
  Writable h_3 (Sl.at t7_1 i4_1 1) ∧ Vars (hset h_3 (Sl.at t7_1 i4_1 1) (Sl.v t20_1)) [] ∧
  ∀ h_4 : Heap, h_4 = hset h_3 (Sl.at t7_1 i4_1 1) (Sl.v t20_1) → Vars h_4 [] →
  ∃ m : Nat, m < n_1 ∧ J_1 m (w64 (i4_1 + 1)) h_4) ∧
  ((decide (i4_1 < (a0_1.n : Int))) = false →
  K (Sl.v t7_1) h_2)
theorem v68 (a0_1 : Sl) (h : Heap) (K : Value → Heap → Prop) (H : u68 Try.prog a0_1 h K) : callM Try.prog 68 #[(Sl.v a0_1)] h K := by
  refine c68 (Sl.v a0_1) h K ?_
  unfold u68 at H
  unfold t68
  have hL : Vars h [] := .nil
  refine pop_len a0_1 _ _ sli22 ?_
  refine H.mono fun rv_1 h_1 H => ?_
  obtain ⟨t7_1, rfl, hL_1, H⟩ := H
  obtain ⟨J_1, ⟨n_2, h0_1⟩, HB_1⟩ := H
  refine loop_intro (J := fun (n : Nat) (vs : List Value) (h' : Heap) => ∃ i4_1 : Int, vs = [(VI i4_1)] ∧ J_1 n i4_1 h' ∧ Vars h' []) n_2 ⟨0, rfl, h0_1, hL_1⟩ ?_
  intro I_1 mu_1 hI_1 junk_1 tv_1 h_2 hi_1
  obtain ⟨n_1, ⟨i4_1, hv, hJ_1, hL_2⟩, hn_1⟩ := hI_1 _ _ hi_1
  cases hv
  have H := HB_1 n_1 i4_1 h_2 hJ_1 hL_2
  refine pop_len a0_1 _ _ sli22 ?_
  refine pop_lss .i64 i4_1 (a0_1.n : Int) ?_
  refine condM_b (fun hb_1 => ?_) (fun hb_1 => ?_)
  · have H := H.1 hb_1
    obtain ⟨hi_2, H⟩ := H
    refine pop_index sli22 siz25 .i64 a0_1 i4_1 hi_2 ?_
    obtain ⟨t19_1, hc_1, H⟩ := H
    refine rop_one one25 (Sl.v t19_1) hc_1 ?_
    refine H.mono fun rv_2 h_3 H => ?_
    obtain ⟨t20_1, rfl, hL_3, H⟩ := H
    obtain ⟨hi_3, H⟩ := H
    refine pop_index sli22 siz25 .i64 t7_1 i4_1 hi_3 ?_
    obtain ⟨hw_1, hL_4, H⟩ := H
    refine uop_cell (v := (Sl.v t20_1)) siz25 hw_1 rfl (fun h_4 he_1 => ?_)
    rw [← he_1] at hL_4
    have H := H h_4 he_1 hL_4
    refine pop_add .i64 i4_1 1 ?_
    obtain ⟨m_1, hm_1, H⟩ := H
    exact hn_1 _ _ ⟨m_1, hm_1, (w64 (i4_1 + 1)), rfl, H, hL_4⟩
  · have H := H.2 hb_1
    exact H

/-! spec.waGood -/
def u74 (P : Program) (g0_1 : Sl) (w1_1 : Sl) (w1_2 : Int) (h : Heap) (K : Value → Heap → Prop) : Prop :=
  ∀ (b_1 : Nat) (b_2 : Nat) (h_2 : Heap), h.size ≤ b_1 → h.size ≤ b_2 → Fr (In []) h h_2 → Vars h_2 [(b_2, [(Sl.v w1_1), (VI w1_2)]), (b_1, [(Sl.v g0_1)])] →
  callM P 81 #[(Value.agg #[(Sl.v g0_1)]), (VI w1_2)] h_2 fun rv_1 h_3 => ∃ t10_1 : Bool, rv_1 = (VB t10_1) ∧ Vars h_3 [(b_2, [(Sl.v w1_1), (VI w1_2)]), (b_1, [(Sl.v g0_1)])] ∧
  ((!t10_1) = true →
  K (VB false) h_3) ∧
  ((!t10_1) = false →
  ((!decide ((w1_1.n : Int) = (g0_1.n : Int))) = true →
  K (VB false) h_3) ∧
  ((!decide ((w1_1.n : Int) = (g0_1.n : Int))) = false →
  ∃ J_1 : Nat → Int → Heap → Prop, (∃ n0 : Nat, J_1 n0 0 h_3) ∧
  ∀ (n_1 : Nat) (t24_1 : Int) (h_4 : Heap), J_1 n_1 t24_1 h_4 → Vars h_4 [(b_2, [(Sl.v w1_1), (VI w1_2)]), (b_1, [(Sl.v g0_1)])] →
  ((decide (t24_1 < (g0_1.n : Int))) = true →
  InB g0_1 t24_1 ∧
  ∃ t28_1 : Sl, hcell h_4 (Sl.at g0_1 t24_1 1) = some (Sl.v t28_1) ∧
  InB w1_1 t24_1 ∧
  ∃ t33_1 : Int, hcell h_4 (Sl.at w1_1 t24_1 1) = some (VI t33_1) ∧
  callM P 113 #[(VI 0), (VI (w64 ((t28_1.n : Int) - 1)))] h_4 fun rv_2 h_5 => ∃ t37_1 : Int, rv_2 = (VI t37_1) ∧ Vars h_5 [(b_2, [(Sl.v w1_1), (VI w1_2)]), (b_1, [(Sl.v g0_1)])] ∧
  hcell h_5 (Sl.at w1_1 t24_1 1) = some (VI t33_1) ∧
  callM P 109 #[(VI t33_1), (VI 0), (VI t37_1)] h_5 fun rv_3 h_6 => ∃ t38_1 : Bool, rv_3 = (VB t38_1) ∧ Vars h_6 [(b_2, [(Sl.v w1_1), (VI w1_2)]), (b_1, [(Sl.v g0_1)])] ∧
  ((!t38_1) = true →
  K (VB false) h_6) ∧
  ((!t38_1) = false →
  ∃ m : Nat, m < n_1 ∧ J_1 m (w64 (t24_1 + 1)) h_6)) ∧
  ((decide (t24_1 < (g0_1.n : Int))) = false →
  K (VB true) h_4)))
theorem v74 (g0_1 : Sl) (w1_1 : Sl) (w1_2 : Int) (h : Heap) (K : Value → Heap → Prop) (H : u74 Try.prog g0_1 w1_1 w1_2 h K) : callM Try.prog 74 #[(Value.agg #[(Sl.v g0_1)]), (Value.agg #[(Sl.v w1_1), (VI w1_2)])] h K := by
  refine c74 (Value.agg #[(Sl.v g0_1)]) (Value.agg #[(Sl.v w1_1), (VI w1_2)]) h K ?_
  unfold u74 at H
  unfold t74
  have hL : Vars h [] := .nil
  refine eop_box 32 (Value.agg #[(Sl.v g0_1)]) rfl hL (fun b_1 h_1 hb_1 hf_1 hL_1 => ?_)
  refine eop_box 34 (Value.agg #[(Sl.v w1_1), (VI w1_2)]) rfl hL_1 (fun b_2 h_2 hb_2 hf_2 hL_2 => ?_)
  refine rop_locA agg32 hL_2 1 rfl 0 (vs := [(Sl.v g0_1)]) rfl rfl ?_
  refine pop_field 1 fld34_1 b_2 0 ?_
  refine rop_loc one3 hL_2 0 rfl 1 (v := (VI w1_2)) rfl ?_
  have H := H b_1 b_2 h_2 (Nat.le_trans (Fr.size (Fr.r (In []) _)) hb_1) (Nat.le_trans (Fr.size (Fr.no' (Fr.r (In []) _) hf_1)) hb_2) (Fr.no' (Fr.no' (Fr.r (In []) _) hf_1) hf_2) hL_2
  refine H.mono fun rv_1 h_3 H => ?_
  obtain ⟨t10_1, rfl, hL_3, H⟩ := H
  refine pop_not t10_1 ?_
  refine guardM_sf (fun hb_3 => ?_) (fun hb_3 => ?_)
  · have H := H.2 hb_3
    refine pop_field 0 fld34_0 b_2 0 ?_
    refine guardM_y' hb_3 ?_
    refine rop_loc one25 hL_3 0 rfl 0 (v := (Sl.v w1_1)) rfl ?_
    refine guardM_y' hb_3 ?_
    refine pop_len w1_1 _ _ sli25 ?_
    refine guardM_y' hb_3 ?_
    refine pop_field 0 fld32_0 b_1 0 ?_
    refine guardM_y' hb_3 ?_
    refine rop_loc one22 hL_3 1 rfl 0 (v := (Sl.v g0_1)) rfl ?_
    refine guardM_y' hb_3 ?_
    refine pop_len g0_1 _ _ sli22 ?_
    refine guardM_y' hb_3 ?_
    refine pop_ine .i64 _ _ (w1_1.n : Int) (g0_1.n : Int) ?_
    refine pop_pickf' hb_3 ?_
    refine condM_b (fun hb_4 => ?_) (fun hb_4 => ?_)
    · have H := H.1 hb_4
      exact H
    · have H := H.2 hb_4
      refine pop_field 0 fld32_0 b_1 0 ?_
      refine rop_loc one22 hL_3 1 rfl 0 (v := (Sl.v g0_1)) rfl ?_
      refine pop_len g0_1 _ _ sli22 ?_
      obtain ⟨J_1, ⟨n_2, h0_1⟩, HB_1⟩ := H
      refine loop_intro (J := fun (n : Nat) (vs : List Value) (h' : Heap) => ∃ t24_1 : Int, vs = [(VI t24_1)] ∧ J_1 n t24_1 h' ∧ Vars h' [(b_2, [(Sl.v w1_1), (VI w1_2)]), (b_1, [(Sl.v g0_1)])]) n_2 ⟨0, rfl, h0_1, hL_3⟩ ?_
      intro I_1 mu_1 hI_1 junk_1 tv_1 h_4 hi_1
      obtain ⟨n_1, ⟨t24_1, hv, hJ_1, hL_4⟩, hn_1⟩ := hI_1 _ _ hi_1
      cases hv
      have H := HB_1 n_1 t24_1 h_4 hJ_1 hL_4
      refine pop_lss .i64 t24_1 (g0_1.n : Int) ?_
      refine condM_b (fun hb_5 => ?_) (fun hb_5 => ?_)
      · have H := H.1 hb_5
        obtain ⟨hi_2, H⟩ := H
        refine pop_index sli22 siz25 .i64 g0_1 t24_1 hi_2 ?_
        obtain ⟨t28_1, hc_3, H⟩ := H
        refine rop_one one25 (Sl.v t28_1) hc_3 ?_
        refine pop_field 0 fld34_0 b_2 0 ?_
        refine rop_loc one25 hL_4 0 rfl 0 (v := (Sl.v w1_1)) rfl ?_
        obtain ⟨hi_3, H⟩ := H
        refine pop_index sli25 siz3 .i64 w1_1 t24_1 hi_3 ?_
        obtain ⟨t33_1, hc_2, H⟩ := H
        refine rop_one one3 (VI t33_1) hc_2 ?_
        refine pop_len t28_1 _ _ sli25 ?_
        refine pop_sub .i64 (t28_1.n : Int) 1 ?_
        refine H.mono fun rv_2 h_5 H => ?_
        obtain ⟨t37_1, rfl, hL_5, H⟩ := H
        refine ⟨?_, ?_⟩
        · exact still_one one3 H.1
        obtain ⟨hc_1, H⟩ := H
        refine ⟨?_, ?_⟩
        · exact still_loc one25 hL_5 0 rfl 0 (v := (Sl.v w1_1)) rfl
        refine H.mono fun rv_3 h_6 H => ?_
        obtain ⟨t38_1, rfl, hL_6, H⟩ := H
        refine ⟨?_, ?_⟩
        · exact still_loc one25 hL_6 0 rfl 0 (v := (Sl.v w1_1)) rfl
        refine pop_not t38_1 ?_
        refine condM_b (fun hb_6 => ?_) (fun hb_6 => ?_)
        · have H := H.1 hb_6
          exact H
        · have H := H.2 hb_6
          refine pop_add .i64 t24_1 1 ?_
          obtain ⟨m_1, hm_1, H⟩ := H
          exact hn_1 _ _ ⟨m_1, hm_1, (w64 (t24_1 + 1)), rfl, H, hL_6⟩
      · have H := H.2 hb_5
        exact H
  · have H := H.1 hb_3
    refine guardM_n' hb_3 (by decide) ?_
    refine guardM_n' hb_3 (by decide) ?_
    refine guardM_n' hb_3 (by decide) ?_
    refine guardM_n' hb_3 (by decide) ?_
    refine guardM_n' hb_3 (by decide) ?_
    refine guardM_n' hb_3 (by decide) ?_
    refine pop_pickt' hb_3 ?_
    refine condM_t ?_
    exact H

/-! impl.isWalk -/
def u77 (P : Program) (g0_1 : Sl) (w1_1 : Sl) (w1_2 : Int) (h : Heap) (K : Value → Heap → Prop) : Prop :=
  ∀ (b_1 : Nat) (b_2 : Nat) (h_2 : Heap), h.size ≤ b_1 → h.size ≤ b_2 → Fr (In []) h h_2 → Vars h_2 [(b_2, [(Sl.v w1_1), (VI w1_2)]), (b_1, [(Sl.v g0_1)])] →
  eop P (Instr.buildSlice 25 1 #[(0, (VI w1_2))]) h_2 fun rv_1 h_3 => ∃ t10_1 : Sl, rv_1 = (Sl.v t10_1) ∧ Vars h_3 [(b_2, [(Sl.v w1_1), (VI w1_2)]), (b_1, [(Sl.v g0_1)])] ∧
  callM P 85 #[(Value.agg #[(Sl.v g0_1)]), (Sl.v t10_1)] h_3 fun rv_2 h_4 => ∃ t11_1 : Bool, rv_2 = (VB t11_1) ∧ Vars h_4 [(b_2, [(Sl.v w1_1), (VI w1_2)]), (b_1, [(Sl.v g0_1)])] ∧
  ((!t11_1) = true →
  K (VB false) h_4) ∧
  ((!t11_1) = false →
  ((!decide ((w1_1.n : Int) = (g0_1.n : Int))) = true →
  K (VB false) h_4) ∧
  ((!decide ((w1_1.n : Int) = (g0_1.n : Int))) = false →
  ∃ J_1 : Nat → Int → Heap → Prop, (∃ n0 : Nat, J_1 n0 0 h_4) ∧
  ∀ (n_1 : Nat) (t25_1 : Int) (h_5 : Heap), J_1 n_1 t25_1 h_5 → Vars h_5 [(b_2, [(Sl.v w1_1), (VI w1_2)]), (b_1, [(Sl.v g0_1)])] →
  ((decide (t25_1 < (w1_1.n : Int))) = true →
  InB w1_1 t25_1 ∧
  ∃ t29_1 : Int, hcell h_5 (Sl.at w1_1 t25_1 1) = some (VI t29_1) ∧
  InB g0_1 t25_1 ∧
  ∃ t35_1 : Sl, hcell h_5 (Sl.at g0_1 t25_1 1) = some (Sl.v t35_1) ∧
  pop P (Builtin.max_ #[3, 3] 3 #[(VI (w64 ((t35_1.n : Int) - 1))), (Value.int IntKind.i64 0)]) fun rv_3 => ∃ t38_1 : Int, rv_3 = (VI t38_1) ∧ 
  callM P 110 #[(VI t29_1), (VI 0), (VI t38_1)] h_5 fun rv_4 h_6 => ∃ t39_1 : Bool, rv_4 = (VB t39_1) ∧ Vars h_6 [(b_2, [(Sl.v w1_1), (VI w1_2)]), (b_1, [(Sl.v g0_1)])] ∧
  ((!t39_1) = true →
  K (VB false) h_6) ∧
  ((!t39_1) = false →
  ∃ m : Nat, m < n_1 ∧ J_1 m (w64 (t25_1 + 1)) h_6)) ∧
  ((decide (t25_1 < (w1_1.n : Int))) = false →
  K (VB true) h_5)))
theorem v77 (g0_1 : Sl) (w1_1 : Sl) (w1_2 : Int) (h : Heap) (K : Value → Heap → Prop) (H : u77 Try.prog g0_1 w1_1 w1_2 h K) : callM Try.prog 77 #[(Value.agg #[(Sl.v g0_1)]), (Value.agg #[(Sl.v w1_1), (VI w1_2)])] h K := by
  refine c77 (Value.agg #[(Sl.v g0_1)]) (Value.agg #[(Sl.v w1_1), (VI w1_2)]) h K ?_
  unfold u77 at H
  unfold t77
  have hL : Vars h [] := .nil
  refine eop_box 32 (Value.agg #[(Sl.v g0_1)]) rfl hL (fun b_1 h_1 hb_1 hf_1 hL_1 => ?_)
  refine eop_box 34 (Value.agg #[(Sl.v w1_1), (VI w1_2)]) rfl hL_1 (fun b_2 h_2 hb_2 hf_2 hL_2 => ?_)
  refine rop_locA agg32 hL_2 1 rfl 0 (vs := [(Sl.v g0_1)]) rfl rfl ?_
  refine pop_field 1 fld34_1 b_2 0 ?_
  refine rop_loc one3 hL_2 0 rfl 1 (v := (VI w1_2)) rfl ?_
  have H := H b_1 b_2 h_2 (Nat.le_trans (Fr.size (Fr.r (In []) _)) hb_1) (Nat.le_trans (Fr.size (Fr.no' (Fr.r (In []) _) hf_1)) hb_2) (Fr.no' (Fr.no' (Fr.r (In []) _) hf_1) hf_2) hL_2
  refine H.mono fun rv_1 h_3 H => ?_
  obtain ⟨t10_1, rfl, hL_3, H⟩ := H
  refine H.mono fun rv_2 h_4 H => ?_
  obtain ⟨t11_1, rfl, hL_4, H⟩ := H
  refine pop_not t11_1 ?_
  refine guardM_sf (fun hb_3 => ?_) (fun hb_3 => ?_)
  · have H := H.2 hb_3
    refine pop_field 0 fld34_0 b_2 0 ?_
    refine guardM_y' hb_3 ?_
    refine rop_loc one25 hL_4 0 rfl 0 (v := (Sl.v w1_1)) rfl ?_
    refine guardM_y' hb_3 ?_
    refine pop_len w1_1 _ _ sli25 ?_
    refine guardM_y' hb_3 ?_
    refine pop_field 0 fld32_0 b_1 0 ?_
    refine guardM_y' hb_3 ?_
    refine rop_loc one22 hL_4 1 rfl 0 (v := (Sl.v g0_1)) rfl ?_
    refine guardM_y' hb_3 ?_
    refine pop_len g0_1 _ _ sli22 ?_
    refine guardM_y' hb_3 ?_
    refine pop_ine .i64 _ _ (w1_1.n : Int) (g0_1.n : Int) ?_
    refine pop_pickf' hb_3 ?_
    refine condM_b (fun hb_4 => ?_) (fun hb_4 => ?_)
    · have H := H.1 hb_4
      exact H
    · have H := H.2 hb_4
      refine pop_field 0 fld34_0 b_2 0 ?_
      refine rop_loc one25 hL_4 0 rfl 0 (v := (Sl.v w1_1)) rfl ?_
      refine pop_len w1_1 _ _ sli25 ?_
      obtain ⟨J_1, ⟨n_2, h0_1⟩, HB_1⟩ := H
      refine loop_intro (J := fun (n : Nat) (vs : List Value) (h' : Heap) => ∃ t25_1 : Int, vs = [(VI t25_1)] ∧ J_1 n t25_1 h' ∧ Vars h' [(b_2, [(Sl.v w1_1), (VI w1_2)]), (b_1, [(Sl.v g0_1)])]) n_2 ⟨0, rfl, h0_1, hL_4⟩ ?_
      intro I_1 mu_1 hI_1 junk_1 tv_1 h_5 hi_1
      obtain ⟨n_1, ⟨t25_1, hv, hJ_1, hL_5⟩, hn_1⟩ := hI_1 _ _ hi_1
      cases hv
      have H := HB_1 n_1 t25_1 h_5 hJ_1 hL_5
      refine pop_lss .i64 t25_1 (w1_1.n : Int) ?_
      refine condM_b (fun hb_5 => ?_) (fun hb_5 => ?_)
      · have H := H.1 hb_5
        obtain ⟨hi_2, H⟩ := H
        refine pop_index sli25 siz3 .i64 w1_1 t25_1 hi_2 ?_
        obtain ⟨t29_1, hc_2, H⟩ := H
        refine rop_one one3 (VI t29_1) hc_2 ?_
        refine pop_field 0 fld32_0 b_1 0 ?_
        refine rop_loc one22 hL_5 1 rfl 0 (v := (Sl.v g0_1)) rfl ?_
        obtain ⟨hi_3, H⟩ := H
        refine pop_index sli22 siz25 .i64 g0_1 t25_1 hi_3 ?_
        obtain ⟨t35_1, hc_1, H⟩ := H
        refine rop_one one25 (Sl.v t35_1) hc_1 ?_
        refine pop_len t35_1 _ _ sli25 ?_
        refine pop_sub .i64 (t35_1.n : Int) 1 ?_
        refine H.mono fun rv_3 H => ?_
        obtain ⟨t38_1, rfl, H⟩ := H
        refine H.mono fun rv_4 h_6 H => ?_
        obtain ⟨t39_1, rfl, hL_6, H⟩ := H
        refine pop_not t39_1 ?_
        refine condM_b (fun hb_6 => ?_) (fun hb_6 => ?_)
        · have H := H.1 hb_6
          exact H
        · have H := H.2 hb_6
          refine pop_add .i64 t25_1 1 ?_
          obtain ⟨m_1, hm_1, H⟩ := H
          exact hn_1 _ _ ⟨m_1, hm_1, (w64 (t25_1 + 1)), rfl, H, hL_6⟩
      · have H := H.2 hb_5
        exact H
  · have H := H.1 hb_3
    refine guardM_n' hb_3 (by decide) ?_
    refine guardM_n' hb_3 (by decide) ?_
    refine guardM_n' hb_3 (by decide) ?_
    refine guardM_n' hb_3 (by decide) ?_
    refine guardM_n' hb_3 (by decide) ?_
    refine guardM_n' hb_3 (by decide) ?_
    refine pop_pickt' hb_3 ?_
    refine condM_t ?_
    exact H

/-! spec.grPlace -/
def u81 (P : Program) (g0_1 : Sl) (p1_1 : Int) (h : Heap) (K : Value → Heap → Prop) : Prop :=
  ∀ (b_1 : Nat) (h_1 : Heap), h.size ≤ b_1 → Fr (In []) h h_1 → Vars h_1 [(b_1, [(Sl.v g0_1)])] →
  callM P 119 #[(Value.agg #[(Sl.v g0_1)])] h_1 fun rv_1 h_2 => ∃ t6_1 : Bool, rv_1 = (VB t6_1) ∧ Vars h_2 [(b_1, [(Sl.v g0_1)])] ∧
  (t6_1 = true →
  callM P 109 #[(VI p1_1), (VI 0), (VI (w64 ((g0_1.n : Int) - 1)))] h_2 fun rv_2 h_3 => ∃ t13_1 : Bool, rv_2 = (VB t13_1) ∧ Vars h_3 [(b_1, [(Sl.v g0_1)])] ∧
  K (VB t13_1) h_3) ∧
  (t6_1 = false →
  K (VB false) h_2)
theorem v81 (g0_1 : Sl) (p1_1 : Int) (h : Heap) (K : Value → Heap → Prop) (H : u81 Try.prog g0_1 p1_1 h K) : callM Try.prog 81 #[(Value.agg #[(Sl.v g0_1)]), (VI p1_1)] h K := by
  refine c81 (Value.agg #[(Sl.v g0_1)]) (VI p1_1) h K ?_
  unfold u81 at H
  unfold t81
  have hL : Vars h [] := .nil
  refine eop_box 32 (Value.agg #[(Sl.v g0_1)]) rfl hL (fun b_1 h_1 hb_1 hf_1 hL_1 => ?_)
  refine rop_locA agg32 hL_1 0 rfl 0 (vs := [(Sl.v g0_1)]) rfl rfl ?_
  have H := H b_1 h_1 (Nat.le_trans (Fr.size (Fr.r (In []) _)) hb_1) (Fr.no' (Fr.r (In []) _) hf_1) hL_1
  refine H.mono fun rv_1 h_2 H => ?_
  obtain ⟨t6_1, rfl, hL_2, H⟩ := H
  refine guardM_st (fun hb_2 => ?_) (fun hb_2 => ?_)
  · have H := H.1 hb_2
    refine guardM_y' hb_2 ?_
    refine pop_field 0 fld32_0 b_1 0 ?_
    refine guardM_y' hb_2 ?_
    refine rop_loc one22 hL_2 0 rfl 0 (v := (Sl.v g0_1)) rfl ?_
    refine guardM_y' hb_2 ?_
    refine pop_len g0_1 _ _ sli22 ?_
    refine guardM_y' hb_2 ?_
    refine pop_sub .i64 (g0_1.n : Int) 1 ?_
    refine guardM_y' hb_2 ?_
    refine H.mono fun rv_2 h_3 H => ?_
    obtain ⟨t13_1, rfl, hL_3, H⟩ := H
    refine pop_pickt' hb_2 ?_
    exact H
  · have H := H.2 hb_2
    refine guardM_n' hb_2 (by decide) ?_
    refine guardM_n' hb_2 (by decide) ?_
    refine guardM_n' hb_2 (by decide) ?_
    refine guardM_n' hb_2 (by decide) ?_
    refine guardM_n' hb_2 (by decide) ?_
    refine pop_pickf' hb_2 ?_
    exact H

/-! impl.has -/
def u85 (P : Program) (g0_1 : Sl) (places1_1 : Sl) (h : Heap) (K : Value → Heap → Prop) : Prop :=
  ∀ (b_1 : Nat) (h_1 : Heap), h.size ≤ b_1 → Fr (In []) h h_1 → Vars h_1 [(b_1, [(Sl.v g0_1)])] →
  callM P 122 #[(Value.agg #[(Sl.v g0_1)])] h_1 fun rv_1 h_2 => ∃ t6_1 : Bool, rv_1 = (VB t6_1) ∧ Vars h_2 [(b_1, [(Sl.v g0_1)])] ∧
  (t6_1 = true →
  callM P 106 #[(Sl.v places1_1), (Value.func (Fn.func 123) #[] #[(VP b_1 0)])] h_2 fun rv_2 h_3 => ∃ x_1 : Sl, ∃ t10_1 : Bool, rv_2 = (VB t10_1) ∧ Vars h_3 [(b_1, [(Sl.v x_1)])] ∧
  K (VB (!t10_1)) h_3) ∧
  (t6_1 = false →
  K (VB false) h_2)
theorem v85 (g0_1 : Sl) (places1_1 : Sl) (h : Heap) (K : Value → Heap → Prop) (H : u85 Try.prog g0_1 places1_1 h K) : callM Try.prog 85 #[(Value.agg #[(Sl.v g0_1)]), (Sl.v places1_1)] h K := by
  refine c85 (Value.agg #[(Sl.v g0_1)]) (Sl.v places1_1) h K ?_
  unfold u85 at H
  unfold t85
  have hL : Vars h [] := .nil
  refine eop_box 32 (Value.agg #[(Sl.v g0_1)]) rfl hL (fun b_1 h_1 hb_1 hf_1 hL_1 => ?_)
  refine rop_locA agg32 hL_1 0 rfl 0 (vs := [(Sl.v g0_1)]) rfl rfl ?_
  have H := H b_1 h_1 (Nat.le_trans (Fr.size (Fr.r (In []) _)) hb_1) (Fr.no' (Fr.r (In []) _) hf_1) hL_1
  refine H.mono fun rv_1 h_2 H => ?_
  obtain ⟨t6_1, rfl, hL_2, H⟩ := H
  refine guardM_st (fun hb_2 => ?_) (fun hb_2 => ?_)
  · have H := H.1 hb_2
    refine guardM_y' hb_2 ?_
    refine pop_func _ _ _ ?_
    refine guardM_y' hb_2 ?_
    refine H.mono fun rv_2 h_3 H => ?_
    obtain ⟨x_1, t10_1, rfl, hL_3, H⟩ := H
    refine guardM_y' hb_2 ?_
    refine pop_not t10_1 ?_
    refine pop_pickt' hb_2 ?_
    exact H
  · have H := H.2 hb_2
    refine guardM_n' hb_2 (by decide) ?_
    refine guardM_n' hb_2 (by decide) ?_
    refine guardM_n' hb_2 (by decide) ?_
    refine pop_pickf' hb_2 ?_
    exact H

/-! spec.chCounts -/
def u91 (P : Program) (g0_1 : Sl) (sink1_1 : Int) (l2_1 : Sl) (l2_2 : Sl) (counts3_1 : Sl) (h : Heap) (K : Value → Heap → Prop) : Prop :=
  ∀ (b_1 : Nat) (b_2 : Nat) (h_2 : Heap), h.size ≤ b_1 → h.size ≤ b_2 → Fr (In []) h h_2 → Vars h_2 [(b_2, [(Sl.v l2_1), (Sl.v l2_2)]), (b_1, [(Sl.v g0_1)])] →
  callM P 96 #[(Value.agg #[(Sl.v g0_1)]), (VI sink1_1), (Value.agg #[(Sl.v l2_1), (Sl.v l2_2)])] h_2 fun rv_1 h_3 => ∃ t12_1 : Bool, rv_1 = (VB t12_1) ∧ Vars h_3 [(b_2, [(Sl.v l2_1), (Sl.v l2_2)]), (b_1, [(Sl.v g0_1)])] ∧
  (t12_1 = true →
  ((decide ((counts3_1.n : Int) = (g0_1.n : Int))) = true →
  callM P 97 #[(Sl.v counts3_1), (VI 0), (VI 50)] h_3 fun rv_2 h_4 => ∃ t23_1 : Bool, rv_2 = (VB t23_1) ∧ Vars h_4 [(b_2, [(Sl.v l2_1), (Sl.v l2_2)]), (b_1, [(Sl.v g0_1)])] ∧
  (t23_1 = true →
  InB counts3_1 sink1_1 ∧
  ∃ t29_1 : Int, hcell h_4 (Sl.at counts3_1 sink1_1 1) = some (VI t29_1) ∧
  K (VB (decide (t29_1 = 0))) h_4) ∧
  (t23_1 = false →
  K (VB false) h_4)) ∧
  ((decide ((counts3_1.n : Int) = (g0_1.n : Int))) = false →
  K (VB false) h_3)) ∧
  (t12_1 = false →
  K (VB false) h_3)
theorem v91 (g0_1 : Sl) (sink1_1 : Int) (l2_1 : Sl) (l2_2 : Sl) (counts3_1 : Sl) (h : Heap) (K : Value → Heap → Prop) (H : u91 Try.prog g0_1 sink1_1 l2_1 l2_2 counts3_1 h K) : callM Try.prog 91 #[(Value.agg #[(Sl.v g0_1)]), (VI sink1_1), (Value.agg #[(Sl.v l2_1), (Sl.v l2_2)]), (Sl.v counts3_1)] h K := by
  refine c91 (Value.agg #[(Sl.v g0_1)]) (VI sink1_1) (Value.agg #[(Sl.v l2_1), (Sl.v l2_2)]) (Sl.v counts3_1) h K ?_
  unfold u91 at H
  unfold t91
  have hL : Vars h [] := .nil
  refine eop_box 32 (Value.agg #[(Sl.v g0_1)]) rfl hL (fun b_1 h_1 hb_1 hf_1 hL_1 => ?_)
  refine eop_box 63 (Value.agg #[(Sl.v l2_1), (Sl.v l2_2)]) rfl hL_1 (fun b_2 h_2 hb_2 hf_2 hL_2 => ?_)
  refine rop_locA agg32 hL_2 1 rfl 0 (vs := [(Sl.v g0_1)]) rfl rfl ?_
  refine rop_locA agg63 hL_2 0 rfl 0 (vs := [(Sl.v l2_1), (Sl.v l2_2)]) rfl rfl ?_
  have H := H b_1 b_2 h_2 (Nat.le_trans (Fr.size (Fr.r (In []) _)) hb_1) (Nat.le_trans (Fr.size (Fr.no' (Fr.r (In []) _) hf_1)) hb_2) (Fr.no' (Fr.no' (Fr.r (In []) _) hf_1) hf_2) hL_2
  refine H.mono fun rv_1 h_3 H => ?_
  obtain ⟨t12_1, rfl, hL_3, H⟩ := H
  refine guardM_st (fun hb_3 => ?_) (fun hb_3 => ?_)
  · have H := H.1 hb_3
    refine guardM_y' hb_3 ?_
    refine pop_len counts3_1 _ _ sli25 ?_
    refine guardM_y' hb_3 ?_
    refine pop_field 0 fld32_0 b_1 0 ?_
    refine guardM_y' hb_3 ?_
    refine rop_loc one22 hL_3 1 rfl 0 (v := (Sl.v g0_1)) rfl ?_
    refine guardM_y' hb_3 ?_
    refine pop_len g0_1 _ _ sli22 ?_
    refine guardM_y' hb_3 ?_
    refine pop_ieq .i64 _ _ (counts3_1.n : Int) (g0_1.n : Int) ?_
    refine pop_pickt' hb_3 ?_
    refine guardM_st (fun hb_4 => ?_) (fun hb_4 => ?_)
    · have H := H.1 hb_4
      refine guardM_y' hb_4 ?_
      refine H.mono fun rv_2 h_4 H => ?_
      obtain ⟨t23_1, rfl, hL_4, H⟩ := H
      refine pop_pickt' hb_4 ?_
      refine guardM_st (fun hb_5 => ?_) (fun hb_5 => ?_)
      · have H := H.1 hb_5
        refine guardM_y' hb_5 ?_
        refine guardM_y' hb_5 ?_
        obtain ⟨hi_1, H⟩ := H
        refine pop_index sli25 siz3 .i64 counts3_1 sink1_1 hi_1 ?_
        refine guardM_y' hb_5 ?_
        obtain ⟨t29_1, hc_1, H⟩ := H
        refine rop_one one3 (VI t29_1) hc_1 ?_
        refine guardM_y' hb_5 ?_
        refine pop_ieq .i64 _ _ t29_1 0 ?_
        refine pop_pickt' hb_5 ?_
        exact H
      · have H := H.2 hb_5
        refine guardM_n' hb_5 (by decide) ?_
        refine guardM_n' hb_5 (by decide) ?_
        refine guardM_n' hb_5 (by decide) ?_
        refine guardM_n' hb_5 (by decide) ?_
        refine pop_pickf' hb_5 ?_
        exact H
    · have H := H.2 hb_4
      refine guardM_n' hb_4 (by decide) ?_
      refine pop_pickf' hb_4 ?_
      refine guardM_n (by decide) ?_
      refine guardM_n (by decide) ?_
      refine guardM_n (by decide) ?_
      refine guardM_n (by decide) ?_
      refine guardM_n (by decide) ?_
      refine pop_pickf _ _ ?_
      exact H
  · have H := H.2 hb_3
    refine guardM_n' hb_3 (by decide) ?_
    refine guardM_n' hb_3 (by decide) ?_
    refine guardM_n' hb_3 (by decide) ?_
    refine guardM_n' hb_3 (by decide) ?_
    refine guardM_n' hb_3 (by decide) ?_
    refine pop_pickf' hb_3 ?_
    refine guardM_n (by decide) ?_
    refine guardM_n (by decide) ?_
    refine pop_pickf _ _ ?_
    refine guardM_n (by decide) ?_
    refine guardM_n (by decide) ?_
    refine guardM_n (by decide) ?_
    refine guardM_n (by decide) ?_
    refine guardM_n (by decide) ?_
    refine pop_pickf _ _ ?_
    exact H

/-! spec.chLoaded -/
def u92 (P : Program) (sink0_1 : Int) (chips1_1 : Sl) (h : Heap) (K : Value → Heap → Prop) : Prop :=
  ∃ J_1 : Nat → Sl → Int → Heap → Prop, (∃ n0 : Nat, J_1 n0 nilSl 0 h) ∧
  ∀ (n_1 : Nat) (out5_1 : Sl) (t10_1 : Int) (h_1 : Heap), J_1 n_1 out5_1 t10_1 h_1 → Vars h_1 [] →
  ((decide (t10_1 < (chips1_1.n : Int))) = true →
  InB chips1_1 t10_1 ∧
  ∃ t14_1 : Int, hcell h_1 (Sl.at chips1_1 t10_1 1) = some (VI t14_1) ∧
  ((!decide (t10_1 = sink0_1)) = true →
  ((decide (0 < t14_1)) = true →
  eop P (Instr.buildSlice 25 1 #[(0, (VI t10_1))]) h_1 fun rv_1 h_2 => ∃ t24_1 : Sl, rv_1 = (Sl.v t24_1) ∧ Vars h_2 [] ∧
  eop P (appS 25 25 25 (Sl.v out5_1) (Sl.v t24_1)) h_2 fun rv_2 h_3 => ∃ t25_1 : Sl, rv_2 = (Sl.v t25_1) ∧ Vars h_3 [] ∧
  ∃ m : Nat, m < n_1 ∧ J_1 m t25_1 (w64 (t10_1 + 1)) h_3) ∧
  ((decide (0 < t14_1)) = false →
  ∃ m : Nat, m < n_1 ∧ J_1 m out5_1 (w64 (t10_1 + 1)) h_1)) ∧
  ((!decide (t10_1 = sink0_1)) = false →
  ∃ m : Nat, m < n_1 ∧ J_1 m out5_1 (w64 (t10_1 + 1)) h_1)) ∧
  ((decide (t10_1 < (chips1_1.n : Int))) = false →
  K (Sl.v out5_1) h_1)
theorem v92 (sink0_1 : Int) (chips1_1 : Sl) (h : Heap) (K : Value → Heap → Prop) (H : u92 Try.prog sink0_1 chips1_1 h K) : callM Try.prog 92 #[(VI sink0_1), (Sl.v chips1_1)] h K := by
  refine c92 (VI sink0_1) (Sl.v chips1_1) h K ?_
  unfold u92 at H
  unfold t92
  have hL : Vars h [] := .nil
  refine pop_len chips1_1 _ _ sli25 ?_
  obtain ⟨J_1, ⟨n_2, h0_1⟩, HB_1⟩ := H
  refine loop_intro (J := fun (n : Nat) (vs : List Value) (h' : Heap) => ∃ out5_1 : Sl, ∃ t10_1 : Int, vs = [(Sl.v out5_1), (VI t10_1)] ∧ J_1 n out5_1 t10_1 h' ∧ Vars h' []) n_2 ⟨nilSl, 0, rfl, h0_1, hL⟩ ?_
  intro I_1 mu_1 hI_1 junk_1 tv_1 tv_2 h_1 hi_1
  obtain ⟨n_1, ⟨out5_1, t10_1, hv, hJ_1, hL_1⟩, hn_1⟩ := hI_1 _ _ hi_1
  cases hv
  have H := HB_1 n_1 out5_1 t10_1 h_1 hJ_1 hL_1
  refine pop_lss .i64 t10_1 (chips1_1.n : Int) ?_
  refine condM_b (fun hb_1 => ?_) (fun hb_1 => ?_)
  · have H := H.1 hb_1
    obtain ⟨hi_2, H⟩ := H
    refine pop_index sli25 siz3 .i64 chips1_1 t10_1 hi_2 ?_
    obtain ⟨t14_1, hc_1, H⟩ := H
    refine rop_one one3 (VI t14_1) hc_1 ?_
    refine pop_ine .i64 _ _ t10_1 sink0_1 ?_
    refine guardM_st (fun hb_2 => ?_) (fun hb_2 => ?_)
    · have H := H.1 hb_2
      refine guardM_y' hb_2 ?_
      refine pop_gtr .i64 t14_1 0 ?_
      refine pop_pickt' hb_2 ?_
      refine condM_b (fun hb_3 => ?_) (fun hb_3 => ?_)
      · have H := H.1 hb_3
        refine H.mono fun rv_1 h_2 H => ?_
        obtain ⟨t24_1, rfl, hL_2, H⟩ := H
        refine H.mono fun rv_2 h_3 H => ?_
        obtain ⟨t25_1, rfl, hL_3, H⟩ := H
        refine pop_add .i64 t10_1 1 ?_
        obtain ⟨m_1, hm_1, H⟩ := H
        exact hn_1 _ _ ⟨m_1, hm_1, t25_1, (w64 (t10_1 + 1)), rfl, H, hL_3⟩
      · have H := H.2 hb_3
        refine pop_add .i64 t10_1 1 ?_
        obtain ⟨m_2, hm_2, H⟩ := H
        exact hn_1 _ _ ⟨m_2, hm_2, out5_1, (w64 (t10_1 + 1)), rfl, H, hL_1⟩
    · have H := H.2 hb_2
      refine guardM_n' hb_2 (by decide) ?_
      refine pop_pickf' hb_2 ?_
      refine condM_f ?_
      refine pop_add .i64 t10_1 1 ?_
      obtain ⟨m_3, hm_3, H⟩ := H
      exact hn_1 _ _ ⟨m_3, hm_3, out5_1, (w64 (t10_1 + 1)), rfl, H, hL_1⟩
  · have H := H.2 hb_1
    exact H

/-! spec.chForce -/
def u93 (P : Program) (g0_1 : Sl) (l1_1 : Sl) (l1_2 : Sl) (counts2_1 : Sl) (h : Heap) (K : Value → Heap → Prop) : Prop :=
  ∀ (b_1 : Nat) (b_2 : Nat) (b_3 : Nat) (h_3 : Heap), h.size ≤ b_1 → h.size ≤ b_2 → h.size ≤ b_3 → Fr (In []) h h_3 → Vars h_3 [(b_3, [(Sl.v nilSl), (Sl.v nilSl)]), (b_2, [(Sl.v l1_1), (Sl.v l1_2)]), (b_1, [(Sl.v g0_1)])] →
  callM P 98 #[(Value.agg #[(Sl.v l1_1), (Sl.v l1_2)])] h_3 fun rv_1 h_4 => ∃ t11_1 : Sl, ∃ t11_2 : Sl, rv_1 = (Value.agg #[(Sl.v t11_1), (Sl.v t11_2)]) ∧ Vars h_4 [(b_3, [(Sl.v nilSl), (Sl.v nilSl)]), (b_2, [(Sl.v l1_1), (Sl.v l1_2)]), (b_1, [(Sl.v g0_1)])] ∧
  ∀ (b_4 : Nat) (h_6 : Heap), h_4.size ≤ b_4 → Fr (In []) h_4 h_6 → Vars h_6 [(b_4, [(Sl.v t11_1), (Sl.v t11_2)]), (b_3, [(Sl.v nilSl), (Sl.v nilSl)]), (b_2, [(Sl.v l1_1), (Sl.v l1_2)]), (b_1, [(Sl.v g0_1)])] →
  ∃ J_1 : Nat → Int → Heap → Prop, (∃ n0 : Nat, J_1 n0 0 h_6) ∧
  ∀ (n_1 : Nat) (t14_1 : Int) (h_7 : Heap), J_1 n_1 t14_1 h_7 → Vars h_7 [(b_4, [(Sl.v t11_1), (Sl.v t11_2)]), (b_3, [(Sl.v nilSl), (Sl.v nilSl)]), (b_2, [(Sl.v l1_1), (Sl.v l1_2)]), (b_1, [(Sl.v g0_1)])] →
  ((decide (t14_1 < (counts2_1.n : Int))) = true →
  InB counts2_1 t14_1 ∧
  ∃ t18_1 : Int, hcell h_7 (Sl.at counts2_1 t14_1 1) = some (VI t18_1) ∧
  ∃ J_2 : Nat → Int → Heap → Prop, (∃ n0 : Nat, J_2 n0 t18_1 h_7) ∧
  ∀ (n_2 : Nat) (n9_1 : Int) (h_8 : Heap), J_2 n_2 n9_1 h_8 → Vars h_8 [(b_4, [(Sl.v t11_1), (Sl.v t11_2)]), (b_3, [(Sl.v nilSl), (Sl.v nilSl)]), (b_2, [(Sl.v l1_1), (Sl.v l1_2)]), (b_1, [(Sl.v g0_1)])] →
  ((decide (0 < n9_1)) = true →
  callM P 99 #[(Value.agg #[(Sl.v g0_1)]), (Value.agg #[(Sl.v t11_1), (Sl.v t11_2)]), (VI t14_1)] h_8 fun rv_2 h_9 => Vars h_9 [(b_4, [(Sl.v t11_1), (Sl.v t11_2)]), (b_3, [(Sl.v nilSl), (Sl.v nilSl)]), (b_2, [(Sl.v l1_1), (Sl.v l1_2)]), (b_1, [(Sl.v g0_1)])] ∧
  ∃ m : Nat, m < n_2 ∧ J_2 m (w64 (n9_1 - 1)) h_9) ∧
  ((decide (0 < n9_1)) = false →
  ∃ m : Nat, m < n_1 ∧ J_1 m (w64 (t14_1 + 1)) h_8)) ∧
  ((decide (t14_1 < (counts2_1.n : Int))) = false →
  ∀ (h_10 : Heap), Fr (In [b_3]) h_7 h_10 → Vars h_10 [(b_4, [(Sl.v t11_1), (Sl.v t11_2)]), (b_3, [(Sl.v t11_1), (Sl.v t11_2)]), (b_2, [(Sl.v l1_1), (Sl.v l1_2)]), (b_1, [(Sl.v g0_1)])] →
  K (Value.agg #[(Sl.v t11_1), (Sl.v t11_2)]) h_10)
theorem v93 (g0_1 : Sl) (l1_1 : Sl) (l1_2 : Sl) (counts2_1 : Sl) (h : Heap) (K : Value → Heap → Prop) (H : u93 Try.prog g0_1 l1_1 l1_2 counts2_1 h K) : callM Try.prog 93 #[(Value.agg #[(Sl.v g0_1)]), (Value.agg #[(Sl.v l1_1), (Sl.v l1_2)]), (Sl.v counts2_1)] h K := by
  refine c93 (Value.agg #[(Sl.v g0_1)]) (Value.agg #[(Sl.v l1_1), (Sl.v l1_2)]) (Sl.v counts2_1) h K ?_
  unfold u93 at H
  unfold t93
  have hL : Vars h [] := .nil
  refine eop_box 32 (Value.agg #[(Sl.v g0_1)]) rfl hL (fun b_1 h_1 hb_1 hf_1 hL_1 => ?_)
  refine eop_box 63 (Value.agg #[(Sl.v l1_1), (Sl.v l1_2)]) rfl hL_1 (fun b_2 h_2 hb_2 hf_2 hL_2 => ?_)
  refine eop_alloc 63 zer63 rfl hL_2 (fun b_3 h_3 hb_3 hf_3 hL_3 => ?_)
  refine rop_locA agg63 hL_3 1 rfl 0 (vs := [(Sl.v l1_1), (Sl.v l1_2)]) rfl rfl ?_
  have H := H b_1 b_2 b_3 h_3 (Nat.le_trans (Fr.size (Fr.r (In []) _)) hb_1) (Nat.le_trans (Fr.size (Fr.no' (Fr.r (In []) _) hf_1)) hb_2) (Nat.le_trans (Fr.size (Fr.no' (Fr.no' (Fr.r (In []) _) hf_1) hf_2)) hb_3) (Fr.no' (Fr.no' (Fr.no' (Fr.r (In []) _) hf_1) hf_2) hf_3) hL_3
  refine H.mono fun rv_1 h_4 H => ?_
  obtain ⟨t11_1, t11_2, rfl, hL_4, H⟩ := H
  refine eop_alloc 63 zer63 rfl hL_4 (fun b_4 h_5 hb_4 hf_4 hL_5 => ?_)
  refine uop_loc siz63 hL_5 0 rfl 0 [(Sl.v t11_1), (Sl.v t11_2)] rfl rfl rfl (Nat.le_of_ble_eq_true rfl) (L' := [(b_4, [(Sl.v t11_1), (Sl.v t11_2)]), (b_3, [(Sl.v nilSl), (Sl.v nilSl)]), (b_2, [(Sl.v l1_1), (Sl.v l1_2)]), (b_1, [(Sl.v g0_1)])]) rfl (fun h_6 hf_5 hL_6 => ?_)
  refine pop_len counts2_1 _ _ sli25 ?_
  have H := H b_4 h_6 (Nat.le_trans (Fr.size (Fr.r (In []) _)) hb_4) (Fr.new (Fr.no' (Fr.r (In []) _) hf_4) (Nat.le_trans (Fr.size (Fr.r (In []) _)) hb_4) hf_5) hL_6
  obtain ⟨J_1, ⟨n_4, h0_2⟩, HB_2⟩ := H
  refine loop_intro (J := fun (n : Nat) (vs : List Value) (h' : Heap) => ∃ t14_1 : Int, vs = [(VI t14_1)] ∧ J_1 n t14_1 h' ∧ Vars h' [(b_4, [(Sl.v t11_1), (Sl.v t11_2)]), (b_3, [(Sl.v nilSl), (Sl.v nilSl)]), (b_2, [(Sl.v l1_1), (Sl.v l1_2)]), (b_1, [(Sl.v g0_1)])]) n_4 ⟨0, rfl, h0_2, hL_6⟩ ?_
  intro I_2 mu_2 hI_2 junk_1 tv_2 h_7 hi_1
  obtain ⟨n_1, ⟨t14_1, hv, hJ_1, hL_7⟩, hn_1⟩ := hI_2 _ _ hi_1
  cases hv
  have H := HB_2 n_1 t14_1 h_7 hJ_1 hL_7
  refine pop_lss .i64 t14_1 (counts2_1.n : Int) ?_
  refine condM_b (fun hb_5 => ?_) (fun hb_5 => ?_)
  · have H := H.1 hb_5
    obtain ⟨hi_2, H⟩ := H
    refine pop_index sli25 siz3 .i64 counts2_1 t14_1 hi_2 ?_
    obtain ⟨t18_1, hc_1, H⟩ := H
    refine rop_one one3 (VI t18_1) hc_1 ?_
    obtain ⟨J_2, ⟨n_3, h0_1⟩, HB_1⟩ := H
    refine loop_intro (J := fun (n : Nat) (vs : List Value) (h' : Heap) => ∃ n9_1 : Int, vs = [(VI n9_1)] ∧ J_2 n n9_1 h' ∧ Vars h' [(b_4, [(Sl.v t11_1), (Sl.v t11_2)]), (b_3, [(Sl.v nilSl), (Sl.v nilSl)]), (b_2, [(Sl.v l1_1), (Sl.v l1_2)]), (b_1, [(Sl.v g0_1)])]) n_3 ⟨t18_1, rfl, h0_1, hL_7⟩ ?_
    intro I_1 mu_1 hI_1 junk_2 tv_1 h_8 hi_3
    obtain ⟨n_2, ⟨n9_1, hv, hJ_2, hL_8⟩, hn_2⟩ := hI_1 _ _ hi_3
    cases hv
    have H := HB_1 n_2 n9_1 h_8 hJ_2 hL_8
    refine pop_gtr .i64 n9_1 0 ?_
    refine condM_b (fun hb_6 => ?_) (fun hb_6 => ?_)
    · have H := H.1 hb_6
      refine rop_locA agg32 hL_8 3 rfl 0 (vs := [(Sl.v g0_1)]) rfl rfl ?_
      refine rop_locA agg63 hL_8 0 rfl 0 (vs := [(Sl.v t11_1), (Sl.v t11_2)]) rfl rfl ?_
      refine H.mono fun rv_2 h_9 H => ?_
      obtain ⟨hL_9, H⟩ := H
      refine pop_sub .i64 n9_1 1 ?_
      obtain ⟨m_1, hm_1, H⟩ := H
      exact hn_2 _ _ ⟨m_1, hm_1, (w64 (n9_1 - 1)), rfl, H, hL_9⟩
    · have H := H.2 hb_6
      refine pop_add .i64 t14_1 1 ?_
      obtain ⟨m_2, hm_2, H⟩ := H
      exact hn_1 _ _ ⟨m_2, hm_2, (w64 (t14_1 + 1)), rfl, H, hL_8⟩
  · have H := H.2 hb_5
    refine rop_locA agg63 hL_7 0 rfl 0 (vs := [(Sl.v t11_1), (Sl.v t11_2)]) rfl rfl ?_
    refine uop_loc siz63 hL_7 1 rfl 0 [(Sl.v t11_1), (Sl.v t11_2)] rfl rfl rfl (Nat.le_of_ble_eq_true rfl) (L' := [(b_4, [(Sl.v t11_1), (Sl.v t11_2)]), (b_3, [(Sl.v t11_1), (Sl.v t11_2)]), (b_2, [(Sl.v l1_1), (Sl.v l1_2)]), (b_1, [(Sl.v g0_1)])]) rfl (fun h_10 hf_6 hL_10 => ?_)
    refine rop_locA agg63 hL_10 1 rfl 0 (vs := [(Sl.v t11_1), (Sl.v t11_2)]) rfl rfl ?_
    have H := H  h_10  (Fr.old (Fr.r (In []) _) hf_6) hL_10
    exact H

/-! impl.force -/
def u94 (P : Program) (g0_1 : Sl) (sink1_1 : Int) (l2_1 : Sl) (l2_2 : Sl) (counts3_1 : Sl) (h : Heap) (K : Value → Heap → Prop) : Prop :=
  ∀ (b_1 : Nat) (b_2 : Nat) (b_3 : Nat) (h_3 : Heap), h.size ≤ b_1 → h.size ≤ b_2 → h.size ≤ b_3 → Fr (In []) h h_3 → Vars h_3 [(b_3, [(Sl.v nilSl), (Sl.v nilSl)]), (b_2, [(Sl.v l2_1), (Sl.v l2_2)]), (b_1, [(Sl.v g0_1)])] →
  callM P 100 #[(Value.agg #[(Sl.v g0_1)]), (VI sink1_1), (Value.agg #[(Sl.v l2_1), (Sl.v l2_2)])] h_3 fun rv_1 h_4 => ∃ t16_1 : Bool, rv_1 = (VB t16_1) ∧ Vars h_4 [(b_3, [(Sl.v nilSl), (Sl.v nilSl)]), (b_2, [(Sl.v l2_1), (Sl.v l2_2)]), (b_1, [(Sl.v g0_1)])] ∧
  ((!t16_1) = true →
  ∀ (h_16 : Heap), Fr (In [b_3]) h_4 h_16 → Vars h_16 [(b_3, [(Sl.v nilSl), (Sl.v nilSl)]), (b_2, [(Sl.v l2_1), (Sl.v l2_2)]), (b_1, [(Sl.v g0_1)])] →
  K (Value.tuple #[(Value.agg #[(Sl.v nilSl), (Sl.v nilSl)]), (VB false)]) h_16) ∧
  ((!t16_1) = false →
  ((!decide ((counts3_1.n : Int) = (g0_1.n : Int))) = true →
  ∀ (h_15 : Heap), Fr (In [b_3]) h_4 h_15 → Vars h_15 [(b_3, [(Sl.v nilSl), (Sl.v nilSl)]), (b_2, [(Sl.v l2_1), (Sl.v l2_2)]), (b_1, [(Sl.v g0_1)])] →
  K (Value.tuple #[(Value.agg #[(Sl.v nilSl), (Sl.v nilSl)]), (VB false)]) h_15) ∧
  ((!decide ((counts3_1.n : Int) = (g0_1.n : Int))) = false →
  InB counts3_1 sink1_1 ∧
  ∃ t30_1 : Int, hcell h_4 (Sl.at counts3_1 sink1_1 1) = some (VI t30_1) ∧
  ((!decide (t30_1 = 0)) = true →
  ∀ (h_14 : Heap), Fr (In [b_3]) h_4 h_14 → Vars h_14 [(b_3, [(Sl.v nilSl), (Sl.v nilSl)]), (b_2, [(Sl.v l2_1), (Sl.v l2_2)]), (b_1, [(Sl.v g0_1)])] →
  K (Value.tuple #[(Value.agg #[(Sl.v nilSl), (Sl.v nilSl)]), (VB false)]) h_14) ∧
  ((!decide (t30_1 = 0)) = false →
  callM P 106 #[(Sl.v counts3_1), (Value.func (.func 130) #[] #[])] h_4 fun rv_2 h_5 => ∃ t35_1 : Bool, rv_2 = (VB t35_1) ∧ Vars h_5 [(b_3, [(Sl.v nilSl), (Sl.v nilSl)]), (b_2, [(Sl.v l2_1), (Sl.v l2_2)]), (b_1, [(Sl.v g0_1)])] ∧
  (t35_1 = true →
  ∀ (h_6 : Heap), Fr (In [b_3]) h_5 h_6 → Vars h_6 [(b_3, [(Sl.v nilSl), (Sl.v nilSl)]), (b_2, [(Sl.v l2_1), (Sl.v l2_2)]), (b_1, [(Sl.v g0_1)])] →
  K (Value.tuple #[(Value.agg #[(Sl.v nilSl), (Sl.v nilSl)]), (VB false)]) h_6) ∧
  (t35_1 = false →
  callM P 101 #[(Value.agg #[(Sl.v l2_1), (Sl.v l2_2)])] h_5 fun rv_3 h_7 => ∃ t39_1 : Sl, ∃ t39_2 : Sl, rv_3 = (Value.agg #[(Sl.v t39_1), (Sl.v t39_2)]) ∧ Vars h_7 [(b_3, [(Sl.v nilSl), (Sl.v nilSl)]), (b_2, [(Sl.v l2_1), (Sl.v l2_2)]), (b_1, [(Sl.v g0_1)])] ∧
  ∀ (b_4 : Nat) (h_9 : Heap), h_7.size ≤ b_4 → Fr (In []) h_7 h_9 → Vars h_9 [(b_4, [(Sl.v t39_1), (Sl.v t39_2)]), (b_3, [(Sl.v nilSl), (Sl.v nilSl)]), (b_2, [(Sl.v l2_1), (Sl.v l2_2)]), (b_1, [(Sl.v g0_1)])] →
  ∃ J_1 : Nat → Int → Sl → Sl → Heap → Prop, (∃ n0 : Nat, J_1 n0 0 t39_1 t39_2 h_9) ∧
  ∀ (n_1 : Nat) (t42_1 : Int) (x_1 : Sl) (x_2 : Sl) (h_10 : Heap), J_1 n_1 t42_1 x_1 x_2 h_10 → Vars h_10 [(b_4, [(Sl.v x_1), (Sl.v x_2)]), (b_3, [(Sl.v nilSl), (Sl.v nilSl)]), (b_2, [(Sl.v l2_1), (Sl.v l2_2)]), (b_1, [(Sl.v g0_1)])] →
  ((decide (t42_1 < (counts3_1.n : Int))) = true →
  InB counts3_1 t42_1 ∧
  ∃ t46_1 : Int, hcell h_10 (Sl.at counts3_1 t42_1 1) = some (VI t46_1) ∧
  ∃ J_2 : Nat → Int → Sl → Sl → Heap → Prop, (∃ n0 : Nat, J_2 n0 0 x_1 x_2 h_10) ∧
  ∀ (n_2 : Nat) (t48_1 : Int) (x_3 : Sl) (x_4 : Sl) (h_11 : Heap), J_2 n_2 t48_1 x_3 x_4 h_11 → Vars h_11 [(b_4, [(Sl.v x_3), (Sl.v x_4)]), (b_3, [(Sl.v nilSl), (Sl.v nilSl)]), (b_2, [(Sl.v l2_1), (Sl.v l2_2)]), (b_1, [(Sl.v g0_1)])] →
  ((decide (t48_1 < t46_1)) = true →
  callM P 131 #[(VP b_4 0), (Value.agg #[(Sl.v g0_1)]), (VI t42_1)] h_11 fun rv_4 h_12 => ∃ x_5 : Sl, ∃ x_6 : Sl, Vars h_12 [(b_4, [(Sl.v x_5), (Sl.v x_6)]), (b_3, [(Sl.v nilSl), (Sl.v nilSl)]), (b_2, [(Sl.v l2_1), (Sl.v l2_2)]), (b_1, [(Sl.v g0_1)])] ∧
  ∃ m : Nat, m < n_2 ∧ J_2 m (w64 (t48_1 + 1)) x_5 x_6 h_12) ∧
  ((decide (t48_1 < t46_1)) = false →
  ∃ m : Nat, m < n_1 ∧ J_1 m (w64 (t42_1 + 1)) x_3 x_4 h_11)) ∧
  ((decide (t42_1 < (counts3_1.n : Int))) = false →
  ∀ (h_13 : Heap), Fr (In [b_3]) h_10 h_13 → Vars h_13 [(b_4, [(Sl.v x_1), (Sl.v x_2)]), (b_3, [(Sl.v x_1), (Sl.v x_2)]), (b_2, [(Sl.v l2_1), (Sl.v l2_2)]), (b_1, [(Sl.v g0_1)])] →
  K (Value.tuple #[(Value.agg #[(Sl.v x_1), (Sl.v x_2)]), (VB true)]) h_13)))))
theorem v94 (g0_1 : Sl) (sink1_1 : Int) (l2_1 : Sl) (l2_2 : Sl) (counts3_1 : Sl) (h : Heap) (K : Value → Heap → Prop) (H : u94 Try.prog g0_1 sink1_1 l2_1 l2_2 counts3_1 h K) : callM Try.prog 94 #[(Value.agg #[(Sl.v g0_1)]), (VI sink1_1), (Value.agg #[(Sl.v l2_1), (Sl.v l2_2)]), (Sl.v counts3_1)] h K := by
  refine c94 (Value.agg #[(Sl.v g0_1)]) (VI sink1_1) (Value.agg #[(Sl.v l2_1), (Sl.v l2_2)]) (Sl.v counts3_1) h K ?_
  unfold u94 at H
  unfold t94
  have hL : Vars h [] := .nil
  refine eop_box 32 (Value.agg #[(Sl.v g0_1)]) rfl hL (fun b_1 h_1 hb_1 hf_1 hL_1 => ?_)
  refine eop_box 63 (Value.agg #[(Sl.v l2_1), (Sl.v l2_2)]) rfl hL_1 (fun b_2 h_2 hb_2 hf_2 hL_2 => ?_)
  refine eop_alloc 63 zer63 rfl hL_2 (fun b_3 h_3 hb_3 hf_3 hL_3 => ?_)
  refine rop_locA agg32 hL_3 2 rfl 0 (vs := [(Sl.v g0_1)]) rfl rfl ?_
  refine rop_locA agg63 hL_3 1 rfl 0 (vs := [(Sl.v l2_1), (Sl.v l2_2)]) rfl rfl ?_
  have H := H b_1 b_2 b_3 h_3 (Nat.le_trans (Fr.size (Fr.r (In []) _)) hb_1) (Nat.le_trans (Fr.size (Fr.no' (Fr.r (In []) _) hf_1)) hb_2) (Nat.le_trans (Fr.size (Fr.no' (Fr.no' (Fr.r (In []) _) hf_1) hf_2)) hb_3) (Fr.no' (Fr.no' (Fr.no' (Fr.r (In []) _) hf_1) hf_2) hf_3) hL_3
  refine H.mono fun rv_1 h_4 H => ?_
  obtain ⟨t16_1, rfl, hL_4, H⟩ := H
  refine pop_not t16_1 ?_
  refine guardM_sf (fun hb_4 => ?_) (fun hb_4 => ?_)
  · have H := H.2 hb_4
    refine guardM_y' hb_4 ?_
    refine pop_len counts3_1 _ _ sli25 ?_
    refine guardM_y' hb_4 ?_
    refine pop_field 0 fld32_0 b_1 0 ?_
    refine guardM_y' hb_4 ?_
    refine rop_loc one22 hL_4 2 rfl 0 (v := (Sl.v g0_1)) rfl ?_
    refine guardM_y' hb_4 ?_
    refine pop_len g0_1 _ _ sli22 ?_
    refine guardM_y' hb_4 ?_
    refine pop_ine .i64 _ _ (counts3_1.n : Int) (g0_1.n : Int) ?_
    refine pop_pickf' hb_4 ?_
    refine guardM_sf (fun hb_5 => ?_) (fun hb_5 => ?_)
    · have H := H.2 hb_5
      refine guardM_y' hb_5 ?_
      refine guardM_y' hb_5 ?_
      obtain ⟨hi_1, H⟩ := H
      refine pop_index sli25 siz3 .i64 counts3_1 sink1_1 hi_1 ?_
      refine guardM_y' hb_5 ?_
      obtain ⟨t30_1, hc_2, H⟩ := H
      refine rop_one one3 (VI t30_1) hc_2 ?_
      refine guardM_y' hb_5 ?_
      refine pop_ine .i64 _ _ t30_1 0 ?_
      refine pop_pickf' hb_5 ?_
      refine guardM_sf (fun hb_6 => ?_) (fun hb_6 => ?_)
      · have H := H.2 hb_6
        refine guardM_y' hb_6 ?_
        refine H.mono fun rv_2 h_5 H => ?_
        obtain ⟨t35_1, rfl, hL_5, H⟩ := H
        refine pop_pickf' hb_6 ?_
        refine condM_b (fun hb_7 => ?_) (fun hb_7 => ?_)
        · have H := H.1 hb_7
          refine pop.mk' (v := (Value.agg #[(Sl.v nilSl), (Sl.v nilSl)])) (fun w => by kernel_rfl) ?_
          refine uop_loc siz63 hL_5 0 rfl 0 [(Sl.v nilSl), (Sl.v nilSl)] rfl rfl rfl (Nat.le_of_ble_eq_true rfl) (L' := [(b_3, [(Sl.v nilSl), (Sl.v nilSl)]), (b_2, [(Sl.v l2_1), (Sl.v l2_2)]), (b_1, [(Sl.v g0_1)])]) rfl (fun h_6 hf_4 hL_6 => ?_)
          refine rop_locA agg63 hL_6 0 rfl 0 (vs := [(Sl.v nilSl), (Sl.v nilSl)]) rfl rfl ?_
          have H := H  h_6  (Fr.old (Fr.r (In []) _) hf_4) hL_6
          exact H
        · have H := H.2 hb_7
          refine rop_locA agg63 hL_5 1 rfl 0 (vs := [(Sl.v l2_1), (Sl.v l2_2)]) rfl rfl ?_
          refine H.mono fun rv_3 h_7 H => ?_
          obtain ⟨t39_1, t39_2, rfl, hL_7, H⟩ := H
          refine eop_alloc 63 zer63 rfl hL_7 (fun b_4 h_8 hb_8 hf_5 hL_8 => ?_)
          refine uop_loc siz63 hL_8 0 rfl 0 [(Sl.v t39_1), (Sl.v t39_2)] rfl rfl rfl (Nat.le_of_ble_eq_true rfl) (L' := [(b_4, [(Sl.v t39_1), (Sl.v t39_2)]), (b_3, [(Sl.v nilSl), (Sl.v nilSl)]), (b_2, [(Sl.v l2_1), (Sl.v l2_2)]), (b_1, [(Sl.v g0_1)])]) rfl (fun h_9 hf_6 hL_9 => ?_)
          refine pop_len counts3_1 _ _ sli25 ?_
          have H := H b_4 h_9 (Nat.le_trans (Fr.size (Fr.r (In []) _)) hb_8) (Fr.new (Fr.no' (Fr.r (In []) _) hf_5) (Nat.le_trans (Fr.size (Fr.r (In []) _)) hb_8) hf_6) hL_9
          obtain ⟨J_1, ⟨n_4, h0_2⟩, HB_2⟩ := H
          refine loop_intro (J := fun (n : Nat) (vs : List Value) (h' : Heap) => ∃ t42_1 : Int, ∃ x_1 : Sl, ∃ x_2 : Sl, vs = [(VI t42_1)] ∧ J_1 n t42_1 x_1 x_2 h' ∧ Vars h' [(b_4, [(Sl.v x_1), (Sl.v x_2)]), (b_3, [(Sl.v nilSl), (Sl.v nilSl)]), (b_2, [(Sl.v l2_1), (Sl.v l2_2)]), (b_1, [(Sl.v g0_1)])]) n_4 ⟨0, t39_1, t39_2, rfl, h0_2, hL_9⟩ ?_
          intro I_2 mu_2 hI_2 junk_1 tv_2 h_10 hi_2
          obtain ⟨n_1, ⟨t42_1, x_1, x_2, hv, hJ_1, hL_10⟩, hn_1⟩ := hI_2 _ _ hi_2
          cases hv
          have H := HB_2 n_1 t42_1 x_1 x_2 h_10 hJ_1 hL_10
          refine pop_lss .i64 t42_1 (counts3_1.n : Int) ?_
          refine condM_b (fun hb_9 => ?_) (fun hb_9 => ?_)
          · have H := H.1 hb_9
            obtain ⟨hi_3, H⟩ := H
            refine pop_index sli25 siz3 .i64 counts3_1 t42_1 hi_3 ?_
            obtain ⟨t46_1, hc_1, H⟩ := H
            refine rop_one one3 (VI t46_1) hc_1 ?_
            obtain ⟨J_2, ⟨n_3, h0_1⟩, HB_1⟩ := H
            refine loop_intro (J := fun (n : Nat) (vs : List Value) (h' : Heap) => ∃ t48_1 : Int, ∃ x_3 : Sl, ∃ x_4 : Sl, vs = [(VI t48_1)] ∧ J_2 n t48_1 x_3 x_4 h' ∧ Vars h' [(b_4, [(Sl.v x_3), (Sl.v x_4)]), (b_3, [(Sl.v nilSl), (Sl.v nilSl)]), (b_2, [(Sl.v l2_1), (Sl.v l2_2)]), (b_1, [(Sl.v g0_1)])]) n_3 ⟨0, x_1, x_2, rfl, h0_1, hL_10⟩ ?_
            intro I_1 mu_1 hI_1 junk_2 tv_1 h_11 hi_4
            obtain ⟨n_2, ⟨t48_1, x_3, x_4, hv, hJ_2, hL_11⟩, hn_2⟩ := hI_1 _ _ hi_4
            cases hv
            have H := HB_1 n_2 t48_1 x_3 x_4 h_11 hJ_2 hL_11
            refine pop_lss .i64 t48_1 t46_1 ?_
            refine condM_b (fun hb_10 => ?_) (fun hb_10 => ?_)
            · have H := H.1 hb_10
              refine rop_locA agg32 hL_11 3 rfl 0 (vs := [(Sl.v g0_1)]) rfl rfl ?_
              refine H.mono fun rv_4 h_12 H => ?_
              obtain ⟨x_5, x_6, hL_12, H⟩ := H
              refine pop_add .i64 t48_1 1 ?_
              obtain ⟨m_1, hm_1, H⟩ := H
              exact hn_2 _ _ ⟨m_1, hm_1, (w64 (t48_1 + 1)), x_5, x_6, rfl, H, hL_12⟩
            · have H := H.2 hb_10
              refine pop_add .i64 t42_1 1 ?_
              obtain ⟨m_2, hm_2, H⟩ := H
              exact hn_1 _ _ ⟨m_2, hm_2, (w64 (t42_1 + 1)), x_3, x_4, rfl, H, hL_11⟩
          · have H := H.2 hb_9
            refine rop_locA agg63 hL_10 0 rfl 0 (vs := [(Sl.v x_1), (Sl.v x_2)]) rfl rfl ?_
            refine uop_loc siz63 hL_10 1 rfl 0 [(Sl.v x_1), (Sl.v x_2)] rfl rfl rfl (Nat.le_of_ble_eq_true rfl) (L' := [(b_4, [(Sl.v x_1), (Sl.v x_2)]), (b_3, [(Sl.v x_1), (Sl.v x_2)]), (b_2, [(Sl.v l2_1), (Sl.v l2_2)]), (b_1, [(Sl.v g0_1)])]) rfl (fun h_13 hf_7 hL_13 => ?_)
            refine rop_locA agg63 hL_13 1 rfl 0 (vs := [(Sl.v x_1), (Sl.v x_2)]) rfl rfl ?_
            have H := H  h_13  (Fr.old (Fr.r (In []) _) hf_7) hL_13
            exact H
      · have H := H.1 hb_6
        refine guardM_n' hb_6 (by decide) ?_
        refine pop_pickt' hb_6 ?_
        refine condM_t ?_
        refine pop.mk' (v := (Value.agg #[(Sl.v nilSl), (Sl.v nilSl)])) (fun w => by kernel_rfl) ?_
        refine uop_loc siz63 hL_4 0 rfl 0 [(Sl.v nilSl), (Sl.v nilSl)] rfl rfl rfl (Nat.le_of_ble_eq_true rfl) (L' := [(b_3, [(Sl.v nilSl), (Sl.v nilSl)]), (b_2, [(Sl.v l2_1), (Sl.v l2_2)]), (b_1, [(Sl.v g0_1)])]) rfl (fun h_14 hf_8 hL_14 => ?_)
        refine rop_locA agg63 hL_14 0 rfl 0 (vs := [(Sl.v nilSl), (Sl.v nilSl)]) rfl rfl ?_
        have H := H  h_14  (Fr.old (Fr.r (In []) _) hf_8) hL_14
        exact H
    · have H := H.1 hb_5
      refine guardM_n' hb_5 (by decide) ?_
      refine guardM_n' hb_5 (by decide) ?_
      refine guardM_n' hb_5 (by decide) ?_
      refine guardM_n' hb_5 (by decide) ?_
      refine pop_pickt' hb_5 ?_
      refine guardM_n (by decide) ?_
      refine guardM_n (by decide) ?_
      refine pop_pickt _ _ ?_
      refine condM_t ?_
      refine pop.mk' (v := (Value.agg #[(Sl.v nilSl), (Sl.v nilSl)])) (fun w => by kernel_rfl) ?_
      refine uop_loc siz63 hL_4 0 rfl 0 [(Sl.v nilSl), (Sl.v nilSl)] rfl rfl rfl (Nat.le_of_ble_eq_true rfl) (L' := [(b_3, [(Sl.v nilSl), (Sl.v nilSl)]), (b_2, [(Sl.v l2_1), (Sl.v l2_2)]), (b_1, [(Sl.v g0_1)])]) rfl (fun h_15 hf_9 hL_15 => ?_)
      refine rop_locA agg63 hL_15 0 rfl 0 (vs := [(Sl.v nilSl), (Sl.v nilSl)]) rfl rfl ?_
      have H := H  h_15  (Fr.old (Fr.r (In []) _) hf_9) hL_15
      exact H
  · have H := H.1 hb_4
    refine guardM_n' hb_4 (by decide) ?_
    refine guardM_n' hb_4 (by decide) ?_
    refine guardM_n' hb_4 (by decide) ?_
    refine guardM_n' hb_4 (by decide) ?_
    refine guardM_n' hb_4 (by decide) ?_
    refine pop_pickt' hb_4 ?_
    refine guardM_n (by decide) ?_
    refine guardM_n (by decide) ?_
    refine guardM_n (by decide) ?_
    refine guardM_n (by decide) ?_
    refine guardM_n (by decide) ?_
    refine pop_pickt _ _ ?_
    refine guardM_n (by decide) ?_
    refine guardM_n (by decide) ?_
    refine pop_pickt _ _ ?_
    refine condM_t ?_
    refine pop.mk' (v := (Value.agg #[(Sl.v nilSl), (Sl.v nilSl)])) (fun w => by kernel_rfl) ?_
    refine uop_loc siz63 hL_4 0 rfl 0 [(Sl.v nilSl), (Sl.v nilSl)] rfl rfl rfl (Nat.le_of_ble_eq_true rfl) (L' := [(b_3, [(Sl.v nilSl), (Sl.v nilSl)]), (b_2, [(Sl.v l2_1), (Sl.v l2_2)]), (b_1, [(Sl.v g0_1)])]) rfl (fun h_16 hf_10 hL_16 => ?_)
    refine rop_locA agg63 hL_16 0 rfl 0 (vs := [(Sl.v nilSl), (Sl.v nilSl)]) rfl rfl ?_
    have H := H  h_16  (Fr.old (Fr.r (In []) _) hf_10) hL_16
    exact H

/-! (*impl.Load).waiting -/
def u95 (P : Program) (b_1 : Nat) (l0_1 : Sl) (l0_2 : Sl) (sink1_1 : Int) (h : Heap) (K : Value → Heap → Prop) : Prop :=
  eop P (Instr.buildSlice 25 0 #[]) h fun rv_1 h_1 => ∃ t8_1 : Sl, rv_1 = (Sl.v t8_1) ∧ Vars h_1 [(b_1, [(Sl.v l0_1), (Sl.v l0_2)])] ∧
  ∃ J_1 : Nat → Sl → Int → Heap → Prop, (∃ n0 : Nat, J_1 n0 t8_1 0 h_1) ∧
  ∀ (n_1 : Nat) (out5_1 : Sl) (t14_1 : Int) (h_2 : Heap), J_1 n_1 out5_1 t14_1 h_2 → Vars h_2 [(b_1, [(Sl.v l0_1), (Sl.v l0_2)])] →
  ((decide (t14_1 < (l0_2.n : Int))) = true →
  InB l0_2 t14_1 ∧
  ∃ t18_1 : Int, hcell h_2 (Sl.at l0_2 t14_1 1) = some (VI t18_1) ∧
  ((!decide (t14_1 = sink1_1)) = true →
  ((decide (0 < t18_1)) = true →
  eop P (Instr.buildSlice 25 1 #[(0, (VI t14_1))]) h_2 fun rv_2 h_3 => ∃ t28_1 : Sl, rv_2 = (Sl.v t28_1) ∧ Vars h_3 [(b_1, [(Sl.v l0_1), (Sl.v l0_2)])] ∧
  eop P (appS 25 25 25 (Sl.v out5_1) (Sl.v t28_1)) h_3 fun rv_3 h_4 => ∃ t29_1 : Sl, rv_3 = (Sl.v t29_1) ∧ Vars h_4 [(b_1, [(Sl.v l0_1), (Sl.v l0_2)])] ∧
  ∃ m : Nat, m < n_1 ∧ J_1 m t29_1 (w64 (t14_1 + 1)) h_4) ∧
  ((decide (0 < t18_1)) = false →
  ∃ m : Nat, m < n_1 ∧ J_1 m out5_1 (w64 (t14_1 + 1)) h_2)) ∧
  ((!decide (t14_1 = sink1_1)) = false →
  ∃ m : Nat, m < n_1 ∧ J_1 m out5_1 (w64 (t14_1 + 1)) h_2)) ∧
  ((decide (t14_1 < (l0_2.n : Int))) = false →
  K (Sl.v out5_1) h_2)
theorem v95 (b_1 : Nat) (l0_1 : Sl) (l0_2 : Sl) (sink1_1 : Int) (h : Heap) (K : Value → Heap → Prop) (hL : Vars h [(b_1, [(Sl.v l0_1), (Sl.v l0_2)])]) (H : u95 Try.prog b_1 l0_1 l0_2 sink1_1 h K) : callM Try.prog 95 #[(VP b_1 0), (VI sink1_1)] h K := by
  refine c95 (VP b_1 0) (VI sink1_1) h K ?_
  unfold u95 at H
  unfold t95
  refine H.mono fun rv_1 h_1 H => ?_
  obtain ⟨t8_1, rfl, hL_1, H⟩ := H
  refine pop_nil _ ?_
  refine pop_field 1 fld63_1 b_1 0 ?_
  refine rop_loc one25 hL_1 0 rfl 1 (v := (Sl.v l0_2)) rfl ?_
  refine pop_len l0_2 _ _ sli25 ?_
  obtain ⟨J_1, ⟨n_2, h0_1⟩, HB_1⟩ := H
  refine loop_intro (J := fun (n : Nat) (vs : List Value) (h' : Heap) => ∃ out5_1 : Sl, ∃ t14_1 : Int, vs = [(Sl.v out5_1), (VI t14_1)] ∧ J_1 n out5_1 t14_1 h' ∧ Vars h' [(b_1, [(Sl.v l0_1), (Sl.v l0_2)])]) n_2 ⟨t8_1, 0, rfl, h0_1, hL_1⟩ ?_
  intro I_1 mu_1 hI_1 junk_1 tv_1 tv_2 h_2 hi_1
  obtain ⟨n_1, ⟨out5_1, t14_1, hv, hJ_1, hL_2⟩, hn_1⟩ := hI_1 _ _ hi_1
  cases hv
  have H := HB_1 n_1 out5_1 t14_1 h_2 hJ_1 hL_2
  refine pop_lss .i64 t14_1 (l0_2.n : Int) ?_
  refine condM_b (fun hb_1 => ?_) (fun hb_1 => ?_)
  · have H := H.1 hb_1
    obtain ⟨hi_2, H⟩ := H
    refine pop_index sli25 siz3 .i64 l0_2 t14_1 hi_2 ?_
    obtain ⟨t18_1, hc_1, H⟩ := H
    refine rop_one one3 (VI t18_1) hc_1 ?_
    refine pop_ine .i64 _ _ t14_1 sink1_1 ?_
    refine guardM_st (fun hb_2 => ?_) (fun hb_2 => ?_)
    · have H := H.1 hb_2
      refine guardM_y' hb_2 ?_
      refine pop_gtr .i64 t18_1 0 ?_
      refine pop_pickt' hb_2 ?_
      refine condM_b (fun hb_3 => ?_) (fun hb_3 => ?_)
      · have H := H.1 hb_3
        refine H.mono fun rv_2 h_3 H => ?_
        obtain ⟨t28_1, rfl, hL_3, H⟩ := H
        refine H.mono fun rv_3 h_4 H => ?_
        obtain ⟨t29_1, rfl, hL_4, H⟩ := H
        refine pop_add .i64 t14_1 1 ?_
        obtain ⟨m_1, hm_1, H⟩ := H
        exact hn_1 _ _ ⟨m_1, hm_1, t29_1, (w64 (t14_1 + 1)), rfl, H, hL_4⟩
      · have H := H.2 hb_3
        refine pop_add .i64 t14_1 1 ?_
        obtain ⟨m_2, hm_2, H⟩ := H
        exact hn_1 _ _ ⟨m_2, hm_2, out5_1, (w64 (t14_1 + 1)), rfl, H, hL_2⟩
    · have H := H.2 hb_2
      refine guardM_n' hb_2 (by decide) ?_
      refine pop_pickf' hb_2 ?_
      refine condM_f ?_
      refine pop_add .i64 t14_1 1 ?_
      obtain ⟨m_3, hm_3, H⟩ := H
      exact hn_1 _ _ ⟨m_3, hm_3, out5_1, (w64 (t14_1 + 1)), rfl, H, hL_2⟩
  · have H := H.2 hb_1
    exact H

/-! spec.chGood -/
def u96 (P : Program) (g0_1 : Sl) (sink1_1 : Int) (l2_1 : Sl) (l2_2 : Sl) (h : Heap) (K : Value → Heap → Prop) : Prop :=
  ∀ (b_1 : Nat) (b_2 : Nat) (h_2 : Heap), h.size ≤ b_1 → h.size ≤ b_2 → Fr (In []) h h_2 → Vars h_2 [(b_2, [(Sl.v l2_1), (Sl.v l2_2)]), (b_1, [(Sl.v g0_1)])] →
  callM P 132 #[(Value.agg #[(Sl.v g0_1)]), (VI sink1_1)] h_2 fun rv_1 h_3 => ∃ t9_1 : Bool, rv_1 = (VB t9_1) ∧ Vars h_3 [(b_2, [(Sl.v l2_1), (Sl.v l2_2)]), (b_1, [(Sl.v g0_1)])] ∧
  ((!t9_1) = true →
  K (VB false) h_3) ∧
  ((!t9_1) = false →
  callM P 74 #[(Value.agg #[(Sl.v g0_1)]), (Value.agg #[(Sl.v l2_1), (VI sink1_1)])] h_3 fun rv_2 h_4 => ∃ t17_1 : Bool, rv_2 = (VB t17_1) ∧ Vars h_4 [(b_2, [(Sl.v l2_1), (Sl.v l2_2)]), (b_1, [(Sl.v g0_1)])] ∧
  ((!t17_1) = true →
  K (VB false) h_4) ∧
  ((!t17_1) = false →
  ((!decide ((l2_2.n : Int) = (g0_1.n : Int))) = true →
  K (VB false) h_4) ∧
  ((!decide ((l2_2.n : Int) = (g0_1.n : Int))) = false →
  callM P 97 #[(Sl.v l2_2), (VI 0), (VI 20)] h_4 fun rv_3 h_5 => ∃ t31_1 : Bool, rv_3 = (VB t31_1) ∧ Vars h_5 [(b_2, [(Sl.v l2_1), (Sl.v l2_2)]), (b_1, [(Sl.v g0_1)])] ∧
  (t31_1 = true →
  callM P 133 #[(Sl.v l2_2)] h_5 fun rv_4 h_6 => ∃ t35_1 : Int, rv_4 = (VI t35_1) ∧ Vars h_6 [(b_2, [(Sl.v l2_1), (Sl.v l2_2)]), (b_1, [(Sl.v g0_1)])] ∧
  K (VB (decide (t35_1 ≤ 20))) h_6) ∧
  (t31_1 = false →
  K (VB false) h_5))))
theorem v96 (g0_1 : Sl) (sink1_1 : Int) (l2_1 : Sl) (l2_2 : Sl) (h : Heap) (K : Value → Heap → Prop) (H : u96 Try.prog g0_1 sink1_1 l2_1 l2_2 h K) : callM Try.prog 96 #[(Value.agg #[(Sl.v g0_1)]), (VI sink1_1), (Value.agg #[(Sl.v l2_1), (Sl.v l2_2)])] h K := by
  refine c96 (Value.agg #[(Sl.v g0_1)]) (VI sink1_1) (Value.agg #[(Sl.v l2_1), (Sl.v l2_2)]) h K ?_
  unfold u96 at H
  unfold t96
  have hL : Vars h [] := .nil
  refine eop_box 32 (Value.agg #[(Sl.v g0_1)]) rfl hL (fun b_1 h_1 hb_1 hf_1 hL_1 => ?_)
  refine eop_box 63 (Value.agg #[(Sl.v l2_1), (Sl.v l2_2)]) rfl hL_1 (fun b_2 h_2 hb_2 hf_2 hL_2 => ?_)
  refine rop_locA agg32 hL_2 1 rfl 0 (vs := [(Sl.v g0_1)]) rfl rfl ?_
  have H := H b_1 b_2 h_2 (Nat.le_trans (Fr.size (Fr.r (In []) _)) hb_1) (Nat.le_trans (Fr.size (Fr.no' (Fr.r (In []) _) hf_1)) hb_2) (Fr.no' (Fr.no' (Fr.r (In []) _) hf_1) hf_2) hL_2
  refine H.mono fun rv_1 h_3 H => ?_
  obtain ⟨t9_1, rfl, hL_3, H⟩ := H
  refine pop_not t9_1 ?_
  refine guardM_sf (fun hb_3 => ?_) (fun hb_3 => ?_)
  · have H := H.2 hb_3
    refine rop_locA agg32 hL_3 1 rfl 0 (vs := [(Sl.v g0_1)]) rfl rfl ?_
    refine guardM_y' hb_3 ?_
    refine pop_field 0 fld63_0 b_2 0 ?_
    refine guardM_y' hb_3 ?_
    refine rop_loc one25 hL_3 0 rfl 0 (v := (Sl.v l2_1)) rfl ?_
    refine guardM_y' hb_3 ?_
    refine guardM_y' hb_3 ?_
    refine pop.mk' (v := (Value.agg #[(Sl.v l2_1), (VI sink1_1)])) (fun w => by kernel_rfl) ?_
    refine guardM_y' hb_3 ?_
    refine H.mono fun rv_2 h_4 H => ?_
    obtain ⟨t17_1, rfl, hL_4, H⟩ := H
    refine guardM_y' hb_3 ?_
    refine pop_not t17_1 ?_
    refine pop_pickf' hb_3 ?_
    refine guardM_sf (fun hb_4 => ?_) (fun hb_4 => ?_)
    · have H := H.2 hb_4
      refine pop_field 1 fld63_1 b_2 0 ?_
      refine guardM_y' hb_4 ?_
      refine rop_loc one25 hL_4 0 rfl 1 (v := (Sl.v l2_2)) rfl ?_
      refine guardM_y' hb_4 ?_
      refine pop_len l2_2 _ _ sli25 ?_
      refine guardM_y' hb_4 ?_
      refine pop_field 0 fld32_0 b_1 0 ?_
      refine guardM_y' hb_4 ?_
      refine rop_loc one22 hL_4 1 rfl 0 (v := (Sl.v g0_1)) rfl ?_
      refine guardM_y' hb_4 ?_
      refine pop_len g0_1 _ _ sli22 ?_
      refine guardM_y' hb_4 ?_
      refine pop_ine .i64 _ _ (l2_2.n : Int) (g0_1.n : Int) ?_
      refine pop_pickf' hb_4 ?_
      refine condM_b (fun hb_5 => ?_) (fun hb_5 => ?_)
      · have H := H.1 hb_5
        exact H
      · have H := H.2 hb_5
        refine pop_field 1 fld63_1 b_2 0 ?_
        refine rop_loc one25 hL_4 0 rfl 1 (v := (Sl.v l2_2)) rfl ?_
        refine H.mono fun rv_3 h_5 H => ?_
        obtain ⟨t31_1, rfl, hL_5, H⟩ := H
        refine guardM_st (fun hb_6 => ?_) (fun hb_6 => ?_)
        · have H := H.1 hb_6
          refine pop_field 1 fld63_1 b_2 0 ?_
          refine guardM_y' hb_6 ?_
          refine rop_loc one25 hL_5 0 rfl 1 (v := (Sl.v l2_2)) rfl ?_
          refine guardM_y' hb_6 ?_
          refine H.mono fun rv_4 h_6 H => ?_
          obtain ⟨t35_1, rfl, hL_6, H⟩ := H
          refine guardM_y' hb_6 ?_
          refine pop_leq .i64 t35_1 20 ?_
          refine pop_pickt' hb_6 ?_
          exact H
        · have H := H.2 hb_6
          refine guardM_n' hb_6 (by decide) ?_
          refine guardM_n' hb_6 (by decide) ?_
          refine guardM_n' hb_6 (by decide) ?_
          refine pop_pickf' hb_6 ?_
          exact H
    · have H := H.1 hb_4
      refine guardM_n' hb_4 (by decide) ?_
      refine guardM_n' hb_4 (by decide) ?_
      refine guardM_n' hb_4 (by decide) ?_
      refine guardM_n' hb_4 (by decide) ?_
      refine guardM_n' hb_4 (by decide) ?_
      refine guardM_n' hb_4 (by decide) ?_
      refine pop_pickt' hb_4 ?_
      refine condM_t ?_
      exact H
  · have H := H.1 hb_3
    refine guardM_n' hb_3 (by decide) ?_
    refine guardM_n' hb_3 (by decide) ?_
    refine guardM_n' hb_3 (by decide) ?_
    refine guardM_n' hb_3 (by decide) ?_
    refine guardM_n' hb_3 (by decide) ?_
    refine guardM_n' hb_3 (by decide) ?_
    refine pop_pickt' hb_3 ?_
    refine guardM_n (by decide) ?_
    refine guardM_n (by decide) ?_
    refine guardM_n (by decide) ?_
    refine guardM_n (by decide) ?_
    refine guardM_n (by decide) ?_
    refine guardM_n (by decide) ?_
    refine guardM_n (by decide) ?_
    refine pop_pickt _ _ ?_
    refine condM_t ?_
    exact H

/-! spec.l1All -/
def u97 (P : Program) (l0_1 : Sl) (lo1_1 : Int) (hi2_1 : Int) (h : Heap) (K : Value → Heap → Prop) : Prop :=
  ∃ J_1 : Nat → Int → Heap → Prop, (∃ n0 : Nat, J_1 n0 0 h) ∧
  ∀ (n_1 : Nat) (t11_1 : Int) (h_1 : Heap), J_1 n_1 t11_1 h_1 → Vars h_1 [] →
  ((decide (t11_1 < (l0_1.n : Int))) = true →
  InB l0_1 t11_1 ∧
  ∃ t14_1 : Int, hcell h_1 (Sl.at l0_1 t11_1 1) = some (VI t14_1) ∧
  callM P 109 #[(VI t14_1), (VI lo1_1), (VI hi2_1)] h_1 fun rv_1 h_2 => ∃ t18_1 : Bool, rv_1 = (VB t18_1) ∧ Vars h_2 [] ∧
  ((!t18_1) = true →
  K (VB false) h_2) ∧
  ((!t18_1) = false →
  ∃ m : Nat, m < n_1 ∧ J_1 m (w64 (t11_1 + 1)) h_2)) ∧
  ((decide (t11_1 < (l0_1.n : Int))) = false →
  K (VB true) h_1)
theorem v97 (l0_1 : Sl) (lo1_1 : Int) (hi2_1 : Int) (h : Heap) (K : Value → Heap → Prop) (H : u97 Try.prog l0_1 lo1_1 hi2_1 h K) : callM Try.prog 97 #[(Sl.v l0_1), (VI lo1_1), (VI hi2_1)] h K := by
  refine c97 (Sl.v l0_1) (VI lo1_1) (VI hi2_1) h K ?_
  unfold u97 at H
  unfold t97
  have hL : Vars h [] := .nil
  refine pop_len l0_1 _ _ sli25 ?_
  obtain ⟨J_1, ⟨n_2, h0_1⟩, HB_1⟩ := H
  refine loop_intro (J := fun (n : Nat) (vs : List Value) (h' : Heap) => ∃ t11_1 : Int, vs = [(VI t11_1)] ∧ J_1 n t11_1 h' ∧ Vars h' []) n_2 ⟨0, rfl, h0_1, hL⟩ ?_
  intro I_1 mu_1 hI_1 junk_1 tv_1 h_1 hi_1
  obtain ⟨n_1, ⟨t11_1, hv, hJ_1, hL_1⟩, hn_1⟩ := hI_1 _ _ hi_1
  cases hv
  have H := HB_1 n_1 t11_1 h_1 hJ_1 hL_1
  refine pop_lss .i64 t11_1 (l0_1.n : Int) ?_
  refine condM_b (fun hb_1 => ?_) (fun hb_1 => ?_)
  · have H := H.1 hb_1
    obtain ⟨hi_2, H⟩ := H
    refine pop_index sli25 siz3 .i64 l0_1 t11_1 hi_2 ?_
    obtain ⟨t14_1, hc_1, H⟩ := H
    refine rop_one one3 (VI t14_1) hc_1 ?_
    refine H.mono fun rv_1 h_2 H => ?_
    obtain ⟨t18_1, rfl, hL_2, H⟩ := H
    refine pop_not t18_1 ?_
    refine condM_b (fun hb_2 => ?_) (fun hb_2 => ?_)
    · have H := H.1 hb_2
      exact H
    · have H := H.2 hb_2
      refine pop_add .i64 t11_1 1 ?_
      obtain ⟨m_1, hm_1, H⟩ := H
      exact hn_1 _ _ ⟨m_1, hm_1, (w64 (t11_1 + 1)), rfl, H, hL_2⟩
  · have H := H.2 hb_1
    exact H

/-! spec.chOwn -/
def u98 (P : Program) (l0_1 : Sl) (l0_2 : Sl) (h : Heap) (K : Value → Heap → Prop) : Prop :=
  ∀ (b_1 : Nat) (b_2 : Nat) (h_2 : Heap), h.size ≤ b_1 → h.size ≤ b_2 → Fr (In []) h h_2 → Vars h_2 [(b_2, [(Sl.v nilSl), (Sl.v nilSl)]), (b_1, [(Sl.v l0_1), (Sl.v l0_2)])] →
  callM P 116 #[(Sl.v l0_1)] h_2 fun rv_1 h_3 => ∃ t5_1 : Sl, rv_1 = (Sl.v t5_1) ∧ Vars h_3 [(b_2, [(Sl.v nilSl), (Sl.v nilSl)]), (b_1, [(Sl.v l0_1), (Sl.v l0_2)])] ∧
  callM P 116 #[(Sl.v l0_2)] h_3 fun rv_2 h_4 => ∃ t8_1 : Sl, rv_2 = (Sl.v t8_1) ∧ Vars h_4 [(b_2, [(Sl.v nilSl), (Sl.v nilSl)]), (b_1, [(Sl.v l0_1), (Sl.v l0_2)])] ∧
  ∀ (h_5 : Heap), Fr (In [b_2]) h_4 h_5 → Vars h_5 [(b_2, [(Sl.v t5_1), (Sl.v t8_1)]), (b_1, [(Sl.v l0_1), (Sl.v l0_2)])] →
  K (Value.agg #[(Sl.v t5_1), (Sl.v t8_1)]) h_5
theorem v98 (l0_1 : Sl) (l0_2 : Sl) (h : Heap) (K : Value → Heap → Prop) (H : u98 Try.prog l0_1 l0_2 h K) : callM Try.prog 98 #[(Value.agg #[(Sl.v l0_1), (Sl.v l0_2)])] h K := by
  refine c98 (Value.agg #[(Sl.v l0_1), (Sl.v l0_2)]) h K ?_
  unfold u98 at H
  unfold t98
  have hL : Vars h [] := .nil
  refine eop_box 63 (Value.agg #[(Sl.v l0_1), (Sl.v l0_2)]) rfl hL (fun b_1 h_1 hb_1 hf_1 hL_1 => ?_)
  refine eop_alloc 63 zer63 rfl hL_1 (fun b_2 h_2 hb_2 hf_2 hL_2 => ?_)
  refine pop_field 0 fld63_0 b_1 0 ?_
  refine rop_loc one25 hL_2 1 rfl 0 (v := (Sl.v l0_1)) rfl ?_
  refine pop_field 1 fld63_1 b_1 0 ?_
  refine rop_loc one25 hL_2 1 rfl 1 (v := (Sl.v l0_2)) rfl ?_
  have H := H b_1 b_2 h_2 (Nat.le_trans (Fr.size (Fr.r (In []) _)) hb_1) (Nat.le_trans (Fr.size (Fr.no' (Fr.r (In []) _) hf_1)) hb_2) (Fr.no' (Fr.no' (Fr.r (In []) _) hf_1) hf_2) hL_2
  refine H.mono fun rv_1 h_3 H => ?_
  obtain ⟨t5_1, rfl, hL_3, H⟩ := H
  refine ⟨?_, ?_⟩
  · exact still_loc one25 hL_3 1 rfl 1 (v := (Sl.v l0_2)) rfl
  refine H.mono fun rv_2 h_4 H => ?_
  obtain ⟨t8_1, rfl, hL_4, H⟩ := H
  refine pop.mk' (v := (Value.agg #[(Sl.v t5_1), (Sl.v t8_1)])) (fun w => by kernel_rfl) ?_
  refine uop_loc siz63 hL_4 0 rfl 0 [(Sl.v t5_1), (Sl.v t8_1)] rfl rfl rfl (Nat.le_of_ble_eq_true rfl) (L' := [(b_2, [(Sl.v t5_1), (Sl.v t8_1)]), (b_1, [(Sl.v l0_1), (Sl.v l0_2)])]) rfl (fun h_5 hf_3 hL_5 => ?_)
  refine rop_locA agg63 hL_5 0 rfl 0 (vs := [(Sl.v t5_1), (Sl.v t8_1)]) rfl rfl ?_
  have H := H  h_5  (Fr.old (Fr.r (In []) _) hf_3) hL_5
  exact H

/-! spec.chMove -/
def u99 (P : Program) (g0_1 : Sl) (l1_1 : Sl) (l1_2 : Sl) (p2_1 : Int) (h : Heap) (K : Value → Heap → Prop) : Prop :=
  InB g0_1 p2_1 ∧
  ∀ (b_1 : Nat) (b_2 : Nat) (h_2 : Heap), h.size ≤ b_1 → h.size ≤ b_2 → Fr (In []) h h_2 → Vars h_2 [(b_2, [(Sl.v l1_1), (Sl.v l1_2)]), (b_1, [(Sl.v g0_1)])] →
  ∃ t11_1 : Sl, hcell h_2 (Sl.at g0_1 p2_1 1) = some (Sl.v t11_1) ∧
  InB l1_1 p2_1 ∧
  ∃ t19_1 : Int, hcell h_2 (Sl.at l1_1 p2_1 1) = some (VI t19_1) ∧
  (t11_1.n : Int) ≠ 0 ∧
  InB l1_1 p2_1 ∧
  Writable h_2 (Sl.at l1_1 p2_1 1) ∧ Vars (hset h_2 (Sl.at l1_1 p2_1 1) (VI (Int.tmod (w64 (t19_1 + 1)) (t11_1.n : Int)))) [(b_2, [(Sl.v l1_1), (Sl.v l1_2)]), (b_1, [(Sl.v g0_1)])] ∧
  ∀ h_3 : Heap, h_3 = hset h_2 (Sl.at l1_1 p2_1 1) (VI (Int.tmod (w64 (t19_1 + 1)) (t11_1.n : Int))) → Vars h_3 [(b_2, [(Sl.v l1_1), (Sl.v l1_2)]), (b_1, [(Sl.v g0_1)])] →
  InB l1_2 p2_1 ∧
  ∃ t29_1 : Int, hcell h_3 (Sl.at l1_2 p2_1 1) = some (VI t29_1) ∧
  InB l1_2 p2_1 ∧
  Writable h_3 (Sl.at l1_2 p2_1 1) ∧ Vars (hset h_3 (Sl.at l1_2 p2_1 1) (VI (w64 (t29_1 - 1)))) [(b_2, [(Sl.v l1_1), (Sl.v l1_2)]), (b_1, [(Sl.v g0_1)])] ∧
  ∀ h_4 : Heap, h_4 = hset h_3 (Sl.at l1_2 p2_1 1) (VI (w64 (t29_1 - 1))) → Vars h_4 [(b_2, [(Sl.v l1_1), (Sl.v l1_2)]), (b_1, [(Sl.v g0_1)])] →
  InB l1_1 p2_1 ∧
  ∃ t39_1 : Int, hcell h_4 (Sl.at l1_1 p2_1 1) = some (VI t39_1) ∧
  InB t11_1 t39_1 ∧
  ∃ t41_1 : Int, hcell h_4 (Sl.at t11_1 t39_1 1) = some (VI t41_1) ∧
  InB l1_2 t41_1 ∧
  ∃ t43_1 : Int, hcell h_4 (Sl.at l1_2 t41_1 1) = some (VI t43_1) ∧
  InB l1_2 t41_1 ∧
  Writable h_4 (Sl.at l1_2 t41_1 1) ∧ Vars (hset h_4 (Sl.at l1_2 t41_1 1) (VI (w64 (t43_1 + 1)))) [(b_2, [(Sl.v l1_1), (Sl.v l1_2)]), (b_1, [(Sl.v g0_1)])] ∧
  ∀ h_5 : Heap, h_5 = hset h_4 (Sl.at l1_2 t41_1 1) (VI (w64 (t43_1 + 1))) → Vars h_5 [(b_2, [(Sl.v l1_1), (Sl.v l1_2)]), (b_1, [(Sl.v g0_1)])] →
  K (Value.tuple #[]) h_5
theorem v99 (g0_1 : Sl) (l1_1 : Sl) (l1_2 : Sl) (p2_1 : Int) (h : Heap) (K : Value → Heap → Prop) (H : u99 Try.prog g0_1 l1_1 l1_2 p2_1 h K) : callM Try.prog 99 #[(Value.agg #[(Sl.v g0_1)]), (Value.agg #[(Sl.v l1_1), (Sl.v l1_2)]), (VI p2_1)] h K := by
  refine c99 (Value.agg #[(Sl.v g0_1)]) (Value.agg #[(Sl.v l1_1), (Sl.v l1_2)]) (VI p2_1) h K ?_
  unfold u99 at H
  unfold t99
  have hL : Vars h [] := .nil
  refine eop_box 32 (Value.agg #[(Sl.v g0_1)]) rfl hL (fun b_1 h_1 hb_1 hf_1 hL_1 => ?_)
  refine eop_box 63 (Value.agg #[(Sl.v l1_1), (Sl.v l1_2)]) rfl hL_1 (fun b_2 h_2 hb_2 hf_2 hL_2 => ?_)
  refine pop_field 0 fld32_0 b_1 0 ?_
  refine rop_loc one22 hL_2 1 rfl 0 (v := (Sl.v g0_1)) rfl ?_
  obtain ⟨hi_1, H⟩ := H
  refine pop_index sli22 siz25 .i64 g0_1 p2_1 hi_1 ?_
  have H := H b_1 b_2 h_2 (Nat.le_trans (Fr.size (Fr.r (In []) _)) hb_1) (Nat.le_trans (Fr.size (Fr.no' (Fr.r (In []) _) hf_1)) hb_2) (Fr.no' (Fr.no' (Fr.r (In []) _) hf_1) hf_2) hL_2
  obtain ⟨t11_1, hc_6, H⟩ := H
  refine rop_one one25 (Sl.v t11_1) hc_6 ?_
  refine pop_field 0 fld63_0 b_2 0 ?_
  refine rop_loc one25 hL_2 0 rfl 0 (v := (Sl.v l1_1)) rfl ?_
  refine pop_field 0 fld63_0 b_2 0 ?_
  refine rop_loc one25 hL_2 0 rfl 0 (v := (Sl.v l1_1)) rfl ?_
  obtain ⟨hi_2, H⟩ := H
  refine pop_index sli25 siz3 .i64 l1_1 p2_1 hi_2 ?_
  obtain ⟨t19_1, hc_5, H⟩ := H
  refine rop_one one3 (VI t19_1) hc_5 ?_
  refine pop_add .i64 t19_1 1 ?_
  refine pop_len t11_1 _ _ sli25 ?_
  obtain ⟨hz_1, H⟩ := H
  refine pop_rem .i64 (w64 (t19_1 + 1)) (t11_1.n : Int) hz_1 ?_
  obtain ⟨hi_3, H⟩ := H
  refine pop_index sli25 siz3 .i64 l1_1 p2_1 hi_3 ?_
  obtain ⟨hw_1, hL_3, H⟩ := H
  refine uop_cell (v := (VI (Int.tmod (w64 (t19_1 + 1)) (t11_1.n : Int)))) siz3 hw_1 rfl (fun h_3 he_1 => ?_)
  rw [← he_1] at hL_3
  have H := H h_3 he_1 hL_3
  refine pop_field 1 fld63_1 b_2 0 ?_
  refine rop_loc one25 hL_3 0 rfl 1 (v := (Sl.v l1_2)) rfl ?_
  obtain ⟨hi_4, H⟩ := H
  refine pop_index sli25 siz3 .i64 l1_2 p2_1 hi_4 ?_
  obtain ⟨t29_1, hc_4, H⟩ := H
  refine rop_one one3 (VI t29_1) hc_4 ?_
  refine pop_sub .i64 t29_1 1 ?_
  obtain ⟨hi_5, H⟩ := H
  refine pop_index sli25 siz3 .i64 l1_2 p2_1 hi_5 ?_
  obtain ⟨hw_2, hL_4, H⟩ := H
  refine uop_cell (v := (VI (w64 (t29_1 - 1)))) siz3 hw_2 rfl (fun h_4 he_2 => ?_)
  rw [← he_2] at hL_4
  have H := H h_4 he_2 hL_4
  refine pop_field 1 fld63_1 b_2 0 ?_
  refine rop_loc one25 hL_4 0 rfl 1 (v := (Sl.v l1_2)) rfl ?_
  refine pop_field 0 fld63_0 b_2 0 ?_
  refine rop_loc one25 hL_4 0 rfl 0 (v := (Sl.v l1_1)) rfl ?_
  obtain ⟨hi_6, H⟩ := H
  refine pop_index sli25 siz3 .i64 l1_1 p2_1 hi_6 ?_
  obtain ⟨t39_1, hc_3, H⟩ := H
  refine rop_one one3 (VI t39_1) hc_3 ?_
  obtain ⟨hi_7, H⟩ := H
  refine pop_index sli25 siz3 .i64 t11_1 t39_1 hi_7 ?_
  obtain ⟨t41_1, hc_2, H⟩ := H
  refine rop_one one3 (VI t41_1) hc_2 ?_
  obtain ⟨hi_8, H⟩ := H
  refine pop_index sli25 siz3 .i64 l1_2 t41_1 hi_8 ?_
  obtain ⟨t43_1, hc_1, H⟩ := H
  refine rop_one one3 (VI t43_1) hc_1 ?_
  refine pop_add .i64 t43_1 1 ?_
  obtain ⟨hi_9, H⟩ := H
  refine pop_index sli25 siz3 .i64 l1_2 t41_1 hi_9 ?_
  obtain ⟨hw_3, hL_5, H⟩ := H
  refine uop_cell (v := (VI (w64 (t43_1 + 1)))) siz3 hw_3 rfl (fun h_5 he_3 => ?_)
  rw [← he_3] at hL_5
  have H := H h_5 he_3 hL_5
  exact H

/-! impl.isLoad -/
def u100 (P : Program) (g0_1 : Sl) (sink1_1 : Int) (l2_1 : Sl) (l2_2 : Sl) (h : Heap) (K : Value → Heap → Prop) : Prop :=
  ∀ (b_1 : Nat) (b_2 : Nat) (h_2 : Heap), h.size ≤ b_1 → h.size ≤ b_2 → Fr (In []) h h_2 → Vars h_2 [(b_2, [(Sl.v l2_1), (Sl.v l2_2)]), (b_1, [(Sl.v g0_1)])] →
  callM P 134 #[(Value.agg #[(Sl.v g0_1)]), (VI sink1_1)] h_2 fun rv_1 h_3 => ∃ t9_1 : Bool, rv_1 = (VB t9_1) ∧ Vars h_3 [(b_2, [(Sl.v l2_1), (Sl.v l2_2)]), (b_1, [(Sl.v g0_1)])] ∧
  (t9_1 = true →
  callM P 135 #[(Value.agg #[(Sl.v g0_1)]), (Sl.v l2_1)] h_3 fun rv_2 h_4 => ∃ t14_1 : Bool, rv_2 = (VB t14_1) ∧ Vars h_4 [(b_2, [(Sl.v l2_1), (Sl.v l2_2)]), (b_1, [(Sl.v g0_1)])] ∧
  (t14_1 = true →
  callM P 136 #[(Value.agg #[(Sl.v g0_1)]), (Sl.v l2_2)] h_4 fun rv_3 h_5 => ∃ t20_1 : Bool, rv_3 = (VB t20_1) ∧ Vars h_5 [(b_2, [(Sl.v l2_1), (Sl.v l2_2)]), (b_1, [(Sl.v g0_1)])] ∧
  (t20_1 = true →
  callM P 137 #[(Sl.v l2_2)] h_5 fun rv_4 h_6 => ∃ t25_1 : Int, rv_4 = (VI t25_1) ∧ Vars h_6 [(b_2, [(Sl.v l2_1), (Sl.v l2_2)]), (b_1, [(Sl.v g0_1)])] ∧
  K (VB (decide (t25_1 ≤ 20))) h_6) ∧
  (t20_1 = false →
  K (VB false) h_5)) ∧
  (t14_1 = false →
  K (VB false) h_4)) ∧
  (t9_1 = false →
  K (VB false) h_3)
theorem v100 (g0_1 : Sl) (sink1_1 : Int) (l2_1 : Sl) (l2_2 : Sl) (h : Heap) (K : Value → Heap → Prop) (H : u100 Try.prog g0_1 sink1_1 l2_1 l2_2 h K) : callM Try.prog 100 #[(Value.agg #[(Sl.v g0_1)]), (VI sink1_1), (Value.agg #[(Sl.v l2_1), (Sl.v l2_2)])] h K := by
  refine c100 (Value.agg #[(Sl.v g0_1)]) (VI sink1_1) (Value.agg #[(Sl.v l2_1), (Sl.v l2_2)]) h K ?_
  unfold u100 at H
  unfold t100
  have hL : Vars h [] := .nil
  refine eop_box 32 (Value.agg #[(Sl.v g0_1)]) rfl hL (fun b_1 h_1 hb_1 hf_1 hL_1 => ?_)
  refine eop_box 63 (Value.agg #[(Sl.v l2_1), (Sl.v l2_2)]) rfl hL_1 (fun b_2 h_2 hb_2 hf_2 hL_2 => ?_)
  refine rop_locA agg32 hL_2 1 rfl 0 (vs := [(Sl.v g0_1)]) rfl rfl ?_
  have H := H b_1 b_2 h_2 (Nat.le_trans (Fr.size (Fr.r (In []) _)) hb_1) (Nat.le_trans (Fr.size (Fr.no' (Fr.r (In []) _) hf_1)) hb_2) (Fr.no' (Fr.no' (Fr.r (In []) _) hf_1) hf_2) hL_2
  refine H.mono fun rv_1 h_3 H => ?_
  obtain ⟨t9_1, rfl, hL_3, H⟩ := H
  refine guardM_st (fun hb_3 => ?_) (fun hb_3 => ?_)
  · have H := H.1 hb_3
    refine rop_locA agg32 hL_3 1 rfl 0 (vs := [(Sl.v g0_1)]) rfl rfl ?_
    refine guardM_y' hb_3 ?_
    refine pop_field 0 fld63_0 b_2 0 ?_
    refine guardM_y' hb_3 ?_
    refine rop_loc one25 hL_3 0 rfl 0 (v := (Sl.v l2_1)) rfl ?_
    refine guardM_y' hb_3 ?_
    refine H.mono fun rv_2 h_4 H => ?_
    obtain ⟨t14_1, rfl, hL_4, H⟩ := H
    refine pop_pickt' hb_3 ?_
    refine guardM_st (fun hb_4 => ?_) (fun hb_4 => ?_)
    · have H := H.1 hb_4
      refine rop_locA agg32 hL_4 1 rfl 0 (vs := [(Sl.v g0_1)]) rfl rfl ?_
      refine guardM_y' hb_4 ?_
      refine pop_field 1 fld63_1 b_2 0 ?_
      refine guardM_y' hb_4 ?_
      refine rop_loc one25 hL_4 0 rfl 1 (v := (Sl.v l2_2)) rfl ?_
      refine guardM_y' hb_4 ?_
      refine H.mono fun rv_3 h_5 H => ?_
      obtain ⟨t20_1, rfl, hL_5, H⟩ := H
      refine pop_pickt' hb_4 ?_
      refine guardM_st (fun hb_5 => ?_) (fun hb_5 => ?_)
      · have H := H.1 hb_5
        refine pop_field 1 fld63_1 b_2 0 ?_
        refine guardM_y' hb_5 ?_
        refine rop_loc one25 hL_5 0 rfl 1 (v := (Sl.v l2_2)) rfl ?_
        refine guardM_y' hb_5 ?_
        refine H.mono fun rv_4 h_6 H => ?_
        obtain ⟨t25_1, rfl, hL_6, H⟩ := H
        refine guardM_y' hb_5 ?_
        refine pop_leq .i64 t25_1 20 ?_
        refine pop_pickt' hb_5 ?_
        exact H
      · have H := H.2 hb_5
        refine guardM_n' hb_5 (by decide) ?_
        refine guardM_n' hb_5 (by decide) ?_
        refine guardM_n' hb_5 (by decide) ?_
        refine pop_pickf' hb_5 ?_
        exact H
    · have H := H.2 hb_4
      refine guardM_n' hb_4 (by decide) ?_
      refine guardM_n' hb_4 (by decide) ?_
      refine guardM_n' hb_4 (by decide) ?_
      refine pop_pickf' hb_4 ?_
      refine guardM_n (by decide) ?_
      refine guardM_n (by decide) ?_
      refine guardM_n (by decide) ?_
      refine guardM_n (by decide) ?_
      refine pop_pickf _ _ ?_
      exact H
  · have H := H.2 hb_3
    refine guardM_n' hb_3 (by decide) ?_
    refine guardM_n' hb_3 (by decide) ?_
    refine guardM_n' hb_3 (by decide) ?_
    refine pop_pickf' hb_3 ?_
    refine guardM_n (by decide) ?_
    refine guardM_n (by decide) ?_
    refine guardM_n (by decide) ?_
    refine guardM_n (by decide) ?_
    refine pop_pickf _ _ ?_
    refine guardM_n (by decide) ?_
    refine guardM_n (by decide) ?_
    refine guardM_n (by decide) ?_
    refine guardM_n (by decide) ?_
    refine pop_pickf _ _ ?_
    exact H

/-! (impl.Load).copied -/
def u101 (P : Program) (l0_1 : Sl) (l0_2 : Sl) (h : Heap) (K : Value → Heap → Prop) : Prop :=
  ∀ (b_1 : Nat) (b_2 : Nat) (h_2 : Heap), h.size ≤ b_1 → h.size ≤ b_2 → Fr (In []) h h_2 → Vars h_2 [(b_2, [(Sl.v nilSl), (Sl.v nilSl)]), (b_1, [(Sl.v l0_1), (Sl.v l0_2)])] →
  callM P 111 #[(Sl.v l0_1)] h_2 fun rv_1 h_3 => ∃ t5_1 : Sl, rv_1 = (Sl.v t5_1) ∧ Vars h_3 [(b_2, [(Sl.v nilSl), (Sl.v nilSl)]), (b_1, [(Sl.v l0_1), (Sl.v l0_2)])] ∧
  callM P 111 #[(Sl.v l0_2)] h_3 fun rv_2 h_4 => ∃ t8_1 : Sl, rv_2 = (Sl.v t8_1) ∧ Vars h_4 [(b_2, [(Sl.v nilSl), (Sl.v nilSl)]), (b_1, [(Sl.v l0_1), (Sl.v l0_2)])] ∧
  ∀ (h_5 : Heap), Fr (In [b_2]) h_4 h_5 → Vars h_5 [(b_2, [(Sl.v t5_1), (Sl.v t8_1)]), (b_1, [(Sl.v l0_1), (Sl.v l0_2)])] →
  K (Value.agg #[(Sl.v t5_1), (Sl.v t8_1)]) h_5
theorem v101 (l0_1 : Sl) (l0_2 : Sl) (h : Heap) (K : Value → Heap → Prop) (H : u101 Try.prog l0_1 l0_2 h K) : callM Try.prog 101 #[(Value.agg #[(Sl.v l0_1), (Sl.v l0_2)])] h K := by
  refine c101 (Value.agg #[(Sl.v l0_1), (Sl.v l0_2)]) h K ?_
  unfold u101 at H
  unfold t101
  have hL : Vars h [] := .nil
  refine eop_box 63 (Value.agg #[(Sl.v l0_1), (Sl.v l0_2)]) rfl hL (fun b_1 h_1 hb_1 hf_1 hL_1 => ?_)
  refine eop_alloc 63 zer63 rfl hL_1 (fun b_2 h_2 hb_2 hf_2 hL_2 => ?_)
  refine pop_field 0 fld63_0 b_1 0 ?_
  refine rop_loc one25 hL_2 1 rfl 0 (v := (Sl.v l0_1)) rfl ?_
  refine pop_field 1 fld63_1 b_1 0 ?_
  refine rop_loc one25 hL_2 1 rfl 1 (v := (Sl.v l0_2)) rfl ?_
  have H := H b_1 b_2 h_2 (Nat.le_trans (Fr.size (Fr.r (In []) _)) hb_1) (Nat.le_trans (Fr.size (Fr.no' (Fr.r (In []) _) hf_1)) hb_2) (Fr.no' (Fr.no' (Fr.r (In []) _) hf_1) hf_2) hL_2
  refine H.mono fun rv_1 h_3 H => ?_
  obtain ⟨t5_1, rfl, hL_3, H⟩ := H
  refine ⟨?_, ?_⟩
  · exact still_loc one25 hL_3 1 rfl 1 (v := (Sl.v l0_2)) rfl
  refine H.mono fun rv_2 h_4 H => ?_
  obtain ⟨t8_1, rfl, hL_4, H⟩ := H
  refine pop.mk' (v := (Value.agg #[(Sl.v t5_1), (Sl.v t8_1)])) (fun w => by kernel_rfl) ?_
  refine uop_loc siz63 hL_4 0 rfl 0 [(Sl.v t5_1), (Sl.v t8_1)] rfl rfl rfl (Nat.le_of_ble_eq_true rfl) (L' := [(b_2, [(Sl.v t5_1), (Sl.v t8_1)]), (b_1, [(Sl.v l0_1), (Sl.v l0_2)])]) rfl (fun h_5 hf_3 hL_5 => ?_)
  refine rop_locA agg63 hL_5 0 rfl 0 (vs := [(Sl.v t5_1), (Sl.v t8_1)]) rfl rfl ?_
  have H := H  h_5  (Fr.old (Fr.r (In []) _) hf_3) hL_5
  exact H

/-! slices.ContainsFunc[[]int,int] -/
def u106 (P : Program) (s0_1 : Sl) (f1_1 : Value) (h : Heap) (K : Value → Heap → Prop) : Prop :=
  callM P 138 #[(Sl.v s0_1), f1_1] h fun rv_1 h_1 => ∃ t7_1 : Int, rv_1 = (VI t7_1) ∧ Vars h_1 [] ∧
  K (VB (decide (0 ≤ t7_1))) h_1
theorem v106 (s0_1 : Sl) (f1_1 : Value) (h : Heap) (K : Value → Heap → Prop) (H : u106 Try.prog s0_1 f1_1 h K) : callM Try.prog 106 #[(Sl.v s0_1), f1_1] h K := by
  refine c106 (Sl.v s0_1) f1_1 h K ?_
  unfold u106 at H
  unfold t106
  have hL : Vars h [] := .nil
  refine H.mono fun rv_1 h_1 H => ?_
  obtain ⟨t7_1, rfl, hL_1, H⟩ := H
  refine pop_geq .i64 t7_1 0 ?_
  exact H

/-! spec.l1In -/
def u109 (P : Program) (n0_1 : Int) (lo1_1 : Int) (hi2_1 : Int) (h : Heap) (K : Value → Heap → Prop) : Prop :=
  ((decide (lo1_1 ≤ n0_1)) = true →
  K (VB (decide (n0_1 ≤ hi2_1))) h) ∧
  ((decide (lo1_1 ≤ n0_1)) = false →
  K (VB false) h)
theorem v109 (n0_1 : Int) (lo1_1 : Int) (hi2_1 : Int) (h : Heap) (K : Value → Heap → Prop) (H : u109 Try.prog n0_1 lo1_1 hi2_1 h K) : callM Try.prog 109 #[(VI n0_1), (VI lo1_1), (VI hi2_1)] h K := by
  refine c109 (VI n0_1) (VI lo1_1) (VI hi2_1) h K ?_
  unfold u109 at H
  unfold t109
  have hL : Vars h [] := .nil
  refine pop_geq .i64 n0_1 lo1_1 ?_
  refine guardM_st (fun hb_1 => ?_) (fun hb_1 => ?_)
  · have H := H.1 hb_1
    refine guardM_y' hb_1 ?_
    refine guardM_y' hb_1 ?_
    refine pop_leq .i64 n0_1 hi2_1 ?_
    refine pop_pickt' hb_1 ?_
    exact H
  · have H := H.2 hb_1
    refine guardM_n' hb_1 (by decide) ?_
    refine guardM_n' hb_1 (by decide) ?_
    refine pop_pickf' hb_1 ?_
    exact H

/-! impl.in -/
def u110 (P : Program) (n0_1 : Int) (low1_1 : Int) (high2_1 : Int) (h : Heap) (K : Value → Heap → Prop) : Prop :=
  ((decide (low1_1 ≤ n0_1)) = true →
  K (VB (decide (n0_1 ≤ high2_1))) h) ∧
  ((decide (low1_1 ≤ n0_1)) = false →
  K (VB false) h)
theorem v110 (n0_1 : Int) (low1_1 : Int) (high2_1 : Int) (h : Heap) (K : Value → Heap → Prop) (H : u110 Try.prog n0_1 low1_1 high2_1 h K) : callM Try.prog 110 #[(VI n0_1), (VI low1_1), (VI high2_1)] h K := by
  refine c110 (VI n0_1) (VI low1_1) (VI high2_1) h K ?_
  unfold u110 at H
  unfold t110
  have hL : Vars h [] := .nil
  refine pop_leq .i64 low1_1 n0_1 ?_
  refine guardM_st (fun hb_1 => ?_) (fun hb_1 => ?_)
  · have H := H.1 hb_1
    refine guardM_y' hb_1 ?_
    refine guardM_y' hb_1 ?_
    refine pop_leq .i64 n0_1 high2_1 ?_
    refine pop_pickt' hb_1 ?_
    exact H
  · have H := H.2 hb_1
    refine guardM_n' hb_1 (by decide) ?_
    refine guardM_n' hb_1 (by decide) ?_
    refine pop_pickf' hb_1 ?_
    exact H

/-! slices.Clone[[]int,int] -/
def u111 (P : Program) (s0_1 : Sl) (h : Heap) (K : Value → Heap → Prop) : Prop :=
  pop P (binE .eql 25 (.tmp 3) (.const (Value.slice none 0 0)) (Sl.v s0_1) (Value.slice none 0 0)) fun rv_1 => ∃ t4_1 : Bool, rv_1 = (VB t4_1) ∧ 
  (t4_1 = true →
  K (Sl.v nilSl) h) ∧
  (t4_1 = false →
  eop P (Instr.buildSlice 25 0 #[]) h fun rv_2 h_1 => ∃ t5_1 : Sl, rv_2 = (Sl.v t5_1) ∧ Vars h_1 [] ∧
  eop P (appS 25 25 25 (Sl.v t5_1) (Sl.v s0_1)) h_1 fun rv_3 h_2 => ∃ t7_1 : Sl, rv_3 = (Sl.v t7_1) ∧ Vars h_2 [] ∧
  K (Sl.v t7_1) h_2)
theorem v111 (s0_1 : Sl) (h : Heap) (K : Value → Heap → Prop) (H : u111 Try.prog s0_1 h K) : callM Try.prog 111 #[(Sl.v s0_1)] h K := by
  refine c111 (Sl.v s0_1) h K ?_
  unfold u111 at H
  unfold t111
  have hL : Vars h [] := .nil
  refine H.mono fun rv_1 H => ?_
  obtain ⟨t4_1, rfl, H⟩ := H
  refine condM_b (fun hb_1 => ?_) (fun hb_1 => ?_)
  · have H := H.1 hb_1
    exact H
  · have H := H.2 hb_1
    refine H.mono fun rv_2 h_1 H => ?_
    obtain ⟨t5_1, rfl, hL_1, H⟩ := H
    refine H.mono fun rv_3 h_2 H => ?_
    obtain ⟨t7_1, rfl, hL_2, H⟩ := H
    exact H

/-! (impl.Graph).step -/
def u112 (P : Program) (g0_1 : Sl) (b_1 : Nat) (w1_1 : Sl) (w1_2 : Int) (h : Heap) (K : Value → Heap → Prop) : Prop :=
  InB g0_1 w1_2 ∧
  ∀ (b_2 : Nat) (h_1 : Heap), h.size ≤ b_2 → Fr (In []) h h_1 → Vars h_1 [(b_2, [(Sl.v g0_1)]), (b_1, [(Sl.v w1_1), (VI w1_2)])] →
  ∃ t13_1 : Sl, hcell h_1 (Sl.at g0_1 w1_2 1) = some (Sl.v t13_1) ∧
  ((decide ((t13_1.n : Int) = 0)) = true →
  K (VB false) h_1) ∧
  ((decide ((t13_1.n : Int) = 0)) = false →
  InB w1_1 w1_2 ∧
  ∃ t34_1 : Int, hcell h_1 (Sl.at w1_1 w1_2 1) = some (VI t34_1) ∧
  (t13_1.n : Int) ≠ 0 ∧
  InB w1_1 w1_2 ∧
  Writable h_1 (Sl.at w1_1 w1_2 1) ∧ Vars (hset h_1 (Sl.at w1_1 w1_2 1) (VI (Int.tmod (w64 (t34_1 + 1)) (t13_1.n : Int)))) [(b_2, [(Sl.v g0_1)]), (b_1, [(Sl.v w1_1), (VI w1_2)])] ∧
  ∀ h_2 : Heap, h_2 = hset h_1 (Sl.at w1_1 w1_2 1) (VI (Int.tmod (w64 (t34_1 + 1)) (t13_1.n : Int))) → Vars h_2 [(b_2, [(Sl.v g0_1)]), (b_1, [(Sl.v w1_1), (VI w1_2)])] →
  InB w1_1 w1_2 ∧
  ∃ t51_1 : Int, hcell h_2 (Sl.at w1_1 w1_2 1) = some (VI t51_1) ∧
  InB t13_1 t51_1 ∧
  ∃ t53_1 : Int, hcell h_2 (Sl.at t13_1 t51_1 1) = some (VI t53_1) ∧
  ∀ (h_3 : Heap), Fr (In [b_1]) h_2 h_3 → Vars h_3 [(b_2, [(Sl.v g0_1)]), (b_1, [(Sl.v w1_1), (VI t53_1)])] →
  K (VB true) h_3)
theorem v112 (g0_1 : Sl) (b_1 : Nat) (w1_1 : Sl) (w1_2 : Int) (h : Heap) (K : Value → Heap → Prop) (hL : Vars h [(b_1, [(Sl.v w1_1), (VI w1_2)])]) (H : u112 Try.prog g0_1 b_1 w1_1 w1_2 h K) : callM Try.prog 112 #[(Value.agg #[(Sl.v g0_1)]), (VP b_1 0)] h K := by
  refine c112 (Value.agg #[(Sl.v g0_1)]) (VP b_1 0) h K ?_
  unfold u112 at H
  unfold t112
  refine eop_box 32 (Value.agg #[(Sl.v g0_1)]) rfl hL (fun b_2 h_1 hb_1 hf_1 hL_1 => ?_)
  refine pop_field 0 fld32_0 b_2 0 ?_
  refine rop_loc one22 hL_1 0 rfl 0 (v := (Sl.v g0_1)) rfl ?_
  refine pop_nil _ ?_
  refine pop_field 1 fld34_1 b_1 0 ?_
  refine rop_loc one3 hL_1 1 rfl 1 (v := (VI w1_2)) rfl ?_
  obtain ⟨hi_1, H⟩ := H
  refine pop_index sli22 siz25 .i64 g0_1 w1_2 hi_1 ?_
  have H := H b_2 h_1 (Nat.le_trans (Fr.size (Fr.r (In []) _)) hb_1) (Fr.no' (Fr.r (In []) _) hf_1) hL_1
  obtain ⟨t13_1, hc_4, H⟩ := H
  refine rop_one one25 (Sl.v t13_1) hc_4 ?_
  refine pop_len t13_1 _ _ sli25 ?_
  refine pop_ieq .i64 _ _ (t13_1.n : Int) 0 ?_
  refine condM_b (fun hb_2 => ?_) (fun hb_2 => ?_)
  · have H := H.1 hb_2
    exact H
  · have H := H.2 hb_2
    refine pop_nil _ ?_
    refine pop_field 0 fld34_0 b_1 0 ?_
    refine rop_loc one25 hL_1 1 rfl 0 (v := (Sl.v w1_1)) rfl ?_
    refine pop_nil _ ?_
    refine pop_field 1 fld34_1 b_1 0 ?_
    refine rop_loc one3 hL_1 1 rfl 1 (v := (VI w1_2)) rfl ?_
    refine pop_nil _ ?_
    refine pop_field 0 fld34_0 b_1 0 ?_
    refine rop_loc one25 hL_1 1 rfl 0 (v := (Sl.v w1_1)) rfl ?_
    refine pop_nil _ ?_
    refine pop_field 1 fld34_1 b_1 0 ?_
    refine rop_loc one3 hL_1 1 rfl 1 (v := (VI w1_2)) rfl ?_
    obtain ⟨hi_2, H⟩ := H
    refine pop_index sli25 siz3 .i64 w1_1 w1_2 hi_2 ?_
    obtain ⟨t34_1, hc_3, H⟩ := H
    refine rop_one one3 (VI t34_1) hc_3 ?_
    refine pop_add .i64 t34_1 1 ?_
    refine pop_len t13_1 _ _ sli25 ?_
    obtain ⟨hz_1, H⟩ := H
    refine pop_rem .i64 (w64 (t34_1 + 1)) (t13_1.n : Int) hz_1 ?_
    obtain ⟨hi_3, H⟩ := H
    refine pop_index sli25 siz3 .i64 w1_1 w1_2 hi_3 ?_
    obtain ⟨hw_1, hL_2, H⟩ := H
    refine uop_cell (v := (VI (Int.tmod (w64 (t34_1 + 1)) (t13_1.n : Int)))) siz3 hw_1 rfl (fun h_2 he_1 => ?_)
    rw [← he_1] at hL_2
    have H := H h_2 he_1 hL_2
    refine pop_nil _ ?_
    refine pop_field 0 fld34_0 b_1 0 ?_
    refine rop_loc one25 hL_2 1 rfl 0 (v := (Sl.v w1_1)) rfl ?_
    refine pop_nil _ ?_
    refine pop_field 1 fld34_1 b_1 0 ?_
    refine rop_loc one3 hL_2 1 rfl 1 (v := (VI w1_2)) rfl ?_
    obtain ⟨hi_4, H⟩ := H
    refine pop_index sli25 siz3 .i64 w1_1 w1_2 hi_4 ?_
    obtain ⟨t51_1, hc_2, H⟩ := H
    refine rop_one one3 (VI t51_1) hc_2 ?_
    obtain ⟨hi_5, H⟩ := H
    refine pop_index sli25 siz3 .i64 t13_1 t51_1 hi_5 ?_
    obtain ⟨t53_1, hc_1, H⟩ := H
    refine rop_one one3 (VI t53_1) hc_1 ?_
    refine pop_nil _ ?_
    refine pop_field 1 fld34_1 b_1 0 ?_
    refine uop_loc siz3 hL_2 1 rfl 1 [(VI t53_1)] rfl rfl rfl (Nat.le_of_ble_eq_true rfl) (L' := [(b_2, [(Sl.v g0_1)]), (b_1, [(Sl.v w1_1), (VI t53_1)])]) rfl (fun h_3 hf_2 hL_3 => ?_)
    have H := H  h_3  (Fr.old (Fr.r (In []) _) hf_2) hL_3
    exact H

/-! spec.l1Most -/
def u113 (P : Program) (a0_1 : Int) (b1_1 : Int) (h : Heap) (K : Value → Heap → Prop) : Prop :=
  ((decide (b1_1 < a0_1)) = true →
  K (VI a0_1) h) ∧
  ((decide (b1_1 < a0_1)) = false →
  K (VI b1_1) h)
theorem v113 (a0_1 : Int) (b1_1 : Int) (h : Heap) (K : Value → Heap → Prop) (H : u113 Try.prog a0_1 b1_1 h K) : callM Try.prog 113 #[(VI a0_1), (VI b1_1)] h K := by
  refine c113 (VI a0_1) (VI b1_1) h K ?_
  unfold u113 at H
  unfold t113
  have hL : Vars h [] := .nil
  refine pop_gtr .i64 a0_1 b1_1 ?_
  refine condM_b (fun hb_1 => ?_) (fun hb_1 => ?_)
  · have H := H.1 hb_1
    exact H
  · have H := H.2 hb_1
    exact H

/-! spec.l1Own -/
def u116 (P : Program) (l0_1 : Sl) (h : Heap) (K : Value → Heap → Prop) : Prop :=
  eop P (Instr.buildSlice 25 0 #[]) h fun rv_1 h_1 => ∃ t3_1 : Sl, rv_1 = (Sl.v t3_1) ∧ Vars h_1 [] ∧
  eop P (appS 25 25 25 (Sl.v t3_1) (Sl.v l0_1)) h_1 fun rv_2 h_2 => ∃ t5_1 : Sl, rv_2 = (Sl.v t5_1) ∧ Vars h_2 [] ∧
  K (Sl.v t5_1) h_2
theorem v116 (l0_1 : Sl) (h : Heap) (K : Value → Heap → Prop) (H : u116 Try.prog l0_1 h K) : callM Try.prog 116 #[(Sl.v l0_1)] h K := by
  refine c116 (Sl.v l0_1) h K ?_
  unfold u116 at H
  unfold t116
  have hL : Vars h [] := .nil
  refine H.mono fun rv_1 h_1 H => ?_
  obtain ⟨t3_1, rfl, hL_1, H⟩ := H
  refine H.mono fun rv_2 h_2 H => ?_
  obtain ⟨t5_1, rfl, hL_2, H⟩ := H
  exact H

/-! spec.grGood -/
def u119 (P : Program) (g0_1 : Sl) (h : Heap) (K : Value → Heap → Prop) : Prop :=
  ∀ (b_1 : Nat) (h_1 : Heap), h.size ≤ b_1 → Fr (In []) h h_1 → Vars h_1 [(b_1, [(Sl.v g0_1)])] →
  callM P 109 #[(VI (g0_1.n : Int)), (VI 1), (VI 8)] h_1 fun rv_1 h_2 => ∃ t10_1 : Bool, rv_1 = (VB t10_1) ∧ Vars h_2 [(b_1, [(Sl.v g0_1)])] ∧
  ((!t10_1) = true →
  K (VB false) h_2) ∧
  ((!t10_1) = false →
  ∃ J_1 : Nat → Int → Heap → Prop, (∃ n0 : Nat, J_1 n0 0 h_2) ∧
  ∀ (n_1 : Nat) (t15_1 : Int) (h_3 : Heap), J_1 n_1 t15_1 h_3 → Vars h_3 [(b_1, [(Sl.v g0_1)])] →
  ((decide (t15_1 < (g0_1.n : Int))) = true →
  InB g0_1 t15_1 ∧
  ∃ t18_1 : Sl, hcell h_3 (Sl.at g0_1 t15_1 1) = some (Sl.v t18_1) ∧
  ((decide (5 < (t18_1.n : Int))) = true →
  K (VB false) h_3) ∧
  ((decide (5 < (t18_1.n : Int))) = false →
  callM P 97 #[(Sl.v t18_1), (VI 0), (VI (w64 ((g0_1.n : Int) - 1)))] h_3 fun rv_2 h_4 => ∃ t26_1 : Bool, rv_2 = (VB t26_1) ∧ Vars h_4 [(b_1, [(Sl.v g0_1)])] ∧
  ((!t26_1) = true →
  K (VB false) h_4) ∧
  ((!t26_1) = false →
  ∃ m : Nat, m < n_1 ∧ J_1 m (w64 (t15_1 + 1)) h_4))) ∧
  ((decide (t15_1 < (g0_1.n : Int))) = false →
  K (VB true) h_3))
theorem v119 (g0_1 : Sl) (h : Heap) (K : Value → Heap → Prop) (H : u119 Try.prog g0_1 h K) : callM Try.prog 119 #[(Value.agg #[(Sl.v g0_1)])] h K := by
  refine c119 (Value.agg #[(Sl.v g0_1)]) h K ?_
  unfold u119 at H
  unfold t119
  have hL : Vars h [] := .nil
  refine eop_box 32 (Value.agg #[(Sl.v g0_1)]) rfl hL (fun b_1 h_1 hb_1 hf_1 hL_1 => ?_)
  refine pop_field 0 fld32_0 b_1 0 ?_
  refine rop_loc one22 hL_1 0 rfl 0 (v := (Sl.v g0_1)) rfl ?_
  refine pop_len g0_1 _ _ sli22 ?_
  have H := H b_1 h_1 (Nat.le_trans (Fr.size (Fr.r (In []) _)) hb_1) (Fr.no' (Fr.r (In []) _) hf_1) hL_1
  refine H.mono fun rv_1 h_2 H => ?_
  obtain ⟨t10_1, rfl, hL_2, H⟩ := H
  refine pop_not t10_1 ?_
  refine condM_b (fun hb_2 => ?_) (fun hb_2 => ?_)
  · have H := H.1 hb_2
    exact H
  · have H := H.2 hb_2
    refine pop_field 0 fld32_0 b_1 0 ?_
    refine rop_loc one22 hL_2 0 rfl 0 (v := (Sl.v g0_1)) rfl ?_
    refine pop_len g0_1 _ _ sli22 ?_
    obtain ⟨J_1, ⟨n_2, h0_1⟩, HB_1⟩ := H
    refine loop_intro (J := fun (n : Nat) (vs : List Value) (h' : Heap) => ∃ t15_1 : Int, vs = [(VI t15_1)] ∧ J_1 n t15_1 h' ∧ Vars h' [(b_1, [(Sl.v g0_1)])]) n_2 ⟨0, rfl, h0_1, hL_2⟩ ?_
    intro I_1 mu_1 hI_1 junk_1 tv_1 h_3 hi_1
    obtain ⟨n_1, ⟨t15_1, hv, hJ_1, hL_3⟩, hn_1⟩ := hI_1 _ _ hi_1
    cases hv
    have H := HB_1 n_1 t15_1 h_3 hJ_1 hL_3
    refine pop_lss .i64 t15_1 (g0_1.n : Int) ?_
    refine condM_b (fun hb_3 => ?_) (fun hb_3 => ?_)
    · have H := H.1 hb_3
      obtain ⟨hi_2, H⟩ := H
      refine pop_index sli22 siz25 .i64 g0_1 t15_1 hi_2 ?_
      obtain ⟨t18_1, hc_1, H⟩ := H
      refine rop_one one25 (Sl.v t18_1) hc_1 ?_
      refine pop_len t18_1 _ _ sli25 ?_
      refine pop_gtr .i64 (t18_1.n : Int) 5 ?_
      refine guardM_sf (fun hb_4 => ?_) (fun hb_4 => ?_)
      · have H := H.2 hb_4
        refine guardM_y' hb_4 ?_
        refine guardM_y' hb_4 ?_
        refine pop_sub .i64 (g0_1.n : Int) 1 ?_
        refine guardM_y' hb_4 ?_
        refine H.mono fun rv_2 h_4 H => ?_
        obtain ⟨t26_1, rfl, hL_4, H⟩ := H
        refine guardM_y' hb_4 ?_
        refine pop_not t26_1 ?_
        refine pop_pickf' hb_4 ?_
        refine condM_b (fun hb_5 => ?_) (fun hb_5 => ?_)
        · have H := H.1 hb_5
          exact H
        · have H := H.2 hb_5
          refine pop_add .i64 t15_1 1 ?_
          obtain ⟨m_1, hm_1, H⟩ := H
          exact hn_1 _ _ ⟨m_1, hm_1, (w64 (t15_1 + 1)), rfl, H, hL_4⟩
      · have H := H.1 hb_4
        refine guardM_n' hb_4 (by decide) ?_
        refine guardM_n' hb_4 (by decide) ?_
        refine guardM_n' hb_4 (by decide) ?_
        refine guardM_n' hb_4 (by decide) ?_
        refine pop_pickt' hb_4 ?_
        refine condM_t ?_
        exact H
    · have H := H.2 hb_3
      exact H

/-! impl.isGraph -/
def u122 (P : Program) (g0_1 : Sl) (h : Heap) (K : Value → Heap → Prop) : Prop :=
  ∀ (b_1 : Nat) (b_2 : Nat) (h_3 : Heap), h.size ≤ b_1 → h.size ≤ b_2 → Fr (In []) h h_3 → Vars h_3 [(b_2, [(VI (g0_1.n : Int))]), (b_1, [(Sl.v g0_1)])] →
  callM P 110 #[(VI (g0_1.n : Int)), (VI 1), (VI 8)] h_3 fun rv_1 h_4 => ∃ t10_1 : Bool, rv_1 = (VB t10_1) ∧ Vars h_4 [(b_2, [(VI (g0_1.n : Int))]), (b_1, [(Sl.v g0_1)])] ∧
  ((!t10_1) = true →
  K (VB false) h_4) ∧
  ((!t10_1) = false →
  ∃ J_1 : Nat → Int → Int → Heap → Prop, (∃ n0 : Nat, J_1 n0 0 (g0_1.n : Int) h_4) ∧
  ∀ (n_1 : Nat) (t15_1 : Int) (x_1 : Int) (h_5 : Heap), J_1 n_1 t15_1 x_1 h_5 → Vars h_5 [(b_2, [(VI x_1)]), (b_1, [(Sl.v g0_1)])] →
  ((decide (t15_1 < (g0_1.n : Int))) = true →
  InB g0_1 t15_1 ∧
  ∃ t18_1 : Sl, hcell h_5 (Sl.at g0_1 t15_1 1) = some (Sl.v t18_1) ∧
  ((decide (5 < (t18_1.n : Int))) = true →
  K (VB false) h_5) ∧
  ((decide (5 < (t18_1.n : Int))) = false →
  callM P 106 #[(Sl.v t18_1), (Value.func (Fn.func 141) #[] #[(VP b_2 0)])] h_5 fun rv_2 h_6 => ∃ x_2 : Int, ∃ t25_1 : Bool, rv_2 = (VB t25_1) ∧ Vars h_6 [(b_2, [(VI x_2)]), (b_1, [(Sl.v g0_1)])] ∧
  (t25_1 = true →
  K (VB false) h_6) ∧
  (t25_1 = false →
  ∃ m : Nat, m < n_1 ∧ J_1 m (w64 (t15_1 + 1)) x_2 h_6))) ∧
  ((decide (t15_1 < (g0_1.n : Int))) = false →
  K (VB true) h_5))
theorem v122 (g0_1 : Sl) (h : Heap) (K : Value → Heap → Prop) (H : u122 Try.prog g0_1 h K) : callM Try.prog 122 #[(Value.agg #[(Sl.v g0_1)])] h K := by
  refine c122 (Value.agg #[(Sl.v g0_1)]) h K ?_
  unfold u122 at H
  unfold t122
  have hL : Vars h [] := .nil
  refine eop_box 32 (Value.agg #[(Sl.v g0_1)]) rfl hL (fun b_1 h_1 hb_1 hf_1 hL_1 => ?_)
  refine pop_field 0 fld32_0 b_1 0 ?_
  refine rop_loc one22 hL_1 0 rfl 0 (v := (Sl.v g0_1)) rfl ?_
  refine pop_len g0_1 _ _ sli22 ?_
  refine eop_alloc 3 zer3 rfl hL_1 (fun b_2 h_2 hb_2 hf_2 hL_2 => ?_)
  refine uop_loc siz3 hL_2 0 rfl 0 [(VI (g0_1.n : Int))] rfl rfl rfl (Nat.le_of_ble_eq_true rfl) (L' := [(b_2, [(VI (g0_1.n : Int))]), (b_1, [(Sl.v g0_1)])]) rfl (fun h_3 hf_3 hL_3 => ?_)
  refine rop_loc one3 hL_3 0 rfl 0 (v := (VI (g0_1.n : Int))) rfl ?_
  have H := H b_1 b_2 h_3 (Nat.le_trans (Fr.size (Fr.r (In []) _)) hb_1) (Nat.le_trans (Fr.size (Fr.no' (Fr.r (In []) _) hf_1)) hb_2) (Fr.new (Fr.no' (Fr.no' (Fr.r (In []) _) hf_1) hf_2) (Nat.le_trans (Fr.size (Fr.no' (Fr.r (In []) _) hf_1)) hb_2) hf_3) hL_3
  refine H.mono fun rv_1 h_4 H => ?_
  obtain ⟨t10_1, rfl, hL_4, H⟩ := H
  refine pop_not t10_1 ?_
  refine condM_b (fun hb_3 => ?_) (fun hb_3 => ?_)
  · have H := H.1 hb_3
    exact H
  · have H := H.2 hb_3
    refine pop_field 0 fld32_0 b_1 0 ?_
    refine rop_loc one22 hL_4 1 rfl 0 (v := (Sl.v g0_1)) rfl ?_
    refine pop_len g0_1 _ _ sli22 ?_
    obtain ⟨J_1, ⟨n_2, h0_1⟩, HB_1⟩ := H
    refine loop_intro (J := fun (n : Nat) (vs : List Value) (h' : Heap) => ∃ t15_1 : Int, ∃ x_1 : Int, vs = [(VI t15_1)] ∧ J_1 n t15_1 x_1 h' ∧ Vars h' [(b_2, [(VI x_1)]), (b_1, [(Sl.v g0_1)])]) n_2 ⟨0, (g0_1.n : Int), rfl, h0_1, hL_4⟩ ?_
    intro I_1 mu_1 hI_1 junk_1 tv_1 h_5 hi_1
    obtain ⟨n_1, ⟨t15_1, x_1, hv, hJ_1, hL_5⟩, hn_1⟩ := hI_1 _ _ hi_1
    cases hv
    have H := HB_1 n_1 t15_1 x_1 h_5 hJ_1 hL_5
    refine pop_lss .i64 t15_1 (g0_1.n : Int) ?_
    refine condM_b (fun hb_4 => ?_) (fun hb_4 => ?_)
    · have H := H.1 hb_4
      obtain ⟨hi_2, H⟩ := H
      refine pop_index sli22 siz25 .i64 g0_1 t15_1 hi_2 ?_
      obtain ⟨t18_1, hc_1, H⟩ := H
      refine rop_one one25 (Sl.v t18_1) hc_1 ?_
      refine pop_len t18_1 _ _ sli25 ?_
      refine pop_gtr .i64 (t18_1.n : Int) 5 ?_
      refine guardM_sf (fun hb_5 => ?_) (fun hb_5 => ?_)
      · have H := H.2 hb_5
        refine guardM_y' hb_5 ?_
        refine pop_func _ _ _ ?_
        refine guardM_y' hb_5 ?_
        refine H.mono fun rv_2 h_6 H => ?_
        obtain ⟨x_2, t25_1, rfl, hL_6, H⟩ := H
        refine pop_pickf' hb_5 ?_
        refine condM_b (fun hb_6 => ?_) (fun hb_6 => ?_)
        · have H := H.1 hb_6
          exact H
        · have H := H.2 hb_6
          refine pop_add .i64 t15_1 1 ?_
          obtain ⟨m_1, hm_1, H⟩ := H
          exact hn_1 _ _ ⟨m_1, hm_1, (w64 (t15_1 + 1)), x_2, rfl, H, hL_6⟩
      · have H := H.1 hb_5
        refine guardM_n' hb_5 (by decide) ?_
        refine guardM_n' hb_5 (by decide) ?_
        refine pop_pickt' hb_5 ?_
        refine condM_t ?_
        exact H
    · have H := H.2 hb_4
      exact H

/-! impl.has$1 -/
def u123 (P : Program) (p0_1 : Int) (b_1 : Nat) (t1_1 : Sl) (h : Heap) (K : Value → Heap → Prop) : Prop :=
  callM P 110 #[(VI p0_1), (VI 0), (VI (w64 ((t1_1.n : Int) - 1)))] h fun rv_1 h_1 => ∃ t9_1 : Bool, rv_1 = (VB t9_1) ∧ Vars h_1 [(b_1, [(Sl.v t1_1)])] ∧
  K (VB (!t9_1)) h_1
theorem v123 (p0_1 : Int) (b_1 : Nat) (t1_1 : Sl) (h : Heap) (K : Value → Heap → Prop) (hL : Vars h [(b_1, [(Sl.v t1_1)])]) (H : u123 Try.prog p0_1 b_1 t1_1 h K) : callM Try.prog 123 #[(VI p0_1), (VP b_1 0)] h K := by
  refine c123 (VI p0_1) (VP b_1 0) h K ?_
  unfold u123 at H
  unfold t123
  refine pop_field 0 fld32_0 b_1 0 ?_
  refine rop_loc one22 hL 0 rfl 0 (v := (Sl.v t1_1)) rfl ?_
  refine pop_len t1_1 _ _ sli22 ?_
  refine pop_sub .i64 (t1_1.n : Int) 1 ?_
  refine H.mono fun rv_1 h_1 H => ?_
  obtain ⟨t9_1, rfl, hL_1, H⟩ := H
  refine pop_not t9_1 ?_
  exact H

/-! impl.force$1 -/
def u130 (P : Program) (n0_1 : Int) (h : Heap) (K : Value → Heap → Prop) : Prop :=
  callM P 110 #[(VI n0_1), (VI 0), (VI 50)] h fun rv_1 h_1 => ∃ t4_1 : Bool, rv_1 = (VB t4_1) ∧ Vars h_1 [] ∧
  K (VB (!t4_1)) h_1
theorem v130 (n0_1 : Int) (h : Heap) (K : Value → Heap → Prop) (H : u130 Try.prog n0_1 h K) : callM Try.prog 130 #[(VI n0_1)] h K := by
  refine c130 (VI n0_1) h K ?_
  unfold u130 at H
  unfold t130
  have hL : Vars h [] := .nil
  refine H.mono fun rv_1 h_1 H => ?_
  obtain ⟨t4_1, rfl, hL_1, H⟩ := H
  refine pop_not t4_1 ?_
  exact H

/-! (*impl.Load).send -/
def u131 (P : Program) (b_1 : Nat) (l0_1 : Sl) (l0_2 : Sl) (g1_1 : Sl) (p2_1 : Int) (h : Heap) (K : Value → Heap → Prop) : Prop :=
  ∀ (b_2 : Nat) (b_3 : Nat) (h_3 : Heap), h.size ≤ b_2 → h.size ≤ b_3 → Fr (In []) h h_3 → Vars h_3 [(b_3, [(Sl.v l0_1), (VI p2_1)]), (b_2, [(Sl.v g1_1)]), (b_1, [(Sl.v l0_1), (Sl.v l0_2)])] →
  callM P 112 #[(Value.agg #[(Sl.v g1_1)]), (VP b_3 0)] h_3 fun rv_1 h_4 => ∃ x_1 : Sl, ∃ x_2 : Int, ∃ t14_1 : Bool, rv_1 = (VB t14_1) ∧ Vars h_4 [(b_3, [(Sl.v x_1), (VI x_2)]), (b_2, [(Sl.v g1_1)]), (b_1, [(Sl.v l0_1), (Sl.v l0_2)])] ∧
  InB l0_2 p2_1 ∧
  ∃ t21_1 : Int, hcell h_4 (Sl.at l0_2 p2_1 1) = some (VI t21_1) ∧
  InB l0_2 p2_1 ∧
  Writable h_4 (Sl.at l0_2 p2_1 1) ∧ Vars (hset h_4 (Sl.at l0_2 p2_1 1) (VI (w64 (t21_1 - 1)))) [(b_3, [(Sl.v x_1), (VI x_2)]), (b_2, [(Sl.v g1_1)]), (b_1, [(Sl.v l0_1), (Sl.v l0_2)])] ∧
  ∀ h_5 : Heap, h_5 = hset h_4 (Sl.at l0_2 p2_1 1) (VI (w64 (t21_1 - 1))) → Vars h_5 [(b_3, [(Sl.v x_1), (VI x_2)]), (b_2, [(Sl.v g1_1)]), (b_1, [(Sl.v l0_1), (Sl.v l0_2)])] →
  InB l0_2 x_2 ∧
  ∃ t31_1 : Int, hcell h_5 (Sl.at l0_2 x_2 1) = some (VI t31_1) ∧
  InB l0_2 x_2 ∧
  Writable h_5 (Sl.at l0_2 x_2 1) ∧ Vars (hset h_5 (Sl.at l0_2 x_2 1) (VI (w64 (t31_1 + 1)))) [(b_3, [(Sl.v x_1), (VI x_2)]), (b_2, [(Sl.v g1_1)]), (b_1, [(Sl.v l0_1), (Sl.v l0_2)])] ∧
  ∀ h_6 : Heap, h_6 = hset h_5 (Sl.at l0_2 x_2 1) (VI (w64 (t31_1 + 1))) → Vars h_6 [(b_3, [(Sl.v x_1), (VI x_2)]), (b_2, [(Sl.v g1_1)]), (b_1, [(Sl.v l0_1), (Sl.v l0_2)])] →
  K (Value.tuple #[]) h_6
theorem v131 (b_1 : Nat) (l0_1 : Sl) (l0_2 : Sl) (g1_1 : Sl) (p2_1 : Int) (h : Heap) (K : Value → Heap → Prop) (hL : Vars h [(b_1, [(Sl.v l0_1), (Sl.v l0_2)])]) (H : u131 Try.prog b_1 l0_1 l0_2 g1_1 p2_1 h K) : callM Try.prog 131 #[(VP b_1 0), (Value.agg #[(Sl.v g1_1)]), (VI p2_1)] h K := by
  refine c131 (VP b_1 0) (Value.agg #[(Sl.v g1_1)]) (VI p2_1) h K ?_
  unfold u131 at H
  unfold t131
  refine eop_box 32 (Value.agg #[(Sl.v g1_1)]) rfl hL (fun b_2 h_1 hb_1 hf_1 hL_1 => ?_)
  refine pop_nil _ ?_
  refine pop_field 0 fld63_0 b_1 0 ?_
  refine rop_loc one25 hL_1 1 rfl 0 (v := (Sl.v l0_1)) rfl ?_
  refine pop.mk' (v := (Value.agg #[(Sl.v l0_1), (VI p2_1)])) (fun w => by kernel_rfl) ?_
  refine eop_alloc 34 zer34 rfl hL_1 (fun b_3 h_2 hb_2 hf_2 hL_2 => ?_)
  refine uop_loc siz34 hL_2 0 rfl 0 [(Sl.v l0_1), (VI p2_1)] rfl rfl rfl (Nat.le_of_ble_eq_true rfl) (L' := [(b_3, [(Sl.v l0_1), (VI p2_1)]), (b_2, [(Sl.v g1_1)]), (b_1, [(Sl.v l0_1), (Sl.v l0_2)])]) rfl (fun h_3 hf_3 hL_3 => ?_)
  refine rop_locA agg32 hL_3 1 rfl 0 (vs := [(Sl.v g1_1)]) rfl rfl ?_
  have H := H b_2 b_3 h_3 (Nat.le_trans (Fr.size (Fr.r (In []) _)) hb_1) (Nat.le_trans (Fr.size (Fr.no' (Fr.r (In []) _) hf_1)) hb_2) (Fr.new (Fr.no' (Fr.no' (Fr.r (In []) _) hf_1) hf_2) (Nat.le_trans (Fr.size (Fr.no' (Fr.r (In []) _) hf_1)) hb_2) hf_3) hL_3
  refine H.mono fun rv_1 h_4 H => ?_
  obtain ⟨x_1, x_2, t14_1, rfl, hL_4, H⟩ := H
  refine pop_nil _ ?_
  refine pop_field 1 fld63_1 b_1 0 ?_
  refine rop_loc one25 hL_4 2 rfl 1 (v := (Sl.v l0_2)) rfl ?_
  obtain ⟨hi_1, H⟩ := H
  refine pop_index sli25 siz3 .i64 l0_2 p2_1 hi_1 ?_
  obtain ⟨t21_1, hc_2, H⟩ := H
  refine rop_one one3 (VI t21_1) hc_2 ?_
  refine pop_sub .i64 t21_1 1 ?_
  obtain ⟨hi_2, H⟩ := H
  refine pop_index sli25 siz3 .i64 l0_2 p2_1 hi_2 ?_
  obtain ⟨hw_1, hL_5, H⟩ := H
  refine uop_cell (v := (VI (w64 (t21_1 - 1)))) siz3 hw_1 rfl (fun h_5 he_1 => ?_)
  rw [← he_1] at hL_5
  have H := H h_5 he_1 hL_5
  refine pop_nil _ ?_
  refine pop_field 1 fld63_1 b_1 0 ?_
  refine rop_loc one25 hL_5 2 rfl 1 (v := (Sl.v l0_2)) rfl ?_
  refine pop_field 1 fld34_1 b_3 0 ?_
  refine rop_loc one3 hL_5 0 rfl 1 (v := (VI x_2)) rfl ?_
  obtain ⟨hi_3, H⟩ := H
  refine pop_index sli25 siz3 .i64 l0_2 x_2 hi_3 ?_
  obtain ⟨t31_1, hc_1, H⟩ := H
  refine rop_one one3 (VI t31_1) hc_1 ?_
  refine pop_add .i64 t31_1 1 ?_
  obtain ⟨hi_4, H⟩ := H
  refine pop_index sli25 siz3 .i64 l0_2 x_2 hi_4 ?_
  obtain ⟨hw_2, hL_6, H⟩ := H
  refine uop_cell (v := (VI (w64 (t31_1 + 1)))) siz3 hw_2 rfl (fun h_6 he_2 => ?_)
  rw [← he_2] at hL_6
  have H := H h_6 he_2 hL_6
  exact H

/-! spec.chSink -/
def u132 (P : Program) (g0_1 : Sl) (sink1_1 : Int) (h : Heap) (K : Value → Heap → Prop) : Prop :=
  ∀ (b_1 : Nat) (h_1 : Heap), h.size ≤ b_1 → Fr (In []) h h_1 → Vars h_1 [(b_1, [(Sl.v g0_1)])] →
  callM P 81 #[(Value.agg #[(Sl.v g0_1)]), (VI sink1_1)] h_1 fun rv_1 h_2 => ∃ t7_1 : Bool, rv_1 = (VB t7_1) ∧ Vars h_2 [(b_1, [(Sl.v g0_1)])] ∧
  (t7_1 = true →
  callM P 143 #[(Value.agg #[(Sl.v g0_1)]), (VI sink1_1)] h_2 fun rv_2 h_3 => ∃ t11_1 : Bool, rv_2 = (VB t11_1) ∧ Vars h_3 [(b_1, [(Sl.v g0_1)])] ∧
  K (VB t11_1) h_3) ∧
  (t7_1 = false →
  K (VB false) h_2)
theorem v132 (g0_1 : Sl) (sink1_1 : Int) (h : Heap) (K : Value → Heap → Prop) (H : u132 Try.prog g0_1 sink1_1 h K) : callM Try.prog 132 #[(Value.agg #[(Sl.v g0_1)]), (VI sink1_1)] h K := by
  refine c132 (Value.agg #[(Sl.v g0_1)]) (VI sink1_1) h K ?_
  unfold u132 at H
  unfold t132
  have hL : Vars h [] := .nil
  refine eop_box 32 (Value.agg #[(Sl.v g0_1)]) rfl hL (fun b_1 h_1 hb_1 hf_1 hL_1 => ?_)
  refine rop_locA agg32 hL_1 0 rfl 0 (vs := [(Sl.v g0_1)]) rfl rfl ?_
  have H := H b_1 h_1 (Nat.le_trans (Fr.size (Fr.r (In []) _)) hb_1) (Fr.no' (Fr.r (In []) _) hf_1) hL_1
  refine H.mono fun rv_1 h_2 H => ?_
  obtain ⟨t7_1, rfl, hL_2, H⟩ := H
  refine guardM_st (fun hb_2 => ?_) (fun hb_2 => ?_)
  · have H := H.1 hb_2
    refine rop_locA agg32 hL_2 0 rfl 0 (vs := [(Sl.v g0_1)]) rfl rfl ?_
    refine guardM_y' hb_2 ?_
    refine guardM_y' hb_2 ?_
    refine H.mono fun rv_2 h_3 H => ?_
    obtain ⟨t11_1, rfl, hL_3, H⟩ := H
    refine pop_pickt' hb_2 ?_
    exact H
  · have H := H.2 hb_2
    refine guardM_n' hb_2 (by decide) ?_
    refine guardM_n' hb_2 (by decide) ?_
    refine pop_pickf' hb_2 ?_
    exact H

/-! spec.chSum -/
def u133 (P : Program) (list0_1 : Sl) (h : Heap) (K : Value → Heap → Prop) : Prop :=
  ∃ J_1 : Nat → Int → Int → Heap → Prop, (∃ n0 : Nat, J_1 n0 0 0 h) ∧
  ∀ (n_1 : Nat) (sum3_1 : Int) (t8_1 : Int) (h_1 : Heap), J_1 n_1 sum3_1 t8_1 h_1 → Vars h_1 [] →
  ((decide (t8_1 < (list0_1.n : Int))) = true →
  InB list0_1 t8_1 ∧
  ∃ t11_1 : Int, hcell h_1 (Sl.at list0_1 t8_1 1) = some (VI t11_1) ∧
  ∃ m : Nat, m < n_1 ∧ J_1 m (w64 (sum3_1 + t11_1)) (w64 (t8_1 + 1)) h_1) ∧
  ((decide (t8_1 < (list0_1.n : Int))) = false →
  K (VI sum3_1) h_1)
theorem v133 (list0_1 : Sl) (h : Heap) (K : Value → Heap → Prop) (H : u133 Try.prog list0_1 h K) : callM Try.prog 133 #[(Sl.v list0_1)] h K := by
  refine c133 (Sl.v list0_1) h K ?_
  unfold u133 at H
  unfold t133
  have hL : Vars h [] := .nil
  refine pop_len list0_1 _ _ sli25 ?_
  obtain ⟨J_1, ⟨n_2, h0_1⟩, HB_1⟩ := H
  refine loop_intro (J := fun (n : Nat) (vs : List Value) (h' : Heap) => ∃ sum3_1 : Int, ∃ t8_1 : Int, vs = [(VI sum3_1), (VI t8_1)] ∧ J_1 n sum3_1 t8_1 h' ∧ Vars h' []) n_2 ⟨0, 0, rfl, h0_1, hL⟩ ?_
  intro I_1 mu_1 hI_1 junk_1 tv_1 tv_2 h_1 hi_1
  obtain ⟨n_1, ⟨sum3_1, t8_1, hv, hJ_1, hL_1⟩, hn_1⟩ := hI_1 _ _ hi_1
  cases hv
  have H := HB_1 n_1 sum3_1 t8_1 h_1 hJ_1 hL_1
  refine pop_lss .i64 t8_1 (list0_1.n : Int) ?_
  refine condM_b (fun hb_1 => ?_) (fun hb_1 => ?_)
  · have H := H.1 hb_1
    obtain ⟨hi_2, H⟩ := H
    refine pop_index sli25 siz3 .i64 list0_1 t8_1 hi_2 ?_
    obtain ⟨t11_1, hc_1, H⟩ := H
    refine rop_one one3 (VI t11_1) hc_1 ?_
    refine pop_add .i64 sum3_1 t11_1 ?_
    refine pop_add .i64 t8_1 1 ?_
    obtain ⟨m_1, hm_1, H⟩ := H
    exact hn_1 _ _ ⟨m_1, hm_1, (w64 (sum3_1 + t11_1)), (w64 (t8_1 + 1)), rfl, H, hL_1⟩
  · have H := H.2 hb_1
    exact H

/-! impl.hasSink -/
def u134 (P : Program) (g0_1 : Sl) (sink1_1 : Int) (h : Heap) (K : Value → Heap → Prop) : Prop :=
  ∀ (b_1 : Nat) (h_1 : Heap), h.size ≤ b_1 → Fr (In []) h h_1 → Vars h_1 [(b_1, [(Sl.v g0_1)])] →
  eop P (Instr.buildSlice 25 1 #[(0, (VI sink1_1))]) h_1 fun rv_1 h_2 => ∃ t7_1 : Sl, rv_1 = (Sl.v t7_1) ∧ Vars h_2 [(b_1, [(Sl.v g0_1)])] ∧
  callM P 85 #[(Value.agg #[(Sl.v g0_1)]), (Sl.v t7_1)] h_2 fun rv_2 h_3 => ∃ t8_1 : Bool, rv_2 = (VB t8_1) ∧ Vars h_3 [(b_1, [(Sl.v g0_1)])] ∧
  (t8_1 = true →
  callM P 144 #[(Value.agg #[(Sl.v g0_1)]), (VI sink1_1)] h_3 fun rv_3 h_4 => ∃ t12_1 : Bool, rv_3 = (VB t12_1) ∧ Vars h_4 [(b_1, [(Sl.v g0_1)])] ∧
  K (VB t12_1) h_4) ∧
  (t8_1 = false →
  K (VB false) h_3)
theorem v134 (g0_1 : Sl) (sink1_1 : Int) (h : Heap) (K : Value → Heap → Prop) (H : u134 Try.prog g0_1 sink1_1 h K) : callM Try.prog 134 #[(Value.agg #[(Sl.v g0_1)]), (VI sink1_1)] h K := by
  refine c134 (Value.agg #[(Sl.v g0_1)]) (VI sink1_1) h K ?_
  unfold u134 at H
  unfold t134
  have hL : Vars h [] := .nil
  refine eop_box 32 (Value.agg #[(Sl.v g0_1)]) rfl hL (fun b_1 h_1 hb_1 hf_1 hL_1 => ?_)
  refine rop_locA agg32 hL_1 0 rfl 0 (vs := [(Sl.v g0_1)]) rfl rfl ?_
  have H := H b_1 h_1 (Nat.le_trans (Fr.size (Fr.r (In []) _)) hb_1) (Fr.no' (Fr.r (In []) _) hf_1) hL_1
  refine H.mono fun rv_1 h_2 H => ?_
  obtain ⟨t7_1, rfl, hL_2, H⟩ := H
  refine H.mono fun rv_2 h_3 H => ?_
  obtain ⟨t8_1, rfl, hL_3, H⟩ := H
  refine guardM_st (fun hb_2 => ?_) (fun hb_2 => ?_)
  · have H := H.1 hb_2
    refine rop_locA agg32 hL_3 0 rfl 0 (vs := [(Sl.v g0_1)]) rfl rfl ?_
    refine guardM_y' hb_2 ?_
    refine guardM_y' hb_2 ?_
    refine H.mono fun rv_3 h_4 H => ?_
    obtain ⟨t12_1, rfl, hL_4, H⟩ := H
    refine pop_pickt' hb_2 ?_
    exact H
  · have H := H.2 hb_2
    refine guardM_n' hb_2 (by decide) ?_
    refine guardM_n' hb_2 (by decide) ?_
    refine pop_pickf' hb_2 ?_
    exact H

/-! impl.areRotors -/
def u135 (P : Program) (g0_1 : Sl) (rotors1_1 : Sl) (h : Heap) (K : Value → Heap → Prop) : Prop :=
  ∀ (b_1 : Nat) (h_1 : Heap), h.size ≤ b_1 → Fr (In []) h h_1 → Vars h_1 [(b_1, [(Sl.v g0_1)])] →
  callM P 77 #[(Value.agg #[(Sl.v g0_1)]), (Value.agg #[(Sl.v rotors1_1), (VI 0)])] h_1 fun rv_1 h_2 => ∃ t8_1 : Bool, rv_1 = (VB t8_1) ∧ Vars h_2 [(b_1, [(Sl.v g0_1)])] ∧
  K (VB t8_1) h_2
theorem v135 (g0_1 : Sl) (rotors1_1 : Sl) (h : Heap) (K : Value → Heap → Prop) (H : u135 Try.prog g0_1 rotors1_1 h K) : callM Try.prog 135 #[(Value.agg #[(Sl.v g0_1)]), (Sl.v rotors1_1)] h K := by
  refine c135 (Value.agg #[(Sl.v g0_1)]) (Sl.v rotors1_1) h K ?_
  unfold u135 at H
  unfold t135
  have hL : Vars h [] := .nil
  refine eop_box 32 (Value.agg #[(Sl.v g0_1)]) rfl hL (fun b_1 h_1 hb_1 hf_1 hL_1 => ?_)
  refine rop_locA agg32 hL_1 0 rfl 0 (vs := [(Sl.v g0_1)]) rfl rfl ?_
  refine pop.mk' (v := (Value.agg #[(Sl.v rotors1_1), (VI 0)])) (fun w => by kernel_rfl) ?_
  have H := H b_1 h_1 (Nat.le_trans (Fr.size (Fr.r (In []) _)) hb_1) (Fr.no' (Fr.r (In []) _) hf_1) hL_1
  refine H.mono fun rv_1 h_2 H => ?_
  obtain ⟨t8_1, rfl, hL_2, H⟩ := H
  exact H

/-! impl.areChips -/
def u136 (P : Program) (g0_1 : Sl) (chips1_1 : Sl) (h : Heap) (K : Value → Heap → Prop) : Prop :=
  ((decide ((chips1_1.n : Int) = (g0_1.n : Int))) = true →
  ∀ (b_1 : Nat) (h_1 : Heap), h.size ≤ b_1 → Fr (In []) h h_1 → Vars h_1 [(b_1, [(Sl.v g0_1)])] →
  callM P 106 #[(Sl.v chips1_1), (Value.func (.func 145) #[] #[])] h_1 fun rv_1 h_2 => ∃ t13_1 : Bool, rv_1 = (VB t13_1) ∧ Vars h_2 [(b_1, [(Sl.v g0_1)])] ∧
  K (VB (!t13_1)) h_2) ∧
  ((decide ((chips1_1.n : Int) = (g0_1.n : Int))) = false →
  ∀ (b_1 : Nat) (h_1 : Heap), h.size ≤ b_1 → Fr (In []) h h_1 → Vars h_1 [(b_1, [(Sl.v g0_1)])] →
  K (VB false) h_1)
theorem v136 (g0_1 : Sl) (chips1_1 : Sl) (h : Heap) (K : Value → Heap → Prop) (H : u136 Try.prog g0_1 chips1_1 h K) : callM Try.prog 136 #[(Value.agg #[(Sl.v g0_1)]), (Sl.v chips1_1)] h K := by
  refine c136 (Value.agg #[(Sl.v g0_1)]) (Sl.v chips1_1) h K ?_
  unfold u136 at H
  unfold t136
  have hL : Vars h [] := .nil
  refine eop_box 32 (Value.agg #[(Sl.v g0_1)]) rfl hL (fun b_1 h_1 hb_1 hf_1 hL_1 => ?_)
  refine pop_len chips1_1 _ _ sli25 ?_
  refine pop_field 0 fld32_0 b_1 0 ?_
  refine rop_loc one22 hL_1 0 rfl 0 (v := (Sl.v g0_1)) rfl ?_
  refine pop_len g0_1 _ _ sli22 ?_
  refine pop_ieq .i64 _ _ (chips1_1.n : Int) (g0_1.n : Int) ?_
  refine guardM_st (fun hb_2 => ?_) (fun hb_2 => ?_)
  · have H := H.1 hb_2
    refine guardM_y' hb_2 ?_
    have H := H b_1 h_1 (Nat.le_trans (Fr.size (Fr.r (In []) _)) hb_1) (Fr.no' (Fr.r (In []) _) hf_1) hL_1
    refine H.mono fun rv_1 h_2 H => ?_
    obtain ⟨t13_1, rfl, hL_2, H⟩ := H
    refine guardM_y' hb_2 ?_
    refine pop_not t13_1 ?_
    refine pop_pickt' hb_2 ?_
    exact H
  · have H := H.2 hb_2
    refine guardM_n' hb_2 (by decide) ?_
    refine guardM_n' hb_2 (by decide) ?_
    refine pop_pickf' hb_2 ?_
    have H := H b_1 h_1 (Nat.le_trans (Fr.size (Fr.r (In []) _)) hb_1) (Fr.no' (Fr.r (In []) _) hf_1) hL_1
    exact H

/-! impl.sum -/
def u137 (P : Program) (list0_1 : Sl) (h : Heap) (K : Value → Heap → Prop) : Prop :=
  ∃ J_1 : Nat → Int → Int → Heap → Prop, (∃ n0 : Nat, J_1 n0 0 0 h) ∧
  ∀ (n_1 : Nat) (out3_1 : Int) (t8_1 : Int) (h_1 : Heap), J_1 n_1 out3_1 t8_1 h_1 → Vars h_1 [] →
  ((decide (t8_1 < (list0_1.n : Int))) = true →
  InB list0_1 t8_1 ∧
  ∃ t11_1 : Int, hcell h_1 (Sl.at list0_1 t8_1 1) = some (VI t11_1) ∧
  ∃ m : Nat, m < n_1 ∧ J_1 m (w64 (out3_1 + t11_1)) (w64 (t8_1 + 1)) h_1) ∧
  ((decide (t8_1 < (list0_1.n : Int))) = false →
  K (VI out3_1) h_1)
theorem v137 (list0_1 : Sl) (h : Heap) (K : Value → Heap → Prop) (H : u137 Try.prog list0_1 h K) : callM Try.prog 137 #[(Sl.v list0_1)] h K := by
  refine c137 (Sl.v list0_1) h K ?_
  unfold u137 at H
  unfold t137
  have hL : Vars h [] := .nil
  refine pop_len list0_1 _ _ sli25 ?_
  obtain ⟨J_1, ⟨n_2, h0_1⟩, HB_1⟩ := H
  refine loop_intro (J := fun (n : Nat) (vs : List Value) (h' : Heap) => ∃ out3_1 : Int, ∃ t8_1 : Int, vs = [(VI out3_1), (VI t8_1)] ∧ J_1 n out3_1 t8_1 h' ∧ Vars h' []) n_2 ⟨0, 0, rfl, h0_1, hL⟩ ?_
  intro I_1 mu_1 hI_1 junk_1 tv_1 tv_2 h_1 hi_1
  obtain ⟨n_1, ⟨out3_1, t8_1, hv, hJ_1, hL_1⟩, hn_1⟩ := hI_1 _ _ hi_1
  cases hv
  have H := HB_1 n_1 out3_1 t8_1 h_1 hJ_1 hL_1
  refine pop_lss .i64 t8_1 (list0_1.n : Int) ?_
  refine condM_b (fun hb_1 => ?_) (fun hb_1 => ?_)
  · have H := H.1 hb_1
    obtain ⟨hi_2, H⟩ := H
    refine pop_index sli25 siz3 .i64 list0_1 t8_1 hi_2 ?_
    obtain ⟨t11_1, hc_1, H⟩ := H
    refine rop_one one3 (VI t11_1) hc_1 ?_
    refine pop_add .i64 out3_1 t11_1 ?_
    refine pop_add .i64 t8_1 1 ?_
    obtain ⟨m_1, hm_1, H⟩ := H
    exact hn_1 _ _ ⟨m_1, hm_1, (w64 (out3_1 + t11_1)), (w64 (t8_1 + 1)), rfl, H, hL_1⟩
  · have H := H.2 hb_1
    exact H

/-! slices.IndexFunc[[]int,int] -/
def u138 (P : Program) (s0_1 : Sl) (f1_1 : Value) (h : Heap) (K : Value → Heap → Prop) : Prop :=
  ∃ J_1 : Nat → Int → Heap → Prop, (∃ n0 : Nat, J_1 n0 0 h) ∧
  ∀ (n_1 : Nat) (t8_1 : Int) (h_1 : Heap), J_1 n_1 t8_1 h_1 → Vars h_1 [] →
  ((decide (t8_1 < (s0_1.n : Int))) = true →
  InB s0_1 t8_1 ∧
  ∃ t15_1 : Int, hcell h_1 (Sl.at s0_1 t8_1 1) = some (VI t15_1) ∧
  callV P f1_1 [(VI t15_1)] h_1 fun rv_1 h_2 => ∃ t16_1 : Bool, rv_1 = (VB t16_1) ∧ Vars h_2 [] ∧
  (t16_1 = true →
  K (VI t8_1) h_2) ∧
  (t16_1 = false →
  ∃ m : Nat, m < n_1 ∧ J_1 m (w64 (t8_1 + 1)) h_2)) ∧
  ((decide (t8_1 < (s0_1.n : Int))) = false →
  K (VI (-1)) h_1)
theorem v138 (s0_1 : Sl) (f1_1 : Value) (h : Heap) (K : Value → Heap → Prop) (H : u138 Try.prog s0_1 f1_1 h K) : callM Try.prog 138 #[(Sl.v s0_1), f1_1] h K := by
  refine c138 (Sl.v s0_1) f1_1 h K ?_
  unfold u138 at H
  unfold t138
  have hL : Vars h [] := .nil
  refine pop_len s0_1 _ _ sli25 ?_
  obtain ⟨J_1, ⟨n_2, h0_1⟩, HB_1⟩ := H
  refine loop_intro (J := fun (n : Nat) (vs : List Value) (h' : Heap) => ∃ t8_1 : Int, vs = [(VI t8_1)] ∧ J_1 n t8_1 h' ∧ Vars h' []) n_2 ⟨0, rfl, h0_1, hL⟩ ?_
  intro I_1 mu_1 hI_1 junk_1 tv_1 h_1 hi_1
  obtain ⟨n_1, ⟨t8_1, hv, hJ_1, hL_1⟩, hn_1⟩ := hI_1 _ _ hi_1
  cases hv
  have H := HB_1 n_1 t8_1 h_1 hJ_1 hL_1
  refine pop_lss .i64 t8_1 (s0_1.n : Int) ?_
  refine condM_b (fun hb_1 => ?_) (fun hb_1 => ?_)
  · have H := H.1 hb_1
    obtain ⟨hi_2, H⟩ := H
    refine pop_index sli25 siz3 .i64 s0_1 t8_1 hi_2 ?_
    obtain ⟨t15_1, hc_1, H⟩ := H
    refine rop_one one3 (VI t15_1) hc_1 ?_
    refine H.mono fun rv_1 h_2 H => ?_
    obtain ⟨t16_1, rfl, hL_2, H⟩ := H
    refine condM_b (fun hb_2 => ?_) (fun hb_2 => ?_)
    · have H := H.1 hb_2
      exact H
    · have H := H.2 hb_2
      refine pop_add .i64 t8_1 1 ?_
      obtain ⟨m_1, hm_1, H⟩ := H
      exact hn_1 _ _ ⟨m_1, hm_1, (w64 (t8_1 + 1)), rfl, H, hL_2⟩
  · have H := H.2 hb_1
    exact H

/-! impl.isGraph$1 -/
def u141 (P : Program) (q0_1 : Int) (b_1 : Nat) (t1_1 : Int) (h : Heap) (K : Value → Heap → Prop) : Prop :=
  callM P 110 #[(VI q0_1), (VI 0), (VI (w64 (t1_1 - 1)))] h fun rv_1 h_1 => ∃ t7_1 : Bool, rv_1 = (VB t7_1) ∧ Vars h_1 [(b_1, [(VI t1_1)])] ∧
  K (VB (!t7_1)) h_1
theorem v141 (q0_1 : Int) (b_1 : Nat) (t1_1 : Int) (h : Heap) (K : Value → Heap → Prop) (hL : Vars h [(b_1, [(VI t1_1)])]) (H : u141 Try.prog q0_1 b_1 t1_1 h K) : callM Try.prog 141 #[(VI q0_1), (VP b_1 0)] h K := by
  refine c141 (VI q0_1) (VP b_1 0) h K ?_
  unfold u141 at H
  unfold t141
  refine rop_loc one3 hL 0 rfl 0 (v := (VI t1_1)) rfl ?_
  refine pop_sub .i64 t1_1 1 ?_
  refine H.mono fun rv_1 h_1 H => ?_
  obtain ⟨t7_1, rfl, hL_1, H⟩ := H
  refine pop_not t7_1 ?_
  exact H

/-! spec.grLeads -/
def u143 (P : Program) (g0_1 : Sl) (p1_1 : Int) (h : Heap) (K : Value → Heap → Prop) : Prop :=
  ∀ (b_1 : Nat) (h_1 : Heap), h.size ≤ b_1 → Fr (In []) h h_1 → Vars h_1 [(b_1, [(Sl.v g0_1)])] →
  ∃ J_1 : Nat → Int → Heap → Prop, (∃ n0 : Nat, J_1 n0 0 h_1) ∧
  ∀ (n_1 : Nat) (t9_1 : Int) (h_2 : Heap), J_1 n_1 t9_1 h_2 → Vars h_2 [(b_1, [(Sl.v g0_1)])] →
  ((decide (t9_1 < (g0_1.n : Int))) = true →
  callM P 146 #[(Value.agg #[(Sl.v g0_1)]), (VI t9_1)] h_2 fun rv_1 h_3 => ∃ t14_1 : Sl, rv_1 = (Sl.v t14_1) ∧ Vars h_3 [(b_1, [(Sl.v g0_1)])] ∧
  InB t14_1 p1_1 ∧
  ∃ t17_1 : Int, hcell h_3 (Sl.at t14_1 p1_1 1) = some (VI t17_1) ∧
  ((decide (t17_1 < 0)) = true →
  K (VB false) h_3) ∧
  ((decide (t17_1 < 0)) = false →
  ∃ m : Nat, m < n_1 ∧ J_1 m (w64 (t9_1 + 1)) h_3)) ∧
  ((decide (t9_1 < (g0_1.n : Int))) = false →
  K (VB true) h_2)
theorem v143 (g0_1 : Sl) (p1_1 : Int) (h : Heap) (K : Value → Heap → Prop) (H : u143 Try.prog g0_1 p1_1 h K) : callM Try.prog 143 #[(Value.agg #[(Sl.v g0_1)]), (VI p1_1)] h K := by
  refine c143 (Value.agg #[(Sl.v g0_1)]) (VI p1_1) h K ?_
  unfold u143 at H
  unfold t143
  have hL : Vars h [] := .nil
  refine eop_box 32 (Value.agg #[(Sl.v g0_1)]) rfl hL (fun b_1 h_1 hb_1 hf_1 hL_1 => ?_)
  refine pop_field 0 fld32_0 b_1 0 ?_
  refine rop_loc one22 hL_1 0 rfl 0 (v := (Sl.v g0_1)) rfl ?_
  refine pop_len g0_1 _ _ sli22 ?_
  have H := H b_1 h_1 (Nat.le_trans (Fr.size (Fr.r (In []) _)) hb_1) (Fr.no' (Fr.r (In []) _) hf_1) hL_1
  obtain ⟨J_1, ⟨n_2, h0_1⟩, HB_1⟩ := H
  refine loop_intro (J := fun (n : Nat) (vs : List Value) (h' : Heap) => ∃ t9_1 : Int, vs = [(VI t9_1)] ∧ J_1 n t9_1 h' ∧ Vars h' [(b_1, [(Sl.v g0_1)])]) n_2 ⟨0, rfl, h0_1, hL_1⟩ ?_
  intro I_1 mu_1 hI_1 junk_1 tv_1 h_2 hi_1
  obtain ⟨n_1, ⟨t9_1, hv, hJ_1, hL_2⟩, hn_1⟩ := hI_1 _ _ hi_1
  cases hv
  have H := HB_1 n_1 t9_1 h_2 hJ_1 hL_2
  refine pop_lss .i64 t9_1 (g0_1.n : Int) ?_
  refine condM_b (fun hb_2 => ?_) (fun hb_2 => ?_)
  · have H := H.1 hb_2
    refine rop_locA agg32 hL_2 0 rfl 0 (vs := [(Sl.v g0_1)]) rfl rfl ?_
    refine H.mono fun rv_1 h_3 H => ?_
    obtain ⟨t14_1, rfl, hL_3, H⟩ := H
    obtain ⟨hi_2, H⟩ := H
    refine pop_index sli25 siz3 .i64 t14_1 p1_1 hi_2 ?_
    obtain ⟨t17_1, hc_1, H⟩ := H
    refine rop_one one3 (VI t17_1) hc_1 ?_
    refine pop_lss .i64 t17_1 0 ?_
    refine condM_b (fun hb_3 => ?_) (fun hb_3 => ?_)
    · have H := H.1 hb_3
      exact H
    · have H := H.2 hb_3
      refine pop_add .i64 t9_1 1 ?_
      obtain ⟨m_1, hm_1, H⟩ := H
      exact hn_1 _ _ ⟨m_1, hm_1, (w64 (t9_1 + 1)), rfl, H, hL_3⟩
  · have H := H.2 hb_2
    exact H

/-! (impl.Graph).leadsTo -/
def u144 (P : Program) (g0_1 : Sl) (p1_1 : Int) (h : Heap) (K : Value → Heap → Prop) : Prop :=
  ∀ (b_1 : Nat) (h_1 : Heap), h.size ≤ b_1 → Fr (In []) h h_1 → Vars h_1 [(b_1, [(Sl.v g0_1)])] →
  ∃ J_1 : Nat → Int → Heap → Prop, (∃ n0 : Nat, J_1 n0 0 h_1) ∧
  ∀ (n_1 : Nat) (t9_1 : Int) (h_2 : Heap), J_1 n_1 t9_1 h_2 → Vars h_2 [(b_1, [(Sl.v g0_1)])] →
  ((decide (t9_1 < (g0_1.n : Int))) = true →
  callM P 147 #[(Value.agg #[(Sl.v g0_1)]), (VI t9_1)] h_2 fun rv_1 h_3 => ∃ t14_1 : Sl, rv_1 = (Sl.v t14_1) ∧ Vars h_3 [(b_1, [(Sl.v g0_1)])] ∧
  InB t14_1 p1_1 ∧
  ∃ t17_1 : Int, hcell h_3 (Sl.at t14_1 p1_1 1) = some (VI t17_1) ∧
  ((decide (t17_1 < 0)) = true →
  K (VB false) h_3) ∧
  ((decide (t17_1 < 0)) = false →
  ∃ m : Nat, m < n_1 ∧ J_1 m (w64 (t9_1 + 1)) h_3)) ∧
  ((decide (t9_1 < (g0_1.n : Int))) = false →
  K (VB true) h_2)
theorem v144 (g0_1 : Sl) (p1_1 : Int) (h : Heap) (K : Value → Heap → Prop) (H : u144 Try.prog g0_1 p1_1 h K) : callM Try.prog 144 #[(Value.agg #[(Sl.v g0_1)]), (VI p1_1)] h K := by
  refine c144 (Value.agg #[(Sl.v g0_1)]) (VI p1_1) h K ?_
  unfold u144 at H
  unfold t144
  have hL : Vars h [] := .nil
  refine eop_box 32 (Value.agg #[(Sl.v g0_1)]) rfl hL (fun b_1 h_1 hb_1 hf_1 hL_1 => ?_)
  refine pop_field 0 fld32_0 b_1 0 ?_
  refine rop_loc one22 hL_1 0 rfl 0 (v := (Sl.v g0_1)) rfl ?_
  refine pop_len g0_1 _ _ sli22 ?_
  have H := H b_1 h_1 (Nat.le_trans (Fr.size (Fr.r (In []) _)) hb_1) (Fr.no' (Fr.r (In []) _) hf_1) hL_1
  obtain ⟨J_1, ⟨n_2, h0_1⟩, HB_1⟩ := H
  refine loop_intro (J := fun (n : Nat) (vs : List Value) (h' : Heap) => ∃ t9_1 : Int, vs = [(VI t9_1)] ∧ J_1 n t9_1 h' ∧ Vars h' [(b_1, [(Sl.v g0_1)])]) n_2 ⟨0, rfl, h0_1, hL_1⟩ ?_
  intro I_1 mu_1 hI_1 junk_1 tv_1 h_2 hi_1
  obtain ⟨n_1, ⟨t9_1, hv, hJ_1, hL_2⟩, hn_1⟩ := hI_1 _ _ hi_1
  cases hv
  have H := HB_1 n_1 t9_1 h_2 hJ_1 hL_2
  refine pop_lss .i64 t9_1 (g0_1.n : Int) ?_
  refine condM_b (fun hb_2 => ?_) (fun hb_2 => ?_)
  · have H := H.1 hb_2
    refine rop_locA agg32 hL_2 0 rfl 0 (vs := [(Sl.v g0_1)]) rfl rfl ?_
    refine H.mono fun rv_1 h_3 H => ?_
    obtain ⟨t14_1, rfl, hL_3, H⟩ := H
    obtain ⟨hi_2, H⟩ := H
    refine pop_index sli25 siz3 .i64 t14_1 p1_1 hi_2 ?_
    obtain ⟨t17_1, hc_1, H⟩ := H
    refine rop_one one3 (VI t17_1) hc_1 ?_
    refine pop_lss .i64 t17_1 0 ?_
    refine condM_b (fun hb_3 => ?_) (fun hb_3 => ?_)
    · have H := H.1 hb_3
      exact H
    · have H := H.2 hb_3
      refine pop_add .i64 t9_1 1 ?_
      obtain ⟨m_1, hm_1, H⟩ := H
      exact hn_1 _ _ ⟨m_1, hm_1, (w64 (t9_1 + 1)), rfl, H, hL_3⟩
  · have H := H.2 hb_2
    exact H

/-! impl.areChips$1 -/
def u145 (P : Program) (n0_1 : Int) (h : Heap) (K : Value → Heap → Prop) : Prop :=
  callM P 110 #[(VI n0_1), (VI 0), (VI 20)] h fun rv_1 h_1 => ∃ t4_1 : Bool, rv_1 = (VB t4_1) ∧ Vars h_1 [] ∧
  K (VB (!t4_1)) h_1
theorem v145 (n0_1 : Int) (h : Heap) (K : Value → Heap → Prop) (H : u145 Try.prog n0_1 h K) : callM Try.prog 145 #[(VI n0_1)] h K := by
  refine c145 (VI n0_1) h K ?_
  unfold u145 at H
  unfold t145
  have hL : Vars h [] := .nil
  refine H.mono fun rv_1 h_1 H => ?_
  obtain ⟨t4_1, rfl, hL_1, H⟩ := H
  refine pop_not t4_1 ?_
  exact H

/-! spec.grFar -/
def u146 (P : Program) (g0_1 : Sl) (p1_1 : Int) (h : Heap) (K : Value → Heap → Prop) : Prop :=
  ∀ (b_1 : Nat) (h_1 : Heap), h.size ≤ b_1 → Fr (In []) h h_1 → Vars h_1 [(b_1, [(Sl.v g0_1)])] →
  eop P (Instr.makeSlice 25 (VI (g0_1.n : Int)) (VI (g0_1.n : Int))) h_1 fun rv_1 h_2 => ∃ t14_1 : Sl, rv_1 = (Sl.v t14_1) ∧ Vars h_2 [(b_1, [(Sl.v g0_1)])] ∧
  ∃ J_1 : Nat → Int → Heap → Prop, (∃ n0 : Nat, J_1 n0 0 h_2) ∧
  ∀ (n_1 : Nat) (t17_1 : Int) (h_3 : Heap), J_1 n_1 t17_1 h_3 → Vars h_3 [(b_1, [(Sl.v g0_1)])] →
  ((decide (t17_1 < (t14_1.n : Int))) = true →
  InB t14_1 t17_1 ∧
  Writable h_3 (Sl.at t14_1 t17_1 1) ∧ Vars (hset h_3 (Sl.at t14_1 t17_1 1) (VI (-1))) [(b_1, [(Sl.v g0_1)])] ∧
  ∀ h_4 : Heap, h_4 = hset h_3 (Sl.at t14_1 t17_1 1) (VI (-1)) → Vars h_4 [(b_1, [(Sl.v g0_1)])] →
  ∃ m : Nat, m < n_1 ∧ J_1 m (w64 (t17_1 + 1)) h_4) ∧
  ((decide (t17_1 < (t14_1.n : Int))) = false →
  InB t14_1 p1_1 ∧
  Writable h_3 (Sl.at t14_1 p1_1 1) ∧ Vars (hset h_3 (Sl.at t14_1 p1_1 1) (VI 0)) [(b_1, [(Sl.v g0_1)])] ∧
  ∀ h_5 : Heap, h_5 = hset h_3 (Sl.at t14_1 p1_1 1) (VI 0) → Vars h_5 [(b_1, [(Sl.v g0_1)])] →
  eop P (Instr.buildSlice 25 1 #[(0, (VI p1_1))]) h_5 fun rv_2 h_6 => ∃ t28_1 : Sl, rv_2 = (Sl.v t28_1) ∧ Vars h_6 [(b_1, [(Sl.v g0_1)])] ∧
  ∃ J_2 : Nat → Sl → Int → Heap → Prop, (∃ n0 : Nat, J_2 n0 t28_1 0 h_6) ∧
  ∀ (n_2 : Nat) (queue7_1 : Sl) (k8_1 : Int) (h_7 : Heap), J_2 n_2 queue7_1 k8_1 h_7 → Vars h_7 [(b_1, [(Sl.v g0_1)])] →
  ((decide (k8_1 < (queue7_1.n : Int))) = true →
  InB queue7_1 k8_1 ∧
  ∃ t40_1 : Int, hcell h_7 (Sl.at queue7_1 k8_1 1) = some (VI t40_1) ∧
  InB g0_1 t40_1 ∧
  ∃ t42_1 : Sl, hcell h_7 (Sl.at g0_1 t40_1 1) = some (Sl.v t42_1) ∧
  ∃ J_3 : Nat → Sl → Int → Heap → Prop, (∃ n0 : Nat, J_3 n0 queue7_1 0 h_7) ∧
  ∀ (n_3 : Nat) (queue7_2 : Sl) (t44_1 : Int) (h_8 : Heap), J_3 n_3 queue7_2 t44_1 h_8 → Vars h_8 [(b_1, [(Sl.v g0_1)])] →
  ((decide (t44_1 < (t42_1.n : Int))) = true →
  InB t42_1 t44_1 ∧
  ∃ t47_1 : Int, hcell h_8 (Sl.at t42_1 t44_1 1) = some (VI t47_1) ∧
  InB t14_1 t47_1 ∧
  ∃ t51_1 : Int, hcell h_8 (Sl.at t14_1 t47_1 1) = some (VI t51_1) ∧
  ((decide (t51_1 < 0)) = true →
  InB queue7_2 k8_1 ∧
  ∃ t59_1 : Int, hcell h_8 (Sl.at queue7_2 k8_1 1) = some (VI t59_1) ∧
  InB t14_1 t59_1 ∧
  ∃ t61_1 : Int, hcell h_8 (Sl.at t14_1 t59_1 1) = some (VI t61_1) ∧
  InB t14_1 t47_1 ∧
  Writable h_8 (Sl.at t14_1 t47_1 1) ∧ Vars (hset h_8 (Sl.at t14_1 t47_1 1) (VI (w64 (t61_1 + 1)))) [(b_1, [(Sl.v g0_1)])] ∧
  ∀ h_9 : Heap, h_9 = hset h_8 (Sl.at t14_1 t47_1 1) (VI (w64 (t61_1 + 1))) → Vars h_9 [(b_1, [(Sl.v g0_1)])] →
  eop P (Instr.buildSlice 25 1 #[(0, (VI t47_1))]) h_9 fun rv_3 h_10 => ∃ t66_1 : Sl, rv_3 = (Sl.v t66_1) ∧ Vars h_10 [(b_1, [(Sl.v g0_1)])] ∧
  eop P (appS 25 25 25 (Sl.v queue7_2) (Sl.v t66_1)) h_10 fun rv_4 h_11 => ∃ t67_1 : Sl, rv_4 = (Sl.v t67_1) ∧ Vars h_11 [(b_1, [(Sl.v g0_1)])] ∧
  ∃ m : Nat, m < n_3 ∧ J_3 m t67_1 (w64 (t44_1 + 1)) h_11) ∧
  ((decide (t51_1 < 0)) = false →
  ∃ m : Nat, m < n_3 ∧ J_3 m queue7_2 (w64 (t44_1 + 1)) h_8)) ∧
  ((decide (t44_1 < (t42_1.n : Int))) = false →
  ∃ m : Nat, m < n_2 ∧ J_2 m queue7_2 (w64 (k8_1 + 1)) h_8)) ∧
  ((decide (k8_1 < (queue7_1.n : Int))) = false →
  K (Sl.v t14_1) h_7))
theorem v146 (g0_1 : Sl) (p1_1 : Int) (h : Heap) (K : Value → Heap → Prop) (H : u146 Try.prog g0_1 p1_1 h K) : callM Try.prog 146 #[(Value.agg #[(Sl.v g0_1)]), (VI p1_1)] h K := by
  refine c146 (Value.agg #[(Sl.v g0_1)]) (VI p1_1) h K ?_
  unfold u146 at H
  unfold t146
  have hL : Vars h [] := .nil
  refine eop_box 32 (Value.agg #[(Sl.v g0_1)]) rfl hL (fun b_1 h_1 hb_1 hf_1 hL_1 => ?_)
  refine pop_field 0 fld32_0 b_1 0 ?_
  refine rop_loc one22 hL_1 0 rfl 0 (v := (Sl.v g0_1)) rfl ?_
  refine pop_len g0_1 _ _ sli22 ?_
  have H := H b_1 h_1 (Nat.le_trans (Fr.size (Fr.r (In []) _)) hb_1) (Fr.no' (Fr.r (In []) _) hf_1) hL_1
  refine H.mono fun rv_1 h_2 H => ?_
  obtain ⟨t14_1, rfl, hL_2, H⟩ := H
  refine pop_len t14_1 _ _ sli25 ?_
  obtain ⟨J_1, ⟨n_6, h0_3⟩, HB_3⟩ := H
  refine loop_intro (J := fun (n : Nat) (vs : List Value) (h' : Heap) => ∃ t17_1 : Int, vs = [(VI t17_1)] ∧ J_1 n t17_1 h' ∧ Vars h' [(b_1, [(Sl.v g0_1)])]) n_6 ⟨0, rfl, h0_3, hL_2⟩ ?_
  intro I_3 mu_3 hI_3 junk_1 tv_5 h_3 hi_1
  obtain ⟨n_1, ⟨t17_1, hv, hJ_1, hL_3⟩, hn_1⟩ := hI_3 _ _ hi_1
  cases hv
  have H := HB_3 n_1 t17_1 h_3 hJ_1 hL_3
  refine pop_lss .i64 t17_1 (t14_1.n : Int) ?_
  refine condM_b (fun hb_2 => ?_) (fun hb_2 => ?_)
  · have H := H.1 hb_2
    obtain ⟨hi_2, H⟩ := H
    refine pop_index sli25 siz3 .i64 t14_1 t17_1 hi_2 ?_
    obtain ⟨hw_1, hL_4, H⟩ := H
    refine uop_cell (v := (VI (-1))) siz3 hw_1 rfl (fun h_4 he_1 => ?_)
    rw [← he_1] at hL_4
    have H := H h_4 he_1 hL_4
    refine pop_add .i64 t17_1 1 ?_
    obtain ⟨m_1, hm_1, H⟩ := H
    exact hn_1 _ _ ⟨m_1, hm_1, (w64 (t17_1 + 1)), rfl, H, hL_4⟩
  · have H := H.2 hb_2
    obtain ⟨hi_3, H⟩ := H
    refine pop_index sli25 siz3 .i64 t14_1 p1_1 hi_3 ?_
    obtain ⟨hw_2, hL_5, H⟩ := H
    refine uop_cell (v := (VI 0)) siz3 hw_2 rfl (fun h_5 he_2 => ?_)
    rw [← he_2] at hL_5
    have H := H h_5 he_2 hL_5
    refine H.mono fun rv_2 h_6 H => ?_
    obtain ⟨t28_1, rfl, hL_6, H⟩ := H
    obtain ⟨J_2, ⟨n_5, h0_2⟩, HB_2⟩ := H
    refine loop_intro (J := fun (n : Nat) (vs : List Value) (h' : Heap) => ∃ queue7_1 : Sl, ∃ k8_1 : Int, vs = [(Sl.v queue7_1), (VI k8_1)] ∧ J_2 n queue7_1 k8_1 h' ∧ Vars h' [(b_1, [(Sl.v g0_1)])]) n_5 ⟨t28_1, 0, rfl, h0_2, hL_6⟩ ?_
    intro I_2 mu_2 hI_2 junk_2 tv_3 tv_4 h_7 hi_4
    obtain ⟨n_2, ⟨queue7_1, k8_1, hv, hJ_2, hL_7⟩, hn_2⟩ := hI_2 _ _ hi_4
    cases hv
    have H := HB_2 n_2 queue7_1 k8_1 h_7 hJ_2 hL_7
    refine pop_len queue7_1 _ _ sli25 ?_
    refine pop_lss .i64 k8_1 (queue7_1.n : Int) ?_
    refine condM_b (fun hb_3 => ?_) (fun hb_3 => ?_)
    · have H := H.1 hb_3
      refine pop_field 0 fld32_0 b_1 0 ?_
      refine rop_loc one22 hL_7 0 rfl 0 (v := (Sl.v g0_1)) rfl ?_
      obtain ⟨hi_5, H⟩ := H
      refine pop_index sli25 siz3 .i64 queue7_1 k8_1 hi_5 ?_
      obtain ⟨t40_1, hc_6, H⟩ := H
      refine rop_one one3 (VI t40_1) hc_6 ?_
      obtain ⟨hi_6, H⟩ := H
      refine pop_index sli22 siz25 .i64 g0_1 t40_1 hi_6 ?_
      obtain ⟨t42_1, hc_5, H⟩ := H
      refine rop_one one25 (Sl.v t42_1) hc_5 ?_
      refine pop_len t42_1 _ _ sli25 ?_
      obtain ⟨J_3, ⟨n_4, h0_1⟩, HB_1⟩ := H
      refine loop_intro (J := fun (n : Nat) (vs : List Value) (h' : Heap) => ∃ queue7_2 : Sl, ∃ t44_1 : Int, vs = [(Sl.v queue7_2), (VI t44_1)] ∧ J_3 n queue7_2 t44_1 h' ∧ Vars h' [(b_1, [(Sl.v g0_1)])]) n_4 ⟨queue7_1, 0, rfl, h0_1, hL_7⟩ ?_
      intro I_1 mu_1 hI_1 junk_3 tv_1 tv_2 h_8 hi_7
      obtain ⟨n_3, ⟨queue7_2, t44_1, hv, hJ_3, hL_8⟩, hn_3⟩ := hI_1 _ _ hi_7
      cases hv
      have H := HB_1 n_3 queue7_2 t44_1 h_8 hJ_3 hL_8
      refine pop_lss .i64 t44_1 (t42_1.n : Int) ?_
      refine condM_b (fun hb_4 => ?_) (fun hb_4 => ?_)
      · have H := H.1 hb_4
        obtain ⟨hi_8, H⟩ := H
        refine pop_index sli25 siz3 .i64 t42_1 t44_1 hi_8 ?_
        obtain ⟨t47_1, hc_4, H⟩ := H
        refine rop_one one3 (VI t47_1) hc_4 ?_
        obtain ⟨hi_9, H⟩ := H
        refine pop_index sli25 siz3 .i64 t14_1 t47_1 hi_9 ?_
        obtain ⟨t51_1, hc_3, H⟩ := H
        refine rop_one one3 (VI t51_1) hc_3 ?_
        refine pop_lss .i64 t51_1 0 ?_
        refine condM_b (fun hb_5 => ?_) (fun hb_5 => ?_)
        · have H := H.1 hb_5
          obtain ⟨hi_10, H⟩ := H
          refine pop_index sli25 siz3 .i64 queue7_2 k8_1 hi_10 ?_
          obtain ⟨t59_1, hc_2, H⟩ := H
          refine rop_one one3 (VI t59_1) hc_2 ?_
          obtain ⟨hi_11, H⟩ := H
          refine pop_index sli25 siz3 .i64 t14_1 t59_1 hi_11 ?_
          obtain ⟨t61_1, hc_1, H⟩ := H
          refine rop_one one3 (VI t61_1) hc_1 ?_
          refine pop_add .i64 t61_1 1 ?_
          obtain ⟨hi_12, H⟩ := H
          refine pop_index sli25 siz3 .i64 t14_1 t47_1 hi_12 ?_
          obtain ⟨hw_3, hL_9, H⟩ := H
          refine uop_cell (v := (VI (w64 (t61_1 + 1)))) siz3 hw_3 rfl (fun h_9 he_3 => ?_)
          rw [← he_3] at hL_9
          have H := H h_9 he_3 hL_9
          refine H.mono fun rv_3 h_10 H => ?_
          obtain ⟨t66_1, rfl, hL_10, H⟩ := H
          refine H.mono fun rv_4 h_11 H => ?_
          obtain ⟨t67_1, rfl, hL_11, H⟩ := H
          refine pop_add .i64 t44_1 1 ?_
          obtain ⟨m_2, hm_2, H⟩ := H
          exact hn_3 _ _ ⟨m_2, hm_2, t67_1, (w64 (t44_1 + 1)), rfl, H, hL_11⟩
        · have H := H.2 hb_5
          refine pop_add .i64 t44_1 1 ?_
          obtain ⟨m_3, hm_3, H⟩ := H
          exact hn_3 _ _ ⟨m_3, hm_3, queue7_2, (w64 (t44_1 + 1)), rfl, H, hL_8⟩
      · have H := H.2 hb_4
        refine pop_add .i64 k8_1 1 ?_
        obtain ⟨m_4, hm_4, H⟩ := H
        exact hn_2 _ _ ⟨m_4, hm_4, queue7_2, (w64 (k8_1 + 1)), rfl, H, hL_8⟩
    · have H := H.2 hb_3
      exact H

/-! (impl.Graph).lengths -/
def u147 (P : Program) (g0_1 : Sl) (p1_1 : Int) (h : Heap) (K : Value → Heap → Prop) : Prop :=
  ∀ (b_1 : Nat) (h_1 : Heap), h.size ≤ b_1 → Fr (In []) h h_1 → Vars h_1 [(b_1, [(Sl.v g0_1)])] →
  eop P (Instr.buildSlice 25 1 #[(0, (Value.int IntKind.i64 (-1)))]) h_1 fun rv_1 h_2 => ∃ t9_1 : Sl, rv_1 = (Sl.v t9_1) ∧ Vars h_2 [(b_1, [(Sl.v g0_1)])] ∧
  callM P 148 #[(Sl.v t9_1), (VI (g0_1.n : Int))] h_2 fun rv_2 h_3 => ∃ t13_1 : Sl, rv_2 = (Sl.v t13_1) ∧ Vars h_3 [(b_1, [(Sl.v g0_1)])] ∧
  InB t13_1 p1_1 ∧
  Writable h_3 (Sl.at t13_1 p1_1 1) ∧ Vars (hset h_3 (Sl.at t13_1 p1_1 1) (VI 0)) [(b_1, [(Sl.v g0_1)])] ∧
  ∀ h_4 : Heap, h_4 = hset h_3 (Sl.at t13_1 p1_1 1) (VI 0) → Vars h_4 [(b_1, [(Sl.v g0_1)])] →
  eop P (Instr.buildSlice 25 1 #[(0, (VI p1_1))]) h_4 fun rv_3 h_5 => ∃ t18_1 : Sl, rv_3 = (Sl.v t18_1) ∧ Vars h_5 [(b_1, [(Sl.v g0_1)])] ∧
  ∃ J_1 : Nat → Sl → Heap → Prop, (∃ n0 : Nat, J_1 n0 t18_1 h_5) ∧
  ∀ (n_1 : Nat) (list6_1 : Sl) (h_6 : Heap), J_1 n_1 list6_1 h_6 → Vars h_6 [(b_1, [(Sl.v g0_1)])] →
  ((decide (0 < (list6_1.n : Int))) = true →
  InB list6_1 0 ∧
  ∃ t28_1 : Int, hcell h_6 (Sl.at list6_1 0 1) = some (VI t28_1) ∧
  InB g0_1 t28_1 ∧
  ∃ t30_1 : Sl, hcell h_6 (Sl.at g0_1 t28_1 1) = some (Sl.v t30_1) ∧
  ∃ J_2 : Nat → Sl → Int → Heap → Prop, (∃ n0 : Nat, J_2 n0 list6_1 0 h_6) ∧
  ∀ (n_2 : Nat) (list6_2 : Sl) (t32_1 : Int) (h_7 : Heap), J_2 n_2 list6_2 t32_1 h_7 → Vars h_7 [(b_1, [(Sl.v g0_1)])] →
  ((decide (t32_1 < (t30_1.n : Int))) = true →
  InB t30_1 t32_1 ∧
  ∃ t35_1 : Int, hcell h_7 (Sl.at t30_1 t32_1 1) = some (VI t35_1) ∧
  InB t13_1 t35_1 ∧
  ∃ t39_1 : Int, hcell h_7 (Sl.at t13_1 t35_1 1) = some (VI t39_1) ∧
  ((decide (t39_1 < 0)) = true →
  InB list6_2 0 ∧
  ∃ t46_1 : Int, hcell h_7 (Sl.at list6_2 0 1) = some (VI t46_1) ∧
  InB t13_1 t46_1 ∧
  ∃ t48_1 : Int, hcell h_7 (Sl.at t13_1 t46_1 1) = some (VI t48_1) ∧
  InB t13_1 t35_1 ∧
  Writable h_7 (Sl.at t13_1 t35_1 1) ∧ Vars (hset h_7 (Sl.at t13_1 t35_1 1) (VI (w64 (t48_1 + 1)))) [(b_1, [(Sl.v g0_1)])] ∧
  ∀ h_8 : Heap, h_8 = hset h_7 (Sl.at t13_1 t35_1 1) (VI (w64 (t48_1 + 1))) → Vars h_8 [(b_1, [(Sl.v g0_1)])] →
  eop P (Instr.buildSlice 25 1 #[(0, (VI t35_1))]) h_8 fun rv_4 h_9 => ∃ t53_1 : Sl, rv_4 = (Sl.v t53_1) ∧ Vars h_9 [(b_1, [(Sl.v g0_1)])] ∧
  eop P (appS 25 25 25 (Sl.v list6_2) (Sl.v t53_1)) h_9 fun rv_5 h_10 => ∃ t54_1 : Sl, rv_5 = (Sl.v t54_1) ∧ Vars h_10 [(b_1, [(Sl.v g0_1)])] ∧
  ∃ m : Nat, m < n_2 ∧ J_2 m t54_1 (w64 (t32_1 + 1)) h_10) ∧
  ((decide (t39_1 < 0)) = false →
  ∃ m : Nat, m < n_2 ∧ J_2 m list6_2 (w64 (t32_1 + 1)) h_7)) ∧
  ((decide (t32_1 < (t30_1.n : Int))) = false →
  pop P (Instr.sliceAt 25 (Sl.v list6_2) (some (Value.int IntKind.i64 1)) none none) fun rv_6 => ∃ t23_1 : Sl, rv_6 = (Sl.v t23_1) ∧ 
  ∃ m : Nat, m < n_1 ∧ J_1 m t23_1 h_7)) ∧
  ((decide (0 < (list6_1.n : Int))) = false →
  K (Sl.v t13_1) h_6)
theorem v147 (g0_1 : Sl) (p1_1 : Int) (h : Heap) (K : Value → Heap → Prop) (H : u147 Try.prog g0_1 p1_1 h K) : callM Try.prog 147 #[(Value.agg #[(Sl.v g0_1)]), (VI p1_1)] h K := by
  refine c147 (Value.agg #[(Sl.v g0_1)]) (VI p1_1) h K ?_
  unfold u147 at H
  unfold t147
  have hL : Vars h [] := .nil
  refine eop_box 32 (Value.agg #[(Sl.v g0_1)]) rfl hL (fun b_1 h_1 hb_1 hf_1 hL_1 => ?_)
  have H := H b_1 h_1 (Nat.le_trans (Fr.size (Fr.r (In []) _)) hb_1) (Fr.no' (Fr.r (In []) _) hf_1) hL_1
  refine H.mono fun rv_1 h_2 H => ?_
  obtain ⟨t9_1, rfl, hL_2, H⟩ := H
  refine pop_field 0 fld32_0 b_1 0 ?_
  refine rop_loc one22 hL_2 0 rfl 0 (v := (Sl.v g0_1)) rfl ?_
  refine pop_len g0_1 _ _ sli22 ?_
  refine H.mono fun rv_2 h_3 H => ?_
  obtain ⟨t13_1, rfl, hL_3, H⟩ := H
  obtain ⟨hi_1, H⟩ := H
  refine pop_index sli25 siz3 .i64 t13_1 p1_1 hi_1 ?_
  obtain ⟨hw_1, hL_4, H⟩ := H
  refine uop_cell (v := (VI 0)) siz3 hw_1 rfl (fun h_4 he_1 => ?_)
  rw [← he_1] at hL_4
  have H := H h_4 he_1 hL_4
  refine H.mono fun rv_3 h_5 H => ?_
  obtain ⟨t18_1, rfl, hL_5, H⟩ := H
  obtain ⟨J_1, ⟨n_4, h0_2⟩, HB_2⟩ := H
  refine loop_intro (J := fun (n : Nat) (vs : List Value) (h' : Heap) => ∃ list6_1 : Sl, vs = [(Sl.v list6_1)] ∧ J_1 n list6_1 h' ∧ Vars h' [(b_1, [(Sl.v g0_1)])]) n_4 ⟨t18_1, rfl, h0_2, hL_5⟩ ?_
  intro I_2 mu_2 hI_2 junk_1 tv_3 h_6 hi_2
  obtain ⟨n_1, ⟨list6_1, hv, hJ_1, hL_6⟩, hn_1⟩ := hI_2 _ _ hi_2
  cases hv
  have H := HB_2 n_1 list6_1 h_6 hJ_1 hL_6
  refine pop_len list6_1 _ _ sli25 ?_
  refine pop_gtr .i64 (list6_1.n : Int) 0 ?_
  refine condM_b (fun hb_2 => ?_) (fun hb_2 => ?_)
  · have H := H.1 hb_2
    refine pop_field 0 fld32_0 b_1 0 ?_
    refine rop_loc one22 hL_6 0 rfl 0 (v := (Sl.v g0_1)) rfl ?_
    obtain ⟨hi_3, H⟩ := H
    refine pop_index sli25 siz3 .i64 list6_1 0 hi_3 ?_
    obtain ⟨t28_1, hc_6, H⟩ := H
    refine rop_one one3 (VI t28_1) hc_6 ?_
    obtain ⟨hi_4, H⟩ := H
    refine pop_index sli22 siz25 .i64 g0_1 t28_1 hi_4 ?_
    obtain ⟨t30_1, hc_5, H⟩ := H
    refine rop_one one25 (Sl.v t30_1) hc_5 ?_
    refine pop_len t30_1 _ _ sli25 ?_
    obtain ⟨J_2, ⟨n_3, h0_1⟩, HB_1⟩ := H
    refine loop_intro (J := fun (n : Nat) (vs : List Value) (h' : Heap) => ∃ list6_2 : Sl, ∃ t32_1 : Int, vs = [(Sl.v list6_2), (VI t32_1)] ∧ J_2 n list6_2 t32_1 h' ∧ Vars h' [(b_1, [(Sl.v g0_1)])]) n_3 ⟨list6_1, 0, rfl, h0_1, hL_6⟩ ?_
    intro I_1 mu_1 hI_1 junk_2 tv_1 tv_2 h_7 hi_5
    obtain ⟨n_2, ⟨list6_2, t32_1, hv, hJ_2, hL_7⟩, hn_2⟩ := hI_1 _ _ hi_5
    cases hv
    have H := HB_1 n_2 list6_2 t32_1 h_7 hJ_2 hL_7
    refine pop_lss .i64 t32_1 (t30_1.n : Int) ?_
    refine condM_b (fun hb_3 => ?_) (fun hb_3 => ?_)
    · have H := H.1 hb_3
      obtain ⟨hi_6, H⟩ := H
      refine pop_index sli25 siz3 .i64 t30_1 t32_1 hi_6 ?_
      obtain ⟨t35_1, hc_4, H⟩ := H
      refine rop_one one3 (VI t35_1) hc_4 ?_
      obtain ⟨hi_7, H⟩ := H
      refine pop_index sli25 siz3 .i64 t13_1 t35_1 hi_7 ?_
      obtain ⟨t39_1, hc_3, H⟩ := H
      refine rop_one one3 (VI t39_1) hc_3 ?_
      refine pop_lss .i64 t39_1 0 ?_
      refine condM_b (fun hb_4 => ?_) (fun hb_4 => ?_)
      · have H := H.1 hb_4
        obtain ⟨hi_8, H⟩ := H
        refine pop_index sli25 siz3 .i64 list6_2 0 hi_8 ?_
        obtain ⟨t46_1, hc_2, H⟩ := H
        refine rop_one one3 (VI t46_1) hc_2 ?_
        obtain ⟨hi_9, H⟩ := H
        refine pop_index sli25 siz3 .i64 t13_1 t46_1 hi_9 ?_
        obtain ⟨t48_1, hc_1, H⟩ := H
        refine rop_one one3 (VI t48_1) hc_1 ?_
        refine pop_add .i64 t48_1 1 ?_
        obtain ⟨hi_10, H⟩ := H
        refine pop_index sli25 siz3 .i64 t13_1 t35_1 hi_10 ?_
        obtain ⟨hw_2, hL_8, H⟩ := H
        refine uop_cell (v := (VI (w64 (t48_1 + 1)))) siz3 hw_2 rfl (fun h_8 he_2 => ?_)
        rw [← he_2] at hL_8
        have H := H h_8 he_2 hL_8
        refine H.mono fun rv_4 h_9 H => ?_
        obtain ⟨t53_1, rfl, hL_9, H⟩ := H
        refine H.mono fun rv_5 h_10 H => ?_
        obtain ⟨t54_1, rfl, hL_10, H⟩ := H
        refine pop_add .i64 t32_1 1 ?_
        obtain ⟨m_1, hm_1, H⟩ := H
        exact hn_2 _ _ ⟨m_1, hm_1, t54_1, (w64 (t32_1 + 1)), rfl, H, hL_10⟩
      · have H := H.2 hb_4
        refine pop_add .i64 t32_1 1 ?_
        obtain ⟨m_2, hm_2, H⟩ := H
        exact hn_2 _ _ ⟨m_2, hm_2, list6_2, (w64 (t32_1 + 1)), rfl, H, hL_7⟩
    · have H := H.2 hb_3
      refine H.mono fun rv_6 H => ?_
      obtain ⟨t23_1, rfl, H⟩ := H
      obtain ⟨m_3, hm_3, H⟩ := H
      exact hn_1 _ _ ⟨m_3, hm_3, t23_1, rfl, H, hL_7⟩
  · have H := H.2 hb_2
    exact H

/-! slices.Repeat[[]int,int] -/
def u148 (P : Program) (x0_1 : Sl) (count1_1 : Int) (h : Heap) (K : Value → Heap → Prop) : Prop :=
  ∃ J_1 : Heap → Prop, (((decide (count1_1 < 0)) = true →
  pop P (Instr.makeInterface 9 (Value.string { data := #[99, 97, 110, 110, 111, 116, 32, 98, 101, 32, 110, 101, 103, 97, 116, 105, 118, 101] })) fun rv_1 => ∃ t11_1 : Value, rv_1 = t11_1 ∧ 
  False) ∧
  ((decide (count1_1 < 0)) = false →
  J_1  h)) ∧
  ∀ (h_1 : Heap), J_1  h_1 → Vars h_1 [] →
  rop P (convert 3 140 (VI (x0_1.n : Int))) h_1 fun rv_2 => ∃ t15_1 : Int, rv_2 = (Value.int .u64 t15_1) ∧ 
  rop P (convert 3 140 (VI count1_1)) h_1 fun rv_3 => ∃ t17_1 : Int, rv_3 = (Value.int .u64 t17_1) ∧ 
  callM P 149 #[(Value.int .u64 t15_1), (Value.int .u64 t17_1)] h_1 fun rv_4 h_2 => ∃ t18_1 : Int, ∃ t18_2 : Int, rv_4 = (Value.tuple #[(Value.int .u64 t18_1), (Value.int .u64 t18_2)]) ∧ Vars h_2 [] ∧
  ∃ J_2 : Heap → Prop, (((decide (0 < t18_1)) = true →
  pop P (Instr.makeInterface 9 (Value.string { data := #[116, 104, 101, 32, 114, 101, 115, 117, 108, 116, 32, 111, 102, 32, 40, 108, 101, 110, 40, 120, 41, 32, 42, 32, 99, 111, 117, 110, 116, 41, 32, 111, 118, 101, 114, 102, 108, 111, 119, 115] })) fun rv_6 => ∃ t27_2 : Value, rv_6 = t27_2 ∧ 
  False) ∧
  ((decide (0 < t18_1)) = false →
  ((decide (9223372036854775807 < t18_2)) = true →
  pop P (Instr.makeInterface 9 (Value.string { data := #[116, 104, 101, 32, 114, 101, 115, 117, 108, 116, 32, 111, 102, 32, 40, 108, 101, 110, 40, 120, 41, 32, 42, 32, 99, 111, 117, 110, 116, 41, 32, 111, 118, 101, 114, 102, 108, 111, 119, 115] })) fun rv_5 => ∃ t27_1 : Value, rv_5 = t27_1 ∧ 
  False) ∧
  ((decide (9223372036854775807 < t18_2)) = false →
  J_2  h_2))) ∧
  ∀ (h_3 : Heap), J_2  h_3 → Vars h_3 [] →
  rop P (convert 140 3 (Value.int .u64 t18_2)) h_3 fun rv_7 => ∃ t29_1 : Int, rv_7 = (VI t29_1) ∧ 
  eop P (Instr.makeSlice 25 (VI t29_1) (VI t29_1)) h_3 fun rv_8 h_4 => ∃ t30_1 : Sl, rv_8 = (Sl.v t30_1) ∧ Vars h_4 [] ∧
  eop P (Builtin.copy_ #[25, 25] 3 #[(Sl.v t30_1), (Sl.v x0_1)]) h_4 fun rv_9 h_5 => ∃ t33_1 : Int, rv_9 = (VI t33_1) ∧ Vars h_5 [] ∧
  ∃ J_3 : Nat → Int → Heap → Prop, (∃ n0 : Nat, J_3 n0 t33_1 h_5) ∧
  ∀ (n_1 : Nat) (n8_1 : Int) (h_6 : Heap), J_3 n_1 n8_1 h_6 → Vars h_6 [] →
  ((decide (n8_1 < (t30_1.n : Int))) = true →
  pop P (Instr.sliceAt 25 (Sl.v t30_1) (some (VI n8_1)) none none) fun rv_10 => ∃ t41_1 : Sl, rv_10 = (Sl.v t41_1) ∧ 
  pop P (Instr.sliceAt 25 (Sl.v t30_1) none (some (VI n8_1)) none) fun rv_11 => ∃ t44_1 : Sl, rv_11 = (Sl.v t44_1) ∧ 
  eop P (Builtin.copy_ #[25, 25] 3 #[(Sl.v t41_1), (Sl.v t44_1)]) h_6 fun rv_12 h_7 => ∃ t45_1 : Int, rv_12 = (VI t45_1) ∧ Vars h_7 [] ∧
  ∃ m : Nat, m < n_1 ∧ J_3 m (w64 (n8_1 + t45_1)) h_7) ∧
  ((decide (n8_1 < (t30_1.n : Int))) = false →
  K (Sl.v t30_1) h_6)
theorem v148 (x0_1 : Sl) (count1_1 : Int) (h : Heap) (K : Value → Heap → Prop) (H : u148 Try.prog x0_1 count1_1 h K) : callM Try.prog 148 #[(Sl.v x0_1), (VI count1_1)] h K := by
  refine c148 (Sl.v x0_1) (VI count1_1) h K ?_
  unfold u148 at H
  unfold t148
  have hL : Vars h [] := .nil
  obtain ⟨J_1, H, HB_3⟩ := H
  refine ⟨fun (vs : List Value) (h' : Heap) => vs = [] ∧ J_1  h' ∧ Vars h' [], ?_, ?_⟩
  · refine pop_lss .i64 count1_1 0 ?_
    refine condM_b (fun hb_1 => ?_) (fun hb_1 => ?_)
    · have H := H.1 hb_1
      refine H.mono fun rv_1 H => ?_
      obtain ⟨t11_1, rfl, H⟩ := H
      exact H.elim
    · have H := H.2 hb_1
      exact ⟨rfl, H, hL⟩
  intro junk_1  h_1
  rintro ⟨hv, hJ_1, hL_1⟩
  have H := HB_3  h_1 hJ_1 hL_1
  refine pop_len x0_1 _ _ sli25 ?_
  refine H.mono fun rv_2 H => ?_
  obtain ⟨t15_1, rfl, H⟩ := H
  refine H.mono fun rv_3 H => ?_
  obtain ⟨t17_1, rfl, H⟩ := H
  refine H.mono fun rv_4 h_2 H => ?_
  obtain ⟨t18_1, t18_2, rfl, hL_2, H⟩ := H
  refine pop_ext (v := (Value.int .u64 t18_1)) rfl ?_
  refine pop_ext (v := (Value.int .u64 t18_2)) rfl ?_
  obtain ⟨J_2, H, HB_2⟩ := H
  refine ⟨fun (vs : List Value) (h' : Heap) => vs = [] ∧ J_2  h' ∧ Vars h' [], ?_, ?_⟩
  · refine pop_gtr .u64 t18_1 0 ?_
    refine guardM_sf (fun hb_2 => ?_) (fun hb_2 => ?_)
    · have H := H.2 hb_2
      refine guardM_y' hb_2 ?_
      refine pop_gtr .u64 t18_2 9223372036854775807 ?_
      refine pop_pickf' hb_2 ?_
      refine condM_b (fun hb_3 => ?_) (fun hb_3 => ?_)
      · have H := H.1 hb_3
        refine H.mono fun rv_5 H => ?_
        obtain ⟨t27_1, rfl, H⟩ := H
        exact H.elim
      · have H := H.2 hb_3
        exact ⟨rfl, H, hL_2⟩
    · have H := H.1 hb_2
      refine guardM_n' hb_2 (by decide) ?_
      refine pop_pickt' hb_2 ?_
      refine condM_t ?_
      refine H.mono fun rv_6 H => ?_
      obtain ⟨t27_2, rfl, H⟩ := H
      exact H.elim
  intro junk_2  h_3
  rintro ⟨hv, hJ_2, hL_3⟩
  have H := HB_2  h_3 hJ_2 hL_3
  refine H.mono fun rv_7 H => ?_
  obtain ⟨t29_1, rfl, H⟩ := H
  refine H.mono fun rv_8 h_4 H => ?_
  obtain ⟨t30_1, rfl, hL_4, H⟩ := H
  refine H.mono fun rv_9 h_5 H => ?_
  obtain ⟨t33_1, rfl, hL_5, H⟩ := H
  obtain ⟨J_3, ⟨n_2, h0_1⟩, HB_1⟩ := H
  refine loop_intro (J := fun (n : Nat) (vs : List Value) (h' : Heap) => ∃ n8_1 : Int, vs = [(VI n8_1)] ∧ J_3 n n8_1 h' ∧ Vars h' []) n_2 ⟨t33_1, rfl, h0_1, hL_5⟩ ?_
  intro I_1 mu_1 hI_1 junk_3 tv_1 h_6 hi_1
  obtain ⟨n_1, ⟨n8_1, hv, hJ_3, hL_6⟩, hn_1⟩ := hI_1 _ _ hi_1
  cases hv
  have H := HB_1 n_1 n8_1 h_6 hJ_3 hL_6
  refine pop_len t30_1 _ _ sli25 ?_
  refine pop_lss .i64 n8_1 (t30_1.n : Int) ?_
  refine condM_b (fun hb_4 => ?_) (fun hb_4 => ?_)
  · have H := H.1 hb_4
    refine H.mono fun rv_10 H => ?_
    obtain ⟨t41_1, rfl, H⟩ := H
    refine H.mono fun rv_11 H => ?_
    obtain ⟨t44_1, rfl, H⟩ := H
    refine H.mono fun rv_12 h_7 H => ?_
    obtain ⟨t45_1, rfl, hL_7, H⟩ := H
    refine pop_add .i64 n8_1 t45_1 ?_
    obtain ⟨m_1, hm_1, H⟩ := H
    exact hn_1 _ _ ⟨m_1, hm_1, (w64 (n8_1 + t45_1)), rfl, H, hL_7⟩
  · have H := H.2 hb_4
    exact H

/-! math/bits.Mul -/
def u149 (P : Program) (x0_1 : Int) (y1_1 : Int) (h : Heap) (K : Value → Heap → Prop) : Prop :=
  callM P 151 #[(Value.int .u64 x0_1), (Value.int .u64 y1_1)] h fun rv_1 h_1 => ∃ t25_1 : Int, ∃ t25_2 : Int, rv_1 = (Value.tuple #[(Value.int .u64 t25_1), (Value.int .u64 t25_2)]) ∧ Vars h_1 [] ∧
  K (Value.tuple #[(Value.int .u64 t25_1), (Value.int .u64 t25_2)]) h_1
theorem v149 (x0_1 : Int) (y1_1 : Int) (h : Heap) (K : Value → Heap → Prop) (H : u149 Try.prog x0_1 y1_1 h K) : callM Try.prog 149 #[(Value.int .u64 x0_1), (Value.int .u64 y1_1)] h K := by
  refine c149 (Value.int .u64 x0_1) (Value.int .u64 y1_1) h K ?_
  unfold u149 at H
  unfold t149
  have hL : Vars h [] := .nil
  refine condM_f ?_
  refine H.mono fun rv_1 h_1 H => ?_
  obtain ⟨t25_1, t25_2, rfl, hL_1, H⟩ := H
  refine pop_ext (v := (Value.int .u64 t25_1)) rfl ?_
  refine pop_ext (v := (Value.int .u64 t25_2)) rfl ?_
  exact H

/-! math/bits.Mul32 -/
def u150 (P : Program) (x0_1 : Int) (y1_1 : Int) (h : Heap) (K : Value → Heap → Prop) : Prop :=
  rop P (convert 143 146 (Value.int .u32 x0_1)) h fun rv_1 => ∃ t8_1 : Int, rv_1 = (Value.int .u64 t8_1) ∧ 
  rop P (convert 143 146 (Value.int .u32 y1_1)) h fun rv_2 => ∃ t10_1 : Int, rv_2 = (Value.int .u64 t10_1) ∧ 
  pop P (binA .shr 146 (Value.int .u64 (IntKind.wrap .u64 (t8_1 * t10_1))) (Value.int IntKind.u64 32)) fun rv_3 => ∃ t13_1 : Int, rv_3 = (Value.int .u64 t13_1) ∧ 
  rop P (convert 146 143 (Value.int .u64 t13_1)) h fun rv_4 => ∃ t14_1 : Int, rv_4 = (Value.int .u32 t14_1) ∧ 
  rop P (convert 146 143 (Value.int .u64 (IntKind.wrap .u64 (t8_1 * t10_1)))) h fun rv_5 => ∃ t16_1 : Int, rv_5 = (Value.int .u32 t16_1) ∧ 
  K (Value.tuple #[(Value.int .u32 t14_1), (Value.int .u32 t16_1)]) h
theorem v150 (x0_1 : Int) (y1_1 : Int) (h : Heap) (K : Value → Heap → Prop) (H : u150 Try.prog x0_1 y1_1 h K) : callM Try.prog 150 #[(Value.int .u32 x0_1), (Value.int .u32 y1_1)] h K := by
  refine c150 (Value.int .u32 x0_1) (Value.int .u32 y1_1) h K ?_
  unfold u150 at H
  unfold t150
  have hL : Vars h [] := .nil
  refine H.mono fun rv_1 H => ?_
  obtain ⟨t8_1, rfl, H⟩ := H
  refine H.mono fun rv_2 H => ?_
  obtain ⟨t10_1, rfl, H⟩ := H
  refine pop_mul .u64 t8_1 t10_1 ?_
  refine H.mono fun rv_3 H => ?_
  obtain ⟨t13_1, rfl, H⟩ := H
  refine H.mono fun rv_4 H => ?_
  obtain ⟨t14_1, rfl, H⟩ := H
  refine H.mono fun rv_5 H => ?_
  obtain ⟨t16_1, rfl, H⟩ := H
  exact H

/-! math/bits.Mul64 -/
def u151 (P : Program) (x0_1 : Int) (y1_1 : Int) (h : Heap) (K : Value → Heap → Prop) : Prop :=
  pop P (binA .and 146 (Value.int .u64 x0_1) (Value.int IntKind.u64 4294967295)) fun rv_1 => ∃ t15_1 : Int, rv_1 = (Value.int .u64 t15_1) ∧ 
  pop P (binA .shr 146 (Value.int .u64 x0_1) (Value.int IntKind.u64 32)) fun rv_2 => ∃ t17_1 : Int, rv_2 = (Value.int .u64 t17_1) ∧ 
  pop P (binA .and 146 (Value.int .u64 y1_1) (Value.int IntKind.u64 4294967295)) fun rv_3 => ∃ t19_1 : Int, rv_3 = (Value.int .u64 t19_1) ∧ 
  pop P (binA .shr 146 (Value.int .u64 y1_1) (Value.int IntKind.u64 32)) fun rv_4 => ∃ t21_1 : Int, rv_4 = (Value.int .u64 t21_1) ∧ 
  pop P (binA .shr 146 (Value.int .u64 (IntKind.wrap .u64 (t15_1 * t19_1))) (Value.int IntKind.u64 32)) fun rv_5 => ∃ t29_1 : Int, rv_5 = (Value.int .u64 t29_1) ∧ 
  pop P (binA .and 146 (Value.int .u64 (IntKind.wrap .u64 ((IntKind.wrap .u64 (t17_1 * t19_1)) + t29_1))) (Value.int IntKind.u64 4294967295)) fun rv_6 => ∃ t32_1 : Int, rv_6 = (Value.int .u64 t32_1) ∧ 
  pop P (binA .shr 146 (Value.int .u64 (IntKind.wrap .u64 ((IntKind.wrap .u64 (t17_1 * t19_1)) + t29_1))) (Value.int IntKind.u64 32)) fun rv_7 => ∃ t34_1 : Int, rv_7 = (Value.int .u64 t34_1) ∧ 
  pop P (binA .shr 146 (Value.int .u64 (IntKind.wrap .u64 (t32_1 + (IntKind.wrap .u64 (t15_1 * t21_1))))) (Value.int IntKind.u64 32)) fun rv_8 => ∃ t46_1 : Int, rv_8 = (Value.int .u64 t46_1) ∧ 
  K (Value.tuple #[(Value.int .u64 (IntKind.wrap .u64 ((IntKind.wrap .u64 ((IntKind.wrap .u64 (t17_1 * t21_1)) + t34_1)) + t46_1))), (Value.int .u64 (IntKind.wrap .u64 (x0_1 * y1_1)))]) h
theorem v151 (x0_1 : Int) (y1_1 : Int) (h : Heap) (K : Value → Heap → Prop) (H : u151 Try.prog x0_1 y1_1 h K) : callM Try.prog 151 #[(Value.int .u64 x0_1), (Value.int .u64 y1_1)] h K := by
  refine c151 (Value.int .u64 x0_1) (Value.int .u64 y1_1) h K ?_
  unfold u151 at H
  unfold t151
  have hL : Vars h [] := .nil
  refine H.mono fun rv_1 H => ?_
  obtain ⟨t15_1, rfl, H⟩ := H
  refine H.mono fun rv_2 H => ?_
  obtain ⟨t17_1, rfl, H⟩ := H
  refine H.mono fun rv_3 H => ?_
  obtain ⟨t19_1, rfl, H⟩ := H
  refine H.mono fun rv_4 H => ?_
  obtain ⟨t21_1, rfl, H⟩ := H
  refine pop_mul .u64 t15_1 t19_1 ?_
  refine pop_mul .u64 t17_1 t19_1 ?_
  refine H.mono fun rv_5 H => ?_
  obtain ⟨t29_1, rfl, H⟩ := H
  refine pop_add .u64 (IntKind.wrap .u64 (t17_1 * t19_1)) t29_1 ?_
  refine H.mono fun rv_6 H => ?_
  obtain ⟨t32_1, rfl, H⟩ := H
  refine H.mono fun rv_7 H => ?_
  obtain ⟨t34_1, rfl, H⟩ := H
  refine pop_mul .u64 t15_1 t21_1 ?_
  refine pop_add .u64 t32_1 (IntKind.wrap .u64 (t15_1 * t21_1)) ?_
  refine pop_mul .u64 t17_1 t21_1 ?_
  refine pop_add .u64 (IntKind.wrap .u64 (t17_1 * t21_1)) t34_1 ?_
  refine H.mono fun rv_8 H => ?_
  obtain ⟨t46_1, rfl, H⟩ := H
  refine pop_add .u64 (IntKind.wrap .u64 ((IntKind.wrap .u64 (t17_1 * t21_1)) + t34_1)) t46_1 ?_
  refine pop_mul .u64 x0_1 y1_1 ?_
  exact H

end Go.Proofs.Ytjinpagnbflmiaa
