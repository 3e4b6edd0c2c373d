/-
  The same over typed data. Written by a program.
-/
import Derived.Test.YtkphbhochacllaaTurnExitsT
import Derived.Test.YtkphbhochacllaaM2
set_option linter.unusedVariables false
set_option linter.unusedSimpArgs false
namespace Go.Proofs.Ytkphbhochacllaa
open Go Go.Mx
theorem agg24 : aggC Try.prog 24 = some 1 := by kernel_rfl
theorem agg34 : aggC Try.prog 34 = some 1 := by kernel_rfl
theorem boo4 : Try.prog.underlying 4 = some .bool := by kernel_rfl
theorem fld24_0 : fieldC Try.prog 24 0 = some 0 := by kernel_rfl
theorem fld34_0 : fieldC Try.prog 34 0 = some 0 := by kernel_rfl
theorem one22 : oneC Try.prog 22 = true := by kernel_rfl
theorem one25 : oneC Try.prog 25 = true := by kernel_rfl
theorem one3 : oneC Try.prog 3 = true := by kernel_rfl
theorem siz22 : sizeC Try.prog 22 = some 1 := by kernel_rfl
theorem siz24 : sizeC Try.prog 24 = some 1 := by kernel_rfl
theorem siz25 : sizeC Try.prog 25 = some 1 := by kernel_rfl
theorem siz3 : sizeC Try.prog 3 = some 1 := by kernel_rfl
theorem sli22 : Try.prog.underlying 22 = some (.slice 25) := by kernel_rfl
theorem sli25 : Try.prog.underlying 25 = some (.slice 3) := by kernel_rfl
theorem zer24 : zeroC Try.prog 24 = some (Value.agg #[(Sl.v nilSl)]) := by kernel_rfl
theorem zer3 : zeroC Try.prog 3 = some (VI 0) := by kernel_rfl
/-! laws.FnExactTurnExits -/
def u6 (P : Program) (aG0_1 : Sl) (aP1_1 : Int) (aK2_1 : Int) (h : Heap) (K : Value → Heap → Prop) : Prop :=
  ∀ (b_1 : Nat) (h_1 : Heap), h.size ≤ b_1 → Fr (In []) h h_1 → Vars h_1 [(b_1, [(Sl.v aG0_1)])] →
  callM P 24 #[(Value.agg #[(Sl.v aG0_1)]), (VI 1048576)] h_1 fun rv_1 h_2 => ∃ t20_1 : Int, rv_1 = (VI t20_1) ∧ Vars h_2 [(b_1, [(Sl.v aG0_1)])] ∧
  ((decide (t20_1 < 0)) = true →
  K (VB true) h_2) ∧
  ((decide (t20_1 < 0)) = false →
  callM P 26 #[(Value.agg #[(Sl.v aG0_1)])] h_2 fun rv_2 h_3 => ∃ t25_1 : Sl, rv_2 = (Value.agg #[(Sl.v t25_1)]) ∧ Vars h_3 [(b_1, [(Sl.v aG0_1)])] ∧
  callM P 31 #[(Value.agg #[(Sl.v t25_1)]), (VI aP1_1), (VI aK2_1)] h_3 fun rv_3 h_4 => ∃ t28_1 : Sl, ∃ t28_2 : Bool, rv_3 = (Value.tuple #[(Value.agg #[(Sl.v t28_1)]), (VB t28_2)]) ∧ Vars h_4 [(b_1, [(Sl.v aG0_1)])] ∧
  ∀ (b_2 : Nat) (h_6 : Heap), h_4.size ≤ b_2 → Fr (In []) h_4 h_6 → Vars h_6 [(b_2, [(Sl.v t28_1)]), (b_1, [(Sl.v aG0_1)])] →
  callM P 26 #[(Value.agg #[(Sl.v aG0_1)])] h_6 fun rv_4 h_7 => ∃ t32_1 : Sl, rv_4 = (Value.agg #[(Sl.v t32_1)]) ∧ Vars h_7 [(b_2, [(Sl.v t28_1)]), (b_1, [(Sl.v aG0_1)])] ∧
  ∀ (b_3 : Nat) (h_9 : Heap), h_7.size ≤ b_3 → Fr (In []) h_7 h_9 → Vars h_9 [(b_3, [(Sl.v t32_1)]), (b_2, [(Sl.v t28_1)]), (b_1, [(Sl.v aG0_1)])] →
  callM P 32 #[(Value.agg #[(Sl.v t32_1)]), (VI aP1_1), (VI aK2_1)] h_9 fun rv_5 h_10 => ∃ t37_1 : Sl, ∃ t37_2 : Bool, rv_5 = (Value.tuple #[(Value.agg #[(Sl.v t37_1)]), (VB t37_2)]) ∧ Vars h_10 [(b_3, [(Sl.v t32_1)]), (b_2, [(Sl.v t28_1)]), (b_1, [(Sl.v aG0_1)])] ∧
  ∀ (b_4 : Nat) (h_12 : Heap), h_10.size ≤ b_4 → Fr (In []) h_10 h_12 → Vars h_12 [(b_4, [(Sl.v t37_1)]), (b_3, [(Sl.v t32_1)]), (b_2, [(Sl.v t28_1)]), (b_1, [(Sl.v aG0_1)])] →
  callM P 28 #[(Value.agg #[(Sl.v t37_1)]), (Value.agg #[(Sl.v t28_1)])] h_12 fun rv_6 h_13 => ∃ t42_1 : Bool, rv_6 = (VB t42_1) ∧ Vars h_13 [(b_4, [(Sl.v t37_1)]), (b_3, [(Sl.v t32_1)]), (b_2, [(Sl.v t28_1)]), (b_1, [(Sl.v aG0_1)])] ∧
  ((!t42_1) = true →
  K (VB false) h_13) ∧
  ((!t42_1) = false →
  ((!(t37_2 == t28_2)) = true →
  K (VB false) h_13) ∧
  ((!(t37_2 == t28_2)) = false →
  callM P 26 #[(Value.agg #[(Sl.v aG0_1)])] h_13 fun rv_7 h_14 => ∃ t51_1 : Sl, rv_7 = (Value.agg #[(Sl.v t51_1)]) ∧ Vars h_14 [(b_4, [(Sl.v t37_1)]), (b_3, [(Sl.v t32_1)]), (b_2, [(Sl.v t28_1)]), (b_1, [(Sl.v aG0_1)])] ∧
  callM P 28 #[(Value.agg #[(Sl.v t32_1)]), (Value.agg #[(Sl.v t51_1)])] h_14 fun rv_8 h_15 => ∃ t52_1 : Bool, rv_8 = (VB t52_1) ∧ Vars h_15 [(b_4, [(Sl.v t37_1)]), (b_3, [(Sl.v t32_1)]), (b_2, [(Sl.v t28_1)]), (b_1, [(Sl.v aG0_1)])] ∧
  ((!t52_1) = true →
  K (VB false) h_15) ∧
  ((!t52_1) = false →
  callM P 29 #[(Value.agg #[(Sl.v t32_1)]), (VI 1)] h_15 fun rv_9 h_16 => ∃ t56_1 : Int, rv_9 = (VI t56_1) ∧ Vars h_16 [(b_4, [(Sl.v t37_1)]), (b_3, [(Sl.v t32_1)]), (b_2, [(Sl.v t28_1)]), (b_1, [(Sl.v aG0_1)])] ∧
  ((decide (t56_1 < 0)) = true →
  K (VB false) h_16) ∧
  ((decide (t56_1 < 0)) = false →
  callM P 28 #[(Value.agg #[(Sl.v t37_1)]), (Value.agg #[(Sl.v t28_1)])] h_16 fun rv_10 h_17 => ∃ t62_1 : Bool, rv_10 = (VB t62_1) ∧ Vars h_17 [(b_4, [(Sl.v t37_1)]), (b_3, [(Sl.v t32_1)]), (b_2, [(Sl.v t28_1)]), (b_1, [(Sl.v aG0_1)])] ∧
  ((!t62_1) = true →
  K (VB false) h_17) ∧
  ((!t62_1) = false →
  callM P 29 #[(Value.agg #[(Sl.v t37_1)]), (VI 1)] h_17 fun rv_11 h_18 => ∃ t72_1 : Int, rv_11 = (VI t72_1) ∧ Vars h_18 [(b_4, [(Sl.v t37_1)]), (b_3, [(Sl.v t32_1)]), (b_2, [(Sl.v t28_1)]), (b_1, [(Sl.v aG0_1)])] ∧
  callM P 30 #[(Value.agg #[(Sl.v t37_1)]), (VI 1)] h_18 fun rv_12 h_19 => ∃ t75_1 : Int, rv_12 = (VI t75_1) ∧ Vars h_19 [(b_4, [(Sl.v t37_1)]), (b_3, [(Sl.v t32_1)]), (b_2, [(Sl.v t28_1)]), (b_1, [(Sl.v aG0_1)])] ∧
  ((decide (t75_1 < 0)) = true →
  K (VB false) h_19) ∧
  ((decide (t75_1 < 0)) = false →
  ((!decide (t75_1 = t72_1)) = true →
  K (VB false) h_19) ∧
  ((!decide (t75_1 = t72_1)) = false →
  callM P 26 #[(Value.agg #[(Sl.v aG0_1)])] h_19 fun rv_13 h_20 => ∃ t83_1 : Sl, rv_13 = (Value.agg #[(Sl.v t83_1)]) ∧ Vars h_20 [(b_4, [(Sl.v t37_1)]), (b_3, [(Sl.v t32_1)]), (b_2, [(Sl.v t28_1)]), (b_1, [(Sl.v aG0_1)])] ∧
  callM P 32 #[(Value.agg #[(Sl.v t83_1)]), (VI aP1_1), (VI aK2_1)] h_20 fun rv_14 h_21 => ∃ t86_1 : Sl, ∃ t86_2 : Bool, rv_14 = (Value.tuple #[(Value.agg #[(Sl.v t86_1)]), (VB t86_2)]) ∧ Vars h_21 [(b_4, [(Sl.v t37_1)]), (b_3, [(Sl.v t32_1)]), (b_2, [(Sl.v t28_1)]), (b_1, [(Sl.v aG0_1)])] ∧
  ∀ (b_5 : Nat) (h_23 : Heap), h_21.size ≤ b_5 → Fr (In []) h_21 h_23 → Vars h_23 [(b_5, [(Sl.v t86_1)]), (b_4, [(Sl.v t37_1)]), (b_3, [(Sl.v t32_1)]), (b_2, [(Sl.v t28_1)]), (b_1, [(Sl.v aG0_1)])] →
  callM P 28 #[(Value.agg #[(Sl.v t86_1)]), (Value.agg #[(Sl.v t28_1)])] h_23 fun rv_15 h_24 => ∃ t91_1 : Bool, rv_15 = (VB t91_1) ∧ Vars h_24 [(b_5, [(Sl.v t86_1)]), (b_4, [(Sl.v t37_1)]), (b_3, [(Sl.v t32_1)]), (b_2, [(Sl.v t28_1)]), (b_1, [(Sl.v aG0_1)])] ∧
  ((!t91_1) = true →
  K (VB false) h_24) ∧
  ((!t91_1) = false →
  ((!(t86_2 == t28_2)) = true →
  K (VB false) h_24) ∧
  ((!(t86_2 == t28_2)) = false →
  callM P 30 #[(Value.agg #[(Sl.v t37_1)]), (VI 1)] h_24 fun rv_16 h_25 => ∃ t100_1 : Int, rv_16 = (VI t100_1) ∧ Vars h_25 [(b_5, [(Sl.v t86_1)]), (b_4, [(Sl.v t37_1)]), (b_3, [(Sl.v t32_1)]), (b_2, [(Sl.v t28_1)]), (b_1, [(Sl.v aG0_1)])] ∧
  ((decide (t100_1 < 0)) = true →
  K (VB false) h_25) ∧
  ((decide (t100_1 < 0)) = false →
  ((!decide (t100_1 = t72_1)) = true →
  K (VB false) h_25) ∧
  ((!decide (t100_1 = t72_1)) = false →
  K (VB true) h_25))))))))))))
theorem v6 (aG0_1 : Sl) (aP1_1 : Int) (aK2_1 : Int) (h : Heap) (K : Value → Heap → Prop) (H : u6 Try.prog aG0_1 aP1_1 aK2_1 h K) : callM Try.prog 6 #[(Value.agg #[(Sl.v aG0_1)]), (VI aP1_1), (VI aK2_1)] h K := by
  refine c6 (Value.agg #[(Sl.v aG0_1)]) (VI aP1_1) (VI aK2_1) h K ?_
  unfold u6 at H
  unfold t6
  have hL : Vars h [] := .nil
  refine eop_box 34 (Value.agg #[(Sl.v aG0_1)]) rfl hL (fun b_1 h_1 hb_1 hf_1 hL_1 => ?_)
  refine rop_locA agg34 hL_1 0 rfl 0 (vs := [(Sl.v aG0_1)]) rfl rfl ?_
  have H := H b_1 h_1 (Nat.le_trans (Fr.size (Fr.r (In []) _)) hb_1) (Fr.no' (Fr.r (In []) _) hf_1) hL_1
  refine H.mono fun rv_1 h_2 H => ?_
  obtain ⟨t20_1, rfl, hL_2, H⟩ := H
  refine pop_lss .i64 t20_1 0 ?_
  refine condM_b (fun hb_2 => ?_) (fun hb_2 => ?_)
  · have H := H.1 hb_2
    exact H
  · have H := H.2 hb_2
    refine rop_locA agg34 hL_2 0 rfl 0 (vs := [(Sl.v aG0_1)]) rfl rfl ?_
    refine H.mono fun rv_2 h_3 H => ?_
    obtain ⟨t25_1, rfl, hL_3, H⟩ := H
    refine H.mono fun rv_3 h_4 H => ?_
    obtain ⟨t28_1, t28_2, rfl, hL_4, H⟩ := H
    refine pop_ext (v := (Value.agg #[(Sl.v t28_1)])) rfl ?_
    refine pop_ext (v := (VB t28_2)) rfl ?_
    refine eop_alloc 24 zer24 rfl hL_4 (fun b_2 h_5 hb_3 hf_2 hL_5 => ?_)
    refine uop_loc siz24 hL_5 0 rfl 0 [(Sl.v t28_1)] rfl rfl rfl (Nat.le_of_ble_eq_true rfl) (L' := [(b_2, [(Sl.v t28_1)]), (b_1, [(Sl.v aG0_1)])]) rfl (fun h_6 hf_3 hL_6 => ?_)
    refine rop_locA agg34 hL_6 1 rfl 0 (vs := [(Sl.v aG0_1)]) rfl rfl ?_
    have H := H b_2 h_6 (Nat.le_trans (Fr.size (Fr.r (In []) _)) hb_3) (Fr.new (Fr.no' (Fr.r (In []) _) hf_2) (Nat.le_trans (Fr.size (Fr.r (In []) _)) hb_3) hf_3) hL_6
    refine H.mono fun rv_4 h_7 H => ?_
    obtain ⟨t32_1, rfl, hL_7, H⟩ := H
    refine eop_alloc 24 zer24 rfl hL_7 (fun b_3 h_8 hb_4 hf_4 hL_8 => ?_)
    refine uop_loc siz24 hL_8 0 rfl 0 [(Sl.v t32_1)] rfl rfl rfl (Nat.le_of_ble_eq_true rfl) (L' := [(b_3, [(Sl.v t32_1)]), (b_2, [(Sl.v t28_1)]), (b_1, [(Sl.v aG0_1)])]) rfl (fun h_9 hf_5 hL_9 => ?_)
    refine rop_locA agg24 hL_9 0 rfl 0 (vs := [(Sl.v t32_1)]) rfl rfl ?_
    have H := H b_3 h_9 (Nat.le_trans (Fr.size (Fr.r (In []) _)) hb_4) (Fr.new (Fr.no' (Fr.r (In []) _) hf_4) (Nat.le_trans (Fr.size (Fr.r (In []) _)) hb_4) hf_5) hL_9
    refine H.mono fun rv_5 h_10 H => ?_
    obtain ⟨t37_1, t37_2, rfl, hL_10, H⟩ := H
    refine pop_ext (v := (Value.agg #[(Sl.v t37_1)])) rfl ?_
    refine pop_ext (v := (VB t37_2)) rfl ?_
    refine eop_alloc 24 zer24 rfl hL_10 (fun b_4 h_11 hb_5 hf_6 hL_11 => ?_)
    refine uop_loc siz24 hL_11 0 rfl 0 [(Sl.v t37_1)] rfl rfl rfl (Nat.le_of_ble_eq_true rfl) (L' := [(b_4, [(Sl.v t37_1)]), (b_3, [(Sl.v t32_1)]), (b_2, [(Sl.v t28_1)]), (b_1, [(Sl.v aG0_1)])]) rfl (fun h_12 hf_7 hL_12 => ?_)
    refine rop_locA agg24 hL_12 0 rfl 0 (vs := [(Sl.v t37_1)]) rfl rfl ?_
    refine rop_locA agg24 hL_12 2 rfl 0 (vs := [(Sl.v t28_1)]) rfl rfl ?_
    have H := H b_4 h_12 (Nat.le_trans (Fr.size (Fr.r (In []) _)) hb_5) (Fr.new (Fr.no' (Fr.r (In []) _) hf_6) (Nat.le_trans (Fr.size (Fr.r (In []) _)) hb_5) hf_7) hL_12
    refine H.mono fun rv_6 h_13 H => ?_
    obtain ⟨t42_1, rfl, hL_13, H⟩ := H
    refine pop_not t42_1 ?_
    refine guardM_sf (fun hb_6 => ?_) (fun hb_6 => ?_)
    · have H := H.2 hb_6
      refine guardM_y' hb_6 ?_
      refine guardM_y' hb_6 ?_
      refine pop_bne boo4 _ _ t37_2 t28_2 ?_
      refine pop_pickf' hb_6 ?_
      refine condM_b (fun hb_7 => ?_) (fun hb_7 => ?_)
      · have H := H.1 hb_7
        exact H
      · have H := H.2 hb_7
        refine rop_locA agg24 hL_13 1 rfl 0 (vs := [(Sl.v t32_1)]) rfl rfl ?_
        refine rop_locA agg34 hL_13 3 rfl 0 (vs := [(Sl.v aG0_1)]) rfl rfl ?_
        refine H.mono fun rv_7 h_14 H => ?_
        obtain ⟨t51_1, rfl, hL_14, H⟩ := H
        refine ⟨?_, ?_⟩
        · exact still_locA agg24 hL_14 1 rfl 0 (vs := [(Sl.v t32_1)]) rfl rfl
        refine H.mono fun rv_8 h_15 H => ?_
        obtain ⟨t52_1, rfl, hL_15, H⟩ := H
        refine pop_not t52_1 ?_
        refine condM_b (fun hb_8 => ?_) (fun hb_8 => ?_)
        · have H := H.1 hb_8
          exact H
        · have H := H.2 hb_8
          refine rop_locA agg24 hL_15 1 rfl 0 (vs := [(Sl.v t32_1)]) rfl rfl ?_
          refine H.mono fun rv_9 h_16 H => ?_
          obtain ⟨t56_1, rfl, hL_16, H⟩ := H
          refine pop_lss .i64 t56_1 0 ?_
          refine guardM_sf (fun hb_9 => ?_) (fun hb_9 => ?_)
          · have H := H.2 hb_9
            refine rop_locA agg24 hL_16 0 rfl 0 (vs := [(Sl.v t37_1)]) rfl rfl ?_
            refine guardM_y' hb_9 ?_
            refine rop_locA agg24 hL_16 2 rfl 0 (vs := [(Sl.v t28_1)]) rfl rfl ?_
            refine guardM_y' hb_9 ?_
            refine H.mono fun rv_10 h_17 H => ?_
            obtain ⟨t62_1, rfl, hL_17, H⟩ := H
            refine guardM_y' hb_9 ?_
            refine pop_not t62_1 ?_
            refine pop_pickf' hb_9 ?_
            refine guardM_sf (fun hb_10 => ?_) (fun hb_10 => ?_)
            · have H := H.2 hb_10
              refine guardM_y' hb_10 ?_
              refine guardM_y' hb_10 ?_
              refine pop_bne boo4 _ _ t37_2 t28_2 ?_
              refine pop_pickf' hb_10 ?_
              refine condM_f' hb_7 ?_
              refine rop_locA agg24 hL_17 0 rfl 0 (vs := [(Sl.v t37_1)]) rfl rfl ?_
              refine H.mono fun rv_11 h_18 H => ?_
              obtain ⟨t72_1, rfl, hL_18, H⟩ := H
              refine rop_locA agg24 hL_18 0 rfl 0 (vs := [(Sl.v t37_1)]) rfl rfl ?_
              refine H.mono fun rv_12 h_19 H => ?_
              obtain ⟨t75_1, rfl, hL_19, H⟩ := H
              refine pop_lss .i64 t75_1 0 ?_
              refine condM_b (fun hb_11 => ?_) (fun hb_11 => ?_)
              · have H := H.1 hb_11
                exact H
              · have H := H.2 hb_11
                refine pop_ine .i64 _ _ t75_1 t72_1 ?_
                refine condM_b (fun hb_12 => ?_) (fun hb_12 => ?_)
                · have H := H.1 hb_12
                  exact H
                · have H := H.2 hb_12
                  refine rop_locA agg34 hL_19 3 rfl 0 (vs := [(Sl.v aG0_1)]) rfl rfl ?_
                  refine H.mono fun rv_13 h_20 H => ?_
                  obtain ⟨t83_1, rfl, hL_20, H⟩ := H
                  refine H.mono fun rv_14 h_21 H => ?_
                  obtain ⟨t86_1, t86_2, rfl, hL_21, H⟩ := H
                  refine pop_ext (v := (Value.agg #[(Sl.v t86_1)])) rfl ?_
                  refine pop_ext (v := (VB t86_2)) rfl ?_
                  refine eop_alloc 24 zer24 rfl hL_21 (fun b_5 h_22 hb_13 hf_8 hL_22 => ?_)
                  refine uop_loc siz24 hL_22 0 rfl 0 [(Sl.v t86_1)] rfl rfl rfl (Nat.le_of_ble_eq_true rfl) (L' := [(b_5, [(Sl.v t86_1)]), (b_4, [(Sl.v t37_1)]), (b_3, [(Sl.v t32_1)]), (b_2, [(Sl.v t28_1)]), (b_1, [(Sl.v aG0_1)])]) rfl (fun h_23 hf_9 hL_23 => ?_)
                  refine rop_locA agg24 hL_23 0 rfl 0 (vs := [(Sl.v t86_1)]) rfl rfl ?_
                  refine rop_locA agg24 hL_23 3 rfl 0 (vs := [(Sl.v t28_1)]) rfl rfl ?_
                  have H := H b_5 h_23 (Nat.le_trans (Fr.size (Fr.r (In []) _)) hb_13) (Fr.new (Fr.no' (Fr.r (In []) _) hf_8) (Nat.le_trans (Fr.size (Fr.r (In []) _)) hb_13) hf_9) hL_23
                  refine H.mono fun rv_15 h_24 H => ?_
                  obtain ⟨t91_1, rfl, hL_24, H⟩ := H
                  refine pop_not t91_1 ?_
                  refine guardM_sf (fun hb_14 => ?_) (fun hb_14 => ?_)
                  · have H := H.2 hb_14
                    refine guardM_y' hb_14 ?_
                    refine guardM_y' hb_14 ?_
                    refine pop_bne boo4 _ _ t86_2 t28_2 ?_
                    refine pop_pickf' hb_14 ?_
                    refine condM_b (fun hb_15 => ?_) (fun hb_15 => ?_)
                    · have H := H.1 hb_15
                      exact H
                    · have H := H.2 hb_15
                      refine rop_locA agg24 hL_24 1 rfl 0 (vs := [(Sl.v t37_1)]) rfl rfl ?_
                      refine H.mono fun rv_16 h_25 H => ?_
                      obtain ⟨t100_1, rfl, hL_25, H⟩ := H
                      refine pop_lss .i64 t100_1 0 ?_
                      refine condM_b (fun hb_16 => ?_) (fun hb_16 => ?_)
                      · have H := H.1 hb_16
                        exact H
                      · have H := H.2 hb_16
                        refine pop_ine .i64 _ _ t100_1 t72_1 ?_
                        refine condM_b (fun hb_17 => ?_) (fun hb_17 => ?_)
                        · have H := H.1 hb_17
                          exact H
                        · have H := H.2 hb_17
                          exact H
                  · have H := H.1 hb_14
                    refine guardM_n' hb_14 (by decide) ?_
                    refine guardM_n' hb_14 (by decide) ?_
                    refine pop_pickt' hb_14 ?_
                    refine condM_t ?_
                    exact H
            · have H := H.1 hb_10
              refine guardM_n' hb_10 (by decide) ?_
              refine guardM_n' hb_10 (by decide) ?_
              refine pop_pickt' hb_10 ?_
              refine condM_t ?_
              exact H
          · have H := H.1 hb_9
            refine guardM_n' hb_9 (by decide) ?_
            refine guardM_n' hb_9 (by decide) ?_
            refine guardM_n' hb_9 (by decide) ?_
            refine pop_pickt' hb_9 ?_
            refine guardM_n (by decide) ?_
            refine guardM_n (by decide) ?_
            refine guardM_n (by decide) ?_
            refine pop_pickt _ _ ?_
            refine condM_t ?_
            exact H
    · have H := H.1 hb_6
      refine guardM_n' hb_6 (by decide) ?_
      refine guardM_n' hb_6 (by decide) ?_
      refine pop_pickt' hb_6 ?_
      refine condM_t ?_
      exact H

/-! laws.szGraph -/
def u24 (P : Program) (a0_1 : Sl) (left1_1 : Int) (h : Heap) (K : Value → Heap → Prop) : Prop :=
  ∀ (b_1 : Nat) (h_1 : Heap), h.size ≤ b_1 → Fr (In []) h h_1 → Vars h_1 [(b_1, [(Sl.v a0_1)])] →
  callM P 63 #[(Sl.v a0_1), (VI left1_1)] h_1 fun rv_1 h_2 => ∃ t8_1 : Int, rv_1 = (VI t8_1) ∧ Vars h_2 [(b_1, [(Sl.v a0_1)])] ∧
  ((decide (t8_1 < 0)) = true →
  K (VI (-1)) h_2) ∧
  ((decide (t8_1 < 0)) = false →
  K (VI t8_1) h_2)
theorem v24 (a0_1 : Sl) (left1_1 : Int) (h : Heap) (K : Value → Heap → Prop) (H : u24 Try.prog a0_1 left1_1 h K) : callM Try.prog 24 #[(Value.agg #[(Sl.v a0_1)]), (VI left1_1)] h K := by
  refine c24 (Value.agg #[(Sl.v a0_1)]) (VI left1_1) h K ?_
  unfold u24 at H
  unfold t24
  have hL : Vars h [] := .nil
  refine eop_box 34 (Value.agg #[(Sl.v a0_1)]) rfl hL (fun b_1 h_1 hb_1 hf_1 hL_1 => ?_)
  refine pop_field 0 fld34_0 b_1 0 ?_
  refine rop_loc one22 hL_1 0 rfl 0 (v := (Sl.v a0_1)) rfl ?_
  have H := H b_1 h_1 (Nat.le_trans (Fr.size (Fr.r (In []) _)) hb_1) (Fr.no' (Fr.r (In []) _) hf_1) hL_1
  refine H.mono fun rv_1 h_2 H => ?_
  obtain ⟨t8_1, rfl, hL_2, H⟩ := H
  refine pop_lss .i64 t8_1 0 ?_
  refine condM_b (fun hb_2 => ?_) (fun hb_2 => ?_)
  · have H := H.1 hb_2
    exact H
  · have H := H.2 hb_2
    exact H

/-! laws.toGraph -/
def u26 (P : Program) (a0_1 : Sl) (h : Heap) (K : Value → Heap → Prop) : Prop :=
  ∀ (b_1 : Nat) (b_2 : Nat) (b_3 : Nat) (h_3 : Heap), h.size ≤ b_1 → h.size ≤ b_2 → h.size ≤ b_3 → Fr (In []) h h_3 → Vars h_3 [(b_3, [(Sl.v nilSl)]), (b_2, [(Sl.v nilSl)]), (b_1, [(Sl.v a0_1)])] →
  callM P 67 #[(Sl.v a0_1)] h_3 fun rv_1 h_4 => ∃ t6_1 : Sl, rv_1 = (Sl.v t6_1) ∧ Vars h_4 [(b_3, [(Sl.v nilSl)]), (b_2, [(Sl.v nilSl)]), (b_1, [(Sl.v a0_1)])] ∧
  ∀ (h_6 : Heap), Fr (In [b_2, b_3]) h_4 h_6 → Vars h_6 [(b_3, [(Sl.v t6_1)]), (b_2, [(Sl.v t6_1)]), (b_1, [(Sl.v a0_1)])] →
  K (Value.agg #[(Sl.v t6_1)]) h_6
theorem v26 (a0_1 : Sl) (h : Heap) (K : Value → Heap → Prop) (H : u26 Try.prog a0_1 h K) : callM Try.prog 26 #[(Value.agg #[(Sl.v a0_1)])] h K := by
  refine c26 (Value.agg #[(Sl.v a0_1)]) h K ?_
  unfold u26 at H
  unfold t26
  have hL : Vars h [] := .nil
  refine eop_box 34 (Value.agg #[(Sl.v a0_1)]) rfl hL (fun b_1 h_1 hb_1 hf_1 hL_1 => ?_)
  refine eop_alloc 24 zer24 rfl hL_1 (fun b_2 h_2 hb_2 hf_2 hL_2 => ?_)
  refine eop_alloc 24 zer24 rfl hL_2 (fun b_3 h_3 hb_3 hf_3 hL_3 => ?_)
  refine pop_field 0 fld34_0 b_1 0 ?_
  refine rop_loc one22 hL_3 2 rfl 0 (v := (Sl.v a0_1)) rfl ?_
  have H := H b_1 b_2 b_3 h_3 (Nat.le_trans (Fr.size (Fr.r (In []) _)) hb_1) (Nat.le_trans (Fr.size (Fr.no' (Fr.r (In []) _) hf_1)) hb_2) (Nat.le_trans (Fr.size (Fr.no' (Fr.no' (Fr.r (In []) _) hf_1) hf_2)) hb_3) (Fr.no' (Fr.no' (Fr.no' (Fr.r (In []) _) hf_1) hf_2) hf_3) hL_3
  refine H.mono fun rv_1 h_4 H => ?_
  obtain ⟨t6_1, rfl, hL_4, H⟩ := H
  refine pop_field 0 fld24_0 b_3 0 ?_
  refine uop_loc siz22 hL_4 0 rfl 0 [(Sl.v t6_1)] rfl rfl rfl (Nat.le_of_ble_eq_true rfl) (L' := [(b_3, [(Sl.v t6_1)]), (b_2, [(Sl.v nilSl)]), (b_1, [(Sl.v a0_1)])]) rfl (fun h_5 hf_4 hL_5 => ?_)
  refine rop_locA agg24 hL_5 0 rfl 0 (vs := [(Sl.v t6_1)]) rfl rfl ?_
  refine uop_loc siz24 hL_5 1 rfl 0 [(Sl.v t6_1)] rfl rfl rfl (Nat.le_of_ble_eq_true rfl) (L' := [(b_3, [(Sl.v t6_1)]), (b_2, [(Sl.v t6_1)]), (b_1, [(Sl.v a0_1)])]) rfl (fun h_6 hf_5 hL_6 => ?_)
  refine rop_locA agg24 hL_6 1 rfl 0 (vs := [(Sl.v t6_1)]) rfl rfl ?_
  have H := H  h_6  (Fr.old (Fr.old (Fr.r (In []) _) hf_4) hf_5) hL_6
  exact H

/-! laws.eqGraph -/
def u28 (P : Program) (a0_1 : Sl) (b1_1 : Sl) (h : Heap) (K : Value → Heap → Prop) : Prop :=
  ∀ (b_1 : Nat) (b_2 : Nat) (h_2 : Heap), h.size ≤ b_1 → h.size ≤ b_2 → Fr (In []) h h_2 → Vars h_2 [(b_2, [(Sl.v b1_1)]), (b_1, [(Sl.v a0_1)])] →
  callM P 71 #[(Sl.v a0_1), (Sl.v b1_1)] h_2 fun rv_1 h_3 => ∃ t9_1 : Bool, rv_1 = (VB t9_1) ∧ Vars h_3 [(b_2, [(Sl.v b1_1)]), (b_1, [(Sl.v a0_1)])] ∧
  ((!t9_1) = true →
  K (VB false) h_3) ∧
  ((!t9_1) = false →
  K (VB true) h_3)
theorem v28 (a0_1 : Sl) (b1_1 : Sl) (h : Heap) (K : Value → Heap → Prop) (H : u28 Try.prog a0_1 b1_1 h K) : callM Try.prog 28 #[(Value.agg #[(Sl.v a0_1)]), (Value.agg #[(Sl.v b1_1)])] h K := by
  refine c28 (Value.agg #[(Sl.v a0_1)]) (Value.agg #[(Sl.v b1_1)]) h K ?_
  unfold u28 at H
  unfold t28
  have hL : Vars h [] := .nil
  refine eop_box 24 (Value.agg #[(Sl.v a0_1)]) rfl hL (fun b_1 h_1 hb_1 hf_1 hL_1 => ?_)
  refine eop_box 24 (Value.agg #[(Sl.v b1_1)]) rfl hL_1 (fun b_2 h_2 hb_2 hf_2 hL_2 => ?_)
  refine pop_field 0 fld24_0 b_1 0 ?_
  refine rop_loc one22 hL_2 1 rfl 0 (v := (Sl.v a0_1)) rfl ?_
  refine pop_field 0 fld24_0 b_2 0 ?_
  refine rop_loc one22 hL_2 0 rfl 0 (v := (Sl.v b1_1)) rfl ?_
  have H := H b_1 b_2 h_2 (Nat.le_trans (Fr.size (Fr.r (In []) _)) hb_1) (Nat.le_trans (Fr.size (Fr.no' (Fr.r (In []) _) hf_1)) hb_2) (Fr.no' (Fr.no' (Fr.r (In []) _) hf_1) hf_2) hL_2
  refine H.mono fun rv_1 h_3 H => ?_
  obtain ⟨t9_1, rfl, hL_3, H⟩ := H
  refine pop_not t9_1 ?_
  refine condM_b (fun hb_3 => ?_) (fun hb_3 => ?_)
  · have H := H.1 hb_3
    exact H
  · have H := H.2 hb_3
    exact H

/-! laws.markGraph -/
def u29 (P : Program) (a0_1 : Sl) (k1_1 : Int) (h : Heap) (K : Value → Heap → Prop) : Prop :=
  ∀ (b_1 : Nat) (h_1 : Heap), h.size ≤ b_1 → Fr (In []) h h_1 → Vars h_1 [(b_1, [(Sl.v a0_1)])] →
  callM P 72 #[(Sl.v a0_1), (VI k1_1)] h_1 fun rv_1 h_2 => ∃ t8_1 : Int, rv_1 = (VI t8_1) ∧ Vars h_2 [(b_1, [(Sl.v a0_1)])] ∧
  K (VI t8_1) h_2
theorem v29 (a0_1 : Sl) (k1_1 : Int) (h : Heap) (K : Value → Heap → Prop) (H : u29 Try.prog a0_1 k1_1 h K) : callM Try.prog 29 #[(Value.agg #[(Sl.v a0_1)]), (VI k1_1)] h K := by
  refine c29 (Value.agg #[(Sl.v a0_1)]) (VI k1_1) h K ?_
  unfold u29 at H
  unfold t29
  have hL : Vars h [] := .nil
  refine eop_box 24 (Value.agg #[(Sl.v a0_1)]) rfl hL (fun b_1 h_1 hb_1 hf_1 hL_1 => ?_)
  refine pop_field 0 fld24_0 b_1 0 ?_
  refine rop_loc one22 hL_1 0 rfl 0 (v := (Sl.v a0_1)) rfl ?_
  have H := H b_1 h_1 (Nat.le_trans (Fr.size (Fr.r (In []) _)) hb_1) (Fr.no' (Fr.r (In []) _) hf_1) hL_1
  refine H.mono fun rv_1 h_2 H => ?_
  obtain ⟨t8_1, rfl, hL_2, H⟩ := H
  exact H

/-! laws.heldGraph -/
def u30 (P : Program) (a0_1 : Sl) (k1_1 : Int) (h : Heap) (K : Value → Heap → Prop) : Prop :=
  ∀ (b_1 : Nat) (h_1 : Heap), h.size ≤ b_1 → Fr (In []) h h_1 → Vars h_1 [(b_1, [(Sl.v a0_1)])] →
  callM P 73 #[(Sl.v a0_1), (VI k1_1)] h_1 fun rv_1 h_2 => ∃ t8_1 : Int, rv_1 = (VI t8_1) ∧ Vars h_2 [(b_1, [(Sl.v a0_1)])] ∧
  ((decide (t8_1 < 0)) = true →
  K (VI (-1)) h_2) ∧
  ((decide (t8_1 < 0)) = false →
  K (VI t8_1) h_2)
theorem v30 (a0_1 : Sl) (k1_1 : Int) (h : Heap) (K : Value → Heap → Prop) (H : u30 Try.prog a0_1 k1_1 h K) : callM Try.prog 30 #[(Value.agg #[(Sl.v a0_1)]), (VI k1_1)] h K := by
  refine c30 (Value.agg #[(Sl.v a0_1)]) (VI k1_1) h K ?_
  unfold u30 at H
  unfold t30
  have hL : Vars h [] := .nil
  refine eop_box 24 (Value.agg #[(Sl.v a0_1)]) rfl hL (fun b_1 h_1 hb_1 hf_1 hL_1 => ?_)
  refine pop_field 0 fld24_0 b_1 0 ?_
  refine rop_loc one22 hL_1 0 rfl 0 (v := (Sl.v a0_1)) rfl ?_
  have H := H b_1 h_1 (Nat.le_trans (Fr.size (Fr.r (In []) _)) hb_1) (Fr.no' (Fr.r (In []) _) hf_1) hL_1
  refine H.mono fun rv_1 h_2 H => ?_
  obtain ⟨t8_1, rfl, hL_2, H⟩ := H
  refine pop_lss .i64 t8_1 0 ?_
  refine condM_b (fun hb_2 => ?_) (fun hb_2 => ?_)
  · have H := H.1 hb_2
    exact H
  · have H := H.2 hb_2
    exact H

/-! spec.TurnExits -/
def u31 (P : Program) (g0_1 : Sl) (p1_1 : Int) (k2_1 : Int) (h : Heap) (K : Value → Heap → Prop) : Prop :=
  ∀ (b_1 : Nat) (b_2 : Nat) (h_2 : Heap), h.size ≤ b_1 → h.size ≤ b_2 → Fr (In []) h h_2 → Vars h_2 [(b_2, [(Sl.v nilSl)]), (b_1, [(Sl.v g0_1)])] →
  callM P 64 #[(Value.agg #[(Sl.v g0_1)]), (VI p1_1)] h_2 fun rv_1 h_3 => ∃ t14_1 : Bool, rv_1 = (VB t14_1) ∧ Vars h_3 [(b_2, [(Sl.v nilSl)]), (b_1, [(Sl.v g0_1)])] ∧
  ((!t14_1) = true →
  ∀ (h_12 : Heap), Fr (In [b_2]) h_3 h_12 → Vars h_12 [(b_2, [(Sl.v nilSl)]), (b_1, [(Sl.v g0_1)])] →
  K (Value.tuple #[(Value.agg #[(Sl.v nilSl)]), (VB false)]) h_12) ∧
  ((!t14_1) = false →
  callM P 74 #[(VI k2_1), (VI 0), (VI 1000)] h_3 fun rv_2 h_4 => ∃ t18_1 : Bool, rv_2 = (VB t18_1) ∧ Vars h_4 [(b_2, [(Sl.v nilSl)]), (b_1, [(Sl.v g0_1)])] ∧
  ((!t18_1) = true →
  ∀ (h_5 : Heap), Fr (In [b_2]) h_4 h_5 → Vars h_5 [(b_2, [(Sl.v nilSl)]), (b_1, [(Sl.v g0_1)])] →
  K (Value.tuple #[(Value.agg #[(Sl.v nilSl)]), (VB false)]) h_5) ∧
  ((!t18_1) = false →
  callM P 65 #[(Value.agg #[(Sl.v g0_1)])] h_4 fun rv_3 h_6 => ∃ t23_1 : Sl, rv_3 = (Value.agg #[(Sl.v t23_1)]) ∧ Vars h_6 [(b_2, [(Sl.v nilSl)]), (b_1, [(Sl.v g0_1)])] ∧
  InB g0_1 p1_1 ∧
  ∀ (b_3 : Nat) (h_8 : Heap), h_6.size ≤ b_3 → Fr (In []) h_6 h_8 → Vars h_8 [(b_3, [(Sl.v t23_1)]), (b_2, [(Sl.v nilSl)]), (b_1, [(Sl.v g0_1)])] →
  ∃ t28_1 : Sl, hcell h_8 (Sl.at g0_1 p1_1 1) = some (Sl.v t28_1) ∧
  ∃ J_1 : Nat → Int → Heap → Prop, (∃ n0 : Nat, J_1 n0 0 h_8) ∧
  ∀ (n_1 : Nat) (t31_1 : Int) (h_9 : Heap), J_1 n_1 t31_1 h_9 → Vars h_9 [(b_3, [(Sl.v t23_1)]), (b_2, [(Sl.v nilSl)]), (b_1, [(Sl.v g0_1)])] →
  ((decide (t31_1 < (t28_1.n : Int))) = true →
  InB t23_1 p1_1 ∧
  ∃ t38_1 : Sl, hcell h_9 (Sl.at t23_1 p1_1 1) = some (Sl.v t38_1) ∧
  (t28_1.n : Int) ≠ 0 ∧
  InB t28_1 (Int.tmod (w64 (t31_1 + k2_1)) (t28_1.n : Int)) ∧
  ∃ t49_1 : Int, hcell h_9 (Sl.at t28_1 (Int.tmod (w64 (t31_1 + k2_1)) (t28_1.n : Int)) 1) = some (VI t49_1) ∧
  InB t38_1 t31_1 ∧
  Writable h_9 (Sl.at t38_1 t31_1 1) ∧ Vars (hset h_9 (Sl.at t38_1 t31_1 1) (VI t49_1)) [(b_3, [(Sl.v t23_1)]), (b_2, [(Sl.v nilSl)]), (b_1, [(Sl.v g0_1)])] ∧
  ∀ h_10 : Heap, h_10 = hset h_9 (Sl.at t38_1 t31_1 1) (VI t49_1) → Vars h_10 [(b_3, [(Sl.v t23_1)]), (b_2, [(Sl.v nilSl)]), (b_1, [(Sl.v g0_1)])] →
  ∃ m : Nat, m < n_1 ∧ J_1 m (w64 (t31_1 + 1)) h_10) ∧
  ((decide (t31_1 < (t28_1.n : Int))) = false →
  ∀ (h_11 : Heap), Fr (In [b_2]) h_9 h_11 → Vars h_11 [(b_3, [(Sl.v t23_1)]), (b_2, [(Sl.v t23_1)]), (b_1, [(Sl.v g0_1)])] →
  K (Value.tuple #[(Value.agg #[(Sl.v t23_1)]), (VB true)]) h_11)))
theorem v31 (g0_1 : Sl) (p1_1 : Int) (k2_1 : Int) (h : Heap) (K : Value → Heap → Prop) (H : u31 Try.prog g0_1 p1_1 k2_1 h K) : callM Try.prog 31 #[(Value.agg #[(Sl.v g0_1)]), (VI p1_1), (VI k2_1)] h K := by
  refine c31 (Value.agg #[(Sl.v g0_1)]) (VI p1_1) (VI k2_1) h K ?_
  unfold u31 at H
  unfold t31
  have hL : Vars h [] := .nil
  refine eop_box 24 (Value.agg #[(Sl.v g0_1)]) rfl hL (fun b_1 h_1 hb_1 hf_1 hL_1 => ?_)
  refine eop_alloc 24 zer24 rfl hL_1 (fun b_2 h_2 hb_2 hf_2 hL_2 => ?_)
  refine rop_locA agg24 hL_2 1 rfl 0 (vs := [(Sl.v g0_1)]) rfl rfl ?_
  have H := H b_1 b_2 h_2 (Nat.le_trans (Fr.size (Fr.r (In []) _)) hb_1) (Nat.le_trans (Fr.size (Fr.no' (Fr.r (In []) _) hf_1)) hb_2) (Fr.no' (Fr.no' (Fr.r (In []) _) hf_1) hf_2) hL_2
  refine H.mono fun rv_1 h_3 H => ?_
  obtain ⟨t14_1, rfl, hL_3, H⟩ := H
  refine pop_not t14_1 ?_
  refine guardM_sf (fun hb_3 => ?_) (fun hb_3 => ?_)
  · have H := H.2 hb_3
    refine guardM_y' hb_3 ?_
    refine H.mono fun rv_2 h_4 H => ?_
    obtain ⟨t18_1, rfl, hL_4, H⟩ := H
    refine guardM_y' hb_3 ?_
    refine pop_not t18_1 ?_
    refine pop_pickf' hb_3 ?_
    refine condM_b (fun hb_4 => ?_) (fun hb_4 => ?_)
    · have H := H.1 hb_4
      refine pop.mk' (v := (Value.agg #[(Sl.v nilSl)])) (fun w => by kernel_rfl) ?_
      refine uop_loc siz24 hL_4 0 rfl 0 [(Sl.v nilSl)] rfl rfl rfl (Nat.le_of_ble_eq_true rfl) (L' := [(b_2, [(Sl.v nilSl)]), (b_1, [(Sl.v g0_1)])]) rfl (fun h_5 hf_3 hL_5 => ?_)
      refine rop_locA agg24 hL_5 0 rfl 0 (vs := [(Sl.v nilSl)]) rfl rfl ?_
      have H := H  h_5  (Fr.old (Fr.r (In []) _) hf_3) hL_5
      exact H
    · have H := H.2 hb_4
      refine rop_locA agg24 hL_4 1 rfl 0 (vs := [(Sl.v g0_1)]) rfl rfl ?_
      refine H.mono fun rv_3 h_6 H => ?_
      obtain ⟨t23_1, rfl, hL_6, H⟩ := H
      refine eop_alloc 24 zer24 rfl hL_6 (fun b_3 h_7 hb_5 hf_4 hL_7 => ?_)
      refine uop_loc siz24 hL_7 0 rfl 0 [(Sl.v t23_1)] rfl rfl rfl (Nat.le_of_ble_eq_true rfl) (L' := [(b_3, [(Sl.v t23_1)]), (b_2, [(Sl.v nilSl)]), (b_1, [(Sl.v g0_1)])]) rfl (fun h_8 hf_5 hL_8 => ?_)
      refine pop_field 0 fld24_0 b_1 0 ?_
      refine rop_loc one22 hL_8 2 rfl 0 (v := (Sl.v g0_1)) rfl ?_
      obtain ⟨hi_1, H⟩ := H
      refine pop_index sli22 siz25 .i64 g0_1 p1_1 hi_1 ?_
      have H := H b_3 h_8 (Nat.le_trans (Fr.size (Fr.r (In []) _)) hb_5) (Fr.new (Fr.no' (Fr.r (In []) _) hf_4) (Nat.le_trans (Fr.size (Fr.r (In []) _)) hb_5) hf_5) hL_8
      obtain ⟨t28_1, hc_3, H⟩ := H
      refine rop_one one25 (Sl.v t28_1) hc_3 ?_
      refine pop_len t28_1 _ _ sli25 ?_
      obtain ⟨J_1, ⟨n_2, h0_1⟩, HB_1⟩ := H
      refine loop_intro (J := fun (n : Nat) (vs : List Value) (h' : Heap) => ∃ t31_1 : Int, vs = [(VI t31_1)] ∧ J_1 n t31_1 h' ∧ Vars h' [(b_3, [(Sl.v t23_1)]), (b_2, [(Sl.v nilSl)]), (b_1, [(Sl.v g0_1)])]) n_2 ⟨0, rfl, h0_1, hL_8⟩ ?_
      intro I_1 mu_1 hI_1 junk_1 tv_1 h_9 hi_2
      obtain ⟨n_1, ⟨t31_1, hv, hJ_1, hL_9⟩, hn_1⟩ := hI_1 _ _ hi_2
      cases hv
      have H := HB_1 n_1 t31_1 h_9 hJ_1 hL_9
      refine pop_lss .i64 t31_1 (t28_1.n : Int) ?_
      refine condM_b (fun hb_6 => ?_) (fun hb_6 => ?_)
      · have H := H.1 hb_6
        refine pop_field 0 fld24_0 b_3 0 ?_
        refine rop_loc one22 hL_9 0 rfl 0 (v := (Sl.v t23_1)) rfl ?_
        obtain ⟨hi_3, H⟩ := H
        refine pop_index sli22 siz25 .i64 t23_1 p1_1 hi_3 ?_
        obtain ⟨t38_1, hc_2, H⟩ := H
        refine rop_one one25 (Sl.v t38_1) hc_2 ?_
        refine pop_add .i64 t31_1 k2_1 ?_
        refine pop_len t28_1 _ _ sli25 ?_
        obtain ⟨hz_1, H⟩ := H
        refine pop_rem .i64 (w64 (t31_1 + k2_1)) (t28_1.n : Int) hz_1 ?_
        obtain ⟨hi_4, H⟩ := H
        refine pop_index sli25 siz3 .i64 t28_1 (Int.tmod (w64 (t31_1 + k2_1)) (t28_1.n : Int)) hi_4 ?_
        obtain ⟨t49_1, hc_1, H⟩ := H
        refine rop_one one3 (VI t49_1) hc_1 ?_
        obtain ⟨hi_5, H⟩ := H
        refine pop_index sli25 siz3 .i64 t38_1 t31_1 hi_5 ?_
        obtain ⟨hw_1, hL_10, H⟩ := H
        refine uop_cell (v := (VI t49_1)) siz3 hw_1 rfl (fun h_10 he_1 => ?_)
        rw [← he_1] at hL_10
        have H := H h_10 he_1 hL_10
        refine pop_add .i64 t31_1 1 ?_
        obtain ⟨m_1, hm_1, H⟩ := H
        exact hn_1 _ _ ⟨m_1, hm_1, (w64 (t31_1 + 1)), rfl, H, hL_10⟩
      · have H := H.2 hb_6
        refine rop_locA agg24 hL_9 0 rfl 0 (vs := [(Sl.v t23_1)]) rfl rfl ?_
        refine uop_loc siz24 hL_9 1 rfl 0 [(Sl.v t23_1)] rfl rfl rfl (Nat.le_of_ble_eq_true rfl) (L' := [(b_3, [(Sl.v t23_1)]), (b_2, [(Sl.v t23_1)]), (b_1, [(Sl.v g0_1)])]) rfl (fun h_11 hf_6 hL_11 => ?_)
        refine rop_locA agg24 hL_11 1 rfl 0 (vs := [(Sl.v t23_1)]) rfl rfl ?_
        have H := H  h_11  (Fr.old (Fr.r (In []) _) hf_6) hL_11
        exact H
  · have H := H.1 hb_3
    refine guardM_n' hb_3 (by decide) ?_
    refine guardM_n' hb_3 (by decide) ?_
    refine pop_pickt' hb_3 ?_
    refine condM_t ?_
    refine pop.mk' (v := (Value.agg #[(Sl.v nilSl)])) (fun w => by kernel_rfl) ?_
    refine uop_loc siz24 hL_3 0 rfl 0 [(Sl.v nilSl)] rfl rfl rfl (Nat.le_of_ble_eq_true rfl) (L' := [(b_2, [(Sl.v nilSl)]), (b_1, [(Sl.v g0_1)])]) rfl (fun h_12 hf_7 hL_12 => ?_)
    refine rop_locA agg24 hL_12 0 rfl 0 (vs := [(Sl.v nilSl)]) rfl rfl ?_
    have H := H  h_12  (Fr.old (Fr.r (In []) _) hf_7) hL_12
    exact H

/-! impl.TurnExits -/
def u32 (P : Program) (g0_1 : Sl) (p1_1 : Int) (k2_1 : Int) (h : Heap) (K : Value → Heap → Prop) : Prop :=
  ∀ (b_1 : Nat) (b_2 : Nat) (h_2 : Heap), h.size ≤ b_1 → h.size ≤ b_2 → Fr (In []) h h_2 → Vars h_2 [(b_2, [(Sl.v nilSl)]), (b_1, [(Sl.v g0_1)])] →
  eop P (Instr.buildSlice 25 1 #[(0, (VI p1_1))]) h_2 fun rv_1 h_3 => ∃ t12_1 : Sl, rv_1 = (Sl.v t12_1) ∧ Vars h_3 [(b_2, [(Sl.v nilSl)]), (b_1, [(Sl.v g0_1)])] ∧
  callM P 68 #[(Value.agg #[(Sl.v g0_1)]), (Sl.v t12_1)] h_3 fun rv_2 h_4 => ∃ t13_1 : Bool, rv_2 = (VB t13_1) ∧ Vars h_4 [(b_2, [(Sl.v nilSl)]), (b_1, [(Sl.v g0_1)])] ∧
  ((!t13_1) = true →
  ∀ (h_15 : Heap), Fr (In [b_2]) h_4 h_15 → Vars h_15 [(b_2, [(Sl.v nilSl)]), (b_1, [(Sl.v g0_1)])] →
  K (Value.tuple #[(Value.agg #[(Sl.v nilSl)]), (VB false)]) h_15) ∧
  ((!t13_1) = false →
  callM P 75 #[(VI k2_1), (VI 0), (VI 1000)] h_4 fun rv_3 h_5 => ∃ t17_1 : Bool, rv_3 = (VB t17_1) ∧ Vars h_5 [(b_2, [(Sl.v nilSl)]), (b_1, [(Sl.v g0_1)])] ∧
  ((!t17_1) = true →
  ∀ (h_6 : Heap), Fr (In [b_2]) h_5 h_6 → Vars h_6 [(b_2, [(Sl.v nilSl)]), (b_1, [(Sl.v g0_1)])] →
  K (Value.tuple #[(Value.agg #[(Sl.v nilSl)]), (VB false)]) h_6) ∧
  ((!t17_1) = false →
  callM P 69 #[(Value.agg #[(Sl.v g0_1)])] h_5 fun rv_4 h_7 => ∃ t22_1 : Sl, rv_4 = (Value.agg #[(Sl.v t22_1)]) ∧ Vars h_7 [(b_2, [(Sl.v nilSl)]), (b_1, [(Sl.v g0_1)])] ∧
  ∀ (b_3 : Nat) (h_9 : Heap), h_7.size ≤ b_3 → Fr (In []) h_7 h_9 → Vars h_9 [(b_3, [(Sl.v t22_1)]), (b_2, [(Sl.v nilSl)]), (b_1, [(Sl.v g0_1)])] →
  ∃ J_1 : Heap → Prop, (InB g0_1 p1_1 ∧
  ∃ t27_1 : Sl, hcell h_9 (Sl.at g0_1 p1_1 1) = some (Sl.v t27_1) ∧
  ((decide (0 < (t27_1.n : Int))) = true →
  (t27_1.n : Int) ≠ 0 ∧
  pop P (Instr.sliceAt 25 (Sl.v t27_1) (some (VI (Int.tmod k2_1 (t27_1.n : Int)))) none none) fun rv_5 => ∃ t40_1 : Sl, rv_5 = (Sl.v t40_1) ∧ 
  pop P (Instr.sliceAt 25 (Sl.v t27_1) none (some (VI (Int.tmod k2_1 (t27_1.n : Int)))) none) fun rv_6 => ∃ t43_1 : Sl, rv_6 = (Sl.v t43_1) ∧ 
  eop P (Instr.buildSlice 22 2 #[(0, (Sl.v t40_1)), (1, (Sl.v t43_1))]) h_9 fun rv_7 h_10 => ∃ t44_1 : Sl, rv_7 = (Sl.v t44_1) ∧ Vars h_10 [(b_3, [(Sl.v t22_1)]), (b_2, [(Sl.v nilSl)]), (b_1, [(Sl.v g0_1)])] ∧
  callM P 76 #[(Sl.v t44_1)] h_10 fun rv_8 h_11 => ∃ t45_1 : Sl, rv_8 = (Sl.v t45_1) ∧ Vars h_11 [(b_3, [(Sl.v t22_1)]), (b_2, [(Sl.v nilSl)]), (b_1, [(Sl.v g0_1)])] ∧
  InB t22_1 p1_1 ∧
  Writable h_11 (Sl.at t22_1 p1_1 1) ∧ Vars (hset h_11 (Sl.at t22_1 p1_1 1) (Sl.v t45_1)) [(b_3, [(Sl.v t22_1)]), (b_2, [(Sl.v nilSl)]), (b_1, [(Sl.v g0_1)])] ∧
  ∀ h_12 : Heap, h_12 = hset h_11 (Sl.at t22_1 p1_1 1) (Sl.v t45_1) → Vars h_12 [(b_3, [(Sl.v t22_1)]), (b_2, [(Sl.v nilSl)]), (b_1, [(Sl.v g0_1)])] →
  J_1  h_12) ∧
  ((decide (0 < (t27_1.n : Int))) = false →
  J_1  h_9)) ∧
  ∀ (h_13 : Heap), J_1  h_13 → Vars h_13 [(b_3, [(Sl.v t22_1)]), (b_2, [(Sl.v nilSl)]), (b_1, [(Sl.v g0_1)])] →
  ∀ (h_14 : Heap), Fr (In [b_2]) h_13 h_14 → Vars h_14 [(b_3, [(Sl.v t22_1)]), (b_2, [(Sl.v t22_1)]), (b_1, [(Sl.v g0_1)])] →
  K (Value.tuple #[(Value.agg #[(Sl.v t22_1)]), (VB true)]) h_14))
theorem v32 (g0_1 : Sl) (p1_1 : Int) (k2_1 : Int) (h : Heap) (K : Value → Heap → Prop) (H : u32 Try.prog g0_1 p1_1 k2_1 h K) : callM Try.prog 32 #[(Value.agg #[(Sl.v g0_1)]), (VI p1_1), (VI k2_1)] h K := by
  refine c32 (Value.agg #[(Sl.v g0_1)]) (VI p1_1) (VI k2_1) h K ?_
  unfold u32 at H
  unfold t32
  have hL : Vars h [] := .nil
  refine eop_box 24 (Value.agg #[(Sl.v g0_1)]) rfl hL (fun b_1 h_1 hb_1 hf_1 hL_1 => ?_)
  refine eop_alloc 24 zer24 rfl hL_1 (fun b_2 h_2 hb_2 hf_2 hL_2 => ?_)
  refine rop_locA agg24 hL_2 1 rfl 0 (vs := [(Sl.v g0_1)]) rfl rfl ?_
  have H := H b_1 b_2 h_2 (Nat.le_trans (Fr.size (Fr.r (In []) _)) hb_1) (Nat.le_trans (Fr.size (Fr.no' (Fr.r (In []) _) hf_1)) hb_2) (Fr.no' (Fr.no' (Fr.r (In []) _) hf_1) hf_2) hL_2
  refine H.mono fun rv_1 h_3 H => ?_
  obtain ⟨t12_1, rfl, hL_3, H⟩ := H
  refine H.mono fun rv_2 h_4 H => ?_
  obtain ⟨t13_1, rfl, hL_4, H⟩ := H
  refine pop_not t13_1 ?_
  refine guardM_sf (fun hb_3 => ?_) (fun hb_3 => ?_)
  · have H := H.2 hb_3
    refine guardM_y' hb_3 ?_
    refine H.mono fun rv_3 h_5 H => ?_
    obtain ⟨t17_1, rfl, hL_5, H⟩ := H
    refine guardM_y' hb_3 ?_
    refine pop_not t17_1 ?_
    refine pop_pickf' hb_3 ?_
    refine condM_b (fun hb_4 => ?_) (fun hb_4 => ?_)
    · have H := H.1 hb_4
      refine pop.mk' (v := (Value.agg #[(Sl.v nilSl)])) (fun w => by kernel_rfl) ?_
      refine uop_loc siz24 hL_5 0 rfl 0 [(Sl.v nilSl)] rfl rfl rfl (Nat.le_of_ble_eq_true rfl) (L' := [(b_2, [(Sl.v nilSl)]), (b_1, [(Sl.v g0_1)])]) rfl (fun h_6 hf_3 hL_6 => ?_)
      refine rop_locA agg24 hL_6 0 rfl 0 (vs := [(Sl.v nilSl)]) rfl rfl ?_
      have H := H  h_6  (Fr.old (Fr.r (In []) _) hf_3) hL_6
      exact H
    · have H := H.2 hb_4
      refine rop_locA agg24 hL_5 1 rfl 0 (vs := [(Sl.v g0_1)]) rfl rfl ?_
      refine H.mono fun rv_4 h_7 H => ?_
      obtain ⟨t22_1, rfl, hL_7, H⟩ := H
      refine eop_alloc 24 zer24 rfl hL_7 (fun b_3 h_8 hb_5 hf_4 hL_8 => ?_)
      refine uop_loc siz24 hL_8 0 rfl 0 [(Sl.v t22_1)] rfl rfl rfl (Nat.le_of_ble_eq_true rfl) (L' := [(b_3, [(Sl.v t22_1)]), (b_2, [(Sl.v nilSl)]), (b_1, [(Sl.v g0_1)])]) rfl (fun h_9 hf_5 hL_9 => ?_)
      have H := H b_3 h_9 (Nat.le_trans (Fr.size (Fr.r (In []) _)) hb_5) (Fr.new (Fr.no' (Fr.r (In []) _) hf_4) (Nat.le_trans (Fr.size (Fr.r (In []) _)) hb_5) hf_5) hL_9
      obtain ⟨J_1, H, HB_1⟩ := H
      refine ⟨fun (vs : List Value) (h' : Heap) => vs = [] ∧ J_1  h' ∧ Vars h' [(b_3, [(Sl.v t22_1)]), (b_2, [(Sl.v nilSl)]), (b_1, [(Sl.v g0_1)])], ?_, ?_⟩
      · refine pop_field 0 fld24_0 b_1 0 ?_
        refine rop_loc one22 hL_9 2 rfl 0 (v := (Sl.v g0_1)) rfl ?_
        obtain ⟨hi_1, H⟩ := H
        refine pop_index sli22 siz25 .i64 g0_1 p1_1 hi_1 ?_
        obtain ⟨t27_1, hc_1, H⟩ := H
        refine rop_one one25 (Sl.v t27_1) hc_1 ?_
        refine pop_len t27_1 _ _ sli25 ?_
        refine pop_gtr .i64 (t27_1.n : Int) 0 ?_
        refine condM_b (fun hb_6 => ?_) (fun hb_6 => ?_)
        · have H := H.1 hb_6
          refine pop_len t27_1 _ _ sli25 ?_
          obtain ⟨hz_1, H⟩ := H
          refine pop_rem .i64 k2_1 (t27_1.n : Int) hz_1 ?_
          refine pop_field 0 fld24_0 b_3 0 ?_
          refine rop_loc one22 hL_9 0 rfl 0 (v := (Sl.v t22_1)) rfl ?_
          refine H.mono fun rv_5 H => ?_
          obtain ⟨t40_1, rfl, H⟩ := H
          refine H.mono fun rv_6 H => ?_
          obtain ⟨t43_1, rfl, H⟩ := H
          refine H.mono fun rv_7 h_10 H => ?_
          obtain ⟨t44_1, rfl, hL_10, H⟩ := H
          refine ⟨?_, ?_⟩
          · exact still_loc one22 hL_10 0 rfl 0 (v := (Sl.v t22_1)) rfl
          refine H.mono fun rv_8 h_11 H => ?_
          obtain ⟨t45_1, rfl, hL_11, H⟩ := H
          refine ⟨?_, ?_⟩
          · exact still_loc one22 hL_11 0 rfl 0 (v := (Sl.v t22_1)) rfl
          obtain ⟨hi_2, H⟩ := H
          refine pop_index sli22 siz25 .i64 t22_1 p1_1 hi_2 ?_
          obtain ⟨hw_1, hL_12, H⟩ := H
          refine uop_cell (v := (Sl.v t45_1)) siz25 hw_1 rfl (fun h_12 he_1 => ?_)
          rw [← he_1] at hL_12
          have H := H h_12 he_1 hL_12
          exact ⟨rfl, H, hL_12⟩
        · have H := H.2 hb_6
          exact ⟨rfl, H, hL_9⟩
      intro junk_1  h_13
      rintro ⟨hv, hJ_1, hL_13⟩
      have H := HB_1  h_13 hJ_1 hL_13
      refine rop_locA agg24 hL_13 0 rfl 0 (vs := [(Sl.v t22_1)]) rfl rfl ?_
      refine uop_loc siz24 hL_13 1 rfl 0 [(Sl.v t22_1)] rfl rfl rfl (Nat.le_of_ble_eq_true rfl) (L' := [(b_3, [(Sl.v t22_1)]), (b_2, [(Sl.v t22_1)]), (b_1, [(Sl.v g0_1)])]) rfl (fun h_14 hf_6 hL_14 => ?_)
      refine rop_locA agg24 hL_14 1 rfl 0 (vs := [(Sl.v t22_1)]) rfl rfl ?_
      have H := H  h_14  (Fr.old (Fr.r (In []) _) hf_6) hL_14
      exact H
  · have H := H.1 hb_3
    refine guardM_n' hb_3 (by decide) ?_
    refine guardM_n' hb_3 (by decide) ?_
    refine pop_pickt' hb_3 ?_
    refine condM_t ?_
    refine pop.mk' (v := (Value.agg #[(Sl.v nilSl)])) (fun w => by kernel_rfl) ?_
    refine uop_loc siz24 hL_4 0 rfl 0 [(Sl.v nilSl)] rfl rfl rfl (Nat.le_of_ble_eq_true rfl) (L' := [(b_2, [(Sl.v nilSl)]), (b_1, [(Sl.v g0_1)])]) rfl (fun h_15 hf_7 hL_15 => ?_)
    refine rop_locA agg24 hL_15 0 rfl 0 (vs := [(Sl.v nilSl)]) rfl rfl ?_
    have H := H  h_15  (Fr.old (Fr.r (In []) _) hf_7) hL_15
    exact H

/-! laws.eqIntS -/
def u53 (P : Program) (a0_1 : Sl) (b1_1 : Sl) (h : Heap) (K : Value → Heap → Prop) : Prop :=
  ((!decide ((a0_1.n : Int) = (b1_1.n : Int))) = true →
  K (VB false) h) ∧
  ((!decide ((a0_1.n : Int) = (b1_1.n : Int))) = false →
  ∃ J_1 : Nat → Int → Heap → Prop, (∃ n0 : Nat, J_1 n0 0 h) ∧
  ∀ (n_1 : Nat) (i5_1 : Int) (h_1 : Heap), J_1 n_1 i5_1 h_1 → Vars h_1 [] →
  ((decide (i5_1 < (a0_1.n : Int))) = true →
  InB a0_1 i5_1 ∧
  ∃ t20_1 : Int, hcell h_1 (Sl.at a0_1 i5_1 1) = some (VI t20_1) ∧
  InB b1_1 i5_1 ∧
  ∃ t24_1 : Int, hcell h_1 (Sl.at b1_1 i5_1 1) = some (VI t24_1) ∧
  ((!decide (t20_1 = t24_1)) = true →
  K (VB false) h_1) ∧
  ((!decide (t20_1 = t24_1)) = false →
  ∃ m : Nat, m < n_1 ∧ J_1 m (w64 (i5_1 + 1)) h_1)) ∧
  ((decide (i5_1 < (a0_1.n : Int))) = false →
  K (VB true) h_1))
theorem v53 (a0_1 : Sl) (b1_1 : Sl) (h : Heap) (K : Value → Heap → Prop) (H : u53 Try.prog a0_1 b1_1 h K) : callM Try.prog 53 #[(Sl.v a0_1), (Sl.v b1_1)] h K := by
  refine c53 (Sl.v a0_1) (Sl.v b1_1) h K ?_
  unfold u53 at H
  unfold t53
  have hL : Vars h [] := .nil
  refine pop_len a0_1 _ _ sli25 ?_
  refine pop_len b1_1 _ _ sli25 ?_
  refine pop_ine .i64 _ _ (a0_1.n : Int) (b1_1.n : Int) ?_
  refine condM_b (fun hb_1 => ?_) (fun hb_1 => ?_)
  · have H := H.1 hb_1
    exact H
  · have H := H.2 hb_1
    obtain ⟨J_1, ⟨n_2, h0_1⟩, HB_1⟩ := H
    refine loop_intro (J := fun (n : Nat) (vs : List Value) (h' : Heap) => ∃ i5_1 : Int, vs = [(VI i5_1)] ∧ J_1 n i5_1 h' ∧ Vars h' []) n_2 ⟨0, rfl, h0_1, hL⟩ ?_
    intro I_1 mu_1 hI_1 junk_1 tv_1 h_1 hi_1
    obtain ⟨n_1, ⟨i5_1, hv, hJ_1, hL_1⟩, hn_1⟩ := hI_1 _ _ hi_1
    cases hv
    have H := HB_1 n_1 i5_1 h_1 hJ_1 hL_1
    refine pop_len a0_1 _ _ sli25 ?_
    refine pop_lss .i64 i5_1 (a0_1.n : Int) ?_
    refine condM_b (fun hb_2 => ?_) (fun hb_2 => ?_)
    · have H := H.1 hb_2
      obtain ⟨hi_2, H⟩ := H
      refine pop_index sli25 siz3 .i64 a0_1 i5_1 hi_2 ?_
      obtain ⟨t20_1, hc_2, H⟩ := H
      refine rop_one one3 (VI t20_1) hc_2 ?_
      obtain ⟨hi_3, H⟩ := H
      refine pop_index sli25 siz3 .i64 b1_1 i5_1 hi_3 ?_
      obtain ⟨t24_1, hc_1, H⟩ := H
      refine rop_one one3 (VI t24_1) hc_1 ?_
      refine pop_ine .i64 _ _ t20_1 t24_1 ?_
      refine condM_b (fun hb_3 => ?_) (fun hb_3 => ?_)
      · have H := H.1 hb_3
        exact H
      · have H := H.2 hb_3
        refine pop_add .i64 i5_1 1 ?_
        obtain ⟨m_1, hm_1, H⟩ := H
        exact hn_1 _ _ ⟨m_1, hm_1, (w64 (i5_1 + 1)), rfl, H, hL_1⟩
    · have H := H.2 hb_2
      exact H

/-! laws.markIntS -/
def u54 (P : Program) (a0_1 : Sl) (k1_1 : Int) (h : Heap) (K : Value → Heap → Prop) : Prop :=
  ∃ J_1 : Nat → Int → Int → Heap → Prop, (∃ n0 : Nat, J_1 n0 k1_1 0 h) ∧
  ∀ (n_1 : Nat) (k1_2 : Int) (i5_1 : Int) (h_1 : Heap), J_1 n_1 k1_2 i5_1 h_1 → Vars h_1 [] →
  ((decide (i5_1 < (a0_1.n : Int))) = true →
  InB a0_1 i5_1 ∧
  Writable h_1 (Sl.at a0_1 i5_1 1) ∧ Vars (hset h_1 (Sl.at a0_1 i5_1 1) (VI k1_2)) [] ∧
  ∀ h_2 : Heap, h_2 = hset h_1 (Sl.at a0_1 i5_1 1) (VI k1_2) → Vars h_2 [] →
  ∃ m : Nat, m < n_1 ∧ J_1 m (w64 (k1_2 + 1)) (w64 (i5_1 + 1)) h_2) ∧
  ((decide (i5_1 < (a0_1.n : Int))) = false →
  K (VI k1_2) h_1)
theorem v54 (a0_1 : Sl) (k1_1 : Int) (h : Heap) (K : Value → Heap → Prop) (H : u54 Try.prog a0_1 k1_1 h K) : callM Try.prog 54 #[(Sl.v a0_1), (VI k1_1)] h K := by
  refine c54 (Sl.v a0_1) (VI k1_1) h K ?_
  unfold u54 at H
  unfold t54
  have hL : Vars h [] := .nil
  obtain ⟨J_1, ⟨n_2, h0_1⟩, HB_1⟩ := H
  refine loop_intro (J := fun (n : Nat) (vs : List Value) (h' : Heap) => ∃ k1_2 : Int, ∃ i5_1 : Int, vs = [(VI k1_2), (VI i5_1)] ∧ J_1 n k1_2 i5_1 h' ∧ Vars h' []) n_2 ⟨k1_1, 0, rfl, h0_1, hL⟩ ?_
  intro I_1 mu_1 hI_1 junk_1 tv_1 tv_2 h_1 hi_1
  obtain ⟨n_1, ⟨k1_2, i5_1, hv, hJ_1, hL_1⟩, hn_1⟩ := hI_1 _ _ hi_1
  cases hv
  have H := HB_1 n_1 k1_2 i5_1 h_1 hJ_1 hL_1
  refine pop_len a0_1 _ _ sli25 ?_
  refine pop_lss .i64 i5_1 (a0_1.n : Int) ?_
  refine condM_b (fun hb_1 => ?_) (fun hb_1 => ?_)
  · have H := H.1 hb_1
    obtain ⟨hi_2, H⟩ := H
    refine pop_index sli25 siz3 .i64 a0_1 i5_1 hi_2 ?_
    obtain ⟨hw_1, hL_2, H⟩ := H
    refine uop_cell (v := (VI k1_2)) siz3 hw_1 rfl (fun h_2 he_1 => ?_)
    rw [← he_1] at hL_2
    have H := H h_2 he_1 hL_2
    refine pop_add .i64 k1_2 1 ?_
    refine pop_add .i64 i5_1 1 ?_
    obtain ⟨m_1, hm_1, H⟩ := H
    exact hn_1 _ _ ⟨m_1, hm_1, (w64 (k1_2 + 1)), (w64 (i5_1 + 1)), rfl, H, hL_2⟩
  · have H := H.2 hb_1
    exact H

/-! laws.heldIntS -/
def u55 (P : Program) (a0_1 : Sl) (k1_1 : Int) (h : Heap) (K : Value → Heap → Prop) : Prop :=
  ∃ J_1 : Nat → Int → Int → Heap → Prop, (∃ n0 : Nat, J_1 n0 k1_1 0 h) ∧
  ∀ (n_1 : Nat) (k1_2 : Int) (i5_1 : Int) (h_1 : Heap), J_1 n_1 k1_2 i5_1 h_1 → Vars h_1 [] →
  ((decide (i5_1 < (a0_1.n : Int))) = true →
  InB a0_1 i5_1 ∧
  ∃ t15_1 : Int, hcell h_1 (Sl.at a0_1 i5_1 1) = some (VI t15_1) ∧
  ((!decide (t15_1 = k1_2)) = true →
  K (VI (-1)) h_1) ∧
  ((!decide (t15_1 = k1_2)) = false →
  ∃ m : Nat, m < n_1 ∧ J_1 m (w64 (k1_2 + 1)) (w64 (i5_1 + 1)) h_1)) ∧
  ((decide (i5_1 < (a0_1.n : Int))) = false →
  K (VI k1_2) h_1)
theorem v55 (a0_1 : Sl) (k1_1 : Int) (h : Heap) (K : Value → Heap → Prop) (H : u55 Try.prog a0_1 k1_1 h K) : callM Try.prog 55 #[(Sl.v a0_1), (VI k1_1)] h K := by
  refine c55 (Sl.v a0_1) (VI k1_1) h K ?_
  unfold u55 at H
  unfold t55
  have hL : Vars h [] := .nil
  obtain ⟨J_1, ⟨n_2, h0_1⟩, HB_1⟩ := H
  refine loop_intro (J := fun (n : Nat) (vs : List Value) (h' : Heap) => ∃ k1_2 : Int, ∃ i5_1 : Int, vs = [(VI k1_2), (VI i5_1)] ∧ J_1 n k1_2 i5_1 h' ∧ Vars h' []) n_2 ⟨k1_1, 0, rfl, h0_1, hL⟩ ?_
  intro I_1 mu_1 hI_1 junk_1 tv_1 tv_2 h_1 hi_1
  obtain ⟨n_1, ⟨k1_2, i5_1, hv, hJ_1, hL_1⟩, hn_1⟩ := hI_1 _ _ hi_1
  cases hv
  have H := HB_1 n_1 k1_2 i5_1 h_1 hJ_1 hL_1
  refine pop_len a0_1 _ _ sli25 ?_
  refine pop_lss .i64 i5_1 (a0_1.n : Int) ?_
  refine condM_b (fun hb_1 => ?_) (fun hb_1 => ?_)
  · have H := H.1 hb_1
    obtain ⟨hi_2, H⟩ := H
    refine pop_index sli25 siz3 .i64 a0_1 i5_1 hi_2 ?_
    obtain ⟨t15_1, hc_1, H⟩ := H
    refine rop_one one3 (VI t15_1) hc_1 ?_
    refine pop_ine .i64 _ _ t15_1 k1_2 ?_
    refine condM_b (fun hb_2 => ?_) (fun hb_2 => ?_)
    · have H := H.1 hb_2
      exact H
    · have H := H.2 hb_2
      refine pop_add .i64 k1_2 1 ?_
      refine pop_add .i64 i5_1 1 ?_
      obtain ⟨m_1, hm_1, H⟩ := H
      exact hn_1 _ _ ⟨m_1, hm_1, (w64 (k1_2 + 1)), (w64 (i5_1 + 1)), rfl, H, hL_1⟩
  · have H := H.2 hb_1
    exact H

/-! laws.szIntSS -/
def u63 (P : Program) (a0_1 : Sl) (left1_1 : Int) (h : Heap) (K : Value → Heap → Prop) : Prop :=
  ((decide ((w64 (left1_1 - (a0_1.n : Int))) < 0)) = true →
  K (VI (-1)) h) ∧
  ((decide ((w64 (left1_1 - (a0_1.n : Int))) < 0)) = false →
  ∃ J_1 : Nat → Int → Int → Heap → Prop, (∃ n0 : Nat, J_1 n0 (w64 (left1_1 - (a0_1.n : Int))) 0 h) ∧
  ∀ (n_1 : Nat) (left1_2 : Int) (i5_1 : Int) (h_1 : Heap), J_1 n_1 left1_2 i5_1 h_1 → Vars h_1 [] →
  ((decide (i5_1 < (a0_1.n : Int))) = true →
  InB a0_1 i5_1 ∧
  ∃ t21_1 : Sl, hcell h_1 (Sl.at a0_1 i5_1 1) = some (Sl.v t21_1) ∧
  callM P 77 #[(Sl.v t21_1), (VI left1_2)] h_1 fun rv_1 h_2 => ∃ t23_1 : Int, rv_1 = (VI t23_1) ∧ Vars h_2 [] ∧
  ((decide (t23_1 < 0)) = true →
  K (VI (-1)) h_2) ∧
  ((decide (t23_1 < 0)) = false →
  ∃ m : Nat, m < n_1 ∧ J_1 m t23_1 (w64 (i5_1 + 1)) h_2)) ∧
  ((decide (i5_1 < (a0_1.n : Int))) = false →
  K (VI left1_2) h_1))
theorem v63 (a0_1 : Sl) (left1_1 : Int) (h : Heap) (K : Value → Heap → Prop) (H : u63 Try.prog a0_1 left1_1 h K) : callM Try.prog 63 #[(Sl.v a0_1), (VI left1_1)] h K := by
  refine c63 (Sl.v a0_1) (VI left1_1) h K ?_
  unfold u63 at H
  unfold t63
  have hL : Vars h [] := .nil
  refine pop_len a0_1 _ _ sli22 ?_
  refine pop_sub .i64 left1_1 (a0_1.n : Int) ?_
  refine pop_lss .i64 (w64 (left1_1 - (a0_1.n : Int))) 0 ?_
  refine condM_b (fun hb_1 => ?_) (fun hb_1 => ?_)
  · have H := H.1 hb_1
    exact H
  · have H := H.2 hb_1
    obtain ⟨J_1, ⟨n_2, h0_1⟩, HB_1⟩ := H
    refine loop_intro (J := fun (n : Nat) (vs : List Value) (h' : Heap) => ∃ left1_2 : Int, ∃ i5_1 : Int, vs = [(VI left1_2), (VI i5_1)] ∧ J_1 n left1_2 i5_1 h' ∧ Vars h' []) n_2 ⟨(w64 (left1_1 - (a0_1.n : Int))), 0, rfl, h0_1, hL⟩ ?_
    intro I_1 mu_1 hI_1 junk_1 tv_1 tv_2 h_1 hi_1
    obtain ⟨n_1, ⟨left1_2, i5_1, hv, hJ_1, hL_1⟩, hn_1⟩ := hI_1 _ _ hi_1
    cases hv
    have H := HB_1 n_1 left1_2 i5_1 h_1 hJ_1 hL_1
    refine pop_len a0_1 _ _ sli22 ?_
    refine pop_lss .i64 i5_1 (a0_1.n : Int) ?_
    refine condM_b (fun hb_2 => ?_) (fun hb_2 => ?_)
    · have H := H.1 hb_2
      obtain ⟨hi_2, H⟩ := H
      refine pop_index sli22 siz25 .i64 a0_1 i5_1 hi_2 ?_
      obtain ⟨t21_1, hc_1, H⟩ := H
      refine rop_one one25 (Sl.v t21_1) hc_1 ?_
      refine H.mono fun rv_1 h_2 H => ?_
      obtain ⟨t23_1, rfl, hL_2, H⟩ := H
      refine pop_lss .i64 t23_1 0 ?_
      refine condM_b (fun hb_3 => ?_) (fun hb_3 => ?_)
      · have H := H.1 hb_3
        exact H
      · have H := H.2 hb_3
        refine pop_add .i64 i5_1 1 ?_
        obtain ⟨m_1, hm_1, H⟩ := H
        exact hn_1 _ _ ⟨m_1, hm_1, t23_1, (w64 (i5_1 + 1)), rfl, H, hL_2⟩
    · have H := H.2 hb_2
      exact H

/-! spec.grPlace -/
def u64 (P : Program) (g0_1 : Sl) (p1_1 : Int) (h : Heap) (K : Value → Heap → Prop) : Prop :=
  ∀ (b_1 : Nat) (h_1 : Heap), h.size ≤ b_1 → Fr (In []) h h_1 → Vars h_1 [(b_1, [(Sl.v g0_1)])] →
  callM P 97 #[(Value.agg #[(Sl.v g0_1)])] h_1 fun rv_1 h_2 => ∃ t6_1 : Bool, rv_1 = (VB t6_1) ∧ Vars h_2 [(b_1, [(Sl.v g0_1)])] ∧
  (t6_1 = true →
  callM P 74 #[(VI p1_1), (VI 0), (VI (w64 ((g0_1.n : Int) - 1)))] h_2 fun rv_2 h_3 => ∃ t13_1 : Bool, rv_2 = (VB t13_1) ∧ Vars h_3 [(b_1, [(Sl.v g0_1)])] ∧
  K (VB t13_1) h_3) ∧
  (t6_1 = false →
  K (VB false) h_2)
theorem v64 (g0_1 : Sl) (p1_1 : Int) (h : Heap) (K : Value → Heap → Prop) (H : u64 Try.prog g0_1 p1_1 h K) : callM Try.prog 64 #[(Value.agg #[(Sl.v g0_1)]), (VI p1_1)] h K := by
  refine c64 (Value.agg #[(Sl.v g0_1)]) (VI p1_1) h K ?_
  unfold u64 at H
  unfold t64
  have hL : Vars h [] := .nil
  refine eop_box 24 (Value.agg #[(Sl.v g0_1)]) rfl hL (fun b_1 h_1 hb_1 hf_1 hL_1 => ?_)
  refine rop_locA agg24 hL_1 0 rfl 0 (vs := [(Sl.v g0_1)]) rfl rfl ?_
  have H := H b_1 h_1 (Nat.le_trans (Fr.size (Fr.r (In []) _)) hb_1) (Fr.no' (Fr.r (In []) _) hf_1) hL_1
  refine H.mono fun rv_1 h_2 H => ?_
  obtain ⟨t6_1, rfl, hL_2, H⟩ := H
  refine guardM_st (fun hb_2 => ?_) (fun hb_2 => ?_)
  · have H := H.1 hb_2
    refine guardM_y' hb_2 ?_
    refine pop_field 0 fld24_0 b_1 0 ?_
    refine guardM_y' hb_2 ?_
    refine rop_loc one22 hL_2 0 rfl 0 (v := (Sl.v g0_1)) rfl ?_
    refine guardM_y' hb_2 ?_
    refine pop_len g0_1 _ _ sli22 ?_
    refine guardM_y' hb_2 ?_
    refine pop_sub .i64 (g0_1.n : Int) 1 ?_
    refine guardM_y' hb_2 ?_
    refine H.mono fun rv_2 h_3 H => ?_
    obtain ⟨t13_1, rfl, hL_3, H⟩ := H
    refine pop_pickt' hb_2 ?_
    exact H
  · have H := H.2 hb_2
    refine guardM_n' hb_2 (by decide) ?_
    refine guardM_n' hb_2 (by decide) ?_
    refine guardM_n' hb_2 (by decide) ?_
    refine guardM_n' hb_2 (by decide) ?_
    refine guardM_n' hb_2 (by decide) ?_
    refine pop_pickf' hb_2 ?_
    exact H

/-! spec.grCopy -/
def u65 (P : Program) (g0_1 : Sl) (h : Heap) (K : Value → Heap → Prop) : Prop :=
  ∀ (b_1 : Nat) (b_2 : Nat) (b_3 : Nat) (h_4 : Heap), h.size ≤ b_1 → h.size ≤ b_2 → h.size ≤ b_3 → Fr (In []) h h_4 → Vars h_4 [(b_3, [(Sl.v nilSl)]), (b_2, [(Sl.v nilSl)]), (b_1, [(Sl.v g0_1)])] →
  ∃ J_1 : Nat → Int → Sl → Heap → Prop, (∃ n0 : Nat, J_1 n0 0 nilSl h_4) ∧
  ∀ (n_1 : Nat) (t10_1 : Int) (x_1 : Sl) (h_5 : Heap), J_1 n_1 t10_1 x_1 h_5 → Vars h_5 [(b_3, [(Sl.v x_1)]), (b_2, [(Sl.v nilSl)]), (b_1, [(Sl.v g0_1)])] →
  ((decide (t10_1 < (g0_1.n : Int))) = true →
  InB g0_1 t10_1 ∧
  ∃ t13_1 : Sl, hcell h_5 (Sl.at g0_1 t10_1 1) = some (Sl.v t13_1) ∧
  callM P 88 #[(Sl.v t13_1)] h_5 fun rv_1 h_6 => ∃ t17_1 : Sl, rv_1 = (Sl.v t17_1) ∧ Vars h_6 [(b_3, [(Sl.v x_1)]), (b_2, [(Sl.v nilSl)]), (b_1, [(Sl.v g0_1)])] ∧
  eop P (Instr.buildSlice 22 1 #[(0, (Sl.v t17_1))]) h_6 fun rv_2 h_7 => ∃ t18_1 : Sl, rv_2 = (Sl.v t18_1) ∧ Vars h_7 [(b_3, [(Sl.v x_1)]), (b_2, [(Sl.v nilSl)]), (b_1, [(Sl.v g0_1)])] ∧
  eop P (appS 22 22 22 (Sl.v x_1) (Sl.v t18_1)) h_7 fun rv_3 h_8 => ∃ t19_1 : Sl, rv_3 = (Sl.v t19_1) ∧ Vars h_8 [(b_3, [(Sl.v x_1)]), (b_2, [(Sl.v nilSl)]), (b_1, [(Sl.v g0_1)])] ∧
  ∀ (h_9 : Heap), Fr (In [b_3]) h_8 h_9 → Vars h_9 [(b_3, [(Sl.v t19_1)]), (b_2, [(Sl.v nilSl)]), (b_1, [(Sl.v g0_1)])] →
  ∃ m : Nat, m < n_1 ∧ J_1 m (w64 (t10_1 + 1)) t19_1 h_9) ∧
  ((decide (t10_1 < (g0_1.n : Int))) = false →
  ∀ (h_10 : Heap), Fr (In [b_2]) h_5 h_10 → Vars h_10 [(b_3, [(Sl.v x_1)]), (b_2, [(Sl.v x_1)]), (b_1, [(Sl.v g0_1)])] →
  K (Value.agg #[(Sl.v x_1)]) h_10)
theorem v65 (g0_1 : Sl) (h : Heap) (K : Value → Heap → Prop) (H : u65 Try.prog g0_1 h K) : callM Try.prog 65 #[(Value.agg #[(Sl.v g0_1)])] h K := by
  refine c65 (Value.agg #[(Sl.v g0_1)]) h K ?_
  unfold u65 at H
  unfold t65
  have hL : Vars h [] := .nil
  refine eop_box 24 (Value.agg #[(Sl.v g0_1)]) rfl hL (fun b_1 h_1 hb_1 hf_1 hL_1 => ?_)
  refine eop_alloc 24 zer24 rfl hL_1 (fun b_2 h_2 hb_2 hf_2 hL_2 => ?_)
  refine pop.mk' (v := (Value.agg #[(Sl.v nilSl)])) (fun w => by kernel_rfl) ?_
  refine eop_alloc 24 zer24 rfl hL_2 (fun b_3 h_3 hb_3 hf_3 hL_3 => ?_)
  refine uop_loc siz24 hL_3 0 rfl 0 [(Sl.v nilSl)] rfl rfl rfl (Nat.le_of_ble_eq_true rfl) (L' := [(b_3, [(Sl.v nilSl)]), (b_2, [(Sl.v nilSl)]), (b_1, [(Sl.v g0_1)])]) rfl (fun h_4 hf_4 hL_4 => ?_)
  refine pop_field 0 fld24_0 b_1 0 ?_
  refine rop_loc one22 hL_4 2 rfl 0 (v := (Sl.v g0_1)) rfl ?_
  refine pop_len g0_1 _ _ sli22 ?_
  have H := H b_1 b_2 b_3 h_4 (Nat.le_trans (Fr.size (Fr.r (In []) _)) hb_1) (Nat.le_trans (Fr.size (Fr.no' (Fr.r (In []) _) hf_1)) hb_2) (Nat.le_trans (Fr.size (Fr.no' (Fr.no' (Fr.r (In []) _) hf_1) hf_2)) hb_3) (Fr.new (Fr.no' (Fr.no' (Fr.no' (Fr.r (In []) _) hf_1) hf_2) hf_3) (Nat.le_trans (Fr.size (Fr.no' (Fr.no' (Fr.r (In []) _) hf_1) hf_2)) hb_3) hf_4) hL_4
  obtain ⟨J_1, ⟨n_2, h0_1⟩, HB_1⟩ := H
  refine loop_intro (J := fun (n : Nat) (vs : List Value) (h' : Heap) => ∃ t10_1 : Int, ∃ x_1 : Sl, vs = [(VI t10_1)] ∧ J_1 n t10_1 x_1 h' ∧ Vars h' [(b_3, [(Sl.v x_1)]), (b_2, [(Sl.v nilSl)]), (b_1, [(Sl.v g0_1)])]) n_2 ⟨0, nilSl, rfl, h0_1, hL_4⟩ ?_
  intro I_1 mu_1 hI_1 junk_1 tv_1 h_5 hi_1
  obtain ⟨n_1, ⟨t10_1, x_1, hv, hJ_1, hL_5⟩, hn_1⟩ := hI_1 _ _ hi_1
  cases hv
  have H := HB_1 n_1 t10_1 x_1 h_5 hJ_1 hL_5
  refine pop_lss .i64 t10_1 (g0_1.n : Int) ?_
  refine condM_b (fun hb_4 => ?_) (fun hb_4 => ?_)
  · have H := H.1 hb_4
    obtain ⟨hi_2, H⟩ := H
    refine pop_index sli22 siz25 .i64 g0_1 t10_1 hi_2 ?_
    obtain ⟨t13_1, hc_1, H⟩ := H
    refine rop_one one25 (Sl.v t13_1) hc_1 ?_
    refine pop_field 0 fld24_0 b_3 0 ?_
    refine rop_loc one22 hL_5 0 rfl 0 (v := (Sl.v x_1)) rfl ?_
    refine H.mono fun rv_1 h_6 H => ?_
    obtain ⟨t17_1, rfl, hL_6, H⟩ := H
    refine ⟨?_, ?_⟩
    · exact still_loc one22 hL_6 0 rfl 0 (v := (Sl.v x_1)) rfl
    refine H.mono fun rv_2 h_7 H => ?_
    obtain ⟨t18_1, rfl, hL_7, H⟩ := H
    refine ⟨?_, ?_⟩
    · exact still_loc one22 hL_7 0 rfl 0 (v := (Sl.v x_1)) rfl
    refine H.mono fun rv_3 h_8 H => ?_
    obtain ⟨t19_1, rfl, hL_8, H⟩ := H
    refine pop_field 0 fld24_0 b_3 0 ?_
    refine uop_loc siz22 hL_8 0 rfl 0 [(Sl.v t19_1)] rfl rfl rfl (Nat.le_of_ble_eq_true rfl) (L' := [(b_3, [(Sl.v t19_1)]), (b_2, [(Sl.v nilSl)]), (b_1, [(Sl.v g0_1)])]) rfl (fun h_9 hf_5 hL_9 => ?_)
    refine pop_add .i64 t10_1 1 ?_
    have H := H  h_9  (Fr.old (Fr.r (In []) _) hf_5) hL_9
    obtain ⟨m_1, hm_1, H⟩ := H
    exact hn_1 _ _ ⟨m_1, hm_1, (w64 (t10_1 + 1)), t19_1, rfl, H, hL_9⟩
  · have H := H.2 hb_4
    refine rop_locA agg24 hL_5 0 rfl 0 (vs := [(Sl.v x_1)]) rfl rfl ?_
    refine uop_loc siz24 hL_5 1 rfl 0 [(Sl.v x_1)] rfl rfl rfl (Nat.le_of_ble_eq_true rfl) (L' := [(b_3, [(Sl.v x_1)]), (b_2, [(Sl.v x_1)]), (b_1, [(Sl.v g0_1)])]) rfl (fun h_10 hf_6 hL_10 => ?_)
    refine rop_locA agg24 hL_10 1 rfl 0 (vs := [(Sl.v x_1)]) rfl rfl ?_
    have H := H  h_10  (Fr.old (Fr.r (In []) _) hf_6) hL_10
    exact H

/-! laws.toIntSS -/
def u67 (P : Program) (a0_1 : Sl) (h : Heap) (K : Value → Heap → Prop) : Prop :=
  eop P (Instr.makeSlice 22 (VI (a0_1.n : Int)) (VI (a0_1.n : Int))) h fun rv_1 h_1 => ∃ t7_1 : Sl, rv_1 = (Sl.v t7_1) ∧ Vars h_1 [] ∧
  ∃ J_1 : Nat → Int → Heap → Prop, (∃ n0 : Nat, J_1 n0 0 h_1) ∧
  ∀ (n_1 : Nat) (i4_1 : Int) (h_2 : Heap), J_1 n_1 i4_1 h_2 → Vars h_2 [] →
  ((decide (i4_1 < (a0_1.n : Int))) = true →
  InB a0_1 i4_1 ∧
  ∃ t19_1 : Sl, hcell h_2 (Sl.at a0_1 i4_1 1) = some (Sl.v t19_1) ∧
  callM P 80 #[(Sl.v t19_1)] h_2 fun rv_2 h_3 => ∃ t20_1 : Sl, rv_2 = (Sl.v t20_1) ∧ Vars h_3 [] ∧
  InB t7_1 i4_1 ∧
  Writable h_3 (Sl.at t7_1 i4_1 1) ∧ Vars (hset h_3 (Sl.at t7_1 i4_1 1) (Sl.v t20_1)) [] ∧
  ∀ h_4 : Heap, h_4 = hset h_3 (Sl.at t7_1 i4_1 1) (Sl.v t20_1) → Vars h_4 [] →
  ∃ m : Nat, m < n_1 ∧ J_1 m (w64 (i4_1 + 1)) h_4) ∧
  ((decide (i4_1 < (a0_1.n : Int))) = false →
  K (Sl.v t7_1) h_2)
theorem v67 (a0_1 : Sl) (h : Heap) (K : Value → Heap → Prop) (H : u67 Try.prog a0_1 h K) : callM Try.prog 67 #[(Sl.v a0_1)] h K := by
  refine c67 (Sl.v a0_1) h K ?_
  unfold u67 at H
  unfold t67
  have hL : Vars h [] := .nil
  refine pop_len a0_1 _ _ sli22 ?_
  refine H.mono fun rv_1 h_1 H => ?_
  obtain ⟨t7_1, rfl, hL_1, H⟩ := H
  obtain ⟨J_1, ⟨n_2, h0_1⟩, HB_1⟩ := H
  refine loop_intro (J := fun (n : Nat) (vs : List Value) (h' : Heap) => ∃ i4_1 : Int, vs = [(VI i4_1)] ∧ J_1 n i4_1 h' ∧ Vars h' []) n_2 ⟨0, rfl, h0_1, hL_1⟩ ?_
  intro I_1 mu_1 hI_1 junk_1 tv_1 h_2 hi_1
  obtain ⟨n_1, ⟨i4_1, hv, hJ_1, hL_2⟩, hn_1⟩ := hI_1 _ _ hi_1
  cases hv
  have H := HB_1 n_1 i4_1 h_2 hJ_1 hL_2
  refine pop_len a0_1 _ _ sli22 ?_
  refine pop_lss .i64 i4_1 (a0_1.n : Int) ?_
  refine condM_b (fun hb_1 => ?_) (fun hb_1 => ?_)
  · have H := H.1 hb_1
    obtain ⟨hi_2, H⟩ := H
    refine pop_index sli22 siz25 .i64 a0_1 i4_1 hi_2 ?_
    obtain ⟨t19_1, hc_1, H⟩ := H
    refine rop_one one25 (Sl.v t19_1) hc_1 ?_
    refine H.mono fun rv_2 h_3 H => ?_
    obtain ⟨t20_1, rfl, hL_3, H⟩ := H
    obtain ⟨hi_3, H⟩ := H
    refine pop_index sli22 siz25 .i64 t7_1 i4_1 hi_3 ?_
    obtain ⟨hw_1, hL_4, H⟩ := H
    refine uop_cell (v := (Sl.v t20_1)) siz25 hw_1 rfl (fun h_4 he_1 => ?_)
    rw [← he_1] at hL_4
    have H := H h_4 he_1 hL_4
    refine pop_add .i64 i4_1 1 ?_
    obtain ⟨m_1, hm_1, H⟩ := H
    exact hn_1 _ _ ⟨m_1, hm_1, (w64 (i4_1 + 1)), rfl, H, hL_4⟩
  · have H := H.2 hb_1
    exact H

/-! impl.has -/
def u68 (P : Program) (g0_1 : Sl) (places1_1 : Sl) (h : Heap) (K : Value → Heap → Prop) : Prop :=
  ∀ (b_1 : Nat) (h_1 : Heap), h.size ≤ b_1 → Fr (In []) h h_1 → Vars h_1 [(b_1, [(Sl.v g0_1)])] →
  callM P 98 #[(Value.agg #[(Sl.v g0_1)])] h_1 fun rv_1 h_2 => ∃ t6_1 : Bool, rv_1 = (VB t6_1) ∧ Vars h_2 [(b_1, [(Sl.v g0_1)])] ∧
  (t6_1 = true →
  callM P 99 #[(Sl.v places1_1), (Value.func (Fn.func 100) #[] #[(VP b_1 0)])] h_2 fun rv_2 h_3 => ∃ x_1 : Sl, ∃ t10_1 : Bool, rv_2 = (VB t10_1) ∧ Vars h_3 [(b_1, [(Sl.v x_1)])] ∧
  K (VB (!t10_1)) h_3) ∧
  (t6_1 = false →
  K (VB false) h_2)
theorem v68 (g0_1 : Sl) (places1_1 : Sl) (h : Heap) (K : Value → Heap → Prop) (H : u68 Try.prog g0_1 places1_1 h K) : callM Try.prog 68 #[(Value.agg #[(Sl.v g0_1)]), (Sl.v places1_1)] h K := by
  refine c68 (Value.agg #[(Sl.v g0_1)]) (Sl.v places1_1) h K ?_
  unfold u68 at H
  unfold t68
  have hL : Vars h [] := .nil
  refine eop_box 24 (Value.agg #[(Sl.v g0_1)]) rfl hL (fun b_1 h_1 hb_1 hf_1 hL_1 => ?_)
  refine rop_locA agg24 hL_1 0 rfl 0 (vs := [(Sl.v g0_1)]) rfl rfl ?_
  have H := H b_1 h_1 (Nat.le_trans (Fr.size (Fr.r (In []) _)) hb_1) (Fr.no' (Fr.r (In []) _) hf_1) hL_1
  refine H.mono fun rv_1 h_2 H => ?_
  obtain ⟨t6_1, rfl, hL_2, H⟩ := H
  refine guardM_st (fun hb_2 => ?_) (fun hb_2 => ?_)
  · have H := H.1 hb_2
    refine guardM_y' hb_2 ?_
    refine pop_func _ _ _ ?_
    refine guardM_y' hb_2 ?_
    refine H.mono fun rv_2 h_3 H => ?_
    obtain ⟨x_1, t10_1, rfl, hL_3, H⟩ := H
    refine guardM_y' hb_2 ?_
    refine pop_not t10_1 ?_
    refine pop_pickt' hb_2 ?_
    exact H
  · have H := H.2 hb_2
    refine guardM_n' hb_2 (by decide) ?_
    refine guardM_n' hb_2 (by decide) ?_
    refine guardM_n' hb_2 (by decide) ?_
    refine pop_pickf' hb_2 ?_
    exact H

/-! (impl.Graph).copied -/
def u69 (P : Program) (g0_1 : Sl) (h : Heap) (K : Value → Heap → Prop) : Prop :=
  ∀ (b_1 : Nat) (b_2 : Nat) (b_3 : Nat) (h_4 : Heap), h.size ≤ b_1 → h.size ≤ b_2 → h.size ≤ b_3 → Fr (In []) h h_4 → Vars h_4 [(b_3, [(Sl.v nilSl)]), (b_2, [(Sl.v nilSl)]), (b_1, [(Sl.v g0_1)])] →
  ∃ J_1 : Nat → Int → Sl → Heap → Prop, (∃ n0 : Nat, J_1 n0 0 nilSl h_4) ∧
  ∀ (n_1 : Nat) (t10_1 : Int) (x_1 : Sl) (h_5 : Heap), J_1 n_1 t10_1 x_1 h_5 → Vars h_5 [(b_3, [(Sl.v x_1)]), (b_2, [(Sl.v nilSl)]), (b_1, [(Sl.v g0_1)])] →
  ((decide (t10_1 < (g0_1.n : Int))) = true →
  InB g0_1 t10_1 ∧
  ∃ t13_1 : Sl, hcell h_5 (Sl.at g0_1 t10_1 1) = some (Sl.v t13_1) ∧
  callM P 101 #[(Sl.v t13_1)] h_5 fun rv_1 h_6 => ∃ t17_1 : Sl, rv_1 = (Sl.v t17_1) ∧ Vars h_6 [(b_3, [(Sl.v x_1)]), (b_2, [(Sl.v nilSl)]), (b_1, [(Sl.v g0_1)])] ∧
  eop P (Instr.buildSlice 22 1 #[(0, (Sl.v t17_1))]) h_6 fun rv_2 h_7 => ∃ t18_1 : Sl, rv_2 = (Sl.v t18_1) ∧ Vars h_7 [(b_3, [(Sl.v x_1)]), (b_2, [(Sl.v nilSl)]), (b_1, [(Sl.v g0_1)])] ∧
  eop P (appS 22 22 22 (Sl.v x_1) (Sl.v t18_1)) h_7 fun rv_3 h_8 => ∃ t19_1 : Sl, rv_3 = (Sl.v t19_1) ∧ Vars h_8 [(b_3, [(Sl.v x_1)]), (b_2, [(Sl.v nilSl)]), (b_1, [(Sl.v g0_1)])] ∧
  ∀ (h_9 : Heap), Fr (In [b_3]) h_8 h_9 → Vars h_9 [(b_3, [(Sl.v t19_1)]), (b_2, [(Sl.v nilSl)]), (b_1, [(Sl.v g0_1)])] →
  ∃ m : Nat, m < n_1 ∧ J_1 m (w64 (t10_1 + 1)) t19_1 h_9) ∧
  ((decide (t10_1 < (g0_1.n : Int))) = false →
  ∀ (h_10 : Heap), Fr (In [b_2]) h_5 h_10 → Vars h_10 [(b_3, [(Sl.v x_1)]), (b_2, [(Sl.v x_1)]), (b_1, [(Sl.v g0_1)])] →
  K (Value.agg #[(Sl.v x_1)]) h_10)
theorem v69 (g0_1 : Sl) (h : Heap) (K : Value → Heap → Prop) (H : u69 Try.prog g0_1 h K) : callM Try.prog 69 #[(Value.agg #[(Sl.v g0_1)])] h K := by
  refine c69 (Value.agg #[(Sl.v g0_1)]) h K ?_
  unfold u69 at H
  unfold t69
  have hL : Vars h [] := .nil
  refine eop_box 24 (Value.agg #[(Sl.v g0_1)]) rfl hL (fun b_1 h_1 hb_1 hf_1 hL_1 => ?_)
  refine eop_alloc 24 zer24 rfl hL_1 (fun b_2 h_2 hb_2 hf_2 hL_2 => ?_)
  refine pop.mk' (v := (Value.agg #[(Sl.v nilSl)])) (fun w => by kernel_rfl) ?_
  refine eop_alloc 24 zer24 rfl hL_2 (fun b_3 h_3 hb_3 hf_3 hL_3 => ?_)
  refine uop_loc siz24 hL_3 0 rfl 0 [(Sl.v nilSl)] rfl rfl rfl (Nat.le_of_ble_eq_true rfl) (L' := [(b_3, [(Sl.v nilSl)]), (b_2, [(Sl.v nilSl)]), (b_1, [(Sl.v g0_1)])]) rfl (fun h_4 hf_4 hL_4 => ?_)
  refine pop_field 0 fld24_0 b_1 0 ?_
  refine rop_loc one22 hL_4 2 rfl 0 (v := (Sl.v g0_1)) rfl ?_
  refine pop_len g0_1 _ _ sli22 ?_
  have H := H b_1 b_2 b_3 h_4 (Nat.le_trans (Fr.size (Fr.r (In []) _)) hb_1) (Nat.le_trans (Fr.size (Fr.no' (Fr.r (In []) _) hf_1)) hb_2) (Nat.le_trans (Fr.size (Fr.no' (Fr.no' (Fr.r (In []) _) hf_1) hf_2)) hb_3) (Fr.new (Fr.no' (Fr.no' (Fr.no' (Fr.r (In []) _) hf_1) hf_2) hf_3) (Nat.le_trans (Fr.size (Fr.no' (Fr.no' (Fr.r (In []) _) hf_1) hf_2)) hb_3) hf_4) hL_4
  obtain ⟨J_1, ⟨n_2, h0_1⟩, HB_1⟩ := H
  refine loop_intro (J := fun (n : Nat) (vs : List Value) (h' : Heap) => ∃ t10_1 : Int, ∃ x_1 : Sl, vs = [(VI t10_1)] ∧ J_1 n t10_1 x_1 h' ∧ Vars h' [(b_3, [(Sl.v x_1)]), (b_2, [(Sl.v nilSl)]), (b_1, [(Sl.v g0_1)])]) n_2 ⟨0, nilSl, rfl, h0_1, hL_4⟩ ?_
  intro I_1 mu_1 hI_1 junk_1 tv_1 h_5 hi_1
  obtain ⟨n_1, ⟨t10_1, x_1, hv, hJ_1, hL_5⟩, hn_1⟩ := hI_1 _ _ hi_1
  cases hv
  have H := HB_1 n_1 t10_1 x_1 h_5 hJ_1 hL_5
  refine pop_lss .i64 t10_1 (g0_1.n : Int) ?_
  refine condM_b (fun hb_4 => ?_) (fun hb_4 => ?_)
  · have H := H.1 hb_4
    obtain ⟨hi_2, H⟩ := H
    refine pop_index sli22 siz25 .i64 g0_1 t10_1 hi_2 ?_
    obtain ⟨t13_1, hc_1, H⟩ := H
    refine rop_one one25 (Sl.v t13_1) hc_1 ?_
    refine pop_field 0 fld24_0 b_3 0 ?_
    refine rop_loc one22 hL_5 0 rfl 0 (v := (Sl.v x_1)) rfl ?_
    refine H.mono fun rv_1 h_6 H => ?_
    obtain ⟨t17_1, rfl, hL_6, H⟩ := H
    refine ⟨?_, ?_⟩
    · exact still_loc one22 hL_6 0 rfl 0 (v := (Sl.v x_1)) rfl
    refine H.mono fun rv_2 h_7 H => ?_
    obtain ⟨t18_1, rfl, hL_7, H⟩ := H
    refine ⟨?_, ?_⟩
    · exact still_loc one22 hL_7 0 rfl 0 (v := (Sl.v x_1)) rfl
    refine H.mono fun rv_3 h_8 H => ?_
    obtain ⟨t19_1, rfl, hL_8, H⟩ := H
    refine pop_field 0 fld24_0 b_3 0 ?_
    refine uop_loc siz22 hL_8 0 rfl 0 [(Sl.v t19_1)] rfl rfl rfl (Nat.le_of_ble_eq_true rfl) (L' := [(b_3, [(Sl.v t19_1)]), (b_2, [(Sl.v nilSl)]), (b_1, [(Sl.v g0_1)])]) rfl (fun h_9 hf_5 hL_9 => ?_)
    refine pop_add .i64 t10_1 1 ?_
    have H := H  h_9  (Fr.old (Fr.r (In []) _) hf_5) hL_9
    obtain ⟨m_1, hm_1, H⟩ := H
    exact hn_1 _ _ ⟨m_1, hm_1, (w64 (t10_1 + 1)), t19_1, rfl, H, hL_9⟩
  · have H := H.2 hb_4
    refine rop_locA agg24 hL_5 0 rfl 0 (vs := [(Sl.v x_1)]) rfl rfl ?_
    refine uop_loc siz24 hL_5 1 rfl 0 [(Sl.v x_1)] rfl rfl rfl (Nat.le_of_ble_eq_true rfl) (L' := [(b_3, [(Sl.v x_1)]), (b_2, [(Sl.v x_1)]), (b_1, [(Sl.v g0_1)])]) rfl (fun h_10 hf_6 hL_10 => ?_)
    refine rop_locA agg24 hL_10 1 rfl 0 (vs := [(Sl.v x_1)]) rfl rfl ?_
    have H := H  h_10  (Fr.old (Fr.r (In []) _) hf_6) hL_10
    exact H

/-! laws.eqIntSS -/
def u71 (P : Program) (a0_1 : Sl) (b1_1 : Sl) (h : Heap) (K : Value → Heap → Prop) : Prop :=
  ((!decide ((a0_1.n : Int) = (b1_1.n : Int))) = true →
  K (VB false) h) ∧
  ((!decide ((a0_1.n : Int) = (b1_1.n : Int))) = false →
  ∃ J_1 : Nat → Int → Heap → Prop, (∃ n0 : Nat, J_1 n0 0 h) ∧
  ∀ (n_1 : Nat) (i5_1 : Int) (h_1 : Heap), J_1 n_1 i5_1 h_1 → Vars h_1 [] →
  ((decide (i5_1 < (a0_1.n : Int))) = true →
  InB a0_1 i5_1 ∧
  ∃ t20_1 : Sl, hcell h_1 (Sl.at a0_1 i5_1 1) = some (Sl.v t20_1) ∧
  InB b1_1 i5_1 ∧
  ∃ t24_1 : Sl, hcell h_1 (Sl.at b1_1 i5_1 1) = some (Sl.v t24_1) ∧
  callM P 53 #[(Sl.v t20_1), (Sl.v t24_1)] h_1 fun rv_1 h_2 => ∃ t25_1 : Bool, rv_1 = (VB t25_1) ∧ Vars h_2 [] ∧
  ((!t25_1) = true →
  K (VB false) h_2) ∧
  ((!t25_1) = false →
  ∃ m : Nat, m < n_1 ∧ J_1 m (w64 (i5_1 + 1)) h_2)) ∧
  ((decide (i5_1 < (a0_1.n : Int))) = false →
  K (VB true) h_1))
theorem v71 (a0_1 : Sl) (b1_1 : Sl) (h : Heap) (K : Value → Heap → Prop) (H : u71 Try.prog a0_1 b1_1 h K) : callM Try.prog 71 #[(Sl.v a0_1), (Sl.v b1_1)] h K := by
  refine c71 (Sl.v a0_1) (Sl.v b1_1) h K ?_
  unfold u71 at H
  unfold t71
  have hL : Vars h [] := .nil
  refine pop_len a0_1 _ _ sli22 ?_
  refine pop_len b1_1 _ _ sli22 ?_
  refine pop_ine .i64 _ _ (a0_1.n : Int) (b1_1.n : Int) ?_
  refine condM_b (fun hb_1 => ?_) (fun hb_1 => ?_)
  · have H := H.1 hb_1
    exact H
  · have H := H.2 hb_1
    obtain ⟨J_1, ⟨n_2, h0_1⟩, HB_1⟩ := H
    refine loop_intro (J := fun (n : Nat) (vs : List Value) (h' : Heap) => ∃ i5_1 : Int, vs = [(VI i5_1)] ∧ J_1 n i5_1 h' ∧ Vars h' []) n_2 ⟨0, rfl, h0_1, hL⟩ ?_
    intro I_1 mu_1 hI_1 junk_1 tv_1 h_1 hi_1
    obtain ⟨n_1, ⟨i5_1, hv, hJ_1, hL_1⟩, hn_1⟩ := hI_1 _ _ hi_1
    cases hv
    have H := HB_1 n_1 i5_1 h_1 hJ_1 hL_1
    refine pop_len a0_1 _ _ sli22 ?_
    refine pop_lss .i64 i5_1 (a0_1.n : Int) ?_
    refine condM_b (fun hb_2 => ?_) (fun hb_2 => ?_)
    · have H := H.1 hb_2
      obtain ⟨hi_2, H⟩ := H
      refine pop_index sli22 siz25 .i64 a0_1 i5_1 hi_2 ?_
      obtain ⟨t20_1, hc_2, H⟩ := H
      refine rop_one one25 (Sl.v t20_1) hc_2 ?_
      obtain ⟨hi_3, H⟩ := H
      refine pop_index sli22 siz25 .i64 b1_1 i5_1 hi_3 ?_
      obtain ⟨t24_1, hc_1, H⟩ := H
      refine rop_one one25 (Sl.v t24_1) hc_1 ?_
      refine H.mono fun rv_1 h_2 H => ?_
      obtain ⟨t25_1, rfl, hL_2, H⟩ := H
      refine pop_not t25_1 ?_
      refine condM_b (fun hb_3 => ?_) (fun hb_3 => ?_)
      · have H := H.1 hb_3
        exact H
      · have H := H.2 hb_3
        refine pop_add .i64 i5_1 1 ?_
        obtain ⟨m_1, hm_1, H⟩ := H
        exact hn_1 _ _ ⟨m_1, hm_1, (w64 (i5_1 + 1)), rfl, H, hL_2⟩
    · have H := H.2 hb_2
      exact H

/-! laws.markIntSS -/
def u72 (P : Program) (a0_1 : Sl) (k1_1 : Int) (h : Heap) (K : Value → Heap → Prop) : Prop :=
  ∃ J_1 : Nat → Int → Int → Heap → Prop, (∃ n0 : Nat, J_1 n0 k1_1 0 h) ∧
  ∀ (n_1 : Nat) (k1_2 : Int) (i5_1 : Int) (h_1 : Heap), J_1 n_1 k1_2 i5_1 h_1 → Vars h_1 [] →
  ((decide (i5_1 < (a0_1.n : Int))) = true →
  InB a0_1 i5_1 ∧
  ∃ t15_1 : Sl, hcell h_1 (Sl.at a0_1 i5_1 1) = some (Sl.v t15_1) ∧
  callM P 54 #[(Sl.v t15_1), (VI k1_2)] h_1 fun rv_1 h_2 => ∃ t17_1 : Int, rv_1 = (VI t17_1) ∧ Vars h_2 [] ∧
  ∃ m : Nat, m < n_1 ∧ J_1 m t17_1 (w64 (i5_1 + 1)) h_2) ∧
  ((decide (i5_1 < (a0_1.n : Int))) = false →
  K (VI k1_2) h_1)
theorem v72 (a0_1 : Sl) (k1_1 : Int) (h : Heap) (K : Value → Heap → Prop) (H : u72 Try.prog a0_1 k1_1 h K) : callM Try.prog 72 #[(Sl.v a0_1), (VI k1_1)] h K := by
  refine c72 (Sl.v a0_1) (VI k1_1) h K ?_
  unfold u72 at H
  unfold t72
  have hL : Vars h [] := .nil
  obtain ⟨J_1, ⟨n_2, h0_1⟩, HB_1⟩ := H
  refine loop_intro (J := fun (n : Nat) (vs : List Value) (h' : Heap) => ∃ k1_2 : Int, ∃ i5_1 : Int, vs = [(VI k1_2), (VI i5_1)] ∧ J_1 n k1_2 i5_1 h' ∧ Vars h' []) n_2 ⟨k1_1, 0, rfl, h0_1, hL⟩ ?_
  intro I_1 mu_1 hI_1 junk_1 tv_1 tv_2 h_1 hi_1
  obtain ⟨n_1, ⟨k1_2, i5_1, hv, hJ_1, hL_1⟩, hn_1⟩ := hI_1 _ _ hi_1
  cases hv
  have H := HB_1 n_1 k1_2 i5_1 h_1 hJ_1 hL_1
  refine pop_len a0_1 _ _ sli22 ?_
  refine pop_lss .i64 i5_1 (a0_1.n : Int) ?_
  refine condM_b (fun hb_1 => ?_) (fun hb_1 => ?_)
  · have H := H.1 hb_1
    obtain ⟨hi_2, H⟩ := H
    refine pop_index sli22 siz25 .i64 a0_1 i5_1 hi_2 ?_
    obtain ⟨t15_1, hc_1, H⟩ := H
    refine rop_one one25 (Sl.v t15_1) hc_1 ?_
    refine H.mono fun rv_1 h_2 H => ?_
    obtain ⟨t17_1, rfl, hL_2, H⟩ := H
    refine pop_add .i64 i5_1 1 ?_
    obtain ⟨m_1, hm_1, H⟩ := H
    exact hn_1 _ _ ⟨m_1, hm_1, t17_1, (w64 (i5_1 + 1)), rfl, H, hL_2⟩
  · have H := H.2 hb_1
    exact H

/-! laws.heldIntSS -/
def u73 (P : Program) (a0_1 : Sl) (k1_1 : Int) (h : Heap) (K : Value → Heap → Prop) : Prop :=
  ∃ J_1 : Nat → Int → Int → Heap → Prop, (∃ n0 : Nat, J_1 n0 k1_1 0 h) ∧
  ∀ (n_1 : Nat) (k1_2 : Int) (i5_1 : Int) (h_1 : Heap), J_1 n_1 k1_2 i5_1 h_1 → Vars h_1 [] →
  ((decide (i5_1 < (a0_1.n : Int))) = true →
  InB a0_1 i5_1 ∧
  ∃ t15_1 : Sl, hcell h_1 (Sl.at a0_1 i5_1 1) = some (Sl.v t15_1) ∧
  callM P 55 #[(Sl.v t15_1), (VI k1_2)] h_1 fun rv_1 h_2 => ∃ t17_1 : Int, rv_1 = (VI t17_1) ∧ Vars h_2 [] ∧
  ((decide (t17_1 < 0)) = true →
  K (VI (-1)) h_2) ∧
  ((decide (t17_1 < 0)) = false →
  ∃ m : Nat, m < n_1 ∧ J_1 m t17_1 (w64 (i5_1 + 1)) h_2)) ∧
  ((decide (i5_1 < (a0_1.n : Int))) = false →
  K (VI k1_2) h_1)
theorem v73 (a0_1 : Sl) (k1_1 : Int) (h : Heap) (K : Value → Heap → Prop) (H : u73 Try.prog a0_1 k1_1 h K) : callM Try.prog 73 #[(Sl.v a0_1), (VI k1_1)] h K := by
  refine c73 (Sl.v a0_1) (VI k1_1) h K ?_
  unfold u73 at H
  unfold t73
  have hL : Vars h [] := .nil
  obtain ⟨J_1, ⟨n_2, h0_1⟩, HB_1⟩ := H
  refine loop_intro (J := fun (n : Nat) (vs : List Value) (h' : Heap) => ∃ k1_2 : Int, ∃ i5_1 : Int, vs = [(VI k1_2), (VI i5_1)] ∧ J_1 n k1_2 i5_1 h' ∧ Vars h' []) n_2 ⟨k1_1, 0, rfl, h0_1, hL⟩ ?_
  intro I_1 mu_1 hI_1 junk_1 tv_1 tv_2 h_1 hi_1
  obtain ⟨n_1, ⟨k1_2, i5_1, hv, hJ_1, hL_1⟩, hn_1⟩ := hI_1 _ _ hi_1
  cases hv
  have H := HB_1 n_1 k1_2 i5_1 h_1 hJ_1 hL_1
  refine pop_len a0_1 _ _ sli22 ?_
  refine pop_lss .i64 i5_1 (a0_1.n : Int) ?_
  refine condM_b (fun hb_1 => ?_) (fun hb_1 => ?_)
  · have H := H.1 hb_1
    obtain ⟨hi_2, H⟩ := H
    refine pop_index sli22 siz25 .i64 a0_1 i5_1 hi_2 ?_
    obtain ⟨t15_1, hc_1, H⟩ := H
    refine rop_one one25 (Sl.v t15_1) hc_1 ?_
    refine H.mono fun rv_1 h_2 H => ?_
    obtain ⟨t17_1, rfl, hL_2, H⟩ := H
    refine pop_lss .i64 t17_1 0 ?_
    refine condM_b (fun hb_2 => ?_) (fun hb_2 => ?_)
    · have H := H.1 hb_2
      exact H
    · have H := H.2 hb_2
      refine pop_add .i64 i5_1 1 ?_
      obtain ⟨m_1, hm_1, H⟩ := H
      exact hn_1 _ _ ⟨m_1, hm_1, t17_1, (w64 (i5_1 + 1)), rfl, H, hL_2⟩
  · have H := H.2 hb_1
    exact H

/-! spec.l1In -/
def u74 (P : Program) (n0_1 : Int) (lo1_1 : Int) (hi2_1 : Int) (h : Heap) (K : Value → Heap → Prop) : Prop :=
  ((decide (lo1_1 ≤ n0_1)) = true →
  K (VB (decide (n0_1 ≤ hi2_1))) h) ∧
  ((decide (lo1_1 ≤ n0_1)) = false →
  K (VB false) h)
theorem v74 (n0_1 : Int) (lo1_1 : Int) (hi2_1 : Int) (h : Heap) (K : Value → Heap → Prop) (H : u74 Try.prog n0_1 lo1_1 hi2_1 h K) : callM Try.prog 74 #[(VI n0_1), (VI lo1_1), (VI hi2_1)] h K := by
  refine c74 (VI n0_1) (VI lo1_1) (VI hi2_1) h K ?_
  unfold u74 at H
  unfold t74
  have hL : Vars h [] := .nil
  refine pop_geq .i64 n0_1 lo1_1 ?_
  refine guardM_st (fun hb_1 => ?_) (fun hb_1 => ?_)
  · have H := H.1 hb_1
    refine guardM_y' hb_1 ?_
    refine guardM_y' hb_1 ?_
    refine pop_leq .i64 n0_1 hi2_1 ?_
    refine pop_pickt' hb_1 ?_
    exact H
  · have H := H.2 hb_1
    refine guardM_n' hb_1 (by decide) ?_
    refine guardM_n' hb_1 (by decide) ?_
    refine pop_pickf' hb_1 ?_
    exact H

/-! impl.in -/
def u75 (P : Program) (n0_1 : Int) (low1_1 : Int) (high2_1 : Int) (h : Heap) (K : Value → Heap → Prop) : Prop :=
  ((decide (low1_1 ≤ n0_1)) = true →
  K (VB (decide (n0_1 ≤ high2_1))) h) ∧
  ((decide (low1_1 ≤ n0_1)) = false →
  K (VB false) h)
theorem v75 (n0_1 : Int) (low1_1 : Int) (high2_1 : Int) (h : Heap) (K : Value → Heap → Prop) (H : u75 Try.prog n0_1 low1_1 high2_1 h K) : callM Try.prog 75 #[(VI n0_1), (VI low1_1), (VI high2_1)] h K := by
  refine c75 (VI n0_1) (VI low1_1) (VI high2_1) h K ?_
  unfold u75 at H
  unfold t75
  have hL : Vars h [] := .nil
  refine pop_leq .i64 low1_1 n0_1 ?_
  refine guardM_st (fun hb_1 => ?_) (fun hb_1 => ?_)
  · have H := H.1 hb_1
    refine guardM_y' hb_1 ?_
    refine guardM_y' hb_1 ?_
    refine pop_leq .i64 n0_1 high2_1 ?_
    refine pop_pickt' hb_1 ?_
    exact H
  · have H := H.2 hb_1
    refine guardM_n' hb_1 (by decide) ?_
    refine guardM_n' hb_1 (by decide) ?_
    refine pop_pickf' hb_1 ?_
    exact H

/-! slices.Concat[[]int,int] -/
def u76 (P : Program) (slices0_1 : Sl) (h : Heap) (K : Value → Heap → Prop) : Prop :=
  ∃ J_1 : Nat → Int → Int → Heap → Prop, (∃ n0 : Nat, J_1 n0 0 0 h) ∧
  ∀ (n_1 : Nat) (size3_1 : Int) (t11_1 : Int) (h_1 : Heap), J_1 n_1 size3_1 t11_1 h_1 → Vars h_1 [] →
  ((decide (t11_1 < (slices0_1.n : Int))) = true →
  InB slices0_1 t11_1 ∧
  ∃ t14_1 : Sl, hcell h_1 (Sl.at slices0_1 t11_1 1) = some (Sl.v t14_1) ∧
  ((decide ((w64 (size3_1 + (t14_1.n : Int))) < 0)) = true →
  pop P (Instr.makeInterface 9 (Value.string { data := #[108, 101, 110, 32, 111, 117, 116, 32, 111, 102, 32, 114, 97, 110, 103, 101] })) fun rv_1 => ∃ t21_1 : Value, rv_1 = t21_1 ∧ 
  False) ∧
  ((decide ((w64 (size3_1 + (t14_1.n : Int))) < 0)) = false →
  ∃ m : Nat, m < n_1 ∧ J_1 m (w64 (size3_1 + (t14_1.n : Int))) (w64 (t11_1 + 1)) h_1)) ∧
  ((decide (t11_1 < (slices0_1.n : Int))) = false →
  callM P 102 #[(Sl.v nilSl), (VI size3_1)] h_1 fun rv_2 h_2 => ∃ t24_1 : Sl, rv_2 = (Sl.v t24_1) ∧ Vars h_2 [] ∧
  ∃ J_2 : Nat → Sl → Int → Heap → Prop, (∃ n0 : Nat, J_2 n0 t24_1 0 h_2) ∧
  ∀ (n_2 : Nat) (newslice6_1 : Sl) (t27_1 : Int) (h_3 : Heap), J_2 n_2 newslice6_1 t27_1 h_3 → Vars h_3 [] →
  ((decide (t27_1 < (slices0_1.n : Int))) = true →
  InB slices0_1 t27_1 ∧
  ∃ t30_1 : Sl, hcell h_3 (Sl.at slices0_1 t27_1 1) = some (Sl.v t30_1) ∧
  eop P (appS 25 25 25 (Sl.v newslice6_1) (Sl.v t30_1)) h_3 fun rv_3 h_4 => ∃ t33_1 : Sl, rv_3 = (Sl.v t33_1) ∧ Vars h_4 [] ∧
  ∃ m : Nat, m < n_2 ∧ J_2 m t33_1 (w64 (t27_1 + 1)) h_4) ∧
  ((decide (t27_1 < (slices0_1.n : Int))) = false →
  K (Sl.v newslice6_1) h_3))
theorem v76 (slices0_1 : Sl) (h : Heap) (K : Value → Heap → Prop) (H : u76 Try.prog slices0_1 h K) : callM Try.prog 76 #[(Sl.v slices0_1)] h K := by
  refine c76 (Sl.v slices0_1) h K ?_
  unfold u76 at H
  unfold t76
  have hL : Vars h [] := .nil
  refine pop_len slices0_1 _ _ sli22 ?_
  obtain ⟨J_1, ⟨n_4, h0_2⟩, HB_2⟩ := H
  refine loop_intro (J := fun (n : Nat) (vs : List Value) (h' : Heap) => ∃ size3_1 : Int, ∃ t11_1 : Int, vs = [(VI size3_1), (VI t11_1)] ∧ J_1 n size3_1 t11_1 h' ∧ Vars h' []) n_4 ⟨0, 0, rfl, h0_2, hL⟩ ?_
  intro I_2 mu_2 hI_2 junk_1 tv_3 tv_4 h_1 hi_1
  obtain ⟨n_1, ⟨size3_1, t11_1, hv, hJ_1, hL_1⟩, hn_1⟩ := hI_2 _ _ hi_1
  cases hv
  have H := HB_2 n_1 size3_1 t11_1 h_1 hJ_1 hL_1
  refine pop_lss .i64 t11_1 (slices0_1.n : Int) ?_
  refine condM_b (fun hb_1 => ?_) (fun hb_1 => ?_)
  · have H := H.1 hb_1
    obtain ⟨hi_2, H⟩ := H
    refine pop_index sli22 siz25 .i64 slices0_1 t11_1 hi_2 ?_
    obtain ⟨t14_1, hc_1, H⟩ := H
    refine rop_one one25 (Sl.v t14_1) hc_1 ?_
    refine pop_len t14_1 _ _ sli25 ?_
    refine pop_add .i64 size3_1 (t14_1.n : Int) ?_
    refine pop_lss .i64 (w64 (size3_1 + (t14_1.n : Int))) 0 ?_
    refine condM_b (fun hb_2 => ?_) (fun hb_2 => ?_)
    · have H := H.1 hb_2
      refine H.mono fun rv_1 H => ?_
      obtain ⟨t21_1, rfl, H⟩ := H
      exact H.elim
    · have H := H.2 hb_2
      refine pop_add .i64 t11_1 1 ?_
      obtain ⟨m_1, hm_1, H⟩ := H
      exact hn_1 _ _ ⟨m_1, hm_1, (w64 (size3_1 + (t14_1.n : Int))), (w64 (t11_1 + 1)), rfl, H, hL_1⟩
  · have H := H.2 hb_1
    refine H.mono fun rv_2 h_2 H => ?_
    obtain ⟨t24_1, rfl, hL_2, H⟩ := H
    refine pop_len slices0_1 _ _ sli22 ?_
    obtain ⟨J_2, ⟨n_3, h0_1⟩, HB_1⟩ := H
    refine loop_intro (J := fun (n : Nat) (vs : List Value) (h' : Heap) => ∃ newslice6_1 : Sl, ∃ t27_1 : Int, vs = [(Sl.v newslice6_1), (VI t27_1)] ∧ J_2 n newslice6_1 t27_1 h' ∧ Vars h' []) n_3 ⟨t24_1, 0, rfl, h0_1, hL_2⟩ ?_
    intro I_1 mu_1 hI_1 junk_2 tv_1 tv_2 h_3 hi_3
    obtain ⟨n_2, ⟨newslice6_1, t27_1, hv, hJ_2, hL_3⟩, hn_2⟩ := hI_1 _ _ hi_3
    cases hv
    have H := HB_1 n_2 newslice6_1 t27_1 h_3 hJ_2 hL_3
    refine pop_lss .i64 t27_1 (slices0_1.n : Int) ?_
    refine condM_b (fun hb_3 => ?_) (fun hb_3 => ?_)
    · have H := H.1 hb_3
      obtain ⟨hi_4, H⟩ := H
      refine pop_index sli22 siz25 .i64 slices0_1 t27_1 hi_4 ?_
      obtain ⟨t30_1, hc_2, H⟩ := H
      refine rop_one one25 (Sl.v t30_1) hc_2 ?_
      refine H.mono fun rv_3 h_4 H => ?_
      obtain ⟨t33_1, rfl, hL_4, H⟩ := H
      refine pop_add .i64 t27_1 1 ?_
      obtain ⟨m_2, hm_2, H⟩ := H
      exact hn_2 _ _ ⟨m_2, hm_2, t33_1, (w64 (t27_1 + 1)), rfl, H, hL_4⟩
    · have H := H.2 hb_3
      exact H

/-! laws.szIntS -/
def u77 (P : Program) (a0_1 : Sl) (left1_1 : Int) (h : Heap) (K : Value → Heap → Prop) : Prop :=
  ((decide ((w64 (left1_1 - (a0_1.n : Int))) < 0)) = true →
  K (VI (-1)) h) ∧
  ((decide ((w64 (left1_1 - (a0_1.n : Int))) < 0)) = false →
  K (VI (w64 (left1_1 - (a0_1.n : Int)))) h)
theorem v77 (a0_1 : Sl) (left1_1 : Int) (h : Heap) (K : Value → Heap → Prop) (H : u77 Try.prog a0_1 left1_1 h K) : callM Try.prog 77 #[(Sl.v a0_1), (VI left1_1)] h K := by
  refine c77 (Sl.v a0_1) (VI left1_1) h K ?_
  unfold u77 at H
  unfold t77
  have hL : Vars h [] := .nil
  refine pop_len a0_1 _ _ sli25 ?_
  refine pop_sub .i64 left1_1 (a0_1.n : Int) ?_
  refine pop_lss .i64 (w64 (left1_1 - (a0_1.n : Int))) 0 ?_
  refine condM_b (fun hb_1 => ?_) (fun hb_1 => ?_)
  · have H := H.1 hb_1
    exact H
  · have H := H.2 hb_1
    exact H

/-! laws.toIntS -/
def u80 (P : Program) (a0_1 : Sl) (h : Heap) (K : Value → Heap → Prop) : Prop :=
  eop P (Instr.makeSlice 25 (VI (a0_1.n : Int)) (VI (a0_1.n : Int))) h fun rv_1 h_1 => ∃ t7_1 : Sl, rv_1 = (Sl.v t7_1) ∧ Vars h_1 [] ∧
  ∃ J_1 : Nat → Int → Heap → Prop, (∃ n0 : Nat, J_1 n0 0 h_1) ∧
  ∀ (n_1 : Nat) (i4_1 : Int) (h_2 : Heap), J_1 n_1 i4_1 h_2 → Vars h_2 [] →
  ((decide (i4_1 < (a0_1.n : Int))) = true →
  InB a0_1 i4_1 ∧
  ∃ t19_1 : Int, hcell h_2 (Sl.at a0_1 i4_1 1) = some (VI t19_1) ∧
  InB t7_1 i4_1 ∧
  Writable h_2 (Sl.at t7_1 i4_1 1) ∧ Vars (hset h_2 (Sl.at t7_1 i4_1 1) (VI t19_1)) [] ∧
  ∀ h_3 : Heap, h_3 = hset h_2 (Sl.at t7_1 i4_1 1) (VI t19_1) → Vars h_3 [] →
  ∃ m : Nat, m < n_1 ∧ J_1 m (w64 (i4_1 + 1)) h_3) ∧
  ((decide (i4_1 < (a0_1.n : Int))) = false →
  K (Sl.v t7_1) h_2)
theorem v80 (a0_1 : Sl) (h : Heap) (K : Value → Heap → Prop) (H : u80 Try.prog a0_1 h K) : callM Try.prog 80 #[(Sl.v a0_1)] h K := by
  refine c80 (Sl.v a0_1) h K ?_
  unfold u80 at H
  unfold t80
  have hL : Vars h [] := .nil
  refine pop_len a0_1 _ _ sli25 ?_
  refine H.mono fun rv_1 h_1 H => ?_
  obtain ⟨t7_1, rfl, hL_1, H⟩ := H
  obtain ⟨J_1, ⟨n_2, h0_1⟩, HB_1⟩ := H
  refine loop_intro (J := fun (n : Nat) (vs : List Value) (h' : Heap) => ∃ i4_1 : Int, vs = [(VI i4_1)] ∧ J_1 n i4_1 h' ∧ Vars h' []) n_2 ⟨0, rfl, h0_1, hL_1⟩ ?_
  intro I_1 mu_1 hI_1 junk_1 tv_1 h_2 hi_1
  obtain ⟨n_1, ⟨i4_1, hv, hJ_1, hL_2⟩, hn_1⟩ := hI_1 _ _ hi_1
  cases hv
  have H := HB_1 n_1 i4_1 h_2 hJ_1 hL_2
  refine pop_len a0_1 _ _ sli25 ?_
  refine pop_lss .i64 i4_1 (a0_1.n : Int) ?_
  refine condM_b (fun hb_1 => ?_) (fun hb_1 => ?_)
  · have H := H.1 hb_1
    obtain ⟨hi_2, H⟩ := H
    refine pop_index sli25 siz3 .i64 a0_1 i4_1 hi_2 ?_
    obtain ⟨t19_1, hc_1, H⟩ := H
    refine rop_one one3 (VI t19_1) hc_1 ?_
    obtain ⟨hi_3, H⟩ := H
    refine pop_index sli25 siz3 .i64 t7_1 i4_1 hi_3 ?_
    obtain ⟨hw_1, hL_3, H⟩ := H
    refine uop_cell (v := (VI t19_1)) siz3 hw_1 rfl (fun h_3 he_1 => ?_)
    rw [← he_1] at hL_3
    have H := H h_3 he_1 hL_3
    refine pop_add .i64 i4_1 1 ?_
    obtain ⟨m_1, hm_1, H⟩ := H
    exact hn_1 _ _ ⟨m_1, hm_1, (w64 (i4_1 + 1)), rfl, H, hL_3⟩
  · have H := H.2 hb_1
    exact H

/-! spec.l1Own -/
def u88 (P : Program) (l0_1 : Sl) (h : Heap) (K : Value → Heap → Prop) : Prop :=
  eop P (Instr.buildSlice 25 0 #[]) h fun rv_1 h_1 => ∃ t3_1 : Sl, rv_1 = (Sl.v t3_1) ∧ Vars h_1 [] ∧
  eop P (appS 25 25 25 (Sl.v t3_1) (Sl.v l0_1)) h_1 fun rv_2 h_2 => ∃ t5_1 : Sl, rv_2 = (Sl.v t5_1) ∧ Vars h_2 [] ∧
  K (Sl.v t5_1) h_2
theorem v88 (l0_1 : Sl) (h : Heap) (K : Value → Heap → Prop) (H : u88 Try.prog l0_1 h K) : callM Try.prog 88 #[(Sl.v l0_1)] h K := by
  refine c88 (Sl.v l0_1) h K ?_
  unfold u88 at H
  unfold t88
  have hL : Vars h [] := .nil
  refine H.mono fun rv_1 h_1 H => ?_
  obtain ⟨t3_1, rfl, hL_1, H⟩ := H
  refine H.mono fun rv_2 h_2 H => ?_
  obtain ⟨t5_1, rfl, hL_2, H⟩ := H
  exact H

/-! spec.grGood -/
def u97 (P : Program) (g0_1 : Sl) (h : Heap) (K : Value → Heap → Prop) : Prop :=
  ∀ (b_1 : Nat) (h_1 : Heap), h.size ≤ b_1 → Fr (In []) h h_1 → Vars h_1 [(b_1, [(Sl.v g0_1)])] →
  callM P 74 #[(VI (g0_1.n : Int)), (VI 1), (VI 8)] h_1 fun rv_1 h_2 => ∃ t10_1 : Bool, rv_1 = (VB t10_1) ∧ Vars h_2 [(b_1, [(Sl.v g0_1)])] ∧
  ((!t10_1) = true →
  K (VB false) h_2) ∧
  ((!t10_1) = false →
  ∃ J_1 : Nat → Int → Heap → Prop, (∃ n0 : Nat, J_1 n0 0 h_2) ∧
  ∀ (n_1 : Nat) (t15_1 : Int) (h_3 : Heap), J_1 n_1 t15_1 h_3 → Vars h_3 [(b_1, [(Sl.v g0_1)])] →
  ((decide (t15_1 < (g0_1.n : Int))) = true →
  InB g0_1 t15_1 ∧
  ∃ t18_1 : Sl, hcell h_3 (Sl.at g0_1 t15_1 1) = some (Sl.v t18_1) ∧
  ((decide (5 < (t18_1.n : Int))) = true →
  K (VB false) h_3) ∧
  ((decide (5 < (t18_1.n : Int))) = false →
  callM P 108 #[(Sl.v t18_1), (VI 0), (VI (w64 ((g0_1.n : Int) - 1)))] h_3 fun rv_2 h_4 => ∃ t26_1 : Bool, rv_2 = (VB t26_1) ∧ Vars h_4 [(b_1, [(Sl.v g0_1)])] ∧
  ((!t26_1) = true →
  K (VB false) h_4) ∧
  ((!t26_1) = false →
  ∃ m : Nat, m < n_1 ∧ J_1 m (w64 (t15_1 + 1)) h_4))) ∧
  ((decide (t15_1 < (g0_1.n : Int))) = false →
  K (VB true) h_3))
theorem v97 (g0_1 : Sl) (h : Heap) (K : Value → Heap → Prop) (H : u97 Try.prog g0_1 h K) : callM Try.prog 97 #[(Value.agg #[(Sl.v g0_1)])] h K := by
  refine c97 (Value.agg #[(Sl.v g0_1)]) h K ?_
  unfold u97 at H
  unfold t97
  have hL : Vars h [] := .nil
  refine eop_box 24 (Value.agg #[(Sl.v g0_1)]) rfl hL (fun b_1 h_1 hb_1 hf_1 hL_1 => ?_)
  refine pop_field 0 fld24_0 b_1 0 ?_
  refine rop_loc one22 hL_1 0 rfl 0 (v := (Sl.v g0_1)) rfl ?_
  refine pop_len g0_1 _ _ sli22 ?_
  have H := H b_1 h_1 (Nat.le_trans (Fr.size (Fr.r (In []) _)) hb_1) (Fr.no' (Fr.r (In []) _) hf_1) hL_1
  refine H.mono fun rv_1 h_2 H => ?_
  obtain ⟨t10_1, rfl, hL_2, H⟩ := H
  refine pop_not t10_1 ?_
  refine condM_b (fun hb_2 => ?_) (fun hb_2 => ?_)
  · have H := H.1 hb_2
    exact H
  · have H := H.2 hb_2
    refine pop_field 0 fld24_0 b_1 0 ?_
    refine rop_loc one22 hL_2 0 rfl 0 (v := (Sl.v g0_1)) rfl ?_
    refine pop_len g0_1 _ _ sli22 ?_
    obtain ⟨J_1, ⟨n_2, h0_1⟩, HB_1⟩ := H
    refine loop_intro (J := fun (n : Nat) (vs : List Value) (h' : Heap) => ∃ t15_1 : Int, vs = [(VI t15_1)] ∧ J_1 n t15_1 h' ∧ Vars h' [(b_1, [(Sl.v g0_1)])]) n_2 ⟨0, rfl, h0_1, hL_2⟩ ?_
    intro I_1 mu_1 hI_1 junk_1 tv_1 h_3 hi_1
    obtain ⟨n_1, ⟨t15_1, hv, hJ_1, hL_3⟩, hn_1⟩ := hI_1 _ _ hi_1
    cases hv
    have H := HB_1 n_1 t15_1 h_3 hJ_1 hL_3
    refine pop_lss .i64 t15_1 (g0_1.n : Int) ?_
    refine condM_b (fun hb_3 => ?_) (fun hb_3 => ?_)
    · have H := H.1 hb_3
      obtain ⟨hi_2, H⟩ := H
      refine pop_index sli22 siz25 .i64 g0_1 t15_1 hi_2 ?_
      obtain ⟨t18_1, hc_1, H⟩ := H
      refine rop_one one25 (Sl.v t18_1) hc_1 ?_
      refine pop_len t18_1 _ _ sli25 ?_
      refine pop_gtr .i64 (t18_1.n : Int) 5 ?_
      refine guardM_sf (fun hb_4 => ?_) (fun hb_4 => ?_)
      · have H := H.2 hb_4
        refine guardM_y' hb_4 ?_
        refine guardM_y' hb_4 ?_
        refine pop_sub .i64 (g0_1.n : Int) 1 ?_
        refine guardM_y' hb_4 ?_
        refine H.mono fun rv_2 h_4 H => ?_
        obtain ⟨t26_1, rfl, hL_4, H⟩ := H
        refine guardM_y' hb_4 ?_
        refine pop_not t26_1 ?_
        refine pop_pickf' hb_4 ?_
        refine condM_b (fun hb_5 => ?_) (fun hb_5 => ?_)
        · have H := H.1 hb_5
          exact H
        · have H := H.2 hb_5
          refine pop_add .i64 t15_1 1 ?_
          obtain ⟨m_1, hm_1, H⟩ := H
          exact hn_1 _ _ ⟨m_1, hm_1, (w64 (t15_1 + 1)), rfl, H, hL_4⟩
      · have H := H.1 hb_4
        refine guardM_n' hb_4 (by decide) ?_
        refine guardM_n' hb_4 (by decide) ?_
        refine guardM_n' hb_4 (by decide) ?_
        refine guardM_n' hb_4 (by decide) ?_
        refine pop_pickt' hb_4 ?_
        refine condM_t ?_
        exact H
    · have H := H.2 hb_3
      exact H

/-! impl.isGraph -/
def u98 (P : Program) (g0_1 : Sl) (h : Heap) (K : Value → Heap → Prop) : Prop :=
  ∀ (b_1 : Nat) (b_2 : Nat) (h_3 : Heap), h.size ≤ b_1 → h.size ≤ b_2 → Fr (In []) h h_3 → Vars h_3 [(b_2, [(VI (g0_1.n : Int))]), (b_1, [(Sl.v g0_1)])] →
  callM P 75 #[(VI (g0_1.n : Int)), (VI 1), (VI 8)] h_3 fun rv_1 h_4 => ∃ t10_1 : Bool, rv_1 = (VB t10_1) ∧ Vars h_4 [(b_2, [(VI (g0_1.n : Int))]), (b_1, [(Sl.v g0_1)])] ∧
  ((!t10_1) = true →
  K (VB false) h_4) ∧
  ((!t10_1) = false →
  ∃ J_1 : Nat → Int → Int → Heap → Prop, (∃ n0 : Nat, J_1 n0 0 (g0_1.n : Int) h_4) ∧
  ∀ (n_1 : Nat) (t15_1 : Int) (x_1 : Int) (h_5 : Heap), J_1 n_1 t15_1 x_1 h_5 → Vars h_5 [(b_2, [(VI x_1)]), (b_1, [(Sl.v g0_1)])] →
  ((decide (t15_1 < (g0_1.n : Int))) = true →
  InB g0_1 t15_1 ∧
  ∃ t18_1 : Sl, hcell h_5 (Sl.at g0_1 t15_1 1) = some (Sl.v t18_1) ∧
  ((decide (5 < (t18_1.n : Int))) = true →
  K (VB false) h_5) ∧
  ((decide (5 < (t18_1.n : Int))) = false →
  callM P 99 #[(Sl.v t18_1), (Value.func (Fn.func 109) #[] #[(VP b_2 0)])] h_5 fun rv_2 h_6 => ∃ x_2 : Int, ∃ t25_1 : Bool, rv_2 = (VB t25_1) ∧ Vars h_6 [(b_2, [(VI x_2)]), (b_1, [(Sl.v g0_1)])] ∧
  (t25_1 = true →
  K (VB false) h_6) ∧
  (t25_1 = false →
  ∃ m : Nat, m < n_1 ∧ J_1 m (w64 (t15_1 + 1)) x_2 h_6))) ∧
  ((decide (t15_1 < (g0_1.n : Int))) = false →
  K (VB true) h_5))
theorem v98 (g0_1 : Sl) (h : Heap) (K : Value → Heap → Prop) (H : u98 Try.prog g0_1 h K) : callM Try.prog 98 #[(Value.agg #[(Sl.v g0_1)])] h K := by
  refine c98 (Value.agg #[(Sl.v g0_1)]) h K ?_
  unfold u98 at H
  unfold t98
  have hL : Vars h [] := .nil
  refine eop_box 24 (Value.agg #[(Sl.v g0_1)]) rfl hL (fun b_1 h_1 hb_1 hf_1 hL_1 => ?_)
  refine pop_field 0 fld24_0 b_1 0 ?_
  refine rop_loc one22 hL_1 0 rfl 0 (v := (Sl.v g0_1)) rfl ?_
  refine pop_len g0_1 _ _ sli22 ?_
  refine eop_alloc 3 zer3 rfl hL_1 (fun b_2 h_2 hb_2 hf_2 hL_2 => ?_)
  refine uop_loc siz3 hL_2 0 rfl 0 [(VI (g0_1.n : Int))] rfl rfl rfl (Nat.le_of_ble_eq_true rfl) (L' := [(b_2, [(VI (g0_1.n : Int))]), (b_1, [(Sl.v g0_1)])]) rfl (fun h_3 hf_3 hL_3 => ?_)
  refine rop_loc one3 hL_3 0 rfl 0 (v := (VI (g0_1.n : Int))) rfl ?_
  have H := H b_1 b_2 h_3 (Nat.le_trans (Fr.size (Fr.r (In []) _)) hb_1) (Nat.le_trans (Fr.size (Fr.no' (Fr.r (In []) _) hf_1)) hb_2) (Fr.new (Fr.no' (Fr.no' (Fr.r (In []) _) hf_1) hf_2) (Nat.le_trans (Fr.size (Fr.no' (Fr.r (In []) _) hf_1)) hb_2) hf_3) hL_3
  refine H.mono fun rv_1 h_4 H => ?_
  obtain ⟨t10_1, rfl, hL_4, H⟩ := H
  refine pop_not t10_1 ?_
  refine condM_b (fun hb_3 => ?_) (fun hb_3 => ?_)
  · have H := H.1 hb_3
    exact H
  · have H := H.2 hb_3
    refine pop_field 0 fld24_0 b_1 0 ?_
    refine rop_loc one22 hL_4 1 rfl 0 (v := (Sl.v g0_1)) rfl ?_
    refine pop_len g0_1 _ _ sli22 ?_
    obtain ⟨J_1, ⟨n_2, h0_1⟩, HB_1⟩ := H
    refine loop_intro (J := fun (n : Nat) (vs : List Value) (h' : Heap) => ∃ t15_1 : Int, ∃ x_1 : Int, vs = [(VI t15_1)] ∧ J_1 n t15_1 x_1 h' ∧ Vars h' [(b_2, [(VI x_1)]), (b_1, [(Sl.v g0_1)])]) n_2 ⟨0, (g0_1.n : Int), rfl, h0_1, hL_4⟩ ?_
    intro I_1 mu_1 hI_1 junk_1 tv_1 h_5 hi_1
    obtain ⟨n_1, ⟨t15_1, x_1, hv, hJ_1, hL_5⟩, hn_1⟩ := hI_1 _ _ hi_1
    cases hv
    have H := HB_1 n_1 t15_1 x_1 h_5 hJ_1 hL_5
    refine pop_lss .i64 t15_1 (g0_1.n : Int) ?_
    refine condM_b (fun hb_4 => ?_) (fun hb_4 => ?_)
    · have H := H.1 hb_4
      obtain ⟨hi_2, H⟩ := H
      refine pop_index sli22 siz25 .i64 g0_1 t15_1 hi_2 ?_
      obtain ⟨t18_1, hc_1, H⟩ := H
      refine rop_one one25 (Sl.v t18_1) hc_1 ?_
      refine pop_len t18_1 _ _ sli25 ?_
      refine pop_gtr .i64 (t18_1.n : Int) 5 ?_
      refine guardM_sf (fun hb_5 => ?_) (fun hb_5 => ?_)
      · have H := H.2 hb_5
        refine guardM_y' hb_5 ?_
        refine pop_func _ _ _ ?_
        refine guardM_y' hb_5 ?_
        refine H.mono fun rv_2 h_6 H => ?_
        obtain ⟨x_2, t25_1, rfl, hL_6, H⟩ := H
        refine pop_pickf' hb_5 ?_
        refine condM_b (fun hb_6 => ?_) (fun hb_6 => ?_)
        · have H := H.1 hb_6
          exact H
        · have H := H.2 hb_6
          refine pop_add .i64 t15_1 1 ?_
          obtain ⟨m_1, hm_1, H⟩ := H
          exact hn_1 _ _ ⟨m_1, hm_1, (w64 (t15_1 + 1)), x_2, rfl, H, hL_6⟩
      · have H := H.1 hb_5
        refine guardM_n' hb_5 (by decide) ?_
        refine guardM_n' hb_5 (by decide) ?_
        refine pop_pickt' hb_5 ?_
        refine condM_t ?_
        exact H
    · have H := H.2 hb_4
      exact H

/-! slices.ContainsFunc[[]int,int] -/
def u99 (P : Program) (s0_1 : Sl) (f1_1 : Value) (h : Heap) (K : Value → Heap → Prop) : Prop :=
  callM P 110 #[(Sl.v s0_1), f1_1] h fun rv_1 h_1 => ∃ t7_1 : Int, rv_1 = (VI t7_1) ∧ Vars h_1 [] ∧
  K (VB (decide (0 ≤ t7_1))) h_1
theorem v99 (s0_1 : Sl) (f1_1 : Value) (h : Heap) (K : Value → Heap → Prop) (H : u99 Try.prog s0_1 f1_1 h K) : callM Try.prog 99 #[(Sl.v s0_1), f1_1] h K := by
  refine c99 (Sl.v s0_1) f1_1 h K ?_
  unfold u99 at H
  unfold t99
  have hL : Vars h [] := .nil
  refine H.mono fun rv_1 h_1 H => ?_
  obtain ⟨t7_1, rfl, hL_1, H⟩ := H
  refine pop_geq .i64 t7_1 0 ?_
  exact H

/-! impl.has$1 -/
def u100 (P : Program) (p0_1 : Int) (b_1 : Nat) (t1_1 : Sl) (h : Heap) (K : Value → Heap → Prop) : Prop :=
  callM P 75 #[(VI p0_1), (VI 0), (VI (w64 ((t1_1.n : Int) - 1)))] h fun rv_1 h_1 => ∃ t9_1 : Bool, rv_1 = (VB t9_1) ∧ Vars h_1 [(b_1, [(Sl.v t1_1)])] ∧
  K (VB (!t9_1)) h_1
theorem v100 (p0_1 : Int) (b_1 : Nat) (t1_1 : Sl) (h : Heap) (K : Value → Heap → Prop) (hL : Vars h [(b_1, [(Sl.v t1_1)])]) (H : u100 Try.prog p0_1 b_1 t1_1 h K) : callM Try.prog 100 #[(VI p0_1), (VP b_1 0)] h K := by
  refine c100 (VI p0_1) (VP b_1 0) h K ?_
  unfold u100 at H
  unfold t100
  refine pop_field 0 fld24_0 b_1 0 ?_
  refine rop_loc one22 hL 0 rfl 0 (v := (Sl.v t1_1)) rfl ?_
  refine pop_len t1_1 _ _ sli22 ?_
  refine pop_sub .i64 (t1_1.n : Int) 1 ?_
  refine H.mono fun rv_1 h_1 H => ?_
  obtain ⟨t9_1, rfl, hL_1, H⟩ := H
  refine pop_not t9_1 ?_
  exact H

/-! slices.Clone[[]int,int] -/
def u101 (P : Program) (s0_1 : Sl) (h : Heap) (K : Value → Heap → Prop) : Prop :=
  pop P (binE .eql 25 (.tmp 3) (.const (Value.slice none 0 0)) (Sl.v s0_1) (Value.slice none 0 0)) fun rv_1 => ∃ t4_1 : Bool, rv_1 = (VB t4_1) ∧ 
  (t4_1 = true →
  K (Sl.v nilSl) h) ∧
  (t4_1 = false →
  eop P (Instr.buildSlice 25 0 #[]) h fun rv_2 h_1 => ∃ t5_1 : Sl, rv_2 = (Sl.v t5_1) ∧ Vars h_1 [] ∧
  eop P (appS 25 25 25 (Sl.v t5_1) (Sl.v s0_1)) h_1 fun rv_3 h_2 => ∃ t7_1 : Sl, rv_3 = (Sl.v t7_1) ∧ Vars h_2 [] ∧
  K (Sl.v t7_1) h_2)
theorem v101 (s0_1 : Sl) (h : Heap) (K : Value → Heap → Prop) (H : u101 Try.prog s0_1 h K) : callM Try.prog 101 #[(Sl.v s0_1)] h K := by
  refine c101 (Sl.v s0_1) h K ?_
  unfold u101 at H
  unfold t101
  have hL : Vars h [] := .nil
  refine H.mono fun rv_1 H => ?_
  obtain ⟨t4_1, rfl, H⟩ := H
  refine condM_b (fun hb_1 => ?_) (fun hb_1 => ?_)
  · have H := H.1 hb_1
    exact H
  · have H := H.2 hb_1
    refine H.mono fun rv_2 h_1 H => ?_
    obtain ⟨t5_1, rfl, hL_1, H⟩ := H
    refine H.mono fun rv_3 h_2 H => ?_
    obtain ⟨t7_1, rfl, hL_2, H⟩ := H
    exact H

/-! slices.Grow[[]int,int] -/
def u102 (P : Program) (s0_1 : Sl) (n1_1 : Int) (h : Heap) (K : Value → Heap → Prop) : Prop :=
  ∃ J_1 : Heap → Prop, (((decide (n1_1 < 0)) = true →
  pop P (Instr.makeInterface 9 (Value.string { data := #[99, 97, 110, 110, 111, 116, 32, 98, 101, 32, 110, 101, 103, 97, 116, 105, 118, 101] })) fun rv_1 => ∃ t7_1 : Value, rv_1 = t7_1 ∧ 
  False) ∧
  ((decide (n1_1 < 0)) = false →
  J_1  h)) ∧
  ∀ (h_1 : Heap), J_1  h_1 → Vars h_1 [] →
  pop P (Builtin.cap_ #[25] 3 #[(Sl.v s0_1)]) fun rv_2 => ∃ t10_1 : Int, rv_2 = (VI t10_1) ∧ 
  ((decide (0 < (w64 (n1_1 - (w64 (t10_1 - (s0_1.n : Int))))))) = true →
  pop P (Builtin.cap_ #[25] 3 #[(Sl.v s0_1)]) fun rv_3 => ∃ t19_1 : Int, rv_3 = (VI t19_1) ∧ 
  pop P (Instr.sliceAt 25 (Sl.v s0_1) none (some (VI t19_1)) none) fun rv_4 => ∃ t20_1 : Sl, rv_4 = (Sl.v t20_1) ∧ 
  eop P (appS 25 3 25 (Sl.v t20_1) (VI (w64 (n1_1 - (w64 (t10_1 - (s0_1.n : Int))))))) h_1 fun rv_5 h_2 => ∃ t22_1 : Sl, rv_5 = (Sl.v t22_1) ∧ Vars h_2 [] ∧
  pop P (Instr.sliceAt 25 (Sl.v t22_1) none (some (VI (s0_1.n : Int))) none) fun rv_6 => ∃ t25_1 : Sl, rv_6 = (Sl.v t25_1) ∧ 
  K (Sl.v t25_1) h_2) ∧
  ((decide (0 < (w64 (n1_1 - (w64 (t10_1 - (s0_1.n : Int))))))) = false →
  K (Sl.v s0_1) h_1)
theorem v102 (s0_1 : Sl) (n1_1 : Int) (h : Heap) (K : Value → Heap → Prop) (H : u102 Try.prog s0_1 n1_1 h K) : callM Try.prog 102 #[(Sl.v s0_1), (VI n1_1)] h K := by
  refine c102 (Sl.v s0_1) (VI n1_1) h K ?_
  unfold u102 at H
  unfold t102
  have hL : Vars h [] := .nil
  obtain ⟨J_1, H, HB_1⟩ := H
  refine ⟨fun (vs : List Value) (h' : Heap) => vs = [] ∧ J_1  h' ∧ Vars h' [], ?_, ?_⟩
  · refine pop_lss .i64 n1_1 0 ?_
    refine condM_b (fun hb_1 => ?_) (fun hb_1 => ?_)
    · have H := H.1 hb_1
      refine H.mono fun rv_1 H => ?_
      obtain ⟨t7_1, rfl, H⟩ := H
      exact H.elim
    · have H := H.2 hb_1
      exact ⟨rfl, H, hL⟩
  intro junk_1  h_1
  rintro ⟨hv, hJ_1, hL_1⟩
  have H := HB_1  h_1 hJ_1 hL_1
  refine H.mono fun rv_2 H => ?_
  obtain ⟨t10_1, rfl, H⟩ := H
  refine pop_len s0_1 _ _ sli25 ?_
  refine pop_sub .i64 t10_1 (s0_1.n : Int) ?_
  refine pop_sub .i64 n1_1 (w64 (t10_1 - (s0_1.n : Int))) ?_
  refine pop_gtr .i64 (w64 (n1_1 - (w64 (t10_1 - (s0_1.n : Int))))) 0 ?_
  refine condM_b (fun hb_2 => ?_) (fun hb_2 => ?_)
  · have H := H.1 hb_2
    refine H.mono fun rv_3 H => ?_
    obtain ⟨t19_1, rfl, H⟩ := H
    refine H.mono fun rv_4 H => ?_
    obtain ⟨t20_1, rfl, H⟩ := H
    refine H.mono fun rv_5 h_2 H => ?_
    obtain ⟨t22_1, rfl, hL_2, H⟩ := H
    refine pop_len s0_1 _ _ sli25 ?_
    refine H.mono fun rv_6 H => ?_
    obtain ⟨t25_1, rfl, H⟩ := H
    exact H
  · have H := H.2 hb_2
    exact H

/-! spec.l1All -/
def u108 (P : Program) (l0_1 : Sl) (lo1_1 : Int) (hi2_1 : Int) (h : Heap) (K : Value → Heap → Prop) : Prop :=
  ∃ J_1 : Nat → Int → Heap → Prop, (∃ n0 : Nat, J_1 n0 0 h) ∧
  ∀ (n_1 : Nat) (t11_1 : Int) (h_1 : Heap), J_1 n_1 t11_1 h_1 → Vars h_1 [] →
  ((decide (t11_1 < (l0_1.n : Int))) = true →
  InB l0_1 t11_1 ∧
  ∃ t14_1 : Int, hcell h_1 (Sl.at l0_1 t11_1 1) = some (VI t14_1) ∧
  callM P 74 #[(VI t14_1), (VI lo1_1), (VI hi2_1)] h_1 fun rv_1 h_2 => ∃ t18_1 : Bool, rv_1 = (VB t18_1) ∧ Vars h_2 [] ∧
  ((!t18_1) = true →
  K (VB false) h_2) ∧
  ((!t18_1) = false →
  ∃ m : Nat, m < n_1 ∧ J_1 m (w64 (t11_1 + 1)) h_2)) ∧
  ((decide (t11_1 < (l0_1.n : Int))) = false →
  K (VB true) h_1)
theorem v108 (l0_1 : Sl) (lo1_1 : Int) (hi2_1 : Int) (h : Heap) (K : Value → Heap → Prop) (H : u108 Try.prog l0_1 lo1_1 hi2_1 h K) : callM Try.prog 108 #[(Sl.v l0_1), (VI lo1_1), (VI hi2_1)] h K := by
  refine c108 (Sl.v l0_1) (VI lo1_1) (VI hi2_1) h K ?_
  unfold u108 at H
  unfold t108
  have hL : Vars h [] := .nil
  refine pop_len l0_1 _ _ sli25 ?_
  obtain ⟨J_1, ⟨n_2, h0_1⟩, HB_1⟩ := H
  refine loop_intro (J := fun (n : Nat) (vs : List Value) (h' : Heap) => ∃ t11_1 : Int, vs = [(VI t11_1)] ∧ J_1 n t11_1 h' ∧ Vars h' []) n_2 ⟨0, rfl, h0_1, hL⟩ ?_
  intro I_1 mu_1 hI_1 junk_1 tv_1 h_1 hi_1
  obtain ⟨n_1, ⟨t11_1, hv, hJ_1, hL_1⟩, hn_1⟩ := hI_1 _ _ hi_1
  cases hv
  have H := HB_1 n_1 t11_1 h_1 hJ_1 hL_1
  refine pop_lss .i64 t11_1 (l0_1.n : Int) ?_
  refine condM_b (fun hb_1 => ?_) (fun hb_1 => ?_)
  · have H := H.1 hb_1
    obtain ⟨hi_2, H⟩ := H
    refine pop_index sli25 siz3 .i64 l0_1 t11_1 hi_2 ?_
    obtain ⟨t14_1, hc_1, H⟩ := H
    refine rop_one one3 (VI t14_1) hc_1 ?_
    refine H.mono fun rv_1 h_2 H => ?_
    obtain ⟨t18_1, rfl, hL_2, H⟩ := H
    refine pop_not t18_1 ?_
    refine condM_b (fun hb_2 => ?_) (fun hb_2 => ?_)
    · have H := H.1 hb_2
      exact H
    · have H := H.2 hb_2
      refine pop_add .i64 t11_1 1 ?_
      obtain ⟨m_1, hm_1, H⟩ := H
      exact hn_1 _ _ ⟨m_1, hm_1, (w64 (t11_1 + 1)), rfl, H, hL_2⟩
  · have H := H.2 hb_1
    exact H

/-! impl.isGraph$1 -/
def u109 (P : Program) (q0_1 : Int) (b_1 : Nat) (t1_1 : Int) (h : Heap) (K : Value → Heap → Prop) : Prop :=
  callM P 75 #[(VI q0_1), (VI 0), (VI (w64 (t1_1 - 1)))] h fun rv_1 h_1 => ∃ t7_1 : Bool, rv_1 = (VB t7_1) ∧ Vars h_1 [(b_1, [(VI t1_1)])] ∧
  K (VB (!t7_1)) h_1
theorem v109 (q0_1 : Int) (b_1 : Nat) (t1_1 : Int) (h : Heap) (K : Value → Heap → Prop) (hL : Vars h [(b_1, [(VI t1_1)])]) (H : u109 Try.prog q0_1 b_1 t1_1 h K) : callM Try.prog 109 #[(VI q0_1), (VP b_1 0)] h K := by
  refine c109 (VI q0_1) (VP b_1 0) h K ?_
  unfold u109 at H
  unfold t109
  refine rop_loc one3 hL 0 rfl 0 (v := (VI t1_1)) rfl ?_
  refine pop_sub .i64 t1_1 1 ?_
  refine H.mono fun rv_1 h_1 H => ?_
  obtain ⟨t7_1, rfl, hL_1, H⟩ := H
  refine pop_not t7_1 ?_
  exact H

/-! slices.IndexFunc[[]int,int] -/
def u110 (P : Program) (s0_1 : Sl) (f1_1 : Value) (h : Heap) (K : Value → Heap → Prop) : Prop :=
  ∃ J_1 : Nat → Int → Heap → Prop, (∃ n0 : Nat, J_1 n0 0 h) ∧
  ∀ (n_1 : Nat) (t8_1 : Int) (h_1 : Heap), J_1 n_1 t8_1 h_1 → Vars h_1 [] →
  ((decide (t8_1 < (s0_1.n : Int))) = true →
  InB s0_1 t8_1 ∧
  ∃ t15_1 : Int, hcell h_1 (Sl.at s0_1 t8_1 1) = some (VI t15_1) ∧
  callV P f1_1 [(VI t15_1)] h_1 fun rv_1 h_2 => ∃ t16_1 : Bool, rv_1 = (VB t16_1) ∧ Vars h_2 [] ∧
  (t16_1 = true →
  K (VI t8_1) h_2) ∧
  (t16_1 = false →
  ∃ m : Nat, m < n_1 ∧ J_1 m (w64 (t8_1 + 1)) h_2)) ∧
  ((decide (t8_1 < (s0_1.n : Int))) = false →
  K (VI (-1)) h_1)
theorem v110 (s0_1 : Sl) (f1_1 : Value) (h : Heap) (K : Value → Heap → Prop) (H : u110 Try.prog s0_1 f1_1 h K) : callM Try.prog 110 #[(Sl.v s0_1), f1_1] h K := by
  refine c110 (Sl.v s0_1) f1_1 h K ?_
  unfold u110 at H
  unfold t110
  have hL : Vars h [] := .nil
  refine pop_len s0_1 _ _ sli25 ?_
  obtain ⟨J_1, ⟨n_2, h0_1⟩, HB_1⟩ := H
  refine loop_intro (J := fun (n : Nat) (vs : List Value) (h' : Heap) => ∃ t8_1 : Int, vs = [(VI t8_1)] ∧ J_1 n t8_1 h' ∧ Vars h' []) n_2 ⟨0, rfl, h0_1, hL⟩ ?_
  intro I_1 mu_1 hI_1 junk_1 tv_1 h_1 hi_1
  obtain ⟨n_1, ⟨t8_1, hv, hJ_1, hL_1⟩, hn_1⟩ := hI_1 _ _ hi_1
  cases hv
  have H := HB_1 n_1 t8_1 h_1 hJ_1 hL_1
  refine pop_lss .i64 t8_1 (s0_1.n : Int) ?_
  refine condM_b (fun hb_1 => ?_) (fun hb_1 => ?_)
  · have H := H.1 hb_1
    obtain ⟨hi_2, H⟩ := H
    refine pop_index sli25 siz3 .i64 s0_1 t8_1 hi_2 ?_
    obtain ⟨t15_1, hc_1, H⟩ := H
    refine rop_one one3 (VI t15_1) hc_1 ?_
    refine H.mono fun rv_1 h_2 H => ?_
    obtain ⟨t16_1, rfl, hL_2, H⟩ := H
    refine condM_b (fun hb_2 => ?_) (fun hb_2 => ?_)
    · have H := H.1 hb_2
      exact H
    · have H := H.2 hb_2
      refine pop_add .i64 t8_1 1 ?_
      obtain ⟨m_1, hm_1, H⟩ := H
      exact hn_1 _ _ ⟨m_1, hm_1, (w64 (t8_1 + 1)), rfl, H, hL_2⟩
  · have H := H.2 hb_1
    exact H

end Go.Proofs.Ytkphbhochacllaa
