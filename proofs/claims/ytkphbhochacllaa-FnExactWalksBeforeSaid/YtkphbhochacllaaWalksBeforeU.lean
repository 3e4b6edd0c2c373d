/-
  The same over typed data. Written by a program.
-/
import Derived.Test.YtkphbhochacllaaWalksBeforeT
import Derived.Test.YtkphbhochacllaaM2
set_option linter.unusedVariables false
set_option linter.unusedSimpArgs false
namespace Go.Proofs.Ytkphbhochacllaa
open Go Go.Mx
theorem agg24 : aggC Try.prog 24 = some 1 := by kernel_rfl
theorem agg27 : aggC Try.prog 27 = some 2 := by kernel_rfl
theorem agg34 : aggC Try.prog 34 = some 1 := by kernel_rfl
theorem agg35 : aggC Try.prog 35 = some 2 := by kernel_rfl
theorem boo4 : Try.prog.underlying 4 = some .bool := by kernel_rfl
theorem fld24_0 : fieldC Try.prog 24 0 = some 0 := by kernel_rfl
theorem fld27_0 : fieldC Try.prog 27 0 = some 0 := by kernel_rfl
theorem fld27_1 : fieldC Try.prog 27 1 = some 1 := by kernel_rfl
theorem fld34_0 : fieldC Try.prog 34 0 = some 0 := by kernel_rfl
theorem fld35_0 : fieldC Try.prog 35 0 = some 0 := by kernel_rfl
theorem fld35_1 : fieldC Try.prog 35 1 = some 1 := by kernel_rfl
theorem one22 : oneC Try.prog 22 = true := by kernel_rfl
theorem one25 : oneC Try.prog 25 = true := by kernel_rfl
theorem one3 : oneC Try.prog 3 = true := by kernel_rfl
theorem siz22 : sizeC Try.prog 22 = some 1 := by kernel_rfl
theorem siz24 : sizeC Try.prog 24 = some 1 := by kernel_rfl
theorem siz25 : sizeC Try.prog 25 = some 1 := by kernel_rfl
theorem siz27 : sizeC Try.prog 27 = some 2 := by kernel_rfl
theorem siz3 : sizeC Try.prog 3 = some 1 := by kernel_rfl
theorem sli22 : Try.prog.underlying 22 = some (.slice 25) := by kernel_rfl
theorem sli25 : Try.prog.underlying 25 = some (.slice 3) := by kernel_rfl
theorem sli59 : Try.prog.underlying 59 = some (.slice 27) := by kernel_rfl
theorem zer24 : zeroC Try.prog 24 = some (Value.agg #[(Sl.v nilSl)]) := by kernel_rfl
theorem zer27 : zeroC Try.prog 27 = some (Value.agg #[(Sl.v nilSl), (VI 0)]) := by kernel_rfl
theorem zer3 : zeroC Try.prog 3 = some (VI 0) := by kernel_rfl
/-! laws.FnExactWalksBefore -/
def u10 (P : Program) (aG0_1 : Sl) (aW1_1 : Sl) (aW1_2 : Int) (h : Heap) (K : Value → Heap → Prop) : Prop :=
  ∀ (b_1 : Nat) (b_2 : Nat) (h_2 : Heap), h.size ≤ b_1 → h.size ≤ b_2 → Fr (In []) h h_2 → Vars h_2 [(b_2, [(Sl.v aW1_1), (VI aW1_2)]), (b_1, [(Sl.v aG0_1)])] →
  callM P 24 #[(Value.agg #[(Sl.v aG0_1)]), (VI 1048576)] h_2 fun rv_1 h_3 => ∃ t19_1 : Int, rv_1 = (VI t19_1) ∧ Vars h_3 [(b_2, [(Sl.v aW1_1), (VI aW1_2)]), (b_1, [(Sl.v aG0_1)])] ∧
  ((decide (t19_1 < 0)) = true →
  K (VB true) h_3) ∧
  ((decide (t19_1 < 0)) = false →
  callM P 33 #[(Value.agg #[(Sl.v aW1_1), (VI aW1_2)]), (VI t19_1)] h_3 fun rv_2 h_4 => ∃ t24_1 : Int, rv_2 = (VI t24_1) ∧ Vars h_4 [(b_2, [(Sl.v aW1_1), (VI aW1_2)]), (b_1, [(Sl.v aG0_1)])] ∧
  ((decide (t24_1 < 0)) = true →
  K (VB true) h_4) ∧
  ((decide (t24_1 < 0)) = false →
  callM P 26 #[(Value.agg #[(Sl.v aG0_1)])] h_4 fun rv_3 h_5 => ∃ t29_1 : Sl, rv_3 = (Value.agg #[(Sl.v t29_1)]) ∧ Vars h_5 [(b_2, [(Sl.v aW1_1), (VI aW1_2)]), (b_1, [(Sl.v aG0_1)])] ∧
  callM P 35 #[(Value.agg #[(Sl.v aW1_1), (VI aW1_2)])] h_5 fun rv_4 h_6 => ∃ t31_1 : Sl, ∃ t31_2 : Int, rv_4 = (Value.agg #[(Sl.v t31_1), (VI t31_2)]) ∧ Vars h_6 [(b_2, [(Sl.v aW1_1), (VI aW1_2)]), (b_1, [(Sl.v aG0_1)])] ∧
  callM P 42 #[(Value.agg #[(Sl.v t29_1)]), (Value.agg #[(Sl.v t31_1), (VI t31_2)])] h_6 fun rv_5 h_7 => ∃ t32_1 : Sl, ∃ t32_2 : Bool, rv_5 = (Value.tuple #[(Sl.v t32_1), (VB t32_2)]) ∧ Vars h_7 [(b_2, [(Sl.v aW1_1), (VI aW1_2)]), (b_1, [(Sl.v aG0_1)])] ∧
  callM P 26 #[(Value.agg #[(Sl.v aG0_1)])] h_7 fun rv_6 h_8 => ∃ t36_1 : Sl, rv_6 = (Value.agg #[(Sl.v t36_1)]) ∧ Vars h_8 [(b_2, [(Sl.v aW1_1), (VI aW1_2)]), (b_1, [(Sl.v aG0_1)])] ∧
  ∀ (b_3 : Nat) (h_10 : Heap), h_8.size ≤ b_3 → Fr (In []) h_8 h_10 → Vars h_10 [(b_3, [(Sl.v t36_1)]), (b_2, [(Sl.v aW1_1), (VI aW1_2)]), (b_1, [(Sl.v aG0_1)])] →
  callM P 35 #[(Value.agg #[(Sl.v aW1_1), (VI aW1_2)])] h_10 fun rv_7 h_11 => ∃ t38_1 : Sl, ∃ t38_2 : Int, rv_7 = (Value.agg #[(Sl.v t38_1), (VI t38_2)]) ∧ Vars h_11 [(b_3, [(Sl.v t36_1)]), (b_2, [(Sl.v aW1_1), (VI aW1_2)]), (b_1, [(Sl.v aG0_1)])] ∧
  ∀ (b_4 : Nat) (h_13 : Heap), h_11.size ≤ b_4 → Fr (In []) h_11 h_13 → Vars h_13 [(b_4, [(Sl.v t38_1), (VI t38_2)]), (b_3, [(Sl.v t36_1)]), (b_2, [(Sl.v aW1_1), (VI aW1_2)]), (b_1, [(Sl.v aG0_1)])] →
  callM P 43 #[(Value.agg #[(Sl.v t36_1)]), (Value.agg #[(Sl.v t38_1), (VI t38_2)])] h_13 fun rv_8 h_14 => ∃ t42_1 : Sl, ∃ t42_2 : Bool, rv_8 = (Value.tuple #[(Sl.v t42_1), (VB t42_2)]) ∧ Vars h_14 [(b_4, [(Sl.v t38_1), (VI t38_2)]), (b_3, [(Sl.v t36_1)]), (b_2, [(Sl.v aW1_1), (VI aW1_2)]), (b_1, [(Sl.v aG0_1)])] ∧
  callM P 44 #[(Sl.v t42_1), (Sl.v t32_1)] h_14 fun rv_9 h_15 => ∃ t47_1 : Bool, rv_9 = (VB t47_1) ∧ Vars h_15 [(b_4, [(Sl.v t38_1), (VI t38_2)]), (b_3, [(Sl.v t36_1)]), (b_2, [(Sl.v aW1_1), (VI aW1_2)]), (b_1, [(Sl.v aG0_1)])] ∧
  ((!t47_1) = true →
  K (VB false) h_15) ∧
  ((!t47_1) = false →
  ((!(t42_2 == t32_2)) = true →
  K (VB false) h_15) ∧
  ((!(t42_2 == t32_2)) = false →
  callM P 26 #[(Value.agg #[(Sl.v aG0_1)])] h_15 fun rv_10 h_16 => ∃ t56_1 : Sl, rv_10 = (Value.agg #[(Sl.v t56_1)]) ∧ Vars h_16 [(b_4, [(Sl.v t38_1), (VI t38_2)]), (b_3, [(Sl.v t36_1)]), (b_2, [(Sl.v aW1_1), (VI aW1_2)]), (b_1, [(Sl.v aG0_1)])] ∧
  callM P 28 #[(Value.agg #[(Sl.v t36_1)]), (Value.agg #[(Sl.v t56_1)])] h_16 fun rv_11 h_17 => ∃ t57_1 : Bool, rv_11 = (VB t57_1) ∧ Vars h_17 [(b_4, [(Sl.v t38_1), (VI t38_2)]), (b_3, [(Sl.v t36_1)]), (b_2, [(Sl.v aW1_1), (VI aW1_2)]), (b_1, [(Sl.v aG0_1)])] ∧
  ((!t57_1) = true →
  K (VB false) h_17) ∧
  ((!t57_1) = false →
  callM P 35 #[(Value.agg #[(Sl.v aW1_1), (VI aW1_2)])] h_17 fun rv_12 h_18 => ∃ t61_1 : Sl, ∃ t61_2 : Int, rv_12 = (Value.agg #[(Sl.v t61_1), (VI t61_2)]) ∧ Vars h_18 [(b_4, [(Sl.v t38_1), (VI t38_2)]), (b_3, [(Sl.v t36_1)]), (b_2, [(Sl.v aW1_1), (VI aW1_2)]), (b_1, [(Sl.v aG0_1)])] ∧
  callM P 37 #[(Value.agg #[(Sl.v t38_1), (VI t38_2)]), (Value.agg #[(Sl.v t61_1), (VI t61_2)])] h_18 fun rv_13 h_19 => ∃ t62_1 : Bool, rv_13 = (VB t62_1) ∧ Vars h_19 [(b_4, [(Sl.v t38_1), (VI t38_2)]), (b_3, [(Sl.v t36_1)]), (b_2, [(Sl.v aW1_1), (VI aW1_2)]), (b_1, [(Sl.v aG0_1)])] ∧
  ((!t62_1) = true →
  K (VB false) h_19) ∧
  ((!t62_1) = false →
  callM P 29 #[(Value.agg #[(Sl.v t36_1)]), (VI 1)] h_19 fun rv_14 h_20 => ∃ t66_1 : Int, rv_14 = (VI t66_1) ∧ Vars h_20 [(b_4, [(Sl.v t38_1), (VI t38_2)]), (b_3, [(Sl.v t36_1)]), (b_2, [(Sl.v aW1_1), (VI aW1_2)]), (b_1, [(Sl.v aG0_1)])] ∧
  callM P 45 #[(Value.agg #[(Sl.v t38_1), (VI t38_2)]), (VI t66_1)] h_20 fun rv_15 h_21 => ∃ t69_1 : Int, rv_15 = (VI t69_1) ∧ Vars h_21 [(b_4, [(Sl.v t38_1), (VI t38_2)]), (b_3, [(Sl.v t36_1)]), (b_2, [(Sl.v aW1_1), (VI aW1_2)]), (b_1, [(Sl.v aG0_1)])] ∧
  ((decide (t69_1 < 0)) = true →
  K (VB false) h_21) ∧
  ((decide (t69_1 < 0)) = false →
  callM P 44 #[(Sl.v t42_1), (Sl.v t32_1)] h_21 fun rv_16 h_22 => ∃ t75_1 : Bool, rv_16 = (VB t75_1) ∧ Vars h_22 [(b_4, [(Sl.v t38_1), (VI t38_2)]), (b_3, [(Sl.v t36_1)]), (b_2, [(Sl.v aW1_1), (VI aW1_2)]), (b_1, [(Sl.v aG0_1)])] ∧
  ((!t75_1) = true →
  K (VB false) h_22) ∧
  ((!t75_1) = false →
  callM P 46 #[(Sl.v t42_1), (VI 1)] h_22 fun rv_17 h_23 => ∃ t85_1 : Int, rv_17 = (VI t85_1) ∧ Vars h_23 [(b_4, [(Sl.v t38_1), (VI t38_2)]), (b_3, [(Sl.v t36_1)]), (b_2, [(Sl.v aW1_1), (VI aW1_2)]), (b_1, [(Sl.v aG0_1)])] ∧
  callM P 47 #[(Sl.v t42_1), (VI 1)] h_23 fun rv_18 h_24 => ∃ t88_1 : Int, rv_18 = (VI t88_1) ∧ Vars h_24 [(b_4, [(Sl.v t38_1), (VI t38_2)]), (b_3, [(Sl.v t36_1)]), (b_2, [(Sl.v aW1_1), (VI aW1_2)]), (b_1, [(Sl.v aG0_1)])] ∧
  ((decide (t88_1 < 0)) = true →
  K (VB false) h_24) ∧
  ((decide (t88_1 < 0)) = false →
  ((!decide (t88_1 = t85_1)) = true →
  K (VB false) h_24) ∧
  ((!decide (t88_1 = t85_1)) = false →
  callM P 26 #[(Value.agg #[(Sl.v aG0_1)])] h_24 fun rv_19 h_25 => ∃ t96_1 : Sl, rv_19 = (Value.agg #[(Sl.v t96_1)]) ∧ Vars h_25 [(b_4, [(Sl.v t38_1), (VI t38_2)]), (b_3, [(Sl.v t36_1)]), (b_2, [(Sl.v aW1_1), (VI aW1_2)]), (b_1, [(Sl.v aG0_1)])] ∧
  callM P 35 #[(Value.agg #[(Sl.v aW1_1), (VI aW1_2)])] h_25 fun rv_20 h_26 => ∃ t98_1 : Sl, ∃ t98_2 : Int, rv_20 = (Value.agg #[(Sl.v t98_1), (VI t98_2)]) ∧ Vars h_26 [(b_4, [(Sl.v t38_1), (VI t38_2)]), (b_3, [(Sl.v t36_1)]), (b_2, [(Sl.v aW1_1), (VI aW1_2)]), (b_1, [(Sl.v aG0_1)])] ∧
  callM P 43 #[(Value.agg #[(Sl.v t96_1)]), (Value.agg #[(Sl.v t98_1), (VI t98_2)])] h_26 fun rv_21 h_27 => ∃ t99_1 : Sl, ∃ t99_2 : Bool, rv_21 = (Value.tuple #[(Sl.v t99_1), (VB t99_2)]) ∧ Vars h_27 [(b_4, [(Sl.v t38_1), (VI t38_2)]), (b_3, [(Sl.v t36_1)]), (b_2, [(Sl.v aW1_1), (VI aW1_2)]), (b_1, [(Sl.v aG0_1)])] ∧
  callM P 44 #[(Sl.v t99_1), (Sl.v t32_1)] h_27 fun rv_22 h_28 => ∃ t104_1 : Bool, rv_22 = (VB t104_1) ∧ Vars h_28 [(b_4, [(Sl.v t38_1), (VI t38_2)]), (b_3, [(Sl.v t36_1)]), (b_2, [(Sl.v aW1_1), (VI aW1_2)]), (b_1, [(Sl.v aG0_1)])] ∧
  ((!t104_1) = true →
  K (VB false) h_28) ∧
  ((!t104_1) = false →
  ((!(t99_2 == t32_2)) = true →
  K (VB false) h_28) ∧
  ((!(t99_2 == t32_2)) = false →
  callM P 47 #[(Sl.v t42_1), (VI 1)] h_28 fun rv_23 h_29 => ∃ t113_1 : Int, rv_23 = (VI t113_1) ∧ Vars h_29 [(b_4, [(Sl.v t38_1), (VI t38_2)]), (b_3, [(Sl.v t36_1)]), (b_2, [(Sl.v aW1_1), (VI aW1_2)]), (b_1, [(Sl.v aG0_1)])] ∧
  ((decide (t113_1 < 0)) = true →
  K (VB false) h_29) ∧
  ((decide (t113_1 < 0)) = false →
  ((!decide (t113_1 = t85_1)) = true →
  K (VB false) h_29) ∧
  ((!decide (t113_1 = t85_1)) = false →
  K (VB true) h_29))))))))))))))
theorem v10 (aG0_1 : Sl) (aW1_1 : Sl) (aW1_2 : Int) (h : Heap) (K : Value → Heap → Prop) (H : u10 Try.prog aG0_1 aW1_1 aW1_2 h K) : callM Try.prog 10 #[(Value.agg #[(Sl.v aG0_1)]), (Value.agg #[(Sl.v aW1_1), (VI aW1_2)])] h K := by
  refine c10 (Value.agg #[(Sl.v aG0_1)]) (Value.agg #[(Sl.v aW1_1), (VI aW1_2)]) h K ?_
  unfold u10 at H
  unfold t10
  have hL : Vars h [] := .nil
  refine eop_box 34 (Value.agg #[(Sl.v aG0_1)]) rfl hL (fun b_1 h_1 hb_1 hf_1 hL_1 => ?_)
  refine eop_box 35 (Value.agg #[(Sl.v aW1_1), (VI aW1_2)]) rfl hL_1 (fun b_2 h_2 hb_2 hf_2 hL_2 => ?_)
  refine rop_locA agg34 hL_2 1 rfl 0 (vs := [(Sl.v aG0_1)]) rfl rfl ?_
  have H := H b_1 b_2 h_2 (Nat.le_trans (Fr.size (Fr.r (In []) _)) hb_1) (Nat.le_trans (Fr.size (Fr.no' (Fr.r (In []) _) hf_1)) hb_2) (Fr.no' (Fr.no' (Fr.r (In []) _) hf_1) hf_2) hL_2
  refine H.mono fun rv_1 h_3 H => ?_
  obtain ⟨t19_1, rfl, hL_3, H⟩ := H
  refine pop_lss .i64 t19_1 0 ?_
  refine condM_b (fun hb_3 => ?_) (fun hb_3 => ?_)
  · have H := H.1 hb_3
    exact H
  · have H := H.2 hb_3
    refine rop_locA agg35 hL_3 0 rfl 0 (vs := [(Sl.v aW1_1), (VI aW1_2)]) rfl rfl ?_
    refine H.mono fun rv_2 h_4 H => ?_
    obtain ⟨t24_1, rfl, hL_4, H⟩ := H
    refine pop_lss .i64 t24_1 0 ?_
    refine condM_b (fun hb_4 => ?_) (fun hb_4 => ?_)
    · have H := H.1 hb_4
      exact H
    · have H := H.2 hb_4
      refine rop_locA agg34 hL_4 1 rfl 0 (vs := [(Sl.v aG0_1)]) rfl rfl ?_
      refine rop_locA agg35 hL_4 0 rfl 0 (vs := [(Sl.v aW1_1), (VI aW1_2)]) rfl rfl ?_
      refine H.mono fun rv_3 h_5 H => ?_
      obtain ⟨t29_1, rfl, hL_5, H⟩ := H
      refine ⟨?_, ?_⟩
      · exact still_locA agg35 hL_5 0 rfl 0 (vs := [(Sl.v aW1_1), (VI aW1_2)]) rfl rfl
      refine H.mono fun rv_4 h_6 H => ?_
      obtain ⟨t31_1, t31_2, rfl, hL_6, H⟩ := H
      refine H.mono fun rv_5 h_7 H => ?_
      obtain ⟨t32_1, t32_2, rfl, hL_7, H⟩ := H
      refine pop_ext (v := (Sl.v t32_1)) rfl ?_
      refine pop_ext (v := (VB t32_2)) rfl ?_
      refine rop_locA agg34 hL_7 1 rfl 0 (vs := [(Sl.v aG0_1)]) rfl rfl ?_
      refine H.mono fun rv_6 h_8 H => ?_
      obtain ⟨t36_1, rfl, hL_8, H⟩ := H
      refine eop_alloc 24 zer24 rfl hL_8 (fun b_3 h_9 hb_5 hf_3 hL_9 => ?_)
      refine uop_loc siz24 hL_9 0 rfl 0 [(Sl.v t36_1)] rfl rfl rfl (Nat.le_of_ble_eq_true rfl) (L' := [(b_3, [(Sl.v t36_1)]), (b_2, [(Sl.v aW1_1), (VI aW1_2)]), (b_1, [(Sl.v aG0_1)])]) rfl (fun h_10 hf_4 hL_10 => ?_)
      refine rop_locA agg35 hL_10 1 rfl 0 (vs := [(Sl.v aW1_1), (VI aW1_2)]) rfl rfl ?_
      have H := H b_3 h_10 (Nat.le_trans (Fr.size (Fr.r (In []) _)) hb_5) (Fr.new (Fr.no' (Fr.r (In []) _) hf_3) (Nat.le_trans (Fr.size (Fr.r (In []) _)) hb_5) hf_4) hL_10
      refine H.mono fun rv_7 h_11 H => ?_
      obtain ⟨t38_1, t38_2, rfl, hL_11, H⟩ := H
      refine eop_alloc 27 zer27 rfl hL_11 (fun b_4 h_12 hb_6 hf_5 hL_12 => ?_)
      refine uop_loc siz27 hL_12 0 rfl 0 [(Sl.v t38_1), (VI t38_2)] rfl rfl rfl (Nat.le_of_ble_eq_true rfl) (L' := [(b_4, [(Sl.v t38_1), (VI t38_2)]), (b_3, [(Sl.v t36_1)]), (b_2, [(Sl.v aW1_1), (VI aW1_2)]), (b_1, [(Sl.v aG0_1)])]) rfl (fun h_13 hf_6 hL_13 => ?_)
      refine rop_locA agg24 hL_13 1 rfl 0 (vs := [(Sl.v t36_1)]) rfl rfl ?_
      refine rop_locA agg27 hL_13 0 rfl 0 (vs := [(Sl.v t38_1), (VI t38_2)]) rfl rfl ?_
      have H := H b_4 h_13 (Nat.le_trans (Fr.size (Fr.r (In []) _)) hb_6) (Fr.new (Fr.no' (Fr.r (In []) _) hf_5) (Nat.le_trans (Fr.size (Fr.r (In []) _)) hb_6) hf_6) hL_13
      refine H.mono fun rv_8 h_14 H => ?_
      obtain ⟨t42_1, t42_2, rfl, hL_14, H⟩ := H
      refine pop_ext (v := (Sl.v t42_1)) rfl ?_
      refine pop_ext (v := (VB t42_2)) rfl ?_
      refine H.mono fun rv_9 h_15 H => ?_
      obtain ⟨t47_1, rfl, hL_15, H⟩ := H
      refine pop_not t47_1 ?_
      refine guardM_sf (fun hb_7 => ?_) (fun hb_7 => ?_)
      · have H := H.2 hb_7
        refine guardM_y' hb_7 ?_
        refine guardM_y' hb_7 ?_
        refine pop_bne boo4 _ _ t42_2 t32_2 ?_
        refine pop_pickf' hb_7 ?_
        refine condM_b (fun hb_8 => ?_) (fun hb_8 => ?_)
        · have H := H.1 hb_8
          exact H
        · have H := H.2 hb_8
          refine rop_locA agg24 hL_15 1 rfl 0 (vs := [(Sl.v t36_1)]) rfl rfl ?_
          refine rop_locA agg34 hL_15 3 rfl 0 (vs := [(Sl.v aG0_1)]) rfl rfl ?_
          refine H.mono fun rv_10 h_16 H => ?_
          obtain ⟨t56_1, rfl, hL_16, H⟩ := H
          refine ⟨?_, ?_⟩
          · exact still_locA agg24 hL_16 1 rfl 0 (vs := [(Sl.v t36_1)]) rfl rfl
          refine H.mono fun rv_11 h_17 H => ?_
          obtain ⟨t57_1, rfl, hL_17, H⟩ := H
          refine pop_not t57_1 ?_
          refine condM_b (fun hb_9 => ?_) (fun hb_9 => ?_)
          · have H := H.1 hb_9
            exact H
          · have H := H.2 hb_9
            refine rop_locA agg27 hL_17 0 rfl 0 (vs := [(Sl.v t38_1), (VI t38_2)]) rfl rfl ?_
            refine rop_locA agg35 hL_17 2 rfl 0 (vs := [(Sl.v aW1_1), (VI aW1_2)]) rfl rfl ?_
            refine H.mono fun rv_12 h_18 H => ?_
            obtain ⟨t61_1, t61_2, rfl, hL_18, H⟩ := H
            refine ⟨?_, ?_⟩
            · exact still_locA agg27 hL_18 0 rfl 0 (vs := [(Sl.v t38_1), (VI t38_2)]) rfl rfl
            refine H.mono fun rv_13 h_19 H => ?_
            obtain ⟨t62_1, rfl, hL_19, H⟩ := H
            refine pop_not t62_1 ?_
            refine condM_b (fun hb_10 => ?_) (fun hb_10 => ?_)
            · have H := H.1 hb_10
              exact H
            · have H := H.2 hb_10
              refine rop_locA agg24 hL_19 1 rfl 0 (vs := [(Sl.v t36_1)]) rfl rfl ?_
              refine H.mono fun rv_14 h_20 H => ?_
              obtain ⟨t66_1, rfl, hL_20, H⟩ := H
              refine rop_locA agg27 hL_20 0 rfl 0 (vs := [(Sl.v t38_1), (VI t38_2)]) rfl rfl ?_
              refine H.mono fun rv_15 h_21 H => ?_
              obtain ⟨t69_1, rfl, hL_21, H⟩ := H
              refine pop_lss .i64 t69_1 0 ?_
              refine guardM_sf (fun hb_11 => ?_) (fun hb_11 => ?_)
              · have H := H.2 hb_11
                refine guardM_y' hb_11 ?_
                refine guardM_y' hb_11 ?_
                refine H.mono fun rv_16 h_22 H => ?_
                obtain ⟨t75_1, rfl, hL_22, H⟩ := H
                refine guardM_y' hb_11 ?_
                refine pop_not t75_1 ?_
                refine pop_pickf' hb_11 ?_
                refine guardM_sf (fun hb_12 => ?_) (fun hb_12 => ?_)
                · have H := H.2 hb_12
                  refine guardM_y' hb_12 ?_
                  refine guardM_y' hb_12 ?_
                  refine pop_bne boo4 _ _ t42_2 t32_2 ?_
                  refine pop_pickf' hb_12 ?_
                  refine condM_f' hb_8 ?_
                  refine H.mono fun rv_17 h_23 H => ?_
                  obtain ⟨t85_1, rfl, hL_23, H⟩ := H
                  refine H.mono fun rv_18 h_24 H => ?_
                  obtain ⟨t88_1, rfl, hL_24, H⟩ := H
                  refine pop_lss .i64 t88_1 0 ?_
                  refine condM_b (fun hb_13 => ?_) (fun hb_13 => ?_)
                  · have H := H.1 hb_13
                    exact H
                  · have H := H.2 hb_13
                    refine pop_ine .i64 _ _ t88_1 t85_1 ?_
                    refine condM_b (fun hb_14 => ?_) (fun hb_14 => ?_)
                    · have H := H.1 hb_14
                      exact H
                    · have H := H.2 hb_14
                      refine rop_locA agg34 hL_24 3 rfl 0 (vs := [(Sl.v aG0_1)]) rfl rfl ?_
                      refine rop_locA agg35 hL_24 2 rfl 0 (vs := [(Sl.v aW1_1), (VI aW1_2)]) rfl rfl ?_
                      refine H.mono fun rv_19 h_25 H => ?_
                      obtain ⟨t96_1, rfl, hL_25, H⟩ := H
                      refine ⟨?_, ?_⟩
                      · exact still_locA agg35 hL_25 2 rfl 0 (vs := [(Sl.v aW1_1), (VI aW1_2)]) rfl rfl
                      refine H.mono fun rv_20 h_26 H => ?_
                      obtain ⟨t98_1, t98_2, rfl, hL_26, H⟩ := H
                      refine H.mono fun rv_21 h_27 H => ?_
                      obtain ⟨t99_1, t99_2, rfl, hL_27, H⟩ := H
                      refine pop_ext (v := (Sl.v t99_1)) rfl ?_
                      refine pop_ext (v := (VB t99_2)) rfl ?_
                      refine H.mono fun rv_22 h_28 H => ?_
                      obtain ⟨t104_1, rfl, hL_28, H⟩ := H
                      refine pop_not t104_1 ?_
                      refine guardM_sf (fun hb_15 => ?_) (fun hb_15 => ?_)
                      · have H := H.2 hb_15
                        refine guardM_y' hb_15 ?_
                        refine guardM_y' hb_15 ?_
                        refine pop_bne boo4 _ _ t99_2 t32_2 ?_
                        refine pop_pickf' hb_15 ?_
                        refine condM_b (fun hb_16 => ?_) (fun hb_16 => ?_)
                        · have H := H.1 hb_16
                          exact H
                        · have H := H.2 hb_16
                          refine H.mono fun rv_23 h_29 H => ?_
                          obtain ⟨t113_1, rfl, hL_29, H⟩ := H
                          refine pop_lss .i64 t113_1 0 ?_
                          refine condM_b (fun hb_17 => ?_) (fun hb_17 => ?_)
                          · have H := H.1 hb_17
                            exact H
                          · have H := H.2 hb_17
                            refine pop_ine .i64 _ _ t113_1 t85_1 ?_
                            refine condM_b (fun hb_18 => ?_) (fun hb_18 => ?_)
                            · have H := H.1 hb_18
                              exact H
                            · have H := H.2 hb_18
                              exact H
                      · have H := H.1 hb_15
                        refine guardM_n' hb_15 (by decide) ?_
                        refine guardM_n' hb_15 (by decide) ?_
                        refine pop_pickt' hb_15 ?_
                        refine condM_t ?_
                        exact H
                · have H := H.1 hb_12
                  refine guardM_n' hb_12 (by decide) ?_
                  refine guardM_n' hb_12 (by decide) ?_
                  refine pop_pickt' hb_12 ?_
                  refine condM_t ?_
                  exact H
              · have H := H.1 hb_11
                refine guardM_n' hb_11 (by decide) ?_
                refine guardM_n' hb_11 (by decide) ?_
                refine guardM_n' hb_11 (by decide) ?_
                refine pop_pickt' hb_11 ?_
                refine guardM_n (by decide) ?_
                refine guardM_n (by decide) ?_
                refine guardM_n (by decide) ?_
                refine pop_pickt _ _ ?_
                refine condM_t ?_
                exact H
      · have H := H.1 hb_7
        refine guardM_n' hb_7 (by decide) ?_
        refine guardM_n' hb_7 (by decide) ?_
        refine pop_pickt' hb_7 ?_
        refine condM_t ?_
        exact H

/-! laws.szGraph -/
def u24 (P : Program) (a0_1 : Sl) (left1_1 : Int) (h : Heap) (K : Value → Heap → Prop) : Prop :=
  ∀ (b_1 : Nat) (h_1 : Heap), h.size ≤ b_1 → Fr (In []) h h_1 → Vars h_1 [(b_1, [(Sl.v a0_1)])] →
  callM P 63 #[(Sl.v a0_1), (VI left1_1)] h_1 fun rv_1 h_2 => ∃ t8_1 : Int, rv_1 = (VI t8_1) ∧ Vars h_2 [(b_1, [(Sl.v a0_1)])] ∧
  ((decide (t8_1 < 0)) = true →
  K (VI (-1)) h_2) ∧
  ((decide (t8_1 < 0)) = false →
  K (VI t8_1) h_2)
theorem v24 (a0_1 : Sl) (left1_1 : Int) (h : Heap) (K : Value → Heap → Prop) (H : u24 Try.prog a0_1 left1_1 h K) : callM Try.prog 24 #[(Value.agg #[(Sl.v a0_1)]), (VI left1_1)] h K := by
  refine c24 (Value.agg #[(Sl.v a0_1)]) (VI left1_1) h K ?_
  unfold u24 at H
  unfold t24
  have hL : Vars h [] := .nil
  refine eop_box 34 (Value.agg #[(Sl.v a0_1)]) rfl hL (fun b_1 h_1 hb_1 hf_1 hL_1 => ?_)
  refine pop_field 0 fld34_0 b_1 0 ?_
  refine rop_loc one22 hL_1 0 rfl 0 (v := (Sl.v a0_1)) rfl ?_
  have H := H b_1 h_1 (Nat.le_trans (Fr.size (Fr.r (In []) _)) hb_1) (Fr.no' (Fr.r (In []) _) hf_1) hL_1
  refine H.mono fun rv_1 h_2 H => ?_
  obtain ⟨t8_1, rfl, hL_2, H⟩ := H
  refine pop_lss .i64 t8_1 0 ?_
  refine condM_b (fun hb_2 => ?_) (fun hb_2 => ?_)
  · have H := H.1 hb_2
    exact H
  · have H := H.2 hb_2
    exact H

/-! laws.toGraph -/
def u26 (P : Program) (a0_1 : Sl) (h : Heap) (K : Value → Heap → Prop) : Prop :=
  ∀ (b_1 : Nat) (b_2 : Nat) (b_3 : Nat) (h_3 : Heap), h.size ≤ b_1 → h.size ≤ b_2 → h.size ≤ b_3 → Fr (In []) h h_3 → Vars h_3 [(b_3, [(Sl.v nilSl)]), (b_2, [(Sl.v nilSl)]), (b_1, [(Sl.v a0_1)])] →
  callM P 67 #[(Sl.v a0_1)] h_3 fun rv_1 h_4 => ∃ t6_1 : Sl, rv_1 = (Sl.v t6_1) ∧ Vars h_4 [(b_3, [(Sl.v nilSl)]), (b_2, [(Sl.v nilSl)]), (b_1, [(Sl.v a0_1)])] ∧
  ∀ (h_6 : Heap), Fr (In [b_2, b_3]) h_4 h_6 → Vars h_6 [(b_3, [(Sl.v t6_1)]), (b_2, [(Sl.v t6_1)]), (b_1, [(Sl.v a0_1)])] →
  K (Value.agg #[(Sl.v t6_1)]) h_6
theorem v26 (a0_1 : Sl) (h : Heap) (K : Value → Heap → Prop) (H : u26 Try.prog a0_1 h K) : callM Try.prog 26 #[(Value.agg #[(Sl.v a0_1)])] h K := by
  refine c26 (Value.agg #[(Sl.v a0_1)]) h K ?_
  unfold u26 at H
  unfold t26
  have hL : Vars h [] := .nil
  refine eop_box 34 (Value.agg #[(Sl.v a0_1)]) rfl hL (fun b_1 h_1 hb_1 hf_1 hL_1 => ?_)
  refine eop_alloc 24 zer24 rfl hL_1 (fun b_2 h_2 hb_2 hf_2 hL_2 => ?_)
  refine eop_alloc 24 zer24 rfl hL_2 (fun b_3 h_3 hb_3 hf_3 hL_3 => ?_)
  refine pop_field 0 fld34_0 b_1 0 ?_
  refine rop_loc one22 hL_3 2 rfl 0 (v := (Sl.v a0_1)) rfl ?_
  have H := H b_1 b_2 b_3 h_3 (Nat.le_trans (Fr.size (Fr.r (In []) _)) hb_1) (Nat.le_trans (Fr.size (Fr.no' (Fr.r (In []) _) hf_1)) hb_2) (Nat.le_trans (Fr.size (Fr.no' (Fr.no' (Fr.r (In []) _) hf_1) hf_2)) hb_3) (Fr.no' (Fr.no' (Fr.no' (Fr.r (In []) _) hf_1) hf_2) hf_3) hL_3
  refine H.mono fun rv_1 h_4 H => ?_
  obtain ⟨t6_1, rfl, hL_4, H⟩ := H
  refine pop_field 0 fld24_0 b_3 0 ?_
  refine uop_loc siz22 hL_4 0 rfl 0 [(Sl.v t6_1)] rfl rfl rfl (Nat.le_of_ble_eq_true rfl) (L' := [(b_3, [(Sl.v t6_1)]), (b_2, [(Sl.v nilSl)]), (b_1, [(Sl.v a0_1)])]) rfl (fun h_5 hf_4 hL_5 => ?_)
  refine rop_locA agg24 hL_5 0 rfl 0 (vs := [(Sl.v t6_1)]) rfl rfl ?_
  refine uop_loc siz24 hL_5 1 rfl 0 [(Sl.v t6_1)] rfl rfl rfl (Nat.le_of_ble_eq_true rfl) (L' := [(b_3, [(Sl.v t6_1)]), (b_2, [(Sl.v t6_1)]), (b_1, [(Sl.v a0_1)])]) rfl (fun h_6 hf_5 hL_6 => ?_)
  refine rop_locA agg24 hL_6 1 rfl 0 (vs := [(Sl.v t6_1)]) rfl rfl ?_
  have H := H  h_6  (Fr.old (Fr.old (Fr.r (In []) _) hf_4) hf_5) hL_6
  exact H

/-! laws.eqGraph -/
def u28 (P : Program) (a0_1 : Sl) (b1_1 : Sl) (h : Heap) (K : Value → Heap → Prop) : Prop :=
  ∀ (b_1 : Nat) (b_2 : Nat) (h_2 : Heap), h.size ≤ b_1 → h.size ≤ b_2 → Fr (In []) h h_2 → Vars h_2 [(b_2, [(Sl.v b1_1)]), (b_1, [(Sl.v a0_1)])] →
  callM P 71 #[(Sl.v a0_1), (Sl.v b1_1)] h_2 fun rv_1 h_3 => ∃ t9_1 : Bool, rv_1 = (VB t9_1) ∧ Vars h_3 [(b_2, [(Sl.v b1_1)]), (b_1, [(Sl.v a0_1)])] ∧
  ((!t9_1) = true →
  K (VB false) h_3) ∧
  ((!t9_1) = false →
  K (VB true) h_3)
theorem v28 (a0_1 : Sl) (b1_1 : Sl) (h : Heap) (K : Value → Heap → Prop) (H : u28 Try.prog a0_1 b1_1 h K) : callM Try.prog 28 #[(Value.agg #[(Sl.v a0_1)]), (Value.agg #[(Sl.v b1_1)])] h K := by
  refine c28 (Value.agg #[(Sl.v a0_1)]) (Value.agg #[(Sl.v b1_1)]) h K ?_
  unfold u28 at H
  unfold t28
  have hL : Vars h [] := .nil
  refine eop_box 24 (Value.agg #[(Sl.v a0_1)]) rfl hL (fun b_1 h_1 hb_1 hf_1 hL_1 => ?_)
  refine eop_box 24 (Value.agg #[(Sl.v b1_1)]) rfl hL_1 (fun b_2 h_2 hb_2 hf_2 hL_2 => ?_)
  refine pop_field 0 fld24_0 b_1 0 ?_
  refine rop_loc one22 hL_2 1 rfl 0 (v := (Sl.v a0_1)) rfl ?_
  refine pop_field 0 fld24_0 b_2 0 ?_
  refine rop_loc one22 hL_2 0 rfl 0 (v := (Sl.v b1_1)) rfl ?_
  have H := H b_1 b_2 h_2 (Nat.le_trans (Fr.size (Fr.r (In []) _)) hb_1) (Nat.le_trans (Fr.size (Fr.no' (Fr.r (In []) _) hf_1)) hb_2) (Fr.no' (Fr.no' (Fr.r (In []) _) hf_1) hf_2) hL_2
  refine H.mono fun rv_1 h_3 H => ?_
  obtain ⟨t9_1, rfl, hL_3, H⟩ := H
  refine pop_not t9_1 ?_
  refine condM_b (fun hb_3 => ?_) (fun hb_3 => ?_)
  · have H := H.1 hb_3
    exact H
  · have H := H.2 hb_3
    exact H

/-! laws.markGraph -/
def u29 (P : Program) (a0_1 : Sl) (k1_1 : Int) (h : Heap) (K : Value → Heap → Prop) : Prop :=
  ∀ (b_1 : Nat) (h_1 : Heap), h.size ≤ b_1 → Fr (In []) h h_1 → Vars h_1 [(b_1, [(Sl.v a0_1)])] →
  callM P 72 #[(Sl.v a0_1), (VI k1_1)] h_1 fun rv_1 h_2 => ∃ t8_1 : Int, rv_1 = (VI t8_1) ∧ Vars h_2 [(b_1, [(Sl.v a0_1)])] ∧
  K (VI t8_1) h_2
theorem v29 (a0_1 : Sl) (k1_1 : Int) (h : Heap) (K : Value → Heap → Prop) (H : u29 Try.prog a0_1 k1_1 h K) : callM Try.prog 29 #[(Value.agg #[(Sl.v a0_1)]), (VI k1_1)] h K := by
  refine c29 (Value.agg #[(Sl.v a0_1)]) (VI k1_1) h K ?_
  unfold u29 at H
  unfold t29
  have hL : Vars h [] := .nil
  refine eop_box 24 (Value.agg #[(Sl.v a0_1)]) rfl hL (fun b_1 h_1 hb_1 hf_1 hL_1 => ?_)
  refine pop_field 0 fld24_0 b_1 0 ?_
  refine rop_loc one22 hL_1 0 rfl 0 (v := (Sl.v a0_1)) rfl ?_
  have H := H b_1 h_1 (Nat.le_trans (Fr.size (Fr.r (In []) _)) hb_1) (Fr.no' (Fr.r (In []) _) hf_1) hL_1
  refine H.mono fun rv_1 h_2 H => ?_
  obtain ⟨t8_1, rfl, hL_2, H⟩ := H
  exact H

/-! laws.szWalk -/
def u33 (P : Program) (a0_1 : Sl) (a0_2 : Int) (left1_1 : Int) (h : Heap) (K : Value → Heap → Prop) : Prop :=
  ∀ (b_1 : Nat) (h_1 : Heap), h.size ≤ b_1 → Fr (In []) h h_1 → Vars h_1 [(b_1, [(Sl.v a0_1), (VI a0_2)])] →
  callM P 77 #[(Sl.v a0_1), (VI left1_1)] h_1 fun rv_1 h_2 => ∃ t8_1 : Int, rv_1 = (VI t8_1) ∧ Vars h_2 [(b_1, [(Sl.v a0_1), (VI a0_2)])] ∧
  ((decide (t8_1 < 0)) = true →
  K (VI (-1)) h_2) ∧
  ((decide (t8_1 < 0)) = false →
  K (VI t8_1) h_2)
theorem v33 (a0_1 : Sl) (a0_2 : Int) (left1_1 : Int) (h : Heap) (K : Value → Heap → Prop) (H : u33 Try.prog a0_1 a0_2 left1_1 h K) : callM Try.prog 33 #[(Value.agg #[(Sl.v a0_1), (VI a0_2)]), (VI left1_1)] h K := by
  refine c33 (Value.agg #[(Sl.v a0_1), (VI a0_2)]) (VI left1_1) h K ?_
  unfold u33 at H
  unfold t33
  have hL : Vars h [] := .nil
  refine eop_box 35 (Value.agg #[(Sl.v a0_1), (VI a0_2)]) rfl hL (fun b_1 h_1 hb_1 hf_1 hL_1 => ?_)
  refine pop_field 0 fld35_0 b_1 0 ?_
  refine rop_loc one25 hL_1 0 rfl 0 (v := (Sl.v a0_1)) rfl ?_
  have H := H b_1 h_1 (Nat.le_trans (Fr.size (Fr.r (In []) _)) hb_1) (Fr.no' (Fr.r (In []) _) hf_1) hL_1
  refine H.mono fun rv_1 h_2 H => ?_
  obtain ⟨t8_1, rfl, hL_2, H⟩ := H
  refine pop_lss .i64 t8_1 0 ?_
  refine condM_b (fun hb_2 => ?_) (fun hb_2 => ?_)
  · have H := H.1 hb_2
    exact H
  · have H := H.2 hb_2
    exact H

/-! laws.toWalk -/
def u35 (P : Program) (a0_1 : Sl) (a0_2 : Int) (h : Heap) (K : Value → Heap → Prop) : Prop :=
  ∀ (b_1 : Nat) (b_2 : Nat) (b_3 : Nat) (h_3 : Heap), h.size ≤ b_1 → h.size ≤ b_2 → h.size ≤ b_3 → Fr (In []) h h_3 → Vars h_3 [(b_3, [(Sl.v nilSl), (VI 0)]), (b_2, [(Sl.v nilSl), (VI 0)]), (b_1, [(Sl.v a0_1), (VI a0_2)])] →
  callM P 80 #[(Sl.v a0_1)] h_3 fun rv_1 h_4 => ∃ t6_1 : Sl, rv_1 = (Sl.v t6_1) ∧ Vars h_4 [(b_3, [(Sl.v nilSl), (VI 0)]), (b_2, [(Sl.v nilSl), (VI 0)]), (b_1, [(Sl.v a0_1), (VI a0_2)])] ∧
  ∀ (h_7 : Heap), Fr (In [b_2, b_3, b_3]) h_4 h_7 → Vars h_7 [(b_3, [(Sl.v t6_1), (VI a0_2)]), (b_2, [(Sl.v t6_1), (VI a0_2)]), (b_1, [(Sl.v a0_1), (VI a0_2)])] →
  K (Value.agg #[(Sl.v t6_1), (VI a0_2)]) h_7
theorem v35 (a0_1 : Sl) (a0_2 : Int) (h : Heap) (K : Value → Heap → Prop) (H : u35 Try.prog a0_1 a0_2 h K) : callM Try.prog 35 #[(Value.agg #[(Sl.v a0_1), (VI a0_2)])] h K := by
  refine c35 (Value.agg #[(Sl.v a0_1), (VI a0_2)]) h K ?_
  unfold u35 at H
  unfold t35
  have hL : Vars h [] := .nil
  refine eop_box 35 (Value.agg #[(Sl.v a0_1), (VI a0_2)]) rfl hL (fun b_1 h_1 hb_1 hf_1 hL_1 => ?_)
  refine eop_alloc 27 zer27 rfl hL_1 (fun b_2 h_2 hb_2 hf_2 hL_2 => ?_)
  refine eop_alloc 27 zer27 rfl hL_2 (fun b_3 h_3 hb_3 hf_3 hL_3 => ?_)
  refine pop_field 0 fld35_0 b_1 0 ?_
  refine rop_loc one25 hL_3 2 rfl 0 (v := (Sl.v a0_1)) rfl ?_
  have H := H b_1 b_2 b_3 h_3 (Nat.le_trans (Fr.size (Fr.r (In []) _)) hb_1) (Nat.le_trans (Fr.size (Fr.no' (Fr.r (In []) _) hf_1)) hb_2) (Nat.le_trans (Fr.size (Fr.no' (Fr.no' (Fr.r (In []) _) hf_1) hf_2)) hb_3) (Fr.no' (Fr.no' (Fr.no' (Fr.r (In []) _) hf_1) hf_2) hf_3) hL_3
  refine H.mono fun rv_1 h_4 H => ?_
  obtain ⟨t6_1, rfl, hL_4, H⟩ := H
  refine pop_field 0 fld27_0 b_3 0 ?_
  refine uop_loc siz25 hL_4 0 rfl 0 [(Sl.v t6_1)] rfl rfl rfl (Nat.le_of_ble_eq_true rfl) (L' := [(b_3, [(Sl.v t6_1), (VI 0)]), (b_2, [(Sl.v nilSl), (VI 0)]), (b_1, [(Sl.v a0_1), (VI a0_2)])]) rfl (fun h_5 hf_4 hL_5 => ?_)
  refine pop_field 1 fld35_1 b_1 0 ?_
  refine rop_loc one3 hL_5 2 rfl 1 (v := (VI a0_2)) rfl ?_
  refine pop_field 1 fld27_1 b_3 0 ?_
  refine uop_loc siz3 hL_5 0 rfl 1 [(VI a0_2)] rfl rfl rfl (Nat.le_of_ble_eq_true rfl) (L' := [(b_3, [(Sl.v t6_1), (VI a0_2)]), (b_2, [(Sl.v nilSl), (VI 0)]), (b_1, [(Sl.v a0_1), (VI a0_2)])]) rfl (fun h_6 hf_5 hL_6 => ?_)
  refine rop_locA agg27 hL_6 0 rfl 0 (vs := [(Sl.v t6_1), (VI a0_2)]) rfl rfl ?_
  refine uop_loc siz27 hL_6 1 rfl 0 [(Sl.v t6_1), (VI a0_2)] rfl rfl rfl (Nat.le_of_ble_eq_true rfl) (L' := [(b_3, [(Sl.v t6_1), (VI a0_2)]), (b_2, [(Sl.v t6_1), (VI a0_2)]), (b_1, [(Sl.v a0_1), (VI a0_2)])]) rfl (fun h_7 hf_6 hL_7 => ?_)
  refine rop_locA agg27 hL_7 1 rfl 0 (vs := [(Sl.v t6_1), (VI a0_2)]) rfl rfl ?_
  have H := H  h_7  (Fr.old (Fr.old (Fr.old (Fr.r (In []) _) hf_4) hf_5) hf_6) hL_7
  exact H

/-! laws.eqWalk -/
def u37 (P : Program) (a0_1 : Sl) (a0_2 : Int) (b1_1 : Sl) (b1_2 : Int) (h : Heap) (K : Value → Heap → Prop) : Prop :=
  ∀ (b_1 : Nat) (b_2 : Nat) (h_2 : Heap), h.size ≤ b_1 → h.size ≤ b_2 → Fr (In []) h h_2 → Vars h_2 [(b_2, [(Sl.v b1_1), (VI b1_2)]), (b_1, [(Sl.v a0_1), (VI a0_2)])] →
  callM P 53 #[(Sl.v a0_1), (Sl.v b1_1)] h_2 fun rv_1 h_3 => ∃ t9_1 : Bool, rv_1 = (VB t9_1) ∧ Vars h_3 [(b_2, [(Sl.v b1_1), (VI b1_2)]), (b_1, [(Sl.v a0_1), (VI a0_2)])] ∧
  ((!t9_1) = true →
  K (VB false) h_3) ∧
  ((!t9_1) = false →
  ((!decide (a0_2 = b1_2)) = true →
  K (VB false) h_3) ∧
  ((!decide (a0_2 = b1_2)) = false →
  K (VB true) h_3))
theorem v37 (a0_1 : Sl) (a0_2 : Int) (b1_1 : Sl) (b1_2 : Int) (h : Heap) (K : Value → Heap → Prop) (H : u37 Try.prog a0_1 a0_2 b1_1 b1_2 h K) : callM Try.prog 37 #[(Value.agg #[(Sl.v a0_1), (VI a0_2)]), (Value.agg #[(Sl.v b1_1), (VI b1_2)])] h K := by
  refine c37 (Value.agg #[(Sl.v a0_1), (VI a0_2)]) (Value.agg #[(Sl.v b1_1), (VI b1_2)]) h K ?_
  unfold u37 at H
  unfold t37
  have hL : Vars h [] := .nil
  refine eop_box 27 (Value.agg #[(Sl.v a0_1), (VI a0_2)]) rfl hL (fun b_1 h_1 hb_1 hf_1 hL_1 => ?_)
  refine eop_box 27 (Value.agg #[(Sl.v b1_1), (VI b1_2)]) rfl hL_1 (fun b_2 h_2 hb_2 hf_2 hL_2 => ?_)
  refine pop_field 0 fld27_0 b_1 0 ?_
  refine rop_loc one25 hL_2 1 rfl 0 (v := (Sl.v a0_1)) rfl ?_
  refine pop_field 0 fld27_0 b_2 0 ?_
  refine rop_loc one25 hL_2 0 rfl 0 (v := (Sl.v b1_1)) rfl ?_
  have H := H b_1 b_2 h_2 (Nat.le_trans (Fr.size (Fr.r (In []) _)) hb_1) (Nat.le_trans (Fr.size (Fr.no' (Fr.r (In []) _) hf_1)) hb_2) (Fr.no' (Fr.no' (Fr.r (In []) _) hf_1) hf_2) hL_2
  refine H.mono fun rv_1 h_3 H => ?_
  obtain ⟨t9_1, rfl, hL_3, H⟩ := H
  refine pop_not t9_1 ?_
  refine condM_b (fun hb_3 => ?_) (fun hb_3 => ?_)
  · have H := H.1 hb_3
    exact H
  · have H := H.2 hb_3
    refine pop_field 1 fld27_1 b_1 0 ?_
    refine rop_loc one3 hL_3 1 rfl 1 (v := (VI a0_2)) rfl ?_
    refine pop_field 1 fld27_1 b_2 0 ?_
    refine rop_loc one3 hL_3 0 rfl 1 (v := (VI b1_2)) rfl ?_
    refine pop_ine .i64 _ _ a0_2 b1_2 ?_
    refine condM_b (fun hb_4 => ?_) (fun hb_4 => ?_)
    · have H := H.1 hb_4
      exact H
    · have H := H.2 hb_4
      exact H

/-! spec.WalksBefore -/
def u42 (P : Program) (g0_1 : Sl) (w1_1 : Sl) (w1_2 : Int) (h : Heap) (K : Value → Heap → Prop) : Prop :=
  ∀ (b_1 : Nat) (b_2 : Nat) (h_2 : Heap), h.size ≤ b_1 → h.size ≤ b_2 → Fr (In []) h h_2 → Vars h_2 [(b_2, [(Sl.v w1_1), (VI w1_2)]), (b_1, [(Sl.v g0_1)])] →
  callM P 78 #[(Value.agg #[(Sl.v g0_1)]), (Value.agg #[(Sl.v w1_1), (VI w1_2)])] h_2 fun rv_1 h_3 => ∃ t12_1 : Bool, rv_1 = (VB t12_1) ∧ Vars h_3 [(b_2, [(Sl.v w1_1), (VI w1_2)]), (b_1, [(Sl.v g0_1)])] ∧
  ((!t12_1) = true →
  K (Value.tuple #[(Sl.v nilSl), (VB false)]) h_3) ∧
  ((!t12_1) = false →
  ∃ J_1 : Nat → Sl → Int → Heap → Prop, (∃ n0 : Nat, J_1 n0 nilSl 0 h_3) ∧
  ∀ (n_1 : Nat) (out6_1 : Sl) (t17_1 : Int) (h_4 : Heap), J_1 n_1 out6_1 t17_1 h_4 → Vars h_4 [(b_2, [(Sl.v w1_1), (VI w1_2)]), (b_1, [(Sl.v g0_1)])] →
  ((decide (t17_1 < (g0_1.n : Int))) = true →
  InB g0_1 t17_1 ∧
  ∃ t21_1 : Sl, hcell h_4 (Sl.at g0_1 t17_1 1) = some (Sl.v t21_1) ∧
  ((decide ((t21_1.n : Int) = 0)) = true →
  ∃ m : Nat, m < n_1 ∧ J_1 m out6_1 (w64 (t17_1 + 1)) h_4) ∧
  ((decide ((t21_1.n : Int) = 0)) = false →
  InB w1_1 t17_1 ∧
  ∃ t31_1 : Int, hcell h_4 (Sl.at w1_1 t17_1 1) = some (VI t31_1) ∧
  InB t21_1 t31_1 ∧
  ∃ t33_1 : Int, hcell h_4 (Sl.at t21_1 t31_1 1) = some (VI t33_1) ∧
  ((!decide (t33_1 = w1_2)) = true →
  ∃ m : Nat, m < n_1 ∧ J_1 m out6_1 (w64 (t17_1 + 1)) h_4) ∧
  ((!decide (t33_1 = w1_2)) = false →
  callM P 88 #[(Sl.v w1_1)] h_4 fun rv_2 h_5 => ∃ t40_1 : Sl, rv_2 = (Sl.v t40_1) ∧ Vars h_5 [(b_2, [(Sl.v w1_1), (VI w1_2)]), (b_1, [(Sl.v g0_1)])] ∧
  InB w1_1 t17_1 ∧
  ∀ (b_3 : Nat) (h_7 : Heap), h_5.size ≤ b_3 → Fr (In []) h_5 h_7 → Vars h_7 [(b_3, [(Sl.v t40_1), (VI t17_1)]), (b_2, [(Sl.v w1_1), (VI w1_2)]), (b_1, [(Sl.v g0_1)])] →
  ∃ t50_1 : Int, hcell h_7 (Sl.at w1_1 t17_1 1) = some (VI t50_1) ∧
  (t21_1.n : Int) ≠ 0 ∧
  InB t40_1 t17_1 ∧
  Writable h_7 (Sl.at t40_1 t17_1 1) ∧ Vars (hset h_7 (Sl.at t40_1 t17_1 1) (VI (Int.tmod (w64 ((w64 (t50_1 + (t21_1.n : Int))) - 1)) (t21_1.n : Int)))) [(b_3, [(Sl.v t40_1), (VI t17_1)]), (b_2, [(Sl.v w1_1), (VI w1_2)]), (b_1, [(Sl.v g0_1)])] ∧
  ∀ h_8 : Heap, h_8 = hset h_7 (Sl.at t40_1 t17_1 1) (VI (Int.tmod (w64 ((w64 (t50_1 + (t21_1.n : Int))) - 1)) (t21_1.n : Int))) → Vars h_8 [(b_3, [(Sl.v t40_1), (VI t17_1)]), (b_2, [(Sl.v w1_1), (VI w1_2)]), (b_1, [(Sl.v g0_1)])] →
  eop P (Instr.buildSlice 59 1 #[(0, (Value.agg #[(Sl.v t40_1), (VI t17_1)]))]) h_8 fun rv_3 h_9 => ∃ t61_1 : Sl, rv_3 = (Sl.v t61_1) ∧ Vars h_9 [(b_3, [(Sl.v t40_1), (VI t17_1)]), (b_2, [(Sl.v w1_1), (VI w1_2)]), (b_1, [(Sl.v g0_1)])] ∧
  eop P (appS 59 59 59 (Sl.v out6_1) (Sl.v t61_1)) h_9 fun rv_4 h_10 => ∃ t62_1 : Sl, rv_4 = (Sl.v t62_1) ∧ Vars h_10 [(b_3, [(Sl.v t40_1), (VI t17_1)]), (b_2, [(Sl.v w1_1), (VI w1_2)]), (b_1, [(Sl.v g0_1)])] ∧
  ∃ m : Nat, m < n_1 ∧ J_1 m t62_1 (w64 (t17_1 + 1)) h_10))) ∧
  ((decide (t17_1 < (g0_1.n : Int))) = false →
  K (Value.tuple #[(Sl.v out6_1), (VB true)]) h_4))
theorem v42 (g0_1 : Sl) (w1_1 : Sl) (w1_2 : Int) (h : Heap) (K : Value → Heap → Prop) (H : u42 Try.prog g0_1 w1_1 w1_2 h K) : callM Try.prog 42 #[(Value.agg #[(Sl.v g0_1)]), (Value.agg #[(Sl.v w1_1), (VI w1_2)])] h K := by
  refine c42 (Value.agg #[(Sl.v g0_1)]) (Value.agg #[(Sl.v w1_1), (VI w1_2)]) h K ?_
  unfold u42 at H
  unfold t42
  have hL : Vars h [] := .nil
  refine eop_box 24 (Value.agg #[(Sl.v g0_1)]) rfl hL (fun b_1 h_1 hb_1 hf_1 hL_1 => ?_)
  refine eop_box 27 (Value.agg #[(Sl.v w1_1), (VI w1_2)]) rfl hL_1 (fun b_2 h_2 hb_2 hf_2 hL_2 => ?_)
  refine rop_locA agg24 hL_2 1 rfl 0 (vs := [(Sl.v g0_1)]) rfl rfl ?_
  refine rop_locA agg27 hL_2 0 rfl 0 (vs := [(Sl.v w1_1), (VI w1_2)]) rfl rfl ?_
  have H := H b_1 b_2 h_2 (Nat.le_trans (Fr.size (Fr.r (In []) _)) hb_1) (Nat.le_trans (Fr.size (Fr.no' (Fr.r (In []) _) hf_1)) hb_2) (Fr.no' (Fr.no' (Fr.r (In []) _) hf_1) hf_2) hL_2
  refine H.mono fun rv_1 h_3 H => ?_
  obtain ⟨t12_1, rfl, hL_3, H⟩ := H
  refine pop_not t12_1 ?_
  refine condM_b (fun hb_3 => ?_) (fun hb_3 => ?_)
  · have H := H.1 hb_3
    exact H
  · have H := H.2 hb_3
    refine pop_field 0 fld24_0 b_1 0 ?_
    refine rop_loc one22 hL_3 1 rfl 0 (v := (Sl.v g0_1)) rfl ?_
    refine pop_len g0_1 _ _ sli22 ?_
    obtain ⟨J_1, ⟨n_2, h0_1⟩, HB_1⟩ := H
    refine loop_intro (J := fun (n : Nat) (vs : List Value) (h' : Heap) => ∃ out6_1 : Sl, ∃ t17_1 : Int, vs = [(Sl.v out6_1), (VI t17_1)] ∧ J_1 n out6_1 t17_1 h' ∧ Vars h' [(b_2, [(Sl.v w1_1), (VI w1_2)]), (b_1, [(Sl.v g0_1)])]) n_2 ⟨nilSl, 0, rfl, h0_1, hL_3⟩ ?_
    intro I_1 mu_1 hI_1 junk_1 tv_1 tv_2 h_4 hi_1
    obtain ⟨n_1, ⟨out6_1, t17_1, hv, hJ_1, hL_4⟩, hn_1⟩ := hI_1 _ _ hi_1
    cases hv
    have H := HB_1 n_1 out6_1 t17_1 h_4 hJ_1 hL_4
    refine pop_lss .i64 t17_1 (g0_1.n : Int) ?_
    refine condM_b (fun hb_4 => ?_) (fun hb_4 => ?_)
    · have H := H.1 hb_4
      obtain ⟨hi_2, H⟩ := H
      refine pop_index sli22 siz25 .i64 g0_1 t17_1 hi_2 ?_
      obtain ⟨t21_1, hc_4, H⟩ := H
      refine rop_one one25 (Sl.v t21_1) hc_4 ?_
      refine pop_len t21_1 _ _ sli25 ?_
      refine pop_ieq .i64 _ _ (t21_1.n : Int) 0 ?_
      refine guardM_sf (fun hb_5 => ?_) (fun hb_5 => ?_)
      · have H := H.2 hb_5
        refine guardM_y' hb_5 ?_
        refine pop_field 0 fld27_0 b_2 0 ?_
        refine guardM_y' hb_5 ?_
        refine rop_loc one25 hL_4 0 rfl 0 (v := (Sl.v w1_1)) rfl ?_
        refine guardM_y' hb_5 ?_
        refine guardM_y' hb_5 ?_
        obtain ⟨hi_3, H⟩ := H
        refine pop_index sli25 siz3 .i64 w1_1 t17_1 hi_3 ?_
        refine guardM_y' hb_5 ?_
        obtain ⟨t31_1, hc_3, H⟩ := H
        refine rop_one one3 (VI t31_1) hc_3 ?_
        refine guardM_y' hb_5 ?_
        obtain ⟨hi_4, H⟩ := H
        refine pop_index sli25 siz3 .i64 t21_1 t31_1 hi_4 ?_
        refine guardM_y' hb_5 ?_
        obtain ⟨t33_1, hc_2, H⟩ := H
        refine rop_one one3 (VI t33_1) hc_2 ?_
        refine guardM_y' hb_5 ?_
        refine pop_field 1 fld27_1 b_2 0 ?_
        refine guardM_y' hb_5 ?_
        refine rop_loc one3 hL_4 0 rfl 1 (v := (VI w1_2)) rfl ?_
        refine guardM_y' hb_5 ?_
        refine pop_ine .i64 _ _ t33_1 w1_2 ?_
        refine pop_pickf' hb_5 ?_
        refine condM_b (fun hb_6 => ?_) (fun hb_6 => ?_)
        · have H := H.1 hb_6
          refine pop_add .i64 t17_1 1 ?_
          obtain ⟨m_1, hm_1, H⟩ := H
          exact hn_1 _ _ ⟨m_1, hm_1, out6_1, (w64 (t17_1 + 1)), rfl, H, hL_4⟩
        · have H := H.2 hb_6
          refine pop_field 0 fld27_0 b_2 0 ?_
          refine rop_loc one25 hL_4 0 rfl 0 (v := (Sl.v w1_1)) rfl ?_
          refine H.mono fun rv_2 h_5 H => ?_
          obtain ⟨t40_1, rfl, hL_5, H⟩ := H
          refine pop.mk' (v := (Value.agg #[(Sl.v t40_1), (VI t17_1)])) (fun w => by kernel_rfl) ?_
          refine eop_alloc 27 zer27 rfl hL_5 (fun b_3 h_6 hb_7 hf_3 hL_6 => ?_)
          refine uop_loc siz27 hL_6 0 rfl 0 [(Sl.v t40_1), (VI t17_1)] rfl rfl rfl (Nat.le_of_ble_eq_true rfl) (L' := [(b_3, [(Sl.v t40_1), (VI t17_1)]), (b_2, [(Sl.v w1_1), (VI w1_2)]), (b_1, [(Sl.v g0_1)])]) rfl (fun h_7 hf_4 hL_7 => ?_)
          refine pop_field 0 fld27_0 b_3 0 ?_
          refine rop_loc one25 hL_7 0 rfl 0 (v := (Sl.v t40_1)) rfl ?_
          refine pop_field 0 fld27_0 b_2 0 ?_
          refine rop_loc one25 hL_7 1 rfl 0 (v := (Sl.v w1_1)) rfl ?_
          obtain ⟨hi_5, H⟩ := H
          refine pop_index sli25 siz3 .i64 w1_1 t17_1 hi_5 ?_
          have H := H b_3 h_7 (Nat.le_trans (Fr.size (Fr.r (In []) _)) hb_7) (Fr.new (Fr.no' (Fr.r (In []) _) hf_3) (Nat.le_trans (Fr.size (Fr.r (In []) _)) hb_7) hf_4) hL_7
          obtain ⟨t50_1, hc_1, H⟩ := H
          refine rop_one one3 (VI t50_1) hc_1 ?_
          refine pop_len t21_1 _ _ sli25 ?_
          refine pop_add .i64 t50_1 (t21_1.n : Int) ?_
          refine pop_sub .i64 (w64 (t50_1 + (t21_1.n : Int))) 1 ?_
          refine pop_len t21_1 _ _ sli25 ?_
          obtain ⟨hz_1, H⟩ := H
          refine pop_rem .i64 (w64 ((w64 (t50_1 + (t21_1.n : Int))) - 1)) (t21_1.n : Int) hz_1 ?_
          obtain ⟨hi_6, H⟩ := H
          refine pop_index sli25 siz3 .i64 t40_1 t17_1 hi_6 ?_
          obtain ⟨hw_1, hL_8, H⟩ := H
          refine uop_cell (v := (VI (Int.tmod (w64 ((w64 (t50_1 + (t21_1.n : Int))) - 1)) (t21_1.n : Int)))) siz3 hw_1 rfl (fun h_8 he_1 => ?_)
          rw [← he_1] at hL_8
          have H := H h_8 he_1 hL_8
          refine rop_locA agg27 hL_8 0 rfl 0 (vs := [(Sl.v t40_1), (VI t17_1)]) rfl rfl ?_
          refine H.mono fun rv_3 h_9 H => ?_
          obtain ⟨t61_1, rfl, hL_9, H⟩ := H
          refine H.mono fun rv_4 h_10 H => ?_
          obtain ⟨t62_1, rfl, hL_10, H⟩ := H
          refine pop_add .i64 t17_1 1 ?_
          obtain ⟨m_2, hm_2, H⟩ := H
          exact hn_1 _ _ ⟨m_2, hm_2, t62_1, (w64 (t17_1 + 1)), rfl, H, (Vars.tail hL_10)⟩
      · have H := H.1 hb_5
        refine guardM_n' hb_5 (by decide) ?_
        refine guardM_n' hb_5 (by decide) ?_
        refine guardM_n' hb_5 (by decide) ?_
        refine guardM_n' hb_5 (by decide) ?_
        refine guardM_n' hb_5 (by decide) ?_
        refine guardM_n' hb_5 (by decide) ?_
        refine guardM_n' hb_5 (by decide) ?_
        refine guardM_n' hb_5 (by decide) ?_
        refine guardM_n' hb_5 (by decide) ?_
        refine guardM_n' hb_5 (by decide) ?_
        refine pop_pickt' hb_5 ?_
        refine condM_t ?_
        refine pop_add .i64 t17_1 1 ?_
        obtain ⟨m_3, hm_3, H⟩ := H
        exact hn_1 _ _ ⟨m_3, hm_3, out6_1, (w64 (t17_1 + 1)), rfl, H, hL_4⟩
    · have H := H.2 hb_4
      exact H

/-! impl.WalksBefore -/
def u43 (P : Program) (g0_1 : Sl) (w1_1 : Sl) (w1_2 : Int) (h : Heap) (K : Value → Heap → Prop) : Prop :=
  ∀ (b_1 : Nat) (b_2 : Nat) (h_2 : Heap), h.size ≤ b_1 → h.size ≤ b_2 → Fr (In []) h h_2 → Vars h_2 [(b_2, [(Sl.v w1_1), (VI w1_2)]), (b_1, [(Sl.v g0_1)])] →
  callM P 81 #[(Value.agg #[(Sl.v g0_1)]), (Value.agg #[(Sl.v w1_1), (VI w1_2)])] h_2 fun rv_1 h_3 => ∃ t12_1 : Bool, rv_1 = (VB t12_1) ∧ Vars h_3 [(b_2, [(Sl.v w1_1), (VI w1_2)]), (b_1, [(Sl.v g0_1)])] ∧
  ((!t12_1) = true →
  K (Value.tuple #[(Sl.v nilSl), (VB false)]) h_3) ∧
  ((!t12_1) = false →
  eop P (Instr.buildSlice 59 0 #[]) h_3 fun rv_2 h_4 => ∃ t14_1 : Sl, rv_2 = (Sl.v t14_1) ∧ Vars h_4 [(b_2, [(Sl.v w1_1), (VI w1_2)]), (b_1, [(Sl.v g0_1)])] ∧
  ∃ J_1 : Nat → Sl → Int → Heap → Prop, (∃ n0 : Nat, J_1 n0 t14_1 0 h_4) ∧
  ∀ (n_1 : Nat) (out6_1 : Sl) (t18_1 : Int) (h_5 : Heap), J_1 n_1 out6_1 t18_1 h_5 → Vars h_5 [(b_2, [(Sl.v w1_1), (VI w1_2)]), (b_1, [(Sl.v g0_1)])] →
  ((decide (t18_1 < (g0_1.n : Int))) = true →
  InB g0_1 t18_1 ∧
  ∃ t22_1 : Sl, hcell h_5 (Sl.at g0_1 t18_1 1) = some (Sl.v t22_1) ∧
  ((decide (0 < (t22_1.n : Int))) = true →
  InB w1_1 t18_1 ∧
  ∃ t32_1 : Int, hcell h_5 (Sl.at w1_1 t18_1 1) = some (VI t32_1) ∧
  InB t22_1 t32_1 ∧
  ∃ t34_1 : Int, hcell h_5 (Sl.at t22_1 t32_1 1) = some (VI t34_1) ∧
  ((decide (t34_1 = w1_2)) = true →
  callM P 89 #[(Value.agg #[(Sl.v w1_1), (VI w1_2)])] h_5 fun rv_3 h_6 => ∃ t40_1 : Sl, ∃ t40_2 : Int, rv_3 = (Value.agg #[(Sl.v t40_1), (VI t40_2)]) ∧ Vars h_6 [(b_2, [(Sl.v w1_1), (VI w1_2)]), (b_1, [(Sl.v g0_1)])] ∧
  InB w1_1 t18_1 ∧
  ∀ (b_3 : Nat) (h_8 : Heap), h_6.size ≤ b_3 → Fr (In []) h_6 h_8 → Vars h_8 [(b_3, [(Sl.v t40_1), (VI t40_2)]), (b_2, [(Sl.v w1_1), (VI w1_2)]), (b_1, [(Sl.v g0_1)])] →
  ∃ t49_1 : Int, hcell h_8 (Sl.at w1_1 t18_1 1) = some (VI t49_1) ∧
  (t22_1.n : Int) ≠ 0 ∧
  ∀ (h_9 : Heap), Fr (In [b_3]) h_8 h_9 → Vars h_9 [(b_3, [(Sl.v t40_1), (VI t18_1)]), (b_2, [(Sl.v w1_1), (VI w1_2)]), (b_1, [(Sl.v g0_1)])] →
  hcell h_9 (Sl.at w1_1 t18_1 1) = some (VI t49_1) ∧
  InB t40_1 t18_1 ∧
  Writable h_9 (Sl.at t40_1 t18_1 1) ∧ Vars (hset h_9 (Sl.at t40_1 t18_1 1) (VI (Int.tmod (w64 ((w64 (t49_1 + (t22_1.n : Int))) - 1)) (t22_1.n : Int)))) [(b_3, [(Sl.v t40_1), (VI t18_1)]), (b_2, [(Sl.v w1_1), (VI w1_2)]), (b_1, [(Sl.v g0_1)])] ∧
  ∀ h_10 : Heap, h_10 = hset h_9 (Sl.at t40_1 t18_1 1) (VI (Int.tmod (w64 ((w64 (t49_1 + (t22_1.n : Int))) - 1)) (t22_1.n : Int))) → Vars h_10 [(b_3, [(Sl.v t40_1), (VI t18_1)]), (b_2, [(Sl.v w1_1), (VI w1_2)]), (b_1, [(Sl.v g0_1)])] →
  eop P (Instr.buildSlice 59 1 #[(0, (Value.agg #[(Sl.v t40_1), (VI t18_1)]))]) h_10 fun rv_4 h_11 => ∃ t61_1 : Sl, rv_4 = (Sl.v t61_1) ∧ Vars h_11 [(b_3, [(Sl.v t40_1), (VI t18_1)]), (b_2, [(Sl.v w1_1), (VI w1_2)]), (b_1, [(Sl.v g0_1)])] ∧
  eop P (appS 59 59 59 (Sl.v out6_1) (Sl.v t61_1)) h_11 fun rv_5 h_12 => ∃ t62_1 : Sl, rv_5 = (Sl.v t62_1) ∧ Vars h_12 [(b_3, [(Sl.v t40_1), (VI t18_1)]), (b_2, [(Sl.v w1_1), (VI w1_2)]), (b_1, [(Sl.v g0_1)])] ∧
  ∃ m : Nat, m < n_1 ∧ J_1 m t62_1 (w64 (t18_1 + 1)) h_12) ∧
  ((decide (t34_1 = w1_2)) = false →
  ∃ m : Nat, m < n_1 ∧ J_1 m out6_1 (w64 (t18_1 + 1)) h_5)) ∧
  ((decide (0 < (t22_1.n : Int))) = false →
  ∃ m : Nat, m < n_1 ∧ J_1 m out6_1 (w64 (t18_1 + 1)) h_5)) ∧
  ((decide (t18_1 < (g0_1.n : Int))) = false →
  K (Value.tuple #[(Sl.v out6_1), (VB true)]) h_5))
theorem v43 (g0_1 : Sl) (w1_1 : Sl) (w1_2 : Int) (h : Heap) (K : Value → Heap → Prop) (H : u43 Try.prog g0_1 w1_1 w1_2 h K) : callM Try.prog 43 #[(Value.agg #[(Sl.v g0_1)]), (Value.agg #[(Sl.v w1_1), (VI w1_2)])] h K := by
  refine c43 (Value.agg #[(Sl.v g0_1)]) (Value.agg #[(Sl.v w1_1), (VI w1_2)]) h K ?_
  unfold u43 at H
  unfold t43
  have hL : Vars h [] := .nil
  refine eop_box 24 (Value.agg #[(Sl.v g0_1)]) rfl hL (fun b_1 h_1 hb_1 hf_1 hL_1 => ?_)
  refine eop_box 27 (Value.agg #[(Sl.v w1_1), (VI w1_2)]) rfl hL_1 (fun b_2 h_2 hb_2 hf_2 hL_2 => ?_)
  refine rop_locA agg24 hL_2 1 rfl 0 (vs := [(Sl.v g0_1)]) rfl rfl ?_
  refine rop_locA agg27 hL_2 0 rfl 0 (vs := [(Sl.v w1_1), (VI w1_2)]) rfl rfl ?_
  have H := H b_1 b_2 h_2 (Nat.le_trans (Fr.size (Fr.r (In []) _)) hb_1) (Nat.le_trans (Fr.size (Fr.no' (Fr.r (In []) _) hf_1)) hb_2) (Fr.no' (Fr.no' (Fr.r (In []) _) hf_1) hf_2) hL_2
  refine H.mono fun rv_1 h_3 H => ?_
  obtain ⟨t12_1, rfl, hL_3, H⟩ := H
  refine pop_not t12_1 ?_
  refine condM_b (fun hb_3 => ?_) (fun hb_3 => ?_)
  · have H := H.1 hb_3
    exact H
  · have H := H.2 hb_3
    refine H.mono fun rv_2 h_4 H => ?_
    obtain ⟨t14_1, rfl, hL_4, H⟩ := H
    refine pop_field 0 fld24_0 b_1 0 ?_
    refine rop_loc one22 hL_4 1 rfl 0 (v := (Sl.v g0_1)) rfl ?_
    refine pop_len g0_1 _ _ sli22 ?_
    obtain ⟨J_1, ⟨n_2, h0_1⟩, HB_1⟩ := H
    refine loop_intro (J := fun (n : Nat) (vs : List Value) (h' : Heap) => ∃ out6_1 : Sl, ∃ t18_1 : Int, vs = [(Sl.v out6_1), (VI t18_1)] ∧ J_1 n out6_1 t18_1 h' ∧ Vars h' [(b_2, [(Sl.v w1_1), (VI w1_2)]), (b_1, [(Sl.v g0_1)])]) n_2 ⟨t14_1, 0, rfl, h0_1, hL_4⟩ ?_
    intro I_1 mu_1 hI_1 junk_1 tv_1 tv_2 h_5 hi_1
    obtain ⟨n_1, ⟨out6_1, t18_1, hv, hJ_1, hL_5⟩, hn_1⟩ := hI_1 _ _ hi_1
    cases hv
    have H := HB_1 n_1 out6_1 t18_1 h_5 hJ_1 hL_5
    refine pop_lss .i64 t18_1 (g0_1.n : Int) ?_
    refine condM_b (fun hb_4 => ?_) (fun hb_4 => ?_)
    · have H := H.1 hb_4
      obtain ⟨hi_2, H⟩ := H
      refine pop_index sli22 siz25 .i64 g0_1 t18_1 hi_2 ?_
      obtain ⟨t22_1, hc_5, H⟩ := H
      refine rop_one one25 (Sl.v t22_1) hc_5 ?_
      refine pop_len t22_1 _ _ sli25 ?_
      refine pop_gtr .i64 (t22_1.n : Int) 0 ?_
      refine guardM_st (fun hb_5 => ?_) (fun hb_5 => ?_)
      · have H := H.1 hb_5
        refine guardM_y' hb_5 ?_
        refine pop_field 0 fld27_0 b_2 0 ?_
        refine guardM_y' hb_5 ?_
        refine rop_loc one25 hL_5 0 rfl 0 (v := (Sl.v w1_1)) rfl ?_
        refine guardM_y' hb_5 ?_
        refine guardM_y' hb_5 ?_
        obtain ⟨hi_3, H⟩ := H
        refine pop_index sli25 siz3 .i64 w1_1 t18_1 hi_3 ?_
        refine guardM_y' hb_5 ?_
        obtain ⟨t32_1, hc_4, H⟩ := H
        refine rop_one one3 (VI t32_1) hc_4 ?_
        refine guardM_y' hb_5 ?_
        obtain ⟨hi_4, H⟩ := H
        refine pop_index sli25 siz3 .i64 t22_1 t32_1 hi_4 ?_
        refine guardM_y' hb_5 ?_
        obtain ⟨t34_1, hc_3, H⟩ := H
        refine rop_one one3 (VI t34_1) hc_3 ?_
        refine guardM_y' hb_5 ?_
        refine pop_field 1 fld27_1 b_2 0 ?_
        refine guardM_y' hb_5 ?_
        refine rop_loc one3 hL_5 0 rfl 1 (v := (VI w1_2)) rfl ?_
        refine guardM_y' hb_5 ?_
        refine pop_ieq .i64 _ _ t34_1 w1_2 ?_
        refine pop_pickt' hb_5 ?_
        refine condM_b (fun hb_6 => ?_) (fun hb_6 => ?_)
        · have H := H.1 hb_6
          refine rop_locA agg27 hL_5 0 rfl 0 (vs := [(Sl.v w1_1), (VI w1_2)]) rfl rfl ?_
          refine H.mono fun rv_3 h_6 H => ?_
          obtain ⟨t40_1, t40_2, rfl, hL_6, H⟩ := H
          refine eop_alloc 27 zer27 rfl hL_6 (fun b_3 h_7 hb_7 hf_3 hL_7 => ?_)
          refine uop_loc siz27 hL_7 0 rfl 0 [(Sl.v t40_1), (VI t40_2)] rfl rfl rfl (Nat.le_of_ble_eq_true rfl) (L' := [(b_3, [(Sl.v t40_1), (VI t40_2)]), (b_2, [(Sl.v w1_1), (VI w1_2)]), (b_1, [(Sl.v g0_1)])]) rfl (fun h_8 hf_4 hL_8 => ?_)
          refine pop_field 0 fld27_0 b_3 0 ?_
          refine rop_loc one25 hL_8 0 rfl 0 (v := (Sl.v t40_1)) rfl ?_
          refine pop_field 0 fld27_0 b_2 0 ?_
          refine rop_loc one25 hL_8 1 rfl 0 (v := (Sl.v w1_1)) rfl ?_
          obtain ⟨hi_5, H⟩ := H
          refine pop_index sli25 siz3 .i64 w1_1 t18_1 hi_5 ?_
          have H := H b_3 h_8 (Nat.le_trans (Fr.size (Fr.r (In []) _)) hb_7) (Fr.new (Fr.no' (Fr.r (In []) _) hf_3) (Nat.le_trans (Fr.size (Fr.r (In []) _)) hb_7) hf_4) hL_8
          obtain ⟨t49_1, hc_2, H⟩ := H
          refine rop_one one3 (VI t49_1) hc_2 ?_
          refine pop_len t22_1 _ _ sli25 ?_
          refine pop_add .i64 t49_1 (t22_1.n : Int) ?_
          refine pop_sub .i64 (w64 (t49_1 + (t22_1.n : Int))) 1 ?_
          refine pop_len t22_1 _ _ sli25 ?_
          obtain ⟨hz_1, H⟩ := H
          refine pop_rem .i64 (w64 ((w64 (t49_1 + (t22_1.n : Int))) - 1)) (t22_1.n : Int) hz_1 ?_
          refine pop_field 1 fld27_1 b_3 0 ?_
          refine uop_loc siz3 hL_8 0 rfl 1 [(VI t18_1)] rfl rfl rfl (Nat.le_of_ble_eq_true rfl) (L' := [(b_3, [(Sl.v t40_1), (VI t18_1)]), (b_2, [(Sl.v w1_1), (VI w1_2)]), (b_1, [(Sl.v g0_1)])]) rfl (fun h_9 hf_5 hL_9 => ?_)
          have H := H  h_9  (Fr.old (Fr.r (In []) _) hf_5) hL_9
          refine ⟨?_, ?_⟩
          · exact still_one one3 H.1
          obtain ⟨hc_1, H⟩ := H
          refine ⟨?_, ?_⟩
          · exact still_loc one25 hL_9 1 rfl 0 (v := (Sl.v w1_1)) rfl
          obtain ⟨hi_6, H⟩ := H
          refine pop_index sli25 siz3 .i64 t40_1 t18_1 hi_6 ?_
          obtain ⟨hw_1, hL_10, H⟩ := H
          refine uop_cell (v := (VI (Int.tmod (w64 ((w64 (t49_1 + (t22_1.n : Int))) - 1)) (t22_1.n : Int)))) siz3 hw_1 rfl (fun h_10 he_1 => ?_)
          rw [← he_1] at hL_10
          have H := H h_10 he_1 hL_10
          refine rop_locA agg27 hL_10 0 rfl 0 (vs := [(Sl.v t40_1), (VI t18_1)]) rfl rfl ?_
          refine H.mono fun rv_4 h_11 H => ?_
          obtain ⟨t61_1, rfl, hL_11, H⟩ := H
          refine H.mono fun rv_5 h_12 H => ?_
          obtain ⟨t62_1, rfl, hL_12, H⟩ := H
          refine pop_add .i64 t18_1 1 ?_
          obtain ⟨m_1, hm_1, H⟩ := H
          exact hn_1 _ _ ⟨m_1, hm_1, t62_1, (w64 (t18_1 + 1)), rfl, H, (Vars.tail hL_12)⟩
        · have H := H.2 hb_6
          refine pop_add .i64 t18_1 1 ?_
          obtain ⟨m_2, hm_2, H⟩ := H
          exact hn_1 _ _ ⟨m_2, hm_2, out6_1, (w64 (t18_1 + 1)), rfl, H, hL_5⟩
      · have H := H.2 hb_5
        refine guardM_n' hb_5 (by decide) ?_
        refine guardM_n' hb_5 (by decide) ?_
        refine guardM_n' hb_5 (by decide) ?_
        refine guardM_n' hb_5 (by decide) ?_
        refine guardM_n' hb_5 (by decide) ?_
        refine guardM_n' hb_5 (by decide) ?_
        refine guardM_n' hb_5 (by decide) ?_
        refine guardM_n' hb_5 (by decide) ?_
        refine guardM_n' hb_5 (by decide) ?_
        refine guardM_n' hb_5 (by decide) ?_
        refine pop_pickf' hb_5 ?_
        refine condM_f ?_
        refine pop_add .i64 t18_1 1 ?_
        obtain ⟨m_3, hm_3, H⟩ := H
        exact hn_1 _ _ ⟨m_3, hm_3, out6_1, (w64 (t18_1 + 1)), rfl, H, hL_5⟩
    · have H := H.2 hb_4
      exact H

/-! laws.eqWalkS -/
def u44 (P : Program) (a0_1 : Sl) (b1_1 : Sl) (h : Heap) (K : Value → Heap → Prop) : Prop :=
  ((!decide ((a0_1.n : Int) = (b1_1.n : Int))) = true →
  K (VB false) h) ∧
  ((!decide ((a0_1.n : Int) = (b1_1.n : Int))) = false →
  ∃ J_1 : Nat → Int → Heap → Prop, (∃ n0 : Nat, J_1 n0 0 h) ∧
  ∀ (n_1 : Nat) (i5_1 : Int) (h_1 : Heap), J_1 n_1 i5_1 h_1 → Vars h_1 [] →
  ((decide (i5_1 < (a0_1.n : Int))) = true →
  InB a0_1 i5_1 ∧
  ∃ t20_1 : Sl, ∃ t20_2 : Int, CellsAt h_1 (Sl.at a0_1 i5_1 2) [(Sl.v t20_1), (VI t20_2)] ∧
  InB b1_1 i5_1 ∧
  ∃ t24_1 : Sl, ∃ t24_2 : Int, CellsAt h_1 (Sl.at b1_1 i5_1 2) [(Sl.v t24_1), (VI t24_2)] ∧
  callM P 37 #[(Value.agg #[(Sl.v t20_1), (VI t20_2)]), (Value.agg #[(Sl.v t24_1), (VI t24_2)])] h_1 fun rv_1 h_2 => ∃ t25_1 : Bool, rv_1 = (VB t25_1) ∧ Vars h_2 [] ∧
  ((!t25_1) = true →
  K (VB false) h_2) ∧
  ((!t25_1) = false →
  ∃ m : Nat, m < n_1 ∧ J_1 m (w64 (i5_1 + 1)) h_2)) ∧
  ((decide (i5_1 < (a0_1.n : Int))) = false →
  K (VB true) h_1))
theorem v44 (a0_1 : Sl) (b1_1 : Sl) (h : Heap) (K : Value → Heap → Prop) (H : u44 Try.prog a0_1 b1_1 h K) : callM Try.prog 44 #[(Sl.v a0_1), (Sl.v b1_1)] h K := by
  refine c44 (Sl.v a0_1) (Sl.v b1_1) h K ?_
  unfold u44 at H
  unfold t44
  have hL : Vars h [] := .nil
  refine pop_len a0_1 _ _ sli59 ?_
  refine pop_len b1_1 _ _ sli59 ?_
  refine pop_ine .i64 _ _ (a0_1.n : Int) (b1_1.n : Int) ?_
  refine condM_b (fun hb_1 => ?_) (fun hb_1 => ?_)
  · have H := H.1 hb_1
    exact H
  · have H := H.2 hb_1
    obtain ⟨J_1, ⟨n_2, h0_1⟩, HB_1⟩ := H
    refine loop_intro (J := fun (n : Nat) (vs : List Value) (h' : Heap) => ∃ i5_1 : Int, vs = [(VI i5_1)] ∧ J_1 n i5_1 h' ∧ Vars h' []) n_2 ⟨0, rfl, h0_1, hL⟩ ?_
    intro I_1 mu_1 hI_1 junk_1 tv_1 h_1 hi_1
    obtain ⟨n_1, ⟨i5_1, hv, hJ_1, hL_1⟩, hn_1⟩ := hI_1 _ _ hi_1
    cases hv
    have H := HB_1 n_1 i5_1 h_1 hJ_1 hL_1
    refine pop_len a0_1 _ _ sli59 ?_
    refine pop_lss .i64 i5_1 (a0_1.n : Int) ?_
    refine condM_b (fun hb_2 => ?_) (fun hb_2 => ?_)
    · have H := H.1 hb_2
      obtain ⟨hi_2, H⟩ := H
      refine pop_index sli59 siz27 .i64 a0_1 i5_1 hi_2 ?_
      obtain ⟨t20_1, t20_2, hc_2, H⟩ := H
      refine rop_agg agg27 [(Sl.v t20_1), (VI t20_2)] rfl hc_2 ?_
      obtain ⟨hi_3, H⟩ := H
      refine pop_index sli59 siz27 .i64 b1_1 i5_1 hi_3 ?_
      obtain ⟨t24_1, t24_2, hc_1, H⟩ := H
      refine rop_agg agg27 [(Sl.v t24_1), (VI t24_2)] rfl hc_1 ?_
      refine H.mono fun rv_1 h_2 H => ?_
      obtain ⟨t25_1, rfl, hL_2, H⟩ := H
      refine pop_not t25_1 ?_
      refine condM_b (fun hb_3 => ?_) (fun hb_3 => ?_)
      · have H := H.1 hb_3
        exact H
      · have H := H.2 hb_3
        refine pop_add .i64 i5_1 1 ?_
        obtain ⟨m_1, hm_1, H⟩ := H
        exact hn_1 _ _ ⟨m_1, hm_1, (w64 (i5_1 + 1)), rfl, H, hL_2⟩
    · have H := H.2 hb_2
      exact H

/-! laws.markWalk -/
def u45 (P : Program) (a0_1 : Sl) (a0_2 : Int) (k1_1 : Int) (h : Heap) (K : Value → Heap → Prop) : Prop :=
  ∀ (b_1 : Nat) (h_1 : Heap), h.size ≤ b_1 → Fr (In []) h h_1 → Vars h_1 [(b_1, [(Sl.v a0_1), (VI a0_2)])] →
  callM P 54 #[(Sl.v a0_1), (VI k1_1)] h_1 fun rv_1 h_2 => ∃ t8_1 : Int, rv_1 = (VI t8_1) ∧ Vars h_2 [(b_1, [(Sl.v a0_1), (VI a0_2)])] ∧
  K (VI t8_1) h_2
theorem v45 (a0_1 : Sl) (a0_2 : Int) (k1_1 : Int) (h : Heap) (K : Value → Heap → Prop) (H : u45 Try.prog a0_1 a0_2 k1_1 h K) : callM Try.prog 45 #[(Value.agg #[(Sl.v a0_1), (VI a0_2)]), (VI k1_1)] h K := by
  refine c45 (Value.agg #[(Sl.v a0_1), (VI a0_2)]) (VI k1_1) h K ?_
  unfold u45 at H
  unfold t45
  have hL : Vars h [] := .nil
  refine eop_box 27 (Value.agg #[(Sl.v a0_1), (VI a0_2)]) rfl hL (fun b_1 h_1 hb_1 hf_1 hL_1 => ?_)
  refine pop_field 0 fld27_0 b_1 0 ?_
  refine rop_loc one25 hL_1 0 rfl 0 (v := (Sl.v a0_1)) rfl ?_
  have H := H b_1 h_1 (Nat.le_trans (Fr.size (Fr.r (In []) _)) hb_1) (Fr.no' (Fr.r (In []) _) hf_1) hL_1
  refine H.mono fun rv_1 h_2 H => ?_
  obtain ⟨t8_1, rfl, hL_2, H⟩ := H
  exact H

/-! laws.markWalkS -/
def u46 (P : Program) (a0_1 : Sl) (k1_1 : Int) (h : Heap) (K : Value → Heap → Prop) : Prop :=
  ∃ J_1 : Nat → Int → Int → Heap → Prop, (∃ n0 : Nat, J_1 n0 k1_1 0 h) ∧
  ∀ (n_1 : Nat) (k1_2 : Int) (i5_1 : Int) (h_1 : Heap), J_1 n_1 k1_2 i5_1 h_1 → Vars h_1 [] →
  ((decide (i5_1 < (a0_1.n : Int))) = true →
  InB a0_1 i5_1 ∧
  ∃ t16_1 : Sl, hcell h_1 (Addr.add (Sl.at a0_1 i5_1 2) 0) = some (Sl.v t16_1) ∧
  callM P 54 #[(Sl.v t16_1), (VI k1_2)] h_1 fun rv_1 h_2 => ∃ t18_1 : Int, rv_1 = (VI t18_1) ∧ Vars h_2 [] ∧
  InB a0_1 i5_1 ∧
  Writable h_2 (Addr.add (Sl.at a0_1 i5_1 2) 1) ∧ Vars (hset h_2 (Addr.add (Sl.at a0_1 i5_1 2) 1) (VI t18_1)) [] ∧
  ∀ h_3 : Heap, h_3 = hset h_2 (Addr.add (Sl.at a0_1 i5_1 2) 1) (VI t18_1) → Vars h_3 [] →
  ∃ m : Nat, m < n_1 ∧ J_1 m (w64 (t18_1 + 1)) (w64 (i5_1 + 1)) h_3) ∧
  ((decide (i5_1 < (a0_1.n : Int))) = false →
  K (VI k1_2) h_1)
theorem v46 (a0_1 : Sl) (k1_1 : Int) (h : Heap) (K : Value → Heap → Prop) (H : u46 Try.prog a0_1 k1_1 h K) : callM Try.prog 46 #[(Sl.v a0_1), (VI k1_1)] h K := by
  refine c46 (Sl.v a0_1) (VI k1_1) h K ?_
  unfold u46 at H
  unfold t46
  have hL : Vars h [] := .nil
  obtain ⟨J_1, ⟨n_2, h0_1⟩, HB_1⟩ := H
  refine loop_intro (J := fun (n : Nat) (vs : List Value) (h' : Heap) => ∃ k1_2 : Int, ∃ i5_1 : Int, vs = [(VI k1_2), (VI i5_1)] ∧ J_1 n k1_2 i5_1 h' ∧ Vars h' []) n_2 ⟨k1_1, 0, rfl, h0_1, hL⟩ ?_
  intro I_1 mu_1 hI_1 junk_1 tv_1 tv_2 h_1 hi_1
  obtain ⟨n_1, ⟨k1_2, i5_1, hv, hJ_1, hL_1⟩, hn_1⟩ := hI_1 _ _ hi_1
  cases hv
  have H := HB_1 n_1 k1_2 i5_1 h_1 hJ_1 hL_1
  refine pop_len a0_1 _ _ sli59 ?_
  refine pop_lss .i64 i5_1 (a0_1.n : Int) ?_
  refine condM_b (fun hb_1 => ?_) (fun hb_1 => ?_)
  · have H := H.1 hb_1
    obtain ⟨hi_2, H⟩ := H
    refine pop_index sli59 siz27 .i64 a0_1 i5_1 hi_2 ?_
    refine pop_fieldA 0 fld27_0 (Sl.at a0_1 i5_1 2) ?_
    obtain ⟨t16_1, hc_1, H⟩ := H
    refine rop_one one25 (Sl.v t16_1) hc_1 ?_
    refine H.mono fun rv_1 h_2 H => ?_
    obtain ⟨t18_1, rfl, hL_2, H⟩ := H
    obtain ⟨hi_3, H⟩ := H
    refine pop_index sli59 siz27 .i64 a0_1 i5_1 hi_3 ?_
    refine pop_fieldA 1 fld27_1 (Sl.at a0_1 i5_1 2) ?_
    obtain ⟨hw_1, hL_3, H⟩ := H
    refine uop_cell (v := (VI t18_1)) siz3 hw_1 rfl (fun h_3 he_1 => ?_)
    rw [← he_1] at hL_3
    have H := H h_3 he_1 hL_3
    refine pop_add .i64 t18_1 1 ?_
    refine pop_add .i64 i5_1 1 ?_
    obtain ⟨m_1, hm_1, H⟩ := H
    exact hn_1 _ _ ⟨m_1, hm_1, (w64 (t18_1 + 1)), (w64 (i5_1 + 1)), rfl, H, hL_3⟩
  · have H := H.2 hb_1
    exact H

/-! laws.heldWalkS -/
def u47 (P : Program) (a0_1 : Sl) (k1_1 : Int) (h : Heap) (K : Value → Heap → Prop) : Prop :=
  ∃ J_1 : Nat → Int → Int → Heap → Prop, (∃ n0 : Nat, J_1 n0 k1_1 0 h) ∧
  ∀ (n_1 : Nat) (k1_2 : Int) (i5_1 : Int) (h_1 : Heap), J_1 n_1 k1_2 i5_1 h_1 → Vars h_1 [] →
  ((decide (i5_1 < (a0_1.n : Int))) = true →
  InB a0_1 i5_1 ∧
  ∃ t16_1 : Sl, hcell h_1 (Addr.add (Sl.at a0_1 i5_1 2) 0) = some (Sl.v t16_1) ∧
  callM P 55 #[(Sl.v t16_1), (VI k1_2)] h_1 fun rv_1 h_2 => ∃ t18_1 : Int, rv_1 = (VI t18_1) ∧ Vars h_2 [] ∧
  ((decide (t18_1 < 0)) = true →
  K (VI (-1)) h_2) ∧
  ((decide (t18_1 < 0)) = false →
  InB a0_1 i5_1 ∧
  ∃ t25_1 : Int, hcell h_2 (Addr.add (Sl.at a0_1 i5_1 2) 1) = some (VI t25_1) ∧
  ((!decide (t25_1 = t18_1)) = true →
  K (VI (-1)) h_2) ∧
  ((!decide (t25_1 = t18_1)) = false →
  ∃ m : Nat, m < n_1 ∧ J_1 m (w64 (t18_1 + 1)) (w64 (i5_1 + 1)) h_2))) ∧
  ((decide (i5_1 < (a0_1.n : Int))) = false →
  K (VI k1_2) h_1)
theorem v47 (a0_1 : Sl) (k1_1 : Int) (h : Heap) (K : Value → Heap → Prop) (H : u47 Try.prog a0_1 k1_1 h K) : callM Try.prog 47 #[(Sl.v a0_1), (VI k1_1)] h K := by
  refine c47 (Sl.v a0_1) (VI k1_1) h K ?_
  unfold u47 at H
  unfold t47
  have hL : Vars h [] := .nil
  obtain ⟨J_1, ⟨n_2, h0_1⟩, HB_1⟩ := H
  refine loop_intro (J := fun (n : Nat) (vs : List Value) (h' : Heap) => ∃ k1_2 : Int, ∃ i5_1 : Int, vs = [(VI k1_2), (VI i5_1)] ∧ J_1 n k1_2 i5_1 h' ∧ Vars h' []) n_2 ⟨k1_1, 0, rfl, h0_1, hL⟩ ?_
  intro I_1 mu_1 hI_1 junk_1 tv_1 tv_2 h_1 hi_1
  obtain ⟨n_1, ⟨k1_2, i5_1, hv, hJ_1, hL_1⟩, hn_1⟩ := hI_1 _ _ hi_1
  cases hv
  have H := HB_1 n_1 k1_2 i5_1 h_1 hJ_1 hL_1
  refine pop_len a0_1 _ _ sli59 ?_
  refine pop_lss .i64 i5_1 (a0_1.n : Int) ?_
  refine condM_b (fun hb_1 => ?_) (fun hb_1 => ?_)
  · have H := H.1 hb_1
    obtain ⟨hi_2, H⟩ := H
    refine pop_index sli59 siz27 .i64 a0_1 i5_1 hi_2 ?_
    refine pop_fieldA 0 fld27_0 (Sl.at a0_1 i5_1 2) ?_
    obtain ⟨t16_1, hc_2, H⟩ := H
    refine rop_one one25 (Sl.v t16_1) hc_2 ?_
    refine H.mono fun rv_1 h_2 H => ?_
    obtain ⟨t18_1, rfl, hL_2, H⟩ := H
    refine pop_lss .i64 t18_1 0 ?_
    refine condM_b (fun hb_2 => ?_) (fun hb_2 => ?_)
    · have H := H.1 hb_2
      exact H
    · have H := H.2 hb_2
      obtain ⟨hi_3, H⟩ := H
      refine pop_index sli59 siz27 .i64 a0_1 i5_1 hi_3 ?_
      refine pop_fieldA 1 fld27_1 (Sl.at a0_1 i5_1 2) ?_
      obtain ⟨t25_1, hc_1, H⟩ := H
      refine rop_one one3 (VI t25_1) hc_1 ?_
      refine pop_ine .i64 _ _ t25_1 t18_1 ?_
      refine condM_b (fun hb_3 => ?_) (fun hb_3 => ?_)
      · have H := H.1 hb_3
        exact H
      · have H := H.2 hb_3
        refine pop_add .i64 t18_1 1 ?_
        refine pop_add .i64 i5_1 1 ?_
        obtain ⟨m_1, hm_1, H⟩ := H
        exact hn_1 _ _ ⟨m_1, hm_1, (w64 (t18_1 + 1)), (w64 (i5_1 + 1)), rfl, H, hL_2⟩
  · have H := H.2 hb_1
    exact H

/-! laws.eqIntS -/
def u53 (P : Program) (a0_1 : Sl) (b1_1 : Sl) (h : Heap) (K : Value → Heap → Prop) : Prop :=
  ((!decide ((a0_1.n : Int) = (b1_1.n : Int))) = true →
  K (VB false) h) ∧
  ((!decide ((a0_1.n : Int) = (b1_1.n : Int))) = false →
  ∃ J_1 : Nat → Int → Heap → Prop, (∃ n0 : Nat, J_1 n0 0 h) ∧
  ∀ (n_1 : Nat) (i5_1 : Int) (h_1 : Heap), J_1 n_1 i5_1 h_1 → Vars h_1 [] →
  ((decide (i5_1 < (a0_1.n : Int))) = true →
  InB a0_1 i5_1 ∧
  ∃ t20_1 : Int, hcell h_1 (Sl.at a0_1 i5_1 1) = some (VI t20_1) ∧
  InB b1_1 i5_1 ∧
  ∃ t24_1 : Int, hcell h_1 (Sl.at b1_1 i5_1 1) = some (VI t24_1) ∧
  ((!decide (t20_1 = t24_1)) = true →
  K (VB false) h_1) ∧
  ((!decide (t20_1 = t24_1)) = false →
  ∃ m : Nat, m < n_1 ∧ J_1 m (w64 (i5_1 + 1)) h_1)) ∧
  ((decide (i5_1 < (a0_1.n : Int))) = false →
  K (VB true) h_1))
theorem v53 (a0_1 : Sl) (b1_1 : Sl) (h : Heap) (K : Value → Heap → Prop) (H : u53 Try.prog a0_1 b1_1 h K) : callM Try.prog 53 #[(Sl.v a0_1), (Sl.v b1_1)] h K := by
  refine c53 (Sl.v a0_1) (Sl.v b1_1) h K ?_
  unfold u53 at H
  unfold t53
  have hL : Vars h [] := .nil
  refine pop_len a0_1 _ _ sli25 ?_
  refine pop_len b1_1 _ _ sli25 ?_
  refine pop_ine .i64 _ _ (a0_1.n : Int) (b1_1.n : Int) ?_
  refine condM_b (fun hb_1 => ?_) (fun hb_1 => ?_)
  · have H := H.1 hb_1
    exact H
  · have H := H.2 hb_1
    obtain ⟨J_1, ⟨n_2, h0_1⟩, HB_1⟩ := H
    refine loop_intro (J := fun (n : Nat) (vs : List Value) (h' : Heap) => ∃ i5_1 : Int, vs = [(VI i5_1)] ∧ J_1 n i5_1 h' ∧ Vars h' []) n_2 ⟨0, rfl, h0_1, hL⟩ ?_
    intro I_1 mu_1 hI_1 junk_1 tv_1 h_1 hi_1
    obtain ⟨n_1, ⟨i5_1, hv, hJ_1, hL_1⟩, hn_1⟩ := hI_1 _ _ hi_1
    cases hv
    have H := HB_1 n_1 i5_1 h_1 hJ_1 hL_1
    refine pop_len a0_1 _ _ sli25 ?_
    refine pop_lss .i64 i5_1 (a0_1.n : Int) ?_
    refine condM_b (fun hb_2 => ?_) (fun hb_2 => ?_)
    · have H := H.1 hb_2
      obtain ⟨hi_2, H⟩ := H
      refine pop_index sli25 siz3 .i64 a0_1 i5_1 hi_2 ?_
      obtain ⟨t20_1, hc_2, H⟩ := H
      refine rop_one one3 (VI t20_1) hc_2 ?_
      obtain ⟨hi_3, H⟩ := H
      refine pop_index sli25 siz3 .i64 b1_1 i5_1 hi_3 ?_
      obtain ⟨t24_1, hc_1, H⟩ := H
      refine rop_one one3 (VI t24_1) hc_1 ?_
      refine pop_ine .i64 _ _ t20_1 t24_1 ?_
      refine condM_b (fun hb_3 => ?_) (fun hb_3 => ?_)
      · have H := H.1 hb_3
        exact H
      · have H := H.2 hb_3
        refine pop_add .i64 i5_1 1 ?_
        obtain ⟨m_1, hm_1, H⟩ := H
        exact hn_1 _ _ ⟨m_1, hm_1, (w64 (i5_1 + 1)), rfl, H, hL_1⟩
    · have H := H.2 hb_2
      exact H

/-! laws.markIntS -/
def u54 (P : Program) (a0_1 : Sl) (k1_1 : Int) (h : Heap) (K : Value → Heap → Prop) : Prop :=
  ∃ J_1 : Nat → Int → Int → Heap → Prop, (∃ n0 : Nat, J_1 n0 k1_1 0 h) ∧
  ∀ (n_1 : Nat) (k1_2 : Int) (i5_1 : Int) (h_1 : Heap), J_1 n_1 k1_2 i5_1 h_1 → Vars h_1 [] →
  ((decide (i5_1 < (a0_1.n : Int))) = true →
  InB a0_1 i5_1 ∧
  Writable h_1 (Sl.at a0_1 i5_1 1) ∧ Vars (hset h_1 (Sl.at a0_1 i5_1 1) (VI k1_2)) [] ∧
  ∀ h_2 : Heap, h_2 = hset h_1 (Sl.at a0_1 i5_1 1) (VI k1_2) → Vars h_2 [] →
  ∃ m : Nat, m < n_1 ∧ J_1 m (w64 (k1_2 + 1)) (w64 (i5_1 + 1)) h_2) ∧
  ((decide (i5_1 < (a0_1.n : Int))) = false →
  K (VI k1_2) h_1)
theorem v54 (a0_1 : Sl) (k1_1 : Int) (h : Heap) (K : Value → Heap → Prop) (H : u54 Try.prog a0_1 k1_1 h K) : callM Try.prog 54 #[(Sl.v a0_1), (VI k1_1)] h K := by
  refine c54 (Sl.v a0_1) (VI k1_1) h K ?_
  unfold u54 at H
  unfold t54
  have hL : Vars h [] := .nil
  obtain ⟨J_1, ⟨n_2, h0_1⟩, HB_1⟩ := H
  refine loop_intro (J := fun (n : Nat) (vs : List Value) (h' : Heap) => ∃ k1_2 : Int, ∃ i5_1 : Int, vs = [(VI k1_2), (VI i5_1)] ∧ J_1 n k1_2 i5_1 h' ∧ Vars h' []) n_2 ⟨k1_1, 0, rfl, h0_1, hL⟩ ?_
  intro I_1 mu_1 hI_1 junk_1 tv_1 tv_2 h_1 hi_1
  obtain ⟨n_1, ⟨k1_2, i5_1, hv, hJ_1, hL_1⟩, hn_1⟩ := hI_1 _ _ hi_1
  cases hv
  have H := HB_1 n_1 k1_2 i5_1 h_1 hJ_1 hL_1
  refine pop_len a0_1 _ _ sli25 ?_
  refine pop_lss .i64 i5_1 (a0_1.n : Int) ?_
  refine condM_b (fun hb_1 => ?_) (fun hb_1 => ?_)
  · have H := H.1 hb_1
    obtain ⟨hi_2, H⟩ := H
    refine pop_index sli25 siz3 .i64 a0_1 i5_1 hi_2 ?_
    obtain ⟨hw_1, hL_2, H⟩ := H
    refine uop_cell (v := (VI k1_2)) siz3 hw_1 rfl (fun h_2 he_1 => ?_)
    rw [← he_1] at hL_2
    have H := H h_2 he_1 hL_2
    refine pop_add .i64 k1_2 1 ?_
    refine pop_add .i64 i5_1 1 ?_
    obtain ⟨m_1, hm_1, H⟩ := H
    exact hn_1 _ _ ⟨m_1, hm_1, (w64 (k1_2 + 1)), (w64 (i5_1 + 1)), rfl, H, hL_2⟩
  · have H := H.2 hb_1
    exact H

/-! laws.heldIntS -/
def u55 (P : Program) (a0_1 : Sl) (k1_1 : Int) (h : Heap) (K : Value → Heap → Prop) : Prop :=
  ∃ J_1 : Nat → Int → Int → Heap → Prop, (∃ n0 : Nat, J_1 n0 k1_1 0 h) ∧
  ∀ (n_1 : Nat) (k1_2 : Int) (i5_1 : Int) (h_1 : Heap), J_1 n_1 k1_2 i5_1 h_1 → Vars h_1 [] →
  ((decide (i5_1 < (a0_1.n : Int))) = true →
  InB a0_1 i5_1 ∧
  ∃ t15_1 : Int, hcell h_1 (Sl.at a0_1 i5_1 1) = some (VI t15_1) ∧
  ((!decide (t15_1 = k1_2)) = true →
  K (VI (-1)) h_1) ∧
  ((!decide (t15_1 = k1_2)) = false →
  ∃ m : Nat, m < n_1 ∧ J_1 m (w64 (k1_2 + 1)) (w64 (i5_1 + 1)) h_1)) ∧
  ((decide (i5_1 < (a0_1.n : Int))) = false →
  K (VI k1_2) h_1)
theorem v55 (a0_1 : Sl) (k1_1 : Int) (h : Heap) (K : Value → Heap → Prop) (H : u55 Try.prog a0_1 k1_1 h K) : callM Try.prog 55 #[(Sl.v a0_1), (VI k1_1)] h K := by
  refine c55 (Sl.v a0_1) (VI k1_1) h K ?_
  unfold u55 at H
  unfold t55
  have hL : Vars h [] := .nil
  obtain ⟨J_1, ⟨n_2, h0_1⟩, HB_1⟩ := H
  refine loop_intro (J := fun (n : Nat) (vs : List Value) (h' : Heap) => ∃ k1_2 : Int, ∃ i5_1 : Int, vs = [(VI k1_2), (VI i5_1)] ∧ J_1 n k1_2 i5_1 h' ∧ Vars h' []) n_2 ⟨k1_1, 0, rfl, h0_1, hL⟩ ?_
  intro I_1 mu_1 hI_1 junk_1 tv_1 tv_2 h_1 hi_1
  obtain ⟨n_1, ⟨k1_2, i5_1, hv, hJ_1, hL_1⟩, hn_1⟩ := hI_1 _ _ hi_1
  cases hv
  have H := HB_1 n_1 k1_2 i5_1 h_1 hJ_1 hL_1
  refine pop_len a0_1 _ _ sli25 ?_
  refine pop_lss .i64 i5_1 (a0_1.n : Int) ?_
  refine condM_b (fun hb_1 => ?_) (fun hb_1 => ?_)
  · have H := H.1 hb_1
    obtain ⟨hi_2, H⟩ := H
    refine pop_index sli25 siz3 .i64 a0_1 i5_1 hi_2 ?_
    obtain ⟨t15_1, hc_1, H⟩ := H
    refine rop_one one3 (VI t15_1) hc_1 ?_
    refine pop_ine .i64 _ _ t15_1 k1_2 ?_
    refine condM_b (fun hb_2 => ?_) (fun hb_2 => ?_)
    · have H := H.1 hb_2
      exact H
    · have H := H.2 hb_2
      refine pop_add .i64 k1_2 1 ?_
      refine pop_add .i64 i5_1 1 ?_
      obtain ⟨m_1, hm_1, H⟩ := H
      exact hn_1 _ _ ⟨m_1, hm_1, (w64 (k1_2 + 1)), (w64 (i5_1 + 1)), rfl, H, hL_1⟩
  · have H := H.2 hb_1
    exact H

/-! laws.szIntSS -/
def u63 (P : Program) (a0_1 : Sl) (left1_1 : Int) (h : Heap) (K : Value → Heap → Prop) : Prop :=
  ((decide ((w64 (left1_1 - (a0_1.n : Int))) < 0)) = true →
  K (VI (-1)) h) ∧
  ((decide ((w64 (left1_1 - (a0_1.n : Int))) < 0)) = false →
  ∃ J_1 : Nat → Int → Int → Heap → Prop, (∃ n0 : Nat, J_1 n0 (w64 (left1_1 - (a0_1.n : Int))) 0 h) ∧
  ∀ (n_1 : Nat) (left1_2 : Int) (i5_1 : Int) (h_1 : Heap), J_1 n_1 left1_2 i5_1 h_1 → Vars h_1 [] →
  ((decide (i5_1 < (a0_1.n : Int))) = true →
  InB a0_1 i5_1 ∧
  ∃ t21_1 : Sl, hcell h_1 (Sl.at a0_1 i5_1 1) = some (Sl.v t21_1) ∧
  callM P 77 #[(Sl.v t21_1), (VI left1_2)] h_1 fun rv_1 h_2 => ∃ t23_1 : Int, rv_1 = (VI t23_1) ∧ Vars h_2 [] ∧
  ((decide (t23_1 < 0)) = true →
  K (VI (-1)) h_2) ∧
  ((decide (t23_1 < 0)) = false →
  ∃ m : Nat, m < n_1 ∧ J_1 m t23_1 (w64 (i5_1 + 1)) h_2)) ∧
  ((decide (i5_1 < (a0_1.n : Int))) = false →
  K (VI left1_2) h_1))
theorem v63 (a0_1 : Sl) (left1_1 : Int) (h : Heap) (K : Value → Heap → Prop) (H : u63 Try.prog a0_1 left1_1 h K) : callM Try.prog 63 #[(Sl.v a0_1), (VI left1_1)] h K := by
  refine c63 (Sl.v a0_1) (VI left1_1) h K ?_
  unfold u63 at H
  unfold t63
  have hL : Vars h [] := .nil
  refine pop_len a0_1 _ _ sli22 ?_
  refine pop_sub .i64 left1_1 (a0_1.n : Int) ?_
  refine pop_lss .i64 (w64 (left1_1 - (a0_1.n : Int))) 0 ?_
  refine condM_b (fun hb_1 => ?_) (fun hb_1 => ?_)
  · have H := H.1 hb_1
    exact H
  · have H := H.2 hb_1
    obtain ⟨J_1, ⟨n_2, h0_1⟩, HB_1⟩ := H
    refine loop_intro (J := fun (n : Nat) (vs : List Value) (h' : Heap) => ∃ left1_2 : Int, ∃ i5_1 : Int, vs = [(VI left1_2), (VI i5_1)] ∧ J_1 n left1_2 i5_1 h' ∧ Vars h' []) n_2 ⟨(w64 (left1_1 - (a0_1.n : Int))), 0, rfl, h0_1, hL⟩ ?_
    intro I_1 mu_1 hI_1 junk_1 tv_1 tv_2 h_1 hi_1
    obtain ⟨n_1, ⟨left1_2, i5_1, hv, hJ_1, hL_1⟩, hn_1⟩ := hI_1 _ _ hi_1
    cases hv
    have H := HB_1 n_1 left1_2 i5_1 h_1 hJ_1 hL_1
    refine pop_len a0_1 _ _ sli22 ?_
    refine pop_lss .i64 i5_1 (a0_1.n : Int) ?_
    refine condM_b (fun hb_2 => ?_) (fun hb_2 => ?_)
    · have H := H.1 hb_2
      obtain ⟨hi_2, H⟩ := H
      refine pop_index sli22 siz25 .i64 a0_1 i5_1 hi_2 ?_
      obtain ⟨t21_1, hc_1, H⟩ := H
      refine rop_one one25 (Sl.v t21_1) hc_1 ?_
      refine H.mono fun rv_1 h_2 H => ?_
      obtain ⟨t23_1, rfl, hL_2, H⟩ := H
      refine pop_lss .i64 t23_1 0 ?_
      refine condM_b (fun hb_3 => ?_) (fun hb_3 => ?_)
      · have H := H.1 hb_3
        exact H
      · have H := H.2 hb_3
        refine pop_add .i64 i5_1 1 ?_
        obtain ⟨m_1, hm_1, H⟩ := H
        exact hn_1 _ _ ⟨m_1, hm_1, t23_1, (w64 (i5_1 + 1)), rfl, H, hL_2⟩
    · have H := H.2 hb_2
      exact H

/-! spec.grPlace -/
def u64 (P : Program) (g0_1 : Sl) (p1_1 : Int) (h : Heap) (K : Value → Heap → Prop) : Prop :=
  ∀ (b_1 : Nat) (h_1 : Heap), h.size ≤ b_1 → Fr (In []) h h_1 → Vars h_1 [(b_1, [(Sl.v g0_1)])] →
  callM P 97 #[(Value.agg #[(Sl.v g0_1)])] h_1 fun rv_1 h_2 => ∃ t6_1 : Bool, rv_1 = (VB t6_1) ∧ Vars h_2 [(b_1, [(Sl.v g0_1)])] ∧
  (t6_1 = true →
  callM P 74 #[(VI p1_1), (VI 0), (VI (w64 ((g0_1.n : Int) - 1)))] h_2 fun rv_2 h_3 => ∃ t13_1 : Bool, rv_2 = (VB t13_1) ∧ Vars h_3 [(b_1, [(Sl.v g0_1)])] ∧
  K (VB t13_1) h_3) ∧
  (t6_1 = false →
  K (VB false) h_2)
theorem v64 (g0_1 : Sl) (p1_1 : Int) (h : Heap) (K : Value → Heap → Prop) (H : u64 Try.prog g0_1 p1_1 h K) : callM Try.prog 64 #[(Value.agg #[(Sl.v g0_1)]), (VI p1_1)] h K := by
  refine c64 (Value.agg #[(Sl.v g0_1)]) (VI p1_1) h K ?_
  unfold u64 at H
  unfold t64
  have hL : Vars h [] := .nil
  refine eop_box 24 (Value.agg #[(Sl.v g0_1)]) rfl hL (fun b_1 h_1 hb_1 hf_1 hL_1 => ?_)
  refine rop_locA agg24 hL_1 0 rfl 0 (vs := [(Sl.v g0_1)]) rfl rfl ?_
  have H := H b_1 h_1 (Nat.le_trans (Fr.size (Fr.r (In []) _)) hb_1) (Fr.no' (Fr.r (In []) _) hf_1) hL_1
  refine H.mono fun rv_1 h_2 H => ?_
  obtain ⟨t6_1, rfl, hL_2, H⟩ := H
  refine guardM_st (fun hb_2 => ?_) (fun hb_2 => ?_)
  · have H := H.1 hb_2
    refine guardM_y' hb_2 ?_
    refine pop_field 0 fld24_0 b_1 0 ?_
    refine guardM_y' hb_2 ?_
    refine rop_loc one22 hL_2 0 rfl 0 (v := (Sl.v g0_1)) rfl ?_
    refine guardM_y' hb_2 ?_
    refine pop_len g0_1 _ _ sli22 ?_
    refine guardM_y' hb_2 ?_
    refine pop_sub .i64 (g0_1.n : Int) 1 ?_
    refine guardM_y' hb_2 ?_
    refine H.mono fun rv_2 h_3 H => ?_
    obtain ⟨t13_1, rfl, hL_3, H⟩ := H
    refine pop_pickt' hb_2 ?_
    exact H
  · have H := H.2 hb_2
    refine guardM_n' hb_2 (by decide) ?_
    refine guardM_n' hb_2 (by decide) ?_
    refine guardM_n' hb_2 (by decide) ?_
    refine guardM_n' hb_2 (by decide) ?_
    refine guardM_n' hb_2 (by decide) ?_
    refine pop_pickf' hb_2 ?_
    exact H

/-! laws.toIntSS -/
def u67 (P : Program) (a0_1 : Sl) (h : Heap) (K : Value → Heap → Prop) : Prop :=
  eop P (Instr.makeSlice 22 (VI (a0_1.n : Int)) (VI (a0_1.n : Int))) h fun rv_1 h_1 => ∃ t7_1 : Sl, rv_1 = (Sl.v t7_1) ∧ Vars h_1 [] ∧
  ∃ J_1 : Nat → Int → Heap → Prop, (∃ n0 : Nat, J_1 n0 0 h_1) ∧
  ∀ (n_1 : Nat) (i4_1 : Int) (h_2 : Heap), J_1 n_1 i4_1 h_2 → Vars h_2 [] →
  ((decide (i4_1 < (a0_1.n : Int))) = true →
  InB a0_1 i4_1 ∧
  ∃ t19_1 : Sl, hcell h_2 (Sl.at a0_1 i4_1 1) = some (Sl.v t19_1) ∧
  callM P 80 #[(Sl.v t19_1)] h_2 fun rv_2 h_3 => ∃ t20_1 : Sl, rv_2 = (Sl.v t20_1) ∧ Vars h_3 [] ∧
  InB t7_1 i4_1 ∧
  Writable h_3 (Sl.at t7_1 i4_1 1) ∧ Vars (hset h_3 (Sl.at t7_1 i4_1 1) (Sl.v t20_1)) [] ∧
  ∀ h_4 : Heap, h_4 = hset h_3 (Sl.at t7_1 i4_1 1) (Sl.v t20_1) → Vars h_4 [] →
  ∃ m : Nat, m < n_1 ∧ J_1 m (w64 (i4_1 + 1)) h_4) ∧
  ((decide (i4_1 < (a0_1.n : Int))) = false →
  K (Sl.v t7_1) h_2)
theorem v67 (a0_1 : Sl) (h : Heap) (K : Value → Heap → Prop) (H : u67 Try.prog a0_1 h K) : callM Try.prog 67 #[(Sl.v a0_1)] h K := by
  refine c67 (Sl.v a0_1) h K ?_
  unfold u67 at H
  unfold t67
  have hL : Vars h [] := .nil
  refine pop_len a0_1 _ _ sli22 ?_
  refine H.mono fun rv_1 h_1 H => ?_
  obtain ⟨t7_1, rfl, hL_1, H⟩ := H
  obtain ⟨J_1, ⟨n_2, h0_1⟩, HB_1⟩ := H
  refine loop_intro (J := fun (n : Nat) (vs : List Value) (h' : Heap) => ∃ i4_1 : Int, vs = [(VI i4_1)] ∧ J_1 n i4_1 h' ∧ Vars h' []) n_2 ⟨0, rfl, h0_1, hL_1⟩ ?_
  intro I_1 mu_1 hI_1 junk_1 tv_1 h_2 hi_1
  obtain ⟨n_1, ⟨i4_1, hv, hJ_1, hL_2⟩, hn_1⟩ := hI_1 _ _ hi_1
  cases hv
  have H := HB_1 n_1 i4_1 h_2 hJ_1 hL_2
  refine pop_len a0_1 _ _ sli22 ?_
  refine pop_lss .i64 i4_1 (a0_1.n : Int) ?_
  refine condM_b (fun hb_1 => ?_) (fun hb_1 => ?_)
  · have H := H.1 hb_1
    obtain ⟨hi_2, H⟩ := H
    refine pop_index sli22 siz25 .i64 a0_1 i4_1 hi_2 ?_
    obtain ⟨t19_1, hc_1, H⟩ := H
    refine rop_one one25 (Sl.v t19_1) hc_1 ?_
    refine H.mono fun rv_2 h_3 H => ?_
    obtain ⟨t20_1, rfl, hL_3, H⟩ := H
    obtain ⟨hi_3, H⟩ := H
    refine pop_index sli22 siz25 .i64 t7_1 i4_1 hi_3 ?_
    obtain ⟨hw_1, hL_4, H⟩ := H
    refine uop_cell (v := (Sl.v t20_1)) siz25 hw_1 rfl (fun h_4 he_1 => ?_)
    rw [← he_1] at hL_4
    have H := H h_4 he_1 hL_4
    refine pop_add .i64 i4_1 1 ?_
    obtain ⟨m_1, hm_1, H⟩ := H
    exact hn_1 _ _ ⟨m_1, hm_1, (w64 (i4_1 + 1)), rfl, H, hL_4⟩
  · have H := H.2 hb_1
    exact H

/-! impl.has -/
def u68 (P : Program) (g0_1 : Sl) (places1_1 : Sl) (h : Heap) (K : Value → Heap → Prop) : Prop :=
  ∀ (b_1 : Nat) (h_1 : Heap), h.size ≤ b_1 → Fr (In []) h h_1 → Vars h_1 [(b_1, [(Sl.v g0_1)])] →
  callM P 98 #[(Value.agg #[(Sl.v g0_1)])] h_1 fun rv_1 h_2 => ∃ t6_1 : Bool, rv_1 = (VB t6_1) ∧ Vars h_2 [(b_1, [(Sl.v g0_1)])] ∧
  (t6_1 = true →
  callM P 99 #[(Sl.v places1_1), (Value.func (Fn.func 100) #[] #[(VP b_1 0)])] h_2 fun rv_2 h_3 => ∃ x_1 : Sl, ∃ t10_1 : Bool, rv_2 = (VB t10_1) ∧ Vars h_3 [(b_1, [(Sl.v x_1)])] ∧
  K (VB (!t10_1)) h_3) ∧
  (t6_1 = false →
  K (VB false) h_2)
theorem v68 (g0_1 : Sl) (places1_1 : Sl) (h : Heap) (K : Value → Heap → Prop) (H : u68 Try.prog g0_1 places1_1 h K) : callM Try.prog 68 #[(Value.agg #[(Sl.v g0_1)]), (Sl.v places1_1)] h K := by
  refine c68 (Value.agg #[(Sl.v g0_1)]) (Sl.v places1_1) h K ?_
  unfold u68 at H
  unfold t68
  have hL : Vars h [] := .nil
  refine eop_box 24 (Value.agg #[(Sl.v g0_1)]) rfl hL (fun b_1 h_1 hb_1 hf_1 hL_1 => ?_)
  refine rop_locA agg24 hL_1 0 rfl 0 (vs := [(Sl.v g0_1)]) rfl rfl ?_
  have H := H b_1 h_1 (Nat.le_trans (Fr.size (Fr.r (In []) _)) hb_1) (Fr.no' (Fr.r (In []) _) hf_1) hL_1
  refine H.mono fun rv_1 h_2 H => ?_
  obtain ⟨t6_1, rfl, hL_2, H⟩ := H
  refine guardM_st (fun hb_2 => ?_) (fun hb_2 => ?_)
  · have H := H.1 hb_2
    refine guardM_y' hb_2 ?_
    refine pop_func _ _ _ ?_
    refine guardM_y' hb_2 ?_
    refine H.mono fun rv_2 h_3 H => ?_
    obtain ⟨x_1, t10_1, rfl, hL_3, H⟩ := H
    refine guardM_y' hb_2 ?_
    refine pop_not t10_1 ?_
    refine pop_pickt' hb_2 ?_
    exact H
  · have H := H.2 hb_2
    refine guardM_n' hb_2 (by decide) ?_
    refine guardM_n' hb_2 (by decide) ?_
    refine guardM_n' hb_2 (by decide) ?_
    refine pop_pickf' hb_2 ?_
    exact H

/-! laws.eqIntSS -/
def u71 (P : Program) (a0_1 : Sl) (b1_1 : Sl) (h : Heap) (K : Value → Heap → Prop) : Prop :=
  ((!decide ((a0_1.n : Int) = (b1_1.n : Int))) = true →
  K (VB false) h) ∧
  ((!decide ((a0_1.n : Int) = (b1_1.n : Int))) = false →
  ∃ J_1 : Nat → Int → Heap → Prop, (∃ n0 : Nat, J_1 n0 0 h) ∧
  ∀ (n_1 : Nat) (i5_1 : Int) (h_1 : Heap), J_1 n_1 i5_1 h_1 → Vars h_1 [] →
  ((decide (i5_1 < (a0_1.n : Int))) = true →
  InB a0_1 i5_1 ∧
  ∃ t20_1 : Sl, hcell h_1 (Sl.at a0_1 i5_1 1) = some (Sl.v t20_1) ∧
  InB b1_1 i5_1 ∧
  ∃ t24_1 : Sl, hcell h_1 (Sl.at b1_1 i5_1 1) = some (Sl.v t24_1) ∧
  callM P 53 #[(Sl.v t20_1), (Sl.v t24_1)] h_1 fun rv_1 h_2 => ∃ t25_1 : Bool, rv_1 = (VB t25_1) ∧ Vars h_2 [] ∧
  ((!t25_1) = true →
  K (VB false) h_2) ∧
  ((!t25_1) = false →
  ∃ m : Nat, m < n_1 ∧ J_1 m (w64 (i5_1 + 1)) h_2)) ∧
  ((decide (i5_1 < (a0_1.n : Int))) = false →
  K (VB true) h_1))
theorem v71 (a0_1 : Sl) (b1_1 : Sl) (h : Heap) (K : Value → Heap → Prop) (H : u71 Try.prog a0_1 b1_1 h K) : callM Try.prog 71 #[(Sl.v a0_1), (Sl.v b1_1)] h K := by
  refine c71 (Sl.v a0_1) (Sl.v b1_1) h K ?_
  unfold u71 at H
  unfold t71
  have hL : Vars h [] := .nil
  refine pop_len a0_1 _ _ sli22 ?_
  refine pop_len b1_1 _ _ sli22 ?_
  refine pop_ine .i64 _ _ (a0_1.n : Int) (b1_1.n : Int) ?_
  refine condM_b (fun hb_1 => ?_) (fun hb_1 => ?_)
  · have H := H.1 hb_1
    exact H
  · have H := H.2 hb_1
    obtain ⟨J_1, ⟨n_2, h0_1⟩, HB_1⟩ := H
    refine loop_intro (J := fun (n : Nat) (vs : List Value) (h' : Heap) => ∃ i5_1 : Int, vs = [(VI i5_1)] ∧ J_1 n i5_1 h' ∧ Vars h' []) n_2 ⟨0, rfl, h0_1, hL⟩ ?_
    intro I_1 mu_1 hI_1 junk_1 tv_1 h_1 hi_1
    obtain ⟨n_1, ⟨i5_1, hv, hJ_1, hL_1⟩, hn_1⟩ := hI_1 _ _ hi_1
    cases hv
    have H := HB_1 n_1 i5_1 h_1 hJ_1 hL_1
    refine pop_len a0_1 _ _ sli22 ?_
    refine pop_lss .i64 i5_1 (a0_1.n : Int) ?_
    refine condM_b (fun hb_2 => ?_) (fun hb_2 => ?_)
    · have H := H.1 hb_2
      obtain ⟨hi_2, H⟩ := H
      refine pop_index sli22 siz25 .i64 a0_1 i5_1 hi_2 ?_
      obtain ⟨t20_1, hc_2, H⟩ := H
      refine rop_one one25 (Sl.v t20_1) hc_2 ?_
      obtain ⟨hi_3, H⟩ := H
      refine pop_index sli22 siz25 .i64 b1_1 i5_1 hi_3 ?_
      obtain ⟨t24_1, hc_1, H⟩ := H
      refine rop_one one25 (Sl.v t24_1) hc_1 ?_
      refine H.mono fun rv_1 h_2 H => ?_
      obtain ⟨t25_1, rfl, hL_2, H⟩ := H
      refine pop_not t25_1 ?_
      refine condM_b (fun hb_3 => ?_) (fun hb_3 => ?_)
      · have H := H.1 hb_3
        exact H
      · have H := H.2 hb_3
        refine pop_add .i64 i5_1 1 ?_
        obtain ⟨m_1, hm_1, H⟩ := H
        exact hn_1 _ _ ⟨m_1, hm_1, (w64 (i5_1 + 1)), rfl, H, hL_2⟩
    · have H := H.2 hb_2
      exact H

/-! laws.markIntSS -/
def u72 (P : Program) (a0_1 : Sl) (k1_1 : Int) (h : Heap) (K : Value → Heap → Prop) : Prop :=
  ∃ J_1 : Nat → Int → Int → Heap → Prop, (∃ n0 : Nat, J_1 n0 k1_1 0 h) ∧
  ∀ (n_1 : Nat) (k1_2 : Int) (i5_1 : Int) (h_1 : Heap), J_1 n_1 k1_2 i5_1 h_1 → Vars h_1 [] →
  ((decide (i5_1 < (a0_1.n : Int))) = true →
  InB a0_1 i5_1 ∧
  ∃ t15_1 : Sl, hcell h_1 (Sl.at a0_1 i5_1 1) = some (Sl.v t15_1) ∧
  callM P 54 #[(Sl.v t15_1), (VI k1_2)] h_1 fun rv_1 h_2 => ∃ t17_1 : Int, rv_1 = (VI t17_1) ∧ Vars h_2 [] ∧
  ∃ m : Nat, m < n_1 ∧ J_1 m t17_1 (w64 (i5_1 + 1)) h_2) ∧
  ((decide (i5_1 < (a0_1.n : Int))) = false →
  K (VI k1_2) h_1)
theorem v72 (a0_1 : Sl) (k1_1 : Int) (h : Heap) (K : Value → Heap → Prop) (H : u72 Try.prog a0_1 k1_1 h K) : callM Try.prog 72 #[(Sl.v a0_1), (VI k1_1)] h K := by
  refine c72 (Sl.v a0_1) (VI k1_1) h K ?_
  unfold u72 at H
  unfold t72
  have hL : Vars h [] := .nil
  obtain ⟨J_1, ⟨n_2, h0_1⟩, HB_1⟩ := H
  refine loop_intro (J := fun (n : Nat) (vs : List Value) (h' : Heap) => ∃ k1_2 : Int, ∃ i5_1 : Int, vs = [(VI k1_2), (VI i5_1)] ∧ J_1 n k1_2 i5_1 h' ∧ Vars h' []) n_2 ⟨k1_1, 0, rfl, h0_1, hL⟩ ?_
  intro I_1 mu_1 hI_1 junk_1 tv_1 tv_2 h_1 hi_1
  obtain ⟨n_1, ⟨k1_2, i5_1, hv, hJ_1, hL_1⟩, hn_1⟩ := hI_1 _ _ hi_1
  cases hv
  have H := HB_1 n_1 k1_2 i5_1 h_1 hJ_1 hL_1
  refine pop_len a0_1 _ _ sli22 ?_
  refine pop_lss .i64 i5_1 (a0_1.n : Int) ?_
  refine condM_b (fun hb_1 => ?_) (fun hb_1 => ?_)
  · have H := H.1 hb_1
    obtain ⟨hi_2, H⟩ := H
    refine pop_index sli22 siz25 .i64 a0_1 i5_1 hi_2 ?_
    obtain ⟨t15_1, hc_1, H⟩ := H
    refine rop_one one25 (Sl.v t15_1) hc_1 ?_
    refine H.mono fun rv_1 h_2 H => ?_
    obtain ⟨t17_1, rfl, hL_2, H⟩ := H
    refine pop_add .i64 i5_1 1 ?_
    obtain ⟨m_1, hm_1, H⟩ := H
    exact hn_1 _ _ ⟨m_1, hm_1, t17_1, (w64 (i5_1 + 1)), rfl, H, hL_2⟩
  · have H := H.2 hb_1
    exact H

/-! spec.l1In -/
def u74 (P : Program) (n0_1 : Int) (lo1_1 : Int) (hi2_1 : Int) (h : Heap) (K : Value → Heap → Prop) : Prop :=
  ((decide (lo1_1 ≤ n0_1)) = true →
  K (VB (decide (n0_1 ≤ hi2_1))) h) ∧
  ((decide (lo1_1 ≤ n0_1)) = false →
  K (VB false) h)
theorem v74 (n0_1 : Int) (lo1_1 : Int) (hi2_1 : Int) (h : Heap) (K : Value → Heap → Prop) (H : u74 Try.prog n0_1 lo1_1 hi2_1 h K) : callM Try.prog 74 #[(VI n0_1), (VI lo1_1), (VI hi2_1)] h K := by
  refine c74 (VI n0_1) (VI lo1_1) (VI hi2_1) h K ?_
  unfold u74 at H
  unfold t74
  have hL : Vars h [] := .nil
  refine pop_geq .i64 n0_1 lo1_1 ?_
  refine guardM_st (fun hb_1 => ?_) (fun hb_1 => ?_)
  · have H := H.1 hb_1
    refine guardM_y' hb_1 ?_
    refine guardM_y' hb_1 ?_
    refine pop_leq .i64 n0_1 hi2_1 ?_
    refine pop_pickt' hb_1 ?_
    exact H
  · have H := H.2 hb_1
    refine guardM_n' hb_1 (by decide) ?_
    refine guardM_n' hb_1 (by decide) ?_
    refine pop_pickf' hb_1 ?_
    exact H

/-! impl.in -/
def u75 (P : Program) (n0_1 : Int) (low1_1 : Int) (high2_1 : Int) (h : Heap) (K : Value → Heap → Prop) : Prop :=
  ((decide (low1_1 ≤ n0_1)) = true →
  K (VB (decide (n0_1 ≤ high2_1))) h) ∧
  ((decide (low1_1 ≤ n0_1)) = false →
  K (VB false) h)
theorem v75 (n0_1 : Int) (low1_1 : Int) (high2_1 : Int) (h : Heap) (K : Value → Heap → Prop) (H : u75 Try.prog n0_1 low1_1 high2_1 h K) : callM Try.prog 75 #[(VI n0_1), (VI low1_1), (VI high2_1)] h K := by
  refine c75 (VI n0_1) (VI low1_1) (VI high2_1) h K ?_
  unfold u75 at H
  unfold t75
  have hL : Vars h [] := .nil
  refine pop_leq .i64 low1_1 n0_1 ?_
  refine guardM_st (fun hb_1 => ?_) (fun hb_1 => ?_)
  · have H := H.1 hb_1
    refine guardM_y' hb_1 ?_
    refine guardM_y' hb_1 ?_
    refine pop_leq .i64 n0_1 high2_1 ?_
    refine pop_pickt' hb_1 ?_
    exact H
  · have H := H.2 hb_1
    refine guardM_n' hb_1 (by decide) ?_
    refine guardM_n' hb_1 (by decide) ?_
    refine pop_pickf' hb_1 ?_
    exact H

/-! laws.szIntS -/
def u77 (P : Program) (a0_1 : Sl) (left1_1 : Int) (h : Heap) (K : Value → Heap → Prop) : Prop :=
  ((decide ((w64 (left1_1 - (a0_1.n : Int))) < 0)) = true →
  K (VI (-1)) h) ∧
  ((decide ((w64 (left1_1 - (a0_1.n : Int))) < 0)) = false →
  K (VI (w64 (left1_1 - (a0_1.n : Int)))) h)
theorem v77 (a0_1 : Sl) (left1_1 : Int) (h : Heap) (K : Value → Heap → Prop) (H : u77 Try.prog a0_1 left1_1 h K) : callM Try.prog 77 #[(Sl.v a0_1), (VI left1_1)] h K := by
  refine c77 (Sl.v a0_1) (VI left1_1) h K ?_
  unfold u77 at H
  unfold t77
  have hL : Vars h [] := .nil
  refine pop_len a0_1 _ _ sli25 ?_
  refine pop_sub .i64 left1_1 (a0_1.n : Int) ?_
  refine pop_lss .i64 (w64 (left1_1 - (a0_1.n : Int))) 0 ?_
  refine condM_b (fun hb_1 => ?_) (fun hb_1 => ?_)
  · have H := H.1 hb_1
    exact H
  · have H := H.2 hb_1
    exact H

/-! spec.waGood -/
def u78 (P : Program) (g0_1 : Sl) (w1_1 : Sl) (w1_2 : Int) (h : Heap) (K : Value → Heap → Prop) : Prop :=
  ∀ (b_1 : Nat) (b_2 : Nat) (h_2 : Heap), h.size ≤ b_1 → h.size ≤ b_2 → Fr (In []) h h_2 → Vars h_2 [(b_2, [(Sl.v w1_1), (VI w1_2)]), (b_1, [(Sl.v g0_1)])] →
  callM P 64 #[(Value.agg #[(Sl.v g0_1)]), (VI w1_2)] h_2 fun rv_1 h_3 => ∃ t10_1 : Bool, rv_1 = (VB t10_1) ∧ Vars h_3 [(b_2, [(Sl.v w1_1), (VI w1_2)]), (b_1, [(Sl.v g0_1)])] ∧
  ((!t10_1) = true →
  K (VB false) h_3) ∧
  ((!t10_1) = false →
  ((!decide ((w1_1.n : Int) = (g0_1.n : Int))) = true →
  K (VB false) h_3) ∧
  ((!decide ((w1_1.n : Int) = (g0_1.n : Int))) = false →
  ∃ J_1 : Nat → Int → Heap → Prop, (∃ n0 : Nat, J_1 n0 0 h_3) ∧
  ∀ (n_1 : Nat) (t24_1 : Int) (h_4 : Heap), J_1 n_1 t24_1 h_4 → Vars h_4 [(b_2, [(Sl.v w1_1), (VI w1_2)]), (b_1, [(Sl.v g0_1)])] →
  ((decide (t24_1 < (g0_1.n : Int))) = true →
  InB g0_1 t24_1 ∧
  ∃ t28_1 : Sl, hcell h_4 (Sl.at g0_1 t24_1 1) = some (Sl.v t28_1) ∧
  InB w1_1 t24_1 ∧
  ∃ t33_1 : Int, hcell h_4 (Sl.at w1_1 t24_1 1) = some (VI t33_1) ∧
  callM P 103 #[(VI 0), (VI (w64 ((t28_1.n : Int) - 1)))] h_4 fun rv_2 h_5 => ∃ t37_1 : Int, rv_2 = (VI t37_1) ∧ Vars h_5 [(b_2, [(Sl.v w1_1), (VI w1_2)]), (b_1, [(Sl.v g0_1)])] ∧
  hcell h_5 (Sl.at w1_1 t24_1 1) = some (VI t33_1) ∧
  callM P 74 #[(VI t33_1), (VI 0), (VI t37_1)] h_5 fun rv_3 h_6 => ∃ t38_1 : Bool, rv_3 = (VB t38_1) ∧ Vars h_6 [(b_2, [(Sl.v w1_1), (VI w1_2)]), (b_1, [(Sl.v g0_1)])] ∧
  ((!t38_1) = true →
  K (VB false) h_6) ∧
  ((!t38_1) = false →
  ∃ m : Nat, m < n_1 ∧ J_1 m (w64 (t24_1 + 1)) h_6)) ∧
  ((decide (t24_1 < (g0_1.n : Int))) = false →
  K (VB true) h_4)))
theorem v78 (g0_1 : Sl) (w1_1 : Sl) (w1_2 : Int) (h : Heap) (K : Value → Heap → Prop) (H : u78 Try.prog g0_1 w1_1 w1_2 h K) : callM Try.prog 78 #[(Value.agg #[(Sl.v g0_1)]), (Value.agg #[(Sl.v w1_1), (VI w1_2)])] h K := by
  refine c78 (Value.agg #[(Sl.v g0_1)]) (Value.agg #[(Sl.v w1_1), (VI w1_2)]) h K ?_
  unfold u78 at H
  unfold t78
  have hL : Vars h [] := .nil
  refine eop_box 24 (Value.agg #[(Sl.v g0_1)]) rfl hL (fun b_1 h_1 hb_1 hf_1 hL_1 => ?_)
  refine eop_box 27 (Value.agg #[(Sl.v w1_1), (VI w1_2)]) rfl hL_1 (fun b_2 h_2 hb_2 hf_2 hL_2 => ?_)
  refine rop_locA agg24 hL_2 1 rfl 0 (vs := [(Sl.v g0_1)]) rfl rfl ?_
  refine pop_field 1 fld27_1 b_2 0 ?_
  refine rop_loc one3 hL_2 0 rfl 1 (v := (VI w1_2)) rfl ?_
  have H := H b_1 b_2 h_2 (Nat.le_trans (Fr.size (Fr.r (In []) _)) hb_1) (Nat.le_trans (Fr.size (Fr.no' (Fr.r (In []) _) hf_1)) hb_2) (Fr.no' (Fr.no' (Fr.r (In []) _) hf_1) hf_2) hL_2
  refine H.mono fun rv_1 h_3 H => ?_
  obtain ⟨t10_1, rfl, hL_3, H⟩ := H
  refine pop_not t10_1 ?_
  refine guardM_sf (fun hb_3 => ?_) (fun hb_3 => ?_)
  · have H := H.2 hb_3
    refine pop_field 0 fld27_0 b_2 0 ?_
    refine guardM_y' hb_3 ?_
    refine rop_loc one25 hL_3 0 rfl 0 (v := (Sl.v w1_1)) rfl ?_
    refine guardM_y' hb_3 ?_
    refine pop_len w1_1 _ _ sli25 ?_
    refine guardM_y' hb_3 ?_
    refine pop_field 0 fld24_0 b_1 0 ?_
    refine guardM_y' hb_3 ?_
    refine rop_loc one22 hL_3 1 rfl 0 (v := (Sl.v g0_1)) rfl ?_
    refine guardM_y' hb_3 ?_
    refine pop_len g0_1 _ _ sli22 ?_
    refine guardM_y' hb_3 ?_
    refine pop_ine .i64 _ _ (w1_1.n : Int) (g0_1.n : Int) ?_
    refine pop_pickf' hb_3 ?_
    refine condM_b (fun hb_4 => ?_) (fun hb_4 => ?_)
    · have H := H.1 hb_4
      exact H
    · have H := H.2 hb_4
      refine pop_field 0 fld24_0 b_1 0 ?_
      refine rop_loc one22 hL_3 1 rfl 0 (v := (Sl.v g0_1)) rfl ?_
      refine pop_len g0_1 _ _ sli22 ?_
      obtain ⟨J_1, ⟨n_2, h0_1⟩, HB_1⟩ := H
      refine loop_intro (J := fun (n : Nat) (vs : List Value) (h' : Heap) => ∃ t24_1 : Int, vs = [(VI t24_1)] ∧ J_1 n t24_1 h' ∧ Vars h' [(b_2, [(Sl.v w1_1), (VI w1_2)]), (b_1, [(Sl.v g0_1)])]) n_2 ⟨0, rfl, h0_1, hL_3⟩ ?_
      intro I_1 mu_1 hI_1 junk_1 tv_1 h_4 hi_1
      obtain ⟨n_1, ⟨t24_1, hv, hJ_1, hL_4⟩, hn_1⟩ := hI_1 _ _ hi_1
      cases hv
      have H := HB_1 n_1 t24_1 h_4 hJ_1 hL_4
      refine pop_lss .i64 t24_1 (g0_1.n : Int) ?_
      refine condM_b (fun hb_5 => ?_) (fun hb_5 => ?_)
      · have H := H.1 hb_5
        obtain ⟨hi_2, H⟩ := H
        refine pop_index sli22 siz25 .i64 g0_1 t24_1 hi_2 ?_
        obtain ⟨t28_1, hc_3, H⟩ := H
        refine rop_one one25 (Sl.v t28_1) hc_3 ?_
        refine pop_field 0 fld27_0 b_2 0 ?_
        refine rop_loc one25 hL_4 0 rfl 0 (v := (Sl.v w1_1)) rfl ?_
        obtain ⟨hi_3, H⟩ := H
        refine pop_index sli25 siz3 .i64 w1_1 t24_1 hi_3 ?_
        obtain ⟨t33_1, hc_2, H⟩ := H
        refine rop_one one3 (VI t33_1) hc_2 ?_
        refine pop_len t28_1 _ _ sli25 ?_
        refine pop_sub .i64 (t28_1.n : Int) 1 ?_
        refine H.mono fun rv_2 h_5 H => ?_
        obtain ⟨t37_1, rfl, hL_5, H⟩ := H
        refine ⟨?_, ?_⟩
        · exact still_one one3 H.1
        obtain ⟨hc_1, H⟩ := H
        refine ⟨?_, ?_⟩
        · exact still_loc one25 hL_5 0 rfl 0 (v := (Sl.v w1_1)) rfl
        refine H.mono fun rv_3 h_6 H => ?_
        obtain ⟨t38_1, rfl, hL_6, H⟩ := H
        refine ⟨?_, ?_⟩
        · exact still_loc one25 hL_6 0 rfl 0 (v := (Sl.v w1_1)) rfl
        refine pop_not t38_1 ?_
        refine condM_b (fun hb_6 => ?_) (fun hb_6 => ?_)
        · have H := H.1 hb_6
          exact H
        · have H := H.2 hb_6
          refine pop_add .i64 t24_1 1 ?_
          obtain ⟨m_1, hm_1, H⟩ := H
          exact hn_1 _ _ ⟨m_1, hm_1, (w64 (t24_1 + 1)), rfl, H, hL_6⟩
      · have H := H.2 hb_5
        exact H
  · have H := H.1 hb_3
    refine guardM_n' hb_3 (by decide) ?_
    refine guardM_n' hb_3 (by decide) ?_
    refine guardM_n' hb_3 (by decide) ?_
    refine guardM_n' hb_3 (by decide) ?_
    refine guardM_n' hb_3 (by decide) ?_
    refine guardM_n' hb_3 (by decide) ?_
    refine pop_pickt' hb_3 ?_
    refine condM_t ?_
    exact H

/-! laws.toIntS -/
def u80 (P : Program) (a0_1 : Sl) (h : Heap) (K : Value → Heap → Prop) : Prop :=
  eop P (Instr.makeSlice 25 (VI (a0_1.n : Int)) (VI (a0_1.n : Int))) h fun rv_1 h_1 => ∃ t7_1 : Sl, rv_1 = (Sl.v t7_1) ∧ Vars h_1 [] ∧
  ∃ J_1 : Nat → Int → Heap → Prop, (∃ n0 : Nat, J_1 n0 0 h_1) ∧
  ∀ (n_1 : Nat) (i4_1 : Int) (h_2 : Heap), J_1 n_1 i4_1 h_2 → Vars h_2 [] →
  ((decide (i4_1 < (a0_1.n : Int))) = true →
  InB a0_1 i4_1 ∧
  ∃ t19_1 : Int, hcell h_2 (Sl.at a0_1 i4_1 1) = some (VI t19_1) ∧
  InB t7_1 i4_1 ∧
  Writable h_2 (Sl.at t7_1 i4_1 1) ∧ Vars (hset h_2 (Sl.at t7_1 i4_1 1) (VI t19_1)) [] ∧
  ∀ h_3 : Heap, h_3 = hset h_2 (Sl.at t7_1 i4_1 1) (VI t19_1) → Vars h_3 [] →
  ∃ m : Nat, m < n_1 ∧ J_1 m (w64 (i4_1 + 1)) h_3) ∧
  ((decide (i4_1 < (a0_1.n : Int))) = false →
  K (Sl.v t7_1) h_2)
theorem v80 (a0_1 : Sl) (h : Heap) (K : Value → Heap → Prop) (H : u80 Try.prog a0_1 h K) : callM Try.prog 80 #[(Sl.v a0_1)] h K := by
  refine c80 (Sl.v a0_1) h K ?_
  unfold u80 at H
  unfold t80
  have hL : Vars h [] := .nil
  refine pop_len a0_1 _ _ sli25 ?_
  refine H.mono fun rv_1 h_1 H => ?_
  obtain ⟨t7_1, rfl, hL_1, H⟩ := H
  obtain ⟨J_1, ⟨n_2, h0_1⟩, HB_1⟩ := H
  refine loop_intro (J := fun (n : Nat) (vs : List Value) (h' : Heap) => ∃ i4_1 : Int, vs = [(VI i4_1)] ∧ J_1 n i4_1 h' ∧ Vars h' []) n_2 ⟨0, rfl, h0_1, hL_1⟩ ?_
  intro I_1 mu_1 hI_1 junk_1 tv_1 h_2 hi_1
  obtain ⟨n_1, ⟨i4_1, hv, hJ_1, hL_2⟩, hn_1⟩ := hI_1 _ _ hi_1
  cases hv
  have H := HB_1 n_1 i4_1 h_2 hJ_1 hL_2
  refine pop_len a0_1 _ _ sli25 ?_
  refine pop_lss .i64 i4_1 (a0_1.n : Int) ?_
  refine condM_b (fun hb_1 => ?_) (fun hb_1 => ?_)
  · have H := H.1 hb_1
    obtain ⟨hi_2, H⟩ := H
    refine pop_index sli25 siz3 .i64 a0_1 i4_1 hi_2 ?_
    obtain ⟨t19_1, hc_1, H⟩ := H
    refine rop_one one3 (VI t19_1) hc_1 ?_
    obtain ⟨hi_3, H⟩ := H
    refine pop_index sli25 siz3 .i64 t7_1 i4_1 hi_3 ?_
    obtain ⟨hw_1, hL_3, H⟩ := H
    refine uop_cell (v := (VI t19_1)) siz3 hw_1 rfl (fun h_3 he_1 => ?_)
    rw [← he_1] at hL_3
    have H := H h_3 he_1 hL_3
    refine pop_add .i64 i4_1 1 ?_
    obtain ⟨m_1, hm_1, H⟩ := H
    exact hn_1 _ _ ⟨m_1, hm_1, (w64 (i4_1 + 1)), rfl, H, hL_3⟩
  · have H := H.2 hb_1
    exact H

/-! impl.isWalk -/
def u81 (P : Program) (g0_1 : Sl) (w1_1 : Sl) (w1_2 : Int) (h : Heap) (K : Value → Heap → Prop) : Prop :=
  ∀ (b_1 : Nat) (b_2 : Nat) (h_2 : Heap), h.size ≤ b_1 → h.size ≤ b_2 → Fr (In []) h h_2 → Vars h_2 [(b_2, [(Sl.v w1_1), (VI w1_2)]), (b_1, [(Sl.v g0_1)])] →
  eop P (Instr.buildSlice 25 1 #[(0, (VI w1_2))]) h_2 fun rv_1 h_3 => ∃ t10_1 : Sl, rv_1 = (Sl.v t10_1) ∧ Vars h_3 [(b_2, [(Sl.v w1_1), (VI w1_2)]), (b_1, [(Sl.v g0_1)])] ∧
  callM P 68 #[(Value.agg #[(Sl.v g0_1)]), (Sl.v t10_1)] h_3 fun rv_2 h_4 => ∃ t11_1 : Bool, rv_2 = (VB t11_1) ∧ Vars h_4 [(b_2, [(Sl.v w1_1), (VI w1_2)]), (b_1, [(Sl.v g0_1)])] ∧
  ((!t11_1) = true →
  K (VB false) h_4) ∧
  ((!t11_1) = false →
  ((!decide ((w1_1.n : Int) = (g0_1.n : Int))) = true →
  K (VB false) h_4) ∧
  ((!decide ((w1_1.n : Int) = (g0_1.n : Int))) = false →
  ∃ J_1 : Nat → Int → Heap → Prop, (∃ n0 : Nat, J_1 n0 0 h_4) ∧
  ∀ (n_1 : Nat) (t25_1 : Int) (h_5 : Heap), J_1 n_1 t25_1 h_5 → Vars h_5 [(b_2, [(Sl.v w1_1), (VI w1_2)]), (b_1, [(Sl.v g0_1)])] →
  ((decide (t25_1 < (w1_1.n : Int))) = true →
  InB w1_1 t25_1 ∧
  ∃ t29_1 : Int, hcell h_5 (Sl.at w1_1 t25_1 1) = some (VI t29_1) ∧
  InB g0_1 t25_1 ∧
  ∃ t35_1 : Sl, hcell h_5 (Sl.at g0_1 t25_1 1) = some (Sl.v t35_1) ∧
  pop P (Builtin.max_ #[3, 3] 3 #[(VI (w64 ((t35_1.n : Int) - 1))), (Value.int IntKind.i64 0)]) fun rv_3 => ∃ t38_1 : Int, rv_3 = (VI t38_1) ∧ 
  callM P 75 #[(VI t29_1), (VI 0), (VI t38_1)] h_5 fun rv_4 h_6 => ∃ t39_1 : Bool, rv_4 = (VB t39_1) ∧ Vars h_6 [(b_2, [(Sl.v w1_1), (VI w1_2)]), (b_1, [(Sl.v g0_1)])] ∧
  ((!t39_1) = true →
  K (VB false) h_6) ∧
  ((!t39_1) = false →
  ∃ m : Nat, m < n_1 ∧ J_1 m (w64 (t25_1 + 1)) h_6)) ∧
  ((decide (t25_1 < (w1_1.n : Int))) = false →
  K (VB true) h_5)))
theorem v81 (g0_1 : Sl) (w1_1 : Sl) (w1_2 : Int) (h : Heap) (K : Value → Heap → Prop) (H : u81 Try.prog g0_1 w1_1 w1_2 h K) : callM Try.prog 81 #[(Value.agg #[(Sl.v g0_1)]), (Value.agg #[(Sl.v w1_1), (VI w1_2)])] h K := by
  refine c81 (Value.agg #[(Sl.v g0_1)]) (Value.agg #[(Sl.v w1_1), (VI w1_2)]) h K ?_
  unfold u81 at H
  unfold t81
  have hL : Vars h [] := .nil
  refine eop_box 24 (Value.agg #[(Sl.v g0_1)]) rfl hL (fun b_1 h_1 hb_1 hf_1 hL_1 => ?_)
  refine eop_box 27 (Value.agg #[(Sl.v w1_1), (VI w1_2)]) rfl hL_1 (fun b_2 h_2 hb_2 hf_2 hL_2 => ?_)
  refine rop_locA agg24 hL_2 1 rfl 0 (vs := [(Sl.v g0_1)]) rfl rfl ?_
  refine pop_field 1 fld27_1 b_2 0 ?_
  refine rop_loc one3 hL_2 0 rfl 1 (v := (VI w1_2)) rfl ?_
  have H := H b_1 b_2 h_2 (Nat.le_trans (Fr.size (Fr.r (In []) _)) hb_1) (Nat.le_trans (Fr.size (Fr.no' (Fr.r (In []) _) hf_1)) hb_2) (Fr.no' (Fr.no' (Fr.r (In []) _) hf_1) hf_2) hL_2
  refine H.mono fun rv_1 h_3 H => ?_
  obtain ⟨t10_1, rfl, hL_3, H⟩ := H
  refine H.mono fun rv_2 h_4 H => ?_
  obtain ⟨t11_1, rfl, hL_4, H⟩ := H
  refine pop_not t11_1 ?_
  refine guardM_sf (fun hb_3 => ?_) (fun hb_3 => ?_)
  · have H := H.2 hb_3
    refine pop_field 0 fld27_0 b_2 0 ?_
    refine guardM_y' hb_3 ?_
    refine rop_loc one25 hL_4 0 rfl 0 (v := (Sl.v w1_1)) rfl ?_
    refine guardM_y' hb_3 ?_
    refine pop_len w1_1 _ _ sli25 ?_
    refine guardM_y' hb_3 ?_
    refine pop_field 0 fld24_0 b_1 0 ?_
    refine guardM_y' hb_3 ?_
    refine rop_loc one22 hL_4 1 rfl 0 (v := (Sl.v g0_1)) rfl ?_
    refine guardM_y' hb_3 ?_
    refine pop_len g0_1 _ _ sli22 ?_
    refine guardM_y' hb_3 ?_
    refine pop_ine .i64 _ _ (w1_1.n : Int) (g0_1.n : Int) ?_
    refine pop_pickf' hb_3 ?_
    refine condM_b (fun hb_4 => ?_) (fun hb_4 => ?_)
    · have H := H.1 hb_4
      exact H
    · have H := H.2 hb_4
      refine pop_field 0 fld27_0 b_2 0 ?_
      refine rop_loc one25 hL_4 0 rfl 0 (v := (Sl.v w1_1)) rfl ?_
      refine pop_len w1_1 _ _ sli25 ?_
      obtain ⟨J_1, ⟨n_2, h0_1⟩, HB_1⟩ := H
      refine loop_intro (J := fun (n : Nat) (vs : List Value) (h' : Heap) => ∃ t25_1 : Int, vs = [(VI t25_1)] ∧ J_1 n t25_1 h' ∧ Vars h' [(b_2, [(Sl.v w1_1), (VI w1_2)]), (b_1, [(Sl.v g0_1)])]) n_2 ⟨0, rfl, h0_1, hL_4⟩ ?_
      intro I_1 mu_1 hI_1 junk_1 tv_1 h_5 hi_1
      obtain ⟨n_1, ⟨t25_1, hv, hJ_1, hL_5⟩, hn_1⟩ := hI_1 _ _ hi_1
      cases hv
      have H := HB_1 n_1 t25_1 h_5 hJ_1 hL_5
      refine pop_lss .i64 t25_1 (w1_1.n : Int) ?_
      refine condM_b (fun hb_5 => ?_) (fun hb_5 => ?_)
      · have H := H.1 hb_5
        obtain ⟨hi_2, H⟩ := H
        refine pop_index sli25 siz3 .i64 w1_1 t25_1 hi_2 ?_
        obtain ⟨t29_1, hc_2, H⟩ := H
        refine rop_one one3 (VI t29_1) hc_2 ?_
        refine pop_field 0 fld24_0 b_1 0 ?_
        refine rop_loc one22 hL_5 1 rfl 0 (v := (Sl.v g0_1)) rfl ?_
        obtain ⟨hi_3, H⟩ := H
        refine pop_index sli22 siz25 .i64 g0_1 t25_1 hi_3 ?_
        obtain ⟨t35_1, hc_1, H⟩ := H
        refine rop_one one25 (Sl.v t35_1) hc_1 ?_
        refine pop_len t35_1 _ _ sli25 ?_
        refine pop_sub .i64 (t35_1.n : Int) 1 ?_
        refine H.mono fun rv_3 H => ?_
        obtain ⟨t38_1, rfl, H⟩ := H
        refine H.mono fun rv_4 h_6 H => ?_
        obtain ⟨t39_1, rfl, hL_6, H⟩ := H
        refine pop_not t39_1 ?_
        refine condM_b (fun hb_6 => ?_) (fun hb_6 => ?_)
        · have H := H.1 hb_6
          exact H
        · have H := H.2 hb_6
          refine pop_add .i64 t25_1 1 ?_
          obtain ⟨m_1, hm_1, H⟩ := H
          exact hn_1 _ _ ⟨m_1, hm_1, (w64 (t25_1 + 1)), rfl, H, hL_6⟩
      · have H := H.2 hb_5
        exact H
  · have H := H.1 hb_3
    refine guardM_n' hb_3 (by decide) ?_
    refine guardM_n' hb_3 (by decide) ?_
    refine guardM_n' hb_3 (by decide) ?_
    refine guardM_n' hb_3 (by decide) ?_
    refine guardM_n' hb_3 (by decide) ?_
    refine guardM_n' hb_3 (by decide) ?_
    refine pop_pickt' hb_3 ?_
    refine condM_t ?_
    exact H

/-! spec.l1Own -/
def u88 (P : Program) (l0_1 : Sl) (h : Heap) (K : Value → Heap → Prop) : Prop :=
  eop P (Instr.buildSlice 25 0 #[]) h fun rv_1 h_1 => ∃ t3_1 : Sl, rv_1 = (Sl.v t3_1) ∧ Vars h_1 [] ∧
  eop P (appS 25 25 25 (Sl.v t3_1) (Sl.v l0_1)) h_1 fun rv_2 h_2 => ∃ t5_1 : Sl, rv_2 = (Sl.v t5_1) ∧ Vars h_2 [] ∧
  K (Sl.v t5_1) h_2
theorem v88 (l0_1 : Sl) (h : Heap) (K : Value → Heap → Prop) (H : u88 Try.prog l0_1 h K) : callM Try.prog 88 #[(Sl.v l0_1)] h K := by
  refine c88 (Sl.v l0_1) h K ?_
  unfold u88 at H
  unfold t88
  have hL : Vars h [] := .nil
  refine H.mono fun rv_1 h_1 H => ?_
  obtain ⟨t3_1, rfl, hL_1, H⟩ := H
  refine H.mono fun rv_2 h_2 H => ?_
  obtain ⟨t5_1, rfl, hL_2, H⟩ := H
  exact H

/-! (impl.Walk).copied -/
def u89 (P : Program) (w0_1 : Sl) (w0_2 : Int) (h : Heap) (K : Value → Heap → Prop) : Prop :=
  ∀ (b_1 : Nat) (b_2 : Nat) (h_2 : Heap), h.size ≤ b_1 → h.size ≤ b_2 → Fr (In []) h h_2 → Vars h_2 [(b_2, [(Sl.v nilSl), (VI 0)]), (b_1, [(Sl.v w0_1), (VI w0_2)])] →
  callM P 101 #[(Sl.v w0_1)] h_2 fun rv_1 h_3 => ∃ t5_1 : Sl, rv_1 = (Sl.v t5_1) ∧ Vars h_3 [(b_2, [(Sl.v nilSl), (VI 0)]), (b_1, [(Sl.v w0_1), (VI w0_2)])] ∧
  ∀ (h_4 : Heap), Fr (In [b_2]) h_3 h_4 → Vars h_4 [(b_2, [(Sl.v t5_1), (VI w0_2)]), (b_1, [(Sl.v w0_1), (VI w0_2)])] →
  K (Value.agg #[(Sl.v t5_1), (VI w0_2)]) h_4
theorem v89 (w0_1 : Sl) (w0_2 : Int) (h : Heap) (K : Value → Heap → Prop) (H : u89 Try.prog w0_1 w0_2 h K) : callM Try.prog 89 #[(Value.agg #[(Sl.v w0_1), (VI w0_2)])] h K := by
  refine c89 (Value.agg #[(Sl.v w0_1), (VI w0_2)]) h K ?_
  unfold u89 at H
  unfold t89
  have hL : Vars h [] := .nil
  refine eop_box 27 (Value.agg #[(Sl.v w0_1), (VI w0_2)]) rfl hL (fun b_1 h_1 hb_1 hf_1 hL_1 => ?_)
  refine eop_alloc 27 zer27 rfl hL_1 (fun b_2 h_2 hb_2 hf_2 hL_2 => ?_)
  refine pop_field 0 fld27_0 b_1 0 ?_
  refine rop_loc one25 hL_2 1 rfl 0 (v := (Sl.v w0_1)) rfl ?_
  refine pop_field 1 fld27_1 b_1 0 ?_
  refine rop_loc one3 hL_2 1 rfl 1 (v := (VI w0_2)) rfl ?_
  have H := H b_1 b_2 h_2 (Nat.le_trans (Fr.size (Fr.r (In []) _)) hb_1) (Nat.le_trans (Fr.size (Fr.no' (Fr.r (In []) _) hf_1)) hb_2) (Fr.no' (Fr.no' (Fr.r (In []) _) hf_1) hf_2) hL_2
  refine H.mono fun rv_1 h_3 H => ?_
  obtain ⟨t5_1, rfl, hL_3, H⟩ := H
  refine ⟨?_, ?_⟩
  · exact still_loc one3 hL_3 1 rfl 1 (v := (VI w0_2)) rfl
  refine pop.mk' (v := (Value.agg #[(Sl.v t5_1), (VI w0_2)])) (fun w => by kernel_rfl) ?_
  refine uop_loc siz27 hL_3 0 rfl 0 [(Sl.v t5_1), (VI w0_2)] rfl rfl rfl (Nat.le_of_ble_eq_true rfl) (L' := [(b_2, [(Sl.v t5_1), (VI w0_2)]), (b_1, [(Sl.v w0_1), (VI w0_2)])]) rfl (fun h_4 hf_3 hL_4 => ?_)
  refine rop_locA agg27 hL_4 0 rfl 0 (vs := [(Sl.v t5_1), (VI w0_2)]) rfl rfl ?_
  have H := H  h_4  (Fr.old (Fr.r (In []) _) hf_3) hL_4
  exact H

/-! spec.grGood -/
def u97 (P : Program) (g0_1 : Sl) (h : Heap) (K : Value → Heap → Prop) : Prop :=
  ∀ (b_1 : Nat) (h_1 : Heap), h.size ≤ b_1 → Fr (In []) h h_1 → Vars h_1 [(b_1, [(Sl.v g0_1)])] →
  callM P 74 #[(VI (g0_1.n : Int)), (VI 1), (VI 8)] h_1 fun rv_1 h_2 => ∃ t10_1 : Bool, rv_1 = (VB t10_1) ∧ Vars h_2 [(b_1, [(Sl.v g0_1)])] ∧
  ((!t10_1) = true →
  K (VB false) h_2) ∧
  ((!t10_1) = false →
  ∃ J_1 : Nat → Int → Heap → Prop, (∃ n0 : Nat, J_1 n0 0 h_2) ∧
  ∀ (n_1 : Nat) (t15_1 : Int) (h_3 : Heap), J_1 n_1 t15_1 h_3 → Vars h_3 [(b_1, [(Sl.v g0_1)])] →
  ((decide (t15_1 < (g0_1.n : Int))) = true →
  InB g0_1 t15_1 ∧
  ∃ t18_1 : Sl, hcell h_3 (Sl.at g0_1 t15_1 1) = some (Sl.v t18_1) ∧
  ((decide (5 < (t18_1.n : Int))) = true →
  K (VB false) h_3) ∧
  ((decide (5 < (t18_1.n : Int))) = false →
  callM P 108 #[(Sl.v t18_1), (VI 0), (VI (w64 ((g0_1.n : Int) - 1)))] h_3 fun rv_2 h_4 => ∃ t26_1 : Bool, rv_2 = (VB t26_1) ∧ Vars h_4 [(b_1, [(Sl.v g0_1)])] ∧
  ((!t26_1) = true →
  K (VB false) h_4) ∧
  ((!t26_1) = false →
  ∃ m : Nat, m < n_1 ∧ J_1 m (w64 (t15_1 + 1)) h_4))) ∧
  ((decide (t15_1 < (g0_1.n : Int))) = false →
  K (VB true) h_3))
theorem v97 (g0_1 : Sl) (h : Heap) (K : Value → Heap → Prop) (H : u97 Try.prog g0_1 h K) : callM Try.prog 97 #[(Value.agg #[(Sl.v g0_1)])] h K := by
  refine c97 (Value.agg #[(Sl.v g0_1)]) h K ?_
  unfold u97 at H
  unfold t97
  have hL : Vars h [] := .nil
  refine eop_box 24 (Value.agg #[(Sl.v g0_1)]) rfl hL (fun b_1 h_1 hb_1 hf_1 hL_1 => ?_)
  refine pop_field 0 fld24_0 b_1 0 ?_
  refine rop_loc one22 hL_1 0 rfl 0 (v := (Sl.v g0_1)) rfl ?_
  refine pop_len g0_1 _ _ sli22 ?_
  have H := H b_1 h_1 (Nat.le_trans (Fr.size (Fr.r (In []) _)) hb_1) (Fr.no' (Fr.r (In []) _) hf_1) hL_1
  refine H.mono fun rv_1 h_2 H => ?_
  obtain ⟨t10_1, rfl, hL_2, H⟩ := H
  refine pop_not t10_1 ?_
  refine condM_b (fun hb_2 => ?_) (fun hb_2 => ?_)
  · have H := H.1 hb_2
    exact H
  · have H := H.2 hb_2
    refine pop_field 0 fld24_0 b_1 0 ?_
    refine rop_loc one22 hL_2 0 rfl 0 (v := (Sl.v g0_1)) rfl ?_
    refine pop_len g0_1 _ _ sli22 ?_
    obtain ⟨J_1, ⟨n_2, h0_1⟩, HB_1⟩ := H
    refine loop_intro (J := fun (n : Nat) (vs : List Value) (h' : Heap) => ∃ t15_1 : Int, vs = [(VI t15_1)] ∧ J_1 n t15_1 h' ∧ Vars h' [(b_1, [(Sl.v g0_1)])]) n_2 ⟨0, rfl, h0_1, hL_2⟩ ?_
    intro I_1 mu_1 hI_1 junk_1 tv_1 h_3 hi_1
    obtain ⟨n_1, ⟨t15_1, hv, hJ_1, hL_3⟩, hn_1⟩ := hI_1 _ _ hi_1
    cases hv
    have H := HB_1 n_1 t15_1 h_3 hJ_1 hL_3
    refine pop_lss .i64 t15_1 (g0_1.n : Int) ?_
    refine condM_b (fun hb_3 => ?_) (fun hb_3 => ?_)
    · have H := H.1 hb_3
      obtain ⟨hi_2, H⟩ := H
      refine pop_index sli22 siz25 .i64 g0_1 t15_1 hi_2 ?_
      obtain ⟨t18_1, hc_1, H⟩ := H
      refine rop_one one25 (Sl.v t18_1) hc_1 ?_
      refine pop_len t18_1 _ _ sli25 ?_
      refine pop_gtr .i64 (t18_1.n : Int) 5 ?_
      refine guardM_sf (fun hb_4 => ?_) (fun hb_4 => ?_)
      · have H := H.2 hb_4
        refine guardM_y' hb_4 ?_
        refine guardM_y' hb_4 ?_
        refine pop_sub .i64 (g0_1.n : Int) 1 ?_
        refine guardM_y' hb_4 ?_
        refine H.mono fun rv_2 h_4 H => ?_
        obtain ⟨t26_1, rfl, hL_4, H⟩ := H
        refine guardM_y' hb_4 ?_
        refine pop_not t26_1 ?_
        refine pop_pickf' hb_4 ?_
        refine condM_b (fun hb_5 => ?_) (fun hb_5 => ?_)
        · have H := H.1 hb_5
          exact H
        · have H := H.2 hb_5
          refine pop_add .i64 t15_1 1 ?_
          obtain ⟨m_1, hm_1, H⟩ := H
          exact hn_1 _ _ ⟨m_1, hm_1, (w64 (t15_1 + 1)), rfl, H, hL_4⟩
      · have H := H.1 hb_4
        refine guardM_n' hb_4 (by decide) ?_
        refine guardM_n' hb_4 (by decide) ?_
        refine guardM_n' hb_4 (by decide) ?_
        refine guardM_n' hb_4 (by decide) ?_
        refine pop_pickt' hb_4 ?_
        refine condM_t ?_
        exact H
    · have H := H.2 hb_3
      exact H

/-! impl.isGraph -/
def u98 (P : Program) (g0_1 : Sl) (h : Heap) (K : Value → Heap → Prop) : Prop :=
  ∀ (b_1 : Nat) (b_2 : Nat) (h_3 : Heap), h.size ≤ b_1 → h.size ≤ b_2 → Fr (In []) h h_3 → Vars h_3 [(b_2, [(VI (g0_1.n : Int))]), (b_1, [(Sl.v g0_1)])] →
  callM P 75 #[(VI (g0_1.n : Int)), (VI 1), (VI 8)] h_3 fun rv_1 h_4 => ∃ t10_1 : Bool, rv_1 = (VB t10_1) ∧ Vars h_4 [(b_2, [(VI (g0_1.n : Int))]), (b_1, [(Sl.v g0_1)])] ∧
  ((!t10_1) = true →
  K (VB false) h_4) ∧
  ((!t10_1) = false →
  ∃ J_1 : Nat → Int → Int → Heap → Prop, (∃ n0 : Nat, J_1 n0 0 (g0_1.n : Int) h_4) ∧
  ∀ (n_1 : Nat) (t15_1 : Int) (x_1 : Int) (h_5 : Heap), J_1 n_1 t15_1 x_1 h_5 → Vars h_5 [(b_2, [(VI x_1)]), (b_1, [(Sl.v g0_1)])] →
  ((decide (t15_1 < (g0_1.n : Int))) = true →
  InB g0_1 t15_1 ∧
  ∃ t18_1 : Sl, hcell h_5 (Sl.at g0_1 t15_1 1) = some (Sl.v t18_1) ∧
  ((decide (5 < (t18_1.n : Int))) = true →
  K (VB false) h_5) ∧
  ((decide (5 < (t18_1.n : Int))) = false →
  callM P 99 #[(Sl.v t18_1), (Value.func (Fn.func 109) #[] #[(VP b_2 0)])] h_5 fun rv_2 h_6 => ∃ x_2 : Int, ∃ t25_1 : Bool, rv_2 = (VB t25_1) ∧ Vars h_6 [(b_2, [(VI x_2)]), (b_1, [(Sl.v g0_1)])] ∧
  (t25_1 = true →
  K (VB false) h_6) ∧
  (t25_1 = false →
  ∃ m : Nat, m < n_1 ∧ J_1 m (w64 (t15_1 + 1)) x_2 h_6))) ∧
  ((decide (t15_1 < (g0_1.n : Int))) = false →
  K (VB true) h_5))
theorem v98 (g0_1 : Sl) (h : Heap) (K : Value → Heap → Prop) (H : u98 Try.prog g0_1 h K) : callM Try.prog 98 #[(Value.agg #[(Sl.v g0_1)])] h K := by
  refine c98 (Value.agg #[(Sl.v g0_1)]) h K ?_
  unfold u98 at H
  unfold t98
  have hL : Vars h [] := .nil
  refine eop_box 24 (Value.agg #[(Sl.v g0_1)]) rfl hL (fun b_1 h_1 hb_1 hf_1 hL_1 => ?_)
  refine pop_field 0 fld24_0 b_1 0 ?_
  refine rop_loc one22 hL_1 0 rfl 0 (v := (Sl.v g0_1)) rfl ?_
  refine pop_len g0_1 _ _ sli22 ?_
  refine eop_alloc 3 zer3 rfl hL_1 (fun b_2 h_2 hb_2 hf_2 hL_2 => ?_)
  refine uop_loc siz3 hL_2 0 rfl 0 [(VI (g0_1.n : Int))] rfl rfl rfl (Nat.le_of_ble_eq_true rfl) (L' := [(b_2, [(VI (g0_1.n : Int))]), (b_1, [(Sl.v g0_1)])]) rfl (fun h_3 hf_3 hL_3 => ?_)
  refine rop_loc one3 hL_3 0 rfl 0 (v := (VI (g0_1.n : Int))) rfl ?_
  have H := H b_1 b_2 h_3 (Nat.le_trans (Fr.size (Fr.r (In []) _)) hb_1) (Nat.le_trans (Fr.size (Fr.no' (Fr.r (In []) _) hf_1)) hb_2) (Fr.new (Fr.no' (Fr.no' (Fr.r (In []) _) hf_1) hf_2) (Nat.le_trans (Fr.size (Fr.no' (Fr.r (In []) _) hf_1)) hb_2) hf_3) hL_3
  refine H.mono fun rv_1 h_4 H => ?_
  obtain ⟨t10_1, rfl, hL_4, H⟩ := H
  refine pop_not t10_1 ?_
  refine condM_b (fun hb_3 => ?_) (fun hb_3 => ?_)
  · have H := H.1 hb_3
    exact H
  · have H := H.2 hb_3
    refine pop_field 0 fld24_0 b_1 0 ?_
    refine rop_loc one22 hL_4 1 rfl 0 (v := (Sl.v g0_1)) rfl ?_
    refine pop_len g0_1 _ _ sli22 ?_
    obtain ⟨J_1, ⟨n_2, h0_1⟩, HB_1⟩ := H
    refine loop_intro (J := fun (n : Nat) (vs : List Value) (h' : Heap) => ∃ t15_1 : Int, ∃ x_1 : Int, vs = [(VI t15_1)] ∧ J_1 n t15_1 x_1 h' ∧ Vars h' [(b_2, [(VI x_1)]), (b_1, [(Sl.v g0_1)])]) n_2 ⟨0, (g0_1.n : Int), rfl, h0_1, hL_4⟩ ?_
    intro I_1 mu_1 hI_1 junk_1 tv_1 h_5 hi_1
    obtain ⟨n_1, ⟨t15_1, x_1, hv, hJ_1, hL_5⟩, hn_1⟩ := hI_1 _ _ hi_1
    cases hv
    have H := HB_1 n_1 t15_1 x_1 h_5 hJ_1 hL_5
    refine pop_lss .i64 t15_1 (g0_1.n : Int) ?_
    refine condM_b (fun hb_4 => ?_) (fun hb_4 => ?_)
    · have H := H.1 hb_4
      obtain ⟨hi_2, H⟩ := H
      refine pop_index sli22 siz25 .i64 g0_1 t15_1 hi_2 ?_
      obtain ⟨t18_1, hc_1, H⟩ := H
      refine rop_one one25 (Sl.v t18_1) hc_1 ?_
      refine pop_len t18_1 _ _ sli25 ?_
      refine pop_gtr .i64 (t18_1.n : Int) 5 ?_
      refine guardM_sf (fun hb_5 => ?_) (fun hb_5 => ?_)
      · have H := H.2 hb_5
        refine guardM_y' hb_5 ?_
        refine pop_func _ _ _ ?_
        refine guardM_y' hb_5 ?_
        refine H.mono fun rv_2 h_6 H => ?_
        obtain ⟨x_2, t25_1, rfl, hL_6, H⟩ := H
        refine pop_pickf' hb_5 ?_
        refine condM_b (fun hb_6 => ?_) (fun hb_6 => ?_)
        · have H := H.1 hb_6
          exact H
        · have H := H.2 hb_6
          refine pop_add .i64 t15_1 1 ?_
          obtain ⟨m_1, hm_1, H⟩ := H
          exact hn_1 _ _ ⟨m_1, hm_1, (w64 (t15_1 + 1)), x_2, rfl, H, hL_6⟩
      · have H := H.1 hb_5
        refine guardM_n' hb_5 (by decide) ?_
        refine guardM_n' hb_5 (by decide) ?_
        refine pop_pickt' hb_5 ?_
        refine condM_t ?_
        exact H
    · have H := H.2 hb_4
      exact H

/-! slices.ContainsFunc[[]int,int] -/
def u99 (P : Program) (s0_1 : Sl) (f1_1 : Value) (h : Heap) (K : Value → Heap → Prop) : Prop :=
  callM P 110 #[(Sl.v s0_1), f1_1] h fun rv_1 h_1 => ∃ t7_1 : Int, rv_1 = (VI t7_1) ∧ Vars h_1 [] ∧
  K (VB (decide (0 ≤ t7_1))) h_1
theorem v99 (s0_1 : Sl) (f1_1 : Value) (h : Heap) (K : Value → Heap → Prop) (H : u99 Try.prog s0_1 f1_1 h K) : callM Try.prog 99 #[(Sl.v s0_1), f1_1] h K := by
  refine c99 (Sl.v s0_1) f1_1 h K ?_
  unfold u99 at H
  unfold t99
  have hL : Vars h [] := .nil
  refine H.mono fun rv_1 h_1 H => ?_
  obtain ⟨t7_1, rfl, hL_1, H⟩ := H
  refine pop_geq .i64 t7_1 0 ?_
  exact H

/-! impl.has$1 -/
def u100 (P : Program) (p0_1 : Int) (b_1 : Nat) (t1_1 : Sl) (h : Heap) (K : Value → Heap → Prop) : Prop :=
  callM P 75 #[(VI p0_1), (VI 0), (VI (w64 ((t1_1.n : Int) - 1)))] h fun rv_1 h_1 => ∃ t9_1 : Bool, rv_1 = (VB t9_1) ∧ Vars h_1 [(b_1, [(Sl.v t1_1)])] ∧
  K (VB (!t9_1)) h_1
theorem v100 (p0_1 : Int) (b_1 : Nat) (t1_1 : Sl) (h : Heap) (K : Value → Heap → Prop) (hL : Vars h [(b_1, [(Sl.v t1_1)])]) (H : u100 Try.prog p0_1 b_1 t1_1 h K) : callM Try.prog 100 #[(VI p0_1), (VP b_1 0)] h K := by
  refine c100 (VI p0_1) (VP b_1 0) h K ?_
  unfold u100 at H
  unfold t100
  refine pop_field 0 fld24_0 b_1 0 ?_
  refine rop_loc one22 hL 0 rfl 0 (v := (Sl.v t1_1)) rfl ?_
  refine pop_len t1_1 _ _ sli22 ?_
  refine pop_sub .i64 (t1_1.n : Int) 1 ?_
  refine H.mono fun rv_1 h_1 H => ?_
  obtain ⟨t9_1, rfl, hL_1, H⟩ := H
  refine pop_not t9_1 ?_
  exact H

/-! slices.Clone[[]int,int] -/
def u101 (P : Program) (s0_1 : Sl) (h : Heap) (K : Value → Heap → Prop) : Prop :=
  pop P (binE .eql 25 (.tmp 3) (.const (Value.slice none 0 0)) (Sl.v s0_1) (Value.slice none 0 0)) fun rv_1 => ∃ t4_1 : Bool, rv_1 = (VB t4_1) ∧ 
  (t4_1 = true →
  K (Sl.v nilSl) h) ∧
  (t4_1 = false →
  eop P (Instr.buildSlice 25 0 #[]) h fun rv_2 h_1 => ∃ t5_1 : Sl, rv_2 = (Sl.v t5_1) ∧ Vars h_1 [] ∧
  eop P (appS 25 25 25 (Sl.v t5_1) (Sl.v s0_1)) h_1 fun rv_3 h_2 => ∃ t7_1 : Sl, rv_3 = (Sl.v t7_1) ∧ Vars h_2 [] ∧
  K (Sl.v t7_1) h_2)
theorem v101 (s0_1 : Sl) (h : Heap) (K : Value → Heap → Prop) (H : u101 Try.prog s0_1 h K) : callM Try.prog 101 #[(Sl.v s0_1)] h K := by
  refine c101 (Sl.v s0_1) h K ?_
  unfold u101 at H
  unfold t101
  have hL : Vars h [] := .nil
  refine H.mono fun rv_1 H => ?_
  obtain ⟨t4_1, rfl, H⟩ := H
  refine condM_b (fun hb_1 => ?_) (fun hb_1 => ?_)
  · have H := H.1 hb_1
    exact H
  · have H := H.2 hb_1
    refine H.mono fun rv_2 h_1 H => ?_
    obtain ⟨t5_1, rfl, hL_1, H⟩ := H
    refine H.mono fun rv_3 h_2 H => ?_
    obtain ⟨t7_1, rfl, hL_2, H⟩ := H
    exact H

/-! spec.l1Most -/
def u103 (P : Program) (a0_1 : Int) (b1_1 : Int) (h : Heap) (K : Value → Heap → Prop) : Prop :=
  ((decide (b1_1 < a0_1)) = true →
  K (VI a0_1) h) ∧
  ((decide (b1_1 < a0_1)) = false →
  K (VI b1_1) h)
theorem v103 (a0_1 : Int) (b1_1 : Int) (h : Heap) (K : Value → Heap → Prop) (H : u103 Try.prog a0_1 b1_1 h K) : callM Try.prog 103 #[(VI a0_1), (VI b1_1)] h K := by
  refine c103 (VI a0_1) (VI b1_1) h K ?_
  unfold u103 at H
  unfold t103
  have hL : Vars h [] := .nil
  refine pop_gtr .i64 a0_1 b1_1 ?_
  refine condM_b (fun hb_1 => ?_) (fun hb_1 => ?_)
  · have H := H.1 hb_1
    exact H
  · have H := H.2 hb_1
    exact H

/-! spec.l1All -/
def u108 (P : Program) (l0_1 : Sl) (lo1_1 : Int) (hi2_1 : Int) (h : Heap) (K : Value → Heap → Prop) : Prop :=
  ∃ J_1 : Nat → Int → Heap → Prop, (∃ n0 : Nat, J_1 n0 0 h) ∧
  ∀ (n_1 : Nat) (t11_1 : Int) (h_1 : Heap), J_1 n_1 t11_1 h_1 → Vars h_1 [] →
  ((decide (t11_1 < (l0_1.n : Int))) = true →
  InB l0_1 t11_1 ∧
  ∃ t14_1 : Int, hcell h_1 (Sl.at l0_1 t11_1 1) = some (VI t14_1) ∧
  callM P 74 #[(VI t14_1), (VI lo1_1), (VI hi2_1)] h_1 fun rv_1 h_2 => ∃ t18_1 : Bool, rv_1 = (VB t18_1) ∧ Vars h_2 [] ∧
  ((!t18_1) = true →
  K (VB false) h_2) ∧
  ((!t18_1) = false →
  ∃ m : Nat, m < n_1 ∧ J_1 m (w64 (t11_1 + 1)) h_2)) ∧
  ((decide (t11_1 < (l0_1.n : Int))) = false →
  K (VB true) h_1)
theorem v108 (l0_1 : Sl) (lo1_1 : Int) (hi2_1 : Int) (h : Heap) (K : Value → Heap → Prop) (H : u108 Try.prog l0_1 lo1_1 hi2_1 h K) : callM Try.prog 108 #[(Sl.v l0_1), (VI lo1_1), (VI hi2_1)] h K := by
  refine c108 (Sl.v l0_1) (VI lo1_1) (VI hi2_1) h K ?_
  unfold u108 at H
  unfold t108
  have hL : Vars h [] := .nil
  refine pop_len l0_1 _ _ sli25 ?_
  obtain ⟨J_1, ⟨n_2, h0_1⟩, HB_1⟩ := H
  refine loop_intro (J := fun (n : Nat) (vs : List Value) (h' : Heap) => ∃ t11_1 : Int, vs = [(VI t11_1)] ∧ J_1 n t11_1 h' ∧ Vars h' []) n_2 ⟨0, rfl, h0_1, hL⟩ ?_
  intro I_1 mu_1 hI_1 junk_1 tv_1 h_1 hi_1
  obtain ⟨n_1, ⟨t11_1, hv, hJ_1, hL_1⟩, hn_1⟩ := hI_1 _ _ hi_1
  cases hv
  have H := HB_1 n_1 t11_1 h_1 hJ_1 hL_1
  refine pop_lss .i64 t11_1 (l0_1.n : Int) ?_
  refine condM_b (fun hb_1 => ?_) (fun hb_1 => ?_)
  · have H := H.1 hb_1
    obtain ⟨hi_2, H⟩ := H
    refine pop_index sli25 siz3 .i64 l0_1 t11_1 hi_2 ?_
    obtain ⟨t14_1, hc_1, H⟩ := H
    refine rop_one one3 (VI t14_1) hc_1 ?_
    refine H.mono fun rv_1 h_2 H => ?_
    obtain ⟨t18_1, rfl, hL_2, H⟩ := H
    refine pop_not t18_1 ?_
    refine condM_b (fun hb_2 => ?_) (fun hb_2 => ?_)
    · have H := H.1 hb_2
      exact H
    · have H := H.2 hb_2
      refine pop_add .i64 t11_1 1 ?_
      obtain ⟨m_1, hm_1, H⟩ := H
      exact hn_1 _ _ ⟨m_1, hm_1, (w64 (t11_1 + 1)), rfl, H, hL_2⟩
  · have H := H.2 hb_1
    exact H

/-! impl.isGraph$1 -/
def u109 (P : Program) (q0_1 : Int) (b_1 : Nat) (t1_1 : Int) (h : Heap) (K : Value → Heap → Prop) : Prop :=
  callM P 75 #[(VI q0_1), (VI 0), (VI (w64 (t1_1 - 1)))] h fun rv_1 h_1 => ∃ t7_1 : Bool, rv_1 = (VB t7_1) ∧ Vars h_1 [(b_1, [(VI t1_1)])] ∧
  K (VB (!t7_1)) h_1
theorem v109 (q0_1 : Int) (b_1 : Nat) (t1_1 : Int) (h : Heap) (K : Value → Heap → Prop) (hL : Vars h [(b_1, [(VI t1_1)])]) (H : u109 Try.prog q0_1 b_1 t1_1 h K) : callM Try.prog 109 #[(VI q0_1), (VP b_1 0)] h K := by
  refine c109 (VI q0_1) (VP b_1 0) h K ?_
  unfold u109 at H
  unfold t109
  refine rop_loc one3 hL 0 rfl 0 (v := (VI t1_1)) rfl ?_
  refine pop_sub .i64 t1_1 1 ?_
  refine H.mono fun rv_1 h_1 H => ?_
  obtain ⟨t7_1, rfl, hL_1, H⟩ := H
  refine pop_not t7_1 ?_
  exact H

/-! slices.IndexFunc[[]int,int] -/
def u110 (P : Program) (s0_1 : Sl) (f1_1 : Value) (h : Heap) (K : Value → Heap → Prop) : Prop :=
  ∃ J_1 : Nat → Int → Heap → Prop, (∃ n0 : Nat, J_1 n0 0 h) ∧
  ∀ (n_1 : Nat) (t8_1 : Int) (h_1 : Heap), J_1 n_1 t8_1 h_1 → Vars h_1 [] →
  ((decide (t8_1 < (s0_1.n : Int))) = true →
  InB s0_1 t8_1 ∧
  ∃ t15_1 : Int, hcell h_1 (Sl.at s0_1 t8_1 1) = some (VI t15_1) ∧
  callV P f1_1 [(VI t15_1)] h_1 fun rv_1 h_2 => ∃ t16_1 : Bool, rv_1 = (VB t16_1) ∧ Vars h_2 [] ∧
  (t16_1 = true →
  K (VI t8_1) h_2) ∧
  (t16_1 = false →
  ∃ m : Nat, m < n_1 ∧ J_1 m (w64 (t8_1 + 1)) h_2)) ∧
  ((decide (t8_1 < (s0_1.n : Int))) = false →
  K (VI (-1)) h_1)
theorem v110 (s0_1 : Sl) (f1_1 : Value) (h : Heap) (K : Value → Heap → Prop) (H : u110 Try.prog s0_1 f1_1 h K) : callM Try.prog 110 #[(Sl.v s0_1), f1_1] h K := by
  refine c110 (Sl.v s0_1) f1_1 h K ?_
  unfold u110 at H
  unfold t110
  have hL : Vars h [] := .nil
  refine pop_len s0_1 _ _ sli25 ?_
  obtain ⟨J_1, ⟨n_2, h0_1⟩, HB_1⟩ := H
  refine loop_intro (J := fun (n : Nat) (vs : List Value) (h' : Heap) => ∃ t8_1 : Int, vs = [(VI t8_1)] ∧ J_1 n t8_1 h' ∧ Vars h' []) n_2 ⟨0, rfl, h0_1, hL⟩ ?_
  intro I_1 mu_1 hI_1 junk_1 tv_1 h_1 hi_1
  obtain ⟨n_1, ⟨t8_1, hv, hJ_1, hL_1⟩, hn_1⟩ := hI_1 _ _ hi_1
  cases hv
  have H := HB_1 n_1 t8_1 h_1 hJ_1 hL_1
  refine pop_lss .i64 t8_1 (s0_1.n : Int) ?_
  refine condM_b (fun hb_1 => ?_) (fun hb_1 => ?_)
  · have H := H.1 hb_1
    obtain ⟨hi_2, H⟩ := H
    refine pop_index sli25 siz3 .i64 s0_1 t8_1 hi_2 ?_
    obtain ⟨t15_1, hc_1, H⟩ := H
    refine rop_one one3 (VI t15_1) hc_1 ?_
    refine H.mono fun rv_1 h_2 H => ?_
    obtain ⟨t16_1, rfl, hL_2, H⟩ := H
    refine condM_b (fun hb_2 => ?_) (fun hb_2 => ?_)
    · have H := H.1 hb_2
      exact H
    · have H := H.2 hb_2
      refine pop_add .i64 t8_1 1 ?_
      obtain ⟨m_1, hm_1, H⟩ := H
      exact hn_1 _ _ ⟨m_1, hm_1, (w64 (t8_1 + 1)), rfl, H, hL_2⟩
  · have H := H.2 hb_1
    exact H

end Go.Proofs.Ytkphbhochacllaa
