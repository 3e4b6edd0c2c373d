/-
  The same over typed data. Written by a program.
-/
import Derived.Test.YtjinpagnbflmiaaUsesOfT
import Derived.Test.YtjinpagnbflmiaaM2
set_option linter.unusedVariables false
set_option linter.unusedSimpArgs false
namespace Go.Proofs.Ytjinpagnbflmiaa
open Go Go.Mx
theorem agg24 : aggC Try.prog 24 = some 1 := by kernel_rfl
theorem agg27 : aggC Try.prog 27 = some 2 := by kernel_rfl
theorem agg32 : aggC Try.prog 32 = some 1 := by kernel_rfl
theorem agg34 : aggC Try.prog 34 = some 2 := by kernel_rfl
theorem agg81 : aggC Try.prog 81 = some 5 := by kernel_rfl
theorem boo4 : Try.prog.underlying 4 = some .bool := by kernel_rfl
theorem fld24_0 : fieldC Try.prog 24 0 = some 0 := by kernel_rfl
theorem fld27_0 : fieldC Try.prog 27 0 = some 0 := by kernel_rfl
theorem fld27_1 : fieldC Try.prog 27 1 = some 1 := by kernel_rfl
theorem fld32_0 : fieldC Try.prog 32 0 = some 0 := by kernel_rfl
theorem fld34_0 : fieldC Try.prog 34 0 = some 0 := by kernel_rfl
theorem fld34_1 : fieldC Try.prog 34 1 = some 1 := by kernel_rfl
theorem fld81_0 : fieldC Try.prog 81 0 = some 0 := by kernel_rfl
theorem fld81_1 : fieldC Try.prog 81 1 = some 2 := by kernel_rfl
theorem fld81_2 : fieldC Try.prog 81 2 = some 3 := by kernel_rfl
theorem fld81_3 : fieldC Try.prog 81 3 = some 4 := by kernel_rfl
theorem one22 : oneC Try.prog 22 = true := by kernel_rfl
theorem one25 : oneC Try.prog 25 = true := by kernel_rfl
theorem one3 : oneC Try.prog 3 = true := by kernel_rfl
theorem siz22 : sizeC Try.prog 22 = some 1 := by kernel_rfl
theorem siz25 : sizeC Try.prog 25 = some 1 := by kernel_rfl
theorem siz3 : sizeC Try.prog 3 = some 1 := by kernel_rfl
theorem siz32 : sizeC Try.prog 32 = some 1 := by kernel_rfl
theorem siz34 : sizeC Try.prog 34 = some 2 := by kernel_rfl
theorem siz81 : sizeC Try.prog 81 = some 5 := by kernel_rfl
theorem sli22 : Try.prog.underlying 22 = some (.slice 25) := by kernel_rfl
theorem sli25 : Try.prog.underlying 25 = some (.slice 3) := by kernel_rfl
theorem zer22 : zeroC Try.prog 22 = some (Sl.v nilSl) := by kernel_rfl
theorem zer3 : zeroC Try.prog 3 = some (VI 0) := by kernel_rfl
theorem zer32 : zeroC Try.prog 32 = some (Value.agg #[(Sl.v nilSl)]) := by kernel_rfl
theorem zer34 : zeroC Try.prog 34 = some (Value.agg #[(Sl.v nilSl), (VI 0)]) := by kernel_rfl
theorem zer81 : zeroC Try.prog 81 = some (Value.agg #[(Sl.v nilSl), (VI 0), (Sl.v nilSl), (Sl.v nilSl), (Sl.v nilSl)]) := by kernel_rfl
/-! laws.FnExactUsesOf -/
def u3 (P : Program) (aG0_1 : Sl) (aW1_1 : Sl) (aW1_2 : Int) (aN2_1 : Int) (h : Heap) (K : Value → Heap → Prop) : Prop :=
  ∀ (b_1 : Nat) (b_2 : Nat) (h_2 : Heap), h.size ≤ b_1 → h.size ≤ b_2 → Fr (In []) h h_2 → Vars h_2 [(b_2, [(Sl.v aW1_1), (VI aW1_2)]), (b_1, [(Sl.v aG0_1)])] →
  callM P 15 #[(Value.agg #[(Sl.v aG0_1)]), (VI 1048576)] h_2 fun rv_1 h_3 => ∃ t21_1 : Int, rv_1 = (VI t21_1) ∧ Vars h_3 [(b_2, [(Sl.v aW1_1), (VI aW1_2)]), (b_1, [(Sl.v aG0_1)])] ∧
  ((decide (t21_1 < 0)) = true →
  K (VB true) h_3) ∧
  ((decide (t21_1 < 0)) = false →
  callM P 16 #[(Value.agg #[(Sl.v aW1_1), (VI aW1_2)]), (VI t21_1)] h_3 fun rv_2 h_4 => ∃ t26_1 : Int, rv_2 = (VI t26_1) ∧ Vars h_4 [(b_2, [(Sl.v aW1_1), (VI aW1_2)]), (b_1, [(Sl.v aG0_1)])] ∧
  ((decide (t26_1 < 0)) = true →
  K (VB true) h_4) ∧
  ((decide (t26_1 < 0)) = false →
  callM P 18 #[(Value.agg #[(Sl.v aG0_1)])] h_4 fun rv_3 h_5 => ∃ t31_1 : Sl, rv_3 = (Value.agg #[(Sl.v t31_1)]) ∧ Vars h_5 [(b_2, [(Sl.v aW1_1), (VI aW1_2)]), (b_1, [(Sl.v aG0_1)])] ∧
  callM P 19 #[(Value.agg #[(Sl.v aW1_1), (VI aW1_2)])] h_5 fun rv_4 h_6 => ∃ t33_1 : Sl, ∃ t33_2 : Int, rv_4 = (Value.agg #[(Sl.v t33_1), (VI t33_2)]) ∧ Vars h_6 [(b_2, [(Sl.v aW1_1), (VI aW1_2)]), (b_1, [(Sl.v aG0_1)])] ∧
  callM P 17 #[(Value.agg #[(Sl.v t31_1)]), (Value.agg #[(Sl.v t33_1), (VI t33_2)]), (VI aN2_1)] h_6 fun rv_5 h_7 => ∃ t35_1 : Sl, ∃ t35_2 : Bool, rv_5 = (Value.tuple #[(Sl.v t35_1), (VB t35_2)]) ∧ Vars h_7 [(b_2, [(Sl.v aW1_1), (VI aW1_2)]), (b_1, [(Sl.v aG0_1)])] ∧
  callM P 18 #[(Value.agg #[(Sl.v aG0_1)])] h_7 fun rv_6 h_8 => ∃ t39_1 : Sl, rv_6 = (Value.agg #[(Sl.v t39_1)]) ∧ Vars h_8 [(b_2, [(Sl.v aW1_1), (VI aW1_2)]), (b_1, [(Sl.v aG0_1)])] ∧
  ∀ (b_3 : Nat) (h_10 : Heap), h_8.size ≤ b_3 → Fr (In []) h_8 h_10 → Vars h_10 [(b_3, [(Sl.v t39_1)]), (b_2, [(Sl.v aW1_1), (VI aW1_2)]), (b_1, [(Sl.v aG0_1)])] →
  callM P 19 #[(Value.agg #[(Sl.v aW1_1), (VI aW1_2)])] h_10 fun rv_7 h_11 => ∃ t41_1 : Sl, ∃ t41_2 : Int, rv_7 = (Value.agg #[(Sl.v t41_1), (VI t41_2)]) ∧ Vars h_11 [(b_3, [(Sl.v t39_1)]), (b_2, [(Sl.v aW1_1), (VI aW1_2)]), (b_1, [(Sl.v aG0_1)])] ∧
  ∀ (b_4 : Nat) (h_13 : Heap), h_11.size ≤ b_4 → Fr (In []) h_11 h_13 → Vars h_13 [(b_4, [(Sl.v t41_1), (VI t41_2)]), (b_3, [(Sl.v t39_1)]), (b_2, [(Sl.v aW1_1), (VI aW1_2)]), (b_1, [(Sl.v aG0_1)])] →
  callM P 20 #[(Value.agg #[(Sl.v t39_1)]), (Value.agg #[(Sl.v t41_1), (VI t41_2)]), (VI aN2_1)] h_13 fun rv_8 h_14 => ∃ t46_1 : Sl, ∃ t46_2 : Bool, rv_8 = (Value.tuple #[(Sl.v t46_1), (VB t46_2)]) ∧ Vars h_14 [(b_4, [(Sl.v t41_1), (VI t41_2)]), (b_3, [(Sl.v t39_1)]), (b_2, [(Sl.v aW1_1), (VI aW1_2)]), (b_1, [(Sl.v aG0_1)])] ∧
  callM P 21 #[(Sl.v t46_1), (Sl.v t35_1)] h_14 fun rv_9 h_15 => ∃ t51_1 : Bool, rv_9 = (VB t51_1) ∧ Vars h_15 [(b_4, [(Sl.v t41_1), (VI t41_2)]), (b_3, [(Sl.v t39_1)]), (b_2, [(Sl.v aW1_1), (VI aW1_2)]), (b_1, [(Sl.v aG0_1)])] ∧
  ((!t51_1) = true →
  K (VB false) h_15) ∧
  ((!t51_1) = false →
  ((!(t46_2 == t35_2)) = true →
  K (VB false) h_15) ∧
  ((!(t46_2 == t35_2)) = false →
  callM P 18 #[(Value.agg #[(Sl.v aG0_1)])] h_15 fun rv_10 h_16 => ∃ t60_1 : Sl, rv_10 = (Value.agg #[(Sl.v t60_1)]) ∧ Vars h_16 [(b_4, [(Sl.v t41_1), (VI t41_2)]), (b_3, [(Sl.v t39_1)]), (b_2, [(Sl.v aW1_1), (VI aW1_2)]), (b_1, [(Sl.v aG0_1)])] ∧
  callM P 22 #[(Value.agg #[(Sl.v t39_1)]), (Value.agg #[(Sl.v t60_1)])] h_16 fun rv_11 h_17 => ∃ t61_1 : Bool, rv_11 = (VB t61_1) ∧ Vars h_17 [(b_4, [(Sl.v t41_1), (VI t41_2)]), (b_3, [(Sl.v t39_1)]), (b_2, [(Sl.v aW1_1), (VI aW1_2)]), (b_1, [(Sl.v aG0_1)])] ∧
  ((!t61_1) = true →
  K (VB false) h_17) ∧
  ((!t61_1) = false →
  callM P 19 #[(Value.agg #[(Sl.v aW1_1), (VI aW1_2)])] h_17 fun rv_12 h_18 => ∃ t65_1 : Sl, ∃ t65_2 : Int, rv_12 = (Value.agg #[(Sl.v t65_1), (VI t65_2)]) ∧ Vars h_18 [(b_4, [(Sl.v t41_1), (VI t41_2)]), (b_3, [(Sl.v t39_1)]), (b_2, [(Sl.v aW1_1), (VI aW1_2)]), (b_1, [(Sl.v aG0_1)])] ∧
  callM P 23 #[(Value.agg #[(Sl.v t41_1), (VI t41_2)]), (Value.agg #[(Sl.v t65_1), (VI t65_2)])] h_18 fun rv_13 h_19 => ∃ t66_1 : Bool, rv_13 = (VB t66_1) ∧ Vars h_19 [(b_4, [(Sl.v t41_1), (VI t41_2)]), (b_3, [(Sl.v t39_1)]), (b_2, [(Sl.v aW1_1), (VI aW1_2)]), (b_1, [(Sl.v aG0_1)])] ∧
  ((!t66_1) = true →
  K (VB false) h_19) ∧
  ((!t66_1) = false →
  callM P 24 #[(Value.agg #[(Sl.v t39_1)]), (VI 1)] h_19 fun rv_14 h_20 => ∃ t70_1 : Int, rv_14 = (VI t70_1) ∧ Vars h_20 [(b_4, [(Sl.v t41_1), (VI t41_2)]), (b_3, [(Sl.v t39_1)]), (b_2, [(Sl.v aW1_1), (VI aW1_2)]), (b_1, [(Sl.v aG0_1)])] ∧
  callM P 25 #[(Value.agg #[(Sl.v t41_1), (VI t41_2)]), (VI t70_1)] h_20 fun rv_15 h_21 => ∃ t73_1 : Int, rv_15 = (VI t73_1) ∧ Vars h_21 [(b_4, [(Sl.v t41_1), (VI t41_2)]), (b_3, [(Sl.v t39_1)]), (b_2, [(Sl.v aW1_1), (VI aW1_2)]), (b_1, [(Sl.v aG0_1)])] ∧
  ((decide (t73_1 < 0)) = true →
  K (VB false) h_21) ∧
  ((decide (t73_1 < 0)) = false →
  callM P 21 #[(Sl.v t46_1), (Sl.v t35_1)] h_21 fun rv_16 h_22 => ∃ t79_1 : Bool, rv_16 = (VB t79_1) ∧ Vars h_22 [(b_4, [(Sl.v t41_1), (VI t41_2)]), (b_3, [(Sl.v t39_1)]), (b_2, [(Sl.v aW1_1), (VI aW1_2)]), (b_1, [(Sl.v aG0_1)])] ∧
  ((!t79_1) = true →
  K (VB false) h_22) ∧
  ((!t79_1) = false →
  callM P 26 #[(Sl.v t46_1), (VI 1)] h_22 fun rv_17 h_23 => ∃ t89_1 : Int, rv_17 = (VI t89_1) ∧ Vars h_23 [(b_4, [(Sl.v t41_1), (VI t41_2)]), (b_3, [(Sl.v t39_1)]), (b_2, [(Sl.v aW1_1), (VI aW1_2)]), (b_1, [(Sl.v aG0_1)])] ∧
  callM P 27 #[(Sl.v t46_1), (VI 1)] h_23 fun rv_18 h_24 => ∃ t92_1 : Int, rv_18 = (VI t92_1) ∧ Vars h_24 [(b_4, [(Sl.v t41_1), (VI t41_2)]), (b_3, [(Sl.v t39_1)]), (b_2, [(Sl.v aW1_1), (VI aW1_2)]), (b_1, [(Sl.v aG0_1)])] ∧
  ((decide (t92_1 < 0)) = true →
  K (VB false) h_24) ∧
  ((decide (t92_1 < 0)) = false →
  ((!decide (t92_1 = t89_1)) = true →
  K (VB false) h_24) ∧
  ((!decide (t92_1 = t89_1)) = false →
  callM P 18 #[(Value.agg #[(Sl.v aG0_1)])] h_24 fun rv_19 h_25 => ∃ t100_1 : Sl, rv_19 = (Value.agg #[(Sl.v t100_1)]) ∧ Vars h_25 [(b_4, [(Sl.v t41_1), (VI t41_2)]), (b_3, [(Sl.v t39_1)]), (b_2, [(Sl.v aW1_1), (VI aW1_2)]), (b_1, [(Sl.v aG0_1)])] ∧
  callM P 19 #[(Value.agg #[(Sl.v aW1_1), (VI aW1_2)])] h_25 fun rv_20 h_26 => ∃ t102_1 : Sl, ∃ t102_2 : Int, rv_20 = (Value.agg #[(Sl.v t102_1), (VI t102_2)]) ∧ Vars h_26 [(b_4, [(Sl.v t41_1), (VI t41_2)]), (b_3, [(Sl.v t39_1)]), (b_2, [(Sl.v aW1_1), (VI aW1_2)]), (b_1, [(Sl.v aG0_1)])] ∧
  callM P 20 #[(Value.agg #[(Sl.v t100_1)]), (Value.agg #[(Sl.v t102_1), (VI t102_2)]), (VI aN2_1)] h_26 fun rv_21 h_27 => ∃ t104_1 : Sl, ∃ t104_2 : Bool, rv_21 = (Value.tuple #[(Sl.v t104_1), (VB t104_2)]) ∧ Vars h_27 [(b_4, [(Sl.v t41_1), (VI t41_2)]), (b_3, [(Sl.v t39_1)]), (b_2, [(Sl.v aW1_1), (VI aW1_2)]), (b_1, [(Sl.v aG0_1)])] ∧
  callM P 21 #[(Sl.v t104_1), (Sl.v t35_1)] h_27 fun rv_22 h_28 => ∃ t109_1 : Bool, rv_22 = (VB t109_1) ∧ Vars h_28 [(b_4, [(Sl.v t41_1), (VI t41_2)]), (b_3, [(Sl.v t39_1)]), (b_2, [(Sl.v aW1_1), (VI aW1_2)]), (b_1, [(Sl.v aG0_1)])] ∧
  ((!t109_1) = true →
  K (VB false) h_28) ∧
  ((!t109_1) = false →
  ((!(t104_2 == t35_2)) = true →
  K (VB false) h_28) ∧
  ((!(t104_2 == t35_2)) = false →
  callM P 27 #[(Sl.v t46_1), (VI 1)] h_28 fun rv_23 h_29 => ∃ t118_1 : Int, rv_23 = (VI t118_1) ∧ Vars h_29 [(b_4, [(Sl.v t41_1), (VI t41_2)]), (b_3, [(Sl.v t39_1)]), (b_2, [(Sl.v aW1_1), (VI aW1_2)]), (b_1, [(Sl.v aG0_1)])] ∧
  ((decide (t118_1 < 0)) = true →
  K (VB false) h_29) ∧
  ((decide (t118_1 < 0)) = false →
  ((!decide (t118_1 = t89_1)) = true →
  K (VB false) h_29) ∧
  ((!decide (t118_1 = t89_1)) = false →
  K (VB true) h_29))))))))))))))
theorem v3 (aG0_1 : Sl) (aW1_1 : Sl) (aW1_2 : Int) (aN2_1 : Int) (h : Heap) (K : Value → Heap → Prop) (H : u3 Try.prog aG0_1 aW1_1 aW1_2 aN2_1 h K) : callM Try.prog 3 #[(Value.agg #[(Sl.v aG0_1)]), (Value.agg #[(Sl.v aW1_1), (VI aW1_2)]), (VI aN2_1)] h K := by
  refine c3 (Value.agg #[(Sl.v aG0_1)]) (Value.agg #[(Sl.v aW1_1), (VI aW1_2)]) (VI aN2_1) h K ?_
  unfold u3 at H
  unfold t3
  have hL : Vars h [] := .nil
  refine eop_box 24 (Value.agg #[(Sl.v aG0_1)]) rfl hL (fun b_1 h_1 hb_1 hf_1 hL_1 => ?_)
  refine eop_box 27 (Value.agg #[(Sl.v aW1_1), (VI aW1_2)]) rfl hL_1 (fun b_2 h_2 hb_2 hf_2 hL_2 => ?_)
  refine rop_locA agg24 hL_2 1 rfl 0 (vs := [(Sl.v aG0_1)]) rfl rfl ?_
  have H := H b_1 b_2 h_2 (Nat.le_trans (Fr.size (Fr.r (In []) _)) hb_1) (Nat.le_trans (Fr.size (Fr.no' (Fr.r (In []) _) hf_1)) hb_2) (Fr.no' (Fr.no' (Fr.r (In []) _) hf_1) hf_2) hL_2
  refine H.mono fun rv_1 h_3 H => ?_
  obtain ⟨t21_1, rfl, hL_3, H⟩ := H
  refine pop_lss .i64 t21_1 0 ?_
  refine condM_b (fun hb_3 => ?_) (fun hb_3 => ?_)
  · have H := H.1 hb_3
    exact H
  · have H := H.2 hb_3
    refine rop_locA agg27 hL_3 0 rfl 0 (vs := [(Sl.v aW1_1), (VI aW1_2)]) rfl rfl ?_
    refine H.mono fun rv_2 h_4 H => ?_
    obtain ⟨t26_1, rfl, hL_4, H⟩ := H
    refine pop_lss .i64 t26_1 0 ?_
    refine condM_b (fun hb_4 => ?_) (fun hb_4 => ?_)
    · have H := H.1 hb_4
      exact H
    · have H := H.2 hb_4
      refine rop_locA agg24 hL_4 1 rfl 0 (vs := [(Sl.v aG0_1)]) rfl rfl ?_
      refine rop_locA agg27 hL_4 0 rfl 0 (vs := [(Sl.v aW1_1), (VI aW1_2)]) rfl rfl ?_
      refine H.mono fun rv_3 h_5 H => ?_
      obtain ⟨t31_1, rfl, hL_5, H⟩ := H
      refine ⟨?_, ?_⟩
      · exact still_locA agg27 hL_5 0 rfl 0 (vs := [(Sl.v aW1_1), (VI aW1_2)]) rfl rfl
      refine H.mono fun rv_4 h_6 H => ?_
      obtain ⟨t33_1, t33_2, rfl, hL_6, H⟩ := H
      refine H.mono fun rv_5 h_7 H => ?_
      obtain ⟨t35_1, t35_2, rfl, hL_7, H⟩ := H
      refine pop_ext (v := (Sl.v t35_1)) rfl ?_
      refine pop_ext (v := (VB t35_2)) rfl ?_
      refine rop_locA agg24 hL_7 1 rfl 0 (vs := [(Sl.v aG0_1)]) rfl rfl ?_
      refine H.mono fun rv_6 h_8 H => ?_
      obtain ⟨t39_1, rfl, hL_8, H⟩ := H
      refine eop_alloc 32 zer32 rfl hL_8 (fun b_3 h_9 hb_5 hf_3 hL_9 => ?_)
      refine uop_loc siz32 hL_9 0 rfl 0 [(Sl.v t39_1)] rfl rfl rfl (Nat.le_of_ble_eq_true rfl) (L' := [(b_3, [(Sl.v t39_1)]), (b_2, [(Sl.v aW1_1), (VI aW1_2)]), (b_1, [(Sl.v aG0_1)])]) rfl (fun h_10 hf_4 hL_10 => ?_)
      refine rop_locA agg27 hL_10 1 rfl 0 (vs := [(Sl.v aW1_1), (VI aW1_2)]) rfl rfl ?_
      have H := H b_3 h_10 (Nat.le_trans (Fr.size (Fr.r (In []) _)) hb_5) (Fr.new (Fr.no' (Fr.r (In []) _) hf_3) (Nat.le_trans (Fr.size (Fr.r (In []) _)) hb_5) hf_4) hL_10
      refine H.mono fun rv_7 h_11 H => ?_
      obtain ⟨t41_1, t41_2, rfl, hL_11, H⟩ := H
      refine eop_alloc 34 zer34 rfl hL_11 (fun b_4 h_12 hb_6 hf_5 hL_12 => ?_)
      refine uop_loc siz34 hL_12 0 rfl 0 [(Sl.v t41_1), (VI t41_2)] rfl rfl rfl (Nat.le_of_ble_eq_true rfl) (L' := [(b_4, [(Sl.v t41_1), (VI t41_2)]), (b_3, [(Sl.v t39_1)]), (b_2, [(Sl.v aW1_1), (VI aW1_2)]), (b_1, [(Sl.v aG0_1)])]) rfl (fun h_13 hf_6 hL_13 => ?_)
      refine rop_locA agg32 hL_13 1 rfl 0 (vs := [(Sl.v t39_1)]) rfl rfl ?_
      refine rop_locA agg34 hL_13 0 rfl 0 (vs := [(Sl.v t41_1), (VI t41_2)]) rfl rfl ?_
      have H := H b_4 h_13 (Nat.le_trans (Fr.size (Fr.r (In []) _)) hb_6) (Fr.new (Fr.no' (Fr.r (In []) _) hf_5) (Nat.le_trans (Fr.size (Fr.r (In []) _)) hb_6) hf_6) hL_13
      refine H.mono fun rv_8 h_14 H => ?_
      obtain ⟨t46_1, t46_2, rfl, hL_14, H⟩ := H
      refine pop_ext (v := (Sl.v t46_1)) rfl ?_
      refine pop_ext (v := (VB t46_2)) rfl ?_
      refine H.mono fun rv_9 h_15 H => ?_
      obtain ⟨t51_1, rfl, hL_15, H⟩ := H
      refine pop_not t51_1 ?_
      refine guardM_sf (fun hb_7 => ?_) (fun hb_7 => ?_)
      · have H := H.2 hb_7
        refine guardM_y' hb_7 ?_
        refine guardM_y' hb_7 ?_
        refine pop_bne boo4 _ _ t46_2 t35_2 ?_
        refine pop_pickf' hb_7 ?_
        refine condM_b (fun hb_8 => ?_) (fun hb_8 => ?_)
        · have H := H.1 hb_8
          exact H
        · have H := H.2 hb_8
          refine rop_locA agg32 hL_15 1 rfl 0 (vs := [(Sl.v t39_1)]) rfl rfl ?_
          refine rop_locA agg24 hL_15 3 rfl 0 (vs := [(Sl.v aG0_1)]) rfl rfl ?_
          refine H.mono fun rv_10 h_16 H => ?_
          obtain ⟨t60_1, rfl, hL_16, H⟩ := H
          refine ⟨?_, ?_⟩
          · exact still_locA agg32 hL_16 1 rfl 0 (vs := [(Sl.v t39_1)]) rfl rfl
          refine H.mono fun rv_11 h_17 H => ?_
          obtain ⟨t61_1, rfl, hL_17, H⟩ := H
          refine pop_not t61_1 ?_
          refine condM_b (fun hb_9 => ?_) (fun hb_9 => ?_)
          · have H := H.1 hb_9
            exact H
          · have H := H.2 hb_9
            refine rop_locA agg34 hL_17 0 rfl 0 (vs := [(Sl.v t41_1), (VI t41_2)]) rfl rfl ?_
            refine rop_locA agg27 hL_17 2 rfl 0 (vs := [(Sl.v aW1_1), (VI aW1_2)]) rfl rfl ?_
            refine H.mono fun rv_12 h_18 H => ?_
            obtain ⟨t65_1, t65_2, rfl, hL_18, H⟩ := H
            refine ⟨?_, ?_⟩
            · exact still_locA agg34 hL_18 0 rfl 0 (vs := [(Sl.v t41_1), (VI t41_2)]) rfl rfl
            refine H.mono fun rv_13 h_19 H => ?_
            obtain ⟨t66_1, rfl, hL_19, H⟩ := H
            refine pop_not t66_1 ?_
            refine condM_b (fun hb_10 => ?_) (fun hb_10 => ?_)
            · have H := H.1 hb_10
              exact H
            · have H := H.2 hb_10
              refine rop_locA agg32 hL_19 1 rfl 0 (vs := [(Sl.v t39_1)]) rfl rfl ?_
              refine H.mono fun rv_14 h_20 H => ?_
              obtain ⟨t70_1, rfl, hL_20, H⟩ := H
              refine rop_locA agg34 hL_20 0 rfl 0 (vs := [(Sl.v t41_1), (VI t41_2)]) rfl rfl ?_
              refine H.mono fun rv_15 h_21 H => ?_
              obtain ⟨t73_1, rfl, hL_21, H⟩ := H
              refine pop_lss .i64 t73_1 0 ?_
              refine guardM_sf (fun hb_11 => ?_) (fun hb_11 => ?_)
              · have H := H.2 hb_11
                refine guardM_y' hb_11 ?_
                refine guardM_y' hb_11 ?_
                refine H.mono fun rv_16 h_22 H => ?_
                obtain ⟨t79_1, rfl, hL_22, H⟩ := H
                refine guardM_y' hb_11 ?_
                refine pop_not t79_1 ?_
                refine pop_pickf' hb_11 ?_
                refine guardM_sf (fun hb_12 => ?_) (fun hb_12 => ?_)
                · have H := H.2 hb_12
                  refine guardM_y' hb_12 ?_
                  refine guardM_y' hb_12 ?_
                  refine pop_bne boo4 _ _ t46_2 t35_2 ?_
                  refine pop_pickf' hb_12 ?_
                  refine condM_f' hb_8 ?_
                  refine H.mono fun rv_17 h_23 H => ?_
                  obtain ⟨t89_1, rfl, hL_23, H⟩ := H
                  refine H.mono fun rv_18 h_24 H => ?_
                  obtain ⟨t92_1, rfl, hL_24, H⟩ := H
                  refine pop_lss .i64 t92_1 0 ?_
                  refine condM_b (fun hb_13 => ?_) (fun hb_13 => ?_)
                  · have H := H.1 hb_13
                    exact H
                  · have H := H.2 hb_13
                    refine pop_ine .i64 _ _ t92_1 t89_1 ?_
                    refine condM_b (fun hb_14 => ?_) (fun hb_14 => ?_)
                    · have H := H.1 hb_14
                      exact H
                    · have H := H.2 hb_14
                      refine rop_locA agg24 hL_24 3 rfl 0 (vs := [(Sl.v aG0_1)]) rfl rfl ?_
                      refine rop_locA agg27 hL_24 2 rfl 0 (vs := [(Sl.v aW1_1), (VI aW1_2)]) rfl rfl ?_
                      refine H.mono fun rv_19 h_25 H => ?_
                      obtain ⟨t100_1, rfl, hL_25, H⟩ := H
                      refine ⟨?_, ?_⟩
                      · exact still_locA agg27 hL_25 2 rfl 0 (vs := [(Sl.v aW1_1), (VI aW1_2)]) rfl rfl
                      refine H.mono fun rv_20 h_26 H => ?_
                      obtain ⟨t102_1, t102_2, rfl, hL_26, H⟩ := H
                      refine H.mono fun rv_21 h_27 H => ?_
                      obtain ⟨t104_1, t104_2, rfl, hL_27, H⟩ := H
                      refine pop_ext (v := (Sl.v t104_1)) rfl ?_
                      refine pop_ext (v := (VB t104_2)) rfl ?_
                      refine H.mono fun rv_22 h_28 H => ?_
                      obtain ⟨t109_1, rfl, hL_28, H⟩ := H
                      refine pop_not t109_1 ?_
                      refine guardM_sf (fun hb_15 => ?_) (fun hb_15 => ?_)
                      · have H := H.2 hb_15
                        refine guardM_y' hb_15 ?_
                        refine guardM_y' hb_15 ?_
                        refine pop_bne boo4 _ _ t104_2 t35_2 ?_
                        refine pop_pickf' hb_15 ?_
                        refine condM_b (fun hb_16 => ?_) (fun hb_16 => ?_)
                        · have H := H.1 hb_16
                          exact H
                        · have H := H.2 hb_16
                          refine H.mono fun rv_23 h_29 H => ?_
                          obtain ⟨t118_1, rfl, hL_29, H⟩ := H
                          refine pop_lss .i64 t118_1 0 ?_
                          refine condM_b (fun hb_17 => ?_) (fun hb_17 => ?_)
                          · have H := H.1 hb_17
                            exact H
                          · have H := H.2 hb_17
                            refine pop_ine .i64 _ _ t118_1 t89_1 ?_
                            refine condM_b (fun hb_18 => ?_) (fun hb_18 => ?_)
                            · have H := H.1 hb_18
                              exact H
                            · have H := H.2 hb_18
                              exact H
                      · have H := H.1 hb_15
                        refine guardM_n' hb_15 (by decide) ?_
                        refine guardM_n' hb_15 (by decide) ?_
                        refine pop_pickt' hb_15 ?_
                        refine condM_t ?_
                        exact H
                · have H := H.1 hb_12
                  refine guardM_n' hb_12 (by decide) ?_
                  refine guardM_n' hb_12 (by decide) ?_
                  refine pop_pickt' hb_12 ?_
                  refine condM_t ?_
                  exact H
              · have H := H.1 hb_11
                refine guardM_n' hb_11 (by decide) ?_
                refine guardM_n' hb_11 (by decide) ?_
                refine guardM_n' hb_11 (by decide) ?_
                refine pop_pickt' hb_11 ?_
                refine guardM_n (by decide) ?_
                refine guardM_n (by decide) ?_
                refine guardM_n (by decide) ?_
                refine pop_pickt _ _ ?_
                refine condM_t ?_
                exact H
      · have H := H.1 hb_7
        refine guardM_n' hb_7 (by decide) ?_
        refine guardM_n' hb_7 (by decide) ?_
        refine pop_pickt' hb_7 ?_
        refine condM_t ?_
        exact H

/-! laws.szGraph -/
def u15 (P : Program) (a0_1 : Sl) (left1_1 : Int) (h : Heap) (K : Value → Heap → Prop) : Prop :=
  ∀ (b_1 : Nat) (h_1 : Heap), h.size ≤ b_1 → Fr (In []) h h_1 → Vars h_1 [(b_1, [(Sl.v a0_1)])] →
  callM P 64 #[(Sl.v a0_1), (VI left1_1)] h_1 fun rv_1 h_2 => ∃ t8_1 : Int, rv_1 = (VI t8_1) ∧ Vars h_2 [(b_1, [(Sl.v a0_1)])] ∧
  ((decide (t8_1 < 0)) = true →
  K (VI (-1)) h_2) ∧
  ((decide (t8_1 < 0)) = false →
  K (VI t8_1) h_2)
theorem v15 (a0_1 : Sl) (left1_1 : Int) (h : Heap) (K : Value → Heap → Prop) (H : u15 Try.prog a0_1 left1_1 h K) : callM Try.prog 15 #[(Value.agg #[(Sl.v a0_1)]), (VI left1_1)] h K := by
  refine c15 (Value.agg #[(Sl.v a0_1)]) (VI left1_1) h K ?_
  unfold u15 at H
  unfold t15
  have hL : Vars h [] := .nil
  refine eop_box 24 (Value.agg #[(Sl.v a0_1)]) rfl hL (fun b_1 h_1 hb_1 hf_1 hL_1 => ?_)
  refine pop_field 0 fld24_0 b_1 0 ?_
  refine rop_loc one22 hL_1 0 rfl 0 (v := (Sl.v a0_1)) rfl ?_
  have H := H b_1 h_1 (Nat.le_trans (Fr.size (Fr.r (In []) _)) hb_1) (Fr.no' (Fr.r (In []) _) hf_1) hL_1
  refine H.mono fun rv_1 h_2 H => ?_
  obtain ⟨t8_1, rfl, hL_2, H⟩ := H
  refine pop_lss .i64 t8_1 0 ?_
  refine condM_b (fun hb_2 => ?_) (fun hb_2 => ?_)
  · have H := H.1 hb_2
    exact H
  · have H := H.2 hb_2
    exact H

/-! laws.szWalk -/
def u16 (P : Program) (a0_1 : Sl) (a0_2 : Int) (left1_1 : Int) (h : Heap) (K : Value → Heap → Prop) : Prop :=
  ∀ (b_1 : Nat) (h_1 : Heap), h.size ≤ b_1 → Fr (In []) h h_1 → Vars h_1 [(b_1, [(Sl.v a0_1), (VI a0_2)])] →
  callM P 65 #[(Sl.v a0_1), (VI left1_1)] h_1 fun rv_1 h_2 => ∃ t8_1 : Int, rv_1 = (VI t8_1) ∧ Vars h_2 [(b_1, [(Sl.v a0_1), (VI a0_2)])] ∧
  ((decide (t8_1 < 0)) = true →
  K (VI (-1)) h_2) ∧
  ((decide (t8_1 < 0)) = false →
  K (VI t8_1) h_2)
theorem v16 (a0_1 : Sl) (a0_2 : Int) (left1_1 : Int) (h : Heap) (K : Value → Heap → Prop) (H : u16 Try.prog a0_1 a0_2 left1_1 h K) : callM Try.prog 16 #[(Value.agg #[(Sl.v a0_1), (VI a0_2)]), (VI left1_1)] h K := by
  refine c16 (Value.agg #[(Sl.v a0_1), (VI a0_2)]) (VI left1_1) h K ?_
  unfold u16 at H
  unfold t16
  have hL : Vars h [] := .nil
  refine eop_box 27 (Value.agg #[(Sl.v a0_1), (VI a0_2)]) rfl hL (fun b_1 h_1 hb_1 hf_1 hL_1 => ?_)
  refine pop_field 0 fld27_0 b_1 0 ?_
  refine rop_loc one25 hL_1 0 rfl 0 (v := (Sl.v a0_1)) rfl ?_
  have H := H b_1 h_1 (Nat.le_trans (Fr.size (Fr.r (In []) _)) hb_1) (Fr.no' (Fr.r (In []) _) hf_1) hL_1
  refine H.mono fun rv_1 h_2 H => ?_
  obtain ⟨t8_1, rfl, hL_2, H⟩ := H
  refine pop_lss .i64 t8_1 0 ?_
  refine condM_b (fun hb_2 => ?_) (fun hb_2 => ?_)
  · have H := H.1 hb_2
    exact H
  · have H := H.2 hb_2
    exact H

/-! spec.UsesOf -/
def u17 (P : Program) (g0_1 : Sl) (w1_1 : Sl) (w1_2 : Int) (n2_1 : Int) (h : Heap) (K : Value → Heap → Prop) : Prop :=
  ∀ (b_1 : Nat) (b_2 : Nat) (h_2 : Heap), h.size ≤ b_1 → h.size ≤ b_2 → Fr (In []) h h_2 → Vars h_2 [(b_2, [(Sl.v w1_1), (VI w1_2)]), (b_1, [(Sl.v g0_1)])] →
  callM P 66 #[(Value.agg #[(Sl.v g0_1)]), (Value.agg #[(Sl.v w1_1), (VI w1_2)]), (VI n2_1)] h_2 fun rv_1 h_3 => ∃ t13_1 : Bool, rv_1 = (VB t13_1) ∧ Vars h_3 [(b_2, [(Sl.v w1_1), (VI w1_2)]), (b_1, [(Sl.v g0_1)])] ∧
  ((!t13_1) = true →
  K (Value.tuple #[(Sl.v nilSl), (VB false)]) h_3) ∧
  ((!t13_1) = false →
  callM P 67 #[(Value.agg #[(Sl.v g0_1)]), (Value.agg #[(Sl.v w1_1), (VI w1_2)]), (VI n2_1)] h_3 fun rv_2 h_4 => ∃ t19_1 : Sl, ∃ t19_2 : Int, ∃ t19_3 : Sl, ∃ t19_4 : Sl, ∃ t19_5 : Sl, ∃ t19_6 : Bool, rv_2 = (Value.tuple #[(Value.agg #[(Sl.v t19_1), (VI t19_2), (Sl.v t19_3), (Sl.v t19_4), (Sl.v t19_5)]), (VB t19_6)]) ∧ Vars h_4 [(b_2, [(Sl.v w1_1), (VI w1_2)]), (b_1, [(Sl.v g0_1)])] ∧
  ∀ (b_3 : Nat) (h_6 : Heap), h_4.size ≤ b_3 → Fr (In []) h_4 h_6 → Vars h_6 [(b_3, [(Sl.v t19_1), (VI t19_2), (Sl.v t19_3), (Sl.v t19_4), (Sl.v t19_5)]), (b_2, [(Sl.v w1_1), (VI w1_2)]), (b_1, [(Sl.v g0_1)])] →
  K (Value.tuple #[(Sl.v t19_5), (VB t19_6)]) h_6)
theorem v17 (g0_1 : Sl) (w1_1 : Sl) (w1_2 : Int) (n2_1 : Int) (h : Heap) (K : Value → Heap → Prop) (H : u17 Try.prog g0_1 w1_1 w1_2 n2_1 h K) : callM Try.prog 17 #[(Value.agg #[(Sl.v g0_1)]), (Value.agg #[(Sl.v w1_1), (VI w1_2)]), (VI n2_1)] h K := by
  refine c17 (Value.agg #[(Sl.v g0_1)]) (Value.agg #[(Sl.v w1_1), (VI w1_2)]) (VI n2_1) h K ?_
  unfold u17 at H
  unfold t17
  have hL : Vars h [] := .nil
  refine eop_box 32 (Value.agg #[(Sl.v g0_1)]) rfl hL (fun b_1 h_1 hb_1 hf_1 hL_1 => ?_)
  refine eop_box 34 (Value.agg #[(Sl.v w1_1), (VI w1_2)]) rfl hL_1 (fun b_2 h_2 hb_2 hf_2 hL_2 => ?_)
  refine rop_locA agg32 hL_2 1 rfl 0 (vs := [(Sl.v g0_1)]) rfl rfl ?_
  refine rop_locA agg34 hL_2 0 rfl 0 (vs := [(Sl.v w1_1), (VI w1_2)]) rfl rfl ?_
  have H := H b_1 b_2 h_2 (Nat.le_trans (Fr.size (Fr.r (In []) _)) hb_1) (Nat.le_trans (Fr.size (Fr.no' (Fr.r (In []) _) hf_1)) hb_2) (Fr.no' (Fr.no' (Fr.r (In []) _) hf_1) hf_2) hL_2
  refine H.mono fun rv_1 h_3 H => ?_
  obtain ⟨t13_1, rfl, hL_3, H⟩ := H
  refine pop_not t13_1 ?_
  refine condM_b (fun hb_3 => ?_) (fun hb_3 => ?_)
  · have H := H.1 hb_3
    exact H
  · have H := H.2 hb_3
    refine rop_locA agg32 hL_3 1 rfl 0 (vs := [(Sl.v g0_1)]) rfl rfl ?_
    refine rop_locA agg34 hL_3 0 rfl 0 (vs := [(Sl.v w1_1), (VI w1_2)]) rfl rfl ?_
    refine H.mono fun rv_2 h_4 H => ?_
    obtain ⟨t19_1, t19_2, t19_3, t19_4, t19_5, t19_6, rfl, hL_4, H⟩ := H
    refine pop_ext (v := (Value.agg #[(Sl.v t19_1), (VI t19_2), (Sl.v t19_3), (Sl.v t19_4), (Sl.v t19_5)])) rfl ?_
    refine pop_ext (v := (VB t19_6)) rfl ?_
    refine eop_alloc 81 zer81 rfl hL_4 (fun b_3 h_5 hb_4 hf_3 hL_5 => ?_)
    refine uop_loc siz81 hL_5 0 rfl 0 [(Sl.v t19_1), (VI t19_2), (Sl.v t19_3), (Sl.v t19_4), (Sl.v t19_5)] rfl rfl rfl (Nat.le_of_ble_eq_true rfl) (L' := [(b_3, [(Sl.v t19_1), (VI t19_2), (Sl.v t19_3), (Sl.v t19_4), (Sl.v t19_5)]), (b_2, [(Sl.v w1_1), (VI w1_2)]), (b_1, [(Sl.v g0_1)])]) rfl (fun h_6 hf_4 hL_6 => ?_)
    refine pop_field 3 fld81_3 b_3 0 ?_
    refine rop_loc one22 hL_6 0 rfl 4 (v := (Sl.v t19_5)) rfl ?_
    have H := H b_3 h_6 (Nat.le_trans (Fr.size (Fr.r (In []) _)) hb_4) (Fr.new (Fr.no' (Fr.r (In []) _) hf_3) (Nat.le_trans (Fr.size (Fr.r (In []) _)) hb_4) hf_4) hL_6
    exact H

/-! laws.toGraph -/
def u18 (P : Program) (a0_1 : Sl) (h : Heap) (K : Value → Heap → Prop) : Prop :=
  ∀ (b_1 : Nat) (b_2 : Nat) (b_3 : Nat) (h_3 : Heap), h.size ≤ b_1 → h.size ≤ b_2 → h.size ≤ b_3 → Fr (In []) h h_3 → Vars h_3 [(b_3, [(Sl.v nilSl)]), (b_2, [(Sl.v nilSl)]), (b_1, [(Sl.v a0_1)])] →
  callM P 68 #[(Sl.v a0_1)] h_3 fun rv_1 h_4 => ∃ t6_1 : Sl, rv_1 = (Sl.v t6_1) ∧ Vars h_4 [(b_3, [(Sl.v nilSl)]), (b_2, [(Sl.v nilSl)]), (b_1, [(Sl.v a0_1)])] ∧
  ∀ (h_6 : Heap), Fr (In [b_2, b_3]) h_4 h_6 → Vars h_6 [(b_3, [(Sl.v t6_1)]), (b_2, [(Sl.v t6_1)]), (b_1, [(Sl.v a0_1)])] →
  K (Value.agg #[(Sl.v t6_1)]) h_6
theorem v18 (a0_1 : Sl) (h : Heap) (K : Value → Heap → Prop) (H : u18 Try.prog a0_1 h K) : callM Try.prog 18 #[(Value.agg #[(Sl.v a0_1)])] h K := by
  refine c18 (Value.agg #[(Sl.v a0_1)]) h K ?_
  unfold u18 at H
  unfold t18
  have hL : Vars h [] := .nil
  refine eop_box 24 (Value.agg #[(Sl.v a0_1)]) rfl hL (fun b_1 h_1 hb_1 hf_1 hL_1 => ?_)
  refine eop_alloc 32 zer32 rfl hL_1 (fun b_2 h_2 hb_2 hf_2 hL_2 => ?_)
  refine eop_alloc 32 zer32 rfl hL_2 (fun b_3 h_3 hb_3 hf_3 hL_3 => ?_)
  refine pop_field 0 fld24_0 b_1 0 ?_
  refine rop_loc one22 hL_3 2 rfl 0 (v := (Sl.v a0_1)) rfl ?_
  have H := H b_1 b_2 b_3 h_3 (Nat.le_trans (Fr.size (Fr.r (In []) _)) hb_1) (Nat.le_trans (Fr.size (Fr.no' (Fr.r (In []) _) hf_1)) hb_2) (Nat.le_trans (Fr.size (Fr.no' (Fr.no' (Fr.r (In []) _) hf_1) hf_2)) hb_3) (Fr.no' (Fr.no' (Fr.no' (Fr.r (In []) _) hf_1) hf_2) hf_3) hL_3
  refine H.mono fun rv_1 h_4 H => ?_
  obtain ⟨t6_1, rfl, hL_4, H⟩ := H
  refine pop_field 0 fld32_0 b_3 0 ?_
  refine uop_loc siz22 hL_4 0 rfl 0 [(Sl.v t6_1)] rfl rfl rfl (Nat.le_of_ble_eq_true rfl) (L' := [(b_3, [(Sl.v t6_1)]), (b_2, [(Sl.v nilSl)]), (b_1, [(Sl.v a0_1)])]) rfl (fun h_5 hf_4 hL_5 => ?_)
  refine rop_locA agg32 hL_5 0 rfl 0 (vs := [(Sl.v t6_1)]) rfl rfl ?_
  refine uop_loc siz32 hL_5 1 rfl 0 [(Sl.v t6_1)] rfl rfl rfl (Nat.le_of_ble_eq_true rfl) (L' := [(b_3, [(Sl.v t6_1)]), (b_2, [(Sl.v t6_1)]), (b_1, [(Sl.v a0_1)])]) rfl (fun h_6 hf_5 hL_6 => ?_)
  refine rop_locA agg32 hL_6 1 rfl 0 (vs := [(Sl.v t6_1)]) rfl rfl ?_
  have H := H  h_6  (Fr.old (Fr.old (Fr.r (In []) _) hf_4) hf_5) hL_6
  exact H

/-! laws.toWalk -/
def u19 (P : Program) (a0_1 : Sl) (a0_2 : Int) (h : Heap) (K : Value → Heap → Prop) : Prop :=
  ∀ (b_1 : Nat) (b_2 : Nat) (b_3 : Nat) (h_3 : Heap), h.size ≤ b_1 → h.size ≤ b_2 → h.size ≤ b_3 → Fr (In []) h h_3 → Vars h_3 [(b_3, [(Sl.v nilSl), (VI 0)]), (b_2, [(Sl.v nilSl), (VI 0)]), (b_1, [(Sl.v a0_1), (VI a0_2)])] →
  callM P 42 #[(Sl.v a0_1)] h_3 fun rv_1 h_4 => ∃ t6_1 : Sl, rv_1 = (Sl.v t6_1) ∧ Vars h_4 [(b_3, [(Sl.v nilSl), (VI 0)]), (b_2, [(Sl.v nilSl), (VI 0)]), (b_1, [(Sl.v a0_1), (VI a0_2)])] ∧
  ∀ (h_7 : Heap), Fr (In [b_2, b_3, b_3]) h_4 h_7 → Vars h_7 [(b_3, [(Sl.v t6_1), (VI a0_2)]), (b_2, [(Sl.v t6_1), (VI a0_2)]), (b_1, [(Sl.v a0_1), (VI a0_2)])] →
  K (Value.agg #[(Sl.v t6_1), (VI a0_2)]) h_7
theorem v19 (a0_1 : Sl) (a0_2 : Int) (h : Heap) (K : Value → Heap → Prop) (H : u19 Try.prog a0_1 a0_2 h K) : callM Try.prog 19 #[(Value.agg #[(Sl.v a0_1), (VI a0_2)])] h K := by
  refine c19 (Value.agg #[(Sl.v a0_1), (VI a0_2)]) h K ?_
  unfold u19 at H
  unfold t19
  have hL : Vars h [] := .nil
  refine eop_box 27 (Value.agg #[(Sl.v a0_1), (VI a0_2)]) rfl hL (fun b_1 h_1 hb_1 hf_1 hL_1 => ?_)
  refine eop_alloc 34 zer34 rfl hL_1 (fun b_2 h_2 hb_2 hf_2 hL_2 => ?_)
  refine eop_alloc 34 zer34 rfl hL_2 (fun b_3 h_3 hb_3 hf_3 hL_3 => ?_)
  refine pop_field 0 fld27_0 b_1 0 ?_
  refine rop_loc one25 hL_3 2 rfl 0 (v := (Sl.v a0_1)) rfl ?_
  have H := H b_1 b_2 b_3 h_3 (Nat.le_trans (Fr.size (Fr.r (In []) _)) hb_1) (Nat.le_trans (Fr.size (Fr.no' (Fr.r (In []) _) hf_1)) hb_2) (Nat.le_trans (Fr.size (Fr.no' (Fr.no' (Fr.r (In []) _) hf_1) hf_2)) hb_3) (Fr.no' (Fr.no' (Fr.no' (Fr.r (In []) _) hf_1) hf_2) hf_3) hL_3
  refine H.mono fun rv_1 h_4 H => ?_
  obtain ⟨t6_1, rfl, hL_4, H⟩ := H
  refine pop_field 0 fld34_0 b_3 0 ?_
  refine uop_loc siz25 hL_4 0 rfl 0 [(Sl.v t6_1)] rfl rfl rfl (Nat.le_of_ble_eq_true rfl) (L' := [(b_3, [(Sl.v t6_1), (VI 0)]), (b_2, [(Sl.v nilSl), (VI 0)]), (b_1, [(Sl.v a0_1), (VI a0_2)])]) rfl (fun h_5 hf_4 hL_5 => ?_)
  refine pop_field 1 fld27_1 b_1 0 ?_
  refine rop_loc one3 hL_5 2 rfl 1 (v := (VI a0_2)) rfl ?_
  refine pop_field 1 fld34_1 b_3 0 ?_
  refine uop_loc siz3 hL_5 0 rfl 1 [(VI a0_2)] rfl rfl rfl (Nat.le_of_ble_eq_true rfl) (L' := [(b_3, [(Sl.v t6_1), (VI a0_2)]), (b_2, [(Sl.v nilSl), (VI 0)]), (b_1, [(Sl.v a0_1), (VI a0_2)])]) rfl (fun h_6 hf_5 hL_6 => ?_)
  refine rop_locA agg34 hL_6 0 rfl 0 (vs := [(Sl.v t6_1), (VI a0_2)]) rfl rfl ?_
  refine uop_loc siz34 hL_6 1 rfl 0 [(Sl.v t6_1), (VI a0_2)] rfl rfl rfl (Nat.le_of_ble_eq_true rfl) (L' := [(b_3, [(Sl.v t6_1), (VI a0_2)]), (b_2, [(Sl.v t6_1), (VI a0_2)]), (b_1, [(Sl.v a0_1), (VI a0_2)])]) rfl (fun h_7 hf_6 hL_7 => ?_)
  refine rop_locA agg34 hL_7 1 rfl 0 (vs := [(Sl.v t6_1), (VI a0_2)]) rfl rfl ?_
  have H := H  h_7  (Fr.old (Fr.old (Fr.old (Fr.r (In []) _) hf_4) hf_5) hf_6) hL_7
  exact H

/-! impl.UsesOf -/
def u20 (P : Program) (g0_1 : Sl) (w1_1 : Sl) (w1_2 : Int) (n2_1 : Int) (h : Heap) (K : Value → Heap → Prop) : Prop :=
  ∀ (b_1 : Nat) (b_2 : Nat) (h_2 : Heap), h.size ≤ b_1 → h.size ≤ b_2 → Fr (In []) h h_2 → Vars h_2 [(b_2, [(Sl.v w1_1), (VI w1_2)]), (b_1, [(Sl.v g0_1)])] →
  callM P 69 #[(Value.agg #[(Sl.v g0_1)]), (Value.agg #[(Sl.v w1_1), (VI w1_2)]), (VI n2_1), (VI 2000)] h_2 fun rv_1 h_3 => ∃ t13_1 : Bool, rv_1 = (VB t13_1) ∧ Vars h_3 [(b_2, [(Sl.v w1_1), (VI w1_2)]), (b_1, [(Sl.v g0_1)])] ∧
  ((!t13_1) = true →
  K (Value.tuple #[(Sl.v nilSl), (VB false)]) h_3) ∧
  ((!t13_1) = false →
  ∃ J_1 : Nat → Sl → Int → Nat → Sl → Heap → Prop, ((callM P 70 #[(Value.agg #[(Sl.v w1_1), (VI w1_2)])] h_3 fun rv_2 h_4 => ∃ t16_1 : Sl, ∃ t16_2 : Int, rv_2 = (Value.agg #[(Sl.v t16_1), (VI t16_2)]) ∧ Vars h_4 [(b_2, [(Sl.v w1_1), (VI w1_2)]), (b_1, [(Sl.v g0_1)])] ∧
  (callM P 71 #[(Value.agg #[(Sl.v g0_1)])] h_4 fun rv_3 h_5 => ∃ t18_1 : Sl, rv_3 = (Sl.v t18_1) ∧ Vars h_5 [(b_2, [(Sl.v w1_1), (VI w1_2)]), (b_1, [(Sl.v g0_1)])] ∧
  (∀ (b_5 : Nat) (b_6 : Nat) (h_9 : Heap), h_5.size ≤ b_5 → h_5.size ≤ b_6 → Fr (In []) h_5 h_9 → Vars h_9 [(b_6, [(Sl.v t18_1)]), (b_5, [(Sl.v t16_1), (VI t16_2)]), (b_2, [(Sl.v w1_1), (VI w1_2)]), (b_1, [(Sl.v g0_1)])] →
  J_1 b_5 t16_1 t16_2 b_6 t18_1 h_9) ∧
  (∀ (b_7 : Nat) (b_8 : Nat) (h_13 : Heap), h_5.size ≤ b_7 → h_5.size ≤ b_8 → Fr (In []) h_5 h_13 → Vars h_13 [(b_8, [(Sl.v t16_1), (VI t16_2)]), (b_7, [(Sl.v t18_1)]), (b_2, [(Sl.v w1_1), (VI w1_2)]), (b_1, [(Sl.v g0_1)])] →
  J_1 b_8 t16_1 t16_2 b_7 t18_1 h_13)) ∧
  (∀ (b_9 : Nat) (h_14 : Heap), h_4.size ≤ b_9 → Fr (In []) h_4 h_14 → Vars h_14 [(b_9, [(Sl.v nilSl), (VI 0)]), (b_2, [(Sl.v w1_1), (VI w1_2)]), (b_1, [(Sl.v g0_1)])] →
  (callM P 71 #[(Value.agg #[(Sl.v g0_1)])] h_14 fun rv_4 h_15 => ∃ t18_2 : Sl, rv_4 = (Sl.v t18_2) ∧ Vars h_15 [(b_9, [(Sl.v nilSl), (VI 0)]), (b_2, [(Sl.v w1_1), (VI w1_2)]), (b_1, [(Sl.v g0_1)])] ∧
  ∀ (b_10 : Nat) (h_18 : Heap), h_15.size ≤ b_10 → Fr (In [b_9]) h_15 h_18 → Vars h_18 [(b_10, [(Sl.v t18_2)]), (b_9, [(Sl.v t16_1), (VI t16_2)]), (b_2, [(Sl.v w1_1), (VI w1_2)]), (b_1, [(Sl.v g0_1)])] →
  J_1 b_9 t16_1 t16_2 b_10 t18_2 h_18) ∧
  (∀ (b_11 : Nat) (h_19 : Heap), h_14.size ≤ b_11 → Fr (In []) h_14 h_19 → Vars h_19 [(b_11, [(Sl.v nilSl)]), (b_9, [(Sl.v nilSl), (VI 0)]), (b_2, [(Sl.v w1_1), (VI w1_2)]), (b_1, [(Sl.v g0_1)])] →
  callM P 71 #[(Value.agg #[(Sl.v g0_1)])] h_19 fun rv_5 h_20 => ∃ t18_3 : Sl, rv_5 = (Sl.v t18_3) ∧ Vars h_20 [(b_11, [(Sl.v nilSl)]), (b_9, [(Sl.v nilSl), (VI 0)]), (b_2, [(Sl.v w1_1), (VI w1_2)]), (b_1, [(Sl.v g0_1)])] ∧
  ∀ (h_22 : Heap), Fr (In [b_11, b_9]) h_20 h_22 → Vars h_22 [(b_11, [(Sl.v t18_3)]), (b_9, [(Sl.v t16_1), (VI t16_2)]), (b_2, [(Sl.v w1_1), (VI w1_2)]), (b_1, [(Sl.v g0_1)])] →
  J_1 b_9 t16_1 t16_2 b_11 t18_3 h_22)) ∧
  (∀ (b_12 : Nat) (h_23 : Heap), h_4.size ≤ b_12 → Fr (In []) h_4 h_23 → Vars h_23 [(b_12, [(Sl.v nilSl)]), (b_2, [(Sl.v w1_1), (VI w1_2)]), (b_1, [(Sl.v g0_1)])] →
  (callM P 71 #[(Value.agg #[(Sl.v g0_1)])] h_23 fun rv_6 h_24 => ∃ t18_4 : Sl, rv_6 = (Sl.v t18_4) ∧ Vars h_24 [(b_12, [(Sl.v nilSl)]), (b_2, [(Sl.v w1_1), (VI w1_2)]), (b_1, [(Sl.v g0_1)])] ∧
  ∀ (b_13 : Nat) (h_27 : Heap), h_24.size ≤ b_13 → Fr (In [b_12]) h_24 h_27 → Vars h_27 [(b_13, [(Sl.v t16_1), (VI t16_2)]), (b_12, [(Sl.v t18_4)]), (b_2, [(Sl.v w1_1), (VI w1_2)]), (b_1, [(Sl.v g0_1)])] →
  J_1 b_13 t16_1 t16_2 b_12 t18_4 h_27) ∧
  (∀ (b_14 : Nat) (h_28 : Heap), h_23.size ≤ b_14 → Fr (In []) h_23 h_28 → Vars h_28 [(b_14, [(Sl.v nilSl), (VI 0)]), (b_12, [(Sl.v nilSl)]), (b_2, [(Sl.v w1_1), (VI w1_2)]), (b_1, [(Sl.v g0_1)])] →
  callM P 71 #[(Value.agg #[(Sl.v g0_1)])] h_28 fun rv_7 h_29 => ∃ t18_5 : Sl, rv_7 = (Sl.v t18_5) ∧ Vars h_29 [(b_14, [(Sl.v nilSl), (VI 0)]), (b_12, [(Sl.v nilSl)]), (b_2, [(Sl.v w1_1), (VI w1_2)]), (b_1, [(Sl.v g0_1)])] ∧
  ∀ (h_31 : Heap), Fr (In [b_12, b_14]) h_29 h_31 → Vars h_31 [(b_14, [(Sl.v t16_1), (VI t16_2)]), (b_12, [(Sl.v t18_5)]), (b_2, [(Sl.v w1_1), (VI w1_2)]), (b_1, [(Sl.v g0_1)])] →
  J_1 b_14 t16_1 t16_2 b_12 t18_5 h_31))) ∧
  (∀ (b_15 : Nat) (h_32 : Heap), h_3.size ≤ b_15 → Fr (In []) h_3 h_32 → Vars h_32 [(b_15, [(Sl.v nilSl), (VI 0)]), (b_2, [(Sl.v w1_1), (VI w1_2)]), (b_1, [(Sl.v g0_1)])] →
  (callM P 70 #[(Value.agg #[(Sl.v w1_1), (VI w1_2)])] h_32 fun rv_8 h_33 => ∃ t16_3 : Sl, ∃ t16_4 : Int, rv_8 = (Value.agg #[(Sl.v t16_3), (VI t16_4)]) ∧ Vars h_33 [(b_15, [(Sl.v nilSl), (VI 0)]), (b_2, [(Sl.v w1_1), (VI w1_2)]), (b_1, [(Sl.v g0_1)])] ∧
  (callM P 71 #[(Value.agg #[(Sl.v g0_1)])] h_33 fun rv_9 h_34 => ∃ t18_6 : Sl, rv_9 = (Sl.v t18_6) ∧ Vars h_34 [(b_15, [(Sl.v nilSl), (VI 0)]), (b_2, [(Sl.v w1_1), (VI w1_2)]), (b_1, [(Sl.v g0_1)])] ∧
  ∀ (b_16 : Nat) (h_37 : Heap), h_34.size ≤ b_16 → Fr (In [b_15]) h_34 h_37 → Vars h_37 [(b_16, [(Sl.v t18_6)]), (b_15, [(Sl.v t16_3), (VI t16_4)]), (b_2, [(Sl.v w1_1), (VI w1_2)]), (b_1, [(Sl.v g0_1)])] →
  J_1 b_15 t16_3 t16_4 b_16 t18_6 h_37) ∧
  (∀ (b_17 : Nat) (h_38 : Heap), h_33.size ≤ b_17 → Fr (In []) h_33 h_38 → Vars h_38 [(b_17, [(Sl.v nilSl)]), (b_15, [(Sl.v nilSl), (VI 0)]), (b_2, [(Sl.v w1_1), (VI w1_2)]), (b_1, [(Sl.v g0_1)])] →
  callM P 71 #[(Value.agg #[(Sl.v g0_1)])] h_38 fun rv_10 h_39 => ∃ t18_7 : Sl, rv_10 = (Sl.v t18_7) ∧ Vars h_39 [(b_17, [(Sl.v nilSl)]), (b_15, [(Sl.v nilSl), (VI 0)]), (b_2, [(Sl.v w1_1), (VI w1_2)]), (b_1, [(Sl.v g0_1)])] ∧
  ∀ (h_41 : Heap), Fr (In [b_17, b_15]) h_39 h_41 → Vars h_41 [(b_17, [(Sl.v t18_7)]), (b_15, [(Sl.v t16_3), (VI t16_4)]), (b_2, [(Sl.v w1_1), (VI w1_2)]), (b_1, [(Sl.v g0_1)])] →
  J_1 b_15 t16_3 t16_4 b_17 t18_7 h_41)) ∧
  (∀ (b_18 : Nat) (h_42 : Heap), h_32.size ≤ b_18 → Fr (In []) h_32 h_42 → Vars h_42 [(b_18, [(Sl.v nilSl)]), (b_15, [(Sl.v nilSl), (VI 0)]), (b_2, [(Sl.v w1_1), (VI w1_2)]), (b_1, [(Sl.v g0_1)])] →
  callM P 70 #[(Value.agg #[(Sl.v w1_1), (VI w1_2)])] h_42 fun rv_11 h_43 => ∃ t16_5 : Sl, ∃ t16_6 : Int, rv_11 = (Value.agg #[(Sl.v t16_5), (VI t16_6)]) ∧ Vars h_43 [(b_18, [(Sl.v nilSl)]), (b_15, [(Sl.v nilSl), (VI 0)]), (b_2, [(Sl.v w1_1), (VI w1_2)]), (b_1, [(Sl.v g0_1)])] ∧
  callM P 71 #[(Value.agg #[(Sl.v g0_1)])] h_43 fun rv_12 h_44 => ∃ t18_8 : Sl, rv_12 = (Sl.v t18_8) ∧ Vars h_44 [(b_18, [(Sl.v nilSl)]), (b_15, [(Sl.v nilSl), (VI 0)]), (b_2, [(Sl.v w1_1), (VI w1_2)]), (b_1, [(Sl.v g0_1)])] ∧
  ∀ (h_46 : Heap), Fr (In [b_18, b_15]) h_44 h_46 → Vars h_46 [(b_18, [(Sl.v t18_8)]), (b_15, [(Sl.v t16_5), (VI t16_6)]), (b_2, [(Sl.v w1_1), (VI w1_2)]), (b_1, [(Sl.v g0_1)])] →
  J_1 b_15 t16_5 t16_6 b_18 t18_8 h_46)) ∧
  (∀ (b_19 : Nat) (h_47 : Heap), h_3.size ≤ b_19 → Fr (In []) h_3 h_47 → Vars h_47 [(b_19, [(Sl.v nilSl)]), (b_2, [(Sl.v w1_1), (VI w1_2)]), (b_1, [(Sl.v g0_1)])] →
  (callM P 70 #[(Value.agg #[(Sl.v w1_1), (VI w1_2)])] h_47 fun rv_13 h_48 => ∃ t16_7 : Sl, ∃ t16_8 : Int, rv_13 = (Value.agg #[(Sl.v t16_7), (VI t16_8)]) ∧ Vars h_48 [(b_19, [(Sl.v nilSl)]), (b_2, [(Sl.v w1_1), (VI w1_2)]), (b_1, [(Sl.v g0_1)])] ∧
  (callM P 71 #[(Value.agg #[(Sl.v g0_1)])] h_48 fun rv_14 h_49 => ∃ t18_9 : Sl, rv_14 = (Sl.v t18_9) ∧ Vars h_49 [(b_19, [(Sl.v nilSl)]), (b_2, [(Sl.v w1_1), (VI w1_2)]), (b_1, [(Sl.v g0_1)])] ∧
  ∀ (b_20 : Nat) (h_52 : Heap), h_49.size ≤ b_20 → Fr (In [b_19]) h_49 h_52 → Vars h_52 [(b_20, [(Sl.v t16_7), (VI t16_8)]), (b_19, [(Sl.v t18_9)]), (b_2, [(Sl.v w1_1), (VI w1_2)]), (b_1, [(Sl.v g0_1)])] →
  J_1 b_20 t16_7 t16_8 b_19 t18_9 h_52) ∧
  (∀ (b_21 : Nat) (h_53 : Heap), h_48.size ≤ b_21 → Fr (In []) h_48 h_53 → Vars h_53 [(b_21, [(Sl.v nilSl), (VI 0)]), (b_19, [(Sl.v nilSl)]), (b_2, [(Sl.v w1_1), (VI w1_2)]), (b_1, [(Sl.v g0_1)])] →
  callM P 71 #[(Value.agg #[(Sl.v g0_1)])] h_53 fun rv_15 h_54 => ∃ t18_10 : Sl, rv_15 = (Sl.v t18_10) ∧ Vars h_54 [(b_21, [(Sl.v nilSl), (VI 0)]), (b_19, [(Sl.v nilSl)]), (b_2, [(Sl.v w1_1), (VI w1_2)]), (b_1, [(Sl.v g0_1)])] ∧
  ∀ (h_56 : Heap), Fr (In [b_19, b_21]) h_54 h_56 → Vars h_56 [(b_21, [(Sl.v t16_7), (VI t16_8)]), (b_19, [(Sl.v t18_10)]), (b_2, [(Sl.v w1_1), (VI w1_2)]), (b_1, [(Sl.v g0_1)])] →
  J_1 b_21 t16_7 t16_8 b_19 t18_10 h_56)) ∧
  (∀ (b_22 : Nat) (h_57 : Heap), h_47.size ≤ b_22 → Fr (In []) h_47 h_57 → Vars h_57 [(b_22, [(Sl.v nilSl), (VI 0)]), (b_19, [(Sl.v nilSl)]), (b_2, [(Sl.v w1_1), (VI w1_2)]), (b_1, [(Sl.v g0_1)])] →
  callM P 70 #[(Value.agg #[(Sl.v w1_1), (VI w1_2)])] h_57 fun rv_16 h_58 => ∃ t16_9 : Sl, ∃ t16_10 : Int, rv_16 = (Value.agg #[(Sl.v t16_9), (VI t16_10)]) ∧ Vars h_58 [(b_22, [(Sl.v nilSl), (VI 0)]), (b_19, [(Sl.v nilSl)]), (b_2, [(Sl.v w1_1), (VI w1_2)]), (b_1, [(Sl.v g0_1)])] ∧
  callM P 71 #[(Value.agg #[(Sl.v g0_1)])] h_58 fun rv_17 h_59 => ∃ t18_11 : Sl, rv_17 = (Sl.v t18_11) ∧ Vars h_59 [(b_22, [(Sl.v nilSl), (VI 0)]), (b_19, [(Sl.v nilSl)]), (b_2, [(Sl.v w1_1), (VI w1_2)]), (b_1, [(Sl.v g0_1)])] ∧
  ∀ (h_61 : Heap), Fr (In [b_19, b_22]) h_59 h_61 → Vars h_61 [(b_22, [(Sl.v t16_9), (VI t16_10)]), (b_19, [(Sl.v t18_11)]), (b_2, [(Sl.v w1_1), (VI w1_2)]), (b_1, [(Sl.v g0_1)])] →
  J_1 b_22 t16_9 t16_10 b_19 t18_11 h_61))) ∧
  ∀ (b_3 : Nat) (x_1 : Sl) (x_2 : Int) (b_4 : Nat) (x_3 : Sl) (h_62 : Heap), J_1 b_3 x_1 x_2 b_4 x_3 h_62 → Vars h_62 [(b_4, [(Sl.v x_3)]), (b_3, [(Sl.v x_1), (VI x_2)]), (b_2, [(Sl.v w1_1), (VI w1_2)]), (b_1, [(Sl.v g0_1)])] →
  callM P 72 #[(Value.agg #[(Sl.v g0_1)]), (VP b_3 0), (VI n2_1), (Value.func (Fn.func 73) #[] #[(VP b_4 0), (VP b_3 0)])] h_62 fun rv_18 h_63 => ∃ x_4 : Sl, ∃ x_5 : Sl, ∃ x_6 : Int, ∃ t22_1 : Bool, rv_18 = (VB t22_1) ∧ Vars h_63 [(b_4, [(Sl.v x_4)]), (b_3, [(Sl.v x_5), (VI x_6)]), (b_2, [(Sl.v w1_1), (VI w1_2)]), (b_1, [(Sl.v g0_1)])] ∧
  ((!t22_1) = true →
  K (Value.tuple #[(Sl.v nilSl), (VB false)]) h_63) ∧
  ((!t22_1) = false →
  K (Value.tuple #[(Sl.v x_4), (VB true)]) h_63))
theorem v20 (g0_1 : Sl) (w1_1 : Sl) (w1_2 : Int) (n2_1 : Int) (h : Heap) (K : Value → Heap → Prop) (H : u20 Try.prog g0_1 w1_1 w1_2 n2_1 h K) : callM Try.prog 20 #[(Value.agg #[(Sl.v g0_1)]), (Value.agg #[(Sl.v w1_1), (VI w1_2)]), (VI n2_1)] h K := by
  refine c20 (Value.agg #[(Sl.v g0_1)]) (Value.agg #[(Sl.v w1_1), (VI w1_2)]) (VI n2_1) h K ?_
  unfold u20 at H
  unfold t20
  have hL : Vars h [] := .nil
  refine eop_box 32 (Value.agg #[(Sl.v g0_1)]) rfl hL (fun b_1 h_1 hb_1 hf_1 hL_1 => ?_)
  refine eop_box 34 (Value.agg #[(Sl.v w1_1), (VI w1_2)]) rfl hL_1 (fun b_2 h_2 hb_2 hf_2 hL_2 => ?_)
  refine rop_locA agg32 hL_2 1 rfl 0 (vs := [(Sl.v g0_1)]) rfl rfl ?_
  refine rop_locA agg34 hL_2 0 rfl 0 (vs := [(Sl.v w1_1), (VI w1_2)]) rfl rfl ?_
  have H := H b_1 b_2 h_2 (Nat.le_trans (Fr.size (Fr.r (In []) _)) hb_1) (Nat.le_trans (Fr.size (Fr.no' (Fr.r (In []) _) hf_1)) hb_2) (Fr.no' (Fr.no' (Fr.r (In []) _) hf_1) hf_2) hL_2
  refine H.mono fun rv_1 h_3 H => ?_
  obtain ⟨t13_1, rfl, hL_3, H⟩ := H
  refine pop_not t13_1 ?_
  refine condM_b (fun hb_3 => ?_) (fun hb_3 => ?_)
  · have H := H.1 hb_3
    exact H
  · have H := H.2 hb_3
    obtain ⟨J_1, H, HB_1⟩ := H
    refine ⟨fun (vs : List Value) (h' : Heap) => ∃ b_3 : Nat, ∃ x_1 : Sl, ∃ x_2 : Int, ∃ b_4 : Nat, ∃ x_3 : Sl, vs = [(VP b_3 0), (VP b_4 0)] ∧ J_1 b_3 x_1 x_2 b_4 x_3 h' ∧ Vars h' [(b_4, [(Sl.v x_3)]), (b_3, [(Sl.v x_1), (VI x_2)]), (b_2, [(Sl.v w1_1), (VI w1_2)]), (b_1, [(Sl.v g0_1)])], ?_, ?_⟩
    · refine rop_locA agg34 hL_3 0 rfl 0 (vs := [(Sl.v w1_1), (VI w1_2)]) rfl rfl ?_
      refine rop_locA agg32 hL_3 1 rfl 0 (vs := [(Sl.v g0_1)]) rfl rfl ?_
      refine ⟨?_, ?_, ?_⟩
      · have H := H.1
        refine H.mono fun rv_2 h_4 H => ?_
        obtain ⟨t16_1, t16_2, rfl, hL_4, H⟩ := H
        refine ⟨?_, ?_⟩
        · exact still_locA agg32 hL_4 1 rfl 0 (vs := [(Sl.v g0_1)]) rfl rfl
        refine ⟨?_, ?_, ?_⟩
        · have H := H.1
          refine H.mono fun rv_3 h_5 H => ?_
          obtain ⟨t18_1, rfl, hL_5, H⟩ := H
          refine ⟨?_, ?_⟩
          · have H := H.1
            refine eop_alloc 34 zer34 rfl hL_5 (fun b_5 h_6 hb_4 hf_3 hL_6 => ?_)
            refine eop_alloc 22 zer22 rfl hL_6 (fun b_6 h_7 hb_5 hf_4 hL_7 => ?_)
            refine uop_loc siz34 hL_7 1 rfl 0 [(Sl.v t16_1), (VI t16_2)] rfl rfl rfl (Nat.le_of_ble_eq_true rfl) (L' := [(b_6, [(Sl.v nilSl)]), (b_5, [(Sl.v t16_1), (VI t16_2)]), (b_2, [(Sl.v w1_1), (VI w1_2)]), (b_1, [(Sl.v g0_1)])]) rfl (fun h_8 hf_5 hL_8 => ?_)
            refine uop_loc siz22 hL_8 0 rfl 0 [(Sl.v t18_1)] rfl rfl rfl (Nat.le_of_ble_eq_true rfl) (L' := [(b_6, [(Sl.v t18_1)]), (b_5, [(Sl.v t16_1), (VI t16_2)]), (b_2, [(Sl.v w1_1), (VI w1_2)]), (b_1, [(Sl.v g0_1)])]) rfl (fun h_9 hf_6 hL_9 => ?_)
            have H := H b_5 b_6 h_9 (Nat.le_trans (Fr.size (Fr.r (In []) _)) hb_4) (Nat.le_trans (Fr.size (Fr.no' (Fr.r (In []) _) hf_3)) hb_5) (Fr.new (Fr.new (Fr.no' (Fr.no' (Fr.r (In []) _) hf_3) hf_4) (Nat.le_trans (Fr.size (Fr.r (In []) _)) hb_4) hf_5) (Nat.le_trans (Fr.size (Fr.no' (Fr.r (In []) _) hf_3)) hb_5) hf_6) hL_9
            exact ⟨b_5, t16_1, t16_2, b_6, t18_1, rfl, H, hL_9⟩
          · have H := H.2
            refine eop_alloc 22 zer22 rfl hL_5 (fun b_7 h_10 hb_6 hf_7 hL_10 => ?_)
            refine eop_alloc 34 zer34 rfl hL_10 (fun b_8 h_11 hb_7 hf_8 hL_11 => ?_)
            refine uop_loc siz34 hL_11 0 rfl 0 [(Sl.v t16_1), (VI t16_2)] rfl rfl rfl (Nat.le_of_ble_eq_true rfl) (L' := [(b_8, [(Sl.v t16_1), (VI t16_2)]), (b_7, [(Sl.v nilSl)]), (b_2, [(Sl.v w1_1), (VI w1_2)]), (b_1, [(Sl.v g0_1)])]) rfl (fun h_12 hf_9 hL_12 => ?_)
            refine uop_loc siz22 hL_12 1 rfl 0 [(Sl.v t18_1)] rfl rfl rfl (Nat.le_of_ble_eq_true rfl) (L' := [(b_8, [(Sl.v t16_1), (VI t16_2)]), (b_7, [(Sl.v t18_1)]), (b_2, [(Sl.v w1_1), (VI w1_2)]), (b_1, [(Sl.v g0_1)])]) rfl (fun h_13 hf_10 hL_13 => ?_)
            have H := H b_7 b_8 h_13 (Nat.le_trans (Fr.size (Fr.r (In []) _)) hb_6) (Nat.le_trans (Fr.size (Fr.no' (Fr.r (In []) _) hf_7)) hb_7) (Fr.new (Fr.new (Fr.no' (Fr.no' (Fr.r (In []) _) hf_7) hf_8) (Nat.le_trans (Fr.size (Fr.no' (Fr.r (In []) _) hf_7)) hb_7) hf_9) (Nat.le_trans (Fr.size (Fr.r (In []) _)) hb_6) hf_10) hL_13
            exact ⟨b_8, t16_1, t16_2, b_7, t18_1, rfl, H, Vars.pick hL_13 [1, 0, 2, 3] rfl⟩
        · have H := H.2.1
          refine eop_alloc 34 zer34 rfl hL_4 (fun b_9 h_14 hb_8 hf_11 hL_14 => ?_)
          have H := H b_9 h_14 (Nat.le_trans (Fr.size (Fr.r (In []) _)) hb_8) (Fr.no' (Fr.r (In []) _) hf_11) hL_14
          refine ⟨?_, ?_⟩
          · exact still_locA agg32 hL_14 2 rfl 0 (vs := [(Sl.v g0_1)]) rfl rfl
          refine ⟨?_, ?_⟩
          · have H := H.1
            refine H.mono fun rv_4 h_15 H => ?_
            obtain ⟨t18_2, rfl, hL_15, H⟩ := H
            refine eop_alloc 22 zer22 rfl hL_15 (fun b_10 h_16 hb_9 hf_12 hL_16 => ?_)
            refine uop_loc siz34 hL_16 1 rfl 0 [(Sl.v t16_1), (VI t16_2)] rfl rfl rfl (Nat.le_of_ble_eq_true rfl) (L' := [(b_10, [(Sl.v nilSl)]), (b_9, [(Sl.v t16_1), (VI t16_2)]), (b_2, [(Sl.v w1_1), (VI w1_2)]), (b_1, [(Sl.v g0_1)])]) rfl (fun h_17 hf_13 hL_17 => ?_)
            refine uop_loc siz22 hL_17 0 rfl 0 [(Sl.v t18_2)] rfl rfl rfl (Nat.le_of_ble_eq_true rfl) (L' := [(b_10, [(Sl.v t18_2)]), (b_9, [(Sl.v t16_1), (VI t16_2)]), (b_2, [(Sl.v w1_1), (VI w1_2)]), (b_1, [(Sl.v g0_1)])]) rfl (fun h_18 hf_14 hL_18 => ?_)
            have H := H b_10 h_18 (Nat.le_trans (Fr.size (Fr.r (In []) _)) hb_9) (Fr.new (Fr.old (Fr.no' (Fr.r (In []) _) hf_12) hf_13) (Nat.le_trans (Fr.size (Fr.r (In []) _)) hb_9) hf_14) hL_18
            exact ⟨b_9, t16_1, t16_2, b_10, t18_2, rfl, H, hL_18⟩
          · have H := H.2
            refine eop_alloc 22 zer22 rfl hL_14 (fun b_11 h_19 hb_10 hf_15 hL_19 => ?_)
            have H := H b_11 h_19 (Nat.le_trans (Fr.size (Fr.r (In []) _)) hb_10) (Fr.no' (Fr.r (In []) _) hf_15) hL_19
            refine ⟨?_, ?_⟩
            · exact still_locA agg32 hL_19 3 rfl 0 (vs := [(Sl.v g0_1)]) rfl rfl
            refine H.mono fun rv_5 h_20 H => ?_
            obtain ⟨t18_3, rfl, hL_20, H⟩ := H
            refine uop_loc siz34 hL_20 1 rfl 0 [(Sl.v t16_1), (VI t16_2)] rfl rfl rfl (Nat.le_of_ble_eq_true rfl) (L' := [(b_11, [(Sl.v nilSl)]), (b_9, [(Sl.v t16_1), (VI t16_2)]), (b_2, [(Sl.v w1_1), (VI w1_2)]), (b_1, [(Sl.v g0_1)])]) rfl (fun h_21 hf_16 hL_21 => ?_)
            refine uop_loc siz22 hL_21 0 rfl 0 [(Sl.v t18_3)] rfl rfl rfl (Nat.le_of_ble_eq_true rfl) (L' := [(b_11, [(Sl.v t18_3)]), (b_9, [(Sl.v t16_1), (VI t16_2)]), (b_2, [(Sl.v w1_1), (VI w1_2)]), (b_1, [(Sl.v g0_1)])]) rfl (fun h_22 hf_17 hL_22 => ?_)
            have H := H  h_22  (Fr.old (Fr.old (Fr.r (In []) _) hf_16) hf_17) hL_22
            exact ⟨b_9, t16_1, t16_2, b_11, t18_3, rfl, H, hL_22⟩
        · have H := H.2.2
          refine eop_alloc 22 zer22 rfl hL_4 (fun b_12 h_23 hb_11 hf_18 hL_23 => ?_)
          have H := H b_12 h_23 (Nat.le_trans (Fr.size (Fr.r (In []) _)) hb_11) (Fr.no' (Fr.r (In []) _) hf_18) hL_23
          refine ⟨?_, ?_⟩
          · exact still_locA agg32 hL_23 2 rfl 0 (vs := [(Sl.v g0_1)]) rfl rfl
          refine ⟨?_, ?_⟩
          · have H := H.1
            refine H.mono fun rv_6 h_24 H => ?_
            obtain ⟨t18_4, rfl, hL_24, H⟩ := H
            refine eop_alloc 34 zer34 rfl hL_24 (fun b_13 h_25 hb_12 hf_19 hL_25 => ?_)
            refine uop_loc siz34 hL_25 0 rfl 0 [(Sl.v t16_1), (VI t16_2)] rfl rfl rfl (Nat.le_of_ble_eq_true rfl) (L' := [(b_13, [(Sl.v t16_1), (VI t16_2)]), (b_12, [(Sl.v nilSl)]), (b_2, [(Sl.v w1_1), (VI w1_2)]), (b_1, [(Sl.v g0_1)])]) rfl (fun h_26 hf_20 hL_26 => ?_)
            refine uop_loc siz22 hL_26 1 rfl 0 [(Sl.v t18_4)] rfl rfl rfl (Nat.le_of_ble_eq_true rfl) (L' := [(b_13, [(Sl.v t16_1), (VI t16_2)]), (b_12, [(Sl.v t18_4)]), (b_2, [(Sl.v w1_1), (VI w1_2)]), (b_1, [(Sl.v g0_1)])]) rfl (fun h_27 hf_21 hL_27 => ?_)
            have H := H b_13 h_27 (Nat.le_trans (Fr.size (Fr.r (In []) _)) hb_12) (Fr.old (Fr.new (Fr.no' (Fr.r (In []) _) hf_19) (Nat.le_trans (Fr.size (Fr.r (In []) _)) hb_12) hf_20) hf_21) hL_27
            exact ⟨b_13, t16_1, t16_2, b_12, t18_4, rfl, H, Vars.pick hL_27 [1, 0, 2, 3] rfl⟩
          · have H := H.2
            refine eop_alloc 34 zer34 rfl hL_23 (fun b_14 h_28 hb_13 hf_22 hL_28 => ?_)
            have H := H b_14 h_28 (Nat.le_trans (Fr.size (Fr.r (In []) _)) hb_13) (Fr.no' (Fr.r (In []) _) hf_22) hL_28
            refine ⟨?_, ?_⟩
            · exact still_locA agg32 hL_28 3 rfl 0 (vs := [(Sl.v g0_1)]) rfl rfl
            refine H.mono fun rv_7 h_29 H => ?_
            obtain ⟨t18_5, rfl, hL_29, H⟩ := H
            refine uop_loc siz34 hL_29 0 rfl 0 [(Sl.v t16_1), (VI t16_2)] rfl rfl rfl (Nat.le_of_ble_eq_true rfl) (L' := [(b_14, [(Sl.v t16_1), (VI t16_2)]), (b_12, [(Sl.v nilSl)]), (b_2, [(Sl.v w1_1), (VI w1_2)]), (b_1, [(Sl.v g0_1)])]) rfl (fun h_30 hf_23 hL_30 => ?_)
            refine uop_loc siz22 hL_30 1 rfl 0 [(Sl.v t18_5)] rfl rfl rfl (Nat.le_of_ble_eq_true rfl) (L' := [(b_14, [(Sl.v t16_1), (VI t16_2)]), (b_12, [(Sl.v t18_5)]), (b_2, [(Sl.v w1_1), (VI w1_2)]), (b_1, [(Sl.v g0_1)])]) rfl (fun h_31 hf_24 hL_31 => ?_)
            have H := H  h_31  (Fr.old (Fr.old (Fr.r (In []) _) hf_23) hf_24) hL_31
            exact ⟨b_14, t16_1, t16_2, b_12, t18_5, rfl, H, Vars.pick hL_31 [1, 0, 2, 3] rfl⟩
      · have H := H.2.1
        refine eop_alloc 34 zer34 rfl hL_3 (fun b_15 h_32 hb_14 hf_25 hL_32 => ?_)
        have H := H b_15 h_32 (Nat.le_trans (Fr.size (Fr.r (In []) _)) hb_14) (Fr.no' (Fr.r (In []) _) hf_25) hL_32
        refine ⟨?_, ?_⟩
        · exact still_locA agg32 hL_32 2 rfl 0 (vs := [(Sl.v g0_1)]) rfl rfl
        refine ⟨?_, ?_⟩
        · exact still_locA agg34 hL_32 1 rfl 0 (vs := [(Sl.v w1_1), (VI w1_2)]) rfl rfl
        refine ⟨?_, ?_⟩
        · have H := H.1
          refine H.mono fun rv_8 h_33 H => ?_
          obtain ⟨t16_3, t16_4, rfl, hL_33, H⟩ := H
          refine ⟨?_, ?_⟩
          · exact still_locA agg32 hL_33 2 rfl 0 (vs := [(Sl.v g0_1)]) rfl rfl
          refine ⟨?_, ?_⟩
          · have H := H.1
            refine H.mono fun rv_9 h_34 H => ?_
            obtain ⟨t18_6, rfl, hL_34, H⟩ := H
            refine eop_alloc 22 zer22 rfl hL_34 (fun b_16 h_35 hb_15 hf_26 hL_35 => ?_)
            refine uop_loc siz34 hL_35 1 rfl 0 [(Sl.v t16_3), (VI t16_4)] rfl rfl rfl (Nat.le_of_ble_eq_true rfl) (L' := [(b_16, [(Sl.v nilSl)]), (b_15, [(Sl.v t16_3), (VI t16_4)]), (b_2, [(Sl.v w1_1), (VI w1_2)]), (b_1, [(Sl.v g0_1)])]) rfl (fun h_36 hf_27 hL_36 => ?_)
            refine uop_loc siz22 hL_36 0 rfl 0 [(Sl.v t18_6)] rfl rfl rfl (Nat.le_of_ble_eq_true rfl) (L' := [(b_16, [(Sl.v t18_6)]), (b_15, [(Sl.v t16_3), (VI t16_4)]), (b_2, [(Sl.v w1_1), (VI w1_2)]), (b_1, [(Sl.v g0_1)])]) rfl (fun h_37 hf_28 hL_37 => ?_)
            have H := H b_16 h_37 (Nat.le_trans (Fr.size (Fr.r (In []) _)) hb_15) (Fr.new (Fr.old (Fr.no' (Fr.r (In []) _) hf_26) hf_27) (Nat.le_trans (Fr.size (Fr.r (In []) _)) hb_15) hf_28) hL_37
            exact ⟨b_15, t16_3, t16_4, b_16, t18_6, rfl, H, hL_37⟩
          · have H := H.2
            refine eop_alloc 22 zer22 rfl hL_33 (fun b_17 h_38 hb_16 hf_29 hL_38 => ?_)
            have H := H b_17 h_38 (Nat.le_trans (Fr.size (Fr.r (In []) _)) hb_16) (Fr.no' (Fr.r (In []) _) hf_29) hL_38
            refine ⟨?_, ?_⟩
            · exact still_locA agg32 hL_38 3 rfl 0 (vs := [(Sl.v g0_1)]) rfl rfl
            refine H.mono fun rv_10 h_39 H => ?_
            obtain ⟨t18_7, rfl, hL_39, H⟩ := H
            refine uop_loc siz34 hL_39 1 rfl 0 [(Sl.v t16_3), (VI t16_4)] rfl rfl rfl (Nat.le_of_ble_eq_true rfl) (L' := [(b_17, [(Sl.v nilSl)]), (b_15, [(Sl.v t16_3), (VI t16_4)]), (b_2, [(Sl.v w1_1), (VI w1_2)]), (b_1, [(Sl.v g0_1)])]) rfl (fun h_40 hf_30 hL_40 => ?_)
            refine uop_loc siz22 hL_40 0 rfl 0 [(Sl.v t18_7)] rfl rfl rfl (Nat.le_of_ble_eq_true rfl) (L' := [(b_17, [(Sl.v t18_7)]), (b_15, [(Sl.v t16_3), (VI t16_4)]), (b_2, [(Sl.v w1_1), (VI w1_2)]), (b_1, [(Sl.v g0_1)])]) rfl (fun h_41 hf_31 hL_41 => ?_)
            have H := H  h_41  (Fr.old (Fr.old (Fr.r (In []) _) hf_30) hf_31) hL_41
            exact ⟨b_15, t16_3, t16_4, b_17, t18_7, rfl, H, hL_41⟩
        · have H := H.2
          refine eop_alloc 22 zer22 rfl hL_32 (fun b_18 h_42 hb_17 hf_32 hL_42 => ?_)
          have H := H b_18 h_42 (Nat.le_trans (Fr.size (Fr.r (In []) _)) hb_17) (Fr.no' (Fr.r (In []) _) hf_32) hL_42
          refine ⟨?_, ?_⟩
          · exact still_locA agg32 hL_42 3 rfl 0 (vs := [(Sl.v g0_1)]) rfl rfl
          refine ⟨?_, ?_⟩
          · exact still_locA agg34 hL_42 2 rfl 0 (vs := [(Sl.v w1_1), (VI w1_2)]) rfl rfl
          refine H.mono fun rv_11 h_43 H => ?_
          obtain ⟨t16_5, t16_6, rfl, hL_43, H⟩ := H
          refine ⟨?_, ?_⟩
          · exact still_locA agg32 hL_43 3 rfl 0 (vs := [(Sl.v g0_1)]) rfl rfl
          refine H.mono fun rv_12 h_44 H => ?_
          obtain ⟨t18_8, rfl, hL_44, H⟩ := H
          refine uop_loc siz34 hL_44 1 rfl 0 [(Sl.v t16_5), (VI t16_6)] rfl rfl rfl (Nat.le_of_ble_eq_true rfl) (L' := [(b_18, [(Sl.v nilSl)]), (b_15, [(Sl.v t16_5), (VI t16_6)]), (b_2, [(Sl.v w1_1), (VI w1_2)]), (b_1, [(Sl.v g0_1)])]) rfl (fun h_45 hf_33 hL_45 => ?_)
          refine uop_loc siz22 hL_45 0 rfl 0 [(Sl.v t18_8)] rfl rfl rfl (Nat.le_of_ble_eq_true rfl) (L' := [(b_18, [(Sl.v t18_8)]), (b_15, [(Sl.v t16_5), (VI t16_6)]), (b_2, [(Sl.v w1_1), (VI w1_2)]), (b_1, [(Sl.v g0_1)])]) rfl (fun h_46 hf_34 hL_46 => ?_)
          have H := H  h_46  (Fr.old (Fr.old (Fr.r (In []) _) hf_33) hf_34) hL_46
          exact ⟨b_15, t16_5, t16_6, b_18, t18_8, rfl, H, hL_46⟩
      · have H := H.2.2
        refine eop_alloc 22 zer22 rfl hL_3 (fun b_19 h_47 hb_18 hf_35 hL_47 => ?_)
        have H := H b_19 h_47 (Nat.le_trans (Fr.size (Fr.r (In []) _)) hb_18) (Fr.no' (Fr.r (In []) _) hf_35) hL_47
        refine ⟨?_, ?_⟩
        · exact still_locA agg32 hL_47 2 rfl 0 (vs := [(Sl.v g0_1)]) rfl rfl
        refine ⟨?_, ?_⟩
        · exact still_locA agg34 hL_47 1 rfl 0 (vs := [(Sl.v w1_1), (VI w1_2)]) rfl rfl
        refine ⟨?_, ?_⟩
        · have H := H.1
          refine H.mono fun rv_13 h_48 H => ?_
          obtain ⟨t16_7, t16_8, rfl, hL_48, H⟩ := H
          refine ⟨?_, ?_⟩
          · exact still_locA agg32 hL_48 2 rfl 0 (vs := [(Sl.v g0_1)]) rfl rfl
          refine ⟨?_, ?_⟩
          · have H := H.1
            refine H.mono fun rv_14 h_49 H => ?_
            obtain ⟨t18_9, rfl, hL_49, H⟩ := H
            refine eop_alloc 34 zer34 rfl hL_49 (fun b_20 h_50 hb_19 hf_36 hL_50 => ?_)
            refine uop_loc siz34 hL_50 0 rfl 0 [(Sl.v t16_7), (VI t16_8)] rfl rfl rfl (Nat.le_of_ble_eq_true rfl) (L' := [(b_20, [(Sl.v t16_7), (VI t16_8)]), (b_19, [(Sl.v nilSl)]), (b_2, [(Sl.v w1_1), (VI w1_2)]), (b_1, [(Sl.v g0_1)])]) rfl (fun h_51 hf_37 hL_51 => ?_)
            refine uop_loc siz22 hL_51 1 rfl 0 [(Sl.v t18_9)] rfl rfl rfl (Nat.le_of_ble_eq_true rfl) (L' := [(b_20, [(Sl.v t16_7), (VI t16_8)]), (b_19, [(Sl.v t18_9)]), (b_2, [(Sl.v w1_1), (VI w1_2)]), (b_1, [(Sl.v g0_1)])]) rfl (fun h_52 hf_38 hL_52 => ?_)
            have H := H b_20 h_52 (Nat.le_trans (Fr.size (Fr.r (In []) _)) hb_19) (Fr.old (Fr.new (Fr.no' (Fr.r (In []) _) hf_36) (Nat.le_trans (Fr.size (Fr.r (In []) _)) hb_19) hf_37) hf_38) hL_52
            exact ⟨b_20, t16_7, t16_8, b_19, t18_9, rfl, H, Vars.pick hL_52 [1, 0, 2, 3] rfl⟩
          · have H := H.2
            refine eop_alloc 34 zer34 rfl hL_48 (fun b_21 h_53 hb_20 hf_39 hL_53 => ?_)
            have H := H b_21 h_53 (Nat.le_trans (Fr.size (Fr.r (In []) _)) hb_20) (Fr.no' (Fr.r (In []) _) hf_39) hL_53
            refine ⟨?_, ?_⟩
            · exact still_locA agg32 hL_53 3 rfl 0 (vs := [(Sl.v g0_1)]) rfl rfl
            refine H.mono fun rv_15 h_54 H => ?_
            obtain ⟨t18_10, rfl, hL_54, H⟩ := H
            refine uop_loc siz34 hL_54 0 rfl 0 [(Sl.v t16_7), (VI t16_8)] rfl rfl rfl (Nat.le_of_ble_eq_true rfl) (L' := [(b_21, [(Sl.v t16_7), (VI t16_8)]), (b_19, [(Sl.v nilSl)]), (b_2, [(Sl.v w1_1), (VI w1_2)]), (b_1, [(Sl.v g0_1)])]) rfl (fun h_55 hf_40 hL_55 => ?_)
            refine uop_loc siz22 hL_55 1 rfl 0 [(Sl.v t18_10)] rfl rfl rfl (Nat.le_of_ble_eq_true rfl) (L' := [(b_21, [(Sl.v t16_7), (VI t16_8)]), (b_19, [(Sl.v t18_10)]), (b_2, [(Sl.v w1_1), (VI w1_2)]), (b_1, [(Sl.v g0_1)])]) rfl (fun h_56 hf_41 hL_56 => ?_)
            have H := H  h_56  (Fr.old (Fr.old (Fr.r (In []) _) hf_40) hf_41) hL_56
            exact ⟨b_21, t16_7, t16_8, b_19, t18_10, rfl, H, Vars.pick hL_56 [1, 0, 2, 3] rfl⟩
        · have H := H.2
          refine eop_alloc 34 zer34 rfl hL_47 (fun b_22 h_57 hb_21 hf_42 hL_57 => ?_)
          have H := H b_22 h_57 (Nat.le_trans (Fr.size (Fr.r (In []) _)) hb_21) (Fr.no' (Fr.r (In []) _) hf_42) hL_57
          refine ⟨?_, ?_⟩
          · exact still_locA agg32 hL_57 3 rfl 0 (vs := [(Sl.v g0_1)]) rfl rfl
          refine ⟨?_, ?_⟩
          · exact still_locA agg34 hL_57 2 rfl 0 (vs := [(Sl.v w1_1), (VI w1_2)]) rfl rfl
          refine H.mono fun rv_16 h_58 H => ?_
          obtain ⟨t16_9, t16_10, rfl, hL_58, H⟩ := H
          refine ⟨?_, ?_⟩
          · exact still_locA agg32 hL_58 3 rfl 0 (vs := [(Sl.v g0_1)]) rfl rfl
          refine H.mono fun rv_17 h_59 H => ?_
          obtain ⟨t18_11, rfl, hL_59, H⟩ := H
          refine uop_loc siz34 hL_59 0 rfl 0 [(Sl.v t16_9), (VI t16_10)] rfl rfl rfl (Nat.le_of_ble_eq_true rfl) (L' := [(b_22, [(Sl.v t16_9), (VI t16_10)]), (b_19, [(Sl.v nilSl)]), (b_2, [(Sl.v w1_1), (VI w1_2)]), (b_1, [(Sl.v g0_1)])]) rfl (fun h_60 hf_43 hL_60 => ?_)
          refine uop_loc siz22 hL_60 1 rfl 0 [(Sl.v t18_11)] rfl rfl rfl (Nat.le_of_ble_eq_true rfl) (L' := [(b_22, [(Sl.v t16_9), (VI t16_10)]), (b_19, [(Sl.v t18_11)]), (b_2, [(Sl.v w1_1), (VI w1_2)]), (b_1, [(Sl.v g0_1)])]) rfl (fun h_61 hf_44 hL_61 => ?_)
          have H := H  h_61  (Fr.old (Fr.old (Fr.r (In []) _) hf_43) hf_44) hL_61
          exact ⟨b_22, t16_9, t16_10, b_19, t18_11, rfl, H, Vars.pick hL_61 [1, 0, 2, 3] rfl⟩
    intro junk_1 tv_1 tv_2 h_62
    rintro ⟨b_3, x_1, x_2, b_4, x_3, hv, hJ_1, hL_62⟩
    cases hv
    have H := HB_1 b_3 x_1 x_2 b_4 x_3 h_62 hJ_1 hL_62
    refine rop_locA agg32 hL_62 3 rfl 0 (vs := [(Sl.v g0_1)]) rfl rfl ?_
    refine pop_func _ _ _ ?_
    refine H.mono fun rv_18 h_63 H => ?_
    obtain ⟨x_4, x_5, x_6, t22_1, rfl, hL_63, H⟩ := H
    refine pop_not t22_1 ?_
    refine condM_b (fun hb_22 => ?_) (fun hb_22 => ?_)
    · have H := H.1 hb_22
      exact H
    · have H := H.2 hb_22
      refine rop_loc one22 hL_63 0 rfl 0 (v := (Sl.v x_4)) rfl ?_
      exact H

/-! laws.eqIntSS -/
def u21 (P : Program) (a0_1 : Sl) (b1_1 : Sl) (h : Heap) (K : Value → Heap → Prop) : Prop :=
  ((!decide ((a0_1.n : Int) = (b1_1.n : Int))) = true →
  K (VB false) h) ∧
  ((!decide ((a0_1.n : Int) = (b1_1.n : Int))) = false →
  ∃ J_1 : Nat → Int → Heap → Prop, (∃ n0 : Nat, J_1 n0 0 h) ∧
  ∀ (n_1 : Nat) (i5_1 : Int) (h_1 : Heap), J_1 n_1 i5_1 h_1 → Vars h_1 [] →
  ((decide (i5_1 < (a0_1.n : Int))) = true →
  InB a0_1 i5_1 ∧
  ∃ t20_1 : Sl, hcell h_1 (Sl.at a0_1 i5_1 1) = some (Sl.v t20_1) ∧
  InB b1_1 i5_1 ∧
  ∃ t24_1 : Sl, hcell h_1 (Sl.at b1_1 i5_1 1) = some (Sl.v t24_1) ∧
  callM P 45 #[(Sl.v t20_1), (Sl.v t24_1)] h_1 fun rv_1 h_2 => ∃ t25_1 : Bool, rv_1 = (VB t25_1) ∧ Vars h_2 [] ∧
  ((!t25_1) = true →
  K (VB false) h_2) ∧
  ((!t25_1) = false →
  ∃ m : Nat, m < n_1 ∧ J_1 m (w64 (i5_1 + 1)) h_2)) ∧
  ((decide (i5_1 < (a0_1.n : Int))) = false →
  K (VB true) h_1))
theorem v21 (a0_1 : Sl) (b1_1 : Sl) (h : Heap) (K : Value → Heap → Prop) (H : u21 Try.prog a0_1 b1_1 h K) : callM Try.prog 21 #[(Sl.v a0_1), (Sl.v b1_1)] h K := by
  refine c21 (Sl.v a0_1) (Sl.v b1_1) h K ?_
  unfold u21 at H
  unfold t21
  have hL : Vars h [] := .nil
  refine pop_len a0_1 _ _ sli22 ?_
  refine pop_len b1_1 _ _ sli22 ?_
  refine pop_ine .i64 _ _ (a0_1.n : Int) (b1_1.n : Int) ?_
  refine condM_b (fun hb_1 => ?_) (fun hb_1 => ?_)
  · have H := H.1 hb_1
    exact H
  · have H := H.2 hb_1
    obtain ⟨J_1, ⟨n_2, h0_1⟩, HB_1⟩ := H
    refine loop_intro (J := fun (n : Nat) (vs : List Value) (h' : Heap) => ∃ i5_1 : Int, vs = [(VI i5_1)] ∧ J_1 n i5_1 h' ∧ Vars h' []) n_2 ⟨0, rfl, h0_1, hL⟩ ?_
    intro I_1 mu_1 hI_1 junk_1 tv_1 h_1 hi_1
    obtain ⟨n_1, ⟨i5_1, hv, hJ_1, hL_1⟩, hn_1⟩ := hI_1 _ _ hi_1
    cases hv
    have H := HB_1 n_1 i5_1 h_1 hJ_1 hL_1
    refine pop_len a0_1 _ _ sli22 ?_
    refine pop_lss .i64 i5_1 (a0_1.n : Int) ?_
    refine condM_b (fun hb_2 => ?_) (fun hb_2 => ?_)
    · have H := H.1 hb_2
      obtain ⟨hi_2, H⟩ := H
      refine pop_index sli22 siz25 .i64 a0_1 i5_1 hi_2 ?_
      obtain ⟨t20_1, hc_2, H⟩ := H
      refine rop_one one25 (Sl.v t20_1) hc_2 ?_
      obtain ⟨hi_3, H⟩ := H
      refine pop_index sli22 siz25 .i64 b1_1 i5_1 hi_3 ?_
      obtain ⟨t24_1, hc_1, H⟩ := H
      refine rop_one one25 (Sl.v t24_1) hc_1 ?_
      refine H.mono fun rv_1 h_2 H => ?_
      obtain ⟨t25_1, rfl, hL_2, H⟩ := H
      refine pop_not t25_1 ?_
      refine condM_b (fun hb_3 => ?_) (fun hb_3 => ?_)
      · have H := H.1 hb_3
        exact H
      · have H := H.2 hb_3
        refine pop_add .i64 i5_1 1 ?_
        obtain ⟨m_1, hm_1, H⟩ := H
        exact hn_1 _ _ ⟨m_1, hm_1, (w64 (i5_1 + 1)), rfl, H, hL_2⟩
    · have H := H.2 hb_2
      exact H

/-! laws.eqGraph -/
def u22 (P : Program) (a0_1 : Sl) (b1_1 : Sl) (h : Heap) (K : Value → Heap → Prop) : Prop :=
  ∀ (b_1 : Nat) (b_2 : Nat) (h_2 : Heap), h.size ≤ b_1 → h.size ≤ b_2 → Fr (In []) h h_2 → Vars h_2 [(b_2, [(Sl.v b1_1)]), (b_1, [(Sl.v a0_1)])] →
  callM P 21 #[(Sl.v a0_1), (Sl.v b1_1)] h_2 fun rv_1 h_3 => ∃ t9_1 : Bool, rv_1 = (VB t9_1) ∧ Vars h_3 [(b_2, [(Sl.v b1_1)]), (b_1, [(Sl.v a0_1)])] ∧
  ((!t9_1) = true →
  K (VB false) h_3) ∧
  ((!t9_1) = false →
  K (VB true) h_3)
theorem v22 (a0_1 : Sl) (b1_1 : Sl) (h : Heap) (K : Value → Heap → Prop) (H : u22 Try.prog a0_1 b1_1 h K) : callM Try.prog 22 #[(Value.agg #[(Sl.v a0_1)]), (Value.agg #[(Sl.v b1_1)])] h K := by
  refine c22 (Value.agg #[(Sl.v a0_1)]) (Value.agg #[(Sl.v b1_1)]) h K ?_
  unfold u22 at H
  unfold t22
  have hL : Vars h [] := .nil
  refine eop_box 32 (Value.agg #[(Sl.v a0_1)]) rfl hL (fun b_1 h_1 hb_1 hf_1 hL_1 => ?_)
  refine eop_box 32 (Value.agg #[(Sl.v b1_1)]) rfl hL_1 (fun b_2 h_2 hb_2 hf_2 hL_2 => ?_)
  refine pop_field 0 fld32_0 b_1 0 ?_
  refine rop_loc one22 hL_2 1 rfl 0 (v := (Sl.v a0_1)) rfl ?_
  refine pop_field 0 fld32_0 b_2 0 ?_
  refine rop_loc one22 hL_2 0 rfl 0 (v := (Sl.v b1_1)) rfl ?_
  have H := H b_1 b_2 h_2 (Nat.le_trans (Fr.size (Fr.r (In []) _)) hb_1) (Nat.le_trans (Fr.size (Fr.no' (Fr.r (In []) _) hf_1)) hb_2) (Fr.no' (Fr.no' (Fr.r (In []) _) hf_1) hf_2) hL_2
  refine H.mono fun rv_1 h_3 H => ?_
  obtain ⟨t9_1, rfl, hL_3, H⟩ := H
  refine pop_not t9_1 ?_
  refine condM_b (fun hb_3 => ?_) (fun hb_3 => ?_)
  · have H := H.1 hb_3
    exact H
  · have H := H.2 hb_3
    exact H

/-! laws.eqWalk -/
def u23 (P : Program) (a0_1 : Sl) (a0_2 : Int) (b1_1 : Sl) (b1_2 : Int) (h : Heap) (K : Value → Heap → Prop) : Prop :=
  ∀ (b_1 : Nat) (b_2 : Nat) (h_2 : Heap), h.size ≤ b_1 → h.size ≤ b_2 → Fr (In []) h h_2 → Vars h_2 [(b_2, [(Sl.v b1_1), (VI b1_2)]), (b_1, [(Sl.v a0_1), (VI a0_2)])] →
  callM P 45 #[(Sl.v a0_1), (Sl.v b1_1)] h_2 fun rv_1 h_3 => ∃ t9_1 : Bool, rv_1 = (VB t9_1) ∧ Vars h_3 [(b_2, [(Sl.v b1_1), (VI b1_2)]), (b_1, [(Sl.v a0_1), (VI a0_2)])] ∧
  ((!t9_1) = true →
  K (VB false) h_3) ∧
  ((!t9_1) = false →
  ((!decide (a0_2 = b1_2)) = true →
  K (VB false) h_3) ∧
  ((!decide (a0_2 = b1_2)) = false →
  K (VB true) h_3))
theorem v23 (a0_1 : Sl) (a0_2 : Int) (b1_1 : Sl) (b1_2 : Int) (h : Heap) (K : Value → Heap → Prop) (H : u23 Try.prog a0_1 a0_2 b1_1 b1_2 h K) : callM Try.prog 23 #[(Value.agg #[(Sl.v a0_1), (VI a0_2)]), (Value.agg #[(Sl.v b1_1), (VI b1_2)])] h K := by
  refine c23 (Value.agg #[(Sl.v a0_1), (VI a0_2)]) (Value.agg #[(Sl.v b1_1), (VI b1_2)]) h K ?_
  unfold u23 at H
  unfold t23
  have hL : Vars h [] := .nil
  refine eop_box 34 (Value.agg #[(Sl.v a0_1), (VI a0_2)]) rfl hL (fun b_1 h_1 hb_1 hf_1 hL_1 => ?_)
  refine eop_box 34 (Value.agg #[(Sl.v b1_1), (VI b1_2)]) rfl hL_1 (fun b_2 h_2 hb_2 hf_2 hL_2 => ?_)
  refine pop_field 0 fld34_0 b_1 0 ?_
  refine rop_loc one25 hL_2 1 rfl 0 (v := (Sl.v a0_1)) rfl ?_
  refine pop_field 0 fld34_0 b_2 0 ?_
  refine rop_loc one25 hL_2 0 rfl 0 (v := (Sl.v b1_1)) rfl ?_
  have H := H b_1 b_2 h_2 (Nat.le_trans (Fr.size (Fr.r (In []) _)) hb_1) (Nat.le_trans (Fr.size (Fr.no' (Fr.r (In []) _) hf_1)) hb_2) (Fr.no' (Fr.no' (Fr.r (In []) _) hf_1) hf_2) hL_2
  refine H.mono fun rv_1 h_3 H => ?_
  obtain ⟨t9_1, rfl, hL_3, H⟩ := H
  refine pop_not t9_1 ?_
  refine condM_b (fun hb_3 => ?_) (fun hb_3 => ?_)
  · have H := H.1 hb_3
    exact H
  · have H := H.2 hb_3
    refine pop_field 1 fld34_1 b_1 0 ?_
    refine rop_loc one3 hL_3 1 rfl 1 (v := (VI a0_2)) rfl ?_
    refine pop_field 1 fld34_1 b_2 0 ?_
    refine rop_loc one3 hL_3 0 rfl 1 (v := (VI b1_2)) rfl ?_
    refine pop_ine .i64 _ _ a0_2 b1_2 ?_
    refine condM_b (fun hb_4 => ?_) (fun hb_4 => ?_)
    · have H := H.1 hb_4
      exact H
    · have H := H.2 hb_4
      exact H

/-! laws.markGraph -/
def u24 (P : Program) (a0_1 : Sl) (k1_1 : Int) (h : Heap) (K : Value → Heap → Prop) : Prop :=
  ∀ (b_1 : Nat) (h_1 : Heap), h.size ≤ b_1 → Fr (In []) h h_1 → Vars h_1 [(b_1, [(Sl.v a0_1)])] →
  callM P 26 #[(Sl.v a0_1), (VI k1_1)] h_1 fun rv_1 h_2 => ∃ t8_1 : Int, rv_1 = (VI t8_1) ∧ Vars h_2 [(b_1, [(Sl.v a0_1)])] ∧
  K (VI t8_1) h_2
theorem v24 (a0_1 : Sl) (k1_1 : Int) (h : Heap) (K : Value → Heap → Prop) (H : u24 Try.prog a0_1 k1_1 h K) : callM Try.prog 24 #[(Value.agg #[(Sl.v a0_1)]), (VI k1_1)] h K := by
  refine c24 (Value.agg #[(Sl.v a0_1)]) (VI k1_1) h K ?_
  unfold u24 at H
  unfold t24
  have hL : Vars h [] := .nil
  refine eop_box 32 (Value.agg #[(Sl.v a0_1)]) rfl hL (fun b_1 h_1 hb_1 hf_1 hL_1 => ?_)
  refine pop_field 0 fld32_0 b_1 0 ?_
  refine rop_loc one22 hL_1 0 rfl 0 (v := (Sl.v a0_1)) rfl ?_
  have H := H b_1 h_1 (Nat.le_trans (Fr.size (Fr.r (In []) _)) hb_1) (Fr.no' (Fr.r (In []) _) hf_1) hL_1
  refine H.mono fun rv_1 h_2 H => ?_
  obtain ⟨t8_1, rfl, hL_2, H⟩ := H
  exact H

/-! laws.markWalk -/
def u25 (P : Program) (a0_1 : Sl) (a0_2 : Int) (k1_1 : Int) (h : Heap) (K : Value → Heap → Prop) : Prop :=
  ∀ (b_1 : Nat) (h_1 : Heap), h.size ≤ b_1 → Fr (In []) h h_1 → Vars h_1 [(b_1, [(Sl.v a0_1), (VI a0_2)])] →
  callM P 49 #[(Sl.v a0_1), (VI k1_1)] h_1 fun rv_1 h_2 => ∃ t8_1 : Int, rv_1 = (VI t8_1) ∧ Vars h_2 [(b_1, [(Sl.v a0_1), (VI a0_2)])] ∧
  K (VI t8_1) h_2
theorem v25 (a0_1 : Sl) (a0_2 : Int) (k1_1 : Int) (h : Heap) (K : Value → Heap → Prop) (H : u25 Try.prog a0_1 a0_2 k1_1 h K) : callM Try.prog 25 #[(Value.agg #[(Sl.v a0_1), (VI a0_2)]), (VI k1_1)] h K := by
  refine c25 (Value.agg #[(Sl.v a0_1), (VI a0_2)]) (VI k1_1) h K ?_
  unfold u25 at H
  unfold t25
  have hL : Vars h [] := .nil
  refine eop_box 34 (Value.agg #[(Sl.v a0_1), (VI a0_2)]) rfl hL (fun b_1 h_1 hb_1 hf_1 hL_1 => ?_)
  refine pop_field 0 fld34_0 b_1 0 ?_
  refine rop_loc one25 hL_1 0 rfl 0 (v := (Sl.v a0_1)) rfl ?_
  have H := H b_1 h_1 (Nat.le_trans (Fr.size (Fr.r (In []) _)) hb_1) (Fr.no' (Fr.r (In []) _) hf_1) hL_1
  refine H.mono fun rv_1 h_2 H => ?_
  obtain ⟨t8_1, rfl, hL_2, H⟩ := H
  exact H

/-! laws.markIntSS -/
def u26 (P : Program) (a0_1 : Sl) (k1_1 : Int) (h : Heap) (K : Value → Heap → Prop) : Prop :=
  ∃ J_1 : Nat → Int → Int → Heap → Prop, (∃ n0 : Nat, J_1 n0 k1_1 0 h) ∧
  ∀ (n_1 : Nat) (k1_2 : Int) (i5_1 : Int) (h_1 : Heap), J_1 n_1 k1_2 i5_1 h_1 → Vars h_1 [] →
  ((decide (i5_1 < (a0_1.n : Int))) = true →
  InB a0_1 i5_1 ∧
  ∃ t15_1 : Sl, hcell h_1 (Sl.at a0_1 i5_1 1) = some (Sl.v t15_1) ∧
  callM P 49 #[(Sl.v t15_1), (VI k1_2)] h_1 fun rv_1 h_2 => ∃ t17_1 : Int, rv_1 = (VI t17_1) ∧ Vars h_2 [] ∧
  ∃ m : Nat, m < n_1 ∧ J_1 m t17_1 (w64 (i5_1 + 1)) h_2) ∧
  ((decide (i5_1 < (a0_1.n : Int))) = false →
  K (VI k1_2) h_1)
theorem v26 (a0_1 : Sl) (k1_1 : Int) (h : Heap) (K : Value → Heap → Prop) (H : u26 Try.prog a0_1 k1_1 h K) : callM Try.prog 26 #[(Sl.v a0_1), (VI k1_1)] h K := by
  refine c26 (Sl.v a0_1) (VI k1_1) h K ?_
  unfold u26 at H
  unfold t26
  have hL : Vars h [] := .nil
  obtain ⟨J_1, ⟨n_2, h0_1⟩, HB_1⟩ := H
  refine loop_intro (J := fun (n : Nat) (vs : List Value) (h' : Heap) => ∃ k1_2 : Int, ∃ i5_1 : Int, vs = [(VI k1_2), (VI i5_1)] ∧ J_1 n k1_2 i5_1 h' ∧ Vars h' []) n_2 ⟨k1_1, 0, rfl, h0_1, hL⟩ ?_
  intro I_1 mu_1 hI_1 junk_1 tv_1 tv_2 h_1 hi_1
  obtain ⟨n_1, ⟨k1_2, i5_1, hv, hJ_1, hL_1⟩, hn_1⟩ := hI_1 _ _ hi_1
  cases hv
  have H := HB_1 n_1 k1_2 i5_1 h_1 hJ_1 hL_1
  refine pop_len a0_1 _ _ sli22 ?_
  refine pop_lss .i64 i5_1 (a0_1.n : Int) ?_
  refine condM_b (fun hb_1 => ?_) (fun hb_1 => ?_)
  · have H := H.1 hb_1
    obtain ⟨hi_2, H⟩ := H
    refine pop_index sli22 siz25 .i64 a0_1 i5_1 hi_2 ?_
    obtain ⟨t15_1, hc_1, H⟩ := H
    refine rop_one one25 (Sl.v t15_1) hc_1 ?_
    refine H.mono fun rv_1 h_2 H => ?_
    obtain ⟨t17_1, rfl, hL_2, H⟩ := H
    refine pop_add .i64 i5_1 1 ?_
    obtain ⟨m_1, hm_1, H⟩ := H
    exact hn_1 _ _ ⟨m_1, hm_1, t17_1, (w64 (i5_1 + 1)), rfl, H, hL_2⟩
  · have H := H.2 hb_1
    exact H

/-! laws.heldIntSS -/
def u27 (P : Program) (a0_1 : Sl) (k1_1 : Int) (h : Heap) (K : Value → Heap → Prop) : Prop :=
  ∃ J_1 : Nat → Int → Int → Heap → Prop, (∃ n0 : Nat, J_1 n0 k1_1 0 h) ∧
  ∀ (n_1 : Nat) (k1_2 : Int) (i5_1 : Int) (h_1 : Heap), J_1 n_1 k1_2 i5_1 h_1 → Vars h_1 [] →
  ((decide (i5_1 < (a0_1.n : Int))) = true →
  InB a0_1 i5_1 ∧
  ∃ t15_1 : Sl, hcell h_1 (Sl.at a0_1 i5_1 1) = some (Sl.v t15_1) ∧
  callM P 57 #[(Sl.v t15_1), (VI k1_2)] h_1 fun rv_1 h_2 => ∃ t17_1 : Int, rv_1 = (VI t17_1) ∧ Vars h_2 [] ∧
  ((decide (t17_1 < 0)) = true →
  K (VI (-1)) h_2) ∧
  ((decide (t17_1 < 0)) = false →
  ∃ m : Nat, m < n_1 ∧ J_1 m t17_1 (w64 (i5_1 + 1)) h_2)) ∧
  ((decide (i5_1 < (a0_1.n : Int))) = false →
  K (VI k1_2) h_1)
theorem v27 (a0_1 : Sl) (k1_1 : Int) (h : Heap) (K : Value → Heap → Prop) (H : u27 Try.prog a0_1 k1_1 h K) : callM Try.prog 27 #[(Sl.v a0_1), (VI k1_1)] h K := by
  refine c27 (Sl.v a0_1) (VI k1_1) h K ?_
  unfold u27 at H
  unfold t27
  have hL : Vars h [] := .nil
  obtain ⟨J_1, ⟨n_2, h0_1⟩, HB_1⟩ := H
  refine loop_intro (J := fun (n : Nat) (vs : List Value) (h' : Heap) => ∃ k1_2 : Int, ∃ i5_1 : Int, vs = [(VI k1_2), (VI i5_1)] ∧ J_1 n k1_2 i5_1 h' ∧ Vars h' []) n_2 ⟨k1_1, 0, rfl, h0_1, hL⟩ ?_
  intro I_1 mu_1 hI_1 junk_1 tv_1 tv_2 h_1 hi_1
  obtain ⟨n_1, ⟨k1_2, i5_1, hv, hJ_1, hL_1⟩, hn_1⟩ := hI_1 _ _ hi_1
  cases hv
  have H := HB_1 n_1 k1_2 i5_1 h_1 hJ_1 hL_1
  refine pop_len a0_1 _ _ sli22 ?_
  refine pop_lss .i64 i5_1 (a0_1.n : Int) ?_
  refine condM_b (fun hb_1 => ?_) (fun hb_1 => ?_)
  · have H := H.1 hb_1
    obtain ⟨hi_2, H⟩ := H
    refine pop_index sli22 siz25 .i64 a0_1 i5_1 hi_2 ?_
    obtain ⟨t15_1, hc_1, H⟩ := H
    refine rop_one one25 (Sl.v t15_1) hc_1 ?_
    refine H.mono fun rv_1 h_2 H => ?_
    obtain ⟨t17_1, rfl, hL_2, H⟩ := H
    refine pop_lss .i64 t17_1 0 ?_
    refine condM_b (fun hb_2 => ?_) (fun hb_2 => ?_)
    · have H := H.1 hb_2
      exact H
    · have H := H.2 hb_2
      refine pop_add .i64 i5_1 1 ?_
      obtain ⟨m_1, hm_1, H⟩ := H
      exact hn_1 _ _ ⟨m_1, hm_1, t17_1, (w64 (i5_1 + 1)), rfl, H, hL_2⟩
  · have H := H.2 hb_1
    exact H

/-! laws.toIntS -/
def u42 (P : Program) (a0_1 : Sl) (h : Heap) (K : Value → Heap → Prop) : Prop :=
  eop P (Instr.makeSlice 25 (VI (a0_1.n : Int)) (VI (a0_1.n : Int))) h fun rv_1 h_1 => ∃ t7_1 : Sl, rv_1 = (Sl.v t7_1) ∧ Vars h_1 [] ∧
  ∃ J_1 : Nat → Int → Heap → Prop, (∃ n0 : Nat, J_1 n0 0 h_1) ∧
  ∀ (n_1 : Nat) (i4_1 : Int) (h_2 : Heap), J_1 n_1 i4_1 h_2 → Vars h_2 [] →
  ((decide (i4_1 < (a0_1.n : Int))) = true →
  InB a0_1 i4_1 ∧
  ∃ t19_1 : Int, hcell h_2 (Sl.at a0_1 i4_1 1) = some (VI t19_1) ∧
  InB t7_1 i4_1 ∧
  Writable h_2 (Sl.at t7_1 i4_1 1) ∧ Vars (hset h_2 (Sl.at t7_1 i4_1 1) (VI t19_1)) [] ∧
  ∀ h_3 : Heap, h_3 = hset h_2 (Sl.at t7_1 i4_1 1) (VI t19_1) → Vars h_3 [] →
  ∃ m : Nat, m < n_1 ∧ J_1 m (w64 (i4_1 + 1)) h_3) ∧
  ((decide (i4_1 < (a0_1.n : Int))) = false →
  K (Sl.v t7_1) h_2)
theorem v42 (a0_1 : Sl) (h : Heap) (K : Value → Heap → Prop) (H : u42 Try.prog a0_1 h K) : callM Try.prog 42 #[(Sl.v a0_1)] h K := by
  refine c42 (Sl.v a0_1) h K ?_
  unfold u42 at H
  unfold t42
  have hL : Vars h [] := .nil
  refine pop_len a0_1 _ _ sli25 ?_
  refine H.mono fun rv_1 h_1 H => ?_
  obtain ⟨t7_1, rfl, hL_1, H⟩ := H
  obtain ⟨J_1, ⟨n_2, h0_1⟩, HB_1⟩ := H
  refine loop_intro (J := fun (n : Nat) (vs : List Value) (h' : Heap) => ∃ i4_1 : Int, vs = [(VI i4_1)] ∧ J_1 n i4_1 h' ∧ Vars h' []) n_2 ⟨0, rfl, h0_1, hL_1⟩ ?_
  intro I_1 mu_1 hI_1 junk_1 tv_1 h_2 hi_1
  obtain ⟨n_1, ⟨i4_1, hv, hJ_1, hL_2⟩, hn_1⟩ := hI_1 _ _ hi_1
  cases hv
  have H := HB_1 n_1 i4_1 h_2 hJ_1 hL_2
  refine pop_len a0_1 _ _ sli25 ?_
  refine pop_lss .i64 i4_1 (a0_1.n : Int) ?_
  refine condM_b (fun hb_1 => ?_) (fun hb_1 => ?_)
  · have H := H.1 hb_1
    obtain ⟨hi_2, H⟩ := H
    refine pop_index sli25 siz3 .i64 a0_1 i4_1 hi_2 ?_
    obtain ⟨t19_1, hc_1, H⟩ := H
    refine rop_one one3 (VI t19_1) hc_1 ?_
    obtain ⟨hi_3, H⟩ := H
    refine pop_index sli25 siz3 .i64 t7_1 i4_1 hi_3 ?_
    obtain ⟨hw_1, hL_3, H⟩ := H
    refine uop_cell (v := (VI t19_1)) siz3 hw_1 rfl (fun h_3 he_1 => ?_)
    rw [← he_1] at hL_3
    have H := H h_3 he_1 hL_3
    refine pop_add .i64 i4_1 1 ?_
    obtain ⟨m_1, hm_1, H⟩ := H
    exact hn_1 _ _ ⟨m_1, hm_1, (w64 (i4_1 + 1)), rfl, H, hL_3⟩
  · have H := H.2 hb_1
    exact H

/-! laws.eqIntS -/
def u45 (P : Program) (a0_1 : Sl) (b1_1 : Sl) (h : Heap) (K : Value → Heap → Prop) : Prop :=
  ((!decide ((a0_1.n : Int) = (b1_1.n : Int))) = true →
  K (VB false) h) ∧
  ((!decide ((a0_1.n : Int) = (b1_1.n : Int))) = false →
  ∃ J_1 : Nat → Int → Heap → Prop, (∃ n0 : Nat, J_1 n0 0 h) ∧
  ∀ (n_1 : Nat) (i5_1 : Int) (h_1 : Heap), J_1 n_1 i5_1 h_1 → Vars h_1 [] →
  ((decide (i5_1 < (a0_1.n : Int))) = true →
  InB a0_1 i5_1 ∧
  ∃ t20_1 : Int, hcell h_1 (Sl.at a0_1 i5_1 1) = some (VI t20_1) ∧
  InB b1_1 i5_1 ∧
  ∃ t24_1 : Int, hcell h_1 (Sl.at b1_1 i5_1 1) = some (VI t24_1) ∧
  ((!decide (t20_1 = t24_1)) = true →
  K (VB false) h_1) ∧
  ((!decide (t20_1 = t24_1)) = false →
  ∃ m : Nat, m < n_1 ∧ J_1 m (w64 (i5_1 + 1)) h_1)) ∧
  ((decide (i5_1 < (a0_1.n : Int))) = false →
  K (VB true) h_1))
theorem v45 (a0_1 : Sl) (b1_1 : Sl) (h : Heap) (K : Value → Heap → Prop) (H : u45 Try.prog a0_1 b1_1 h K) : callM Try.prog 45 #[(Sl.v a0_1), (Sl.v b1_1)] h K := by
  refine c45 (Sl.v a0_1) (Sl.v b1_1) h K ?_
  unfold u45 at H
  unfold t45
  have hL : Vars h [] := .nil
  refine pop_len a0_1 _ _ sli25 ?_
  refine pop_len b1_1 _ _ sli25 ?_
  refine pop_ine .i64 _ _ (a0_1.n : Int) (b1_1.n : Int) ?_
  refine condM_b (fun hb_1 => ?_) (fun hb_1 => ?_)
  · have H := H.1 hb_1
    exact H
  · have H := H.2 hb_1
    obtain ⟨J_1, ⟨n_2, h0_1⟩, HB_1⟩ := H
    refine loop_intro (J := fun (n : Nat) (vs : List Value) (h' : Heap) => ∃ i5_1 : Int, vs = [(VI i5_1)] ∧ J_1 n i5_1 h' ∧ Vars h' []) n_2 ⟨0, rfl, h0_1, hL⟩ ?_
    intro I_1 mu_1 hI_1 junk_1 tv_1 h_1 hi_1
    obtain ⟨n_1, ⟨i5_1, hv, hJ_1, hL_1⟩, hn_1⟩ := hI_1 _ _ hi_1
    cases hv
    have H := HB_1 n_1 i5_1 h_1 hJ_1 hL_1
    refine pop_len a0_1 _ _ sli25 ?_
    refine pop_lss .i64 i5_1 (a0_1.n : Int) ?_
    refine condM_b (fun hb_2 => ?_) (fun hb_2 => ?_)
    · have H := H.1 hb_2
      obtain ⟨hi_2, H⟩ := H
      refine pop_index sli25 siz3 .i64 a0_1 i5_1 hi_2 ?_
      obtain ⟨t20_1, hc_2, H⟩ := H
      refine rop_one one3 (VI t20_1) hc_2 ?_
      obtain ⟨hi_3, H⟩ := H
      refine pop_index sli25 siz3 .i64 b1_1 i5_1 hi_3 ?_
      obtain ⟨t24_1, hc_1, H⟩ := H
      refine rop_one one3 (VI t24_1) hc_1 ?_
      refine pop_ine .i64 _ _ t20_1 t24_1 ?_
      refine condM_b (fun hb_3 => ?_) (fun hb_3 => ?_)
      · have H := H.1 hb_3
        exact H
      · have H := H.2 hb_3
        refine pop_add .i64 i5_1 1 ?_
        obtain ⟨m_1, hm_1, H⟩ := H
        exact hn_1 _ _ ⟨m_1, hm_1, (w64 (i5_1 + 1)), rfl, H, hL_1⟩
    · have H := H.2 hb_2
      exact H

/-! laws.markIntS -/
def u49 (P : Program) (a0_1 : Sl) (k1_1 : Int) (h : Heap) (K : Value → Heap → Prop) : Prop :=
  ∃ J_1 : Nat → Int → Int → Heap → Prop, (∃ n0 : Nat, J_1 n0 k1_1 0 h) ∧
  ∀ (n_1 : Nat) (k1_2 : Int) (i5_1 : Int) (h_1 : Heap), J_1 n_1 k1_2 i5_1 h_1 → Vars h_1 [] →
  ((decide (i5_1 < (a0_1.n : Int))) = true →
  InB a0_1 i5_1 ∧
  Writable h_1 (Sl.at a0_1 i5_1 1) ∧ Vars (hset h_1 (Sl.at a0_1 i5_1 1) (VI k1_2)) [] ∧
  ∀ h_2 : Heap, h_2 = hset h_1 (Sl.at a0_1 i5_1 1) (VI k1_2) → Vars h_2 [] →
  ∃ m : Nat, m < n_1 ∧ J_1 m (w64 (k1_2 + 1)) (w64 (i5_1 + 1)) h_2) ∧
  ((decide (i5_1 < (a0_1.n : Int))) = false →
  K (VI k1_2) h_1)
theorem v49 (a0_1 : Sl) (k1_1 : Int) (h : Heap) (K : Value → Heap → Prop) (H : u49 Try.prog a0_1 k1_1 h K) : callM Try.prog 49 #[(Sl.v a0_1), (VI k1_1)] h K := by
  refine c49 (Sl.v a0_1) (VI k1_1) h K ?_
  unfold u49 at H
  unfold t49
  have hL : Vars h [] := .nil
  obtain ⟨J_1, ⟨n_2, h0_1⟩, HB_1⟩ := H
  refine loop_intro (J := fun (n : Nat) (vs : List Value) (h' : Heap) => ∃ k1_2 : Int, ∃ i5_1 : Int, vs = [(VI k1_2), (VI i5_1)] ∧ J_1 n k1_2 i5_1 h' ∧ Vars h' []) n_2 ⟨k1_1, 0, rfl, h0_1, hL⟩ ?_
  intro I_1 mu_1 hI_1 junk_1 tv_1 tv_2 h_1 hi_1
  obtain ⟨n_1, ⟨k1_2, i5_1, hv, hJ_1, hL_1⟩, hn_1⟩ := hI_1 _ _ hi_1
  cases hv
  have H := HB_1 n_1 k1_2 i5_1 h_1 hJ_1 hL_1
  refine pop_len a0_1 _ _ sli25 ?_
  refine pop_lss .i64 i5_1 (a0_1.n : Int) ?_
  refine condM_b (fun hb_1 => ?_) (fun hb_1 => ?_)
  · have H := H.1 hb_1
    obtain ⟨hi_2, H⟩ := H
    refine pop_index sli25 siz3 .i64 a0_1 i5_1 hi_2 ?_
    obtain ⟨hw_1, hL_2, H⟩ := H
    refine uop_cell (v := (VI k1_2)) siz3 hw_1 rfl (fun h_2 he_1 => ?_)
    rw [← he_1] at hL_2
    have H := H h_2 he_1 hL_2
    refine pop_add .i64 k1_2 1 ?_
    refine pop_add .i64 i5_1 1 ?_
    obtain ⟨m_1, hm_1, H⟩ := H
    exact hn_1 _ _ ⟨m_1, hm_1, (w64 (k1_2 + 1)), (w64 (i5_1 + 1)), rfl, H, hL_2⟩
  · have H := H.2 hb_1
    exact H

/-! laws.heldIntS -/
def u57 (P : Program) (a0_1 : Sl) (k1_1 : Int) (h : Heap) (K : Value → Heap → Prop) : Prop :=
  ∃ J_1 : Nat → Int → Int → Heap → Prop, (∃ n0 : Nat, J_1 n0 k1_1 0 h) ∧
  ∀ (n_1 : Nat) (k1_2 : Int) (i5_1 : Int) (h_1 : Heap), J_1 n_1 k1_2 i5_1 h_1 → Vars h_1 [] →
  ((decide (i5_1 < (a0_1.n : Int))) = true →
  InB a0_1 i5_1 ∧
  ∃ t15_1 : Int, hcell h_1 (Sl.at a0_1 i5_1 1) = some (VI t15_1) ∧
  ((!decide (t15_1 = k1_2)) = true →
  K (VI (-1)) h_1) ∧
  ((!decide (t15_1 = k1_2)) = false →
  ∃ m : Nat, m < n_1 ∧ J_1 m (w64 (k1_2 + 1)) (w64 (i5_1 + 1)) h_1)) ∧
  ((decide (i5_1 < (a0_1.n : Int))) = false →
  K (VI k1_2) h_1)
theorem v57 (a0_1 : Sl) (k1_1 : Int) (h : Heap) (K : Value → Heap → Prop) (H : u57 Try.prog a0_1 k1_1 h K) : callM Try.prog 57 #[(Sl.v a0_1), (VI k1_1)] h K := by
  refine c57 (Sl.v a0_1) (VI k1_1) h K ?_
  unfold u57 at H
  unfold t57
  have hL : Vars h [] := .nil
  obtain ⟨J_1, ⟨n_2, h0_1⟩, HB_1⟩ := H
  refine loop_intro (J := fun (n : Nat) (vs : List Value) (h' : Heap) => ∃ k1_2 : Int, ∃ i5_1 : Int, vs = [(VI k1_2), (VI i5_1)] ∧ J_1 n k1_2 i5_1 h' ∧ Vars h' []) n_2 ⟨k1_1, 0, rfl, h0_1, hL⟩ ?_
  intro I_1 mu_1 hI_1 junk_1 tv_1 tv_2 h_1 hi_1
  obtain ⟨n_1, ⟨k1_2, i5_1, hv, hJ_1, hL_1⟩, hn_1⟩ := hI_1 _ _ hi_1
  cases hv
  have H := HB_1 n_1 k1_2 i5_1 h_1 hJ_1 hL_1
  refine pop_len a0_1 _ _ sli25 ?_
  refine pop_lss .i64 i5_1 (a0_1.n : Int) ?_
  refine condM_b (fun hb_1 => ?_) (fun hb_1 => ?_)
  · have H := H.1 hb_1
    obtain ⟨hi_2, H⟩ := H
    refine pop_index sli25 siz3 .i64 a0_1 i5_1 hi_2 ?_
    obtain ⟨t15_1, hc_1, H⟩ := H
    refine rop_one one3 (VI t15_1) hc_1 ?_
    refine pop_ine .i64 _ _ t15_1 k1_2 ?_
    refine condM_b (fun hb_2 => ?_) (fun hb_2 => ?_)
    · have H := H.1 hb_2
      exact H
    · have H := H.2 hb_2
      refine pop_add .i64 k1_2 1 ?_
      refine pop_add .i64 i5_1 1 ?_
      obtain ⟨m_1, hm_1, H⟩ := H
      exact hn_1 _ _ ⟨m_1, hm_1, (w64 (k1_2 + 1)), (w64 (i5_1 + 1)), rfl, H, hL_1⟩
  · have H := H.2 hb_1
    exact H

/-! laws.szIntSS -/
def u64 (P : Program) (a0_1 : Sl) (left1_1 : Int) (h : Heap) (K : Value → Heap → Prop) : Prop :=
  ((decide ((w64 (left1_1 - (a0_1.n : Int))) < 0)) = true →
  K (VI (-1)) h) ∧
  ((decide ((w64 (left1_1 - (a0_1.n : Int))) < 0)) = false →
  ∃ J_1 : Nat → Int → Int → Heap → Prop, (∃ n0 : Nat, J_1 n0 (w64 (left1_1 - (a0_1.n : Int))) 0 h) ∧
  ∀ (n_1 : Nat) (left1_2 : Int) (i5_1 : Int) (h_1 : Heap), J_1 n_1 left1_2 i5_1 h_1 → Vars h_1 [] →
  ((decide (i5_1 < (a0_1.n : Int))) = true →
  InB a0_1 i5_1 ∧
  ∃ t21_1 : Sl, hcell h_1 (Sl.at a0_1 i5_1 1) = some (Sl.v t21_1) ∧
  callM P 65 #[(Sl.v t21_1), (VI left1_2)] h_1 fun rv_1 h_2 => ∃ t23_1 : Int, rv_1 = (VI t23_1) ∧ Vars h_2 [] ∧
  ((decide (t23_1 < 0)) = true →
  K (VI (-1)) h_2) ∧
  ((decide (t23_1 < 0)) = false →
  ∃ m : Nat, m < n_1 ∧ J_1 m t23_1 (w64 (i5_1 + 1)) h_2)) ∧
  ((decide (i5_1 < (a0_1.n : Int))) = false →
  K (VI left1_2) h_1))
theorem v64 (a0_1 : Sl) (left1_1 : Int) (h : Heap) (K : Value → Heap → Prop) (H : u64 Try.prog a0_1 left1_1 h K) : callM Try.prog 64 #[(Sl.v a0_1), (VI left1_1)] h K := by
  refine c64 (Sl.v a0_1) (VI left1_1) h K ?_
  unfold u64 at H
  unfold t64
  have hL : Vars h [] := .nil
  refine pop_len a0_1 _ _ sli22 ?_
  refine pop_sub .i64 left1_1 (a0_1.n : Int) ?_
  refine pop_lss .i64 (w64 (left1_1 - (a0_1.n : Int))) 0 ?_
  refine condM_b (fun hb_1 => ?_) (fun hb_1 => ?_)
  · have H := H.1 hb_1
    exact H
  · have H := H.2 hb_1
    obtain ⟨J_1, ⟨n_2, h0_1⟩, HB_1⟩ := H
    refine loop_intro (J := fun (n : Nat) (vs : List Value) (h' : Heap) => ∃ left1_2 : Int, ∃ i5_1 : Int, vs = [(VI left1_2), (VI i5_1)] ∧ J_1 n left1_2 i5_1 h' ∧ Vars h' []) n_2 ⟨(w64 (left1_1 - (a0_1.n : Int))), 0, rfl, h0_1, hL⟩ ?_
    intro I_1 mu_1 hI_1 junk_1 tv_1 tv_2 h_1 hi_1
    obtain ⟨n_1, ⟨left1_2, i5_1, hv, hJ_1, hL_1⟩, hn_1⟩ := hI_1 _ _ hi_1
    cases hv
    have H := HB_1 n_1 left1_2 i5_1 h_1 hJ_1 hL_1
    refine pop_len a0_1 _ _ sli22 ?_
    refine pop_lss .i64 i5_1 (a0_1.n : Int) ?_
    refine condM_b (fun hb_2 => ?_) (fun hb_2 => ?_)
    · have H := H.1 hb_2
      obtain ⟨hi_2, H⟩ := H
      refine pop_index sli22 siz25 .i64 a0_1 i5_1 hi_2 ?_
      obtain ⟨t21_1, hc_1, H⟩ := H
      refine rop_one one25 (Sl.v t21_1) hc_1 ?_
      refine H.mono fun rv_1 h_2 H => ?_
      obtain ⟨t23_1, rfl, hL_2, H⟩ := H
      refine pop_lss .i64 t23_1 0 ?_
      refine condM_b (fun hb_3 => ?_) (fun hb_3 => ?_)
      · have H := H.1 hb_3
        exact H
      · have H := H.2 hb_3
        refine pop_add .i64 i5_1 1 ?_
        obtain ⟨m_1, hm_1, H⟩ := H
        exact hn_1 _ _ ⟨m_1, hm_1, t23_1, (w64 (i5_1 + 1)), rfl, H, hL_2⟩
    · have H := H.2 hb_2
      exact H

/-! laws.szIntS -/
def u65 (P : Program) (a0_1 : Sl) (left1_1 : Int) (h : Heap) (K : Value → Heap → Prop) : Prop :=
  ((decide ((w64 (left1_1 - (a0_1.n : Int))) < 0)) = true →
  K (VI (-1)) h) ∧
  ((decide ((w64 (left1_1 - (a0_1.n : Int))) < 0)) = false →
  K (VI (w64 (left1_1 - (a0_1.n : Int)))) h)
theorem v65 (a0_1 : Sl) (left1_1 : Int) (h : Heap) (K : Value → Heap → Prop) (H : u65 Try.prog a0_1 left1_1 h K) : callM Try.prog 65 #[(Sl.v a0_1), (VI left1_1)] h K := by
  refine c65 (Sl.v a0_1) (VI left1_1) h K ?_
  unfold u65 at H
  unfold t65
  have hL : Vars h [] := .nil
  refine pop_len a0_1 _ _ sli25 ?_
  refine pop_sub .i64 left1_1 (a0_1.n : Int) ?_
  refine pop_lss .i64 (w64 (left1_1 - (a0_1.n : Int))) 0 ?_
  refine condM_b (fun hb_1 => ?_) (fun hb_1 => ?_)
  · have H := H.1 hb_1
    exact H
  · have H := H.2 hb_1
    exact H

/-! spec.waAsked -/
def u66 (P : Program) (g0_1 : Sl) (w1_1 : Sl) (w1_2 : Int) (n2_1 : Int) (h : Heap) (K : Value → Heap → Prop) : Prop :=
  ∀ (b_1 : Nat) (b_2 : Nat) (h_2 : Heap), h.size ≤ b_1 → h.size ≤ b_2 → Fr (In []) h h_2 → Vars h_2 [(b_2, [(Sl.v w1_1), (VI w1_2)]), (b_1, [(Sl.v g0_1)])] →
  callM P 74 #[(Value.agg #[(Sl.v g0_1)]), (Value.agg #[(Sl.v w1_1), (VI w1_2)])] h_2 fun rv_1 h_3 => ∃ t9_1 : Bool, rv_1 = (VB t9_1) ∧ Vars h_3 [(b_2, [(Sl.v w1_1), (VI w1_2)]), (b_1, [(Sl.v g0_1)])] ∧
  (t9_1 = true →
  callM P 109 #[(VI n2_1), (VI 0), (VI 2000)] h_3 fun rv_2 h_4 => ∃ t12_1 : Bool, rv_2 = (VB t12_1) ∧ Vars h_4 [(b_2, [(Sl.v w1_1), (VI w1_2)]), (b_1, [(Sl.v g0_1)])] ∧
  K (VB t12_1) h_4) ∧
  (t9_1 = false →
  K (VB false) h_3)
theorem v66 (g0_1 : Sl) (w1_1 : Sl) (w1_2 : Int) (n2_1 : Int) (h : Heap) (K : Value → Heap → Prop) (H : u66 Try.prog g0_1 w1_1 w1_2 n2_1 h K) : callM Try.prog 66 #[(Value.agg #[(Sl.v g0_1)]), (Value.agg #[(Sl.v w1_1), (VI w1_2)]), (VI n2_1)] h K := by
  refine c66 (Value.agg #[(Sl.v g0_1)]) (Value.agg #[(Sl.v w1_1), (VI w1_2)]) (VI n2_1) h K ?_
  unfold u66 at H
  unfold t66
  have hL : Vars h [] := .nil
  refine eop_box 32 (Value.agg #[(Sl.v g0_1)]) rfl hL (fun b_1 h_1 hb_1 hf_1 hL_1 => ?_)
  refine eop_box 34 (Value.agg #[(Sl.v w1_1), (VI w1_2)]) rfl hL_1 (fun b_2 h_2 hb_2 hf_2 hL_2 => ?_)
  refine rop_locA agg32 hL_2 1 rfl 0 (vs := [(Sl.v g0_1)]) rfl rfl ?_
  refine rop_locA agg34 hL_2 0 rfl 0 (vs := [(Sl.v w1_1), (VI w1_2)]) rfl rfl ?_
  have H := H b_1 b_2 h_2 (Nat.le_trans (Fr.size (Fr.r (In []) _)) hb_1) (Nat.le_trans (Fr.size (Fr.no' (Fr.r (In []) _) hf_1)) hb_2) (Fr.no' (Fr.no' (Fr.r (In []) _) hf_1) hf_2) hL_2
  refine H.mono fun rv_1 h_3 H => ?_
  obtain ⟨t9_1, rfl, hL_3, H⟩ := H
  refine guardM_st (fun hb_3 => ?_) (fun hb_3 => ?_)
  · have H := H.1 hb_3
    refine guardM_y' hb_3 ?_
    refine H.mono fun rv_2 h_4 H => ?_
    obtain ⟨t12_1, rfl, hL_4, H⟩ := H
    refine pop_pickt' hb_3 ?_
    exact H
  · have H := H.2 hb_3
    refine guardM_n' hb_3 (by decide) ?_
    refine pop_pickf' hb_3 ?_
    exact H

/-! spec.waGo -/
def u67 (P : Program) (g0_1 : Sl) (w1_1 : Sl) (w1_2 : Int) (n2_1 : Int) (h : Heap) (K : Value → Heap → Prop) : Prop :=
  ∀ (b_1 : Nat) (b_2 : Nat) (b_3 : Nat) (h_3 : Heap), h.size ≤ b_1 → h.size ≤ b_2 → h.size ≤ b_3 → Fr (In []) h h_3 → Vars h_3 [(b_3, [(Sl.v nilSl), (VI 0), (Sl.v nilSl), (Sl.v nilSl), (Sl.v nilSl)]), (b_2, [(Sl.v w1_1), (VI w1_2)]), (b_1, [(Sl.v g0_1)])] →
  ∃ J_1 : Nat → Sl → Int → Sl → Sl → Sl → Heap → Prop, ((eop P (Instr.buildSlice 25 1 #[(0, (VI w1_2))]) h_3 fun rv_1 h_4 => ∃ t17_1 : Sl, rv_1 = (Sl.v t17_1) ∧ Vars h_4 [(b_3, [(Sl.v nilSl), (VI 0), (Sl.v nilSl), (Sl.v nilSl), (Sl.v nilSl)]), (b_2, [(Sl.v w1_1), (VI w1_2)]), (b_1, [(Sl.v g0_1)])] ∧
  (eop P (Instr.makeSlice 25 (VI (g0_1.n : Int)) (VI (g0_1.n : Int))) h_4 fun rv_2 h_5 => ∃ t21_1 : Sl, rv_2 = (Sl.v t21_1) ∧ Vars h_5 [(b_3, [(Sl.v nilSl), (VI 0), (Sl.v nilSl), (Sl.v nilSl), (Sl.v nilSl)]), (b_2, [(Sl.v w1_1), (VI w1_2)]), (b_1, [(Sl.v g0_1)])] ∧
  ∀ (b_5 : Nat) (h_6 : Heap), h_5.size ≤ b_5 → Fr (In []) h_5 h_6 → Vars h_6 [(b_5, [(Sl.v nilSl), (VI 0), (Sl.v nilSl), (Sl.v nilSl), (Sl.v nilSl)]), (b_3, [(Sl.v nilSl), (VI 0), (Sl.v nilSl), (Sl.v nilSl), (Sl.v nilSl)]), (b_2, [(Sl.v w1_1), (VI w1_2)]), (b_1, [(Sl.v g0_1)])] →
  ∀ (h_7 : Heap), Fr (In [b_5]) h_6 h_7 → Vars h_7 [(b_5, [(Sl.v w1_1), (VI w1_2), (Sl.v t17_1), (Sl.v t21_1), (Sl.v nilSl)]), (b_3, [(Sl.v nilSl), (VI 0), (Sl.v nilSl), (Sl.v nilSl), (Sl.v nilSl)]), (b_2, [(Sl.v w1_1), (VI w1_2)]), (b_1, [(Sl.v g0_1)])] →
  J_1 b_5 w1_1 w1_2 t17_1 t21_1 nilSl h_7) ∧
  (∀ (b_6 : Nat) (h_8 : Heap), h_4.size ≤ b_6 → Fr (In []) h_4 h_8 → Vars h_8 [(b_6, [(Sl.v nilSl), (VI 0), (Sl.v nilSl), (Sl.v nilSl), (Sl.v nilSl)]), (b_3, [(Sl.v nilSl), (VI 0), (Sl.v nilSl), (Sl.v nilSl), (Sl.v nilSl)]), (b_2, [(Sl.v w1_1), (VI w1_2)]), (b_1, [(Sl.v g0_1)])] →
  eop P (Instr.makeSlice 25 (VI (g0_1.n : Int)) (VI (g0_1.n : Int))) h_8 fun rv_3 h_9 => ∃ t21_2 : Sl, rv_3 = (Sl.v t21_2) ∧ Vars h_9 [(b_6, [(Sl.v nilSl), (VI 0), (Sl.v nilSl), (Sl.v nilSl), (Sl.v nilSl)]), (b_3, [(Sl.v nilSl), (VI 0), (Sl.v nilSl), (Sl.v nilSl), (Sl.v nilSl)]), (b_2, [(Sl.v w1_1), (VI w1_2)]), (b_1, [(Sl.v g0_1)])] ∧
  ∀ (h_10 : Heap), Fr (In [b_6]) h_9 h_10 → Vars h_10 [(b_6, [(Sl.v w1_1), (VI w1_2), (Sl.v t17_1), (Sl.v t21_2), (Sl.v nilSl)]), (b_3, [(Sl.v nilSl), (VI 0), (Sl.v nilSl), (Sl.v nilSl), (Sl.v nilSl)]), (b_2, [(Sl.v w1_1), (VI w1_2)]), (b_1, [(Sl.v g0_1)])] →
  J_1 b_6 w1_1 w1_2 t17_1 t21_2 nilSl h_10)) ∧
  (eop P (Instr.makeSlice 25 (VI (g0_1.n : Int)) (VI (g0_1.n : Int))) h_3 fun rv_4 h_11 => ∃ t21_3 : Sl, rv_4 = (Sl.v t21_3) ∧ Vars h_11 [(b_3, [(Sl.v nilSl), (VI 0), (Sl.v nilSl), (Sl.v nilSl), (Sl.v nilSl)]), (b_2, [(Sl.v w1_1), (VI w1_2)]), (b_1, [(Sl.v g0_1)])] ∧
  (eop P (Instr.buildSlice 25 1 #[(0, (VI w1_2))]) h_11 fun rv_5 h_12 => ∃ t17_2 : Sl, rv_5 = (Sl.v t17_2) ∧ Vars h_12 [(b_3, [(Sl.v nilSl), (VI 0), (Sl.v nilSl), (Sl.v nilSl), (Sl.v nilSl)]), (b_2, [(Sl.v w1_1), (VI w1_2)]), (b_1, [(Sl.v g0_1)])] ∧
  ∀ (b_7 : Nat) (h_13 : Heap), h_12.size ≤ b_7 → Fr (In []) h_12 h_13 → Vars h_13 [(b_7, [(Sl.v nilSl), (VI 0), (Sl.v nilSl), (Sl.v nilSl), (Sl.v nilSl)]), (b_3, [(Sl.v nilSl), (VI 0), (Sl.v nilSl), (Sl.v nilSl), (Sl.v nilSl)]), (b_2, [(Sl.v w1_1), (VI w1_2)]), (b_1, [(Sl.v g0_1)])] →
  ∀ (h_14 : Heap), Fr (In [b_7]) h_13 h_14 → Vars h_14 [(b_7, [(Sl.v w1_1), (VI w1_2), (Sl.v t17_2), (Sl.v t21_3), (Sl.v nilSl)]), (b_3, [(Sl.v nilSl), (VI 0), (Sl.v nilSl), (Sl.v nilSl), (Sl.v nilSl)]), (b_2, [(Sl.v w1_1), (VI w1_2)]), (b_1, [(Sl.v g0_1)])] →
  J_1 b_7 w1_1 w1_2 t17_2 t21_3 nilSl h_14) ∧
  (∀ (b_8 : Nat) (h_15 : Heap), h_11.size ≤ b_8 → Fr (In []) h_11 h_15 → Vars h_15 [(b_8, [(Sl.v nilSl), (VI 0), (Sl.v nilSl), (Sl.v nilSl), (Sl.v nilSl)]), (b_3, [(Sl.v nilSl), (VI 0), (Sl.v nilSl), (Sl.v nilSl), (Sl.v nilSl)]), (b_2, [(Sl.v w1_1), (VI w1_2)]), (b_1, [(Sl.v g0_1)])] →
  eop P (Instr.buildSlice 25 1 #[(0, (VI w1_2))]) h_15 fun rv_6 h_16 => ∃ t17_3 : Sl, rv_6 = (Sl.v t17_3) ∧ Vars h_16 [(b_8, [(Sl.v nilSl), (VI 0), (Sl.v nilSl), (Sl.v nilSl), (Sl.v nilSl)]), (b_3, [(Sl.v nilSl), (VI 0), (Sl.v nilSl), (Sl.v nilSl), (Sl.v nilSl)]), (b_2, [(Sl.v w1_1), (VI w1_2)]), (b_1, [(Sl.v g0_1)])] ∧
  ∀ (h_17 : Heap), Fr (In [b_8]) h_16 h_17 → Vars h_17 [(b_8, [(Sl.v w1_1), (VI w1_2), (Sl.v t17_3), (Sl.v t21_3), (Sl.v nilSl)]), (b_3, [(Sl.v nilSl), (VI 0), (Sl.v nilSl), (Sl.v nilSl), (Sl.v nilSl)]), (b_2, [(Sl.v w1_1), (VI w1_2)]), (b_1, [(Sl.v g0_1)])] →
  J_1 b_8 w1_1 w1_2 t17_3 t21_3 nilSl h_17)) ∧
  (∀ (b_9 : Nat) (h_18 : Heap), h_3.size ≤ b_9 → Fr (In []) h_3 h_18 → Vars h_18 [(b_9, [(Sl.v nilSl), (VI 0), (Sl.v nilSl), (Sl.v nilSl), (Sl.v nilSl)]), (b_3, [(Sl.v nilSl), (VI 0), (Sl.v nilSl), (Sl.v nilSl), (Sl.v nilSl)]), (b_2, [(Sl.v w1_1), (VI w1_2)]), (b_1, [(Sl.v g0_1)])] →
  (eop P (Instr.buildSlice 25 1 #[(0, (VI w1_2))]) h_18 fun rv_7 h_19 => ∃ t17_4 : Sl, rv_7 = (Sl.v t17_4) ∧ Vars h_19 [(b_9, [(Sl.v nilSl), (VI 0), (Sl.v nilSl), (Sl.v nilSl), (Sl.v nilSl)]), (b_3, [(Sl.v nilSl), (VI 0), (Sl.v nilSl), (Sl.v nilSl), (Sl.v nilSl)]), (b_2, [(Sl.v w1_1), (VI w1_2)]), (b_1, [(Sl.v g0_1)])] ∧
  eop P (Instr.makeSlice 25 (VI (g0_1.n : Int)) (VI (g0_1.n : Int))) h_19 fun rv_8 h_20 => ∃ t21_4 : Sl, rv_8 = (Sl.v t21_4) ∧ Vars h_20 [(b_9, [(Sl.v nilSl), (VI 0), (Sl.v nilSl), (Sl.v nilSl), (Sl.v nilSl)]), (b_3, [(Sl.v nilSl), (VI 0), (Sl.v nilSl), (Sl.v nilSl), (Sl.v nilSl)]), (b_2, [(Sl.v w1_1), (VI w1_2)]), (b_1, [(Sl.v g0_1)])] ∧
  ∀ (h_21 : Heap), Fr (In [b_9]) h_20 h_21 → Vars h_21 [(b_9, [(Sl.v w1_1), (VI w1_2), (Sl.v t17_4), (Sl.v t21_4), (Sl.v nilSl)]), (b_3, [(Sl.v nilSl), (VI 0), (Sl.v nilSl), (Sl.v nilSl), (Sl.v nilSl)]), (b_2, [(Sl.v w1_1), (VI w1_2)]), (b_1, [(Sl.v g0_1)])] →
  J_1 b_9 w1_1 w1_2 t17_4 t21_4 nilSl h_21) ∧
  (eop P (Instr.makeSlice 25 (VI (g0_1.n : Int)) (VI (g0_1.n : Int))) h_18 fun rv_9 h_22 => ∃ t21_5 : Sl, rv_9 = (Sl.v t21_5) ∧ Vars h_22 [(b_9, [(Sl.v nilSl), (VI 0), (Sl.v nilSl), (Sl.v nilSl), (Sl.v nilSl)]), (b_3, [(Sl.v nilSl), (VI 0), (Sl.v nilSl), (Sl.v nilSl), (Sl.v nilSl)]), (b_2, [(Sl.v w1_1), (VI w1_2)]), (b_1, [(Sl.v g0_1)])] ∧
  eop P (Instr.buildSlice 25 1 #[(0, (VI w1_2))]) h_22 fun rv_10 h_23 => ∃ t17_5 : Sl, rv_10 = (Sl.v t17_5) ∧ Vars h_23 [(b_9, [(Sl.v nilSl), (VI 0), (Sl.v nilSl), (Sl.v nilSl), (Sl.v nilSl)]), (b_3, [(Sl.v nilSl), (VI 0), (Sl.v nilSl), (Sl.v nilSl), (Sl.v nilSl)]), (b_2, [(Sl.v w1_1), (VI w1_2)]), (b_1, [(Sl.v g0_1)])] ∧
  ∀ (h_24 : Heap), Fr (In [b_9]) h_23 h_24 → Vars h_24 [(b_9, [(Sl.v w1_1), (VI w1_2), (Sl.v t17_5), (Sl.v t21_5), (Sl.v nilSl)]), (b_3, [(Sl.v nilSl), (VI 0), (Sl.v nilSl), (Sl.v nilSl), (Sl.v nilSl)]), (b_2, [(Sl.v w1_1), (VI w1_2)]), (b_1, [(Sl.v g0_1)])] →
  J_1 b_9 w1_1 w1_2 t17_5 t21_5 nilSl h_24))) ∧
  ∀ (b_4 : Nat) (x_1 : Sl) (x_2 : Int) (x_3 : Sl) (x_4 : Sl) (x_5 : Sl) (h_25 : Heap), J_1 b_4 x_1 x_2 x_3 x_4 x_5 h_25 → Vars h_25 [(b_4, [(Sl.v x_1), (VI x_2), (Sl.v x_3), (Sl.v x_4), (Sl.v x_5)]), (b_3, [(Sl.v nilSl), (VI 0), (Sl.v nilSl), (Sl.v nilSl), (Sl.v nilSl)]), (b_2, [(Sl.v w1_1), (VI w1_2)]), (b_1, [(Sl.v g0_1)])] →
  ∃ J_2 : Nat → Int → Sl → Int → Sl → Sl → Sl → Heap → Prop, (∃ n0 : Nat, J_2 n0 0 x_1 x_2 x_3 x_4 x_5 h_25) ∧
  ∀ (n_1 : Nat) (t26_1 : Int) (x_6 : Sl) (x_7 : Int) (x_8 : Sl) (x_9 : Sl) (x_10 : Sl) (h_26 : Heap), J_2 n_1 t26_1 x_6 x_7 x_8 x_9 x_10 h_26 → Vars h_26 [(b_4, [(Sl.v x_6), (VI x_7), (Sl.v x_8), (Sl.v x_9), (Sl.v x_10)]), (b_3, [(Sl.v nilSl), (VI 0), (Sl.v nilSl), (Sl.v nilSl), (Sl.v nilSl)]), (b_2, [(Sl.v w1_1), (VI w1_2)]), (b_1, [(Sl.v g0_1)])] →
  ((decide (t26_1 < (g0_1.n : Int))) = true →
  InB g0_1 t26_1 ∧
  ∃ t29_1 : Sl, hcell h_26 (Sl.at g0_1 t26_1 1) = some (Sl.v t29_1) ∧
  eop P (Instr.makeSlice 25 (VI (t29_1.n : Int)) (VI (t29_1.n : Int))) h_26 fun rv_11 h_27 => ∃ t34_1 : Sl, rv_11 = (Sl.v t34_1) ∧ Vars h_27 [(b_4, [(Sl.v x_6), (VI x_7), (Sl.v x_8), (Sl.v x_9), (Sl.v x_10)]), (b_3, [(Sl.v nilSl), (VI 0), (Sl.v nilSl), (Sl.v nilSl), (Sl.v nilSl)]), (b_2, [(Sl.v w1_1), (VI w1_2)]), (b_1, [(Sl.v g0_1)])] ∧
  eop P (Instr.buildSlice 22 1 #[(0, (Sl.v t34_1))]) h_27 fun rv_12 h_28 => ∃ t35_1 : Sl, rv_12 = (Sl.v t35_1) ∧ Vars h_28 [(b_4, [(Sl.v x_6), (VI x_7), (Sl.v x_8), (Sl.v x_9), (Sl.v x_10)]), (b_3, [(Sl.v nilSl), (VI 0), (Sl.v nilSl), (Sl.v nilSl), (Sl.v nilSl)]), (b_2, [(Sl.v w1_1), (VI w1_2)]), (b_1, [(Sl.v g0_1)])] ∧
  eop P (appS 22 22 22 (Sl.v x_10) (Sl.v t35_1)) h_28 fun rv_13 h_29 => ∃ t36_1 : Sl, rv_13 = (Sl.v t36_1) ∧ Vars h_29 [(b_4, [(Sl.v x_6), (VI x_7), (Sl.v x_8), (Sl.v x_9), (Sl.v x_10)]), (b_3, [(Sl.v nilSl), (VI 0), (Sl.v nilSl), (Sl.v nilSl), (Sl.v nilSl)]), (b_2, [(Sl.v w1_1), (VI w1_2)]), (b_1, [(Sl.v g0_1)])] ∧
  ∀ (h_30 : Heap), Fr (In [b_4]) h_29 h_30 → Vars h_30 [(b_4, [(Sl.v x_6), (VI x_7), (Sl.v x_8), (Sl.v x_9), (Sl.v t36_1)]), (b_3, [(Sl.v nilSl), (VI 0), (Sl.v nilSl), (Sl.v nilSl), (Sl.v nilSl)]), (b_2, [(Sl.v w1_1), (VI w1_2)]), (b_1, [(Sl.v g0_1)])] →
  ∃ m : Nat, m < n_1 ∧ J_2 m (w64 (t26_1 + 1)) x_6 x_7 x_8 x_9 t36_1 h_30) ∧
  ((decide (t26_1 < (g0_1.n : Int))) = false →
  ∃ J_3 : Nat → Int → Sl → Int → Sl → Sl → Sl → Heap → Prop, (∃ n0 : Nat, J_3 n0 n2_1 x_6 x_7 x_8 x_9 x_10 h_26) ∧
  ∀ (n_2 : Nat) (n2_2 : Int) (x_11 : Sl) (x_12 : Int) (x_13 : Sl) (x_14 : Sl) (x_15 : Sl) (h_31 : Heap), J_3 n_2 n2_2 x_11 x_12 x_13 x_14 x_15 h_31 → Vars h_31 [(b_4, [(Sl.v x_11), (VI x_12), (Sl.v x_13), (Sl.v x_14), (Sl.v x_15)]), (b_3, [(Sl.v nilSl), (VI 0), (Sl.v nilSl), (Sl.v nilSl), (Sl.v nilSl)]), (b_2, [(Sl.v w1_1), (VI w1_2)]), (b_1, [(Sl.v g0_1)])] →
  ((decide (0 < n2_2)) = true →
  callM P 76 #[(Value.agg #[(Sl.v g0_1)]), (Value.agg #[(Sl.v x_11), (VI x_12)])] h_31 fun rv_14 h_32 => ∃ t47_1 : Sl, ∃ t47_2 : Int, ∃ t47_3 : Bool, rv_14 = (Value.tuple #[(Value.agg #[(Sl.v t47_1), (VI t47_2)]), (VB t47_3)]) ∧ Vars h_32 [(b_4, [(Sl.v x_11), (VI x_12), (Sl.v x_13), (Sl.v x_14), (Sl.v x_15)]), (b_3, [(Sl.v nilSl), (VI 0), (Sl.v nilSl), (Sl.v nilSl), (Sl.v nilSl)]), (b_2, [(Sl.v w1_1), (VI w1_2)]), (b_1, [(Sl.v g0_1)])] ∧
  ((!t47_3) = true →
  ∀ (b_10 : Nat) (h_35 : Heap), h_32.size ≤ b_10 → Fr (In [b_3]) h_32 h_35 → Vars h_35 [(b_10, [(Sl.v t47_1), (VI t47_2)]), (b_4, [(Sl.v x_11), (VI x_12), (Sl.v x_13), (Sl.v x_14), (Sl.v x_15)]), (b_3, [(Sl.v nilSl), (VI 0), (Sl.v nilSl), (Sl.v nilSl), (Sl.v nilSl)]), (b_2, [(Sl.v w1_1), (VI w1_2)]), (b_1, [(Sl.v g0_1)])] →
  K (Value.tuple #[(Value.agg #[(Sl.v nilSl), (VI 0), (Sl.v nilSl), (Sl.v nilSl), (Sl.v nilSl)]), (VB false)]) h_35) ∧
  ((!t47_3) = false →
  InB x_15 x_12 ∧
  ∀ (b_10 : Nat) (h_34 : Heap), h_32.size ≤ b_10 → Fr (In []) h_32 h_34 → Vars h_34 [(b_10, [(Sl.v t47_1), (VI t47_2)]), (b_4, [(Sl.v x_11), (VI x_12), (Sl.v x_13), (Sl.v x_14), (Sl.v x_15)]), (b_3, [(Sl.v nilSl), (VI 0), (Sl.v nilSl), (Sl.v nilSl), (Sl.v nilSl)]), (b_2, [(Sl.v w1_1), (VI w1_2)]), (b_1, [(Sl.v g0_1)])] →
  ∃ t59_1 : Sl, hcell h_34 (Sl.at x_15 x_12 1) = some (Sl.v t59_1) ∧
  InB t47_1 x_12 ∧
  ∃ t67_1 : Int, hcell h_34 (Sl.at t47_1 x_12 1) = some (VI t67_1) ∧
  InB t59_1 t67_1 ∧
  ∃ t69_1 : Int, hcell h_34 (Sl.at t59_1 t67_1 1) = some (VI t69_1) ∧
  InB t59_1 t67_1 ∧
  Writable h_34 (Sl.at t59_1 t67_1 1) ∧ Vars (hset h_34 (Sl.at t59_1 t67_1 1) (VI (w64 (t69_1 + 1)))) [(b_10, [(Sl.v t47_1), (VI t47_2)]), (b_4, [(Sl.v x_11), (VI x_12), (Sl.v x_13), (Sl.v x_14), (Sl.v x_15)]), (b_3, [(Sl.v nilSl), (VI 0), (Sl.v nilSl), (Sl.v nilSl), (Sl.v nilSl)]), (b_2, [(Sl.v w1_1), (VI w1_2)]), (b_1, [(Sl.v g0_1)])] ∧
  ∀ h_36 : Heap, h_36 = hset h_34 (Sl.at t59_1 t67_1 1) (VI (w64 (t69_1 + 1))) → Vars h_36 [(b_10, [(Sl.v t47_1), (VI t47_2)]), (b_4, [(Sl.v x_11), (VI x_12), (Sl.v x_13), (Sl.v x_14), (Sl.v x_15)]), (b_3, [(Sl.v nilSl), (VI 0), (Sl.v nilSl), (Sl.v nilSl), (Sl.v nilSl)]), (b_2, [(Sl.v w1_1), (VI w1_2)]), (b_1, [(Sl.v g0_1)])] →
  InB x_14 t47_2 ∧
  ∃ t77_1 : Int, hcell h_36 (Sl.at x_14 t47_2 1) = some (VI t77_1) ∧
  InB x_14 t47_2 ∧
  Writable h_36 (Sl.at x_14 t47_2 1) ∧ Vars (hset h_36 (Sl.at x_14 t47_2 1) (VI (w64 (t77_1 + 1)))) [(b_10, [(Sl.v t47_1), (VI t47_2)]), (b_4, [(Sl.v x_11), (VI x_12), (Sl.v x_13), (Sl.v x_14), (Sl.v x_15)]), (b_3, [(Sl.v nilSl), (VI 0), (Sl.v nilSl), (Sl.v nilSl), (Sl.v nilSl)]), (b_2, [(Sl.v w1_1), (VI w1_2)]), (b_1, [(Sl.v g0_1)])] ∧
  ∀ h_37 : Heap, h_37 = hset h_36 (Sl.at x_14 t47_2 1) (VI (w64 (t77_1 + 1))) → Vars h_37 [(b_10, [(Sl.v t47_1), (VI t47_2)]), (b_4, [(Sl.v x_11), (VI x_12), (Sl.v x_13), (Sl.v x_14), (Sl.v x_15)]), (b_3, [(Sl.v nilSl), (VI 0), (Sl.v nilSl), (Sl.v nilSl), (Sl.v nilSl)]), (b_2, [(Sl.v w1_1), (VI w1_2)]), (b_1, [(Sl.v g0_1)])] →
  eop P (Instr.buildSlice 25 1 #[(0, (VI t47_2))]) h_37 fun rv_15 h_38 => ∃ t84_1 : Sl, rv_15 = (Sl.v t84_1) ∧ Vars h_38 [(b_10, [(Sl.v t47_1), (VI t47_2)]), (b_4, [(Sl.v x_11), (VI x_12), (Sl.v x_13), (Sl.v x_14), (Sl.v x_15)]), (b_3, [(Sl.v nilSl), (VI 0), (Sl.v nilSl), (Sl.v nilSl), (Sl.v nilSl)]), (b_2, [(Sl.v w1_1), (VI w1_2)]), (b_1, [(Sl.v g0_1)])] ∧
  eop P (appS 25 25 25 (Sl.v x_13) (Sl.v t84_1)) h_38 fun rv_16 h_39 => ∃ t85_1 : Sl, rv_16 = (Sl.v t85_1) ∧ Vars h_39 [(b_10, [(Sl.v t47_1), (VI t47_2)]), (b_4, [(Sl.v x_11), (VI x_12), (Sl.v x_13), (Sl.v x_14), (Sl.v x_15)]), (b_3, [(Sl.v nilSl), (VI 0), (Sl.v nilSl), (Sl.v nilSl), (Sl.v nilSl)]), (b_2, [(Sl.v w1_1), (VI w1_2)]), (b_1, [(Sl.v g0_1)])] ∧
  ∀ (h_41 : Heap), Fr (In [b_4, b_4]) h_39 h_41 → Vars h_41 [(b_10, [(Sl.v t47_1), (VI t47_2)]), (b_4, [(Sl.v t47_1), (VI t47_2), (Sl.v t85_1), (Sl.v x_14), (Sl.v x_15)]), (b_3, [(Sl.v nilSl), (VI 0), (Sl.v nilSl), (Sl.v nilSl), (Sl.v nilSl)]), (b_2, [(Sl.v w1_1), (VI w1_2)]), (b_1, [(Sl.v g0_1)])] →
  ∃ m : Nat, m < n_2 ∧ J_3 m (w64 (n2_2 - 1)) t47_1 t47_2 t85_1 x_14 x_15 h_41)) ∧
  ((decide (0 < n2_2)) = false →
  ∀ (h_42 : Heap), Fr (In [b_3]) h_31 h_42 → Vars h_42 [(b_4, [(Sl.v x_11), (VI x_12), (Sl.v x_13), (Sl.v x_14), (Sl.v x_15)]), (b_3, [(Sl.v x_11), (VI x_12), (Sl.v x_13), (Sl.v x_14), (Sl.v x_15)]), (b_2, [(Sl.v w1_1), (VI w1_2)]), (b_1, [(Sl.v g0_1)])] →
  K (Value.tuple #[(Value.agg #[(Sl.v x_11), (VI x_12), (Sl.v x_13), (Sl.v x_14), (Sl.v x_15)]), (VB true)]) h_42))
theorem v67 (g0_1 : Sl) (w1_1 : Sl) (w1_2 : Int) (n2_1 : Int) (h : Heap) (K : Value → Heap → Prop) (H : u67 Try.prog g0_1 w1_1 w1_2 n2_1 h K) : callM Try.prog 67 #[(Value.agg #[(Sl.v g0_1)]), (Value.agg #[(Sl.v w1_1), (VI w1_2)]), (VI n2_1)] h K := by
  refine c67 (Value.agg #[(Sl.v g0_1)]) (Value.agg #[(Sl.v w1_1), (VI w1_2)]) (VI n2_1) h K ?_
  unfold u67 at H
  unfold t67
  have hL : Vars h [] := .nil
  refine eop_box 32 (Value.agg #[(Sl.v g0_1)]) rfl hL (fun b_1 h_1 hb_1 hf_1 hL_1 => ?_)
  refine eop_box 34 (Value.agg #[(Sl.v w1_1), (VI w1_2)]) rfl hL_1 (fun b_2 h_2 hb_2 hf_2 hL_2 => ?_)
  refine eop_alloc 81 zer81 rfl hL_2 (fun b_3 h_3 hb_3 hf_3 hL_3 => ?_)
  have H := H b_1 b_2 b_3 h_3 (Nat.le_trans (Fr.size (Fr.r (In []) _)) hb_1) (Nat.le_trans (Fr.size (Fr.no' (Fr.r (In []) _) hf_1)) hb_2) (Nat.le_trans (Fr.size (Fr.no' (Fr.no' (Fr.r (In []) _) hf_1) hf_2)) hb_3) (Fr.no' (Fr.no' (Fr.no' (Fr.r (In []) _) hf_1) hf_2) hf_3) hL_3
  obtain ⟨J_1, H, HB_3⟩ := H
  refine ⟨fun (vs : List Value) (h' : Heap) => ∃ b_4 : Nat, ∃ x_1 : Sl, ∃ x_2 : Int, ∃ x_3 : Sl, ∃ x_4 : Sl, ∃ x_5 : Sl, vs = [(VP b_4 0)] ∧ J_1 b_4 x_1 x_2 x_3 x_4 x_5 h' ∧ Vars h' [(b_4, [(Sl.v x_1), (VI x_2), (Sl.v x_3), (Sl.v x_4), (Sl.v x_5)]), (b_3, [(Sl.v nilSl), (VI 0), (Sl.v nilSl), (Sl.v nilSl), (Sl.v nilSl)]), (b_2, [(Sl.v w1_1), (VI w1_2)]), (b_1, [(Sl.v g0_1)])], ?_, ?_⟩
  · refine rop_locA agg34 hL_3 1 rfl 0 (vs := [(Sl.v w1_1), (VI w1_2)]) rfl rfl ?_
    refine pop_field 1 fld34_1 b_2 0 ?_
    refine rop_loc one3 hL_3 1 rfl 1 (v := (VI w1_2)) rfl ?_
    refine pop_field 0 fld32_0 b_1 0 ?_
    refine rop_loc one22 hL_3 2 rfl 0 (v := (Sl.v g0_1)) rfl ?_
    refine pop_len g0_1 _ _ sli22 ?_
    refine ⟨?_, ?_, ?_⟩
    · have H := H.1
      refine H.mono fun rv_1 h_4 H => ?_
      obtain ⟨t17_1, rfl, hL_4, H⟩ := H
      refine ⟨?_, ?_⟩
      · exact still_loc one22 hL_4 2 rfl 0 (v := (Sl.v g0_1)) rfl
      refine ⟨?_, ?_⟩
      · exact still_locA agg34 hL_4 1 rfl 0 (vs := [(Sl.v w1_1), (VI w1_2)]) rfl rfl
      refine ⟨?_, ?_⟩
      · have H := H.1
        refine H.mono fun rv_2 h_5 H => ?_
        obtain ⟨t21_1, rfl, hL_5, H⟩ := H
        refine ⟨?_, ?_⟩
        · exact still_loc one22 hL_5 2 rfl 0 (v := (Sl.v g0_1)) rfl
        refine ⟨?_, ?_⟩
        · exact still_locA agg34 hL_5 1 rfl 0 (vs := [(Sl.v w1_1), (VI w1_2)]) rfl rfl
        refine pop.mk' (v := (Value.agg #[(Sl.v w1_1), (VI w1_2), (Sl.v t17_1), (Sl.v t21_1), (Sl.v nilSl)])) (fun w => by kernel_rfl) ?_
        refine eop_alloc 81 zer81 rfl hL_5 (fun b_5 h_6 hb_4 hf_4 hL_6 => ?_)
        have H := H b_5 h_6 (Nat.le_trans (Fr.size (Fr.r (In []) _)) hb_4) (Fr.no' (Fr.r (In []) _) hf_4) hL_6
        refine ⟨?_, ?_⟩
        · exact still_loc one22 hL_6 3 rfl 0 (v := (Sl.v g0_1)) rfl
        refine ⟨?_, ?_⟩
        · exact still_locA agg34 hL_6 2 rfl 0 (vs := [(Sl.v w1_1), (VI w1_2)]) rfl rfl
        refine uop_loc siz81 hL_6 0 rfl 0 [(Sl.v w1_1), (VI w1_2), (Sl.v t17_1), (Sl.v t21_1), (Sl.v nilSl)] rfl rfl rfl (Nat.le_of_ble_eq_true rfl) (L' := [(b_5, [(Sl.v w1_1), (VI w1_2), (Sl.v t17_1), (Sl.v t21_1), (Sl.v nilSl)]), (b_3, [(Sl.v nilSl), (VI 0), (Sl.v nilSl), (Sl.v nilSl), (Sl.v nilSl)]), (b_2, [(Sl.v w1_1), (VI w1_2)]), (b_1, [(Sl.v g0_1)])]) rfl (fun h_7 hf_5 hL_7 => ?_)
        have H := H  h_7  (Fr.old (Fr.r (In []) _) hf_5) hL_7
        exact ⟨b_5, w1_1, w1_2, t17_1, t21_1, nilSl, rfl, H, hL_7⟩
      · have H := H.2
        refine eop_alloc 81 zer81 rfl hL_4 (fun b_6 h_8 hb_5 hf_6 hL_8 => ?_)
        have H := H b_6 h_8 (Nat.le_trans (Fr.size (Fr.r (In []) _)) hb_5) (Fr.no' (Fr.r (In []) _) hf_6) hL_8
        refine ⟨?_, ?_⟩
        · exact still_loc one22 hL_8 3 rfl 0 (v := (Sl.v g0_1)) rfl
        refine ⟨?_, ?_⟩
        · exact still_locA agg34 hL_8 2 rfl 0 (vs := [(Sl.v w1_1), (VI w1_2)]) rfl rfl
        refine H.mono fun rv_3 h_9 H => ?_
        obtain ⟨t21_2, rfl, hL_9, H⟩ := H
        refine ⟨?_, ?_⟩
        · exact still_loc one22 hL_9 3 rfl 0 (v := (Sl.v g0_1)) rfl
        refine ⟨?_, ?_⟩
        · exact still_locA agg34 hL_9 2 rfl 0 (vs := [(Sl.v w1_1), (VI w1_2)]) rfl rfl
        refine pop.mk' (v := (Value.agg #[(Sl.v w1_1), (VI w1_2), (Sl.v t17_1), (Sl.v t21_2), (Sl.v nilSl)])) (fun w => by kernel_rfl) ?_
        refine uop_loc siz81 hL_9 0 rfl 0 [(Sl.v w1_1), (VI w1_2), (Sl.v t17_1), (Sl.v t21_2), (Sl.v nilSl)] rfl rfl rfl (Nat.le_of_ble_eq_true rfl) (L' := [(b_6, [(Sl.v w1_1), (VI w1_2), (Sl.v t17_1), (Sl.v t21_2), (Sl.v nilSl)]), (b_3, [(Sl.v nilSl), (VI 0), (Sl.v nilSl), (Sl.v nilSl), (Sl.v nilSl)]), (b_2, [(Sl.v w1_1), (VI w1_2)]), (b_1, [(Sl.v g0_1)])]) rfl (fun h_10 hf_7 hL_10 => ?_)
        have H := H  h_10  (Fr.old (Fr.r (In []) _) hf_7) hL_10
        exact ⟨b_6, w1_1, w1_2, t17_1, t21_2, nilSl, rfl, H, hL_10⟩
    · have H := H.2.1
      refine H.mono fun rv_4 h_11 H => ?_
      obtain ⟨t21_3, rfl, hL_11, H⟩ := H
      refine ⟨?_, ?_⟩
      · exact still_loc one22 hL_11 2 rfl 0 (v := (Sl.v g0_1)) rfl
      refine ⟨?_, ?_⟩
      · exact still_loc one3 hL_11 1 rfl 1 (v := (VI w1_2)) rfl
      refine ⟨?_, ?_⟩
      · exact still_locA agg34 hL_11 1 rfl 0 (vs := [(Sl.v w1_1), (VI w1_2)]) rfl rfl
      refine ⟨?_, ?_⟩
      · have H := H.1
        refine H.mono fun rv_5 h_12 H => ?_
        obtain ⟨t17_2, rfl, hL_12, H⟩ := H
        refine ⟨?_, ?_⟩
        · exact still_loc one22 hL_12 2 rfl 0 (v := (Sl.v g0_1)) rfl
        refine ⟨?_, ?_⟩
        · exact still_locA agg34 hL_12 1 rfl 0 (vs := [(Sl.v w1_1), (VI w1_2)]) rfl rfl
        refine pop.mk' (v := (Value.agg #[(Sl.v w1_1), (VI w1_2), (Sl.v t17_2), (Sl.v t21_3), (Sl.v nilSl)])) (fun w => by kernel_rfl) ?_
        refine eop_alloc 81 zer81 rfl hL_12 (fun b_7 h_13 hb_6 hf_8 hL_13 => ?_)
        have H := H b_7 h_13 (Nat.le_trans (Fr.size (Fr.r (In []) _)) hb_6) (Fr.no' (Fr.r (In []) _) hf_8) hL_13
        refine ⟨?_, ?_⟩
        · exact still_loc one22 hL_13 3 rfl 0 (v := (Sl.v g0_1)) rfl
        refine ⟨?_, ?_⟩
        · exact still_locA agg34 hL_13 2 rfl 0 (vs := [(Sl.v w1_1), (VI w1_2)]) rfl rfl
        refine uop_loc siz81 hL_13 0 rfl 0 [(Sl.v w1_1), (VI w1_2), (Sl.v t17_2), (Sl.v t21_3), (Sl.v nilSl)] rfl rfl rfl (Nat.le_of_ble_eq_true rfl) (L' := [(b_7, [(Sl.v w1_1), (VI w1_2), (Sl.v t17_2), (Sl.v t21_3), (Sl.v nilSl)]), (b_3, [(Sl.v nilSl), (VI 0), (Sl.v nilSl), (Sl.v nilSl), (Sl.v nilSl)]), (b_2, [(Sl.v w1_1), (VI w1_2)]), (b_1, [(Sl.v g0_1)])]) rfl (fun h_14 hf_9 hL_14 => ?_)
        have H := H  h_14  (Fr.old (Fr.r (In []) _) hf_9) hL_14
        exact ⟨b_7, w1_1, w1_2, t17_2, t21_3, nilSl, rfl, H, hL_14⟩
      · have H := H.2
        refine eop_alloc 81 zer81 rfl hL_11 (fun b_8 h_15 hb_7 hf_10 hL_15 => ?_)
        have H := H b_8 h_15 (Nat.le_trans (Fr.size (Fr.r (In []) _)) hb_7) (Fr.no' (Fr.r (In []) _) hf_10) hL_15
        refine ⟨?_, ?_⟩
        · exact still_loc one22 hL_15 3 rfl 0 (v := (Sl.v g0_1)) rfl
        refine ⟨?_, ?_⟩
        · exact still_loc one3 hL_15 2 rfl 1 (v := (VI w1_2)) rfl
        refine ⟨?_, ?_⟩
        · exact still_locA agg34 hL_15 2 rfl 0 (vs := [(Sl.v w1_1), (VI w1_2)]) rfl rfl
        refine H.mono fun rv_6 h_16 H => ?_
        obtain ⟨t17_3, rfl, hL_16, H⟩ := H
        refine ⟨?_, ?_⟩
        · exact still_loc one22 hL_16 3 rfl 0 (v := (Sl.v g0_1)) rfl
        refine ⟨?_, ?_⟩
        · exact still_locA agg34 hL_16 2 rfl 0 (vs := [(Sl.v w1_1), (VI w1_2)]) rfl rfl
        refine pop.mk' (v := (Value.agg #[(Sl.v w1_1), (VI w1_2), (Sl.v t17_3), (Sl.v t21_3), (Sl.v nilSl)])) (fun w => by kernel_rfl) ?_
        refine uop_loc siz81 hL_16 0 rfl 0 [(Sl.v w1_1), (VI w1_2), (Sl.v t17_3), (Sl.v t21_3), (Sl.v nilSl)] rfl rfl rfl (Nat.le_of_ble_eq_true rfl) (L' := [(b_8, [(Sl.v w1_1), (VI w1_2), (Sl.v t17_3), (Sl.v t21_3), (Sl.v nilSl)]), (b_3, [(Sl.v nilSl), (VI 0), (Sl.v nilSl), (Sl.v nilSl), (Sl.v nilSl)]), (b_2, [(Sl.v w1_1), (VI w1_2)]), (b_1, [(Sl.v g0_1)])]) rfl (fun h_17 hf_11 hL_17 => ?_)
        have H := H  h_17  (Fr.old (Fr.r (In []) _) hf_11) hL_17
        exact ⟨b_8, w1_1, w1_2, t17_3, t21_3, nilSl, rfl, H, hL_17⟩
    · have H := H.2.2
      refine eop_alloc 81 zer81 rfl hL_3 (fun b_9 h_18 hb_8 hf_12 hL_18 => ?_)
      have H := H b_9 h_18 (Nat.le_trans (Fr.size (Fr.r (In []) _)) hb_8) (Fr.no' (Fr.r (In []) _) hf_12) hL_18
      refine ⟨?_, ?_⟩
      · exact still_loc one22 hL_18 3 rfl 0 (v := (Sl.v g0_1)) rfl
      refine ⟨?_, ?_⟩
      · exact still_loc one3 hL_18 2 rfl 1 (v := (VI w1_2)) rfl
      refine ⟨?_, ?_⟩
      · exact still_locA agg34 hL_18 2 rfl 0 (vs := [(Sl.v w1_1), (VI w1_2)]) rfl rfl
      refine ⟨?_, ?_⟩
      · have H := H.1
        refine H.mono fun rv_7 h_19 H => ?_
        obtain ⟨t17_4, rfl, hL_19, H⟩ := H
        refine ⟨?_, ?_⟩
        · exact still_loc one22 hL_19 3 rfl 0 (v := (Sl.v g0_1)) rfl
        refine ⟨?_, ?_⟩
        · exact still_locA agg34 hL_19 2 rfl 0 (vs := [(Sl.v w1_1), (VI w1_2)]) rfl rfl
        refine H.mono fun rv_8 h_20 H => ?_
        obtain ⟨t21_4, rfl, hL_20, H⟩ := H
        refine ⟨?_, ?_⟩
        · exact still_loc one22 hL_20 3 rfl 0 (v := (Sl.v g0_1)) rfl
        refine ⟨?_, ?_⟩
        · exact still_locA agg34 hL_20 2 rfl 0 (vs := [(Sl.v w1_1), (VI w1_2)]) rfl rfl
        refine pop.mk' (v := (Value.agg #[(Sl.v w1_1), (VI w1_2), (Sl.v t17_4), (Sl.v t21_4), (Sl.v nilSl)])) (fun w => by kernel_rfl) ?_
        refine uop_loc siz81 hL_20 0 rfl 0 [(Sl.v w1_1), (VI w1_2), (Sl.v t17_4), (Sl.v t21_4), (Sl.v nilSl)] rfl rfl rfl (Nat.le_of_ble_eq_true rfl) (L' := [(b_9, [(Sl.v w1_1), (VI w1_2), (Sl.v t17_4), (Sl.v t21_4), (Sl.v nilSl)]), (b_3, [(Sl.v nilSl), (VI 0), (Sl.v nilSl), (Sl.v nilSl), (Sl.v nilSl)]), (b_2, [(Sl.v w1_1), (VI w1_2)]), (b_1, [(Sl.v g0_1)])]) rfl (fun h_21 hf_13 hL_21 => ?_)
        have H := H  h_21  (Fr.old (Fr.r (In []) _) hf_13) hL_21
        exact ⟨b_9, w1_1, w1_2, t17_4, t21_4, nilSl, rfl, H, hL_21⟩
      · have H := H.2
        refine H.mono fun rv_9 h_22 H => ?_
        obtain ⟨t21_5, rfl, hL_22, H⟩ := H
        refine ⟨?_, ?_⟩
        · exact still_loc one22 hL_22 3 rfl 0 (v := (Sl.v g0_1)) rfl
        refine ⟨?_, ?_⟩
        · exact still_loc one3 hL_22 2 rfl 1 (v := (VI w1_2)) rfl
        refine ⟨?_, ?_⟩
        · exact still_locA agg34 hL_22 2 rfl 0 (vs := [(Sl.v w1_1), (VI w1_2)]) rfl rfl
        refine H.mono fun rv_10 h_23 H => ?_
        obtain ⟨t17_5, rfl, hL_23, H⟩ := H
        refine ⟨?_, ?_⟩
        · exact still_loc one22 hL_23 3 rfl 0 (v := (Sl.v g0_1)) rfl
        refine ⟨?_, ?_⟩
        · exact still_locA agg34 hL_23 2 rfl 0 (vs := [(Sl.v w1_1), (VI w1_2)]) rfl rfl
        refine pop.mk' (v := (Value.agg #[(Sl.v w1_1), (VI w1_2), (Sl.v t17_5), (Sl.v t21_5), (Sl.v nilSl)])) (fun w => by kernel_rfl) ?_
        refine uop_loc siz81 hL_23 0 rfl 0 [(Sl.v w1_1), (VI w1_2), (Sl.v t17_5), (Sl.v t21_5), (Sl.v nilSl)] rfl rfl rfl (Nat.le_of_ble_eq_true rfl) (L' := [(b_9, [(Sl.v w1_1), (VI w1_2), (Sl.v t17_5), (Sl.v t21_5), (Sl.v nilSl)]), (b_3, [(Sl.v nilSl), (VI 0), (Sl.v nilSl), (Sl.v nilSl), (Sl.v nilSl)]), (b_2, [(Sl.v w1_1), (VI w1_2)]), (b_1, [(Sl.v g0_1)])]) rfl (fun h_24 hf_14 hL_24 => ?_)
        have H := H  h_24  (Fr.old (Fr.r (In []) _) hf_14) hL_24
        exact ⟨b_9, w1_1, w1_2, t17_5, t21_5, nilSl, rfl, H, hL_24⟩
  intro junk_1 tv_1 h_25
  rintro ⟨b_4, x_1, x_2, x_3, x_4, x_5, hv, hJ_1, hL_25⟩
  cases hv
  have H := HB_3 b_4 x_1 x_2 x_3 x_4 x_5 h_25 hJ_1 hL_25
  refine pop_field 0 fld32_0 b_1 0 ?_
  refine rop_loc one22 hL_25 3 rfl 0 (v := (Sl.v g0_1)) rfl ?_
  refine pop_len g0_1 _ _ sli22 ?_
  obtain ⟨J_2, ⟨n_4, h0_2⟩, HB_2⟩ := H
  refine loop_intro (J := fun (n : Nat) (vs : List Value) (h' : Heap) => ∃ t26_1 : Int, ∃ x_6 : Sl, ∃ x_7 : Int, ∃ x_8 : Sl, ∃ x_9 : Sl, ∃ x_10 : Sl, vs = [(VI t26_1)] ∧ J_2 n t26_1 x_6 x_7 x_8 x_9 x_10 h' ∧ Vars h' [(b_4, [(Sl.v x_6), (VI x_7), (Sl.v x_8), (Sl.v x_9), (Sl.v x_10)]), (b_3, [(Sl.v nilSl), (VI 0), (Sl.v nilSl), (Sl.v nilSl), (Sl.v nilSl)]), (b_2, [(Sl.v w1_1), (VI w1_2)]), (b_1, [(Sl.v g0_1)])]) n_4 ⟨0, x_1, x_2, x_3, x_4, x_5, rfl, h0_2, hL_25⟩ ?_
  intro I_2 mu_2 hI_2 junk_2 tv_3 h_26 hi_1
  obtain ⟨n_1, ⟨t26_1, x_6, x_7, x_8, x_9, x_10, hv, hJ_2, hL_26⟩, hn_1⟩ := hI_2 _ _ hi_1
  cases hv
  have H := HB_2 n_1 t26_1 x_6 x_7 x_8 x_9 x_10 h_26 hJ_2 hL_26
  refine pop_lss .i64 t26_1 (g0_1.n : Int) ?_
  refine condM_b (fun hb_9 => ?_) (fun hb_9 => ?_)
  · have H := H.1 hb_9
    obtain ⟨hi_2, H⟩ := H
    refine pop_index sli22 siz25 .i64 g0_1 t26_1 hi_2 ?_
    obtain ⟨t29_1, hc_1, H⟩ := H
    refine rop_one one25 (Sl.v t29_1) hc_1 ?_
    refine pop_field 3 fld81_3 b_4 0 ?_
    refine rop_loc one22 hL_26 0 rfl 4 (v := (Sl.v x_10)) rfl ?_
    refine pop_len t29_1 _ _ sli25 ?_
    refine H.mono fun rv_11 h_27 H => ?_
    obtain ⟨t34_1, rfl, hL_27, H⟩ := H
    refine ⟨?_, ?_⟩
    · exact still_loc one22 hL_27 0 rfl 4 (v := (Sl.v x_10)) rfl
    refine H.mono fun rv_12 h_28 H => ?_
    obtain ⟨t35_1, rfl, hL_28, H⟩ := H
    refine ⟨?_, ?_⟩
    · exact still_loc one22 hL_28 0 rfl 4 (v := (Sl.v x_10)) rfl
    refine H.mono fun rv_13 h_29 H => ?_
    obtain ⟨t36_1, rfl, hL_29, H⟩ := H
    refine pop_field 3 fld81_3 b_4 0 ?_
    refine uop_loc siz22 hL_29 0 rfl 4 [(Sl.v t36_1)] rfl rfl rfl (Nat.le_of_ble_eq_true rfl) (L' := [(b_4, [(Sl.v x_6), (VI x_7), (Sl.v x_8), (Sl.v x_9), (Sl.v t36_1)]), (b_3, [(Sl.v nilSl), (VI 0), (Sl.v nilSl), (Sl.v nilSl), (Sl.v nilSl)]), (b_2, [(Sl.v w1_1), (VI w1_2)]), (b_1, [(Sl.v g0_1)])]) rfl (fun h_30 hf_15 hL_30 => ?_)
    refine pop_add .i64 t26_1 1 ?_
    have H := H  h_30  (Fr.old (Fr.r (In []) _) hf_15) hL_30
    obtain ⟨m_1, hm_1, H⟩ := H
    exact hn_1 _ _ ⟨m_1, hm_1, (w64 (t26_1 + 1)), x_6, x_7, x_8, x_9, t36_1, rfl, H, hL_30⟩
  · have H := H.2 hb_9
    obtain ⟨J_3, ⟨n_3, h0_1⟩, HB_1⟩ := H
    refine loop_intro (J := fun (n : Nat) (vs : List Value) (h' : Heap) => ∃ n2_2 : Int, ∃ x_11 : Sl, ∃ x_12 : Int, ∃ x_13 : Sl, ∃ x_14 : Sl, ∃ x_15 : Sl, vs = [(VI n2_2)] ∧ J_3 n n2_2 x_11 x_12 x_13 x_14 x_15 h' ∧ Vars h' [(b_4, [(Sl.v x_11), (VI x_12), (Sl.v x_13), (Sl.v x_14), (Sl.v x_15)]), (b_3, [(Sl.v nilSl), (VI 0), (Sl.v nilSl), (Sl.v nilSl), (Sl.v nilSl)]), (b_2, [(Sl.v w1_1), (VI w1_2)]), (b_1, [(Sl.v g0_1)])]) n_3 ⟨n2_1, x_6, x_7, x_8, x_9, x_10, rfl, h0_1, hL_26⟩ ?_
    intro I_1 mu_1 hI_1 junk_3 tv_2 h_31 hi_3
    obtain ⟨n_2, ⟨n2_2, x_11, x_12, x_13, x_14, x_15, hv, hJ_3, hL_31⟩, hn_2⟩ := hI_1 _ _ hi_3
    cases hv
    have H := HB_1 n_2 n2_2 x_11 x_12 x_13 x_14 x_15 h_31 hJ_3 hL_31
    refine pop_gtr .i64 n2_2 0 ?_
    refine condM_b (fun hb_10 => ?_) (fun hb_10 => ?_)
    · have H := H.1 hb_10
      refine rop_locA agg32 hL_31 3 rfl 0 (vs := [(Sl.v g0_1)]) rfl rfl ?_
      refine pop_field 0 fld81_0 b_4 0 ?_
      refine rop_locA agg34 hL_31 0 rfl 0 (vs := [(Sl.v x_11), (VI x_12)]) rfl rfl ?_
      refine H.mono fun rv_14 h_32 H => ?_
      obtain ⟨t47_1, t47_2, t47_3, rfl, hL_32, H⟩ := H
      refine pop_ext (v := (Value.agg #[(Sl.v t47_1), (VI t47_2)])) rfl ?_
      refine pop_ext (v := (VB t47_3)) rfl ?_
      refine eop_alloc 34 zer34 rfl hL_32 (fun b_10 h_33 hb_11 hf_16 hL_33 => ?_)
      refine uop_loc siz34 hL_33 0 rfl 0 [(Sl.v t47_1), (VI t47_2)] rfl rfl rfl (Nat.le_of_ble_eq_true rfl) (L' := [(b_10, [(Sl.v t47_1), (VI t47_2)]), (b_4, [(Sl.v x_11), (VI x_12), (Sl.v x_13), (Sl.v x_14), (Sl.v x_15)]), (b_3, [(Sl.v nilSl), (VI 0), (Sl.v nilSl), (Sl.v nilSl), (Sl.v nilSl)]), (b_2, [(Sl.v w1_1), (VI w1_2)]), (b_1, [(Sl.v g0_1)])]) rfl (fun h_34 hf_17 hL_34 => ?_)
      refine pop_not t47_3 ?_
      refine condM_b (fun hb_12 => ?_) (fun hb_12 => ?_)
      · have H := H.1 hb_12
        refine pop.mk' (v := (Value.agg #[(Sl.v nilSl), (VI 0), (Sl.v nilSl), (Sl.v nilSl), (Sl.v nilSl)])) (fun w => by kernel_rfl) ?_
        refine uop_loc siz81 hL_34 2 rfl 0 [(Sl.v nilSl), (VI 0), (Sl.v nilSl), (Sl.v nilSl), (Sl.v nilSl)] rfl rfl rfl (Nat.le_of_ble_eq_true rfl) (L' := [(b_10, [(Sl.v t47_1), (VI t47_2)]), (b_4, [(Sl.v x_11), (VI x_12), (Sl.v x_13), (Sl.v x_14), (Sl.v x_15)]), (b_3, [(Sl.v nilSl), (VI 0), (Sl.v nilSl), (Sl.v nilSl), (Sl.v nilSl)]), (b_2, [(Sl.v w1_1), (VI w1_2)]), (b_1, [(Sl.v g0_1)])]) rfl (fun h_35 hf_18 hL_35 => ?_)
        refine rop_locA agg81 hL_35 2 rfl 0 (vs := [(Sl.v nilSl), (VI 0), (Sl.v nilSl), (Sl.v nilSl), (Sl.v nilSl)]) rfl rfl ?_
        have H := H b_10 h_35 (Nat.le_trans (Fr.size (Fr.r (In []) _)) hb_11) (Fr.old (Fr.new (Fr.no' (Fr.r (In []) _) hf_16) (Nat.le_trans (Fr.size (Fr.r (In []) _)) hb_11) hf_17) hf_18) hL_35
        exact H
      · have H := H.2 hb_12
        refine pop_field 3 fld81_3 b_4 0 ?_
        refine rop_loc one22 hL_34 1 rfl 4 (v := (Sl.v x_15)) rfl ?_
        refine pop_field 0 fld81_0 b_4 0 ?_
        refine pop_field 1 fld34_1 b_4 0 ?_
        refine rop_loc one3 hL_34 1 rfl 1 (v := (VI x_12)) rfl ?_
        obtain ⟨hi_4, H⟩ := H
        refine pop_index sli22 siz25 .i64 x_15 x_12 hi_4 ?_
        have H := H b_10 h_34 (Nat.le_trans (Fr.size (Fr.r (In []) _)) hb_11) (Fr.new (Fr.no' (Fr.r (In []) _) hf_16) (Nat.le_trans (Fr.size (Fr.r (In []) _)) hb_11) hf_17) hL_34
        obtain ⟨t59_1, hc_5, H⟩ := H
        refine rop_one one25 (Sl.v t59_1) hc_5 ?_
        refine pop_field 0 fld34_0 b_10 0 ?_
        refine rop_loc one25 hL_34 0 rfl 0 (v := (Sl.v t47_1)) rfl ?_
        refine pop_field 0 fld81_0 b_4 0 ?_
        refine pop_field 1 fld34_1 b_4 0 ?_
        refine rop_loc one3 hL_34 1 rfl 1 (v := (VI x_12)) rfl ?_
        obtain ⟨hi_5, H⟩ := H
        refine pop_index sli25 siz3 .i64 t47_1 x_12 hi_5 ?_
        obtain ⟨t67_1, hc_4, H⟩ := H
        refine rop_one one3 (VI t67_1) hc_4 ?_
        obtain ⟨hi_6, H⟩ := H
        refine pop_index sli25 siz3 .i64 t59_1 t67_1 hi_6 ?_
        obtain ⟨t69_1, hc_3, H⟩ := H
        refine rop_one one3 (VI t69_1) hc_3 ?_
        refine pop_add .i64 t69_1 1 ?_
        obtain ⟨hi_7, H⟩ := H
        refine pop_index sli25 siz3 .i64 t59_1 t67_1 hi_7 ?_
        obtain ⟨hw_1, hL_36, H⟩ := H
        refine uop_cell (v := (VI (w64 (t69_1 + 1)))) siz3 hw_1 rfl (fun h_36 he_1 => ?_)
        rw [← he_1] at hL_36
        have H := H h_36 he_1 hL_36
        refine pop_field 2 fld81_2 b_4 0 ?_
        refine rop_loc one25 hL_36 1 rfl 3 (v := (Sl.v x_14)) rfl ?_
        refine pop_field 1 fld34_1 b_10 0 ?_
        refine rop_loc one3 hL_36 0 rfl 1 (v := (VI t47_2)) rfl ?_
        obtain ⟨hi_8, H⟩ := H
        refine pop_index sli25 siz3 .i64 x_14 t47_2 hi_8 ?_
        obtain ⟨t77_1, hc_2, H⟩ := H
        refine rop_one one3 (VI t77_1) hc_2 ?_
        refine pop_add .i64 t77_1 1 ?_
        obtain ⟨hi_9, H⟩ := H
        refine pop_index sli25 siz3 .i64 x_14 t47_2 hi_9 ?_
        obtain ⟨hw_2, hL_37, H⟩ := H
        refine uop_cell (v := (VI (w64 (t77_1 + 1)))) siz3 hw_2 rfl (fun h_37 he_2 => ?_)
        rw [← he_2] at hL_37
        have H := H h_37 he_2 hL_37
        refine pop_field 1 fld81_1 b_4 0 ?_
        refine rop_loc one25 hL_37 1 rfl 2 (v := (Sl.v x_13)) rfl ?_
        refine pop_field 1 fld34_1 b_10 0 ?_
        refine rop_loc one3 hL_37 0 rfl 1 (v := (VI t47_2)) rfl ?_
        refine H.mono fun rv_15 h_38 H => ?_
        obtain ⟨t84_1, rfl, hL_38, H⟩ := H
        refine H.mono fun rv_16 h_39 H => ?_
        obtain ⟨t85_1, rfl, hL_39, H⟩ := H
        refine pop_field 1 fld81_1 b_4 0 ?_
        refine uop_loc siz25 hL_39 1 rfl 2 [(Sl.v t85_1)] rfl rfl rfl (Nat.le_of_ble_eq_true rfl) (L' := [(b_10, [(Sl.v t47_1), (VI t47_2)]), (b_4, [(Sl.v x_11), (VI x_12), (Sl.v t85_1), (Sl.v x_14), (Sl.v x_15)]), (b_3, [(Sl.v nilSl), (VI 0), (Sl.v nilSl), (Sl.v nilSl), (Sl.v nilSl)]), (b_2, [(Sl.v w1_1), (VI w1_2)]), (b_1, [(Sl.v g0_1)])]) rfl (fun h_40 hf_19 hL_40 => ?_)
        refine rop_locA agg34 hL_40 0 rfl 0 (vs := [(Sl.v t47_1), (VI t47_2)]) rfl rfl ?_
        refine pop_field 0 fld81_0 b_4 0 ?_
        refine uop_loc siz34 hL_40 1 rfl 0 [(Sl.v t47_1), (VI t47_2)] rfl rfl rfl (Nat.le_of_ble_eq_true rfl) (L' := [(b_10, [(Sl.v t47_1), (VI t47_2)]), (b_4, [(Sl.v t47_1), (VI t47_2), (Sl.v t85_1), (Sl.v x_14), (Sl.v x_15)]), (b_3, [(Sl.v nilSl), (VI 0), (Sl.v nilSl), (Sl.v nilSl), (Sl.v nilSl)]), (b_2, [(Sl.v w1_1), (VI w1_2)]), (b_1, [(Sl.v g0_1)])]) rfl (fun h_41 hf_20 hL_41 => ?_)
        refine pop_sub .i64 n2_2 1 ?_
        have H := H  h_41  (Fr.old (Fr.old (Fr.r (In []) _) hf_19) hf_20) hL_41
        obtain ⟨m_2, hm_2, H⟩ := H
        exact hn_2 _ _ ⟨m_2, hm_2, (w64 (n2_2 - 1)), t47_1, t47_2, t85_1, x_14, x_15, rfl, H, (Vars.tail hL_41)⟩
    · have H := H.2 hb_10
      refine rop_locA agg81 hL_31 0 rfl 0 (vs := [(Sl.v x_11), (VI x_12), (Sl.v x_13), (Sl.v x_14), (Sl.v x_15)]) rfl rfl ?_
      refine uop_loc siz81 hL_31 1 rfl 0 [(Sl.v x_11), (VI x_12), (Sl.v x_13), (Sl.v x_14), (Sl.v x_15)] rfl rfl rfl (Nat.le_of_ble_eq_true rfl) (L' := [(b_4, [(Sl.v x_11), (VI x_12), (Sl.v x_13), (Sl.v x_14), (Sl.v x_15)]), (b_3, [(Sl.v x_11), (VI x_12), (Sl.v x_13), (Sl.v x_14), (Sl.v x_15)]), (b_2, [(Sl.v w1_1), (VI w1_2)]), (b_1, [(Sl.v g0_1)])]) rfl (fun h_42 hf_21 hL_42 => ?_)
      refine rop_locA agg81 hL_42 1 rfl 0 (vs := [(Sl.v x_11), (VI x_12), (Sl.v x_13), (Sl.v x_14), (Sl.v x_15)]) rfl rfl ?_
      have H := H  h_42  (Fr.old (Fr.r (In []) _) hf_21) hL_42
      exact H

/-! laws.toIntSS -/
def u68 (P : Program) (a0_1 : Sl) (h : Heap) (K : Value → Heap → Prop) : Prop :=
  eop P (Instr.makeSlice 22 (VI (a0_1.n : Int)) (VI (a0_1.n : Int))) h fun rv_1 h_1 => ∃ t7_1 : Sl, rv_1 = (Sl.v t7_1) ∧ Vars h_1 [] ∧
  ∃ J_1 : Nat → Int → Heap → Prop, (∃ n0 : Nat, J_1 n0 0 h_1) ∧
  ∀ (n_1 : Nat) (i4_1 : Int) (h_2 : Heap), J_1 n_1 i4_1 h_2 → Vars h_2 [] →
  ((decide (i4_1 < (a0_1.n : Int))) = true →
  InB a0_1 i4_1 ∧
  ∃ t19_1 : Sl, hcell h_2 (Sl.at a0_1 i4_1 1) = some (Sl.v t19_1) ∧
  callM P 42 #[(Sl.v t19_1)] h_2 fun rv_2 h_3 => ∃ t20_1 : Sl, rv_2 = (Sl.v t20_1) ∧ Vars h_3 [] ∧
  InB t7_1 i4_1 ∧
  Writable h_3 (Sl.at t7_1 i4_1 1) ∧ Vars (hset h_3 (Sl.at t7_1 i4_1 1) (Sl.v t20_1)) [] ∧
  ∀ h_4 : Heap, h_4 = hset h_3 (Sl.at t7_1 i4_1 1) (Sl.v t20_1) → Vars h_4 [] →
  ∃ m : Nat, m < n_1 ∧ J_1 m (w64 (i4_1 + 1)) h_4) ∧
  ((decide (i4_1 < (a0_1.n : Int))) = false →
  K (Sl.v t7_1) h_2)
theorem v68 (a0_1 : Sl) (h : Heap) (K : Value → Heap → Prop) (H : u68 Try.prog a0_1 h K) : callM Try.prog 68 #[(Sl.v a0_1)] h K := by
  refine c68 (Sl.v a0_1) h K ?_
  unfold u68 at H
  unfold t68
  have hL : Vars h [] := .nil
  refine pop_len a0_1 _ _ sli22 ?_
  refine H.mono fun rv_1 h_1 H => ?_
  obtain ⟨t7_1, rfl, hL_1, H⟩ := H
  obtain ⟨J_1, ⟨n_2, h0_1⟩, HB_1⟩ := H
  refine loop_intro (J := fun (n : Nat) (vs : List Value) (h' : Heap) => ∃ i4_1 : Int, vs = [(VI i4_1)] ∧ J_1 n i4_1 h' ∧ Vars h' []) n_2 ⟨0, rfl, h0_1, hL_1⟩ ?_
  intro I_1 mu_1 hI_1 junk_1 tv_1 h_2 hi_1
  obtain ⟨n_1, ⟨i4_1, hv, hJ_1, hL_2⟩, hn_1⟩ := hI_1 _ _ hi_1
  cases hv
  have H := HB_1 n_1 i4_1 h_2 hJ_1 hL_2
  refine pop_len a0_1 _ _ sli22 ?_
  refine pop_lss .i64 i4_1 (a0_1.n : Int) ?_
  refine condM_b (fun hb_1 => ?_) (fun hb_1 => ?_)
  · have H := H.1 hb_1
    obtain ⟨hi_2, H⟩ := H
    refine pop_index sli22 siz25 .i64 a0_1 i4_1 hi_2 ?_
    obtain ⟨t19_1, hc_1, H⟩ := H
    refine rop_one one25 (Sl.v t19_1) hc_1 ?_
    refine H.mono fun rv_2 h_3 H => ?_
    obtain ⟨t20_1, rfl, hL_3, H⟩ := H
    obtain ⟨hi_3, H⟩ := H
    refine pop_index sli22 siz25 .i64 t7_1 i4_1 hi_3 ?_
    obtain ⟨hw_1, hL_4, H⟩ := H
    refine uop_cell (v := (Sl.v t20_1)) siz25 hw_1 rfl (fun h_4 he_1 => ?_)
    rw [← he_1] at hL_4
    have H := H h_4 he_1 hL_4
    refine pop_add .i64 i4_1 1 ?_
    obtain ⟨m_1, hm_1, H⟩ := H
    exact hn_1 _ _ ⟨m_1, hm_1, (w64 (i4_1 + 1)), rfl, H, hL_4⟩
  · have H := H.2 hb_1
    exact H

/-! impl.isRun -/
def u69 (P : Program) (g0_1 : Sl) (w1_1 : Sl) (w1_2 : Int) (n2_1 : Int) (most3_1 : Int) (h : Heap) (K : Value → Heap → Prop) : Prop :=
  ∀ (b_1 : Nat) (b_2 : Nat) (h_2 : Heap), h.size ≤ b_1 → h.size ≤ b_2 → Fr (In []) h h_2 → Vars h_2 [(b_2, [(Sl.v w1_1), (VI w1_2)]), (b_1, [(Sl.v g0_1)])] →
  callM P 77 #[(Value.agg #[(Sl.v g0_1)]), (Value.agg #[(Sl.v w1_1), (VI w1_2)])] h_2 fun rv_1 h_3 => ∃ t11_1 : Bool, rv_1 = (VB t11_1) ∧ Vars h_3 [(b_2, [(Sl.v w1_1), (VI w1_2)]), (b_1, [(Sl.v g0_1)])] ∧
  (t11_1 = true →
  callM P 110 #[(VI n2_1), (VI 0), (VI most3_1)] h_3 fun rv_2 h_4 => ∃ t15_1 : Bool, rv_2 = (VB t15_1) ∧ Vars h_4 [(b_2, [(Sl.v w1_1), (VI w1_2)]), (b_1, [(Sl.v g0_1)])] ∧
  K (VB t15_1) h_4) ∧
  (t11_1 = false →
  K (VB false) h_3)
theorem v69 (g0_1 : Sl) (w1_1 : Sl) (w1_2 : Int) (n2_1 : Int) (most3_1 : Int) (h : Heap) (K : Value → Heap → Prop) (H : u69 Try.prog g0_1 w1_1 w1_2 n2_1 most3_1 h K) : callM Try.prog 69 #[(Value.agg #[(Sl.v g0_1)]), (Value.agg #[(Sl.v w1_1), (VI w1_2)]), (VI n2_1), (VI most3_1)] h K := by
  refine c69 (Value.agg #[(Sl.v g0_1)]) (Value.agg #[(Sl.v w1_1), (VI w1_2)]) (VI n2_1) (VI most3_1) h K ?_
  unfold u69 at H
  unfold t69
  have hL : Vars h [] := .nil
  refine eop_box 32 (Value.agg #[(Sl.v g0_1)]) rfl hL (fun b_1 h_1 hb_1 hf_1 hL_1 => ?_)
  refine eop_box 34 (Value.agg #[(Sl.v w1_1), (VI w1_2)]) rfl hL_1 (fun b_2 h_2 hb_2 hf_2 hL_2 => ?_)
  refine rop_locA agg32 hL_2 1 rfl 0 (vs := [(Sl.v g0_1)]) rfl rfl ?_
  refine rop_locA agg34 hL_2 0 rfl 0 (vs := [(Sl.v w1_1), (VI w1_2)]) rfl rfl ?_
  have H := H b_1 b_2 h_2 (Nat.le_trans (Fr.size (Fr.r (In []) _)) hb_1) (Nat.le_trans (Fr.size (Fr.no' (Fr.r (In []) _) hf_1)) hb_2) (Fr.no' (Fr.no' (Fr.r (In []) _) hf_1) hf_2) hL_2
  refine H.mono fun rv_1 h_3 H => ?_
  obtain ⟨t11_1, rfl, hL_3, H⟩ := H
  refine guardM_st (fun hb_3 => ?_) (fun hb_3 => ?_)
  · have H := H.1 hb_3
    refine guardM_y' hb_3 ?_
    refine guardM_y' hb_3 ?_
    refine H.mono fun rv_2 h_4 H => ?_
    obtain ⟨t15_1, rfl, hL_4, H⟩ := H
    refine pop_pickt' hb_3 ?_
    exact H
  · have H := H.2 hb_3
    refine guardM_n' hb_3 (by decide) ?_
    refine guardM_n' hb_3 (by decide) ?_
    refine pop_pickf' hb_3 ?_
    exact H

/-! (impl.Walk).copied -/
def u70 (P : Program) (w0_1 : Sl) (w0_2 : Int) (h : Heap) (K : Value → Heap → Prop) : Prop :=
  ∀ (b_1 : Nat) (b_2 : Nat) (h_2 : Heap), h.size ≤ b_1 → h.size ≤ b_2 → Fr (In []) h h_2 → Vars h_2 [(b_2, [(Sl.v nilSl), (VI 0)]), (b_1, [(Sl.v w0_1), (VI w0_2)])] →
  callM P 111 #[(Sl.v w0_1)] h_2 fun rv_1 h_3 => ∃ t5_1 : Sl, rv_1 = (Sl.v t5_1) ∧ Vars h_3 [(b_2, [(Sl.v nilSl), (VI 0)]), (b_1, [(Sl.v w0_1), (VI w0_2)])] ∧
  ∀ (h_4 : Heap), Fr (In [b_2]) h_3 h_4 → Vars h_4 [(b_2, [(Sl.v t5_1), (VI w0_2)]), (b_1, [(Sl.v w0_1), (VI w0_2)])] →
  K (Value.agg #[(Sl.v t5_1), (VI w0_2)]) h_4
theorem v70 (w0_1 : Sl) (w0_2 : Int) (h : Heap) (K : Value → Heap → Prop) (H : u70 Try.prog w0_1 w0_2 h K) : callM Try.prog 70 #[(Value.agg #[(Sl.v w0_1), (VI w0_2)])] h K := by
  refine c70 (Value.agg #[(Sl.v w0_1), (VI w0_2)]) h K ?_
  unfold u70 at H
  unfold t70
  have hL : Vars h [] := .nil
  refine eop_box 34 (Value.agg #[(Sl.v w0_1), (VI w0_2)]) rfl hL (fun b_1 h_1 hb_1 hf_1 hL_1 => ?_)
  refine eop_alloc 34 zer34 rfl hL_1 (fun b_2 h_2 hb_2 hf_2 hL_2 => ?_)
  refine pop_field 0 fld34_0 b_1 0 ?_
  refine rop_loc one25 hL_2 1 rfl 0 (v := (Sl.v w0_1)) rfl ?_
  refine pop_field 1 fld34_1 b_1 0 ?_
  refine rop_loc one3 hL_2 1 rfl 1 (v := (VI w0_2)) rfl ?_
  have H := H b_1 b_2 h_2 (Nat.le_trans (Fr.size (Fr.r (In []) _)) hb_1) (Nat.le_trans (Fr.size (Fr.no' (Fr.r (In []) _) hf_1)) hb_2) (Fr.no' (Fr.no' (Fr.r (In []) _) hf_1) hf_2) hL_2
  refine H.mono fun rv_1 h_3 H => ?_
  obtain ⟨t5_1, rfl, hL_3, H⟩ := H
  refine ⟨?_, ?_⟩
  · exact still_loc one3 hL_3 1 rfl 1 (v := (VI w0_2)) rfl
  refine pop.mk' (v := (Value.agg #[(Sl.v t5_1), (VI w0_2)])) (fun w => by kernel_rfl) ?_
  refine uop_loc siz34 hL_3 0 rfl 0 [(Sl.v t5_1), (VI w0_2)] rfl rfl rfl (Nat.le_of_ble_eq_true rfl) (L' := [(b_2, [(Sl.v t5_1), (VI w0_2)]), (b_1, [(Sl.v w0_1), (VI w0_2)])]) rfl (fun h_4 hf_3 hL_4 => ?_)
  refine rop_locA agg34 hL_4 0 rfl 0 (vs := [(Sl.v t5_1), (VI w0_2)]) rfl rfl ?_
  have H := H  h_4  (Fr.old (Fr.r (In []) _) hf_3) hL_4
  exact H

/-! (impl.Graph).zeros -/
def u71 (P : Program) (g0_1 : Sl) (h : Heap) (K : Value → Heap → Prop) : Prop :=
  ∀ (b_1 : Nat) (h_1 : Heap), h.size ≤ b_1 → Fr (In []) h h_1 → Vars h_1 [(b_1, [(Sl.v g0_1)])] →
  eop P (Instr.buildSlice 22 0 #[]) h_1 fun rv_1 h_2 => ∃ t6_1 : Sl, rv_1 = (Sl.v t6_1) ∧ Vars h_2 [(b_1, [(Sl.v g0_1)])] ∧
  ∃ J_1 : Nat → Sl → Int → Heap → Prop, (∃ n0 : Nat, J_1 n0 t6_1 0 h_2) ∧
  ∀ (n_1 : Nat) (out3_1 : Sl) (t10_1 : Int) (h_3 : Heap), J_1 n_1 out3_1 t10_1 h_3 → Vars h_3 [(b_1, [(Sl.v g0_1)])] →
  ((decide (t10_1 < (g0_1.n : Int))) = true →
  InB g0_1 t10_1 ∧
  ∃ t13_1 : Sl, hcell h_3 (Sl.at g0_1 t10_1 1) = some (Sl.v t13_1) ∧
  eop P (Instr.makeSlice 25 (VI (t13_1.n : Int)) (VI (t13_1.n : Int))) h_3 fun rv_2 h_4 => ∃ t17_1 : Sl, rv_2 = (Sl.v t17_1) ∧ Vars h_4 [(b_1, [(Sl.v g0_1)])] ∧
  eop P (Instr.buildSlice 22 1 #[(0, (Sl.v t17_1))]) h_4 fun rv_3 h_5 => ∃ t18_1 : Sl, rv_3 = (Sl.v t18_1) ∧ Vars h_5 [(b_1, [(Sl.v g0_1)])] ∧
  eop P (appS 22 22 22 (Sl.v out3_1) (Sl.v t18_1)) h_5 fun rv_4 h_6 => ∃ t19_1 : Sl, rv_4 = (Sl.v t19_1) ∧ Vars h_6 [(b_1, [(Sl.v g0_1)])] ∧
  ∃ m : Nat, m < n_1 ∧ J_1 m t19_1 (w64 (t10_1 + 1)) h_6) ∧
  ((decide (t10_1 < (g0_1.n : Int))) = false →
  K (Sl.v out3_1) h_3)
theorem v71 (g0_1 : Sl) (h : Heap) (K : Value → Heap → Prop) (H : u71 Try.prog g0_1 h K) : callM Try.prog 71 #[(Value.agg #[(Sl.v g0_1)])] h K := by
  refine c71 (Value.agg #[(Sl.v g0_1)]) h K ?_
  unfold u71 at H
  unfold t71
  have hL : Vars h [] := .nil
  refine eop_box 32 (Value.agg #[(Sl.v g0_1)]) rfl hL (fun b_1 h_1 hb_1 hf_1 hL_1 => ?_)
  have H := H b_1 h_1 (Nat.le_trans (Fr.size (Fr.r (In []) _)) hb_1) (Fr.no' (Fr.r (In []) _) hf_1) hL_1
  refine H.mono fun rv_1 h_2 H => ?_
  obtain ⟨t6_1, rfl, hL_2, H⟩ := H
  refine pop_field 0 fld32_0 b_1 0 ?_
  refine rop_loc one22 hL_2 0 rfl 0 (v := (Sl.v g0_1)) rfl ?_
  refine pop_len g0_1 _ _ sli22 ?_
  obtain ⟨J_1, ⟨n_2, h0_1⟩, HB_1⟩ := H
  refine loop_intro (J := fun (n : Nat) (vs : List Value) (h' : Heap) => ∃ out3_1 : Sl, ∃ t10_1 : Int, vs = [(Sl.v out3_1), (VI t10_1)] ∧ J_1 n out3_1 t10_1 h' ∧ Vars h' [(b_1, [(Sl.v g0_1)])]) n_2 ⟨t6_1, 0, rfl, h0_1, hL_2⟩ ?_
  intro I_1 mu_1 hI_1 junk_1 tv_1 tv_2 h_3 hi_1
  obtain ⟨n_1, ⟨out3_1, t10_1, hv, hJ_1, hL_3⟩, hn_1⟩ := hI_1 _ _ hi_1
  cases hv
  have H := HB_1 n_1 out3_1 t10_1 h_3 hJ_1 hL_3
  refine pop_lss .i64 t10_1 (g0_1.n : Int) ?_
  refine condM_b (fun hb_2 => ?_) (fun hb_2 => ?_)
  · have H := H.1 hb_2
    obtain ⟨hi_2, H⟩ := H
    refine pop_index sli22 siz25 .i64 g0_1 t10_1 hi_2 ?_
    obtain ⟨t13_1, hc_1, H⟩ := H
    refine rop_one one25 (Sl.v t13_1) hc_1 ?_
    refine pop_len t13_1 _ _ sli25 ?_
    refine H.mono fun rv_2 h_4 H => ?_
    obtain ⟨t17_1, rfl, hL_4, H⟩ := H
    refine H.mono fun rv_3 h_5 H => ?_
    obtain ⟨t18_1, rfl, hL_5, H⟩ := H
    refine H.mono fun rv_4 h_6 H => ?_
    obtain ⟨t19_1, rfl, hL_6, H⟩ := H
    refine pop_add .i64 t10_1 1 ?_
    obtain ⟨m_1, hm_1, H⟩ := H
    exact hn_1 _ _ ⟨m_1, hm_1, t19_1, (w64 (t10_1 + 1)), rfl, H, hL_6⟩
  · have H := H.2 hb_2
    exact H

/-! (impl.Graph).run -/
def u72 (P : Program) (g0_1 : Sl) (b_1 : Nat) (w1_1 : Sl) (w1_2 : Int) (n2_1 : Int) (with3_1 : Value) (h : Heap) (K : Value → Heap → Prop) : Prop :=
  ∀ (b_2 : Nat) (h_1 : Heap), h.size ≤ b_2 → Fr (In []) h h_1 → Vars h_1 [(b_2, [(Sl.v g0_1)]), (b_1, [(Sl.v w1_1), (VI w1_2)])] →
  ∃ J_1 : Nat → Int → Sl → Int → Heap → Prop, (∃ n0 : Nat, J_1 n0 0 w1_1 w1_2 h_1) ∧
  ∀ (n_1 : Nat) (t11_1 : Int) (x_1 : Sl) (x_2 : Int) (h_2 : Heap), J_1 n_1 t11_1 x_1 x_2 h_2 → Vars h_2 [(b_2, [(Sl.v g0_1)]), (b_1, [(Sl.v x_1), (VI x_2)])] →
  ((decide (t11_1 < n2_1)) = true →
  callM P 112 #[(Value.agg #[(Sl.v g0_1)]), (VP b_1 0)] h_2 fun rv_1 h_3 => ∃ x_3 : Sl, ∃ x_4 : Int, ∃ t19_1 : Bool, rv_1 = (VB t19_1) ∧ Vars h_3 [(b_2, [(Sl.v g0_1)]), (b_1, [(Sl.v x_3), (VI x_4)])] ∧
  ((!t19_1) = true →
  K (VB false) h_3) ∧
  ((!t19_1) = false →
  callV P with3_1 [(VI x_2)] h_3 fun rv_2 h_4 => Vars h_4 [(b_2, [(Sl.v g0_1)]), (b_1, [(Sl.v x_3), (VI x_4)])] ∧
  ∃ m : Nat, m < n_1 ∧ J_1 m (w64 (t11_1 + 1)) x_3 x_4 h_4)) ∧
  ((decide (t11_1 < n2_1)) = false →
  K (VB true) h_2)
theorem v72 (g0_1 : Sl) (b_1 : Nat) (w1_1 : Sl) (w1_2 : Int) (n2_1 : Int) (with3_1 : Value) (h : Heap) (K : Value → Heap → Prop) (hL : Vars h [(b_1, [(Sl.v w1_1), (VI w1_2)])]) (H : u72 Try.prog g0_1 b_1 w1_1 w1_2 n2_1 with3_1 h K) : callM Try.prog 72 #[(Value.agg #[(Sl.v g0_1)]), (VP b_1 0), (VI n2_1), with3_1] h K := by
  refine c72 (Value.agg #[(Sl.v g0_1)]) (VP b_1 0) (VI n2_1) with3_1 h K ?_
  unfold u72 at H
  unfold t72
  refine eop_box 32 (Value.agg #[(Sl.v g0_1)]) rfl hL (fun b_2 h_1 hb_1 hf_1 hL_1 => ?_)
  have H := H b_2 h_1 (Nat.le_trans (Fr.size (Fr.r (In []) _)) hb_1) (Fr.no' (Fr.r (In []) _) hf_1) hL_1
  obtain ⟨J_1, ⟨n_2, h0_1⟩, HB_1⟩ := H
  refine loop_intro (J := fun (n : Nat) (vs : List Value) (h' : Heap) => ∃ t11_1 : Int, ∃ x_1 : Sl, ∃ x_2 : Int, vs = [(VI t11_1)] ∧ J_1 n t11_1 x_1 x_2 h' ∧ Vars h' [(b_2, [(Sl.v g0_1)]), (b_1, [(Sl.v x_1), (VI x_2)])]) n_2 ⟨0, w1_1, w1_2, rfl, h0_1, hL_1⟩ ?_
  intro I_1 mu_1 hI_1 junk_1 tv_1 h_2 hi_1
  obtain ⟨n_1, ⟨t11_1, x_1, x_2, hv, hJ_1, hL_2⟩, hn_1⟩ := hI_1 _ _ hi_1
  cases hv
  have H := HB_1 n_1 t11_1 x_1 x_2 h_2 hJ_1 hL_2
  refine pop_lss .i64 t11_1 n2_1 ?_
  refine condM_b (fun hb_2 => ?_) (fun hb_2 => ?_)
  · have H := H.1 hb_2
    refine pop_nil _ ?_
    refine pop_field 1 fld34_1 b_1 0 ?_
    refine rop_loc one3 hL_2 1 rfl 1 (v := (VI x_2)) rfl ?_
    refine rop_locA agg32 hL_2 0 rfl 0 (vs := [(Sl.v g0_1)]) rfl rfl ?_
    refine H.mono fun rv_1 h_3 H => ?_
    obtain ⟨x_3, x_4, t19_1, rfl, hL_3, H⟩ := H
    refine pop_not t19_1 ?_
    refine condM_b (fun hb_3 => ?_) (fun hb_3 => ?_)
    · have H := H.1 hb_3
      exact H
    · have H := H.2 hb_3
      refine H.mono fun rv_2 h_4 H => ?_
      obtain ⟨hL_4, H⟩ := H
      refine pop_add .i64 t11_1 1 ?_
      obtain ⟨m_1, hm_1, H⟩ := H
      exact hn_1 _ _ ⟨m_1, hm_1, (w64 (t11_1 + 1)), x_3, x_4, rfl, H, hL_4⟩
  · have H := H.2 hb_2
    exact H

/-! impl.UsesOf$1 -/
def u73 (P : Program) (from0_1 : Int) (b_1 : Nat) (t1_1 : Sl) (b_2 : Nat) (t2_1 : Sl) (t2_2 : Int) (h : Heap) (K : Value → Heap → Prop) : Prop :=
  InB t1_1 from0_1 ∧
  ∃ t7_1 : Sl, hcell h (Sl.at t1_1 from0_1 1) = some (Sl.v t7_1) ∧
  InB t2_1 from0_1 ∧
  ∃ t12_1 : Int, hcell h (Sl.at t2_1 from0_1 1) = some (VI t12_1) ∧
  InB t7_1 t12_1 ∧
  ∃ t14_1 : Int, hcell h (Sl.at t7_1 t12_1 1) = some (VI t14_1) ∧
  InB t7_1 t12_1 ∧
  Writable h (Sl.at t7_1 t12_1 1) ∧ Vars (hset h (Sl.at t7_1 t12_1 1) (VI (w64 (t14_1 + 1)))) [(b_1, [(Sl.v t1_1)]), (b_2, [(Sl.v t2_1), (VI t2_2)])] ∧
  ∀ h_1 : Heap, h_1 = hset h (Sl.at t7_1 t12_1 1) (VI (w64 (t14_1 + 1))) → Vars h_1 [(b_1, [(Sl.v t1_1)]), (b_2, [(Sl.v t2_1), (VI t2_2)])] →
  K (Value.tuple #[]) h_1
theorem v73 (from0_1 : Int) (b_1 : Nat) (t1_1 : Sl) (b_2 : Nat) (t2_1 : Sl) (t2_2 : Int) (h : Heap) (K : Value → Heap → Prop) (hL : Vars h [(b_1, [(Sl.v t1_1)]), (b_2, [(Sl.v t2_1), (VI t2_2)])]) (H : u73 Try.prog from0_1 b_1 t1_1 b_2 t2_1 t2_2 h K) : callM Try.prog 73 #[(VI from0_1), (VP b_1 0), (VP b_2 0)] h K := by
  refine c73 (VI from0_1) (VP b_1 0) (VP b_2 0) h K ?_
  unfold u73 at H
  unfold t73
  refine rop_loc one22 hL 0 rfl 0 (v := (Sl.v t1_1)) rfl ?_
  obtain ⟨hi_1, H⟩ := H
  refine pop_index sli22 siz25 .i64 t1_1 from0_1 hi_1 ?_
  obtain ⟨t7_1, hc_3, H⟩ := H
  refine rop_one one25 (Sl.v t7_1) hc_3 ?_
  refine pop_field 0 fld34_0 b_2 0 ?_
  refine rop_loc one25 hL 1 rfl 0 (v := (Sl.v t2_1)) rfl ?_
  obtain ⟨hi_2, H⟩ := H
  refine pop_index sli25 siz3 .i64 t2_1 from0_1 hi_2 ?_
  obtain ⟨t12_1, hc_2, H⟩ := H
  refine rop_one one3 (VI t12_1) hc_2 ?_
  obtain ⟨hi_3, H⟩ := H
  refine pop_index sli25 siz3 .i64 t7_1 t12_1 hi_3 ?_
  obtain ⟨t14_1, hc_1, H⟩ := H
  refine rop_one one3 (VI t14_1) hc_1 ?_
  refine pop_add .i64 t14_1 1 ?_
  obtain ⟨hi_4, H⟩ := H
  refine pop_index sli25 siz3 .i64 t7_1 t12_1 hi_4 ?_
  obtain ⟨hw_1, hL_1, H⟩ := H
  refine uop_cell (v := (VI (w64 (t14_1 + 1)))) siz3 hw_1 rfl (fun h_1 he_1 => ?_)
  rw [← he_1] at hL_1
  have H := H h_1 he_1 hL_1
  exact H

/-! spec.waGood -/
def u74 (P : Program) (g0_1 : Sl) (w1_1 : Sl) (w1_2 : Int) (h : Heap) (K : Value → Heap → Prop) : Prop :=
  ∀ (b_1 : Nat) (b_2 : Nat) (h_2 : Heap), h.size ≤ b_1 → h.size ≤ b_2 → Fr (In []) h h_2 → Vars h_2 [(b_2, [(Sl.v w1_1), (VI w1_2)]), (b_1, [(Sl.v g0_1)])] →
  callM P 81 #[(Value.agg #[(Sl.v g0_1)]), (VI w1_2)] h_2 fun rv_1 h_3 => ∃ t10_1 : Bool, rv_1 = (VB t10_1) ∧ Vars h_3 [(b_2, [(Sl.v w1_1), (VI w1_2)]), (b_1, [(Sl.v g0_1)])] ∧
  ((!t10_1) = true →
  K (VB false) h_3) ∧
  ((!t10_1) = false →
  ((!decide ((w1_1.n : Int) = (g0_1.n : Int))) = true →
  K (VB false) h_3) ∧
  ((!decide ((w1_1.n : Int) = (g0_1.n : Int))) = false →
  ∃ J_1 : Nat → Int → Heap → Prop, (∃ n0 : Nat, J_1 n0 0 h_3) ∧
  ∀ (n_1 : Nat) (t24_1 : Int) (h_4 : Heap), J_1 n_1 t24_1 h_4 → Vars h_4 [(b_2, [(Sl.v w1_1), (VI w1_2)]), (b_1, [(Sl.v g0_1)])] →
  ((decide (t24_1 < (g0_1.n : Int))) = true →
  InB g0_1 t24_1 ∧
  ∃ t28_1 : Sl, hcell h_4 (Sl.at g0_1 t24_1 1) = some (Sl.v t28_1) ∧
  InB w1_1 t24_1 ∧
  ∃ t33_1 : Int, hcell h_4 (Sl.at w1_1 t24_1 1) = some (VI t33_1) ∧
  callM P 113 #[(VI 0), (VI (w64 ((t28_1.n : Int) - 1)))] h_4 fun rv_2 h_5 => ∃ t37_1 : Int, rv_2 = (VI t37_1) ∧ Vars h_5 [(b_2, [(Sl.v w1_1), (VI w1_2)]), (b_1, [(Sl.v g0_1)])] ∧
  hcell h_5 (Sl.at w1_1 t24_1 1) = some (VI t33_1) ∧
  callM P 109 #[(VI t33_1), (VI 0), (VI t37_1)] h_5 fun rv_3 h_6 => ∃ t38_1 : Bool, rv_3 = (VB t38_1) ∧ Vars h_6 [(b_2, [(Sl.v w1_1), (VI w1_2)]), (b_1, [(Sl.v g0_1)])] ∧
  ((!t38_1) = true →
  K (VB false) h_6) ∧
  ((!t38_1) = false →
  ∃ m : Nat, m < n_1 ∧ J_1 m (w64 (t24_1 + 1)) h_6)) ∧
  ((decide (t24_1 < (g0_1.n : Int))) = false →
  K (VB true) h_4)))
theorem v74 (g0_1 : Sl) (w1_1 : Sl) (w1_2 : Int) (h : Heap) (K : Value → Heap → Prop) (H : u74 Try.prog g0_1 w1_1 w1_2 h K) : callM Try.prog 74 #[(Value.agg #[(Sl.v g0_1)]), (Value.agg #[(Sl.v w1_1), (VI w1_2)])] h K := by
  refine c74 (Value.agg #[(Sl.v g0_1)]) (Value.agg #[(Sl.v w1_1), (VI w1_2)]) h K ?_
  unfold u74 at H
  unfold t74
  have hL : Vars h [] := .nil
  refine eop_box 32 (Value.agg #[(Sl.v g0_1)]) rfl hL (fun b_1 h_1 hb_1 hf_1 hL_1 => ?_)
  refine eop_box 34 (Value.agg #[(Sl.v w1_1), (VI w1_2)]) rfl hL_1 (fun b_2 h_2 hb_2 hf_2 hL_2 => ?_)
  refine rop_locA agg32 hL_2 1 rfl 0 (vs := [(Sl.v g0_1)]) rfl rfl ?_
  refine pop_field 1 fld34_1 b_2 0 ?_
  refine rop_loc one3 hL_2 0 rfl 1 (v := (VI w1_2)) rfl ?_
  have H := H b_1 b_2 h_2 (Nat.le_trans (Fr.size (Fr.r (In []) _)) hb_1) (Nat.le_trans (Fr.size (Fr.no' (Fr.r (In []) _) hf_1)) hb_2) (Fr.no' (Fr.no' (Fr.r (In []) _) hf_1) hf_2) hL_2
  refine H.mono fun rv_1 h_3 H => ?_
  obtain ⟨t10_1, rfl, hL_3, H⟩ := H
  refine pop_not t10_1 ?_
  refine guardM_sf (fun hb_3 => ?_) (fun hb_3 => ?_)
  · have H := H.2 hb_3
    refine pop_field 0 fld34_0 b_2 0 ?_
    refine guardM_y' hb_3 ?_
    refine rop_loc one25 hL_3 0 rfl 0 (v := (Sl.v w1_1)) rfl ?_
    refine guardM_y' hb_3 ?_
    refine pop_len w1_1 _ _ sli25 ?_
    refine guardM_y' hb_3 ?_
    refine pop_field 0 fld32_0 b_1 0 ?_
    refine guardM_y' hb_3 ?_
    refine rop_loc one22 hL_3 1 rfl 0 (v := (Sl.v g0_1)) rfl ?_
    refine guardM_y' hb_3 ?_
    refine pop_len g0_1 _ _ sli22 ?_
    refine guardM_y' hb_3 ?_
    refine pop_ine .i64 _ _ (w1_1.n : Int) (g0_1.n : Int) ?_
    refine pop_pickf' hb_3 ?_
    refine condM_b (fun hb_4 => ?_) (fun hb_4 => ?_)
    · have H := H.1 hb_4
      exact H
    · have H := H.2 hb_4
      refine pop_field 0 fld32_0 b_1 0 ?_
      refine rop_loc one22 hL_3 1 rfl 0 (v := (Sl.v g0_1)) rfl ?_
      refine pop_len g0_1 _ _ sli22 ?_
      obtain ⟨J_1, ⟨n_2, h0_1⟩, HB_1⟩ := H
      refine loop_intro (J := fun (n : Nat) (vs : List Value) (h' : Heap) => ∃ t24_1 : Int, vs = [(VI t24_1)] ∧ J_1 n t24_1 h' ∧ Vars h' [(b_2, [(Sl.v w1_1), (VI w1_2)]), (b_1, [(Sl.v g0_1)])]) n_2 ⟨0, rfl, h0_1, hL_3⟩ ?_
      intro I_1 mu_1 hI_1 junk_1 tv_1 h_4 hi_1
      obtain ⟨n_1, ⟨t24_1, hv, hJ_1, hL_4⟩, hn_1⟩ := hI_1 _ _ hi_1
      cases hv
      have H := HB_1 n_1 t24_1 h_4 hJ_1 hL_4
      refine pop_lss .i64 t24_1 (g0_1.n : Int) ?_
      refine condM_b (fun hb_5 => ?_) (fun hb_5 => ?_)
      · have H := H.1 hb_5
        obtain ⟨hi_2, H⟩ := H
        refine pop_index sli22 siz25 .i64 g0_1 t24_1 hi_2 ?_
        obtain ⟨t28_1, hc_3, H⟩ := H
        refine rop_one one25 (Sl.v t28_1) hc_3 ?_
        refine pop_field 0 fld34_0 b_2 0 ?_
        refine rop_loc one25 hL_4 0 rfl 0 (v := (Sl.v w1_1)) rfl ?_
        obtain ⟨hi_3, H⟩ := H
        refine pop_index sli25 siz3 .i64 w1_1 t24_1 hi_3 ?_
        obtain ⟨t33_1, hc_2, H⟩ := H
        refine rop_one one3 (VI t33_1) hc_2 ?_
        refine pop_len t28_1 _ _ sli25 ?_
        refine pop_sub .i64 (t28_1.n : Int) 1 ?_
        refine H.mono fun rv_2 h_5 H => ?_
        obtain ⟨t37_1, rfl, hL_5, H⟩ := H
        refine ⟨?_, ?_⟩
        · exact still_one one3 H.1
        obtain ⟨hc_1, H⟩ := H
        refine ⟨?_, ?_⟩
        · exact still_loc one25 hL_5 0 rfl 0 (v := (Sl.v w1_1)) rfl
        refine H.mono fun rv_3 h_6 H => ?_
        obtain ⟨t38_1, rfl, hL_6, H⟩ := H
        refine ⟨?_, ?_⟩
        · exact still_loc one25 hL_6 0 rfl 0 (v := (Sl.v w1_1)) rfl
        refine pop_not t38_1 ?_
        refine condM_b (fun hb_6 => ?_) (fun hb_6 => ?_)
        · have H := H.1 hb_6
          exact H
        · have H := H.2 hb_6
          refine pop_add .i64 t24_1 1 ?_
          obtain ⟨m_1, hm_1, H⟩ := H
          exact hn_1 _ _ ⟨m_1, hm_1, (w64 (t24_1 + 1)), rfl, H, hL_6⟩
      · have H := H.2 hb_5
        exact H
  · have H := H.1 hb_3
    refine guardM_n' hb_3 (by decide) ?_
    refine guardM_n' hb_3 (by decide) ?_
    refine guardM_n' hb_3 (by decide) ?_
    refine guardM_n' hb_3 (by decide) ?_
    refine guardM_n' hb_3 (by decide) ?_
    refine guardM_n' hb_3 (by decide) ?_
    refine pop_pickt' hb_3 ?_
    refine condM_t ?_
    exact H

/-! spec.waStep -/
def u76 (P : Program) (g0_1 : Sl) (w1_1 : Sl) (w1_2 : Int) (h : Heap) (K : Value → Heap → Prop) : Prop :=
  InB g0_1 w1_2 ∧
  ∀ (b_1 : Nat) (b_2 : Nat) (b_3 : Nat) (h_3 : Heap), h.size ≤ b_1 → h.size ≤ b_2 → h.size ≤ b_3 → Fr (In []) h h_3 → Vars h_3 [(b_3, [(Sl.v nilSl), (VI 0)]), (b_2, [(Sl.v w1_1), (VI w1_2)]), (b_1, [(Sl.v g0_1)])] →
  ∃ t14_1 : Sl, hcell h_3 (Sl.at g0_1 w1_2 1) = some (Sl.v t14_1) ∧
  ((decide ((t14_1.n : Int) = 0)) = true →
  ∀ (h_4 : Heap), Fr (In [b_3]) h_3 h_4 → Vars h_4 [(b_3, [(Sl.v w1_1), (VI w1_2)]), (b_2, [(Sl.v w1_1), (VI w1_2)]), (b_1, [(Sl.v g0_1)])] →
  K (Value.tuple #[(Value.agg #[(Sl.v w1_1), (VI w1_2)]), (VB false)]) h_4) ∧
  ((decide ((t14_1.n : Int) = 0)) = false →
  callM P 116 #[(Sl.v w1_1)] h_3 fun rv_1 h_5 => ∃ t21_1 : Sl, rv_1 = (Sl.v t21_1) ∧ Vars h_5 [(b_3, [(Sl.v nilSl), (VI 0)]), (b_2, [(Sl.v w1_1), (VI w1_2)]), (b_1, [(Sl.v g0_1)])] ∧
  InB w1_1 w1_2 ∧
  ∀ (b_4 : Nat) (h_7 : Heap), h_5.size ≤ b_4 → Fr (In []) h_5 h_7 → Vars h_7 [(b_4, [(Sl.v t21_1), (VI 0)]), (b_3, [(Sl.v nilSl), (VI 0)]), (b_2, [(Sl.v w1_1), (VI w1_2)]), (b_1, [(Sl.v g0_1)])] →
  ∃ t28_1 : Int, hcell h_7 (Sl.at w1_1 w1_2 1) = some (VI t28_1) ∧
  (t14_1.n : Int) ≠ 0 ∧
  InB t21_1 w1_2 ∧
  Writable h_7 (Sl.at t21_1 w1_2 1) ∧ Vars (hset h_7 (Sl.at t21_1 w1_2 1) (VI (Int.tmod (w64 (t28_1 + 1)) (t14_1.n : Int)))) [(b_4, [(Sl.v t21_1), (VI 0)]), (b_3, [(Sl.v nilSl), (VI 0)]), (b_2, [(Sl.v w1_1), (VI w1_2)]), (b_1, [(Sl.v g0_1)])] ∧
  ∀ h_8 : Heap, h_8 = hset h_7 (Sl.at t21_1 w1_2 1) (VI (Int.tmod (w64 (t28_1 + 1)) (t14_1.n : Int))) → Vars h_8 [(b_4, [(Sl.v t21_1), (VI 0)]), (b_3, [(Sl.v nilSl), (VI 0)]), (b_2, [(Sl.v w1_1), (VI w1_2)]), (b_1, [(Sl.v g0_1)])] →
  InB t14_1 (Int.tmod (w64 (t28_1 + 1)) (t14_1.n : Int)) ∧
  ∃ t42_1 : Int, hcell h_8 (Sl.at t14_1 (Int.tmod (w64 (t28_1 + 1)) (t14_1.n : Int)) 1) = some (VI t42_1) ∧
  ∀ (h_10 : Heap), Fr (In [b_3, b_4]) h_8 h_10 → Vars h_10 [(b_4, [(Sl.v t21_1), (VI t42_1)]), (b_3, [(Sl.v t21_1), (VI t42_1)]), (b_2, [(Sl.v w1_1), (VI w1_2)]), (b_1, [(Sl.v g0_1)])] →
  K (Value.tuple #[(Value.agg #[(Sl.v t21_1), (VI t42_1)]), (VB true)]) h_10)
theorem v76 (g0_1 : Sl) (w1_1 : Sl) (w1_2 : Int) (h : Heap) (K : Value → Heap → Prop) (H : u76 Try.prog g0_1 w1_1 w1_2 h K) : callM Try.prog 76 #[(Value.agg #[(Sl.v g0_1)]), (Value.agg #[(Sl.v w1_1), (VI w1_2)])] h K := by
  refine c76 (Value.agg #[(Sl.v g0_1)]) (Value.agg #[(Sl.v w1_1), (VI w1_2)]) h K ?_
  unfold u76 at H
  unfold t76
  have hL : Vars h [] := .nil
  refine eop_box 32 (Value.agg #[(Sl.v g0_1)]) rfl hL (fun b_1 h_1 hb_1 hf_1 hL_1 => ?_)
  refine eop_box 34 (Value.agg #[(Sl.v w1_1), (VI w1_2)]) rfl hL_1 (fun b_2 h_2 hb_2 hf_2 hL_2 => ?_)
  refine eop_alloc 34 zer34 rfl hL_2 (fun b_3 h_3 hb_3 hf_3 hL_3 => ?_)
  refine pop_field 0 fld32_0 b_1 0 ?_
  refine rop_loc one22 hL_3 2 rfl 0 (v := (Sl.v g0_1)) rfl ?_
  refine pop_field 1 fld34_1 b_2 0 ?_
  refine rop_loc one3 hL_3 1 rfl 1 (v := (VI w1_2)) rfl ?_
  obtain ⟨hi_1, H⟩ := H
  refine pop_index sli22 siz25 .i64 g0_1 w1_2 hi_1 ?_
  have H := H b_1 b_2 b_3 h_3 (Nat.le_trans (Fr.size (Fr.r (In []) _)) hb_1) (Nat.le_trans (Fr.size (Fr.no' (Fr.r (In []) _) hf_1)) hb_2) (Nat.le_trans (Fr.size (Fr.no' (Fr.no' (Fr.r (In []) _) hf_1) hf_2)) hb_3) (Fr.no' (Fr.no' (Fr.no' (Fr.r (In []) _) hf_1) hf_2) hf_3) hL_3
  obtain ⟨t14_1, hc_3, H⟩ := H
  refine rop_one one25 (Sl.v t14_1) hc_3 ?_
  refine pop_len t14_1 _ _ sli25 ?_
  refine pop_ieq .i64 _ _ (t14_1.n : Int) 0 ?_
  refine condM_b (fun hb_4 => ?_) (fun hb_4 => ?_)
  · have H := H.1 hb_4
    refine rop_locA agg34 hL_3 1 rfl 0 (vs := [(Sl.v w1_1), (VI w1_2)]) rfl rfl ?_
    refine uop_loc siz34 hL_3 0 rfl 0 [(Sl.v w1_1), (VI w1_2)] rfl rfl rfl (Nat.le_of_ble_eq_true rfl) (L' := [(b_3, [(Sl.v w1_1), (VI w1_2)]), (b_2, [(Sl.v w1_1), (VI w1_2)]), (b_1, [(Sl.v g0_1)])]) rfl (fun h_4 hf_4 hL_4 => ?_)
    refine rop_locA agg34 hL_4 0 rfl 0 (vs := [(Sl.v w1_1), (VI w1_2)]) rfl rfl ?_
    have H := H  h_4  (Fr.old (Fr.r (In []) _) hf_4) hL_4
    exact H
  · have H := H.2 hb_4
    refine pop_field 0 fld34_0 b_2 0 ?_
    refine rop_loc one25 hL_3 1 rfl 0 (v := (Sl.v w1_1)) rfl ?_
    refine H.mono fun rv_1 h_5 H => ?_
    obtain ⟨t21_1, rfl, hL_5, H⟩ := H
    refine pop.mk' (v := (Value.agg #[(Sl.v t21_1), (VI 0)])) (fun w => by kernel_rfl) ?_
    refine eop_alloc 34 zer34 rfl hL_5 (fun b_4 h_6 hb_5 hf_5 hL_6 => ?_)
    refine uop_loc siz34 hL_6 0 rfl 0 [(Sl.v t21_1), (VI 0)] rfl rfl rfl (Nat.le_of_ble_eq_true rfl) (L' := [(b_4, [(Sl.v t21_1), (VI 0)]), (b_3, [(Sl.v nilSl), (VI 0)]), (b_2, [(Sl.v w1_1), (VI w1_2)]), (b_1, [(Sl.v g0_1)])]) rfl (fun h_7 hf_6 hL_7 => ?_)
    refine pop_field 0 fld34_0 b_2 0 ?_
    refine rop_loc one25 hL_7 2 rfl 0 (v := (Sl.v w1_1)) rfl ?_
    refine pop_field 1 fld34_1 b_2 0 ?_
    refine rop_loc one3 hL_7 2 rfl 1 (v := (VI w1_2)) rfl ?_
    obtain ⟨hi_2, H⟩ := H
    refine pop_index sli25 siz3 .i64 w1_1 w1_2 hi_2 ?_
    have H := H b_4 h_7 (Nat.le_trans (Fr.size (Fr.r (In []) _)) hb_5) (Fr.new (Fr.no' (Fr.r (In []) _) hf_5) (Nat.le_trans (Fr.size (Fr.r (In []) _)) hb_5) hf_6) hL_7
    obtain ⟨t28_1, hc_2, H⟩ := H
    refine rop_one one3 (VI t28_1) hc_2 ?_
    refine pop_add .i64 t28_1 1 ?_
    refine pop_len t14_1 _ _ sli25 ?_
    obtain ⟨hz_1, H⟩ := H
    refine pop_rem .i64 (w64 (t28_1 + 1)) (t14_1.n : Int) hz_1 ?_
    refine pop_field 0 fld34_0 b_4 0 ?_
    refine rop_loc one25 hL_7 0 rfl 0 (v := (Sl.v t21_1)) rfl ?_
    refine pop_field 1 fld34_1 b_2 0 ?_
    refine rop_loc one3 hL_7 2 rfl 1 (v := (VI w1_2)) rfl ?_
    obtain ⟨hi_3, H⟩ := H
    refine pop_index sli25 siz3 .i64 t21_1 w1_2 hi_3 ?_
    obtain ⟨hw_1, hL_8, H⟩ := H
    refine uop_cell (v := (VI (Int.tmod (w64 (t28_1 + 1)) (t14_1.n : Int)))) siz3 hw_1 rfl (fun h_8 he_1 => ?_)
    rw [← he_1] at hL_8
    have H := H h_8 he_1 hL_8
    obtain ⟨hi_4, H⟩ := H
    refine pop_index sli25 siz3 .i64 t14_1 (Int.tmod (w64 (t28_1 + 1)) (t14_1.n : Int)) hi_4 ?_
    obtain ⟨t42_1, hc_1, H⟩ := H
    refine rop_one one3 (VI t42_1) hc_1 ?_
    refine pop_field 1 fld34_1 b_4 0 ?_
    refine uop_loc siz3 hL_8 0 rfl 1 [(VI t42_1)] rfl rfl rfl (Nat.le_of_ble_eq_true rfl) (L' := [(b_4, [(Sl.v t21_1), (VI t42_1)]), (b_3, [(Sl.v nilSl), (VI 0)]), (b_2, [(Sl.v w1_1), (VI w1_2)]), (b_1, [(Sl.v g0_1)])]) rfl (fun h_9 hf_7 hL_9 => ?_)
    refine rop_locA agg34 hL_9 0 rfl 0 (vs := [(Sl.v t21_1), (VI t42_1)]) rfl rfl ?_
    refine uop_loc siz34 hL_9 1 rfl 0 [(Sl.v t21_1), (VI t42_1)] rfl rfl rfl (Nat.le_of_ble_eq_true rfl) (L' := [(b_4, [(Sl.v t21_1), (VI t42_1)]), (b_3, [(Sl.v t21_1), (VI t42_1)]), (b_2, [(Sl.v w1_1), (VI w1_2)]), (b_1, [(Sl.v g0_1)])]) rfl (fun h_10 hf_8 hL_10 => ?_)
    refine rop_locA agg34 hL_10 1 rfl 0 (vs := [(Sl.v t21_1), (VI t42_1)]) rfl rfl ?_
    have H := H  h_10  (Fr.old (Fr.old (Fr.r (In []) _) hf_7) hf_8) hL_10
    exact H

/-! impl.isWalk -/
def u77 (P : Program) (g0_1 : Sl) (w1_1 : Sl) (w1_2 : Int) (h : Heap) (K : Value → Heap → Prop) : Prop :=
  ∀ (b_1 : Nat) (b_2 : Nat) (h_2 : Heap), h.size ≤ b_1 → h.size ≤ b_2 → Fr (In []) h h_2 → Vars h_2 [(b_2, [(Sl.v w1_1), (VI w1_2)]), (b_1, [(Sl.v g0_1)])] →
  eop P (Instr.buildSlice 25 1 #[(0, (VI w1_2))]) h_2 fun rv_1 h_3 => ∃ t10_1 : Sl, rv_1 = (Sl.v t10_1) ∧ Vars h_3 [(b_2, [(Sl.v w1_1), (VI w1_2)]), (b_1, [(Sl.v g0_1)])] ∧
  callM P 85 #[(Value.agg #[(Sl.v g0_1)]), (Sl.v t10_1)] h_3 fun rv_2 h_4 => ∃ t11_1 : Bool, rv_2 = (VB t11_1) ∧ Vars h_4 [(b_2, [(Sl.v w1_1), (VI w1_2)]), (b_1, [(Sl.v g0_1)])] ∧
  ((!t11_1) = true →
  K (VB false) h_4) ∧
  ((!t11_1) = false →
  ((!decide ((w1_1.n : Int) = (g0_1.n : Int))) = true →
  K (VB false) h_4) ∧
  ((!decide ((w1_1.n : Int) = (g0_1.n : Int))) = false →
  ∃ J_1 : Nat → Int → Heap → Prop, (∃ n0 : Nat, J_1 n0 0 h_4) ∧
  ∀ (n_1 : Nat) (t25_1 : Int) (h_5 : Heap), J_1 n_1 t25_1 h_5 → Vars h_5 [(b_2, [(Sl.v w1_1), (VI w1_2)]), (b_1, [(Sl.v g0_1)])] →
  ((decide (t25_1 < (w1_1.n : Int))) = true →
  InB w1_1 t25_1 ∧
  ∃ t29_1 : Int, hcell h_5 (Sl.at w1_1 t25_1 1) = some (VI t29_1) ∧
  InB g0_1 t25_1 ∧
  ∃ t35_1 : Sl, hcell h_5 (Sl.at g0_1 t25_1 1) = some (Sl.v t35_1) ∧
  pop P (Builtin.max_ #[3, 3] 3 #[(VI (w64 ((t35_1.n : Int) - 1))), (Value.int IntKind.i64 0)]) fun rv_3 => ∃ t38_1 : Int, rv_3 = (VI t38_1) ∧ 
  callM P 110 #[(VI t29_1), (VI 0), (VI t38_1)] h_5 fun rv_4 h_6 => ∃ t39_1 : Bool, rv_4 = (VB t39_1) ∧ Vars h_6 [(b_2, [(Sl.v w1_1), (VI w1_2)]), (b_1, [(Sl.v g0_1)])] ∧
  ((!t39_1) = true →
  K (VB false) h_6) ∧
  ((!t39_1) = false →
  ∃ m : Nat, m < n_1 ∧ J_1 m (w64 (t25_1 + 1)) h_6)) ∧
  ((decide (t25_1 < (w1_1.n : Int))) = false →
  K (VB true) h_5)))
theorem v77 (g0_1 : Sl) (w1_1 : Sl) (w1_2 : Int) (h : Heap) (K : Value → Heap → Prop) (H : u77 Try.prog g0_1 w1_1 w1_2 h K) : callM Try.prog 77 #[(Value.agg #[(Sl.v g0_1)]), (Value.agg #[(Sl.v w1_1), (VI w1_2)])] h K := by
  refine c77 (Value.agg #[(Sl.v g0_1)]) (Value.agg #[(Sl.v w1_1), (VI w1_2)]) h K ?_
  unfold u77 at H
  unfold t77
  have hL : Vars h [] := .nil
  refine eop_box 32 (Value.agg #[(Sl.v g0_1)]) rfl hL (fun b_1 h_1 hb_1 hf_1 hL_1 => ?_)
  refine eop_box 34 (Value.agg #[(Sl.v w1_1), (VI w1_2)]) rfl hL_1 (fun b_2 h_2 hb_2 hf_2 hL_2 => ?_)
  refine rop_locA agg32 hL_2 1 rfl 0 (vs := [(Sl.v g0_1)]) rfl rfl ?_
  refine pop_field 1 fld34_1 b_2 0 ?_
  refine rop_loc one3 hL_2 0 rfl 1 (v := (VI w1_2)) rfl ?_
  have H := H b_1 b_2 h_2 (Nat.le_trans (Fr.size (Fr.r (In []) _)) hb_1) (Nat.le_trans (Fr.size (Fr.no' (Fr.r (In []) _) hf_1)) hb_2) (Fr.no' (Fr.no' (Fr.r (In []) _) hf_1) hf_2) hL_2
  refine H.mono fun rv_1 h_3 H => ?_
  obtain ⟨t10_1, rfl, hL_3, H⟩ := H
  refine H.mono fun rv_2 h_4 H => ?_
  obtain ⟨t11_1, rfl, hL_4, H⟩ := H
  refine pop_not t11_1 ?_
  refine guardM_sf (fun hb_3 => ?_) (fun hb_3 => ?_)
  · have H := H.2 hb_3
    refine pop_field 0 fld34_0 b_2 0 ?_
    refine guardM_y' hb_3 ?_
    refine rop_loc one25 hL_4 0 rfl 0 (v := (Sl.v w1_1)) rfl ?_
    refine guardM_y' hb_3 ?_
    refine pop_len w1_1 _ _ sli25 ?_
    refine guardM_y' hb_3 ?_
    refine pop_field 0 fld32_0 b_1 0 ?_
    refine guardM_y' hb_3 ?_
    refine rop_loc one22 hL_4 1 rfl 0 (v := (Sl.v g0_1)) rfl ?_
    refine guardM_y' hb_3 ?_
    refine pop_len g0_1 _ _ sli22 ?_
    refine guardM_y' hb_3 ?_
    refine pop_ine .i64 _ _ (w1_1.n : Int) (g0_1.n : Int) ?_
    refine pop_pickf' hb_3 ?_
    refine condM_b (fun hb_4 => ?_) (fun hb_4 => ?_)
    · have H := H.1 hb_4
      exact H
    · have H := H.2 hb_4
      refine pop_field 0 fld34_0 b_2 0 ?_
      refine rop_loc one25 hL_4 0 rfl 0 (v := (Sl.v w1_1)) rfl ?_
      refine pop_len w1_1 _ _ sli25 ?_
      obtain ⟨J_1, ⟨n_2, h0_1⟩, HB_1⟩ := H
      refine loop_intro (J := fun (n : Nat) (vs : List Value) (h' : Heap) => ∃ t25_1 : Int, vs = [(VI t25_1)] ∧ J_1 n t25_1 h' ∧ Vars h' [(b_2, [(Sl.v w1_1), (VI w1_2)]), (b_1, [(Sl.v g0_1)])]) n_2 ⟨0, rfl, h0_1, hL_4⟩ ?_
      intro I_1 mu_1 hI_1 junk_1 tv_1 h_5 hi_1
      obtain ⟨n_1, ⟨t25_1, hv, hJ_1, hL_5⟩, hn_1⟩ := hI_1 _ _ hi_1
      cases hv
      have H := HB_1 n_1 t25_1 h_5 hJ_1 hL_5
      refine pop_lss .i64 t25_1 (w1_1.n : Int) ?_
      refine condM_b (fun hb_5 => ?_) (fun hb_5 => ?_)
      · have H := H.1 hb_5
        obtain ⟨hi_2, H⟩ := H
        refine pop_index sli25 siz3 .i64 w1_1 t25_1 hi_2 ?_
        obtain ⟨t29_1, hc_2, H⟩ := H
        refine rop_one one3 (VI t29_1) hc_2 ?_
        refine pop_field 0 fld32_0 b_1 0 ?_
        refine rop_loc one22 hL_5 1 rfl 0 (v := (Sl.v g0_1)) rfl ?_
        obtain ⟨hi_3, H⟩ := H
        refine pop_index sli22 siz25 .i64 g0_1 t25_1 hi_3 ?_
        obtain ⟨t35_1, hc_1, H⟩ := H
        refine rop_one one25 (Sl.v t35_1) hc_1 ?_
        refine pop_len t35_1 _ _ sli25 ?_
        refine pop_sub .i64 (t35_1.n : Int) 1 ?_
        refine H.mono fun rv_3 H => ?_
        obtain ⟨t38_1, rfl, H⟩ := H
        refine H.mono fun rv_4 h_6 H => ?_
        obtain ⟨t39_1, rfl, hL_6, H⟩ := H
        refine pop_not t39_1 ?_
        refine condM_b (fun hb_6 => ?_) (fun hb_6 => ?_)
        · have H := H.1 hb_6
          exact H
        · have H := H.2 hb_6
          refine pop_add .i64 t25_1 1 ?_
          obtain ⟨m_1, hm_1, H⟩ := H
          exact hn_1 _ _ ⟨m_1, hm_1, (w64 (t25_1 + 1)), rfl, H, hL_6⟩
      · have H := H.2 hb_5
        exact H
  · have H := H.1 hb_3
    refine guardM_n' hb_3 (by decide) ?_
    refine guardM_n' hb_3 (by decide) ?_
    refine guardM_n' hb_3 (by decide) ?_
    refine guardM_n' hb_3 (by decide) ?_
    refine guardM_n' hb_3 (by decide) ?_
    refine guardM_n' hb_3 (by decide) ?_
    refine pop_pickt' hb_3 ?_
    refine condM_t ?_
    exact H

/-! spec.grPlace -/
def u81 (P : Program) (g0_1 : Sl) (p1_1 : Int) (h : Heap) (K : Value → Heap → Prop) : Prop :=
  ∀ (b_1 : Nat) (h_1 : Heap), h.size ≤ b_1 → Fr (In []) h h_1 → Vars h_1 [(b_1, [(Sl.v g0_1)])] →
  callM P 119 #[(Value.agg #[(Sl.v g0_1)])] h_1 fun rv_1 h_2 => ∃ t6_1 : Bool, rv_1 = (VB t6_1) ∧ Vars h_2 [(b_1, [(Sl.v g0_1)])] ∧
  (t6_1 = true →
  callM P 109 #[(VI p1_1), (VI 0), (VI (w64 ((g0_1.n : Int) - 1)))] h_2 fun rv_2 h_3 => ∃ t13_1 : Bool, rv_2 = (VB t13_1) ∧ Vars h_3 [(b_1, [(Sl.v g0_1)])] ∧
  K (VB t13_1) h_3) ∧
  (t6_1 = false →
  K (VB false) h_2)
theorem v81 (g0_1 : Sl) (p1_1 : Int) (h : Heap) (K : Value → Heap → Prop) (H : u81 Try.prog g0_1 p1_1 h K) : callM Try.prog 81 #[(Value.agg #[(Sl.v g0_1)]), (VI p1_1)] h K := by
  refine c81 (Value.agg #[(Sl.v g0_1)]) (VI p1_1) h K ?_
  unfold u81 at H
  unfold t81
  have hL : Vars h [] := .nil
  refine eop_box 32 (Value.agg #[(Sl.v g0_1)]) rfl hL (fun b_1 h_1 hb_1 hf_1 hL_1 => ?_)
  refine rop_locA agg32 hL_1 0 rfl 0 (vs := [(Sl.v g0_1)]) rfl rfl ?_
  have H := H b_1 h_1 (Nat.le_trans (Fr.size (Fr.r (In []) _)) hb_1) (Fr.no' (Fr.r (In []) _) hf_1) hL_1
  refine H.mono fun rv_1 h_2 H => ?_
  obtain ⟨t6_1, rfl, hL_2, H⟩ := H
  refine guardM_st (fun hb_2 => ?_) (fun hb_2 => ?_)
  · have H := H.1 hb_2
    refine guardM_y' hb_2 ?_
    refine pop_field 0 fld32_0 b_1 0 ?_
    refine guardM_y' hb_2 ?_
    refine rop_loc one22 hL_2 0 rfl 0 (v := (Sl.v g0_1)) rfl ?_
    refine guardM_y' hb_2 ?_
    refine pop_len g0_1 _ _ sli22 ?_
    refine guardM_y' hb_2 ?_
    refine pop_sub .i64 (g0_1.n : Int) 1 ?_
    refine guardM_y' hb_2 ?_
    refine H.mono fun rv_2 h_3 H => ?_
    obtain ⟨t13_1, rfl, hL_3, H⟩ := H
    refine pop_pickt' hb_2 ?_
    exact H
  · have H := H.2 hb_2
    refine guardM_n' hb_2 (by decide) ?_
    refine guardM_n' hb_2 (by decide) ?_
    refine guardM_n' hb_2 (by decide) ?_
    refine guardM_n' hb_2 (by decide) ?_
    refine guardM_n' hb_2 (by decide) ?_
    refine pop_pickf' hb_2 ?_
    exact H

/-! impl.has -/
def u85 (P : Program) (g0_1 : Sl) (places1_1 : Sl) (h : Heap) (K : Value → Heap → Prop) : Prop :=
  ∀ (b_1 : Nat) (h_1 : Heap), h.size ≤ b_1 → Fr (In []) h h_1 → Vars h_1 [(b_1, [(Sl.v g0_1)])] →
  callM P 122 #[(Value.agg #[(Sl.v g0_1)])] h_1 fun rv_1 h_2 => ∃ t6_1 : Bool, rv_1 = (VB t6_1) ∧ Vars h_2 [(b_1, [(Sl.v g0_1)])] ∧
  (t6_1 = true →
  callM P 106 #[(Sl.v places1_1), (Value.func (Fn.func 123) #[] #[(VP b_1 0)])] h_2 fun rv_2 h_3 => ∃ x_1 : Sl, ∃ t10_1 : Bool, rv_2 = (VB t10_1) ∧ Vars h_3 [(b_1, [(Sl.v x_1)])] ∧
  K (VB (!t10_1)) h_3) ∧
  (t6_1 = false →
  K (VB false) h_2)
theorem v85 (g0_1 : Sl) (places1_1 : Sl) (h : Heap) (K : Value → Heap → Prop) (H : u85 Try.prog g0_1 places1_1 h K) : callM Try.prog 85 #[(Value.agg #[(Sl.v g0_1)]), (Sl.v places1_1)] h K := by
  refine c85 (Value.agg #[(Sl.v g0_1)]) (Sl.v places1_1) h K ?_
  unfold u85 at H
  unfold t85
  have hL : Vars h [] := .nil
  refine eop_box 32 (Value.agg #[(Sl.v g0_1)]) rfl hL (fun b_1 h_1 hb_1 hf_1 hL_1 => ?_)
  refine rop_locA agg32 hL_1 0 rfl 0 (vs := [(Sl.v g0_1)]) rfl rfl ?_
  have H := H b_1 h_1 (Nat.le_trans (Fr.size (Fr.r (In []) _)) hb_1) (Fr.no' (Fr.r (In []) _) hf_1) hL_1
  refine H.mono fun rv_1 h_2 H => ?_
  obtain ⟨t6_1, rfl, hL_2, H⟩ := H
  refine guardM_st (fun hb_2 => ?_) (fun hb_2 => ?_)
  · have H := H.1 hb_2
    refine guardM_y' hb_2 ?_
    refine pop_func _ _ _ ?_
    refine guardM_y' hb_2 ?_
    refine H.mono fun rv_2 h_3 H => ?_
    obtain ⟨x_1, t10_1, rfl, hL_3, H⟩ := H
    refine guardM_y' hb_2 ?_
    refine pop_not t10_1 ?_
    refine pop_pickt' hb_2 ?_
    exact H
  · have H := H.2 hb_2
    refine guardM_n' hb_2 (by decide) ?_
    refine guardM_n' hb_2 (by decide) ?_
    refine guardM_n' hb_2 (by decide) ?_
    refine pop_pickf' hb_2 ?_
    exact H

/-! spec.l1All -/
def u97 (P : Program) (l0_1 : Sl) (lo1_1 : Int) (hi2_1 : Int) (h : Heap) (K : Value → Heap → Prop) : Prop :=
  ∃ J_1 : Nat → Int → Heap → Prop, (∃ n0 : Nat, J_1 n0 0 h) ∧
  ∀ (n_1 : Nat) (t11_1 : Int) (h_1 : Heap), J_1 n_1 t11_1 h_1 → Vars h_1 [] →
  ((decide (t11_1 < (l0_1.n : Int))) = true →
  InB l0_1 t11_1 ∧
  ∃ t14_1 : Int, hcell h_1 (Sl.at l0_1 t11_1 1) = some (VI t14_1) ∧
  callM P 109 #[(VI t14_1), (VI lo1_1), (VI hi2_1)] h_1 fun rv_1 h_2 => ∃ t18_1 : Bool, rv_1 = (VB t18_1) ∧ Vars h_2 [] ∧
  ((!t18_1) = true →
  K (VB false) h_2) ∧
  ((!t18_1) = false →
  ∃ m : Nat, m < n_1 ∧ J_1 m (w64 (t11_1 + 1)) h_2)) ∧
  ((decide (t11_1 < (l0_1.n : Int))) = false →
  K (VB true) h_1)
theorem v97 (l0_1 : Sl) (lo1_1 : Int) (hi2_1 : Int) (h : Heap) (K : Value → Heap → Prop) (H : u97 Try.prog l0_1 lo1_1 hi2_1 h K) : callM Try.prog 97 #[(Sl.v l0_1), (VI lo1_1), (VI hi2_1)] h K := by
  refine c97 (Sl.v l0_1) (VI lo1_1) (VI hi2_1) h K ?_
  unfold u97 at H
  unfold t97
  have hL : Vars h [] := .nil
  refine pop_len l0_1 _ _ sli25 ?_
  obtain ⟨J_1, ⟨n_2, h0_1⟩, HB_1⟩ := H
  refine loop_intro (J := fun (n : Nat) (vs : List Value) (h' : Heap) => ∃ t11_1 : Int, vs = [(VI t11_1)] ∧ J_1 n t11_1 h' ∧ Vars h' []) n_2 ⟨0, rfl, h0_1, hL⟩ ?_
  intro I_1 mu_1 hI_1 junk_1 tv_1 h_1 hi_1
  obtain ⟨n_1, ⟨t11_1, hv, hJ_1, hL_1⟩, hn_1⟩ := hI_1 _ _ hi_1
  cases hv
  have H := HB_1 n_1 t11_1 h_1 hJ_1 hL_1
  refine pop_lss .i64 t11_1 (l0_1.n : Int) ?_
  refine condM_b (fun hb_1 => ?_) (fun hb_1 => ?_)
  · have H := H.1 hb_1
    obtain ⟨hi_2, H⟩ := H
    refine pop_index sli25 siz3 .i64 l0_1 t11_1 hi_2 ?_
    obtain ⟨t14_1, hc_1, H⟩ := H
    refine rop_one one3 (VI t14_1) hc_1 ?_
    refine H.mono fun rv_1 h_2 H => ?_
    obtain ⟨t18_1, rfl, hL_2, H⟩ := H
    refine pop_not t18_1 ?_
    refine condM_b (fun hb_2 => ?_) (fun hb_2 => ?_)
    · have H := H.1 hb_2
      exact H
    · have H := H.2 hb_2
      refine pop_add .i64 t11_1 1 ?_
      obtain ⟨m_1, hm_1, H⟩ := H
      exact hn_1 _ _ ⟨m_1, hm_1, (w64 (t11_1 + 1)), rfl, H, hL_2⟩
  · have H := H.2 hb_1
    exact H

/-! slices.ContainsFunc[[]int,int] -/
def u106 (P : Program) (s0_1 : Sl) (f1_1 : Value) (h : Heap) (K : Value → Heap → Prop) : Prop :=
  callM P 138 #[(Sl.v s0_1), f1_1] h fun rv_1 h_1 => ∃ t7_1 : Int, rv_1 = (VI t7_1) ∧ Vars h_1 [] ∧
  K (VB (decide (0 ≤ t7_1))) h_1
theorem v106 (s0_1 : Sl) (f1_1 : Value) (h : Heap) (K : Value → Heap → Prop) (H : u106 Try.prog s0_1 f1_1 h K) : callM Try.prog 106 #[(Sl.v s0_1), f1_1] h K := by
  refine c106 (Sl.v s0_1) f1_1 h K ?_
  unfold u106 at H
  unfold t106
  have hL : Vars h [] := .nil
  refine H.mono fun rv_1 h_1 H => ?_
  obtain ⟨t7_1, rfl, hL_1, H⟩ := H
  refine pop_geq .i64 t7_1 0 ?_
  exact H

/-! spec.l1In -/
def u109 (P : Program) (n0_1 : Int) (lo1_1 : Int) (hi2_1 : Int) (h : Heap) (K : Value → Heap → Prop) : Prop :=
  ((decide (lo1_1 ≤ n0_1)) = true →
  K (VB (decide (n0_1 ≤ hi2_1))) h) ∧
  ((decide (lo1_1 ≤ n0_1)) = false →
  K (VB false) h)
theorem v109 (n0_1 : Int) (lo1_1 : Int) (hi2_1 : Int) (h : Heap) (K : Value → Heap → Prop) (H : u109 Try.prog n0_1 lo1_1 hi2_1 h K) : callM Try.prog 109 #[(VI n0_1), (VI lo1_1), (VI hi2_1)] h K := by
  refine c109 (VI n0_1) (VI lo1_1) (VI hi2_1) h K ?_
  unfold u109 at H
  unfold t109
  have hL : Vars h [] := .nil
  refine pop_geq .i64 n0_1 lo1_1 ?_
  refine guardM_st (fun hb_1 => ?_) (fun hb_1 => ?_)
  · have H := H.1 hb_1
    refine guardM_y' hb_1 ?_
    refine guardM_y' hb_1 ?_
    refine pop_leq .i64 n0_1 hi2_1 ?_
    refine pop_pickt' hb_1 ?_
    exact H
  · have H := H.2 hb_1
    refine guardM_n' hb_1 (by decide) ?_
    refine guardM_n' hb_1 (by decide) ?_
    refine pop_pickf' hb_1 ?_
    exact H

/-! impl.in -/
def u110 (P : Program) (n0_1 : Int) (low1_1 : Int) (high2_1 : Int) (h : Heap) (K : Value → Heap → Prop) : Prop :=
  ((decide (low1_1 ≤ n0_1)) = true →
  K (VB (decide (n0_1 ≤ high2_1))) h) ∧
  ((decide (low1_1 ≤ n0_1)) = false →
  K (VB false) h)
theorem v110 (n0_1 : Int) (low1_1 : Int) (high2_1 : Int) (h : Heap) (K : Value → Heap → Prop) (H : u110 Try.prog n0_1 low1_1 high2_1 h K) : callM Try.prog 110 #[(VI n0_1), (VI low1_1), (VI high2_1)] h K := by
  refine c110 (VI n0_1) (VI low1_1) (VI high2_1) h K ?_
  unfold u110 at H
  unfold t110
  have hL : Vars h [] := .nil
  refine pop_leq .i64 low1_1 n0_1 ?_
  refine guardM_st (fun hb_1 => ?_) (fun hb_1 => ?_)
  · have H := H.1 hb_1
    refine guardM_y' hb_1 ?_
    refine guardM_y' hb_1 ?_
    refine pop_leq .i64 n0_1 high2_1 ?_
    refine pop_pickt' hb_1 ?_
    exact H
  · have H := H.2 hb_1
    refine guardM_n' hb_1 (by decide) ?_
    refine guardM_n' hb_1 (by decide) ?_
    refine pop_pickf' hb_1 ?_
    exact H

/-! slices.Clone[[]int,int] -/
def u111 (P : Program) (s0_1 : Sl) (h : Heap) (K : Value → Heap → Prop) : Prop :=
  pop P (binE .eql 25 (.tmp 3) (.const (Value.slice none 0 0)) (Sl.v s0_1) (Value.slice none 0 0)) fun rv_1 => ∃ t4_1 : Bool, rv_1 = (VB t4_1) ∧ 
  (t4_1 = true →
  K (Sl.v nilSl) h) ∧
  (t4_1 = false →
  eop P (Instr.buildSlice 25 0 #[]) h fun rv_2 h_1 => ∃ t5_1 : Sl, rv_2 = (Sl.v t5_1) ∧ Vars h_1 [] ∧
  eop P (appS 25 25 25 (Sl.v t5_1) (Sl.v s0_1)) h_1 fun rv_3 h_2 => ∃ t7_1 : Sl, rv_3 = (Sl.v t7_1) ∧ Vars h_2 [] ∧
  K (Sl.v t7_1) h_2)
theorem v111 (s0_1 : Sl) (h : Heap) (K : Value → Heap → Prop) (H : u111 Try.prog s0_1 h K) : callM Try.prog 111 #[(Sl.v s0_1)] h K := by
  refine c111 (Sl.v s0_1) h K ?_
  unfold u111 at H
  unfold t111
  have hL : Vars h [] := .nil
  refine H.mono fun rv_1 H => ?_
  obtain ⟨t4_1, rfl, H⟩ := H
  refine condM_b (fun hb_1 => ?_) (fun hb_1 => ?_)
  · have H := H.1 hb_1
    exact H
  · have H := H.2 hb_1
    refine H.mono fun rv_2 h_1 H => ?_
    obtain ⟨t5_1, rfl, hL_1, H⟩ := H
    refine H.mono fun rv_3 h_2 H => ?_
    obtain ⟨t7_1, rfl, hL_2, H⟩ := H
    exact H

/-! (impl.Graph).step -/
def u112 (P : Program) (g0_1 : Sl) (b_1 : Nat) (w1_1 : Sl) (w1_2 : Int) (h : Heap) (K : Value → Heap → Prop) : Prop :=
  InB g0_1 w1_2 ∧
  ∀ (b_2 : Nat) (h_1 : Heap), h.size ≤ b_2 → Fr (In []) h h_1 → Vars h_1 [(b_2, [(Sl.v g0_1)]), (b_1, [(Sl.v w1_1), (VI w1_2)])] →
  ∃ t13_1 : Sl, hcell h_1 (Sl.at g0_1 w1_2 1) = some (Sl.v t13_1) ∧
  ((decide ((t13_1.n : Int) = 0)) = true →
  K (VB false) h_1) ∧
  ((decide ((t13_1.n : Int) = 0)) = false →
  InB w1_1 w1_2 ∧
  ∃ t34_1 : Int, hcell h_1 (Sl.at w1_1 w1_2 1) = some (VI t34_1) ∧
  (t13_1.n : Int) ≠ 0 ∧
  InB w1_1 w1_2 ∧
  Writable h_1 (Sl.at w1_1 w1_2 1) ∧ Vars (hset h_1 (Sl.at w1_1 w1_2 1) (VI (Int.tmod (w64 (t34_1 + 1)) (t13_1.n : Int)))) [(b_2, [(Sl.v g0_1)]), (b_1, [(Sl.v w1_1), (VI w1_2)])] ∧
  ∀ h_2 : Heap, h_2 = hset h_1 (Sl.at w1_1 w1_2 1) (VI (Int.tmod (w64 (t34_1 + 1)) (t13_1.n : Int))) → Vars h_2 [(b_2, [(Sl.v g0_1)]), (b_1, [(Sl.v w1_1), (VI w1_2)])] →
  InB w1_1 w1_2 ∧
  ∃ t51_1 : Int, hcell h_2 (Sl.at w1_1 w1_2 1) = some (VI t51_1) ∧
  InB t13_1 t51_1 ∧
  ∃ t53_1 : Int, hcell h_2 (Sl.at t13_1 t51_1 1) = some (VI t53_1) ∧
  ∀ (h_3 : Heap), Fr (In [b_1]) h_2 h_3 → Vars h_3 [(b_2, [(Sl.v g0_1)]), (b_1, [(Sl.v w1_1), (VI t53_1)])] →
  K (VB true) h_3)
theorem v112 (g0_1 : Sl) (b_1 : Nat) (w1_1 : Sl) (w1_2 : Int) (h : Heap) (K : Value → Heap → Prop) (hL : Vars h [(b_1, [(Sl.v w1_1), (VI w1_2)])]) (H : u112 Try.prog g0_1 b_1 w1_1 w1_2 h K) : callM Try.prog 112 #[(Value.agg #[(Sl.v g0_1)]), (VP b_1 0)] h K := by
  refine c112 (Value.agg #[(Sl.v g0_1)]) (VP b_1 0) h K ?_
  unfold u112 at H
  unfold t112
  refine eop_box 32 (Value.agg #[(Sl.v g0_1)]) rfl hL (fun b_2 h_1 hb_1 hf_1 hL_1 => ?_)
  refine pop_field 0 fld32_0 b_2 0 ?_
  refine rop_loc one22 hL_1 0 rfl 0 (v := (Sl.v g0_1)) rfl ?_
  refine pop_nil _ ?_
  refine pop_field 1 fld34_1 b_1 0 ?_
  refine rop_loc one3 hL_1 1 rfl 1 (v := (VI w1_2)) rfl ?_
  obtain ⟨hi_1, H⟩ := H
  refine pop_index sli22 siz25 .i64 g0_1 w1_2 hi_1 ?_
  have H := H b_2 h_1 (Nat.le_trans (Fr.size (Fr.r (In []) _)) hb_1) (Fr.no' (Fr.r (In []) _) hf_1) hL_1
  obtain ⟨t13_1, hc_4, H⟩ := H
  refine rop_one one25 (Sl.v t13_1) hc_4 ?_
  refine pop_len t13_1 _ _ sli25 ?_
  refine pop_ieq .i64 _ _ (t13_1.n : Int) 0 ?_
  refine condM_b (fun hb_2 => ?_) (fun hb_2 => ?_)
  · have H := H.1 hb_2
    exact H
  · have H := H.2 hb_2
    refine pop_nil _ ?_
    refine pop_field 0 fld34_0 b_1 0 ?_
    refine rop_loc one25 hL_1 1 rfl 0 (v := (Sl.v w1_1)) rfl ?_
    refine pop_nil _ ?_
    refine pop_field 1 fld34_1 b_1 0 ?_
    refine rop_loc one3 hL_1 1 rfl 1 (v := (VI w1_2)) rfl ?_
    refine pop_nil _ ?_
    refine pop_field 0 fld34_0 b_1 0 ?_
    refine rop_loc one25 hL_1 1 rfl 0 (v := (Sl.v w1_1)) rfl ?_
    refine pop_nil _ ?_
    refine pop_field 1 fld34_1 b_1 0 ?_
    refine rop_loc one3 hL_1 1 rfl 1 (v := (VI w1_2)) rfl ?_
    obtain ⟨hi_2, H⟩ := H
    refine pop_index sli25 siz3 .i64 w1_1 w1_2 hi_2 ?_
    obtain ⟨t34_1, hc_3, H⟩ := H
    refine rop_one one3 (VI t34_1) hc_3 ?_
    refine pop_add .i64 t34_1 1 ?_
    refine pop_len t13_1 _ _ sli25 ?_
    obtain ⟨hz_1, H⟩ := H
    refine pop_rem .i64 (w64 (t34_1 + 1)) (t13_1.n : Int) hz_1 ?_
    obtain ⟨hi_3, H⟩ := H
    refine pop_index sli25 siz3 .i64 w1_1 w1_2 hi_3 ?_
    obtain ⟨hw_1, hL_2, H⟩ := H
    refine uop_cell (v := (VI (Int.tmod (w64 (t34_1 + 1)) (t13_1.n : Int)))) siz3 hw_1 rfl (fun h_2 he_1 => ?_)
    rw [← he_1] at hL_2
    have H := H h_2 he_1 hL_2
    refine pop_nil _ ?_
    refine pop_field 0 fld34_0 b_1 0 ?_
    refine rop_loc one25 hL_2 1 rfl 0 (v := (Sl.v w1_1)) rfl ?_
    refine pop_nil _ ?_
    refine pop_field 1 fld34_1 b_1 0 ?_
    refine rop_loc one3 hL_2 1 rfl 1 (v := (VI w1_2)) rfl ?_
    obtain ⟨hi_4, H⟩ := H
    refine pop_index sli25 siz3 .i64 w1_1 w1_2 hi_4 ?_
    obtain ⟨t51_1, hc_2, H⟩ := H
    refine rop_one one3 (VI t51_1) hc_2 ?_
    obtain ⟨hi_5, H⟩ := H
    refine pop_index sli25 siz3 .i64 t13_1 t51_1 hi_5 ?_
    obtain ⟨t53_1, hc_1, H⟩ := H
    refine rop_one one3 (VI t53_1) hc_1 ?_
    refine pop_nil _ ?_
    refine pop_field 1 fld34_1 b_1 0 ?_
    refine uop_loc siz3 hL_2 1 rfl 1 [(VI t53_1)] rfl rfl rfl (Nat.le_of_ble_eq_true rfl) (L' := [(b_2, [(Sl.v g0_1)]), (b_1, [(Sl.v w1_1), (VI t53_1)])]) rfl (fun h_3 hf_2 hL_3 => ?_)
    have H := H  h_3  (Fr.old (Fr.r (In []) _) hf_2) hL_3
    exact H

/-! spec.l1Most -/
def u113 (P : Program) (a0_1 : Int) (b1_1 : Int) (h : Heap) (K : Value → Heap → Prop) : Prop :=
  ((decide (b1_1 < a0_1)) = true →
  K (VI a0_1) h) ∧
  ((decide (b1_1 < a0_1)) = false →
  K (VI b1_1) h)
theorem v113 (a0_1 : Int) (b1_1 : Int) (h : Heap) (K : Value → Heap → Prop) (H : u113 Try.prog a0_1 b1_1 h K) : callM Try.prog 113 #[(VI a0_1), (VI b1_1)] h K := by
  refine c113 (VI a0_1) (VI b1_1) h K ?_
  unfold u113 at H
  unfold t113
  have hL : Vars h [] := .nil
  refine pop_gtr .i64 a0_1 b1_1 ?_
  refine condM_b (fun hb_1 => ?_) (fun hb_1 => ?_)
  · have H := H.1 hb_1
    exact H
  · have H := H.2 hb_1
    exact H

/-! spec.l1Own -/
def u116 (P : Program) (l0_1 : Sl) (h : Heap) (K : Value → Heap → Prop) : Prop :=
  eop P (Instr.buildSlice 25 0 #[]) h fun rv_1 h_1 => ∃ t3_1 : Sl, rv_1 = (Sl.v t3_1) ∧ Vars h_1 [] ∧
  eop P (appS 25 25 25 (Sl.v t3_1) (Sl.v l0_1)) h_1 fun rv_2 h_2 => ∃ t5_1 : Sl, rv_2 = (Sl.v t5_1) ∧ Vars h_2 [] ∧
  K (Sl.v t5_1) h_2
theorem v116 (l0_1 : Sl) (h : Heap) (K : Value → Heap → Prop) (H : u116 Try.prog l0_1 h K) : callM Try.prog 116 #[(Sl.v l0_1)] h K := by
  refine c116 (Sl.v l0_1) h K ?_
  unfold u116 at H
  unfold t116
  have hL : Vars h [] := .nil
  refine H.mono fun rv_1 h_1 H => ?_
  obtain ⟨t3_1, rfl, hL_1, H⟩ := H
  refine H.mono fun rv_2 h_2 H => ?_
  obtain ⟨t5_1, rfl, hL_2, H⟩ := H
  exact H

/-! spec.grGood -/
def u119 (P : Program) (g0_1 : Sl) (h : Heap) (K : Value → Heap → Prop) : Prop :=
  ∀ (b_1 : Nat) (h_1 : Heap), h.size ≤ b_1 → Fr (In []) h h_1 → Vars h_1 [(b_1, [(Sl.v g0_1)])] →
  callM P 109 #[(VI (g0_1.n : Int)), (VI 1), (VI 8)] h_1 fun rv_1 h_2 => ∃ t10_1 : Bool, rv_1 = (VB t10_1) ∧ Vars h_2 [(b_1, [(Sl.v g0_1)])] ∧
  ((!t10_1) = true →
  K (VB false) h_2) ∧
  ((!t10_1) = false →
  ∃ J_1 : Nat → Int → Heap → Prop, (∃ n0 : Nat, J_1 n0 0 h_2) ∧
  ∀ (n_1 : Nat) (t15_1 : Int) (h_3 : Heap), J_1 n_1 t15_1 h_3 → Vars h_3 [(b_1, [(Sl.v g0_1)])] →
  ((decide (t15_1 < (g0_1.n : Int))) = true →
  InB g0_1 t15_1 ∧
  ∃ t18_1 : Sl, hcell h_3 (Sl.at g0_1 t15_1 1) = some (Sl.v t18_1) ∧
  ((decide (5 < (t18_1.n : Int))) = true →
  K (VB false) h_3) ∧
  ((decide (5 < (t18_1.n : Int))) = false →
  callM P 97 #[(Sl.v t18_1), (VI 0), (VI (w64 ((g0_1.n : Int) - 1)))] h_3 fun rv_2 h_4 => ∃ t26_1 : Bool, rv_2 = (VB t26_1) ∧ Vars h_4 [(b_1, [(Sl.v g0_1)])] ∧
  ((!t26_1) = true →
  K (VB false) h_4) ∧
  ((!t26_1) = false →
  ∃ m : Nat, m < n_1 ∧ J_1 m (w64 (t15_1 + 1)) h_4))) ∧
  ((decide (t15_1 < (g0_1.n : Int))) = false →
  K (VB true) h_3))
theorem v119 (g0_1 : Sl) (h : Heap) (K : Value → Heap → Prop) (H : u119 Try.prog g0_1 h K) : callM Try.prog 119 #[(Value.agg #[(Sl.v g0_1)])] h K := by
  refine c119 (Value.agg #[(Sl.v g0_1)]) h K ?_
  unfold u119 at H
  unfold t119
  have hL : Vars h [] := .nil
  refine eop_box 32 (Value.agg #[(Sl.v g0_1)]) rfl hL (fun b_1 h_1 hb_1 hf_1 hL_1 => ?_)
  refine pop_field 0 fld32_0 b_1 0 ?_
  refine rop_loc one22 hL_1 0 rfl 0 (v := (Sl.v g0_1)) rfl ?_
  refine pop_len g0_1 _ _ sli22 ?_
  have H := H b_1 h_1 (Nat.le_trans (Fr.size (Fr.r (In []) _)) hb_1) (Fr.no' (Fr.r (In []) _) hf_1) hL_1
  refine H.mono fun rv_1 h_2 H => ?_
  obtain ⟨t10_1, rfl, hL_2, H⟩ := H
  refine pop_not t10_1 ?_
  refine condM_b (fun hb_2 => ?_) (fun hb_2 => ?_)
  · have H := H.1 hb_2
    exact H
  · have H := H.2 hb_2
    refine pop_field 0 fld32_0 b_1 0 ?_
    refine rop_loc one22 hL_2 0 rfl 0 (v := (Sl.v g0_1)) rfl ?_
    refine pop_len g0_1 _ _ sli22 ?_
    obtain ⟨J_1, ⟨n_2, h0_1⟩, HB_1⟩ := H
    refine loop_intro (J := fun (n : Nat) (vs : List Value) (h' : Heap) => ∃ t15_1 : Int, vs = [(VI t15_1)] ∧ J_1 n t15_1 h' ∧ Vars h' [(b_1, [(Sl.v g0_1)])]) n_2 ⟨0, rfl, h0_1, hL_2⟩ ?_
    intro I_1 mu_1 hI_1 junk_1 tv_1 h_3 hi_1
    obtain ⟨n_1, ⟨t15_1, hv, hJ_1, hL_3⟩, hn_1⟩ := hI_1 _ _ hi_1
    cases hv
    have H := HB_1 n_1 t15_1 h_3 hJ_1 hL_3
    refine pop_lss .i64 t15_1 (g0_1.n : Int) ?_
    refine condM_b (fun hb_3 => ?_) (fun hb_3 => ?_)
    · have H := H.1 hb_3
      obtain ⟨hi_2, H⟩ := H
      refine pop_index sli22 siz25 .i64 g0_1 t15_1 hi_2 ?_
      obtain ⟨t18_1, hc_1, H⟩ := H
      refine rop_one one25 (Sl.v t18_1) hc_1 ?_
      refine pop_len t18_1 _ _ sli25 ?_
      refine pop_gtr .i64 (t18_1.n : Int) 5 ?_
      refine guardM_sf (fun hb_4 => ?_) (fun hb_4 => ?_)
      · have H := H.2 hb_4
        refine guardM_y' hb_4 ?_
        refine guardM_y' hb_4 ?_
        refine pop_sub .i64 (g0_1.n : Int) 1 ?_
        refine guardM_y' hb_4 ?_
        refine H.mono fun rv_2 h_4 H => ?_
        obtain ⟨t26_1, rfl, hL_4, H⟩ := H
        refine guardM_y' hb_4 ?_
        refine pop_not t26_1 ?_
        refine pop_pickf' hb_4 ?_
        refine condM_b (fun hb_5 => ?_) (fun hb_5 => ?_)
        · have H := H.1 hb_5
          exact H
        · have H := H.2 hb_5
          refine pop_add .i64 t15_1 1 ?_
          obtain ⟨m_1, hm_1, H⟩ := H
          exact hn_1 _ _ ⟨m_1, hm_1, (w64 (t15_1 + 1)), rfl, H, hL_4⟩
      · have H := H.1 hb_4
        refine guardM_n' hb_4 (by decide) ?_
        refine guardM_n' hb_4 (by decide) ?_
        refine guardM_n' hb_4 (by decide) ?_
        refine guardM_n' hb_4 (by decide) ?_
        refine pop_pickt' hb_4 ?_
        refine condM_t ?_
        exact H
    · have H := H.2 hb_3
      exact H

/-! impl.isGraph -/
def u122 (P : Program) (g0_1 : Sl) (h : Heap) (K : Value → Heap → Prop) : Prop :=
  ∀ (b_1 : Nat) (b_2 : Nat) (h_3 : Heap), h.size ≤ b_1 → h.size ≤ b_2 → Fr (In []) h h_3 → Vars h_3 [(b_2, [(VI (g0_1.n : Int))]), (b_1, [(Sl.v g0_1)])] →
  callM P 110 #[(VI (g0_1.n : Int)), (VI 1), (VI 8)] h_3 fun rv_1 h_4 => ∃ t10_1 : Bool, rv_1 = (VB t10_1) ∧ Vars h_4 [(b_2, [(VI (g0_1.n : Int))]), (b_1, [(Sl.v g0_1)])] ∧
  ((!t10_1) = true →
  K (VB false) h_4) ∧
  ((!t10_1) = false →
  ∃ J_1 : Nat → Int → Int → Heap → Prop, (∃ n0 : Nat, J_1 n0 0 (g0_1.n : Int) h_4) ∧
  ∀ (n_1 : Nat) (t15_1 : Int) (x_1 : Int) (h_5 : Heap), J_1 n_1 t15_1 x_1 h_5 → Vars h_5 [(b_2, [(VI x_1)]), (b_1, [(Sl.v g0_1)])] →
  ((decide (t15_1 < (g0_1.n : Int))) = true →
  InB g0_1 t15_1 ∧
  ∃ t18_1 : Sl, hcell h_5 (Sl.at g0_1 t15_1 1) = some (Sl.v t18_1) ∧
  ((decide (5 < (t18_1.n : Int))) = true →
  K (VB false) h_5) ∧
  ((decide (5 < (t18_1.n : Int))) = false →
  callM P 106 #[(Sl.v t18_1), (Value.func (Fn.func 141) #[] #[(VP b_2 0)])] h_5 fun rv_2 h_6 => ∃ x_2 : Int, ∃ t25_1 : Bool, rv_2 = (VB t25_1) ∧ Vars h_6 [(b_2, [(VI x_2)]), (b_1, [(Sl.v g0_1)])] ∧
  (t25_1 = true →
  K (VB false) h_6) ∧
  (t25_1 = false →
  ∃ m : Nat, m < n_1 ∧ J_1 m (w64 (t15_1 + 1)) x_2 h_6))) ∧
  ((decide (t15_1 < (g0_1.n : Int))) = false →
  K (VB true) h_5))
theorem v122 (g0_1 : Sl) (h : Heap) (K : Value → Heap → Prop) (H : u122 Try.prog g0_1 h K) : callM Try.prog 122 #[(Value.agg #[(Sl.v g0_1)])] h K := by
  refine c122 (Value.agg #[(Sl.v g0_1)]) h K ?_
  unfold u122 at H
  unfold t122
  have hL : Vars h [] := .nil
  refine eop_box 32 (Value.agg #[(Sl.v g0_1)]) rfl hL (fun b_1 h_1 hb_1 hf_1 hL_1 => ?_)
  refine pop_field 0 fld32_0 b_1 0 ?_
  refine rop_loc one22 hL_1 0 rfl 0 (v := (Sl.v g0_1)) rfl ?_
  refine pop_len g0_1 _ _ sli22 ?_
  refine eop_alloc 3 zer3 rfl hL_1 (fun b_2 h_2 hb_2 hf_2 hL_2 => ?_)
  refine uop_loc siz3 hL_2 0 rfl 0 [(VI (g0_1.n : Int))] rfl rfl rfl (Nat.le_of_ble_eq_true rfl) (L' := [(b_2, [(VI (g0_1.n : Int))]), (b_1, [(Sl.v g0_1)])]) rfl (fun h_3 hf_3 hL_3 => ?_)
  refine rop_loc one3 hL_3 0 rfl 0 (v := (VI (g0_1.n : Int))) rfl ?_
  have H := H b_1 b_2 h_3 (Nat.le_trans (Fr.size (Fr.r (In []) _)) hb_1) (Nat.le_trans (Fr.size (Fr.no' (Fr.r (In []) _) hf_1)) hb_2) (Fr.new (Fr.no' (Fr.no' (Fr.r (In []) _) hf_1) hf_2) (Nat.le_trans (Fr.size (Fr.no' (Fr.r (In []) _) hf_1)) hb_2) hf_3) hL_3
  refine H.mono fun rv_1 h_4 H => ?_
  obtain ⟨t10_1, rfl, hL_4, H⟩ := H
  refine pop_not t10_1 ?_
  refine condM_b (fun hb_3 => ?_) (fun hb_3 => ?_)
  · have H := H.1 hb_3
    exact H
  · have H := H.2 hb_3
    refine pop_field 0 fld32_0 b_1 0 ?_
    refine rop_loc one22 hL_4 1 rfl 0 (v := (Sl.v g0_1)) rfl ?_
    refine pop_len g0_1 _ _ sli22 ?_
    obtain ⟨J_1, ⟨n_2, h0_1⟩, HB_1⟩ := H
    refine loop_intro (J := fun (n : Nat) (vs : List Value) (h' : Heap) => ∃ t15_1 : Int, ∃ x_1 : Int, vs = [(VI t15_1)] ∧ J_1 n t15_1 x_1 h' ∧ Vars h' [(b_2, [(VI x_1)]), (b_1, [(Sl.v g0_1)])]) n_2 ⟨0, (g0_1.n : Int), rfl, h0_1, hL_4⟩ ?_
    intro I_1 mu_1 hI_1 junk_1 tv_1 h_5 hi_1
    obtain ⟨n_1, ⟨t15_1, x_1, hv, hJ_1, hL_5⟩, hn_1⟩ := hI_1 _ _ hi_1
    cases hv
    have H := HB_1 n_1 t15_1 x_1 h_5 hJ_1 hL_5
    refine pop_lss .i64 t15_1 (g0_1.n : Int) ?_
    refine condM_b (fun hb_4 => ?_) (fun hb_4 => ?_)
    · have H := H.1 hb_4
      obtain ⟨hi_2, H⟩ := H
      refine pop_index sli22 siz25 .i64 g0_1 t15_1 hi_2 ?_
      obtain ⟨t18_1, hc_1, H⟩ := H
      refine rop_one one25 (Sl.v t18_1) hc_1 ?_
      refine pop_len t18_1 _ _ sli25 ?_
      refine pop_gtr .i64 (t18_1.n : Int) 5 ?_
      refine guardM_sf (fun hb_5 => ?_) (fun hb_5 => ?_)
      · have H := H.2 hb_5
        refine guardM_y' hb_5 ?_
        refine pop_func _ _ _ ?_
        refine guardM_y' hb_5 ?_
        refine H.mono fun rv_2 h_6 H => ?_
        obtain ⟨x_2, t25_1, rfl, hL_6, H⟩ := H
        refine pop_pickf' hb_5 ?_
        refine condM_b (fun hb_6 => ?_) (fun hb_6 => ?_)
        · have H := H.1 hb_6
          exact H
        · have H := H.2 hb_6
          refine pop_add .i64 t15_1 1 ?_
          obtain ⟨m_1, hm_1, H⟩ := H
          exact hn_1 _ _ ⟨m_1, hm_1, (w64 (t15_1 + 1)), x_2, rfl, H, hL_6⟩
      · have H := H.1 hb_5
        refine guardM_n' hb_5 (by decide) ?_
        refine guardM_n' hb_5 (by decide) ?_
        refine pop_pickt' hb_5 ?_
        refine condM_t ?_
        exact H
    · have H := H.2 hb_4
      exact H

/-! impl.has$1 -/
def u123 (P : Program) (p0_1 : Int) (b_1 : Nat) (t1_1 : Sl) (h : Heap) (K : Value → Heap → Prop) : Prop :=
  callM P 110 #[(VI p0_1), (VI 0), (VI (w64 ((t1_1.n : Int) - 1)))] h fun rv_1 h_1 => ∃ t9_1 : Bool, rv_1 = (VB t9_1) ∧ Vars h_1 [(b_1, [(Sl.v t1_1)])] ∧
  K (VB (!t9_1)) h_1
theorem v123 (p0_1 : Int) (b_1 : Nat) (t1_1 : Sl) (h : Heap) (K : Value → Heap → Prop) (hL : Vars h [(b_1, [(Sl.v t1_1)])]) (H : u123 Try.prog p0_1 b_1 t1_1 h K) : callM Try.prog 123 #[(VI p0_1), (VP b_1 0)] h K := by
  refine c123 (VI p0_1) (VP b_1 0) h K ?_
  unfold u123 at H
  unfold t123
  refine pop_field 0 fld32_0 b_1 0 ?_
  refine rop_loc one22 hL 0 rfl 0 (v := (Sl.v t1_1)) rfl ?_
  refine pop_len t1_1 _ _ sli22 ?_
  refine pop_sub .i64 (t1_1.n : Int) 1 ?_
  refine H.mono fun rv_1 h_1 H => ?_
  obtain ⟨t9_1, rfl, hL_1, H⟩ := H
  refine pop_not t9_1 ?_
  exact H

/-! slices.IndexFunc[[]int,int] -/
def u138 (P : Program) (s0_1 : Sl) (f1_1 : Value) (h : Heap) (K : Value → Heap → Prop) : Prop :=
  ∃ J_1 : Nat → Int → Heap → Prop, (∃ n0 : Nat, J_1 n0 0 h) ∧
  ∀ (n_1 : Nat) (t8_1 : Int) (h_1 : Heap), J_1 n_1 t8_1 h_1 → Vars h_1 [] →
  ((decide (t8_1 < (s0_1.n : Int))) = true →
  InB s0_1 t8_1 ∧
  ∃ t15_1 : Int, hcell h_1 (Sl.at s0_1 t8_1 1) = some (VI t15_1) ∧
  callV P f1_1 [(VI t15_1)] h_1 fun rv_1 h_2 => ∃ t16_1 : Bool, rv_1 = (VB t16_1) ∧ Vars h_2 [] ∧
  (t16_1 = true →
  K (VI t8_1) h_2) ∧
  (t16_1 = false →
  ∃ m : Nat, m < n_1 ∧ J_1 m (w64 (t8_1 + 1)) h_2)) ∧
  ((decide (t8_1 < (s0_1.n : Int))) = false →
  K (VI (-1)) h_1)
theorem v138 (s0_1 : Sl) (f1_1 : Value) (h : Heap) (K : Value → Heap → Prop) (H : u138 Try.prog s0_1 f1_1 h K) : callM Try.prog 138 #[(Sl.v s0_1), f1_1] h K := by
  refine c138 (Sl.v s0_1) f1_1 h K ?_
  unfold u138 at H
  unfold t138
  have hL : Vars h [] := .nil
  refine pop_len s0_1 _ _ sli25 ?_
  obtain ⟨J_1, ⟨n_2, h0_1⟩, HB_1⟩ := H
  refine loop_intro (J := fun (n : Nat) (vs : List Value) (h' : Heap) => ∃ t8_1 : Int, vs = [(VI t8_1)] ∧ J_1 n t8_1 h' ∧ Vars h' []) n_2 ⟨0, rfl, h0_1, hL⟩ ?_
  intro I_1 mu_1 hI_1 junk_1 tv_1 h_1 hi_1
  obtain ⟨n_1, ⟨t8_1, hv, hJ_1, hL_1⟩, hn_1⟩ := hI_1 _ _ hi_1
  cases hv
  have H := HB_1 n_1 t8_1 h_1 hJ_1 hL_1
  refine pop_lss .i64 t8_1 (s0_1.n : Int) ?_
  refine condM_b (fun hb_1 => ?_) (fun hb_1 => ?_)
  · have H := H.1 hb_1
    obtain ⟨hi_2, H⟩ := H
    refine pop_index sli25 siz3 .i64 s0_1 t8_1 hi_2 ?_
    obtain ⟨t15_1, hc_1, H⟩ := H
    refine rop_one one3 (VI t15_1) hc_1 ?_
    refine H.mono fun rv_1 h_2 H => ?_
    obtain ⟨t16_1, rfl, hL_2, H⟩ := H
    refine condM_b (fun hb_2 => ?_) (fun hb_2 => ?_)
    · have H := H.1 hb_2
      exact H
    · have H := H.2 hb_2
      refine pop_add .i64 t8_1 1 ?_
      obtain ⟨m_1, hm_1, H⟩ := H
      exact hn_1 _ _ ⟨m_1, hm_1, (w64 (t8_1 + 1)), rfl, H, hL_2⟩
  · have H := H.2 hb_1
    exact H

/-! impl.isGraph$1 -/
def u141 (P : Program) (q0_1 : Int) (b_1 : Nat) (t1_1 : Int) (h : Heap) (K : Value → Heap → Prop) : Prop :=
  callM P 110 #[(VI q0_1), (VI 0), (VI (w64 (t1_1 - 1)))] h fun rv_1 h_1 => ∃ t7_1 : Bool, rv_1 = (VB t7_1) ∧ Vars h_1 [(b_1, [(VI t1_1)])] ∧
  K (VB (!t7_1)) h_1
theorem v141 (q0_1 : Int) (b_1 : Nat) (t1_1 : Int) (h : Heap) (K : Value → Heap → Prop) (hL : Vars h [(b_1, [(VI t1_1)])]) (H : u141 Try.prog q0_1 b_1 t1_1 h K) : callM Try.prog 141 #[(VI q0_1), (VP b_1 0)] h K := by
  refine c141 (VI q0_1) (VP b_1 0) h K ?_
  unfold u141 at H
  unfold t141
  refine rop_loc one3 hL 0 rfl 0 (v := (VI t1_1)) rfl ?_
  refine pop_sub .i64 t1_1 1 ?_
  refine H.mono fun rv_1 h_1 H => ?_
  obtain ⟨t7_1, rfl, hL_1, H⟩ := H
  refine pop_not t7_1 ?_
  exact H

end Go.Proofs.Ytjinpagnbflmiaa
