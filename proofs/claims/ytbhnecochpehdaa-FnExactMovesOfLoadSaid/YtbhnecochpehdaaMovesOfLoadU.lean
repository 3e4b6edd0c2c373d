/-
  The same over typed data. Written by a program.
-/
import Derived.Test.YtbhnecochpehdaaMovesOfLoadT
import Derived.Test.YtbhnecochpehdaaM2
set_option linter.unusedVariables false
set_option linter.unusedSimpArgs false
namespace Go.Proofs.Ytbhnecochpehdaa
open Go Go.Mx
theorem agg24 : aggC Try.prog 24 = some 1 := by kernel_rfl
theorem agg27 : aggC Try.prog 27 = some 2 := by kernel_rfl
theorem agg32 : aggC Try.prog 32 = some 1 := by kernel_rfl
theorem agg34 : aggC Try.prog 34 = some 2 := by kernel_rfl
theorem boo4 : Try.prog.underlying 4 = some .bool := by kernel_rfl
theorem fld132_0 : fieldC Try.prog 132 0 = some 0 := by kernel_rfl
theorem fld132_1 : fieldC Try.prog 132 1 = some 1 := by kernel_rfl
theorem fld24_0 : fieldC Try.prog 24 0 = some 0 := by kernel_rfl
theorem fld27_0 : fieldC Try.prog 27 0 = some 0 := by kernel_rfl
theorem fld27_1 : fieldC Try.prog 27 1 = some 1 := by kernel_rfl
theorem fld32_0 : fieldC Try.prog 32 0 = some 0 := by kernel_rfl
theorem fld34_0 : fieldC Try.prog 34 0 = some 0 := by kernel_rfl
theorem fld34_1 : fieldC Try.prog 34 1 = some 1 := by kernel_rfl
theorem one22 : oneC Try.prog 22 = true := by kernel_rfl
theorem one25 : oneC Try.prog 25 = true := by kernel_rfl
theorem one3 : oneC Try.prog 3 = true := by kernel_rfl
theorem siz132 : sizeC Try.prog 132 = some 2 := by kernel_rfl
theorem siz22 : sizeC Try.prog 22 = some 1 := by kernel_rfl
theorem siz25 : sizeC Try.prog 25 = some 1 := by kernel_rfl
theorem siz3 : sizeC Try.prog 3 = some 1 := by kernel_rfl
theorem siz32 : sizeC Try.prog 32 = some 1 := by kernel_rfl
theorem siz34 : sizeC Try.prog 34 = some 2 := by kernel_rfl
theorem sli22 : Try.prog.underlying 22 = some (.slice 25) := by kernel_rfl
theorem sli25 : Try.prog.underlying 25 = some (.slice 3) := by kernel_rfl
theorem zer132 : zeroC Try.prog 132 = some (Value.agg #[(Sl.v nilSl), (VI 0)]) := by kernel_rfl
theorem zer3 : zeroC Try.prog 3 = some (VI 0) := by kernel_rfl
theorem zer32 : zeroC Try.prog 32 = some (Value.agg #[(Sl.v nilSl)]) := by kernel_rfl
theorem zer34 : zeroC Try.prog 34 = some (Value.agg #[(Sl.v nilSl), (Sl.v nilSl)]) := by kernel_rfl
/-! laws.FnExactMovesOfLoad -/
def u3 (P : Program) (aG0_1 : Sl) (aSink1_1 : Int) (aL2_1 : Sl) (aL2_2 : Sl) (h : Heap) (K : Value → Heap → Prop) : Prop :=
  ∀ (b_1 : Nat) (b_2 : Nat) (h_2 : Heap), h.size ≤ b_1 → h.size ≤ b_2 → Fr (In []) h h_2 → Vars h_2 [(b_2, [(Sl.v aL2_1), (Sl.v aL2_2)]), (b_1, [(Sl.v aG0_1)])] →
  callM P 10 #[(Value.agg #[(Sl.v aG0_1)]), (VI 1048576)] h_2 fun rv_1 h_3 => ∃ t21_1 : Int, rv_1 = (VI t21_1) ∧ Vars h_3 [(b_2, [(Sl.v aL2_1), (Sl.v aL2_2)]), (b_1, [(Sl.v aG0_1)])] ∧
  ((decide (t21_1 < 0)) = true →
  K (VB true) h_3) ∧
  ((decide (t21_1 < 0)) = false →
  callM P 11 #[(Value.agg #[(Sl.v aL2_1), (Sl.v aL2_2)]), (VI t21_1)] h_3 fun rv_2 h_4 => ∃ t26_1 : Int, rv_2 = (VI t26_1) ∧ Vars h_4 [(b_2, [(Sl.v aL2_1), (Sl.v aL2_2)]), (b_1, [(Sl.v aG0_1)])] ∧
  ((decide (t26_1 < 0)) = true →
  K (VB true) h_4) ∧
  ((decide (t26_1 < 0)) = false →
  callM P 13 #[(Value.agg #[(Sl.v aG0_1)])] h_4 fun rv_3 h_5 => ∃ t31_1 : Sl, rv_3 = (Value.agg #[(Sl.v t31_1)]) ∧ Vars h_5 [(b_2, [(Sl.v aL2_1), (Sl.v aL2_2)]), (b_1, [(Sl.v aG0_1)])] ∧
  callM P 14 #[(Value.agg #[(Sl.v aL2_1), (Sl.v aL2_2)])] h_5 fun rv_4 h_6 => ∃ t34_1 : Sl, ∃ t34_2 : Sl, rv_4 = (Value.agg #[(Sl.v t34_1), (Sl.v t34_2)]) ∧ Vars h_6 [(b_2, [(Sl.v aL2_1), (Sl.v aL2_2)]), (b_1, [(Sl.v aG0_1)])] ∧
  callM P 12 #[(Value.agg #[(Sl.v t31_1)]), (VI aSink1_1), (Value.agg #[(Sl.v t34_1), (Sl.v t34_2)])] h_6 fun rv_5 h_7 => ∃ t35_1 : Sl, ∃ t35_2 : Bool, rv_5 = (Value.tuple #[(Sl.v t35_1), (VB t35_2)]) ∧ Vars h_7 [(b_2, [(Sl.v aL2_1), (Sl.v aL2_2)]), (b_1, [(Sl.v aG0_1)])] ∧
  callM P 13 #[(Value.agg #[(Sl.v aG0_1)])] h_7 fun rv_6 h_8 => ∃ t39_1 : Sl, rv_6 = (Value.agg #[(Sl.v t39_1)]) ∧ Vars h_8 [(b_2, [(Sl.v aL2_1), (Sl.v aL2_2)]), (b_1, [(Sl.v aG0_1)])] ∧
  ∀ (b_3 : Nat) (h_10 : Heap), h_8.size ≤ b_3 → Fr (In []) h_8 h_10 → Vars h_10 [(b_3, [(Sl.v t39_1)]), (b_2, [(Sl.v aL2_1), (Sl.v aL2_2)]), (b_1, [(Sl.v aG0_1)])] →
  callM P 14 #[(Value.agg #[(Sl.v aL2_1), (Sl.v aL2_2)])] h_10 fun rv_7 h_11 => ∃ t41_1 : Sl, ∃ t41_2 : Sl, rv_7 = (Value.agg #[(Sl.v t41_1), (Sl.v t41_2)]) ∧ Vars h_11 [(b_3, [(Sl.v t39_1)]), (b_2, [(Sl.v aL2_1), (Sl.v aL2_2)]), (b_1, [(Sl.v aG0_1)])] ∧
  ∀ (b_4 : Nat) (h_13 : Heap), h_11.size ≤ b_4 → Fr (In []) h_11 h_13 → Vars h_13 [(b_4, [(Sl.v t41_1), (Sl.v t41_2)]), (b_3, [(Sl.v t39_1)]), (b_2, [(Sl.v aL2_1), (Sl.v aL2_2)]), (b_1, [(Sl.v aG0_1)])] →
  callM P 15 #[(Value.agg #[(Sl.v t39_1)]), (VI aSink1_1), (Value.agg #[(Sl.v t41_1), (Sl.v t41_2)])] h_13 fun rv_8 h_14 => ∃ t46_1 : Sl, ∃ t46_2 : Bool, rv_8 = (Value.tuple #[(Sl.v t46_1), (VB t46_2)]) ∧ Vars h_14 [(b_4, [(Sl.v t41_1), (Sl.v t41_2)]), (b_3, [(Sl.v t39_1)]), (b_2, [(Sl.v aL2_1), (Sl.v aL2_2)]), (b_1, [(Sl.v aG0_1)])] ∧
  callM P 16 #[(Sl.v t46_1), (Sl.v t35_1)] h_14 fun rv_9 h_15 => ∃ t51_1 : Bool, rv_9 = (VB t51_1) ∧ Vars h_15 [(b_4, [(Sl.v t41_1), (Sl.v t41_2)]), (b_3, [(Sl.v t39_1)]), (b_2, [(Sl.v aL2_1), (Sl.v aL2_2)]), (b_1, [(Sl.v aG0_1)])] ∧
  ((!t51_1) = true →
  K (VB false) h_15) ∧
  ((!t51_1) = false →
  ((!(t46_2 == t35_2)) = true →
  K (VB false) h_15) ∧
  ((!(t46_2 == t35_2)) = false →
  callM P 13 #[(Value.agg #[(Sl.v aG0_1)])] h_15 fun rv_10 h_16 => ∃ t60_1 : Sl, rv_10 = (Value.agg #[(Sl.v t60_1)]) ∧ Vars h_16 [(b_4, [(Sl.v t41_1), (Sl.v t41_2)]), (b_3, [(Sl.v t39_1)]), (b_2, [(Sl.v aL2_1), (Sl.v aL2_2)]), (b_1, [(Sl.v aG0_1)])] ∧
  callM P 17 #[(Value.agg #[(Sl.v t39_1)]), (Value.agg #[(Sl.v t60_1)])] h_16 fun rv_11 h_17 => ∃ t61_1 : Bool, rv_11 = (VB t61_1) ∧ Vars h_17 [(b_4, [(Sl.v t41_1), (Sl.v t41_2)]), (b_3, [(Sl.v t39_1)]), (b_2, [(Sl.v aL2_1), (Sl.v aL2_2)]), (b_1, [(Sl.v aG0_1)])] ∧
  ((!t61_1) = true →
  K (VB false) h_17) ∧
  ((!t61_1) = false →
  callM P 14 #[(Value.agg #[(Sl.v aL2_1), (Sl.v aL2_2)])] h_17 fun rv_12 h_18 => ∃ t65_1 : Sl, ∃ t65_2 : Sl, rv_12 = (Value.agg #[(Sl.v t65_1), (Sl.v t65_2)]) ∧ Vars h_18 [(b_4, [(Sl.v t41_1), (Sl.v t41_2)]), (b_3, [(Sl.v t39_1)]), (b_2, [(Sl.v aL2_1), (Sl.v aL2_2)]), (b_1, [(Sl.v aG0_1)])] ∧
  callM P 18 #[(Value.agg #[(Sl.v t41_1), (Sl.v t41_2)]), (Value.agg #[(Sl.v t65_1), (Sl.v t65_2)])] h_18 fun rv_13 h_19 => ∃ t66_1 : Bool, rv_13 = (VB t66_1) ∧ Vars h_19 [(b_4, [(Sl.v t41_1), (Sl.v t41_2)]), (b_3, [(Sl.v t39_1)]), (b_2, [(Sl.v aL2_1), (Sl.v aL2_2)]), (b_1, [(Sl.v aG0_1)])] ∧
  ((!t66_1) = true →
  K (VB false) h_19) ∧
  ((!t66_1) = false →
  callM P 19 #[(Value.agg #[(Sl.v t39_1)]), (VI 1)] h_19 fun rv_14 h_20 => ∃ t70_1 : Int, rv_14 = (VI t70_1) ∧ Vars h_20 [(b_4, [(Sl.v t41_1), (Sl.v t41_2)]), (b_3, [(Sl.v t39_1)]), (b_2, [(Sl.v aL2_1), (Sl.v aL2_2)]), (b_1, [(Sl.v aG0_1)])] ∧
  callM P 20 #[(Value.agg #[(Sl.v t41_1), (Sl.v t41_2)]), (VI t70_1)] h_20 fun rv_15 h_21 => ∃ t73_1 : Int, rv_15 = (VI t73_1) ∧ Vars h_21 [(b_4, [(Sl.v t41_1), (Sl.v t41_2)]), (b_3, [(Sl.v t39_1)]), (b_2, [(Sl.v aL2_1), (Sl.v aL2_2)]), (b_1, [(Sl.v aG0_1)])] ∧
  ((decide (t73_1 < 0)) = true →
  K (VB false) h_21) ∧
  ((decide (t73_1 < 0)) = false →
  callM P 16 #[(Sl.v t46_1), (Sl.v t35_1)] h_21 fun rv_16 h_22 => ∃ t79_1 : Bool, rv_16 = (VB t79_1) ∧ Vars h_22 [(b_4, [(Sl.v t41_1), (Sl.v t41_2)]), (b_3, [(Sl.v t39_1)]), (b_2, [(Sl.v aL2_1), (Sl.v aL2_2)]), (b_1, [(Sl.v aG0_1)])] ∧
  ((!t79_1) = true →
  K (VB false) h_22) ∧
  ((!t79_1) = false →
  callM P 21 #[(Sl.v t46_1), (VI 1)] h_22 fun rv_17 h_23 => ∃ t89_1 : Int, rv_17 = (VI t89_1) ∧ Vars h_23 [(b_4, [(Sl.v t41_1), (Sl.v t41_2)]), (b_3, [(Sl.v t39_1)]), (b_2, [(Sl.v aL2_1), (Sl.v aL2_2)]), (b_1, [(Sl.v aG0_1)])] ∧
  callM P 22 #[(Sl.v t46_1), (VI 1)] h_23 fun rv_18 h_24 => ∃ t92_1 : Int, rv_18 = (VI t92_1) ∧ Vars h_24 [(b_4, [(Sl.v t41_1), (Sl.v t41_2)]), (b_3, [(Sl.v t39_1)]), (b_2, [(Sl.v aL2_1), (Sl.v aL2_2)]), (b_1, [(Sl.v aG0_1)])] ∧
  ((decide (t92_1 < 0)) = true →
  K (VB false) h_24) ∧
  ((decide (t92_1 < 0)) = false →
  ((!decide (t92_1 = t89_1)) = true →
  K (VB false) h_24) ∧
  ((!decide (t92_1 = t89_1)) = false →
  callM P 13 #[(Value.agg #[(Sl.v aG0_1)])] h_24 fun rv_19 h_25 => ∃ t100_1 : Sl, rv_19 = (Value.agg #[(Sl.v t100_1)]) ∧ Vars h_25 [(b_4, [(Sl.v t41_1), (Sl.v t41_2)]), (b_3, [(Sl.v t39_1)]), (b_2, [(Sl.v aL2_1), (Sl.v aL2_2)]), (b_1, [(Sl.v aG0_1)])] ∧
  callM P 14 #[(Value.agg #[(Sl.v aL2_1), (Sl.v aL2_2)])] h_25 fun rv_20 h_26 => ∃ t103_1 : Sl, ∃ t103_2 : Sl, rv_20 = (Value.agg #[(Sl.v t103_1), (Sl.v t103_2)]) ∧ Vars h_26 [(b_4, [(Sl.v t41_1), (Sl.v t41_2)]), (b_3, [(Sl.v t39_1)]), (b_2, [(Sl.v aL2_1), (Sl.v aL2_2)]), (b_1, [(Sl.v aG0_1)])] ∧
  callM P 15 #[(Value.agg #[(Sl.v t100_1)]), (VI aSink1_1), (Value.agg #[(Sl.v t103_1), (Sl.v t103_2)])] h_26 fun rv_21 h_27 => ∃ t104_1 : Sl, ∃ t104_2 : Bool, rv_21 = (Value.tuple #[(Sl.v t104_1), (VB t104_2)]) ∧ Vars h_27 [(b_4, [(Sl.v t41_1), (Sl.v t41_2)]), (b_3, [(Sl.v t39_1)]), (b_2, [(Sl.v aL2_1), (Sl.v aL2_2)]), (b_1, [(Sl.v aG0_1)])] ∧
  callM P 16 #[(Sl.v t104_1), (Sl.v t35_1)] h_27 fun rv_22 h_28 => ∃ t109_1 : Bool, rv_22 = (VB t109_1) ∧ Vars h_28 [(b_4, [(Sl.v t41_1), (Sl.v t41_2)]), (b_3, [(Sl.v t39_1)]), (b_2, [(Sl.v aL2_1), (Sl.v aL2_2)]), (b_1, [(Sl.v aG0_1)])] ∧
  ((!t109_1) = true →
  K (VB false) h_28) ∧
  ((!t109_1) = false →
  ((!(t104_2 == t35_2)) = true →
  K (VB false) h_28) ∧
  ((!(t104_2 == t35_2)) = false →
  callM P 22 #[(Sl.v t46_1), (VI 1)] h_28 fun rv_23 h_29 => ∃ t118_1 : Int, rv_23 = (VI t118_1) ∧ Vars h_29 [(b_4, [(Sl.v t41_1), (Sl.v t41_2)]), (b_3, [(Sl.v t39_1)]), (b_2, [(Sl.v aL2_1), (Sl.v aL2_2)]), (b_1, [(Sl.v aG0_1)])] ∧
  ((decide (t118_1 < 0)) = true →
  K (VB false) h_29) ∧
  ((decide (t118_1 < 0)) = false →
  ((!decide (t118_1 = t89_1)) = true →
  K (VB false) h_29) ∧
  ((!decide (t118_1 = t89_1)) = false →
  K (VB true) h_29))))))))))))))
theorem v3 (aG0_1 : Sl) (aSink1_1 : Int) (aL2_1 : Sl) (aL2_2 : Sl) (h : Heap) (K : Value → Heap → Prop) (H : u3 Try.prog aG0_1 aSink1_1 aL2_1 aL2_2 h K) : callM Try.prog 3 #[(Value.agg #[(Sl.v aG0_1)]), (VI aSink1_1), (Value.agg #[(Sl.v aL2_1), (Sl.v aL2_2)])] h K := by
  refine c3 (Value.agg #[(Sl.v aG0_1)]) (VI aSink1_1) (Value.agg #[(Sl.v aL2_1), (Sl.v aL2_2)]) h K ?_
  unfold u3 at H
  unfold t3
  have hL : Vars h [] := .nil
  refine eop_box 24 (Value.agg #[(Sl.v aG0_1)]) rfl hL (fun b_1 h_1 hb_1 hf_1 hL_1 => ?_)
  refine eop_box 27 (Value.agg #[(Sl.v aL2_1), (Sl.v aL2_2)]) rfl hL_1 (fun b_2 h_2 hb_2 hf_2 hL_2 => ?_)
  refine rop_locA agg24 hL_2 1 rfl 0 (vs := [(Sl.v aG0_1)]) rfl rfl ?_
  have H := H b_1 b_2 h_2 (Nat.le_trans (Fr.size (Fr.r (In []) _)) hb_1) (Nat.le_trans (Fr.size (Fr.no' (Fr.r (In []) _) hf_1)) hb_2) (Fr.no' (Fr.no' (Fr.r (In []) _) hf_1) hf_2) hL_2
  refine H.mono fun rv_1 h_3 H => ?_
  obtain ⟨t21_1, rfl, hL_3, H⟩ := H
  refine pop_lss .i64 t21_1 0 ?_
  refine condM_b (fun hb_3 => ?_) (fun hb_3 => ?_)
  · have H := H.1 hb_3
    exact H
  · have H := H.2 hb_3
    refine rop_locA agg27 hL_3 0 rfl 0 (vs := [(Sl.v aL2_1), (Sl.v aL2_2)]) rfl rfl ?_
    refine H.mono fun rv_2 h_4 H => ?_
    obtain ⟨t26_1, rfl, hL_4, H⟩ := H
    refine pop_lss .i64 t26_1 0 ?_
    refine condM_b (fun hb_4 => ?_) (fun hb_4 => ?_)
    · have H := H.1 hb_4
      exact H
    · have H := H.2 hb_4
      refine rop_locA agg24 hL_4 1 rfl 0 (vs := [(Sl.v aG0_1)]) rfl rfl ?_
      refine rop_locA agg27 hL_4 0 rfl 0 (vs := [(Sl.v aL2_1), (Sl.v aL2_2)]) rfl rfl ?_
      refine H.mono fun rv_3 h_5 H => ?_
      obtain ⟨t31_1, rfl, hL_5, H⟩ := H
      refine ⟨?_, ?_⟩
      · exact still_locA agg27 hL_5 0 rfl 0 (vs := [(Sl.v aL2_1), (Sl.v aL2_2)]) rfl rfl
      refine H.mono fun rv_4 h_6 H => ?_
      obtain ⟨t34_1, t34_2, rfl, hL_6, H⟩ := H
      refine H.mono fun rv_5 h_7 H => ?_
      obtain ⟨t35_1, t35_2, rfl, hL_7, H⟩ := H
      refine pop_ext (v := (Sl.v t35_1)) rfl ?_
      refine pop_ext (v := (VB t35_2)) rfl ?_
      refine rop_locA agg24 hL_7 1 rfl 0 (vs := [(Sl.v aG0_1)]) rfl rfl ?_
      refine H.mono fun rv_6 h_8 H => ?_
      obtain ⟨t39_1, rfl, hL_8, H⟩ := H
      refine eop_alloc 32 zer32 rfl hL_8 (fun b_3 h_9 hb_5 hf_3 hL_9 => ?_)
      refine uop_loc siz32 hL_9 0 rfl 0 [(Sl.v t39_1)] rfl rfl rfl (Nat.le_of_ble_eq_true rfl) (L' := [(b_3, [(Sl.v t39_1)]), (b_2, [(Sl.v aL2_1), (Sl.v aL2_2)]), (b_1, [(Sl.v aG0_1)])]) rfl (fun h_10 hf_4 hL_10 => ?_)
      refine rop_locA agg27 hL_10 1 rfl 0 (vs := [(Sl.v aL2_1), (Sl.v aL2_2)]) rfl rfl ?_
      have H := H b_3 h_10 (Nat.le_trans (Fr.size (Fr.r (In []) _)) hb_5) (Fr.new (Fr.no' (Fr.r (In []) _) hf_3) (Nat.le_trans (Fr.size (Fr.r (In []) _)) hb_5) hf_4) hL_10
      refine H.mono fun rv_7 h_11 H => ?_
      obtain ⟨t41_1, t41_2, rfl, hL_11, H⟩ := H
      refine eop_alloc 34 zer34 rfl hL_11 (fun b_4 h_12 hb_6 hf_5 hL_12 => ?_)
      refine uop_loc siz34 hL_12 0 rfl 0 [(Sl.v t41_1), (Sl.v t41_2)] rfl rfl rfl (Nat.le_of_ble_eq_true rfl) (L' := [(b_4, [(Sl.v t41_1), (Sl.v t41_2)]), (b_3, [(Sl.v t39_1)]), (b_2, [(Sl.v aL2_1), (Sl.v aL2_2)]), (b_1, [(Sl.v aG0_1)])]) rfl (fun h_13 hf_6 hL_13 => ?_)
      refine rop_locA agg32 hL_13 1 rfl 0 (vs := [(Sl.v t39_1)]) rfl rfl ?_
      refine rop_locA agg34 hL_13 0 rfl 0 (vs := [(Sl.v t41_1), (Sl.v t41_2)]) rfl rfl ?_
      have H := H b_4 h_13 (Nat.le_trans (Fr.size (Fr.r (In []) _)) hb_6) (Fr.new (Fr.no' (Fr.r (In []) _) hf_5) (Nat.le_trans (Fr.size (Fr.r (In []) _)) hb_6) hf_6) hL_13
      refine H.mono fun rv_8 h_14 H => ?_
      obtain ⟨t46_1, t46_2, rfl, hL_14, H⟩ := H
      refine pop_ext (v := (Sl.v t46_1)) rfl ?_
      refine pop_ext (v := (VB t46_2)) rfl ?_
      refine H.mono fun rv_9 h_15 H => ?_
      obtain ⟨t51_1, rfl, hL_15, H⟩ := H
      refine pop_not t51_1 ?_
      refine guardM_sf (fun hb_7 => ?_) (fun hb_7 => ?_)
      · have H := H.2 hb_7
        refine guardM_y' hb_7 ?_
        refine guardM_y' hb_7 ?_
        refine pop_bne boo4 _ _ t46_2 t35_2 ?_
        refine pop_pickf' hb_7 ?_
        refine condM_b (fun hb_8 => ?_) (fun hb_8 => ?_)
        · have H := H.1 hb_8
          exact H
        · have H := H.2 hb_8
          refine rop_locA agg32 hL_15 1 rfl 0 (vs := [(Sl.v t39_1)]) rfl rfl ?_
          refine rop_locA agg24 hL_15 3 rfl 0 (vs := [(Sl.v aG0_1)]) rfl rfl ?_
          refine H.mono fun rv_10 h_16 H => ?_
          obtain ⟨t60_1, rfl, hL_16, H⟩ := H
          refine ⟨?_, ?_⟩
          · exact still_locA agg32 hL_16 1 rfl 0 (vs := [(Sl.v t39_1)]) rfl rfl
          refine H.mono fun rv_11 h_17 H => ?_
          obtain ⟨t61_1, rfl, hL_17, H⟩ := H
          refine pop_not t61_1 ?_
          refine condM_b (fun hb_9 => ?_) (fun hb_9 => ?_)
          · have H := H.1 hb_9
            exact H
          · have H := H.2 hb_9
            refine rop_locA agg34 hL_17 0 rfl 0 (vs := [(Sl.v t41_1), (Sl.v t41_2)]) rfl rfl ?_
            refine rop_locA agg27 hL_17 2 rfl 0 (vs := [(Sl.v aL2_1), (Sl.v aL2_2)]) rfl rfl ?_
            refine H.mono fun rv_12 h_18 H => ?_
            obtain ⟨t65_1, t65_2, rfl, hL_18, H⟩ := H
            refine ⟨?_, ?_⟩
            · exact still_locA agg34 hL_18 0 rfl 0 (vs := [(Sl.v t41_1), (Sl.v t41_2)]) rfl rfl
            refine H.mono fun rv_13 h_19 H => ?_
            obtain ⟨t66_1, rfl, hL_19, H⟩ := H
            refine pop_not t66_1 ?_
            refine condM_b (fun hb_10 => ?_) (fun hb_10 => ?_)
            · have H := H.1 hb_10
              exact H
            · have H := H.2 hb_10
              refine rop_locA agg32 hL_19 1 rfl 0 (vs := [(Sl.v t39_1)]) rfl rfl ?_
              refine H.mono fun rv_14 h_20 H => ?_
              obtain ⟨t70_1, rfl, hL_20, H⟩ := H
              refine rop_locA agg34 hL_20 0 rfl 0 (vs := [(Sl.v t41_1), (Sl.v t41_2)]) rfl rfl ?_
              refine H.mono fun rv_15 h_21 H => ?_
              obtain ⟨t73_1, rfl, hL_21, H⟩ := H
              refine pop_lss .i64 t73_1 0 ?_
              refine guardM_sf (fun hb_11 => ?_) (fun hb_11 => ?_)
              · have H := H.2 hb_11
                refine guardM_y' hb_11 ?_
                refine guardM_y' hb_11 ?_
                refine H.mono fun rv_16 h_22 H => ?_
                obtain ⟨t79_1, rfl, hL_22, H⟩ := H
                refine guardM_y' hb_11 ?_
                refine pop_not t79_1 ?_
                refine pop_pickf' hb_11 ?_
                refine guardM_sf (fun hb_12 => ?_) (fun hb_12 => ?_)
                · have H := H.2 hb_12
                  refine guardM_y' hb_12 ?_
                  refine guardM_y' hb_12 ?_
                  refine pop_bne boo4 _ _ t46_2 t35_2 ?_
                  refine pop_pickf' hb_12 ?_
                  refine condM_f' hb_8 ?_
                  refine H.mono fun rv_17 h_23 H => ?_
                  obtain ⟨t89_1, rfl, hL_23, H⟩ := H
                  refine H.mono fun rv_18 h_24 H => ?_
                  obtain ⟨t92_1, rfl, hL_24, H⟩ := H
                  refine pop_lss .i64 t92_1 0 ?_
                  refine condM_b (fun hb_13 => ?_) (fun hb_13 => ?_)
                  · have H := H.1 hb_13
                    exact H
                  · have H := H.2 hb_13
                    refine pop_ine .i64 _ _ t92_1 t89_1 ?_
                    refine condM_b (fun hb_14 => ?_) (fun hb_14 => ?_)
                    · have H := H.1 hb_14
                      exact H
                    · have H := H.2 hb_14
                      refine rop_locA agg24 hL_24 3 rfl 0 (vs := [(Sl.v aG0_1)]) rfl rfl ?_
                      refine rop_locA agg27 hL_24 2 rfl 0 (vs := [(Sl.v aL2_1), (Sl.v aL2_2)]) rfl rfl ?_
                      refine H.mono fun rv_19 h_25 H => ?_
                      obtain ⟨t100_1, rfl, hL_25, H⟩ := H
                      refine ⟨?_, ?_⟩
                      · exact still_locA agg27 hL_25 2 rfl 0 (vs := [(Sl.v aL2_1), (Sl.v aL2_2)]) rfl rfl
                      refine H.mono fun rv_20 h_26 H => ?_
                      obtain ⟨t103_1, t103_2, rfl, hL_26, H⟩ := H
                      refine H.mono fun rv_21 h_27 H => ?_
                      obtain ⟨t104_1, t104_2, rfl, hL_27, H⟩ := H
                      refine pop_ext (v := (Sl.v t104_1)) rfl ?_
                      refine pop_ext (v := (VB t104_2)) rfl ?_
                      refine H.mono fun rv_22 h_28 H => ?_
                      obtain ⟨t109_1, rfl, hL_28, H⟩ := H
                      refine pop_not t109_1 ?_
                      refine guardM_sf (fun hb_15 => ?_) (fun hb_15 => ?_)
                      · have H := H.2 hb_15
                        refine guardM_y' hb_15 ?_
                        refine guardM_y' hb_15 ?_
                        refine pop_bne boo4 _ _ t104_2 t35_2 ?_
                        refine pop_pickf' hb_15 ?_
                        refine condM_b (fun hb_16 => ?_) (fun hb_16 => ?_)
                        · have H := H.1 hb_16
                          exact H
                        · have H := H.2 hb_16
                          refine H.mono fun rv_23 h_29 H => ?_
                          obtain ⟨t118_1, rfl, hL_29, H⟩ := H
                          refine pop_lss .i64 t118_1 0 ?_
                          refine condM_b (fun hb_17 => ?_) (fun hb_17 => ?_)
                          · have H := H.1 hb_17
                            exact H
                          · have H := H.2 hb_17
                            refine pop_ine .i64 _ _ t118_1 t89_1 ?_
                            refine condM_b (fun hb_18 => ?_) (fun hb_18 => ?_)
                            · have H := H.1 hb_18
                              exact H
                            · have H := H.2 hb_18
                              exact H
                      · have H := H.1 hb_15
                        refine guardM_n' hb_15 (by decide) ?_
                        refine guardM_n' hb_15 (by decide) ?_
                        refine pop_pickt' hb_15 ?_
                        refine condM_t ?_
                        exact H
                · have H := H.1 hb_12
                  refine guardM_n' hb_12 (by decide) ?_
                  refine guardM_n' hb_12 (by decide) ?_
                  refine pop_pickt' hb_12 ?_
                  refine condM_t ?_
                  exact H
              · have H := H.1 hb_11
                refine guardM_n' hb_11 (by decide) ?_
                refine guardM_n' hb_11 (by decide) ?_
                refine guardM_n' hb_11 (by decide) ?_
                refine pop_pickt' hb_11 ?_
                refine guardM_n (by decide) ?_
                refine guardM_n (by decide) ?_
                refine guardM_n (by decide) ?_
                refine pop_pickt _ _ ?_
                refine condM_t ?_
                exact H
      · have H := H.1 hb_7
        refine guardM_n' hb_7 (by decide) ?_
        refine guardM_n' hb_7 (by decide) ?_
        refine pop_pickt' hb_7 ?_
        refine condM_t ?_
        exact H

/-! laws.szGraph -/
def u10 (P : Program) (a0_1 : Sl) (left1_1 : Int) (h : Heap) (K : Value → Heap → Prop) : Prop :=
  ∀ (b_1 : Nat) (h_1 : Heap), h.size ≤ b_1 → Fr (In []) h h_1 → Vars h_1 [(b_1, [(Sl.v a0_1)])] →
  callM P 74 #[(Sl.v a0_1), (VI left1_1)] h_1 fun rv_1 h_2 => ∃ t8_1 : Int, rv_1 = (VI t8_1) ∧ Vars h_2 [(b_1, [(Sl.v a0_1)])] ∧
  ((decide (t8_1 < 0)) = true →
  K (VI (-1)) h_2) ∧
  ((decide (t8_1 < 0)) = false →
  K (VI t8_1) h_2)
theorem v10 (a0_1 : Sl) (left1_1 : Int) (h : Heap) (K : Value → Heap → Prop) (H : u10 Try.prog a0_1 left1_1 h K) : callM Try.prog 10 #[(Value.agg #[(Sl.v a0_1)]), (VI left1_1)] h K := by
  refine c10 (Value.agg #[(Sl.v a0_1)]) (VI left1_1) h K ?_
  unfold u10 at H
  unfold t10
  have hL : Vars h [] := .nil
  refine eop_box 24 (Value.agg #[(Sl.v a0_1)]) rfl hL (fun b_1 h_1 hb_1 hf_1 hL_1 => ?_)
  refine pop_field 0 fld24_0 b_1 0 ?_
  refine rop_loc one22 hL_1 0 rfl 0 (v := (Sl.v a0_1)) rfl ?_
  have H := H b_1 h_1 (Nat.le_trans (Fr.size (Fr.r (In []) _)) hb_1) (Fr.no' (Fr.r (In []) _) hf_1) hL_1
  refine H.mono fun rv_1 h_2 H => ?_
  obtain ⟨t8_1, rfl, hL_2, H⟩ := H
  refine pop_lss .i64 t8_1 0 ?_
  refine condM_b (fun hb_2 => ?_) (fun hb_2 => ?_)
  · have H := H.1 hb_2
    exact H
  · have H := H.2 hb_2
    exact H

/-! laws.szLoad -/
def u11 (P : Program) (a0_1 : Sl) (a0_2 : Sl) (left1_1 : Int) (h : Heap) (K : Value → Heap → Prop) : Prop :=
  ∀ (b_1 : Nat) (h_1 : Heap), h.size ≤ b_1 → Fr (In []) h h_1 → Vars h_1 [(b_1, [(Sl.v a0_1), (Sl.v a0_2)])] →
  callM P 75 #[(Sl.v a0_1), (VI left1_1)] h_1 fun rv_1 h_2 => ∃ t8_1 : Int, rv_1 = (VI t8_1) ∧ Vars h_2 [(b_1, [(Sl.v a0_1), (Sl.v a0_2)])] ∧
  ((decide (t8_1 < 0)) = true →
  K (VI (-1)) h_2) ∧
  ((decide (t8_1 < 0)) = false →
  callM P 75 #[(Sl.v a0_2), (VI t8_1)] h_2 fun rv_2 h_3 => ∃ t14_1 : Int, rv_2 = (VI t14_1) ∧ Vars h_3 [(b_1, [(Sl.v a0_1), (Sl.v a0_2)])] ∧
  ((decide (t14_1 < 0)) = true →
  K (VI (-1)) h_3) ∧
  ((decide (t14_1 < 0)) = false →
  K (VI t14_1) h_3))
theorem v11 (a0_1 : Sl) (a0_2 : Sl) (left1_1 : Int) (h : Heap) (K : Value → Heap → Prop) (H : u11 Try.prog a0_1 a0_2 left1_1 h K) : callM Try.prog 11 #[(Value.agg #[(Sl.v a0_1), (Sl.v a0_2)]), (VI left1_1)] h K := by
  refine c11 (Value.agg #[(Sl.v a0_1), (Sl.v a0_2)]) (VI left1_1) h K ?_
  unfold u11 at H
  unfold t11
  have hL : Vars h [] := .nil
  refine eop_box 27 (Value.agg #[(Sl.v a0_1), (Sl.v a0_2)]) rfl hL (fun b_1 h_1 hb_1 hf_1 hL_1 => ?_)
  refine pop_field 0 fld27_0 b_1 0 ?_
  refine rop_loc one25 hL_1 0 rfl 0 (v := (Sl.v a0_1)) rfl ?_
  have H := H b_1 h_1 (Nat.le_trans (Fr.size (Fr.r (In []) _)) hb_1) (Fr.no' (Fr.r (In []) _) hf_1) hL_1
  refine H.mono fun rv_1 h_2 H => ?_
  obtain ⟨t8_1, rfl, hL_2, H⟩ := H
  refine pop_lss .i64 t8_1 0 ?_
  refine condM_b (fun hb_2 => ?_) (fun hb_2 => ?_)
  · have H := H.1 hb_2
    exact H
  · have H := H.2 hb_2
    refine pop_field 1 fld27_1 b_1 0 ?_
    refine rop_loc one25 hL_2 0 rfl 1 (v := (Sl.v a0_2)) rfl ?_
    refine H.mono fun rv_2 h_3 H => ?_
    obtain ⟨t14_1, rfl, hL_3, H⟩ := H
    refine pop_lss .i64 t14_1 0 ?_
    refine condM_b (fun hb_3 => ?_) (fun hb_3 => ?_)
    · have H := H.1 hb_3
      exact H
    · have H := H.2 hb_3
      exact H

/-! spec.MovesOfLoad -/
def u12 (P : Program) (g0_1 : Sl) (sink1_1 : Int) (l2_1 : Sl) (l2_2 : Sl) (h : Heap) (K : Value → Heap → Prop) : Prop :=
  ∀ (b_1 : Nat) (b_2 : Nat) (h_2 : Heap), h.size ≤ b_1 → h.size ≤ b_2 → Fr (In []) h h_2 → Vars h_2 [(b_2, [(Sl.v l2_1), (Sl.v l2_2)]), (b_1, [(Sl.v g0_1)])] →
  callM P 76 #[(Value.agg #[(Sl.v g0_1)]), (VI sink1_1), (Value.agg #[(Sl.v l2_1), (Sl.v l2_2)])] h_2 fun rv_1 h_3 => ∃ t14_1 : Bool, rv_1 = (VB t14_1) ∧ Vars h_3 [(b_2, [(Sl.v l2_1), (Sl.v l2_2)]), (b_1, [(Sl.v g0_1)])] ∧
  ((!t14_1) = true →
  K (Value.tuple #[(Sl.v nilSl), (VB false)]) h_3) ∧
  ((!t14_1) = false →
  callM P 77 #[(Value.agg #[(Sl.v g0_1)]), (VI sink1_1), (Value.agg #[(Sl.v l2_1), (Sl.v l2_2)]), (Sl.v nilSl)] h_3 fun rv_2 h_4 => ∃ t20_1 : Sl, ∃ t20_2 : Sl, ∃ t20_3 : Sl, ∃ t20_4 : Bool, rv_2 = (Value.tuple #[(Value.agg #[(Sl.v t20_1), (Sl.v t20_2)]), (Sl.v t20_3), (VB t20_4)]) ∧ Vars h_4 [(b_2, [(Sl.v l2_1), (Sl.v l2_2)]), (b_1, [(Sl.v g0_1)])] ∧
  ∀ (b_3 : Nat) (h_6 : Heap), h_4.size ≤ b_3 → Fr (In []) h_4 h_6 → Vars h_6 [(b_3, [(Sl.v t20_1), (Sl.v t20_2)]), (b_2, [(Sl.v l2_1), (Sl.v l2_2)]), (b_1, [(Sl.v g0_1)])] →
  K (Value.tuple #[(Sl.v t20_3), (VB t20_4)]) h_6)
theorem v12 (g0_1 : Sl) (sink1_1 : Int) (l2_1 : Sl) (l2_2 : Sl) (h : Heap) (K : Value → Heap → Prop) (H : u12 Try.prog g0_1 sink1_1 l2_1 l2_2 h K) : callM Try.prog 12 #[(Value.agg #[(Sl.v g0_1)]), (VI sink1_1), (Value.agg #[(Sl.v l2_1), (Sl.v l2_2)])] h K := by
  refine c12 (Value.agg #[(Sl.v g0_1)]) (VI sink1_1) (Value.agg #[(Sl.v l2_1), (Sl.v l2_2)]) h K ?_
  unfold u12 at H
  unfold t12
  have hL : Vars h [] := .nil
  refine eop_box 32 (Value.agg #[(Sl.v g0_1)]) rfl hL (fun b_1 h_1 hb_1 hf_1 hL_1 => ?_)
  refine eop_box 34 (Value.agg #[(Sl.v l2_1), (Sl.v l2_2)]) rfl hL_1 (fun b_2 h_2 hb_2 hf_2 hL_2 => ?_)
  refine rop_locA agg32 hL_2 1 rfl 0 (vs := [(Sl.v g0_1)]) rfl rfl ?_
  refine rop_locA agg34 hL_2 0 rfl 0 (vs := [(Sl.v l2_1), (Sl.v l2_2)]) rfl rfl ?_
  have H := H b_1 b_2 h_2 (Nat.le_trans (Fr.size (Fr.r (In []) _)) hb_1) (Nat.le_trans (Fr.size (Fr.no' (Fr.r (In []) _) hf_1)) hb_2) (Fr.no' (Fr.no' (Fr.r (In []) _) hf_1) hf_2) hL_2
  refine H.mono fun rv_1 h_3 H => ?_
  obtain ⟨t14_1, rfl, hL_3, H⟩ := H
  refine pop_not t14_1 ?_
  refine condM_b (fun hb_3 => ?_) (fun hb_3 => ?_)
  · have H := H.1 hb_3
    exact H
  · have H := H.2 hb_3
    refine rop_locA agg32 hL_3 1 rfl 0 (vs := [(Sl.v g0_1)]) rfl rfl ?_
    refine rop_locA agg34 hL_3 0 rfl 0 (vs := [(Sl.v l2_1), (Sl.v l2_2)]) rfl rfl ?_
    refine H.mono fun rv_2 h_4 H => ?_
    obtain ⟨t20_1, t20_2, t20_3, t20_4, rfl, hL_4, H⟩ := H
    refine pop_ext (v := (Value.agg #[(Sl.v t20_1), (Sl.v t20_2)])) rfl ?_
    refine pop_ext (v := (Sl.v t20_3)) rfl ?_
    refine pop_ext (v := (VB t20_4)) rfl ?_
    refine eop_alloc 34 zer34 rfl hL_4 (fun b_3 h_5 hb_4 hf_3 hL_5 => ?_)
    refine uop_loc siz34 hL_5 0 rfl 0 [(Sl.v t20_1), (Sl.v t20_2)] rfl rfl rfl (Nat.le_of_ble_eq_true rfl) (L' := [(b_3, [(Sl.v t20_1), (Sl.v t20_2)]), (b_2, [(Sl.v l2_1), (Sl.v l2_2)]), (b_1, [(Sl.v g0_1)])]) rfl (fun h_6 hf_4 hL_6 => ?_)
    have H := H b_3 h_6 (Nat.le_trans (Fr.size (Fr.r (In []) _)) hb_4) (Fr.new (Fr.no' (Fr.r (In []) _) hf_3) (Nat.le_trans (Fr.size (Fr.r (In []) _)) hb_4) hf_4) hL_6
    exact H

/-! laws.toGraph -/
def u13 (P : Program) (a0_1 : Sl) (h : Heap) (K : Value → Heap → Prop) : Prop :=
  ∀ (b_1 : Nat) (b_2 : Nat) (b_3 : Nat) (h_3 : Heap), h.size ≤ b_1 → h.size ≤ b_2 → h.size ≤ b_3 → Fr (In []) h h_3 → Vars h_3 [(b_3, [(Sl.v nilSl)]), (b_2, [(Sl.v nilSl)]), (b_1, [(Sl.v a0_1)])] →
  callM P 78 #[(Sl.v a0_1)] h_3 fun rv_1 h_4 => ∃ t6_1 : Sl, rv_1 = (Sl.v t6_1) ∧ Vars h_4 [(b_3, [(Sl.v nilSl)]), (b_2, [(Sl.v nilSl)]), (b_1, [(Sl.v a0_1)])] ∧
  ∀ (h_6 : Heap), Fr (In [b_2, b_3]) h_4 h_6 → Vars h_6 [(b_3, [(Sl.v t6_1)]), (b_2, [(Sl.v t6_1)]), (b_1, [(Sl.v a0_1)])] →
  K (Value.agg #[(Sl.v t6_1)]) h_6
theorem v13 (a0_1 : Sl) (h : Heap) (K : Value → Heap → Prop) (H : u13 Try.prog a0_1 h K) : callM Try.prog 13 #[(Value.agg #[(Sl.v a0_1)])] h K := by
  refine c13 (Value.agg #[(Sl.v a0_1)]) h K ?_
  unfold u13 at H
  unfold t13
  have hL : Vars h [] := .nil
  refine eop_box 24 (Value.agg #[(Sl.v a0_1)]) rfl hL (fun b_1 h_1 hb_1 hf_1 hL_1 => ?_)
  refine eop_alloc 32 zer32 rfl hL_1 (fun b_2 h_2 hb_2 hf_2 hL_2 => ?_)
  refine eop_alloc 32 zer32 rfl hL_2 (fun b_3 h_3 hb_3 hf_3 hL_3 => ?_)
  refine pop_field 0 fld24_0 b_1 0 ?_
  refine rop_loc one22 hL_3 2 rfl 0 (v := (Sl.v a0_1)) rfl ?_
  have H := H b_1 b_2 b_3 h_3 (Nat.le_trans (Fr.size (Fr.r (In []) _)) hb_1) (Nat.le_trans (Fr.size (Fr.no' (Fr.r (In []) _) hf_1)) hb_2) (Nat.le_trans (Fr.size (Fr.no' (Fr.no' (Fr.r (In []) _) hf_1) hf_2)) hb_3) (Fr.no' (Fr.no' (Fr.no' (Fr.r (In []) _) hf_1) hf_2) hf_3) hL_3
  refine H.mono fun rv_1 h_4 H => ?_
  obtain ⟨t6_1, rfl, hL_4, H⟩ := H
  refine pop_field 0 fld32_0 b_3 0 ?_
  refine uop_loc siz22 hL_4 0 rfl 0 [(Sl.v t6_1)] rfl rfl rfl (Nat.le_of_ble_eq_true rfl) (L' := [(b_3, [(Sl.v t6_1)]), (b_2, [(Sl.v nilSl)]), (b_1, [(Sl.v a0_1)])]) rfl (fun h_5 hf_4 hL_5 => ?_)
  refine rop_locA agg32 hL_5 0 rfl 0 (vs := [(Sl.v t6_1)]) rfl rfl ?_
  refine uop_loc siz32 hL_5 1 rfl 0 [(Sl.v t6_1)] rfl rfl rfl (Nat.le_of_ble_eq_true rfl) (L' := [(b_3, [(Sl.v t6_1)]), (b_2, [(Sl.v t6_1)]), (b_1, [(Sl.v a0_1)])]) rfl (fun h_6 hf_5 hL_6 => ?_)
  refine rop_locA agg32 hL_6 1 rfl 0 (vs := [(Sl.v t6_1)]) rfl rfl ?_
  have H := H  h_6  (Fr.old (Fr.old (Fr.r (In []) _) hf_4) hf_5) hL_6
  exact H

/-! laws.toLoad -/
def u14 (P : Program) (a0_1 : Sl) (a0_2 : Sl) (h : Heap) (K : Value → Heap → Prop) : Prop :=
  ∀ (b_1 : Nat) (b_2 : Nat) (b_3 : Nat) (h_3 : Heap), h.size ≤ b_1 → h.size ≤ b_2 → h.size ≤ b_3 → Fr (In []) h h_3 → Vars h_3 [(b_3, [(Sl.v nilSl), (Sl.v nilSl)]), (b_2, [(Sl.v nilSl), (Sl.v nilSl)]), (b_1, [(Sl.v a0_1), (Sl.v a0_2)])] →
  callM P 26 #[(Sl.v a0_1)] h_3 fun rv_1 h_4 => ∃ t6_1 : Sl, rv_1 = (Sl.v t6_1) ∧ Vars h_4 [(b_3, [(Sl.v nilSl), (Sl.v nilSl)]), (b_2, [(Sl.v nilSl), (Sl.v nilSl)]), (b_1, [(Sl.v a0_1), (Sl.v a0_2)])] ∧
  ∀ (h_5 : Heap), Fr (In [b_3]) h_4 h_5 → Vars h_5 [(b_3, [(Sl.v t6_1), (Sl.v nilSl)]), (b_2, [(Sl.v nilSl), (Sl.v nilSl)]), (b_1, [(Sl.v a0_1), (Sl.v a0_2)])] →
  callM P 26 #[(Sl.v a0_2)] h_5 fun rv_2 h_6 => ∃ t10_1 : Sl, rv_2 = (Sl.v t10_1) ∧ Vars h_6 [(b_3, [(Sl.v t6_1), (Sl.v nilSl)]), (b_2, [(Sl.v nilSl), (Sl.v nilSl)]), (b_1, [(Sl.v a0_1), (Sl.v a0_2)])] ∧
  ∀ (h_8 : Heap), Fr (In [b_2, b_3]) h_6 h_8 → Vars h_8 [(b_3, [(Sl.v t6_1), (Sl.v t10_1)]), (b_2, [(Sl.v t6_1), (Sl.v t10_1)]), (b_1, [(Sl.v a0_1), (Sl.v a0_2)])] →
  K (Value.agg #[(Sl.v t6_1), (Sl.v t10_1)]) h_8
theorem v14 (a0_1 : Sl) (a0_2 : Sl) (h : Heap) (K : Value → Heap → Prop) (H : u14 Try.prog a0_1 a0_2 h K) : callM Try.prog 14 #[(Value.agg #[(Sl.v a0_1), (Sl.v a0_2)])] h K := by
  refine c14 (Value.agg #[(Sl.v a0_1), (Sl.v a0_2)]) h K ?_
  unfold u14 at H
  unfold t14
  have hL : Vars h [] := .nil
  refine eop_box 27 (Value.agg #[(Sl.v a0_1), (Sl.v a0_2)]) rfl hL (fun b_1 h_1 hb_1 hf_1 hL_1 => ?_)
  refine eop_alloc 34 zer34 rfl hL_1 (fun b_2 h_2 hb_2 hf_2 hL_2 => ?_)
  refine eop_alloc 34 zer34 rfl hL_2 (fun b_3 h_3 hb_3 hf_3 hL_3 => ?_)
  refine pop_field 0 fld27_0 b_1 0 ?_
  refine rop_loc one25 hL_3 2 rfl 0 (v := (Sl.v a0_1)) rfl ?_
  have H := H b_1 b_2 b_3 h_3 (Nat.le_trans (Fr.size (Fr.r (In []) _)) hb_1) (Nat.le_trans (Fr.size (Fr.no' (Fr.r (In []) _) hf_1)) hb_2) (Nat.le_trans (Fr.size (Fr.no' (Fr.no' (Fr.r (In []) _) hf_1) hf_2)) hb_3) (Fr.no' (Fr.no' (Fr.no' (Fr.r (In []) _) hf_1) hf_2) hf_3) hL_3
  refine H.mono fun rv_1 h_4 H => ?_
  obtain ⟨t6_1, rfl, hL_4, H⟩ := H
  refine pop_field 0 fld34_0 b_3 0 ?_
  refine uop_loc siz25 hL_4 0 rfl 0 [(Sl.v t6_1)] rfl rfl rfl (Nat.le_of_ble_eq_true rfl) (L' := [(b_3, [(Sl.v t6_1), (Sl.v nilSl)]), (b_2, [(Sl.v nilSl), (Sl.v nilSl)]), (b_1, [(Sl.v a0_1), (Sl.v a0_2)])]) rfl (fun h_5 hf_4 hL_5 => ?_)
  refine pop_field 1 fld27_1 b_1 0 ?_
  refine rop_loc one25 hL_5 2 rfl 1 (v := (Sl.v a0_2)) rfl ?_
  have H := H  h_5  (Fr.old (Fr.r (In []) _) hf_4) hL_5
  refine H.mono fun rv_2 h_6 H => ?_
  obtain ⟨t10_1, rfl, hL_6, H⟩ := H
  refine pop_field 1 fld34_1 b_3 0 ?_
  refine uop_loc siz25 hL_6 0 rfl 1 [(Sl.v t10_1)] rfl rfl rfl (Nat.le_of_ble_eq_true rfl) (L' := [(b_3, [(Sl.v t6_1), (Sl.v t10_1)]), (b_2, [(Sl.v nilSl), (Sl.v nilSl)]), (b_1, [(Sl.v a0_1), (Sl.v a0_2)])]) rfl (fun h_7 hf_5 hL_7 => ?_)
  refine rop_locA agg34 hL_7 0 rfl 0 (vs := [(Sl.v t6_1), (Sl.v t10_1)]) rfl rfl ?_
  refine uop_loc siz34 hL_7 1 rfl 0 [(Sl.v t6_1), (Sl.v t10_1)] rfl rfl rfl (Nat.le_of_ble_eq_true rfl) (L' := [(b_3, [(Sl.v t6_1), (Sl.v t10_1)]), (b_2, [(Sl.v t6_1), (Sl.v t10_1)]), (b_1, [(Sl.v a0_1), (Sl.v a0_2)])]) rfl (fun h_8 hf_6 hL_8 => ?_)
  refine rop_locA agg34 hL_8 1 rfl 0 (vs := [(Sl.v t6_1), (Sl.v t10_1)]) rfl rfl ?_
  have H := H  h_8  (Fr.old (Fr.old (Fr.r (In []) _) hf_5) hf_6) hL_8
  exact H

/-! impl.MovesOfLoad -/
def u15 (P : Program) (g0_1 : Sl) (sink1_1 : Int) (l2_1 : Sl) (l2_2 : Sl) (h : Heap) (K : Value → Heap → Prop) : Prop :=
  ∀ (b_1 : Nat) (b_2 : Nat) (h_2 : Heap), h.size ≤ b_1 → h.size ≤ b_2 → Fr (In []) h h_2 → Vars h_2 [(b_2, [(Sl.v l2_1), (Sl.v l2_2)]), (b_1, [(Sl.v g0_1)])] →
  callM P 79 #[(Value.agg #[(Sl.v g0_1)]), (VI sink1_1), (Value.agg #[(Sl.v l2_1), (Sl.v l2_2)])] h_2 fun rv_1 h_3 => ∃ t12_1 : Bool, rv_1 = (VB t12_1) ∧ Vars h_3 [(b_2, [(Sl.v l2_1), (Sl.v l2_2)]), (b_1, [(Sl.v g0_1)])] ∧
  ((!t12_1) = true →
  K (Value.tuple #[(Sl.v nilSl), (VB false)]) h_3) ∧
  ((!t12_1) = false →
  callM P 80 #[(Value.agg #[(Sl.v l2_1), (Sl.v l2_2)])] h_3 fun rv_2 h_4 => ∃ t15_1 : Sl, ∃ t15_2 : Sl, rv_2 = (Value.agg #[(Sl.v t15_1), (Sl.v t15_2)]) ∧ Vars h_4 [(b_2, [(Sl.v l2_1), (Sl.v l2_2)]), (b_1, [(Sl.v g0_1)])] ∧
  ∀ (b_3 : Nat) (h_6 : Heap), h_4.size ≤ b_3 → Fr (In []) h_4 h_6 → Vars h_6 [(b_3, [(Sl.v t15_1), (Sl.v t15_2)]), (b_2, [(Sl.v l2_1), (Sl.v l2_2)]), (b_1, [(Sl.v g0_1)])] →
  callM P 81 #[(VP b_3 0), (Value.agg #[(Sl.v g0_1)]), (VI sink1_1), (Sl.v nilSl)] h_6 fun rv_3 h_7 => ∃ x_1 : Sl, ∃ x_2 : Sl, ∃ t18_1 : Sl, ∃ t18_2 : Bool, rv_3 = (Value.tuple #[(Sl.v t18_1), (VB t18_2)]) ∧ Vars h_7 [(b_3, [(Sl.v x_1), (Sl.v x_2)]), (b_2, [(Sl.v l2_1), (Sl.v l2_2)]), (b_1, [(Sl.v g0_1)])] ∧
  K (Value.tuple #[(Sl.v t18_1), (VB t18_2)]) h_7)
theorem v15 (g0_1 : Sl) (sink1_1 : Int) (l2_1 : Sl) (l2_2 : Sl) (h : Heap) (K : Value → Heap → Prop) (H : u15 Try.prog g0_1 sink1_1 l2_1 l2_2 h K) : callM Try.prog 15 #[(Value.agg #[(Sl.v g0_1)]), (VI sink1_1), (Value.agg #[(Sl.v l2_1), (Sl.v l2_2)])] h K := by
  refine c15 (Value.agg #[(Sl.v g0_1)]) (VI sink1_1) (Value.agg #[(Sl.v l2_1), (Sl.v l2_2)]) h K ?_
  unfold u15 at H
  unfold t15
  have hL : Vars h [] := .nil
  refine eop_box 32 (Value.agg #[(Sl.v g0_1)]) rfl hL (fun b_1 h_1 hb_1 hf_1 hL_1 => ?_)
  refine eop_box 34 (Value.agg #[(Sl.v l2_1), (Sl.v l2_2)]) rfl hL_1 (fun b_2 h_2 hb_2 hf_2 hL_2 => ?_)
  refine rop_locA agg32 hL_2 1 rfl 0 (vs := [(Sl.v g0_1)]) rfl rfl ?_
  refine rop_locA agg34 hL_2 0 rfl 0 (vs := [(Sl.v l2_1), (Sl.v l2_2)]) rfl rfl ?_
  have H := H b_1 b_2 h_2 (Nat.le_trans (Fr.size (Fr.r (In []) _)) hb_1) (Nat.le_trans (Fr.size (Fr.no' (Fr.r (In []) _) hf_1)) hb_2) (Fr.no' (Fr.no' (Fr.r (In []) _) hf_1) hf_2) hL_2
  refine H.mono fun rv_1 h_3 H => ?_
  obtain ⟨t12_1, rfl, hL_3, H⟩ := H
  refine pop_not t12_1 ?_
  refine condM_b (fun hb_3 => ?_) (fun hb_3 => ?_)
  · have H := H.1 hb_3
    exact H
  · have H := H.2 hb_3
    refine rop_locA agg34 hL_3 0 rfl 0 (vs := [(Sl.v l2_1), (Sl.v l2_2)]) rfl rfl ?_
    refine H.mono fun rv_2 h_4 H => ?_
    obtain ⟨t15_1, t15_2, rfl, hL_4, H⟩ := H
    refine eop_alloc 34 zer34 rfl hL_4 (fun b_3 h_5 hb_4 hf_3 hL_5 => ?_)
    refine uop_loc siz34 hL_5 0 rfl 0 [(Sl.v t15_1), (Sl.v t15_2)] rfl rfl rfl (Nat.le_of_ble_eq_true rfl) (L' := [(b_3, [(Sl.v t15_1), (Sl.v t15_2)]), (b_2, [(Sl.v l2_1), (Sl.v l2_2)]), (b_1, [(Sl.v g0_1)])]) rfl (fun h_6 hf_4 hL_6 => ?_)
    refine rop_locA agg32 hL_6 2 rfl 0 (vs := [(Sl.v g0_1)]) rfl rfl ?_
    have H := H b_3 h_6 (Nat.le_trans (Fr.size (Fr.r (In []) _)) hb_4) (Fr.new (Fr.no' (Fr.r (In []) _) hf_3) (Nat.le_trans (Fr.size (Fr.r (In []) _)) hb_4) hf_4) hL_6
    refine H.mono fun rv_3 h_7 H => ?_
    obtain ⟨x_1, x_2, t18_1, t18_2, rfl, hL_7, H⟩ := H
    refine pop_ext (v := (Sl.v t18_1)) rfl ?_
    refine pop_ext (v := (VB t18_2)) rfl ?_
    exact H

/-! laws.eqIntS -/
def u16 (P : Program) (a0_1 : Sl) (b1_1 : Sl) (h : Heap) (K : Value → Heap → Prop) : Prop :=
  ((!decide ((a0_1.n : Int) = (b1_1.n : Int))) = true →
  K (VB false) h) ∧
  ((!decide ((a0_1.n : Int) = (b1_1.n : Int))) = false →
  ∃ J_1 : Nat → Int → Heap → Prop, (∃ n0 : Nat, J_1 n0 0 h) ∧
  ∀ (n_1 : Nat) (i5_1 : Int) (h_1 : Heap), J_1 n_1 i5_1 h_1 → Vars h_1 [] →
  ((decide (i5_1 < (a0_1.n : Int))) = true →
  InB a0_1 i5_1 ∧
  ∃ t20_1 : Int, hcell h_1 (Sl.at a0_1 i5_1 1) = some (VI t20_1) ∧
  InB b1_1 i5_1 ∧
  ∃ t24_1 : Int, hcell h_1 (Sl.at b1_1 i5_1 1) = some (VI t24_1) ∧
  ((!decide (t20_1 = t24_1)) = true →
  K (VB false) h_1) ∧
  ((!decide (t20_1 = t24_1)) = false →
  ∃ m : Nat, m < n_1 ∧ J_1 m (w64 (i5_1 + 1)) h_1)) ∧
  ((decide (i5_1 < (a0_1.n : Int))) = false →
  K (VB true) h_1))
theorem v16 (a0_1 : Sl) (b1_1 : Sl) (h : Heap) (K : Value → Heap → Prop) (H : u16 Try.prog a0_1 b1_1 h K) : callM Try.prog 16 #[(Sl.v a0_1), (Sl.v b1_1)] h K := by
  refine c16 (Sl.v a0_1) (Sl.v b1_1) h K ?_
  unfold u16 at H
  unfold t16
  have hL : Vars h [] := .nil
  refine pop_len a0_1 _ _ sli25 ?_
  refine pop_len b1_1 _ _ sli25 ?_
  refine pop_ine .i64 _ _ (a0_1.n : Int) (b1_1.n : Int) ?_
  refine condM_b (fun hb_1 => ?_) (fun hb_1 => ?_)
  · have H := H.1 hb_1
    exact H
  · have H := H.2 hb_1
    obtain ⟨J_1, ⟨n_2, h0_1⟩, HB_1⟩ := H
    refine loop_intro (J := fun (n : Nat) (vs : List Value) (h' : Heap) => ∃ i5_1 : Int, vs = [(VI i5_1)] ∧ J_1 n i5_1 h' ∧ Vars h' []) n_2 ⟨0, rfl, h0_1, hL⟩ ?_
    intro I_1 mu_1 hI_1 junk_1 tv_1 h_1 hi_1
    obtain ⟨n_1, ⟨i5_1, hv, hJ_1, hL_1⟩, hn_1⟩ := hI_1 _ _ hi_1
    cases hv
    have H := HB_1 n_1 i5_1 h_1 hJ_1 hL_1
    refine pop_len a0_1 _ _ sli25 ?_
    refine pop_lss .i64 i5_1 (a0_1.n : Int) ?_
    refine condM_b (fun hb_2 => ?_) (fun hb_2 => ?_)
    · have H := H.1 hb_2
      obtain ⟨hi_2, H⟩ := H
      refine pop_index sli25 siz3 .i64 a0_1 i5_1 hi_2 ?_
      obtain ⟨t20_1, hc_2, H⟩ := H
      refine rop_one one3 (VI t20_1) hc_2 ?_
      obtain ⟨hi_3, H⟩ := H
      refine pop_index sli25 siz3 .i64 b1_1 i5_1 hi_3 ?_
      obtain ⟨t24_1, hc_1, H⟩ := H
      refine rop_one one3 (VI t24_1) hc_1 ?_
      refine pop_ine .i64 _ _ t20_1 t24_1 ?_
      refine condM_b (fun hb_3 => ?_) (fun hb_3 => ?_)
      · have H := H.1 hb_3
        exact H
      · have H := H.2 hb_3
        refine pop_add .i64 i5_1 1 ?_
        obtain ⟨m_1, hm_1, H⟩ := H
        exact hn_1 _ _ ⟨m_1, hm_1, (w64 (i5_1 + 1)), rfl, H, hL_1⟩
    · have H := H.2 hb_2
      exact H

/-! laws.eqGraph -/
def u17 (P : Program) (a0_1 : Sl) (b1_1 : Sl) (h : Heap) (K : Value → Heap → Prop) : Prop :=
  ∀ (b_1 : Nat) (b_2 : Nat) (h_2 : Heap), h.size ≤ b_1 → h.size ≤ b_2 → Fr (In []) h h_2 → Vars h_2 [(b_2, [(Sl.v b1_1)]), (b_1, [(Sl.v a0_1)])] →
  callM P 82 #[(Sl.v a0_1), (Sl.v b1_1)] h_2 fun rv_1 h_3 => ∃ t9_1 : Bool, rv_1 = (VB t9_1) ∧ Vars h_3 [(b_2, [(Sl.v b1_1)]), (b_1, [(Sl.v a0_1)])] ∧
  ((!t9_1) = true →
  K (VB false) h_3) ∧
  ((!t9_1) = false →
  K (VB true) h_3)
theorem v17 (a0_1 : Sl) (b1_1 : Sl) (h : Heap) (K : Value → Heap → Prop) (H : u17 Try.prog a0_1 b1_1 h K) : callM Try.prog 17 #[(Value.agg #[(Sl.v a0_1)]), (Value.agg #[(Sl.v b1_1)])] h K := by
  refine c17 (Value.agg #[(Sl.v a0_1)]) (Value.agg #[(Sl.v b1_1)]) h K ?_
  unfold u17 at H
  unfold t17
  have hL : Vars h [] := .nil
  refine eop_box 32 (Value.agg #[(Sl.v a0_1)]) rfl hL (fun b_1 h_1 hb_1 hf_1 hL_1 => ?_)
  refine eop_box 32 (Value.agg #[(Sl.v b1_1)]) rfl hL_1 (fun b_2 h_2 hb_2 hf_2 hL_2 => ?_)
  refine pop_field 0 fld32_0 b_1 0 ?_
  refine rop_loc one22 hL_2 1 rfl 0 (v := (Sl.v a0_1)) rfl ?_
  refine pop_field 0 fld32_0 b_2 0 ?_
  refine rop_loc one22 hL_2 0 rfl 0 (v := (Sl.v b1_1)) rfl ?_
  have H := H b_1 b_2 h_2 (Nat.le_trans (Fr.size (Fr.r (In []) _)) hb_1) (Nat.le_trans (Fr.size (Fr.no' (Fr.r (In []) _) hf_1)) hb_2) (Fr.no' (Fr.no' (Fr.r (In []) _) hf_1) hf_2) hL_2
  refine H.mono fun rv_1 h_3 H => ?_
  obtain ⟨t9_1, rfl, hL_3, H⟩ := H
  refine pop_not t9_1 ?_
  refine condM_b (fun hb_3 => ?_) (fun hb_3 => ?_)
  · have H := H.1 hb_3
    exact H
  · have H := H.2 hb_3
    exact H

/-! laws.eqLoad -/
def u18 (P : Program) (a0_1 : Sl) (a0_2 : Sl) (b1_1 : Sl) (b1_2 : Sl) (h : Heap) (K : Value → Heap → Prop) : Prop :=
  ∀ (b_1 : Nat) (b_2 : Nat) (h_2 : Heap), h.size ≤ b_1 → h.size ≤ b_2 → Fr (In []) h h_2 → Vars h_2 [(b_2, [(Sl.v b1_1), (Sl.v b1_2)]), (b_1, [(Sl.v a0_1), (Sl.v a0_2)])] →
  callM P 16 #[(Sl.v a0_1), (Sl.v b1_1)] h_2 fun rv_1 h_3 => ∃ t9_1 : Bool, rv_1 = (VB t9_1) ∧ Vars h_3 [(b_2, [(Sl.v b1_1), (Sl.v b1_2)]), (b_1, [(Sl.v a0_1), (Sl.v a0_2)])] ∧
  ((!t9_1) = true →
  K (VB false) h_3) ∧
  ((!t9_1) = false →
  callM P 16 #[(Sl.v a0_2), (Sl.v b1_2)] h_3 fun rv_2 h_4 => ∃ t15_1 : Bool, rv_2 = (VB t15_1) ∧ Vars h_4 [(b_2, [(Sl.v b1_1), (Sl.v b1_2)]), (b_1, [(Sl.v a0_1), (Sl.v a0_2)])] ∧
  ((!t15_1) = true →
  K (VB false) h_4) ∧
  ((!t15_1) = false →
  K (VB true) h_4))
theorem v18 (a0_1 : Sl) (a0_2 : Sl) (b1_1 : Sl) (b1_2 : Sl) (h : Heap) (K : Value → Heap → Prop) (H : u18 Try.prog a0_1 a0_2 b1_1 b1_2 h K) : callM Try.prog 18 #[(Value.agg #[(Sl.v a0_1), (Sl.v a0_2)]), (Value.agg #[(Sl.v b1_1), (Sl.v b1_2)])] h K := by
  refine c18 (Value.agg #[(Sl.v a0_1), (Sl.v a0_2)]) (Value.agg #[(Sl.v b1_1), (Sl.v b1_2)]) h K ?_
  unfold u18 at H
  unfold t18
  have hL : Vars h [] := .nil
  refine eop_box 34 (Value.agg #[(Sl.v a0_1), (Sl.v a0_2)]) rfl hL (fun b_1 h_1 hb_1 hf_1 hL_1 => ?_)
  refine eop_box 34 (Value.agg #[(Sl.v b1_1), (Sl.v b1_2)]) rfl hL_1 (fun b_2 h_2 hb_2 hf_2 hL_2 => ?_)
  refine pop_field 0 fld34_0 b_1 0 ?_
  refine rop_loc one25 hL_2 1 rfl 0 (v := (Sl.v a0_1)) rfl ?_
  refine pop_field 0 fld34_0 b_2 0 ?_
  refine rop_loc one25 hL_2 0 rfl 0 (v := (Sl.v b1_1)) rfl ?_
  have H := H b_1 b_2 h_2 (Nat.le_trans (Fr.size (Fr.r (In []) _)) hb_1) (Nat.le_trans (Fr.size (Fr.no' (Fr.r (In []) _) hf_1)) hb_2) (Fr.no' (Fr.no' (Fr.r (In []) _) hf_1) hf_2) hL_2
  refine H.mono fun rv_1 h_3 H => ?_
  obtain ⟨t9_1, rfl, hL_3, H⟩ := H
  refine pop_not t9_1 ?_
  refine condM_b (fun hb_3 => ?_) (fun hb_3 => ?_)
  · have H := H.1 hb_3
    exact H
  · have H := H.2 hb_3
    refine pop_field 1 fld34_1 b_1 0 ?_
    refine rop_loc one25 hL_3 1 rfl 1 (v := (Sl.v a0_2)) rfl ?_
    refine pop_field 1 fld34_1 b_2 0 ?_
    refine rop_loc one25 hL_3 0 rfl 1 (v := (Sl.v b1_2)) rfl ?_
    refine H.mono fun rv_2 h_4 H => ?_
    obtain ⟨t15_1, rfl, hL_4, H⟩ := H
    refine pop_not t15_1 ?_
    refine condM_b (fun hb_4 => ?_) (fun hb_4 => ?_)
    · have H := H.1 hb_4
      exact H
    · have H := H.2 hb_4
      exact H

/-! laws.markGraph -/
def u19 (P : Program) (a0_1 : Sl) (k1_1 : Int) (h : Heap) (K : Value → Heap → Prop) : Prop :=
  ∀ (b_1 : Nat) (h_1 : Heap), h.size ≤ b_1 → Fr (In []) h h_1 → Vars h_1 [(b_1, [(Sl.v a0_1)])] →
  callM P 83 #[(Sl.v a0_1), (VI k1_1)] h_1 fun rv_1 h_2 => ∃ t8_1 : Int, rv_1 = (VI t8_1) ∧ Vars h_2 [(b_1, [(Sl.v a0_1)])] ∧
  K (VI t8_1) h_2
theorem v19 (a0_1 : Sl) (k1_1 : Int) (h : Heap) (K : Value → Heap → Prop) (H : u19 Try.prog a0_1 k1_1 h K) : callM Try.prog 19 #[(Value.agg #[(Sl.v a0_1)]), (VI k1_1)] h K := by
  refine c19 (Value.agg #[(Sl.v a0_1)]) (VI k1_1) h K ?_
  unfold u19 at H
  unfold t19
  have hL : Vars h [] := .nil
  refine eop_box 32 (Value.agg #[(Sl.v a0_1)]) rfl hL (fun b_1 h_1 hb_1 hf_1 hL_1 => ?_)
  refine pop_field 0 fld32_0 b_1 0 ?_
  refine rop_loc one22 hL_1 0 rfl 0 (v := (Sl.v a0_1)) rfl ?_
  have H := H b_1 h_1 (Nat.le_trans (Fr.size (Fr.r (In []) _)) hb_1) (Fr.no' (Fr.r (In []) _) hf_1) hL_1
  refine H.mono fun rv_1 h_2 H => ?_
  obtain ⟨t8_1, rfl, hL_2, H⟩ := H
  exact H

/-! laws.markLoad -/
def u20 (P : Program) (a0_1 : Sl) (a0_2 : Sl) (k1_1 : Int) (h : Heap) (K : Value → Heap → Prop) : Prop :=
  ∀ (b_1 : Nat) (h_1 : Heap), h.size ≤ b_1 → Fr (In []) h h_1 → Vars h_1 [(b_1, [(Sl.v a0_1), (Sl.v a0_2)])] →
  callM P 21 #[(Sl.v a0_1), (VI k1_1)] h_1 fun rv_1 h_2 => ∃ t8_1 : Int, rv_1 = (VI t8_1) ∧ Vars h_2 [(b_1, [(Sl.v a0_1), (Sl.v a0_2)])] ∧
  callM P 21 #[(Sl.v a0_2), (VI t8_1)] h_2 fun rv_2 h_3 => ∃ t12_1 : Int, rv_2 = (VI t12_1) ∧ Vars h_3 [(b_1, [(Sl.v a0_1), (Sl.v a0_2)])] ∧
  K (VI t12_1) h_3
theorem v20 (a0_1 : Sl) (a0_2 : Sl) (k1_1 : Int) (h : Heap) (K : Value → Heap → Prop) (H : u20 Try.prog a0_1 a0_2 k1_1 h K) : callM Try.prog 20 #[(Value.agg #[(Sl.v a0_1), (Sl.v a0_2)]), (VI k1_1)] h K := by
  refine c20 (Value.agg #[(Sl.v a0_1), (Sl.v a0_2)]) (VI k1_1) h K ?_
  unfold u20 at H
  unfold t20
  have hL : Vars h [] := .nil
  refine eop_box 34 (Value.agg #[(Sl.v a0_1), (Sl.v a0_2)]) rfl hL (fun b_1 h_1 hb_1 hf_1 hL_1 => ?_)
  refine pop_field 0 fld34_0 b_1 0 ?_
  refine rop_loc one25 hL_1 0 rfl 0 (v := (Sl.v a0_1)) rfl ?_
  have H := H b_1 h_1 (Nat.le_trans (Fr.size (Fr.r (In []) _)) hb_1) (Fr.no' (Fr.r (In []) _) hf_1) hL_1
  refine H.mono fun rv_1 h_2 H => ?_
  obtain ⟨t8_1, rfl, hL_2, H⟩ := H
  refine pop_field 1 fld34_1 b_1 0 ?_
  refine rop_loc one25 hL_2 0 rfl 1 (v := (Sl.v a0_2)) rfl ?_
  refine H.mono fun rv_2 h_3 H => ?_
  obtain ⟨t12_1, rfl, hL_3, H⟩ := H
  exact H

/-! laws.markIntS -/
def u21 (P : Program) (a0_1 : Sl) (k1_1 : Int) (h : Heap) (K : Value → Heap → Prop) : Prop :=
  ∃ J_1 : Nat → Int → Int → Heap → Prop, (∃ n0 : Nat, J_1 n0 k1_1 0 h) ∧
  ∀ (n_1 : Nat) (k1_2 : Int) (i5_1 : Int) (h_1 : Heap), J_1 n_1 k1_2 i5_1 h_1 → Vars h_1 [] →
  ((decide (i5_1 < (a0_1.n : Int))) = true →
  InB a0_1 i5_1 ∧
  Writable h_1 (Sl.at a0_1 i5_1 1) ∧ Vars (hset h_1 (Sl.at a0_1 i5_1 1) (VI k1_2)) [] ∧
  ∀ h_2 : Heap, h_2 = hset h_1 (Sl.at a0_1 i5_1 1) (VI k1_2) → Vars h_2 [] →
  ∃ m : Nat, m < n_1 ∧ J_1 m (w64 (k1_2 + 1)) (w64 (i5_1 + 1)) h_2) ∧
  ((decide (i5_1 < (a0_1.n : Int))) = false →
  K (VI k1_2) h_1)
theorem v21 (a0_1 : Sl) (k1_1 : Int) (h : Heap) (K : Value → Heap → Prop) (H : u21 Try.prog a0_1 k1_1 h K) : callM Try.prog 21 #[(Sl.v a0_1), (VI k1_1)] h K := by
  refine c21 (Sl.v a0_1) (VI k1_1) h K ?_
  unfold u21 at H
  unfold t21
  have hL : Vars h [] := .nil
  obtain ⟨J_1, ⟨n_2, h0_1⟩, HB_1⟩ := H
  refine loop_intro (J := fun (n : Nat) (vs : List Value) (h' : Heap) => ∃ k1_2 : Int, ∃ i5_1 : Int, vs = [(VI k1_2), (VI i5_1)] ∧ J_1 n k1_2 i5_1 h' ∧ Vars h' []) n_2 ⟨k1_1, 0, rfl, h0_1, hL⟩ ?_
  intro I_1 mu_1 hI_1 junk_1 tv_1 tv_2 h_1 hi_1
  obtain ⟨n_1, ⟨k1_2, i5_1, hv, hJ_1, hL_1⟩, hn_1⟩ := hI_1 _ _ hi_1
  cases hv
  have H := HB_1 n_1 k1_2 i5_1 h_1 hJ_1 hL_1
  refine pop_len a0_1 _ _ sli25 ?_
  refine pop_lss .i64 i5_1 (a0_1.n : Int) ?_
  refine condM_b (fun hb_1 => ?_) (fun hb_1 => ?_)
  · have H := H.1 hb_1
    obtain ⟨hi_2, H⟩ := H
    refine pop_index sli25 siz3 .i64 a0_1 i5_1 hi_2 ?_
    obtain ⟨hw_1, hL_2, H⟩ := H
    refine uop_cell (v := (VI k1_2)) siz3 hw_1 rfl (fun h_2 he_1 => ?_)
    rw [← he_1] at hL_2
    have H := H h_2 he_1 hL_2
    refine pop_add .i64 k1_2 1 ?_
    refine pop_add .i64 i5_1 1 ?_
    obtain ⟨m_1, hm_1, H⟩ := H
    exact hn_1 _ _ ⟨m_1, hm_1, (w64 (k1_2 + 1)), (w64 (i5_1 + 1)), rfl, H, hL_2⟩
  · have H := H.2 hb_1
    exact H

/-! laws.heldIntS -/
def u22 (P : Program) (a0_1 : Sl) (k1_1 : Int) (h : Heap) (K : Value → Heap → Prop) : Prop :=
  ∃ J_1 : Nat → Int → Int → Heap → Prop, (∃ n0 : Nat, J_1 n0 k1_1 0 h) ∧
  ∀ (n_1 : Nat) (k1_2 : Int) (i5_1 : Int) (h_1 : Heap), J_1 n_1 k1_2 i5_1 h_1 → Vars h_1 [] →
  ((decide (i5_1 < (a0_1.n : Int))) = true →
  InB a0_1 i5_1 ∧
  ∃ t15_1 : Int, hcell h_1 (Sl.at a0_1 i5_1 1) = some (VI t15_1) ∧
  ((!decide (t15_1 = k1_2)) = true →
  K (VI (-1)) h_1) ∧
  ((!decide (t15_1 = k1_2)) = false →
  ∃ m : Nat, m < n_1 ∧ J_1 m (w64 (k1_2 + 1)) (w64 (i5_1 + 1)) h_1)) ∧
  ((decide (i5_1 < (a0_1.n : Int))) = false →
  K (VI k1_2) h_1)
theorem v22 (a0_1 : Sl) (k1_1 : Int) (h : Heap) (K : Value → Heap → Prop) (H : u22 Try.prog a0_1 k1_1 h K) : callM Try.prog 22 #[(Sl.v a0_1), (VI k1_1)] h K := by
  refine c22 (Sl.v a0_1) (VI k1_1) h K ?_
  unfold u22 at H
  unfold t22
  have hL : Vars h [] := .nil
  obtain ⟨J_1, ⟨n_2, h0_1⟩, HB_1⟩ := H
  refine loop_intro (J := fun (n : Nat) (vs : List Value) (h' : Heap) => ∃ k1_2 : Int, ∃ i5_1 : Int, vs = [(VI k1_2), (VI i5_1)] ∧ J_1 n k1_2 i5_1 h' ∧ Vars h' []) n_2 ⟨k1_1, 0, rfl, h0_1, hL⟩ ?_
  intro I_1 mu_1 hI_1 junk_1 tv_1 tv_2 h_1 hi_1
  obtain ⟨n_1, ⟨k1_2, i5_1, hv, hJ_1, hL_1⟩, hn_1⟩ := hI_1 _ _ hi_1
  cases hv
  have H := HB_1 n_1 k1_2 i5_1 h_1 hJ_1 hL_1
  refine pop_len a0_1 _ _ sli25 ?_
  refine pop_lss .i64 i5_1 (a0_1.n : Int) ?_
  refine condM_b (fun hb_1 => ?_) (fun hb_1 => ?_)
  · have H := H.1 hb_1
    obtain ⟨hi_2, H⟩ := H
    refine pop_index sli25 siz3 .i64 a0_1 i5_1 hi_2 ?_
    obtain ⟨t15_1, hc_1, H⟩ := H
    refine rop_one one3 (VI t15_1) hc_1 ?_
    refine pop_ine .i64 _ _ t15_1 k1_2 ?_
    refine condM_b (fun hb_2 => ?_) (fun hb_2 => ?_)
    · have H := H.1 hb_2
      exact H
    · have H := H.2 hb_2
      refine pop_add .i64 k1_2 1 ?_
      refine pop_add .i64 i5_1 1 ?_
      obtain ⟨m_1, hm_1, H⟩ := H
      exact hn_1 _ _ ⟨m_1, hm_1, (w64 (k1_2 + 1)), (w64 (i5_1 + 1)), rfl, H, hL_1⟩
  · have H := H.2 hb_1
    exact H

/-! laws.toIntS -/
def u26 (P : Program) (a0_1 : Sl) (h : Heap) (K : Value → Heap → Prop) : Prop :=
  eop P (Instr.makeSlice 25 (VI (a0_1.n : Int)) (VI (a0_1.n : Int))) h fun rv_1 h_1 => ∃ t7_1 : Sl, rv_1 = (Sl.v t7_1) ∧ Vars h_1 [] ∧
  ∃ J_1 : Nat → Int → Heap → Prop, (∃ n0 : Nat, J_1 n0 0 h_1) ∧
  ∀ (n_1 : Nat) (i4_1 : Int) (h_2 : Heap), J_1 n_1 i4_1 h_2 → Vars h_2 [] →
  ((decide (i4_1 < (a0_1.n : Int))) = true →
  InB a0_1 i4_1 ∧
  ∃ t19_1 : Int, hcell h_2 (Sl.at a0_1 i4_1 1) = some (VI t19_1) ∧
  InB t7_1 i4_1 ∧
  Writable h_2 (Sl.at t7_1 i4_1 1) ∧ Vars (hset h_2 (Sl.at t7_1 i4_1 1) (VI t19_1)) [] ∧
  ∀ h_3 : Heap, h_3 = hset h_2 (Sl.at t7_1 i4_1 1) (VI t19_1) → Vars h_3 [] →
  ∃ m : Nat, m < n_1 ∧ J_1 m (w64 (i4_1 + 1)) h_3) ∧
  ((decide (i4_1 < (a0_1.n : Int))) = false →
  K (Sl.v t7_1) h_2)
theorem v26 (a0_1 : Sl) (h : Heap) (K : Value → Heap → Prop) (H : u26 Try.prog a0_1 h K) : callM Try.prog 26 #[(Sl.v a0_1)] h K := by
  refine c26 (Sl.v a0_1) h K ?_
  unfold u26 at H
  unfold t26
  have hL : Vars h [] := .nil
  refine pop_len a0_1 _ _ sli25 ?_
  refine H.mono fun rv_1 h_1 H => ?_
  obtain ⟨t7_1, rfl, hL_1, H⟩ := H
  obtain ⟨J_1, ⟨n_2, h0_1⟩, HB_1⟩ := H
  refine loop_intro (J := fun (n : Nat) (vs : List Value) (h' : Heap) => ∃ i4_1 : Int, vs = [(VI i4_1)] ∧ J_1 n i4_1 h' ∧ Vars h' []) n_2 ⟨0, rfl, h0_1, hL_1⟩ ?_
  intro I_1 mu_1 hI_1 junk_1 tv_1 h_2 hi_1
  obtain ⟨n_1, ⟨i4_1, hv, hJ_1, hL_2⟩, hn_1⟩ := hI_1 _ _ hi_1
  cases hv
  have H := HB_1 n_1 i4_1 h_2 hJ_1 hL_2
  refine pop_len a0_1 _ _ sli25 ?_
  refine pop_lss .i64 i4_1 (a0_1.n : Int) ?_
  refine condM_b (fun hb_1 => ?_) (fun hb_1 => ?_)
  · have H := H.1 hb_1
    obtain ⟨hi_2, H⟩ := H
    refine pop_index sli25 siz3 .i64 a0_1 i4_1 hi_2 ?_
    obtain ⟨t19_1, hc_1, H⟩ := H
    refine rop_one one3 (VI t19_1) hc_1 ?_
    obtain ⟨hi_3, H⟩ := H
    refine pop_index sli25 siz3 .i64 t7_1 i4_1 hi_3 ?_
    obtain ⟨hw_1, hL_3, H⟩ := H
    refine uop_cell (v := (VI t19_1)) siz3 hw_1 rfl (fun h_3 he_1 => ?_)
    rw [← he_1] at hL_3
    have H := H h_3 he_1 hL_3
    refine pop_add .i64 i4_1 1 ?_
    obtain ⟨m_1, hm_1, H⟩ := H
    exact hn_1 _ _ ⟨m_1, hm_1, (w64 (i4_1 + 1)), rfl, H, hL_3⟩
  · have H := H.2 hb_1
    exact H

/-! laws.szIntSS -/
def u74 (P : Program) (a0_1 : Sl) (left1_1 : Int) (h : Heap) (K : Value → Heap → Prop) : Prop :=
  ((decide ((w64 (left1_1 - (a0_1.n : Int))) < 0)) = true →
  K (VI (-1)) h) ∧
  ((decide ((w64 (left1_1 - (a0_1.n : Int))) < 0)) = false →
  ∃ J_1 : Nat → Int → Int → Heap → Prop, (∃ n0 : Nat, J_1 n0 (w64 (left1_1 - (a0_1.n : Int))) 0 h) ∧
  ∀ (n_1 : Nat) (left1_2 : Int) (i5_1 : Int) (h_1 : Heap), J_1 n_1 left1_2 i5_1 h_1 → Vars h_1 [] →
  ((decide (i5_1 < (a0_1.n : Int))) = true →
  InB a0_1 i5_1 ∧
  ∃ t21_1 : Sl, hcell h_1 (Sl.at a0_1 i5_1 1) = some (Sl.v t21_1) ∧
  callM P 75 #[(Sl.v t21_1), (VI left1_2)] h_1 fun rv_1 h_2 => ∃ t23_1 : Int, rv_1 = (VI t23_1) ∧ Vars h_2 [] ∧
  ((decide (t23_1 < 0)) = true →
  K (VI (-1)) h_2) ∧
  ((decide (t23_1 < 0)) = false →
  ∃ m : Nat, m < n_1 ∧ J_1 m t23_1 (w64 (i5_1 + 1)) h_2)) ∧
  ((decide (i5_1 < (a0_1.n : Int))) = false →
  K (VI left1_2) h_1))
theorem v74 (a0_1 : Sl) (left1_1 : Int) (h : Heap) (K : Value → Heap → Prop) (H : u74 Try.prog a0_1 left1_1 h K) : callM Try.prog 74 #[(Sl.v a0_1), (VI left1_1)] h K := by
  refine c74 (Sl.v a0_1) (VI left1_1) h K ?_
  unfold u74 at H
  unfold t74
  have hL : Vars h [] := .nil
  refine pop_len a0_1 _ _ sli22 ?_
  refine pop_sub .i64 left1_1 (a0_1.n : Int) ?_
  refine pop_lss .i64 (w64 (left1_1 - (a0_1.n : Int))) 0 ?_
  refine condM_b (fun hb_1 => ?_) (fun hb_1 => ?_)
  · have H := H.1 hb_1
    exact H
  · have H := H.2 hb_1
    obtain ⟨J_1, ⟨n_2, h0_1⟩, HB_1⟩ := H
    refine loop_intro (J := fun (n : Nat) (vs : List Value) (h' : Heap) => ∃ left1_2 : Int, ∃ i5_1 : Int, vs = [(VI left1_2), (VI i5_1)] ∧ J_1 n left1_2 i5_1 h' ∧ Vars h' []) n_2 ⟨(w64 (left1_1 - (a0_1.n : Int))), 0, rfl, h0_1, hL⟩ ?_
    intro I_1 mu_1 hI_1 junk_1 tv_1 tv_2 h_1 hi_1
    obtain ⟨n_1, ⟨left1_2, i5_1, hv, hJ_1, hL_1⟩, hn_1⟩ := hI_1 _ _ hi_1
    cases hv
    have H := HB_1 n_1 left1_2 i5_1 h_1 hJ_1 hL_1
    refine pop_len a0_1 _ _ sli22 ?_
    refine pop_lss .i64 i5_1 (a0_1.n : Int) ?_
    refine condM_b (fun hb_2 => ?_) (fun hb_2 => ?_)
    · have H := H.1 hb_2
      obtain ⟨hi_2, H⟩ := H
      refine pop_index sli22 siz25 .i64 a0_1 i5_1 hi_2 ?_
      obtain ⟨t21_1, hc_1, H⟩ := H
      refine rop_one one25 (Sl.v t21_1) hc_1 ?_
      refine H.mono fun rv_1 h_2 H => ?_
      obtain ⟨t23_1, rfl, hL_2, H⟩ := H
      refine pop_lss .i64 t23_1 0 ?_
      refine condM_b (fun hb_3 => ?_) (fun hb_3 => ?_)
      · have H := H.1 hb_3
        exact H
      · have H := H.2 hb_3
        refine pop_add .i64 i5_1 1 ?_
        obtain ⟨m_1, hm_1, H⟩ := H
        exact hn_1 _ _ ⟨m_1, hm_1, t23_1, (w64 (i5_1 + 1)), rfl, H, hL_2⟩
    · have H := H.2 hb_2
      exact H

/-! laws.szIntS -/
def u75 (P : Program) (a0_1 : Sl) (left1_1 : Int) (h : Heap) (K : Value → Heap → Prop) : Prop :=
  ((decide ((w64 (left1_1 - (a0_1.n : Int))) < 0)) = true →
  K (VI (-1)) h) ∧
  ((decide ((w64 (left1_1 - (a0_1.n : Int))) < 0)) = false →
  K (VI (w64 (left1_1 - (a0_1.n : Int)))) h)
theorem v75 (a0_1 : Sl) (left1_1 : Int) (h : Heap) (K : Value → Heap → Prop) (H : u75 Try.prog a0_1 left1_1 h K) : callM Try.prog 75 #[(Sl.v a0_1), (VI left1_1)] h K := by
  refine c75 (Sl.v a0_1) (VI left1_1) h K ?_
  unfold u75 at H
  unfold t75
  have hL : Vars h [] := .nil
  refine pop_len a0_1 _ _ sli25 ?_
  refine pop_sub .i64 left1_1 (a0_1.n : Int) ?_
  refine pop_lss .i64 (w64 (left1_1 - (a0_1.n : Int))) 0 ?_
  refine condM_b (fun hb_1 => ?_) (fun hb_1 => ?_)
  · have H := H.1 hb_1
    exact H
  · have H := H.2 hb_1
    exact H

/-! spec.chGood -/
def u76 (P : Program) (g0_1 : Sl) (sink1_1 : Int) (l2_1 : Sl) (l2_2 : Sl) (h : Heap) (K : Value → Heap → Prop) : Prop :=
  ∀ (b_1 : Nat) (b_2 : Nat) (h_2 : Heap), h.size ≤ b_1 → h.size ≤ b_2 → Fr (In []) h h_2 → Vars h_2 [(b_2, [(Sl.v l2_1), (Sl.v l2_2)]), (b_1, [(Sl.v g0_1)])] →
  callM P 111 #[(Value.agg #[(Sl.v g0_1)]), (VI sink1_1)] h_2 fun rv_1 h_3 => ∃ t9_1 : Bool, rv_1 = (VB t9_1) ∧ Vars h_3 [(b_2, [(Sl.v l2_1), (Sl.v l2_2)]), (b_1, [(Sl.v g0_1)])] ∧
  ((!t9_1) = true →
  K (VB false) h_3) ∧
  ((!t9_1) = false →
  callM P 138 #[(Value.agg #[(Sl.v g0_1)]), (Value.agg #[(Sl.v l2_1), (VI sink1_1)])] h_3 fun rv_2 h_4 => ∃ t17_1 : Bool, rv_2 = (VB t17_1) ∧ Vars h_4 [(b_2, [(Sl.v l2_1), (Sl.v l2_2)]), (b_1, [(Sl.v g0_1)])] ∧
  ((!t17_1) = true →
  K (VB false) h_4) ∧
  ((!t17_1) = false →
  ((!decide ((l2_2.n : Int) = (g0_1.n : Int))) = true →
  K (VB false) h_4) ∧
  ((!decide ((l2_2.n : Int) = (g0_1.n : Int))) = false →
  callM P 104 #[(Sl.v l2_2), (VI 0), (VI 20)] h_4 fun rv_3 h_5 => ∃ t31_1 : Bool, rv_3 = (VB t31_1) ∧ Vars h_5 [(b_2, [(Sl.v l2_1), (Sl.v l2_2)]), (b_1, [(Sl.v g0_1)])] ∧
  (t31_1 = true →
  callM P 139 #[(Sl.v l2_2)] h_5 fun rv_4 h_6 => ∃ t35_1 : Int, rv_4 = (VI t35_1) ∧ Vars h_6 [(b_2, [(Sl.v l2_1), (Sl.v l2_2)]), (b_1, [(Sl.v g0_1)])] ∧
  K (VB (decide (t35_1 ≤ 20))) h_6) ∧
  (t31_1 = false →
  K (VB false) h_5))))
theorem v76 (g0_1 : Sl) (sink1_1 : Int) (l2_1 : Sl) (l2_2 : Sl) (h : Heap) (K : Value → Heap → Prop) (H : u76 Try.prog g0_1 sink1_1 l2_1 l2_2 h K) : callM Try.prog 76 #[(Value.agg #[(Sl.v g0_1)]), (VI sink1_1), (Value.agg #[(Sl.v l2_1), (Sl.v l2_2)])] h K := by
  refine c76 (Value.agg #[(Sl.v g0_1)]) (VI sink1_1) (Value.agg #[(Sl.v l2_1), (Sl.v l2_2)]) h K ?_
  unfold u76 at H
  unfold t76
  have hL : Vars h [] := .nil
  refine eop_box 32 (Value.agg #[(Sl.v g0_1)]) rfl hL (fun b_1 h_1 hb_1 hf_1 hL_1 => ?_)
  refine eop_box 34 (Value.agg #[(Sl.v l2_1), (Sl.v l2_2)]) rfl hL_1 (fun b_2 h_2 hb_2 hf_2 hL_2 => ?_)
  refine rop_locA agg32 hL_2 1 rfl 0 (vs := [(Sl.v g0_1)]) rfl rfl ?_
  have H := H b_1 b_2 h_2 (Nat.le_trans (Fr.size (Fr.r (In []) _)) hb_1) (Nat.le_trans (Fr.size (Fr.no' (Fr.r (In []) _) hf_1)) hb_2) (Fr.no' (Fr.no' (Fr.r (In []) _) hf_1) hf_2) hL_2
  refine H.mono fun rv_1 h_3 H => ?_
  obtain ⟨t9_1, rfl, hL_3, H⟩ := H
  refine pop_not t9_1 ?_
  refine guardM_sf (fun hb_3 => ?_) (fun hb_3 => ?_)
  · have H := H.2 hb_3
    refine rop_locA agg32 hL_3 1 rfl 0 (vs := [(Sl.v g0_1)]) rfl rfl ?_
    refine guardM_y' hb_3 ?_
    refine pop_field 0 fld34_0 b_2 0 ?_
    refine guardM_y' hb_3 ?_
    refine rop_loc one25 hL_3 0 rfl 0 (v := (Sl.v l2_1)) rfl ?_
    refine guardM_y' hb_3 ?_
    refine guardM_y' hb_3 ?_
    refine pop.mk' (v := (Value.agg #[(Sl.v l2_1), (VI sink1_1)])) (fun w => by kernel_rfl) ?_
    refine guardM_y' hb_3 ?_
    refine H.mono fun rv_2 h_4 H => ?_
    obtain ⟨t17_1, rfl, hL_4, H⟩ := H
    refine guardM_y' hb_3 ?_
    refine pop_not t17_1 ?_
    refine pop_pickf' hb_3 ?_
    refine guardM_sf (fun hb_4 => ?_) (fun hb_4 => ?_)
    · have H := H.2 hb_4
      refine pop_field 1 fld34_1 b_2 0 ?_
      refine guardM_y' hb_4 ?_
      refine rop_loc one25 hL_4 0 rfl 1 (v := (Sl.v l2_2)) rfl ?_
      refine guardM_y' hb_4 ?_
      refine pop_len l2_2 _ _ sli25 ?_
      refine guardM_y' hb_4 ?_
      refine pop_field 0 fld32_0 b_1 0 ?_
      refine guardM_y' hb_4 ?_
      refine rop_loc one22 hL_4 1 rfl 0 (v := (Sl.v g0_1)) rfl ?_
      refine guardM_y' hb_4 ?_
      refine pop_len g0_1 _ _ sli22 ?_
      refine guardM_y' hb_4 ?_
      refine pop_ine .i64 _ _ (l2_2.n : Int) (g0_1.n : Int) ?_
      refine pop_pickf' hb_4 ?_
      refine condM_b (fun hb_5 => ?_) (fun hb_5 => ?_)
      · have H := H.1 hb_5
        exact H
      · have H := H.2 hb_5
        refine pop_field 1 fld34_1 b_2 0 ?_
        refine rop_loc one25 hL_4 0 rfl 1 (v := (Sl.v l2_2)) rfl ?_
        refine H.mono fun rv_3 h_5 H => ?_
        obtain ⟨t31_1, rfl, hL_5, H⟩ := H
        refine guardM_st (fun hb_6 => ?_) (fun hb_6 => ?_)
        · have H := H.1 hb_6
          refine pop_field 1 fld34_1 b_2 0 ?_
          refine guardM_y' hb_6 ?_
          refine rop_loc one25 hL_5 0 rfl 1 (v := (Sl.v l2_2)) rfl ?_
          refine guardM_y' hb_6 ?_
          refine H.mono fun rv_4 h_6 H => ?_
          obtain ⟨t35_1, rfl, hL_6, H⟩ := H
          refine guardM_y' hb_6 ?_
          refine pop_leq .i64 t35_1 20 ?_
          refine pop_pickt' hb_6 ?_
          exact H
        · have H := H.2 hb_6
          refine guardM_n' hb_6 (by decide) ?_
          refine guardM_n' hb_6 (by decide) ?_
          refine guardM_n' hb_6 (by decide) ?_
          refine pop_pickf' hb_6 ?_
          exact H
    · have H := H.1 hb_4
      refine guardM_n' hb_4 (by decide) ?_
      refine guardM_n' hb_4 (by decide) ?_
      refine guardM_n' hb_4 (by decide) ?_
      refine guardM_n' hb_4 (by decide) ?_
      refine guardM_n' hb_4 (by decide) ?_
      refine guardM_n' hb_4 (by decide) ?_
      refine pop_pickt' hb_4 ?_
      refine condM_t ?_
      exact H
  · have H := H.1 hb_3
    refine guardM_n' hb_3 (by decide) ?_
    refine guardM_n' hb_3 (by decide) ?_
    refine guardM_n' hb_3 (by decide) ?_
    refine guardM_n' hb_3 (by decide) ?_
    refine guardM_n' hb_3 (by decide) ?_
    refine guardM_n' hb_3 (by decide) ?_
    refine pop_pickt' hb_3 ?_
    refine guardM_n (by decide) ?_
    refine guardM_n (by decide) ?_
    refine guardM_n (by decide) ?_
    refine guardM_n (by decide) ?_
    refine guardM_n (by decide) ?_
    refine guardM_n (by decide) ?_
    refine guardM_n (by decide) ?_
    refine pop_pickt _ _ ?_
    refine condM_t ?_
    exact H

/-! spec.chEnd -/
def u77 (P : Program) (g0_1 : Sl) (sink1_1 : Int) (l2_1 : Sl) (l2_2 : Sl) (choices3_1 : Sl) (h : Heap) (K : Value → Heap → Prop) : Prop :=
  ∀ (b_1 : Nat) (b_2 : Nat) (b_3 : Nat) (h_3 : Heap), h.size ≤ b_1 → h.size ≤ b_2 → h.size ≤ b_3 → Fr (In []) h h_3 → Vars h_3 [(b_3, [(Sl.v nilSl), (Sl.v nilSl)]), (b_2, [(Sl.v l2_1), (Sl.v l2_2)]), (b_1, [(Sl.v g0_1)])] →
  ∃ J_1 : Nat → Sl → Sl → Sl → Heap → Prop, ((callM P 109 #[(Value.agg #[(Sl.v l2_1), (Sl.v l2_2)])] h_3 fun rv_1 h_4 => ∃ t17_1 : Sl, ∃ t17_2 : Sl, rv_1 = (Value.agg #[(Sl.v t17_1), (Sl.v t17_2)]) ∧ Vars h_4 [(b_3, [(Sl.v nilSl), (Sl.v nilSl)]), (b_2, [(Sl.v l2_1), (Sl.v l2_2)]), (b_1, [(Sl.v g0_1)])] ∧
  (eop P (Instr.makeSlice 25 (VI (g0_1.n : Int)) (VI (g0_1.n : Int))) h_4 fun rv_2 h_5 => ∃ t21_1 : Sl, rv_2 = (Sl.v t21_1) ∧ Vars h_5 [(b_3, [(Sl.v nilSl), (Sl.v nilSl)]), (b_2, [(Sl.v l2_1), (Sl.v l2_2)]), (b_1, [(Sl.v g0_1)])] ∧
  ∀ (b_5 : Nat) (h_6 : Heap), h_5.size ≤ b_5 → Fr (In []) h_5 h_6 → Vars h_6 [(b_5, [(Sl.v nilSl), (Sl.v nilSl)]), (b_3, [(Sl.v nilSl), (Sl.v nilSl)]), (b_2, [(Sl.v l2_1), (Sl.v l2_2)]), (b_1, [(Sl.v g0_1)])] →
  ∀ (h_7 : Heap), Fr (In [b_5]) h_6 h_7 → Vars h_7 [(b_5, [(Sl.v t17_1), (Sl.v t17_2)]), (b_3, [(Sl.v nilSl), (Sl.v nilSl)]), (b_2, [(Sl.v l2_1), (Sl.v l2_2)]), (b_1, [(Sl.v g0_1)])] →
  J_1 b_5 t17_1 t17_2 t21_1 h_7) ∧
  (∀ (b_6 : Nat) (h_8 : Heap), h_4.size ≤ b_6 → Fr (In []) h_4 h_8 → Vars h_8 [(b_6, [(Sl.v nilSl), (Sl.v nilSl)]), (b_3, [(Sl.v nilSl), (Sl.v nilSl)]), (b_2, [(Sl.v l2_1), (Sl.v l2_2)]), (b_1, [(Sl.v g0_1)])] →
  (eop P (Instr.makeSlice 25 (VI (g0_1.n : Int)) (VI (g0_1.n : Int))) h_8 fun rv_3 h_9 => ∃ t21_2 : Sl, rv_3 = (Sl.v t21_2) ∧ Vars h_9 [(b_6, [(Sl.v nilSl), (Sl.v nilSl)]), (b_3, [(Sl.v nilSl), (Sl.v nilSl)]), (b_2, [(Sl.v l2_1), (Sl.v l2_2)]), (b_1, [(Sl.v g0_1)])] ∧
  ∀ (h_10 : Heap), Fr (In [b_6]) h_9 h_10 → Vars h_10 [(b_6, [(Sl.v t17_1), (Sl.v t17_2)]), (b_3, [(Sl.v nilSl), (Sl.v nilSl)]), (b_2, [(Sl.v l2_1), (Sl.v l2_2)]), (b_1, [(Sl.v g0_1)])] →
  J_1 b_6 t17_1 t17_2 t21_2 h_10) ∧
  (∀ (h_11 : Heap), Fr (In [b_6]) h_8 h_11 → Vars h_11 [(b_6, [(Sl.v t17_1), (Sl.v t17_2)]), (b_3, [(Sl.v nilSl), (Sl.v nilSl)]), (b_2, [(Sl.v l2_1), (Sl.v l2_2)]), (b_1, [(Sl.v g0_1)])] →
  eop P (Instr.makeSlice 25 (VI (g0_1.n : Int)) (VI (g0_1.n : Int))) h_11 fun rv_4 h_12 => ∃ t21_3 : Sl, rv_4 = (Sl.v t21_3) ∧ Vars h_12 [(b_6, [(Sl.v t17_1), (Sl.v t17_2)]), (b_3, [(Sl.v nilSl), (Sl.v nilSl)]), (b_2, [(Sl.v l2_1), (Sl.v l2_2)]), (b_1, [(Sl.v g0_1)])] ∧
  J_1 b_6 t17_1 t17_2 t21_3 h_12))) ∧
  (eop P (Instr.makeSlice 25 (VI (g0_1.n : Int)) (VI (g0_1.n : Int))) h_3 fun rv_5 h_13 => ∃ t21_4 : Sl, rv_5 = (Sl.v t21_4) ∧ Vars h_13 [(b_3, [(Sl.v nilSl), (Sl.v nilSl)]), (b_2, [(Sl.v l2_1), (Sl.v l2_2)]), (b_1, [(Sl.v g0_1)])] ∧
  (callM P 109 #[(Value.agg #[(Sl.v l2_1), (Sl.v l2_2)])] h_13 fun rv_6 h_14 => ∃ t17_3 : Sl, ∃ t17_4 : Sl, rv_6 = (Value.agg #[(Sl.v t17_3), (Sl.v t17_4)]) ∧ Vars h_14 [(b_3, [(Sl.v nilSl), (Sl.v nilSl)]), (b_2, [(Sl.v l2_1), (Sl.v l2_2)]), (b_1, [(Sl.v g0_1)])] ∧
  ∀ (b_7 : Nat) (h_15 : Heap), h_14.size ≤ b_7 → Fr (In []) h_14 h_15 → Vars h_15 [(b_7, [(Sl.v nilSl), (Sl.v nilSl)]), (b_3, [(Sl.v nilSl), (Sl.v nilSl)]), (b_2, [(Sl.v l2_1), (Sl.v l2_2)]), (b_1, [(Sl.v g0_1)])] →
  ∀ (h_16 : Heap), Fr (In [b_7]) h_15 h_16 → Vars h_16 [(b_7, [(Sl.v t17_3), (Sl.v t17_4)]), (b_3, [(Sl.v nilSl), (Sl.v nilSl)]), (b_2, [(Sl.v l2_1), (Sl.v l2_2)]), (b_1, [(Sl.v g0_1)])] →
  J_1 b_7 t17_3 t17_4 t21_4 h_16) ∧
  (∀ (b_8 : Nat) (h_17 : Heap), h_13.size ≤ b_8 → Fr (In []) h_13 h_17 → Vars h_17 [(b_8, [(Sl.v nilSl), (Sl.v nilSl)]), (b_3, [(Sl.v nilSl), (Sl.v nilSl)]), (b_2, [(Sl.v l2_1), (Sl.v l2_2)]), (b_1, [(Sl.v g0_1)])] →
  callM P 109 #[(Value.agg #[(Sl.v l2_1), (Sl.v l2_2)])] h_17 fun rv_7 h_18 => ∃ t17_5 : Sl, ∃ t17_6 : Sl, rv_7 = (Value.agg #[(Sl.v t17_5), (Sl.v t17_6)]) ∧ Vars h_18 [(b_8, [(Sl.v nilSl), (Sl.v nilSl)]), (b_3, [(Sl.v nilSl), (Sl.v nilSl)]), (b_2, [(Sl.v l2_1), (Sl.v l2_2)]), (b_1, [(Sl.v g0_1)])] ∧
  ∀ (h_19 : Heap), Fr (In [b_8]) h_18 h_19 → Vars h_19 [(b_8, [(Sl.v t17_5), (Sl.v t17_6)]), (b_3, [(Sl.v nilSl), (Sl.v nilSl)]), (b_2, [(Sl.v l2_1), (Sl.v l2_2)]), (b_1, [(Sl.v g0_1)])] →
  J_1 b_8 t17_5 t17_6 t21_4 h_19)) ∧
  (∀ (b_9 : Nat) (h_20 : Heap), h_3.size ≤ b_9 → Fr (In []) h_3 h_20 → Vars h_20 [(b_9, [(Sl.v nilSl), (Sl.v nilSl)]), (b_3, [(Sl.v nilSl), (Sl.v nilSl)]), (b_2, [(Sl.v l2_1), (Sl.v l2_2)]), (b_1, [(Sl.v g0_1)])] →
  (callM P 109 #[(Value.agg #[(Sl.v l2_1), (Sl.v l2_2)])] h_20 fun rv_8 h_21 => ∃ t17_7 : Sl, ∃ t17_8 : Sl, rv_8 = (Value.agg #[(Sl.v t17_7), (Sl.v t17_8)]) ∧ Vars h_21 [(b_9, [(Sl.v nilSl), (Sl.v nilSl)]), (b_3, [(Sl.v nilSl), (Sl.v nilSl)]), (b_2, [(Sl.v l2_1), (Sl.v l2_2)]), (b_1, [(Sl.v g0_1)])] ∧
  (eop P (Instr.makeSlice 25 (VI (g0_1.n : Int)) (VI (g0_1.n : Int))) h_21 fun rv_9 h_22 => ∃ t21_5 : Sl, rv_9 = (Sl.v t21_5) ∧ Vars h_22 [(b_9, [(Sl.v nilSl), (Sl.v nilSl)]), (b_3, [(Sl.v nilSl), (Sl.v nilSl)]), (b_2, [(Sl.v l2_1), (Sl.v l2_2)]), (b_1, [(Sl.v g0_1)])] ∧
  ∀ (h_23 : Heap), Fr (In [b_9]) h_22 h_23 → Vars h_23 [(b_9, [(Sl.v t17_7), (Sl.v t17_8)]), (b_3, [(Sl.v nilSl), (Sl.v nilSl)]), (b_2, [(Sl.v l2_1), (Sl.v l2_2)]), (b_1, [(Sl.v g0_1)])] →
  J_1 b_9 t17_7 t17_8 t21_5 h_23) ∧
  (∀ (h_24 : Heap), Fr (In [b_9]) h_21 h_24 → Vars h_24 [(b_9, [(Sl.v t17_7), (Sl.v t17_8)]), (b_3, [(Sl.v nilSl), (Sl.v nilSl)]), (b_2, [(Sl.v l2_1), (Sl.v l2_2)]), (b_1, [(Sl.v g0_1)])] →
  eop P (Instr.makeSlice 25 (VI (g0_1.n : Int)) (VI (g0_1.n : Int))) h_24 fun rv_10 h_25 => ∃ t21_6 : Sl, rv_10 = (Sl.v t21_6) ∧ Vars h_25 [(b_9, [(Sl.v t17_7), (Sl.v t17_8)]), (b_3, [(Sl.v nilSl), (Sl.v nilSl)]), (b_2, [(Sl.v l2_1), (Sl.v l2_2)]), (b_1, [(Sl.v g0_1)])] ∧
  J_1 b_9 t17_7 t17_8 t21_6 h_25)) ∧
  (eop P (Instr.makeSlice 25 (VI (g0_1.n : Int)) (VI (g0_1.n : Int))) h_20 fun rv_11 h_26 => ∃ t21_7 : Sl, rv_11 = (Sl.v t21_7) ∧ Vars h_26 [(b_9, [(Sl.v nilSl), (Sl.v nilSl)]), (b_3, [(Sl.v nilSl), (Sl.v nilSl)]), (b_2, [(Sl.v l2_1), (Sl.v l2_2)]), (b_1, [(Sl.v g0_1)])] ∧
  callM P 109 #[(Value.agg #[(Sl.v l2_1), (Sl.v l2_2)])] h_26 fun rv_12 h_27 => ∃ t17_9 : Sl, ∃ t17_10 : Sl, rv_12 = (Value.agg #[(Sl.v t17_9), (Sl.v t17_10)]) ∧ Vars h_27 [(b_9, [(Sl.v nilSl), (Sl.v nilSl)]), (b_3, [(Sl.v nilSl), (Sl.v nilSl)]), (b_2, [(Sl.v l2_1), (Sl.v l2_2)]), (b_1, [(Sl.v g0_1)])] ∧
  ∀ (h_28 : Heap), Fr (In [b_9]) h_27 h_28 → Vars h_28 [(b_9, [(Sl.v t17_9), (Sl.v t17_10)]), (b_3, [(Sl.v nilSl), (Sl.v nilSl)]), (b_2, [(Sl.v l2_1), (Sl.v l2_2)]), (b_1, [(Sl.v g0_1)])] →
  J_1 b_9 t17_9 t17_10 t21_7 h_28))) ∧
  ∀ (b_4 : Nat) (x_1 : Sl) (x_2 : Sl) (x_3 : Sl) (h_29 : Heap), J_1 b_4 x_1 x_2 x_3 h_29 → Vars h_29 [(b_4, [(Sl.v x_1), (Sl.v x_2)]), (b_3, [(Sl.v nilSl), (Sl.v nilSl)]), (b_2, [(Sl.v l2_1), (Sl.v l2_2)]), (b_1, [(Sl.v g0_1)])] →
  ∃ J_2 : Nat → Int → Heap → Prop, (∃ n0 : Nat, J_2 n0 0 h_29) ∧
  ∀ (n_1 : Nat) (k13_1 : Int) (h_30 : Heap), J_2 n_1 k13_1 h_30 → Vars h_30 [(b_4, [(Sl.v x_1), (Sl.v x_2)]), (b_3, [(Sl.v nilSl), (Sl.v nilSl)]), (b_2, [(Sl.v l2_1), (Sl.v l2_2)]), (b_1, [(Sl.v g0_1)])] →
  callM P 96 #[(VI sink1_1), (Sl.v x_2)] h_30 fun rv_13 h_31 => ∃ t27_1 : Sl, rv_13 = (Sl.v t27_1) ∧ Vars h_31 [(b_4, [(Sl.v x_1), (Sl.v x_2)]), (b_3, [(Sl.v nilSl), (Sl.v nilSl)]), (b_2, [(Sl.v l2_1), (Sl.v l2_2)]), (b_1, [(Sl.v g0_1)])] ∧
  ((decide ((t27_1.n : Int) = 0)) = true →
  ∀ (h_32 : Heap), Fr (In [b_3]) h_31 h_32 → Vars h_32 [(b_4, [(Sl.v x_1), (Sl.v x_2)]), (b_3, [(Sl.v x_1), (Sl.v x_2)]), (b_2, [(Sl.v l2_1), (Sl.v l2_2)]), (b_1, [(Sl.v g0_1)])] →
  K (Value.tuple #[(Value.agg #[(Sl.v x_1), (Sl.v x_2)]), (Sl.v x_3), (VB true)]) h_32) ∧
  ((decide ((t27_1.n : Int) = 0)) = false →
  ((decide (4000 ≤ k13_1)) = true →
  ∀ (h_33 : Heap), Fr (In [b_3]) h_31 h_33 → Vars h_33 [(b_4, [(Sl.v x_1), (Sl.v x_2)]), (b_3, [(Sl.v nilSl), (Sl.v nilSl)]), (b_2, [(Sl.v l2_1), (Sl.v l2_2)]), (b_1, [(Sl.v g0_1)])] →
  K (Value.tuple #[(Value.agg #[(Sl.v nilSl), (Sl.v nilSl)]), (Sl.v nilSl), (VB false)]) h_33) ∧
  ((decide (4000 ≤ k13_1)) = false →
  InB t27_1 0 ∧
  ∃ t38_1 : Int, hcell h_31 (Sl.at t27_1 0 1) = some (VI t38_1) ∧
  ∃ J_3 : Int → Heap → Prop, (((decide (k13_1 < (choices3_1.n : Int))) = true →
  InB choices3_1 k13_1 ∧
  ∃ t47_1 : Int, hcell h_31 (Sl.at choices3_1 k13_1 1) = some (VI t47_1) ∧
  (t27_1.n : Int) ≠ 0 ∧
  InB t27_1 (Int.tmod t47_1 (t27_1.n : Int)) ∧
  ∃ t52_1 : Int, hcell h_31 (Sl.at t27_1 (Int.tmod t47_1 (t27_1.n : Int)) 1) = some (VI t52_1) ∧
  J_3 t52_1 h_31) ∧
  ((decide (k13_1 < (choices3_1.n : Int))) = false →
  J_3 t38_1 h_31)) ∧
  ∀ (x_4 : Int) (h_34 : Heap), J_3 x_4 h_34 → Vars h_34 [(b_4, [(Sl.v x_1), (Sl.v x_2)]), (b_3, [(Sl.v nilSl), (Sl.v nilSl)]), (b_2, [(Sl.v l2_1), (Sl.v l2_2)]), (b_1, [(Sl.v g0_1)])] →
  callM P 110 #[(Value.agg #[(Sl.v g0_1)]), (Value.agg #[(Sl.v x_1), (Sl.v x_2)]), (VI x_4)] h_34 fun rv_14 h_35 => Vars h_35 [(b_4, [(Sl.v x_1), (Sl.v x_2)]), (b_3, [(Sl.v nilSl), (Sl.v nilSl)]), (b_2, [(Sl.v l2_1), (Sl.v l2_2)]), (b_1, [(Sl.v g0_1)])] ∧
  InB x_3 x_4 ∧
  ∃ t60_1 : Int, hcell h_35 (Sl.at x_3 x_4 1) = some (VI t60_1) ∧
  InB x_3 x_4 ∧
  Writable h_35 (Sl.at x_3 x_4 1) ∧ Vars (hset h_35 (Sl.at x_3 x_4 1) (VI (w64 (t60_1 + 1)))) [(b_4, [(Sl.v x_1), (Sl.v x_2)]), (b_3, [(Sl.v nilSl), (Sl.v nilSl)]), (b_2, [(Sl.v l2_1), (Sl.v l2_2)]), (b_1, [(Sl.v g0_1)])] ∧
  ∀ h_36 : Heap, h_36 = hset h_35 (Sl.at x_3 x_4 1) (VI (w64 (t60_1 + 1))) → Vars h_36 [(b_4, [(Sl.v x_1), (Sl.v x_2)]), (b_3, [(Sl.v nilSl), (Sl.v nilSl)]), (b_2, [(Sl.v l2_1), (Sl.v l2_2)]), (b_1, [(Sl.v g0_1)])] →
  ∃ m : Nat, m < n_1 ∧ J_2 m (w64 (k13_1 + 1)) h_36))
theorem v77 (g0_1 : Sl) (sink1_1 : Int) (l2_1 : Sl) (l2_2 : Sl) (choices3_1 : Sl) (h : Heap) (K : Value → Heap → Prop) (H : u77 Try.prog g0_1 sink1_1 l2_1 l2_2 choices3_1 h K) : callM Try.prog 77 #[(Value.agg #[(Sl.v g0_1)]), (VI sink1_1), (Value.agg #[(Sl.v l2_1), (Sl.v l2_2)]), (Sl.v choices3_1)] h K := by
  refine c77 (Value.agg #[(Sl.v g0_1)]) (VI sink1_1) (Value.agg #[(Sl.v l2_1), (Sl.v l2_2)]) (Sl.v choices3_1) h K ?_
  unfold u77 at H
  unfold t77
  have hL : Vars h [] := .nil
  refine eop_box 32 (Value.agg #[(Sl.v g0_1)]) rfl hL (fun b_1 h_1 hb_1 hf_1 hL_1 => ?_)
  refine eop_box 34 (Value.agg #[(Sl.v l2_1), (Sl.v l2_2)]) rfl hL_1 (fun b_2 h_2 hb_2 hf_2 hL_2 => ?_)
  refine eop_alloc 34 zer34 rfl hL_2 (fun b_3 h_3 hb_3 hf_3 hL_3 => ?_)
  have H := H b_1 b_2 b_3 h_3 (Nat.le_trans (Fr.size (Fr.r (In []) _)) hb_1) (Nat.le_trans (Fr.size (Fr.no' (Fr.r (In []) _) hf_1)) hb_2) (Nat.le_trans (Fr.size (Fr.no' (Fr.no' (Fr.r (In []) _) hf_1) hf_2)) hb_3) (Fr.no' (Fr.no' (Fr.no' (Fr.r (In []) _) hf_1) hf_2) hf_3) hL_3
  obtain ⟨J_1, H, HB_3⟩ := H
  refine ⟨fun (vs : List Value) (h' : Heap) => ∃ b_4 : Nat, ∃ x_1 : Sl, ∃ x_2 : Sl, ∃ x_3 : Sl, vs = [(VP b_4 0), (Sl.v x_3)] ∧ J_1 b_4 x_1 x_2 x_3 h' ∧ Vars h' [(b_4, [(Sl.v x_1), (Sl.v x_2)]), (b_3, [(Sl.v nilSl), (Sl.v nilSl)]), (b_2, [(Sl.v l2_1), (Sl.v l2_2)]), (b_1, [(Sl.v g0_1)])], ?_, ?_⟩
  · refine rop_locA agg34 hL_3 1 rfl 0 (vs := [(Sl.v l2_1), (Sl.v l2_2)]) rfl rfl ?_
    refine pop_field 0 fld32_0 b_1 0 ?_
    refine rop_loc one22 hL_3 2 rfl 0 (v := (Sl.v g0_1)) rfl ?_
    refine pop_len g0_1 _ _ sli22 ?_
    refine ⟨?_, ?_, ?_⟩
    · have H := H.1
      refine H.mono fun rv_1 h_4 H => ?_
      obtain ⟨t17_1, t17_2, rfl, hL_4, H⟩ := H
      refine ⟨?_, ?_⟩
      · exact still_loc one22 hL_4 2 rfl 0 (v := (Sl.v g0_1)) rfl
      refine ⟨?_, ?_⟩
      · have H := H.1
        refine H.mono fun rv_2 h_5 H => ?_
        obtain ⟨t21_1, rfl, hL_5, H⟩ := H
        refine ⟨?_, ?_⟩
        · exact still_loc one22 hL_5 2 rfl 0 (v := (Sl.v g0_1)) rfl
        refine eop_alloc 34 zer34 rfl hL_5 (fun b_5 h_6 hb_4 hf_4 hL_6 => ?_)
        have H := H b_5 h_6 (Nat.le_trans (Fr.size (Fr.r (In []) _)) hb_4) (Fr.no' (Fr.r (In []) _) hf_4) hL_6
        refine ⟨?_, ?_⟩
        · exact still_loc one22 hL_6 3 rfl 0 (v := (Sl.v g0_1)) rfl
        refine uop_loc siz34 hL_6 0 rfl 0 [(Sl.v t17_1), (Sl.v t17_2)] rfl rfl rfl (Nat.le_of_ble_eq_true rfl) (L' := [(b_5, [(Sl.v t17_1), (Sl.v t17_2)]), (b_3, [(Sl.v nilSl), (Sl.v nilSl)]), (b_2, [(Sl.v l2_1), (Sl.v l2_2)]), (b_1, [(Sl.v g0_1)])]) rfl (fun h_7 hf_5 hL_7 => ?_)
        have H := H  h_7  (Fr.old (Fr.r (In []) _) hf_5) hL_7
        refine ⟨?_, ?_⟩
        · exact still_loc one22 hL_7 3 rfl 0 (v := (Sl.v g0_1)) rfl
        exact ⟨b_5, t17_1, t17_2, t21_1, rfl, H, hL_7⟩
      · have H := H.2
        refine eop_alloc 34 zer34 rfl hL_4 (fun b_6 h_8 hb_5 hf_6 hL_8 => ?_)
        have H := H b_6 h_8 (Nat.le_trans (Fr.size (Fr.r (In []) _)) hb_5) (Fr.no' (Fr.r (In []) _) hf_6) hL_8
        refine ⟨?_, ?_⟩
        · exact still_loc one22 hL_8 3 rfl 0 (v := (Sl.v g0_1)) rfl
        refine ⟨?_, ?_⟩
        · have H := H.1
          refine H.mono fun rv_3 h_9 H => ?_
          obtain ⟨t21_2, rfl, hL_9, H⟩ := H
          refine ⟨?_, ?_⟩
          · exact still_loc one22 hL_9 3 rfl 0 (v := (Sl.v g0_1)) rfl
          refine uop_loc siz34 hL_9 0 rfl 0 [(Sl.v t17_1), (Sl.v t17_2)] rfl rfl rfl (Nat.le_of_ble_eq_true rfl) (L' := [(b_6, [(Sl.v t17_1), (Sl.v t17_2)]), (b_3, [(Sl.v nilSl), (Sl.v nilSl)]), (b_2, [(Sl.v l2_1), (Sl.v l2_2)]), (b_1, [(Sl.v g0_1)])]) rfl (fun h_10 hf_7 hL_10 => ?_)
          have H := H  h_10  (Fr.old (Fr.r (In []) _) hf_7) hL_10
          refine ⟨?_, ?_⟩
          · exact still_loc one22 hL_10 3 rfl 0 (v := (Sl.v g0_1)) rfl
          exact ⟨b_6, t17_1, t17_2, t21_2, rfl, H, hL_10⟩
        · have H := H.2
          refine uop_loc siz34 hL_8 0 rfl 0 [(Sl.v t17_1), (Sl.v t17_2)] rfl rfl rfl (Nat.le_of_ble_eq_true rfl) (L' := [(b_6, [(Sl.v t17_1), (Sl.v t17_2)]), (b_3, [(Sl.v nilSl), (Sl.v nilSl)]), (b_2, [(Sl.v l2_1), (Sl.v l2_2)]), (b_1, [(Sl.v g0_1)])]) rfl (fun h_11 hf_8 hL_11 => ?_)
          have H := H  h_11  (Fr.old (Fr.r (In []) _) hf_8) hL_11
          refine ⟨?_, ?_⟩
          · exact still_loc one22 hL_11 3 rfl 0 (v := (Sl.v g0_1)) rfl
          refine H.mono fun rv_4 h_12 H => ?_
          obtain ⟨t21_3, rfl, hL_12, H⟩ := H
          refine ⟨?_, ?_⟩
          · exact still_loc one22 hL_12 3 rfl 0 (v := (Sl.v g0_1)) rfl
          exact ⟨b_6, t17_1, t17_2, t21_3, rfl, H, hL_12⟩
    · have H := H.2.1
      refine H.mono fun rv_5 h_13 H => ?_
      obtain ⟨t21_4, rfl, hL_13, H⟩ := H
      refine ⟨?_, ?_⟩
      · exact still_loc one22 hL_13 2 rfl 0 (v := (Sl.v g0_1)) rfl
      refine ⟨?_, ?_⟩
      · exact still_locA agg34 hL_13 1 rfl 0 (vs := [(Sl.v l2_1), (Sl.v l2_2)]) rfl rfl
      refine ⟨?_, ?_⟩
      · have H := H.1
        refine H.mono fun rv_6 h_14 H => ?_
        obtain ⟨t17_3, t17_4, rfl, hL_14, H⟩ := H
        refine ⟨?_, ?_⟩
        · exact still_loc one22 hL_14 2 rfl 0 (v := (Sl.v g0_1)) rfl
        refine eop_alloc 34 zer34 rfl hL_14 (fun b_7 h_15 hb_6 hf_9 hL_15 => ?_)
        have H := H b_7 h_15 (Nat.le_trans (Fr.size (Fr.r (In []) _)) hb_6) (Fr.no' (Fr.r (In []) _) hf_9) hL_15
        refine ⟨?_, ?_⟩
        · exact still_loc one22 hL_15 3 rfl 0 (v := (Sl.v g0_1)) rfl
        refine uop_loc siz34 hL_15 0 rfl 0 [(Sl.v t17_3), (Sl.v t17_4)] rfl rfl rfl (Nat.le_of_ble_eq_true rfl) (L' := [(b_7, [(Sl.v t17_3), (Sl.v t17_4)]), (b_3, [(Sl.v nilSl), (Sl.v nilSl)]), (b_2, [(Sl.v l2_1), (Sl.v l2_2)]), (b_1, [(Sl.v g0_1)])]) rfl (fun h_16 hf_10 hL_16 => ?_)
        have H := H  h_16  (Fr.old (Fr.r (In []) _) hf_10) hL_16
        refine ⟨?_, ?_⟩
        · exact still_loc one22 hL_16 3 rfl 0 (v := (Sl.v g0_1)) rfl
        exact ⟨b_7, t17_3, t17_4, t21_4, rfl, H, hL_16⟩
      · have H := H.2
        refine eop_alloc 34 zer34 rfl hL_13 (fun b_8 h_17 hb_7 hf_11 hL_17 => ?_)
        have H := H b_8 h_17 (Nat.le_trans (Fr.size (Fr.r (In []) _)) hb_7) (Fr.no' (Fr.r (In []) _) hf_11) hL_17
        refine ⟨?_, ?_⟩
        · exact still_loc one22 hL_17 3 rfl 0 (v := (Sl.v g0_1)) rfl
        refine ⟨?_, ?_⟩
        · exact still_locA agg34 hL_17 2 rfl 0 (vs := [(Sl.v l2_1), (Sl.v l2_2)]) rfl rfl
        refine H.mono fun rv_7 h_18 H => ?_
        obtain ⟨t17_5, t17_6, rfl, hL_18, H⟩ := H
        refine ⟨?_, ?_⟩
        · exact still_loc one22 hL_18 3 rfl 0 (v := (Sl.v g0_1)) rfl
        refine uop_loc siz34 hL_18 0 rfl 0 [(Sl.v t17_5), (Sl.v t17_6)] rfl rfl rfl (Nat.le_of_ble_eq_true rfl) (L' := [(b_8, [(Sl.v t17_5), (Sl.v t17_6)]), (b_3, [(Sl.v nilSl), (Sl.v nilSl)]), (b_2, [(Sl.v l2_1), (Sl.v l2_2)]), (b_1, [(Sl.v g0_1)])]) rfl (fun h_19 hf_12 hL_19 => ?_)
        have H := H  h_19  (Fr.old (Fr.r (In []) _) hf_12) hL_19
        refine ⟨?_, ?_⟩
        · exact still_loc one22 hL_19 3 rfl 0 (v := (Sl.v g0_1)) rfl
        exact ⟨b_8, t17_5, t17_6, t21_4, rfl, H, hL_19⟩
    · have H := H.2.2
      refine eop_alloc 34 zer34 rfl hL_3 (fun b_9 h_20 hb_8 hf_13 hL_20 => ?_)
      have H := H b_9 h_20 (Nat.le_trans (Fr.size (Fr.r (In []) _)) hb_8) (Fr.no' (Fr.r (In []) _) hf_13) hL_20
      refine ⟨?_, ?_⟩
      · exact still_loc one22 hL_20 3 rfl 0 (v := (Sl.v g0_1)) rfl
      refine ⟨?_, ?_⟩
      · exact still_locA agg34 hL_20 2 rfl 0 (vs := [(Sl.v l2_1), (Sl.v l2_2)]) rfl rfl
      refine ⟨?_, ?_⟩
      · have H := H.1
        refine H.mono fun rv_8 h_21 H => ?_
        obtain ⟨t17_7, t17_8, rfl, hL_21, H⟩ := H
        refine ⟨?_, ?_⟩
        · exact still_loc one22 hL_21 3 rfl 0 (v := (Sl.v g0_1)) rfl
        refine ⟨?_, ?_⟩
        · have H := H.1
          refine H.mono fun rv_9 h_22 H => ?_
          obtain ⟨t21_5, rfl, hL_22, H⟩ := H
          refine ⟨?_, ?_⟩
          · exact still_loc one22 hL_22 3 rfl 0 (v := (Sl.v g0_1)) rfl
          refine uop_loc siz34 hL_22 0 rfl 0 [(Sl.v t17_7), (Sl.v t17_8)] rfl rfl rfl (Nat.le_of_ble_eq_true rfl) (L' := [(b_9, [(Sl.v t17_7), (Sl.v t17_8)]), (b_3, [(Sl.v nilSl), (Sl.v nilSl)]), (b_2, [(Sl.v l2_1), (Sl.v l2_2)]), (b_1, [(Sl.v g0_1)])]) rfl (fun h_23 hf_14 hL_23 => ?_)
          have H := H  h_23  (Fr.old (Fr.r (In []) _) hf_14) hL_23
          refine ⟨?_, ?_⟩
          · exact still_loc one22 hL_23 3 rfl 0 (v := (Sl.v g0_1)) rfl
          exact ⟨b_9, t17_7, t17_8, t21_5, rfl, H, hL_23⟩
        · have H := H.2
          refine uop_loc siz34 hL_21 0 rfl 0 [(Sl.v t17_7), (Sl.v t17_8)] rfl rfl rfl (Nat.le_of_ble_eq_true rfl) (L' := [(b_9, [(Sl.v t17_7), (Sl.v t17_8)]), (b_3, [(Sl.v nilSl), (Sl.v nilSl)]), (b_2, [(Sl.v l2_1), (Sl.v l2_2)]), (b_1, [(Sl.v g0_1)])]) rfl (fun h_24 hf_15 hL_24 => ?_)
          have H := H  h_24  (Fr.old (Fr.r (In []) _) hf_15) hL_24
          refine ⟨?_, ?_⟩
          · exact still_loc one22 hL_24 3 rfl 0 (v := (Sl.v g0_1)) rfl
          refine H.mono fun rv_10 h_25 H => ?_
          obtain ⟨t21_6, rfl, hL_25, H⟩ := H
          refine ⟨?_, ?_⟩
          · exact still_loc one22 hL_25 3 rfl 0 (v := (Sl.v g0_1)) rfl
          exact ⟨b_9, t17_7, t17_8, t21_6, rfl, H, hL_25⟩
      · have H := H.2
        refine H.mono fun rv_11 h_26 H => ?_
        obtain ⟨t21_7, rfl, hL_26, H⟩ := H
        refine ⟨?_, ?_⟩
        · exact still_loc one22 hL_26 3 rfl 0 (v := (Sl.v g0_1)) rfl
        refine ⟨?_, ?_⟩
        · exact still_locA agg34 hL_26 2 rfl 0 (vs := [(Sl.v l2_1), (Sl.v l2_2)]) rfl rfl
        refine H.mono fun rv_12 h_27 H => ?_
        obtain ⟨t17_9, t17_10, rfl, hL_27, H⟩ := H
        refine ⟨?_, ?_⟩
        · exact still_loc one22 hL_27 3 rfl 0 (v := (Sl.v g0_1)) rfl
        refine uop_loc siz34 hL_27 0 rfl 0 [(Sl.v t17_9), (Sl.v t17_10)] rfl rfl rfl (Nat.le_of_ble_eq_true rfl) (L' := [(b_9, [(Sl.v t17_9), (Sl.v t17_10)]), (b_3, [(Sl.v nilSl), (Sl.v nilSl)]), (b_2, [(Sl.v l2_1), (Sl.v l2_2)]), (b_1, [(Sl.v g0_1)])]) rfl (fun h_28 hf_16 hL_28 => ?_)
        have H := H  h_28  (Fr.old (Fr.r (In []) _) hf_16) hL_28
        refine ⟨?_, ?_⟩
        · exact still_loc one22 hL_28 3 rfl 0 (v := (Sl.v g0_1)) rfl
        exact ⟨b_9, t17_9, t17_10, t21_7, rfl, H, hL_28⟩
  intro junk_1 tv_1 tv_2 h_29
  rintro ⟨b_4, x_1, x_2, x_3, hv, hJ_1, hL_29⟩
  cases hv
  have H := HB_3 b_4 x_1 x_2 x_3 h_29 hJ_1 hL_29
  obtain ⟨J_2, ⟨n_2, h0_1⟩, HB_2⟩ := H
  refine loop_intro (J := fun (n : Nat) (vs : List Value) (h' : Heap) => ∃ k13_1 : Int, vs = [(VI k13_1)] ∧ J_2 n k13_1 h' ∧ Vars h' [(b_4, [(Sl.v x_1), (Sl.v x_2)]), (b_3, [(Sl.v nilSl), (Sl.v nilSl)]), (b_2, [(Sl.v l2_1), (Sl.v l2_2)]), (b_1, [(Sl.v g0_1)])]) n_2 ⟨0, rfl, h0_1, hL_29⟩ ?_
  intro I_1 mu_1 hI_1 junk_2 tv_4 h_30 hi_1
  obtain ⟨n_1, ⟨k13_1, hv, hJ_2, hL_30⟩, hn_1⟩ := hI_1 _ _ hi_1
  cases hv
  have H := HB_2 n_1 k13_1 h_30 hJ_2 hL_30
  refine pop_field 1 fld34_1 b_4 0 ?_
  refine rop_loc one25 hL_30 0 rfl 1 (v := (Sl.v x_2)) rfl ?_
  refine H.mono fun rv_13 h_31 H => ?_
  obtain ⟨t27_1, rfl, hL_31, H⟩ := H
  refine pop_len t27_1 _ _ sli25 ?_
  refine pop_ieq .i64 _ _ (t27_1.n : Int) 0 ?_
  refine condM_b (fun hb_9 => ?_) (fun hb_9 => ?_)
  · have H := H.1 hb_9
    refine rop_locA agg34 hL_31 0 rfl 0 (vs := [(Sl.v x_1), (Sl.v x_2)]) rfl rfl ?_
    refine uop_loc siz34 hL_31 1 rfl 0 [(Sl.v x_1), (Sl.v x_2)] rfl rfl rfl (Nat.le_of_ble_eq_true rfl) (L' := [(b_4, [(Sl.v x_1), (Sl.v x_2)]), (b_3, [(Sl.v x_1), (Sl.v x_2)]), (b_2, [(Sl.v l2_1), (Sl.v l2_2)]), (b_1, [(Sl.v g0_1)])]) rfl (fun h_32 hf_17 hL_32 => ?_)
    refine rop_locA agg34 hL_32 1 rfl 0 (vs := [(Sl.v x_1), (Sl.v x_2)]) rfl rfl ?_
    have H := H  h_32  (Fr.old (Fr.r (In []) _) hf_17) hL_32
    exact H
  · have H := H.2 hb_9
    refine pop_geq .i64 k13_1 4000 ?_
    refine condM_b (fun hb_10 => ?_) (fun hb_10 => ?_)
    · have H := H.1 hb_10
      refine pop.mk' (v := (Value.agg #[(Sl.v nilSl), (Sl.v nilSl)])) (fun w => by kernel_rfl) ?_
      refine uop_loc siz34 hL_31 1 rfl 0 [(Sl.v nilSl), (Sl.v nilSl)] rfl rfl rfl (Nat.le_of_ble_eq_true rfl) (L' := [(b_4, [(Sl.v x_1), (Sl.v x_2)]), (b_3, [(Sl.v nilSl), (Sl.v nilSl)]), (b_2, [(Sl.v l2_1), (Sl.v l2_2)]), (b_1, [(Sl.v g0_1)])]) rfl (fun h_33 hf_18 hL_33 => ?_)
      refine rop_locA agg34 hL_33 1 rfl 0 (vs := [(Sl.v nilSl), (Sl.v nilSl)]) rfl rfl ?_
      have H := H  h_33  (Fr.old (Fr.r (In []) _) hf_18) hL_33
      exact H
    · have H := H.2 hb_10
      obtain ⟨hi_2, H⟩ := H
      refine pop_index sli25 siz3 .i64 t27_1 0 hi_2 ?_
      obtain ⟨t38_1, hc_4, H⟩ := H
      refine rop_one one3 (VI t38_1) hc_4 ?_
      obtain ⟨J_3, H, HB_1⟩ := H
      refine ⟨fun (vs : List Value) (h' : Heap) => ∃ x_4 : Int, vs = [(VI x_4)] ∧ J_3 x_4 h' ∧ Vars h' [(b_4, [(Sl.v x_1), (Sl.v x_2)]), (b_3, [(Sl.v nilSl), (Sl.v nilSl)]), (b_2, [(Sl.v l2_1), (Sl.v l2_2)]), (b_1, [(Sl.v g0_1)])], ?_, ?_⟩
      · refine pop_len choices3_1 _ _ sli25 ?_
        refine pop_lss .i64 k13_1 (choices3_1.n : Int) ?_
        refine condM_b (fun hb_11 => ?_) (fun hb_11 => ?_)
        · have H := H.1 hb_11
          obtain ⟨hi_3, H⟩ := H
          refine pop_index sli25 siz3 .i64 choices3_1 k13_1 hi_3 ?_
          obtain ⟨t47_1, hc_2, H⟩ := H
          refine rop_one one3 (VI t47_1) hc_2 ?_
          refine pop_len t27_1 _ _ sli25 ?_
          obtain ⟨hz_1, H⟩ := H
          refine pop_rem .i64 t47_1 (t27_1.n : Int) hz_1 ?_
          obtain ⟨hi_4, H⟩ := H
          refine pop_index sli25 siz3 .i64 t27_1 (Int.tmod t47_1 (t27_1.n : Int)) hi_4 ?_
          obtain ⟨t52_1, hc_1, H⟩ := H
          refine rop_one one3 (VI t52_1) hc_1 ?_
          exact ⟨t52_1, rfl, H, hL_31⟩
        · have H := H.2 hb_11
          exact ⟨t38_1, rfl, H, hL_31⟩
      intro junk_3 tv_3 h_34
      rintro ⟨x_4, hv, hJ_3, hL_34⟩
      cases hv
      have H := HB_1 x_4 h_34 hJ_3 hL_34
      refine rop_locA agg32 hL_34 3 rfl 0 (vs := [(Sl.v g0_1)]) rfl rfl ?_
      refine rop_locA agg34 hL_34 0 rfl 0 (vs := [(Sl.v x_1), (Sl.v x_2)]) rfl rfl ?_
      refine H.mono fun rv_14 h_35 H => ?_
      obtain ⟨hL_35, H⟩ := H
      obtain ⟨hi_5, H⟩ := H
      refine pop_index sli25 siz3 .i64 x_3 x_4 hi_5 ?_
      obtain ⟨t60_1, hc_3, H⟩ := H
      refine rop_one one3 (VI t60_1) hc_3 ?_
      refine pop_add .i64 t60_1 1 ?_
      obtain ⟨hi_6, H⟩ := H
      refine pop_index sli25 siz3 .i64 x_3 x_4 hi_6 ?_
      obtain ⟨hw_1, hL_36, H⟩ := H
      refine uop_cell (v := (VI (w64 (t60_1 + 1)))) siz3 hw_1 rfl (fun h_36 he_1 => ?_)
      rw [← he_1] at hL_36
      have H := H h_36 he_1 hL_36
      refine pop_add .i64 k13_1 1 ?_
      obtain ⟨m_1, hm_1, H⟩ := H
      exact hn_1 _ _ ⟨m_1, hm_1, (w64 (k13_1 + 1)), rfl, H, hL_36⟩

/-! laws.toIntSS -/
def u78 (P : Program) (a0_1 : Sl) (h : Heap) (K : Value → Heap → Prop) : Prop :=
  eop P (Instr.makeSlice 22 (VI (a0_1.n : Int)) (VI (a0_1.n : Int))) h fun rv_1 h_1 => ∃ t7_1 : Sl, rv_1 = (Sl.v t7_1) ∧ Vars h_1 [] ∧
  ∃ J_1 : Nat → Int → Heap → Prop, (∃ n0 : Nat, J_1 n0 0 h_1) ∧
  ∀ (n_1 : Nat) (i4_1 : Int) (h_2 : Heap), J_1 n_1 i4_1 h_2 → Vars h_2 [] →
  ((decide (i4_1 < (a0_1.n : Int))) = true →
  InB a0_1 i4_1 ∧
  ∃ t19_1 : Sl, hcell h_2 (Sl.at a0_1 i4_1 1) = some (Sl.v t19_1) ∧
  callM P 26 #[(Sl.v t19_1)] h_2 fun rv_2 h_3 => ∃ t20_1 : Sl, rv_2 = (Sl.v t20_1) ∧ Vars h_3 [] ∧
  InB t7_1 i4_1 ∧
  Writable h_3 (Sl.at t7_1 i4_1 1) ∧ Vars (hset h_3 (Sl.at t7_1 i4_1 1) (Sl.v t20_1)) [] ∧
  ∀ h_4 : Heap, h_4 = hset h_3 (Sl.at t7_1 i4_1 1) (Sl.v t20_1) → Vars h_4 [] →
  ∃ m : Nat, m < n_1 ∧ J_1 m (w64 (i4_1 + 1)) h_4) ∧
  ((decide (i4_1 < (a0_1.n : Int))) = false →
  K (Sl.v t7_1) h_2)
theorem v78 (a0_1 : Sl) (h : Heap) (K : Value → Heap → Prop) (H : u78 Try.prog a0_1 h K) : callM Try.prog 78 #[(Sl.v a0_1)] h K := by
  refine c78 (Sl.v a0_1) h K ?_
  unfold u78 at H
  unfold t78
  have hL : Vars h [] := .nil
  refine pop_len a0_1 _ _ sli22 ?_
  refine H.mono fun rv_1 h_1 H => ?_
  obtain ⟨t7_1, rfl, hL_1, H⟩ := H
  obtain ⟨J_1, ⟨n_2, h0_1⟩, HB_1⟩ := H
  refine loop_intro (J := fun (n : Nat) (vs : List Value) (h' : Heap) => ∃ i4_1 : Int, vs = [(VI i4_1)] ∧ J_1 n i4_1 h' ∧ Vars h' []) n_2 ⟨0, rfl, h0_1, hL_1⟩ ?_
  intro I_1 mu_1 hI_1 junk_1 tv_1 h_2 hi_1
  obtain ⟨n_1, ⟨i4_1, hv, hJ_1, hL_2⟩, hn_1⟩ := hI_1 _ _ hi_1
  cases hv
  have H := HB_1 n_1 i4_1 h_2 hJ_1 hL_2
  refine pop_len a0_1 _ _ sli22 ?_
  refine pop_lss .i64 i4_1 (a0_1.n : Int) ?_
  refine condM_b (fun hb_1 => ?_) (fun hb_1 => ?_)
  · have H := H.1 hb_1
    obtain ⟨hi_2, H⟩ := H
    refine pop_index sli22 siz25 .i64 a0_1 i4_1 hi_2 ?_
    obtain ⟨t19_1, hc_1, H⟩ := H
    refine rop_one one25 (Sl.v t19_1) hc_1 ?_
    refine H.mono fun rv_2 h_3 H => ?_
    obtain ⟨t20_1, rfl, hL_3, H⟩ := H
    obtain ⟨hi_3, H⟩ := H
    refine pop_index sli22 siz25 .i64 t7_1 i4_1 hi_3 ?_
    obtain ⟨hw_1, hL_4, H⟩ := H
    refine uop_cell (v := (Sl.v t20_1)) siz25 hw_1 rfl (fun h_4 he_1 => ?_)
    rw [← he_1] at hL_4
    have H := H h_4 he_1 hL_4
    refine pop_add .i64 i4_1 1 ?_
    obtain ⟨m_1, hm_1, H⟩ := H
    exact hn_1 _ _ ⟨m_1, hm_1, (w64 (i4_1 + 1)), rfl, H, hL_4⟩
  · have H := H.2 hb_1
    exact H

/-! impl.isLoad -/
def u79 (P : Program) (g0_1 : Sl) (sink1_1 : Int) (l2_1 : Sl) (l2_2 : Sl) (h : Heap) (K : Value → Heap → Prop) : Prop :=
  ∀ (b_1 : Nat) (b_2 : Nat) (h_2 : Heap), h.size ≤ b_1 → h.size ≤ b_2 → Fr (In []) h h_2 → Vars h_2 [(b_2, [(Sl.v l2_1), (Sl.v l2_2)]), (b_1, [(Sl.v g0_1)])] →
  callM P 105 #[(Value.agg #[(Sl.v g0_1)]), (VI sink1_1)] h_2 fun rv_1 h_3 => ∃ t9_1 : Bool, rv_1 = (VB t9_1) ∧ Vars h_3 [(b_2, [(Sl.v l2_1), (Sl.v l2_2)]), (b_1, [(Sl.v g0_1)])] ∧
  (t9_1 = true →
  callM P 140 #[(Value.agg #[(Sl.v g0_1)]), (Sl.v l2_1)] h_3 fun rv_2 h_4 => ∃ t14_1 : Bool, rv_2 = (VB t14_1) ∧ Vars h_4 [(b_2, [(Sl.v l2_1), (Sl.v l2_2)]), (b_1, [(Sl.v g0_1)])] ∧
  (t14_1 = true →
  callM P 141 #[(Value.agg #[(Sl.v g0_1)]), (Sl.v l2_2)] h_4 fun rv_3 h_5 => ∃ t20_1 : Bool, rv_3 = (VB t20_1) ∧ Vars h_5 [(b_2, [(Sl.v l2_1), (Sl.v l2_2)]), (b_1, [(Sl.v g0_1)])] ∧
  (t20_1 = true →
  callM P 92 #[(Sl.v l2_2)] h_5 fun rv_4 h_6 => ∃ t25_1 : Int, rv_4 = (VI t25_1) ∧ Vars h_6 [(b_2, [(Sl.v l2_1), (Sl.v l2_2)]), (b_1, [(Sl.v g0_1)])] ∧
  K (VB (decide (t25_1 ≤ 20))) h_6) ∧
  (t20_1 = false →
  K (VB false) h_5)) ∧
  (t14_1 = false →
  K (VB false) h_4)) ∧
  (t9_1 = false →
  K (VB false) h_3)
theorem v79 (g0_1 : Sl) (sink1_1 : Int) (l2_1 : Sl) (l2_2 : Sl) (h : Heap) (K : Value → Heap → Prop) (H : u79 Try.prog g0_1 sink1_1 l2_1 l2_2 h K) : callM Try.prog 79 #[(Value.agg #[(Sl.v g0_1)]), (VI sink1_1), (Value.agg #[(Sl.v l2_1), (Sl.v l2_2)])] h K := by
  refine c79 (Value.agg #[(Sl.v g0_1)]) (VI sink1_1) (Value.agg #[(Sl.v l2_1), (Sl.v l2_2)]) h K ?_
  unfold u79 at H
  unfold t79
  have hL : Vars h [] := .nil
  refine eop_box 32 (Value.agg #[(Sl.v g0_1)]) rfl hL (fun b_1 h_1 hb_1 hf_1 hL_1 => ?_)
  refine eop_box 34 (Value.agg #[(Sl.v l2_1), (Sl.v l2_2)]) rfl hL_1 (fun b_2 h_2 hb_2 hf_2 hL_2 => ?_)
  refine rop_locA agg32 hL_2 1 rfl 0 (vs := [(Sl.v g0_1)]) rfl rfl ?_
  have H := H b_1 b_2 h_2 (Nat.le_trans (Fr.size (Fr.r (In []) _)) hb_1) (Nat.le_trans (Fr.size (Fr.no' (Fr.r (In []) _) hf_1)) hb_2) (Fr.no' (Fr.no' (Fr.r (In []) _) hf_1) hf_2) hL_2
  refine H.mono fun rv_1 h_3 H => ?_
  obtain ⟨t9_1, rfl, hL_3, H⟩ := H
  refine guardM_st (fun hb_3 => ?_) (fun hb_3 => ?_)
  · have H := H.1 hb_3
    refine rop_locA agg32 hL_3 1 rfl 0 (vs := [(Sl.v g0_1)]) rfl rfl ?_
    refine guardM_y' hb_3 ?_
    refine pop_field 0 fld34_0 b_2 0 ?_
    refine guardM_y' hb_3 ?_
    refine rop_loc one25 hL_3 0 rfl 0 (v := (Sl.v l2_1)) rfl ?_
    refine guardM_y' hb_3 ?_
    refine H.mono fun rv_2 h_4 H => ?_
    obtain ⟨t14_1, rfl, hL_4, H⟩ := H
    refine pop_pickt' hb_3 ?_
    refine guardM_st (fun hb_4 => ?_) (fun hb_4 => ?_)
    · have H := H.1 hb_4
      refine rop_locA agg32 hL_4 1 rfl 0 (vs := [(Sl.v g0_1)]) rfl rfl ?_
      refine guardM_y' hb_4 ?_
      refine pop_field 1 fld34_1 b_2 0 ?_
      refine guardM_y' hb_4 ?_
      refine rop_loc one25 hL_4 0 rfl 1 (v := (Sl.v l2_2)) rfl ?_
      refine guardM_y' hb_4 ?_
      refine H.mono fun rv_3 h_5 H => ?_
      obtain ⟨t20_1, rfl, hL_5, H⟩ := H
      refine pop_pickt' hb_4 ?_
      refine guardM_st (fun hb_5 => ?_) (fun hb_5 => ?_)
      · have H := H.1 hb_5
        refine pop_field 1 fld34_1 b_2 0 ?_
        refine guardM_y' hb_5 ?_
        refine rop_loc one25 hL_5 0 rfl 1 (v := (Sl.v l2_2)) rfl ?_
        refine guardM_y' hb_5 ?_
        refine H.mono fun rv_4 h_6 H => ?_
        obtain ⟨t25_1, rfl, hL_6, H⟩ := H
        refine guardM_y' hb_5 ?_
        refine pop_leq .i64 t25_1 20 ?_
        refine pop_pickt' hb_5 ?_
        exact H
      · have H := H.2 hb_5
        refine guardM_n' hb_5 (by decide) ?_
        refine guardM_n' hb_5 (by decide) ?_
        refine guardM_n' hb_5 (by decide) ?_
        refine pop_pickf' hb_5 ?_
        exact H
    · have H := H.2 hb_4
      refine guardM_n' hb_4 (by decide) ?_
      refine guardM_n' hb_4 (by decide) ?_
      refine guardM_n' hb_4 (by decide) ?_
      refine pop_pickf' hb_4 ?_
      refine guardM_n (by decide) ?_
      refine guardM_n (by decide) ?_
      refine guardM_n (by decide) ?_
      refine guardM_n (by decide) ?_
      refine pop_pickf _ _ ?_
      exact H
  · have H := H.2 hb_3
    refine guardM_n' hb_3 (by decide) ?_
    refine guardM_n' hb_3 (by decide) ?_
    refine guardM_n' hb_3 (by decide) ?_
    refine pop_pickf' hb_3 ?_
    refine guardM_n (by decide) ?_
    refine guardM_n (by decide) ?_
    refine guardM_n (by decide) ?_
    refine guardM_n (by decide) ?_
    refine pop_pickf _ _ ?_
    refine guardM_n (by decide) ?_
    refine guardM_n (by decide) ?_
    refine guardM_n (by decide) ?_
    refine guardM_n (by decide) ?_
    refine pop_pickf _ _ ?_
    exact H

/-! (impl.Load).copied -/
def u80 (P : Program) (l0_1 : Sl) (l0_2 : Sl) (h : Heap) (K : Value → Heap → Prop) : Prop :=
  ∀ (b_1 : Nat) (b_2 : Nat) (h_2 : Heap), h.size ≤ b_1 → h.size ≤ b_2 → Fr (In []) h h_2 → Vars h_2 [(b_2, [(Sl.v nilSl), (Sl.v nilSl)]), (b_1, [(Sl.v l0_1), (Sl.v l0_2)])] →
  callM P 142 #[(Sl.v l0_1)] h_2 fun rv_1 h_3 => ∃ t5_1 : Sl, rv_1 = (Sl.v t5_1) ∧ Vars h_3 [(b_2, [(Sl.v nilSl), (Sl.v nilSl)]), (b_1, [(Sl.v l0_1), (Sl.v l0_2)])] ∧
  callM P 142 #[(Sl.v l0_2)] h_3 fun rv_2 h_4 => ∃ t8_1 : Sl, rv_2 = (Sl.v t8_1) ∧ Vars h_4 [(b_2, [(Sl.v nilSl), (Sl.v nilSl)]), (b_1, [(Sl.v l0_1), (Sl.v l0_2)])] ∧
  ∀ (h_5 : Heap), Fr (In [b_2]) h_4 h_5 → Vars h_5 [(b_2, [(Sl.v t5_1), (Sl.v t8_1)]), (b_1, [(Sl.v l0_1), (Sl.v l0_2)])] →
  K (Value.agg #[(Sl.v t5_1), (Sl.v t8_1)]) h_5
theorem v80 (l0_1 : Sl) (l0_2 : Sl) (h : Heap) (K : Value → Heap → Prop) (H : u80 Try.prog l0_1 l0_2 h K) : callM Try.prog 80 #[(Value.agg #[(Sl.v l0_1), (Sl.v l0_2)])] h K := by
  refine c80 (Value.agg #[(Sl.v l0_1), (Sl.v l0_2)]) h K ?_
  unfold u80 at H
  unfold t80
  have hL : Vars h [] := .nil
  refine eop_box 34 (Value.agg #[(Sl.v l0_1), (Sl.v l0_2)]) rfl hL (fun b_1 h_1 hb_1 hf_1 hL_1 => ?_)
  refine eop_alloc 34 zer34 rfl hL_1 (fun b_2 h_2 hb_2 hf_2 hL_2 => ?_)
  refine pop_field 0 fld34_0 b_1 0 ?_
  refine rop_loc one25 hL_2 1 rfl 0 (v := (Sl.v l0_1)) rfl ?_
  refine pop_field 1 fld34_1 b_1 0 ?_
  refine rop_loc one25 hL_2 1 rfl 1 (v := (Sl.v l0_2)) rfl ?_
  have H := H b_1 b_2 h_2 (Nat.le_trans (Fr.size (Fr.r (In []) _)) hb_1) (Nat.le_trans (Fr.size (Fr.no' (Fr.r (In []) _) hf_1)) hb_2) (Fr.no' (Fr.no' (Fr.r (In []) _) hf_1) hf_2) hL_2
  refine H.mono fun rv_1 h_3 H => ?_
  obtain ⟨t5_1, rfl, hL_3, H⟩ := H
  refine ⟨?_, ?_⟩
  · exact still_loc one25 hL_3 1 rfl 1 (v := (Sl.v l0_2)) rfl
  refine H.mono fun rv_2 h_4 H => ?_
  obtain ⟨t8_1, rfl, hL_4, H⟩ := H
  refine pop.mk' (v := (Value.agg #[(Sl.v t5_1), (Sl.v t8_1)])) (fun w => by kernel_rfl) ?_
  refine uop_loc siz34 hL_4 0 rfl 0 [(Sl.v t5_1), (Sl.v t8_1)] rfl rfl rfl (Nat.le_of_ble_eq_true rfl) (L' := [(b_2, [(Sl.v t5_1), (Sl.v t8_1)]), (b_1, [(Sl.v l0_1), (Sl.v l0_2)])]) rfl (fun h_5 hf_3 hL_5 => ?_)
  refine rop_locA agg34 hL_5 0 rfl 0 (vs := [(Sl.v t5_1), (Sl.v t8_1)]) rfl rfl ?_
  have H := H  h_5  (Fr.old (Fr.r (In []) _) hf_3) hL_5
  exact H

/-! (*impl.Load).end -/
def u81 (P : Program) (b_1 : Nat) (l0_1 : Sl) (l0_2 : Sl) (g1_1 : Sl) (sink2_1 : Int) (choices3_1 : Sl) (h : Heap) (K : Value → Heap → Prop) : Prop :=
  ∀ (b_2 : Nat) (h_1 : Heap), h.size ≤ b_2 → Fr (In []) h h_1 → Vars h_1 [(b_2, [(Sl.v g1_1)]), (b_1, [(Sl.v l0_1), (Sl.v l0_2)])] →
  eop P (Instr.makeSlice 25 (VI (g1_1.n : Int)) (VI (g1_1.n : Int))) h_1 fun rv_1 h_2 => ∃ t17_1 : Sl, rv_1 = (Sl.v t17_1) ∧ Vars h_2 [(b_2, [(Sl.v g1_1)]), (b_1, [(Sl.v l0_1), (Sl.v l0_2)])] ∧
  ∃ J_1 : Nat → Int → Sl → Sl → Heap → Prop, (∃ n0 : Nat, J_1 n0 0 l0_1 l0_2 h_2) ∧
  ∀ (n_1 : Nat) (j11_1 : Int) (x_1 : Sl) (x_2 : Sl) (h_3 : Heap), J_1 n_1 j11_1 x_1 x_2 h_3 → Vars h_3 [(b_2, [(Sl.v g1_1)]), (b_1, [(Sl.v x_1), (Sl.v x_2)])] →
  callM P 94 #[(VP b_1 0), (VI sink2_1)] h_3 fun rv_2 h_4 => ∃ x_3 : Sl, ∃ x_4 : Sl, ∃ t22_1 : Sl, rv_2 = (Sl.v t22_1) ∧ Vars h_4 [(b_2, [(Sl.v g1_1)]), (b_1, [(Sl.v x_3), (Sl.v x_4)])] ∧
  ((decide ((t22_1.n : Int) = 0)) = true →
  K (Value.tuple #[(Sl.v t17_1), (VB true)]) h_4) ∧
  ((decide ((t22_1.n : Int) = 0)) = false →
  ((decide (j11_1 = 4000)) = true →
  K (Value.tuple #[(Sl.v nilSl), (VB false)]) h_4) ∧
  ((decide (j11_1 = 4000)) = false →
  InB t22_1 0 ∧
  ∃ t31_1 : Int, hcell h_4 (Sl.at t22_1 0 1) = some (VI t31_1) ∧
  ∃ J_2 : Int → Heap → Prop, (((decide (j11_1 < (choices3_1.n : Int))) = true →
  InB choices3_1 j11_1 ∧
  ∃ t40_1 : Int, hcell h_4 (Sl.at choices3_1 j11_1 1) = some (VI t40_1) ∧
  (t22_1.n : Int) ≠ 0 ∧
  InB t22_1 (Int.tmod t40_1 (t22_1.n : Int)) ∧
  ∃ t45_1 : Int, hcell h_4 (Sl.at t22_1 (Int.tmod t40_1 (t22_1.n : Int)) 1) = some (VI t45_1) ∧
  J_2 t45_1 h_4) ∧
  ((decide (j11_1 < (choices3_1.n : Int))) = false →
  J_2 t31_1 h_4)) ∧
  ∀ (x_5 : Int) (h_5 : Heap), J_2 x_5 h_5 → Vars h_5 [(b_2, [(Sl.v g1_1)]), (b_1, [(Sl.v x_3), (Sl.v x_4)])] →
  callM P 143 #[(VP b_1 0), (Value.agg #[(Sl.v g1_1)]), (VI x_5)] h_5 fun rv_3 h_6 => ∃ x_6 : Sl, ∃ x_7 : Sl, Vars h_6 [(b_2, [(Sl.v g1_1)]), (b_1, [(Sl.v x_6), (Sl.v x_7)])] ∧
  InB t17_1 x_5 ∧
  ∃ t53_1 : Int, hcell h_6 (Sl.at t17_1 x_5 1) = some (VI t53_1) ∧
  InB t17_1 x_5 ∧
  Writable h_6 (Sl.at t17_1 x_5 1) ∧ Vars (hset h_6 (Sl.at t17_1 x_5 1) (VI (w64 (t53_1 + 1)))) [(b_2, [(Sl.v g1_1)]), (b_1, [(Sl.v x_6), (Sl.v x_7)])] ∧
  ∀ h_7 : Heap, h_7 = hset h_6 (Sl.at t17_1 x_5 1) (VI (w64 (t53_1 + 1))) → Vars h_7 [(b_2, [(Sl.v g1_1)]), (b_1, [(Sl.v x_6), (Sl.v x_7)])] →
  ∃ m : Nat, m < n_1 ∧ J_1 m (w64 (j11_1 + 1)) x_6 x_7 h_7))
theorem v81 (b_1 : Nat) (l0_1 : Sl) (l0_2 : Sl) (g1_1 : Sl) (sink2_1 : Int) (choices3_1 : Sl) (h : Heap) (K : Value → Heap → Prop) (hL : Vars h [(b_1, [(Sl.v l0_1), (Sl.v l0_2)])]) (H : u81 Try.prog b_1 l0_1 l0_2 g1_1 sink2_1 choices3_1 h K) : callM Try.prog 81 #[(VP b_1 0), (Value.agg #[(Sl.v g1_1)]), (VI sink2_1), (Sl.v choices3_1)] h K := by
  refine c81 (VP b_1 0) (Value.agg #[(Sl.v g1_1)]) (VI sink2_1) (Sl.v choices3_1) h K ?_
  unfold u81 at H
  unfold t81
  refine eop_box 32 (Value.agg #[(Sl.v g1_1)]) rfl hL (fun b_2 h_1 hb_1 hf_1 hL_1 => ?_)
  refine pop_field 0 fld32_0 b_2 0 ?_
  refine rop_loc one22 hL_1 0 rfl 0 (v := (Sl.v g1_1)) rfl ?_
  refine pop_len g1_1 _ _ sli22 ?_
  have H := H b_2 h_1 (Nat.le_trans (Fr.size (Fr.r (In []) _)) hb_1) (Fr.no' (Fr.r (In []) _) hf_1) hL_1
  refine H.mono fun rv_1 h_2 H => ?_
  obtain ⟨t17_1, rfl, hL_2, H⟩ := H
  obtain ⟨J_1, ⟨n_2, h0_1⟩, HB_2⟩ := H
  refine loop_intro (J := fun (n : Nat) (vs : List Value) (h' : Heap) => ∃ j11_1 : Int, ∃ x_1 : Sl, ∃ x_2 : Sl, vs = [(VI j11_1)] ∧ J_1 n j11_1 x_1 x_2 h' ∧ Vars h' [(b_2, [(Sl.v g1_1)]), (b_1, [(Sl.v x_1), (Sl.v x_2)])]) n_2 ⟨0, l0_1, l0_2, rfl, h0_1, hL_2⟩ ?_
  intro I_1 mu_1 hI_1 junk_1 tv_2 h_3 hi_1
  obtain ⟨n_1, ⟨j11_1, x_1, x_2, hv, hJ_1, hL_3⟩, hn_1⟩ := hI_1 _ _ hi_1
  cases hv
  have H := HB_2 n_1 j11_1 x_1 x_2 h_3 hJ_1 hL_3
  refine H.mono fun rv_2 h_4 H => ?_
  obtain ⟨x_3, x_4, t22_1, rfl, hL_4, H⟩ := H
  refine pop_len t22_1 _ _ sli25 ?_
  refine pop_ieq .i64 _ _ (t22_1.n : Int) 0 ?_
  refine condM_b (fun hb_2 => ?_) (fun hb_2 => ?_)
  · have H := H.1 hb_2
    exact H
  · have H := H.2 hb_2
    refine pop_ieq .i64 _ _ j11_1 4000 ?_
    refine condM_b (fun hb_3 => ?_) (fun hb_3 => ?_)
    · have H := H.1 hb_3
      exact H
    · have H := H.2 hb_3
      obtain ⟨hi_2, H⟩ := H
      refine pop_index sli25 siz3 .i64 t22_1 0 hi_2 ?_
      obtain ⟨t31_1, hc_4, H⟩ := H
      refine rop_one one3 (VI t31_1) hc_4 ?_
      obtain ⟨J_2, H, HB_1⟩ := H
      refine ⟨fun (vs : List Value) (h' : Heap) => ∃ x_5 : Int, vs = [(VI x_5)] ∧ J_2 x_5 h' ∧ Vars h' [(b_2, [(Sl.v g1_1)]), (b_1, [(Sl.v x_3), (Sl.v x_4)])], ?_, ?_⟩
      · refine pop_len choices3_1 _ _ sli25 ?_
        refine pop_lss .i64 j11_1 (choices3_1.n : Int) ?_
        refine condM_b (fun hb_4 => ?_) (fun hb_4 => ?_)
        · have H := H.1 hb_4
          obtain ⟨hi_3, H⟩ := H
          refine pop_index sli25 siz3 .i64 choices3_1 j11_1 hi_3 ?_
          obtain ⟨t40_1, hc_2, H⟩ := H
          refine rop_one one3 (VI t40_1) hc_2 ?_
          refine pop_len t22_1 _ _ sli25 ?_
          obtain ⟨hz_1, H⟩ := H
          refine pop_rem .i64 t40_1 (t22_1.n : Int) hz_1 ?_
          obtain ⟨hi_4, H⟩ := H
          refine pop_index sli25 siz3 .i64 t22_1 (Int.tmod t40_1 (t22_1.n : Int)) hi_4 ?_
          obtain ⟨t45_1, hc_1, H⟩ := H
          refine rop_one one3 (VI t45_1) hc_1 ?_
          exact ⟨t45_1, rfl, H, hL_4⟩
        · have H := H.2 hb_4
          exact ⟨t31_1, rfl, H, hL_4⟩
      intro junk_2 tv_1 h_5
      rintro ⟨x_5, hv, hJ_2, hL_5⟩
      cases hv
      have H := HB_1 x_5 h_5 hJ_2 hL_5
      refine rop_locA agg32 hL_5 0 rfl 0 (vs := [(Sl.v g1_1)]) rfl rfl ?_
      refine H.mono fun rv_3 h_6 H => ?_
      obtain ⟨x_6, x_7, hL_6, H⟩ := H
      obtain ⟨hi_5, H⟩ := H
      refine pop_index sli25 siz3 .i64 t17_1 x_5 hi_5 ?_
      obtain ⟨t53_1, hc_3, H⟩ := H
      refine rop_one one3 (VI t53_1) hc_3 ?_
      refine pop_add .i64 t53_1 1 ?_
      obtain ⟨hi_6, H⟩ := H
      refine pop_index sli25 siz3 .i64 t17_1 x_5 hi_6 ?_
      obtain ⟨hw_1, hL_7, H⟩ := H
      refine uop_cell (v := (VI (w64 (t53_1 + 1)))) siz3 hw_1 rfl (fun h_7 he_1 => ?_)
      rw [← he_1] at hL_7
      have H := H h_7 he_1 hL_7
      refine pop_add .i64 j11_1 1 ?_
      obtain ⟨m_1, hm_1, H⟩ := H
      exact hn_1 _ _ ⟨m_1, hm_1, (w64 (j11_1 + 1)), x_6, x_7, rfl, H, hL_7⟩

/-! laws.eqIntSS -/
def u82 (P : Program) (a0_1 : Sl) (b1_1 : Sl) (h : Heap) (K : Value → Heap → Prop) : Prop :=
  ((!decide ((a0_1.n : Int) = (b1_1.n : Int))) = true →
  K (VB false) h) ∧
  ((!decide ((a0_1.n : Int) = (b1_1.n : Int))) = false →
  ∃ J_1 : Nat → Int → Heap → Prop, (∃ n0 : Nat, J_1 n0 0 h) ∧
  ∀ (n_1 : Nat) (i5_1 : Int) (h_1 : Heap), J_1 n_1 i5_1 h_1 → Vars h_1 [] →
  ((decide (i5_1 < (a0_1.n : Int))) = true →
  InB a0_1 i5_1 ∧
  ∃ t20_1 : Sl, hcell h_1 (Sl.at a0_1 i5_1 1) = some (Sl.v t20_1) ∧
  InB b1_1 i5_1 ∧
  ∃ t24_1 : Sl, hcell h_1 (Sl.at b1_1 i5_1 1) = some (Sl.v t24_1) ∧
  callM P 16 #[(Sl.v t20_1), (Sl.v t24_1)] h_1 fun rv_1 h_2 => ∃ t25_1 : Bool, rv_1 = (VB t25_1) ∧ Vars h_2 [] ∧
  ((!t25_1) = true →
  K (VB false) h_2) ∧
  ((!t25_1) = false →
  ∃ m : Nat, m < n_1 ∧ J_1 m (w64 (i5_1 + 1)) h_2)) ∧
  ((decide (i5_1 < (a0_1.n : Int))) = false →
  K (VB true) h_1))
theorem v82 (a0_1 : Sl) (b1_1 : Sl) (h : Heap) (K : Value → Heap → Prop) (H : u82 Try.prog a0_1 b1_1 h K) : callM Try.prog 82 #[(Sl.v a0_1), (Sl.v b1_1)] h K := by
  refine c82 (Sl.v a0_1) (Sl.v b1_1) h K ?_
  unfold u82 at H
  unfold t82
  have hL : Vars h [] := .nil
  refine pop_len a0_1 _ _ sli22 ?_
  refine pop_len b1_1 _ _ sli22 ?_
  refine pop_ine .i64 _ _ (a0_1.n : Int) (b1_1.n : Int) ?_
  refine condM_b (fun hb_1 => ?_) (fun hb_1 => ?_)
  · have H := H.1 hb_1
    exact H
  · have H := H.2 hb_1
    obtain ⟨J_1, ⟨n_2, h0_1⟩, HB_1⟩ := H
    refine loop_intro (J := fun (n : Nat) (vs : List Value) (h' : Heap) => ∃ i5_1 : Int, vs = [(VI i5_1)] ∧ J_1 n i5_1 h' ∧ Vars h' []) n_2 ⟨0, rfl, h0_1, hL⟩ ?_
    intro I_1 mu_1 hI_1 junk_1 tv_1 h_1 hi_1
    obtain ⟨n_1, ⟨i5_1, hv, hJ_1, hL_1⟩, hn_1⟩ := hI_1 _ _ hi_1
    cases hv
    have H := HB_1 n_1 i5_1 h_1 hJ_1 hL_1
    refine pop_len a0_1 _ _ sli22 ?_
    refine pop_lss .i64 i5_1 (a0_1.n : Int) ?_
    refine condM_b (fun hb_2 => ?_) (fun hb_2 => ?_)
    · have H := H.1 hb_2
      obtain ⟨hi_2, H⟩ := H
      refine pop_index sli22 siz25 .i64 a0_1 i5_1 hi_2 ?_
      obtain ⟨t20_1, hc_2, H⟩ := H
      refine rop_one one25 (Sl.v t20_1) hc_2 ?_
      obtain ⟨hi_3, H⟩ := H
      refine pop_index sli22 siz25 .i64 b1_1 i5_1 hi_3 ?_
      obtain ⟨t24_1, hc_1, H⟩ := H
      refine rop_one one25 (Sl.v t24_1) hc_1 ?_
      refine H.mono fun rv_1 h_2 H => ?_
      obtain ⟨t25_1, rfl, hL_2, H⟩ := H
      refine pop_not t25_1 ?_
      refine condM_b (fun hb_3 => ?_) (fun hb_3 => ?_)
      · have H := H.1 hb_3
        exact H
      · have H := H.2 hb_3
        refine pop_add .i64 i5_1 1 ?_
        obtain ⟨m_1, hm_1, H⟩ := H
        exact hn_1 _ _ ⟨m_1, hm_1, (w64 (i5_1 + 1)), rfl, H, hL_2⟩
    · have H := H.2 hb_2
      exact H

/-! laws.markIntSS -/
def u83 (P : Program) (a0_1 : Sl) (k1_1 : Int) (h : Heap) (K : Value → Heap → Prop) : Prop :=
  ∃ J_1 : Nat → Int → Int → Heap → Prop, (∃ n0 : Nat, J_1 n0 k1_1 0 h) ∧
  ∀ (n_1 : Nat) (k1_2 : Int) (i5_1 : Int) (h_1 : Heap), J_1 n_1 k1_2 i5_1 h_1 → Vars h_1 [] →
  ((decide (i5_1 < (a0_1.n : Int))) = true →
  InB a0_1 i5_1 ∧
  ∃ t15_1 : Sl, hcell h_1 (Sl.at a0_1 i5_1 1) = some (Sl.v t15_1) ∧
  callM P 21 #[(Sl.v t15_1), (VI k1_2)] h_1 fun rv_1 h_2 => ∃ t17_1 : Int, rv_1 = (VI t17_1) ∧ Vars h_2 [] ∧
  ∃ m : Nat, m < n_1 ∧ J_1 m t17_1 (w64 (i5_1 + 1)) h_2) ∧
  ((decide (i5_1 < (a0_1.n : Int))) = false →
  K (VI k1_2) h_1)
theorem v83 (a0_1 : Sl) (k1_1 : Int) (h : Heap) (K : Value → Heap → Prop) (H : u83 Try.prog a0_1 k1_1 h K) : callM Try.prog 83 #[(Sl.v a0_1), (VI k1_1)] h K := by
  refine c83 (Sl.v a0_1) (VI k1_1) h K ?_
  unfold u83 at H
  unfold t83
  have hL : Vars h [] := .nil
  obtain ⟨J_1, ⟨n_2, h0_1⟩, HB_1⟩ := H
  refine loop_intro (J := fun (n : Nat) (vs : List Value) (h' : Heap) => ∃ k1_2 : Int, ∃ i5_1 : Int, vs = [(VI k1_2), (VI i5_1)] ∧ J_1 n k1_2 i5_1 h' ∧ Vars h' []) n_2 ⟨k1_1, 0, rfl, h0_1, hL⟩ ?_
  intro I_1 mu_1 hI_1 junk_1 tv_1 tv_2 h_1 hi_1
  obtain ⟨n_1, ⟨k1_2, i5_1, hv, hJ_1, hL_1⟩, hn_1⟩ := hI_1 _ _ hi_1
  cases hv
  have H := HB_1 n_1 k1_2 i5_1 h_1 hJ_1 hL_1
  refine pop_len a0_1 _ _ sli22 ?_
  refine pop_lss .i64 i5_1 (a0_1.n : Int) ?_
  refine condM_b (fun hb_1 => ?_) (fun hb_1 => ?_)
  · have H := H.1 hb_1
    obtain ⟨hi_2, H⟩ := H
    refine pop_index sli22 siz25 .i64 a0_1 i5_1 hi_2 ?_
    obtain ⟨t15_1, hc_1, H⟩ := H
    refine rop_one one25 (Sl.v t15_1) hc_1 ?_
    refine H.mono fun rv_1 h_2 H => ?_
    obtain ⟨t17_1, rfl, hL_2, H⟩ := H
    refine pop_add .i64 i5_1 1 ?_
    obtain ⟨m_1, hm_1, H⟩ := H
    exact hn_1 _ _ ⟨m_1, hm_1, t17_1, (w64 (i5_1 + 1)), rfl, H, hL_2⟩
  · have H := H.2 hb_1
    exact H

/-! impl.isGraph -/
def u88 (P : Program) (g0_1 : Sl) (h : Heap) (K : Value → Heap → Prop) : Prop :=
  ∀ (b_1 : Nat) (b_2 : Nat) (h_3 : Heap), h.size ≤ b_1 → h.size ≤ b_2 → Fr (In []) h h_3 → Vars h_3 [(b_2, [(VI (g0_1.n : Int))]), (b_1, [(Sl.v g0_1)])] →
  callM P 113 #[(VI (g0_1.n : Int)), (VI 1), (VI 8)] h_3 fun rv_1 h_4 => ∃ t10_1 : Bool, rv_1 = (VB t10_1) ∧ Vars h_4 [(b_2, [(VI (g0_1.n : Int))]), (b_1, [(Sl.v g0_1)])] ∧
  ((!t10_1) = true →
  K (VB false) h_4) ∧
  ((!t10_1) = false →
  ∃ J_1 : Nat → Int → Int → Heap → Prop, (∃ n0 : Nat, J_1 n0 0 (g0_1.n : Int) h_4) ∧
  ∀ (n_1 : Nat) (t15_1 : Int) (x_1 : Int) (h_5 : Heap), J_1 n_1 t15_1 x_1 h_5 → Vars h_5 [(b_2, [(VI x_1)]), (b_1, [(Sl.v g0_1)])] →
  ((decide (t15_1 < (g0_1.n : Int))) = true →
  InB g0_1 t15_1 ∧
  ∃ t18_1 : Sl, hcell h_5 (Sl.at g0_1 t15_1 1) = some (Sl.v t18_1) ∧
  ((decide (5 < (t18_1.n : Int))) = true →
  K (VB false) h_5) ∧
  ((decide (5 < (t18_1.n : Int))) = false →
  callM P 102 #[(Sl.v t18_1), (Value.func (Fn.func 150) #[] #[(VP b_2 0)])] h_5 fun rv_2 h_6 => ∃ x_2 : Int, ∃ t25_1 : Bool, rv_2 = (VB t25_1) ∧ Vars h_6 [(b_2, [(VI x_2)]), (b_1, [(Sl.v g0_1)])] ∧
  (t25_1 = true →
  K (VB false) h_6) ∧
  (t25_1 = false →
  ∃ m : Nat, m < n_1 ∧ J_1 m (w64 (t15_1 + 1)) x_2 h_6))) ∧
  ((decide (t15_1 < (g0_1.n : Int))) = false →
  K (VB true) h_5))
theorem v88 (g0_1 : Sl) (h : Heap) (K : Value → Heap → Prop) (H : u88 Try.prog g0_1 h K) : callM Try.prog 88 #[(Value.agg #[(Sl.v g0_1)])] h K := by
  refine c88 (Value.agg #[(Sl.v g0_1)]) h K ?_
  unfold u88 at H
  unfold t88
  have hL : Vars h [] := .nil
  refine eop_box 32 (Value.agg #[(Sl.v g0_1)]) rfl hL (fun b_1 h_1 hb_1 hf_1 hL_1 => ?_)
  refine pop_field 0 fld32_0 b_1 0 ?_
  refine rop_loc one22 hL_1 0 rfl 0 (v := (Sl.v g0_1)) rfl ?_
  refine pop_len g0_1 _ _ sli22 ?_
  refine eop_alloc 3 zer3 rfl hL_1 (fun b_2 h_2 hb_2 hf_2 hL_2 => ?_)
  refine uop_loc siz3 hL_2 0 rfl 0 [(VI (g0_1.n : Int))] rfl rfl rfl (Nat.le_of_ble_eq_true rfl) (L' := [(b_2, [(VI (g0_1.n : Int))]), (b_1, [(Sl.v g0_1)])]) rfl (fun h_3 hf_3 hL_3 => ?_)
  refine rop_loc one3 hL_3 0 rfl 0 (v := (VI (g0_1.n : Int))) rfl ?_
  have H := H b_1 b_2 h_3 (Nat.le_trans (Fr.size (Fr.r (In []) _)) hb_1) (Nat.le_trans (Fr.size (Fr.no' (Fr.r (In []) _) hf_1)) hb_2) (Fr.new (Fr.no' (Fr.no' (Fr.r (In []) _) hf_1) hf_2) (Nat.le_trans (Fr.size (Fr.no' (Fr.r (In []) _) hf_1)) hb_2) hf_3) hL_3
  refine H.mono fun rv_1 h_4 H => ?_
  obtain ⟨t10_1, rfl, hL_4, H⟩ := H
  refine pop_not t10_1 ?_
  refine condM_b (fun hb_3 => ?_) (fun hb_3 => ?_)
  · have H := H.1 hb_3
    exact H
  · have H := H.2 hb_3
    refine pop_field 0 fld32_0 b_1 0 ?_
    refine rop_loc one22 hL_4 1 rfl 0 (v := (Sl.v g0_1)) rfl ?_
    refine pop_len g0_1 _ _ sli22 ?_
    obtain ⟨J_1, ⟨n_2, h0_1⟩, HB_1⟩ := H
    refine loop_intro (J := fun (n : Nat) (vs : List Value) (h' : Heap) => ∃ t15_1 : Int, ∃ x_1 : Int, vs = [(VI t15_1)] ∧ J_1 n t15_1 x_1 h' ∧ Vars h' [(b_2, [(VI x_1)]), (b_1, [(Sl.v g0_1)])]) n_2 ⟨0, (g0_1.n : Int), rfl, h0_1, hL_4⟩ ?_
    intro I_1 mu_1 hI_1 junk_1 tv_1 h_5 hi_1
    obtain ⟨n_1, ⟨t15_1, x_1, hv, hJ_1, hL_5⟩, hn_1⟩ := hI_1 _ _ hi_1
    cases hv
    have H := HB_1 n_1 t15_1 x_1 h_5 hJ_1 hL_5
    refine pop_lss .i64 t15_1 (g0_1.n : Int) ?_
    refine condM_b (fun hb_4 => ?_) (fun hb_4 => ?_)
    · have H := H.1 hb_4
      obtain ⟨hi_2, H⟩ := H
      refine pop_index sli22 siz25 .i64 g0_1 t15_1 hi_2 ?_
      obtain ⟨t18_1, hc_1, H⟩ := H
      refine rop_one one25 (Sl.v t18_1) hc_1 ?_
      refine pop_len t18_1 _ _ sli25 ?_
      refine pop_gtr .i64 (t18_1.n : Int) 5 ?_
      refine guardM_sf (fun hb_5 => ?_) (fun hb_5 => ?_)
      · have H := H.2 hb_5
        refine guardM_y' hb_5 ?_
        refine pop_func _ _ _ ?_
        refine guardM_y' hb_5 ?_
        refine H.mono fun rv_2 h_6 H => ?_
        obtain ⟨x_2, t25_1, rfl, hL_6, H⟩ := H
        refine pop_pickf' hb_5 ?_
        refine condM_b (fun hb_6 => ?_) (fun hb_6 => ?_)
        · have H := H.1 hb_6
          exact H
        · have H := H.2 hb_6
          refine pop_add .i64 t15_1 1 ?_
          obtain ⟨m_1, hm_1, H⟩ := H
          exact hn_1 _ _ ⟨m_1, hm_1, (w64 (t15_1 + 1)), x_2, rfl, H, hL_6⟩
      · have H := H.1 hb_5
        refine guardM_n' hb_5 (by decide) ?_
        refine guardM_n' hb_5 (by decide) ?_
        refine pop_pickt' hb_5 ?_
        refine condM_t ?_
        exact H
    · have H := H.2 hb_4
      exact H

/-! impl.sum -/
def u92 (P : Program) (list0_1 : Sl) (h : Heap) (K : Value → Heap → Prop) : Prop :=
  ∃ J_1 : Nat → Int → Int → Heap → Prop, (∃ n0 : Nat, J_1 n0 0 0 h) ∧
  ∀ (n_1 : Nat) (out3_1 : Int) (t8_1 : Int) (h_1 : Heap), J_1 n_1 out3_1 t8_1 h_1 → Vars h_1 [] →
  ((decide (t8_1 < (list0_1.n : Int))) = true →
  InB list0_1 t8_1 ∧
  ∃ t11_1 : Int, hcell h_1 (Sl.at list0_1 t8_1 1) = some (VI t11_1) ∧
  ∃ m : Nat, m < n_1 ∧ J_1 m (w64 (out3_1 + t11_1)) (w64 (t8_1 + 1)) h_1) ∧
  ((decide (t8_1 < (list0_1.n : Int))) = false →
  K (VI out3_1) h_1)
theorem v92 (list0_1 : Sl) (h : Heap) (K : Value → Heap → Prop) (H : u92 Try.prog list0_1 h K) : callM Try.prog 92 #[(Sl.v list0_1)] h K := by
  refine c92 (Sl.v list0_1) h K ?_
  unfold u92 at H
  unfold t92
  have hL : Vars h [] := .nil
  refine pop_len list0_1 _ _ sli25 ?_
  obtain ⟨J_1, ⟨n_2, h0_1⟩, HB_1⟩ := H
  refine loop_intro (J := fun (n : Nat) (vs : List Value) (h' : Heap) => ∃ out3_1 : Int, ∃ t8_1 : Int, vs = [(VI out3_1), (VI t8_1)] ∧ J_1 n out3_1 t8_1 h' ∧ Vars h' []) n_2 ⟨0, 0, rfl, h0_1, hL⟩ ?_
  intro I_1 mu_1 hI_1 junk_1 tv_1 tv_2 h_1 hi_1
  obtain ⟨n_1, ⟨out3_1, t8_1, hv, hJ_1, hL_1⟩, hn_1⟩ := hI_1 _ _ hi_1
  cases hv
  have H := HB_1 n_1 out3_1 t8_1 h_1 hJ_1 hL_1
  refine pop_lss .i64 t8_1 (list0_1.n : Int) ?_
  refine condM_b (fun hb_1 => ?_) (fun hb_1 => ?_)
  · have H := H.1 hb_1
    obtain ⟨hi_2, H⟩ := H
    refine pop_index sli25 siz3 .i64 list0_1 t8_1 hi_2 ?_
    obtain ⟨t11_1, hc_1, H⟩ := H
    refine rop_one one3 (VI t11_1) hc_1 ?_
    refine pop_add .i64 out3_1 t11_1 ?_
    refine pop_add .i64 t8_1 1 ?_
    obtain ⟨m_1, hm_1, H⟩ := H
    exact hn_1 _ _ ⟨m_1, hm_1, (w64 (out3_1 + t11_1)), (w64 (t8_1 + 1)), rfl, H, hL_1⟩
  · have H := H.2 hb_1
    exact H

/-! (*impl.Load).waiting -/
def u94 (P : Program) (b_1 : Nat) (l0_1 : Sl) (l0_2 : Sl) (sink1_1 : Int) (h : Heap) (K : Value → Heap → Prop) : Prop :=
  eop P (Instr.buildSlice 25 0 #[]) h fun rv_1 h_1 => ∃ t8_1 : Sl, rv_1 = (Sl.v t8_1) ∧ Vars h_1 [(b_1, [(Sl.v l0_1), (Sl.v l0_2)])] ∧
  ∃ J_1 : Nat → Sl → Int → Heap → Prop, (∃ n0 : Nat, J_1 n0 t8_1 0 h_1) ∧
  ∀ (n_1 : Nat) (out5_1 : Sl) (t14_1 : Int) (h_2 : Heap), J_1 n_1 out5_1 t14_1 h_2 → Vars h_2 [(b_1, [(Sl.v l0_1), (Sl.v l0_2)])] →
  ((decide (t14_1 < (l0_2.n : Int))) = true →
  InB l0_2 t14_1 ∧
  ∃ t18_1 : Int, hcell h_2 (Sl.at l0_2 t14_1 1) = some (VI t18_1) ∧
  ((!decide (t14_1 = sink1_1)) = true →
  ((decide (0 < t18_1)) = true →
  eop P (Instr.buildSlice 25 1 #[(0, (VI t14_1))]) h_2 fun rv_2 h_3 => ∃ t28_1 : Sl, rv_2 = (Sl.v t28_1) ∧ Vars h_3 [(b_1, [(Sl.v l0_1), (Sl.v l0_2)])] ∧
  eop P (appS 25 25 25 (Sl.v out5_1) (Sl.v t28_1)) h_3 fun rv_3 h_4 => ∃ t29_1 : Sl, rv_3 = (Sl.v t29_1) ∧ Vars h_4 [(b_1, [(Sl.v l0_1), (Sl.v l0_2)])] ∧
  ∃ m : Nat, m < n_1 ∧ J_1 m t29_1 (w64 (t14_1 + 1)) h_4) ∧
  ((decide (0 < t18_1)) = false →
  ∃ m : Nat, m < n_1 ∧ J_1 m out5_1 (w64 (t14_1 + 1)) h_2)) ∧
  ((!decide (t14_1 = sink1_1)) = false →
  ∃ m : Nat, m < n_1 ∧ J_1 m out5_1 (w64 (t14_1 + 1)) h_2)) ∧
  ((decide (t14_1 < (l0_2.n : Int))) = false →
  K (Sl.v out5_1) h_2)
theorem v94 (b_1 : Nat) (l0_1 : Sl) (l0_2 : Sl) (sink1_1 : Int) (h : Heap) (K : Value → Heap → Prop) (hL : Vars h [(b_1, [(Sl.v l0_1), (Sl.v l0_2)])]) (H : u94 Try.prog b_1 l0_1 l0_2 sink1_1 h K) : callM Try.prog 94 #[(VP b_1 0), (VI sink1_1)] h K := by
  refine c94 (VP b_1 0) (VI sink1_1) h K ?_
  unfold u94 at H
  unfold t94
  refine H.mono fun rv_1 h_1 H => ?_
  obtain ⟨t8_1, rfl, hL_1, H⟩ := H
  refine pop_nil _ ?_
  refine pop_field 1 fld34_1 b_1 0 ?_
  refine rop_loc one25 hL_1 0 rfl 1 (v := (Sl.v l0_2)) rfl ?_
  refine pop_len l0_2 _ _ sli25 ?_
  obtain ⟨J_1, ⟨n_2, h0_1⟩, HB_1⟩ := H
  refine loop_intro (J := fun (n : Nat) (vs : List Value) (h' : Heap) => ∃ out5_1 : Sl, ∃ t14_1 : Int, vs = [(Sl.v out5_1), (VI t14_1)] ∧ J_1 n out5_1 t14_1 h' ∧ Vars h' [(b_1, [(Sl.v l0_1), (Sl.v l0_2)])]) n_2 ⟨t8_1, 0, rfl, h0_1, hL_1⟩ ?_
  intro I_1 mu_1 hI_1 junk_1 tv_1 tv_2 h_2 hi_1
  obtain ⟨n_1, ⟨out5_1, t14_1, hv, hJ_1, hL_2⟩, hn_1⟩ := hI_1 _ _ hi_1
  cases hv
  have H := HB_1 n_1 out5_1 t14_1 h_2 hJ_1 hL_2
  refine pop_lss .i64 t14_1 (l0_2.n : Int) ?_
  refine condM_b (fun hb_1 => ?_) (fun hb_1 => ?_)
  · have H := H.1 hb_1
    obtain ⟨hi_2, H⟩ := H
    refine pop_index sli25 siz3 .i64 l0_2 t14_1 hi_2 ?_
    obtain ⟨t18_1, hc_1, H⟩ := H
    refine rop_one one3 (VI t18_1) hc_1 ?_
    refine pop_ine .i64 _ _ t14_1 sink1_1 ?_
    refine guardM_st (fun hb_2 => ?_) (fun hb_2 => ?_)
    · have H := H.1 hb_2
      refine guardM_y' hb_2 ?_
      refine pop_gtr .i64 t18_1 0 ?_
      refine pop_pickt' hb_2 ?_
      refine condM_b (fun hb_3 => ?_) (fun hb_3 => ?_)
      · have H := H.1 hb_3
        refine H.mono fun rv_2 h_3 H => ?_
        obtain ⟨t28_1, rfl, hL_3, H⟩ := H
        refine H.mono fun rv_3 h_4 H => ?_
        obtain ⟨t29_1, rfl, hL_4, H⟩ := H
        refine pop_add .i64 t14_1 1 ?_
        obtain ⟨m_1, hm_1, H⟩ := H
        exact hn_1 _ _ ⟨m_1, hm_1, t29_1, (w64 (t14_1 + 1)), rfl, H, hL_4⟩
      · have H := H.2 hb_3
        refine pop_add .i64 t14_1 1 ?_
        obtain ⟨m_2, hm_2, H⟩ := H
        exact hn_1 _ _ ⟨m_2, hm_2, out5_1, (w64 (t14_1 + 1)), rfl, H, hL_2⟩
    · have H := H.2 hb_2
      refine guardM_n' hb_2 (by decide) ?_
      refine pop_pickf' hb_2 ?_
      refine condM_f ?_
      refine pop_add .i64 t14_1 1 ?_
      obtain ⟨m_3, hm_3, H⟩ := H
      exact hn_1 _ _ ⟨m_3, hm_3, out5_1, (w64 (t14_1 + 1)), rfl, H, hL_2⟩
  · have H := H.2 hb_1
    exact H

/-! spec.chLoaded -/
def u96 (P : Program) (sink0_1 : Int) (chips1_1 : Sl) (h : Heap) (K : Value → Heap → Prop) : Prop :=
  ∃ J_1 : Nat → Sl → Int → Heap → Prop, (∃ n0 : Nat, J_1 n0 nilSl 0 h) ∧
  ∀ (n_1 : Nat) (out5_1 : Sl) (t10_1 : Int) (h_1 : Heap), J_1 n_1 out5_1 t10_1 h_1 → Vars h_1 [] →
  ((decide (t10_1 < (chips1_1.n : Int))) = true →
  InB chips1_1 t10_1 ∧
  ∃ t14_1 : Int, hcell h_1 (Sl.at chips1_1 t10_1 1) = some (VI t14_1) ∧
  ((!decide (t10_1 = sink0_1)) = true →
  ((decide (0 < t14_1)) = true →
  eop P (Instr.buildSlice 25 1 #[(0, (VI t10_1))]) h_1 fun rv_1 h_2 => ∃ t24_1 : Sl, rv_1 = (Sl.v t24_1) ∧ Vars h_2 [] ∧
  eop P (appS 25 25 25 (Sl.v out5_1) (Sl.v t24_1)) h_2 fun rv_2 h_3 => ∃ t25_1 : Sl, rv_2 = (Sl.v t25_1) ∧ Vars h_3 [] ∧
  ∃ m : Nat, m < n_1 ∧ J_1 m t25_1 (w64 (t10_1 + 1)) h_3) ∧
  ((decide (0 < t14_1)) = false →
  ∃ m : Nat, m < n_1 ∧ J_1 m out5_1 (w64 (t10_1 + 1)) h_1)) ∧
  ((!decide (t10_1 = sink0_1)) = false →
  ∃ m : Nat, m < n_1 ∧ J_1 m out5_1 (w64 (t10_1 + 1)) h_1)) ∧
  ((decide (t10_1 < (chips1_1.n : Int))) = false →
  K (Sl.v out5_1) h_1)
theorem v96 (sink0_1 : Int) (chips1_1 : Sl) (h : Heap) (K : Value → Heap → Prop) (H : u96 Try.prog sink0_1 chips1_1 h K) : callM Try.prog 96 #[(VI sink0_1), (Sl.v chips1_1)] h K := by
  refine c96 (VI sink0_1) (Sl.v chips1_1) h K ?_
  unfold u96 at H
  unfold t96
  have hL : Vars h [] := .nil
  refine pop_len chips1_1 _ _ sli25 ?_
  obtain ⟨J_1, ⟨n_2, h0_1⟩, HB_1⟩ := H
  refine loop_intro (J := fun (n : Nat) (vs : List Value) (h' : Heap) => ∃ out5_1 : Sl, ∃ t10_1 : Int, vs = [(Sl.v out5_1), (VI t10_1)] ∧ J_1 n out5_1 t10_1 h' ∧ Vars h' []) n_2 ⟨nilSl, 0, rfl, h0_1, hL⟩ ?_
  intro I_1 mu_1 hI_1 junk_1 tv_1 tv_2 h_1 hi_1
  obtain ⟨n_1, ⟨out5_1, t10_1, hv, hJ_1, hL_1⟩, hn_1⟩ := hI_1 _ _ hi_1
  cases hv
  have H := HB_1 n_1 out5_1 t10_1 h_1 hJ_1 hL_1
  refine pop_lss .i64 t10_1 (chips1_1.n : Int) ?_
  refine condM_b (fun hb_1 => ?_) (fun hb_1 => ?_)
  · have H := H.1 hb_1
    obtain ⟨hi_2, H⟩ := H
    refine pop_index sli25 siz3 .i64 chips1_1 t10_1 hi_2 ?_
    obtain ⟨t14_1, hc_1, H⟩ := H
    refine rop_one one3 (VI t14_1) hc_1 ?_
    refine pop_ine .i64 _ _ t10_1 sink0_1 ?_
    refine guardM_st (fun hb_2 => ?_) (fun hb_2 => ?_)
    · have H := H.1 hb_2
      refine guardM_y' hb_2 ?_
      refine pop_gtr .i64 t14_1 0 ?_
      refine pop_pickt' hb_2 ?_
      refine condM_b (fun hb_3 => ?_) (fun hb_3 => ?_)
      · have H := H.1 hb_3
        refine H.mono fun rv_1 h_2 H => ?_
        obtain ⟨t24_1, rfl, hL_2, H⟩ := H
        refine H.mono fun rv_2 h_3 H => ?_
        obtain ⟨t25_1, rfl, hL_3, H⟩ := H
        refine pop_add .i64 t10_1 1 ?_
        obtain ⟨m_1, hm_1, H⟩ := H
        exact hn_1 _ _ ⟨m_1, hm_1, t25_1, (w64 (t10_1 + 1)), rfl, H, hL_3⟩
      · have H := H.2 hb_3
        refine pop_add .i64 t10_1 1 ?_
        obtain ⟨m_2, hm_2, H⟩ := H
        exact hn_1 _ _ ⟨m_2, hm_2, out5_1, (w64 (t10_1 + 1)), rfl, H, hL_1⟩
    · have H := H.2 hb_2
      refine guardM_n' hb_2 (by decide) ?_
      refine pop_pickf' hb_2 ?_
      refine condM_f ?_
      refine pop_add .i64 t10_1 1 ?_
      obtain ⟨m_3, hm_3, H⟩ := H
      exact hn_1 _ _ ⟨m_3, hm_3, out5_1, (w64 (t10_1 + 1)), rfl, H, hL_1⟩
  · have H := H.2 hb_1
    exact H

/-! slices.ContainsFunc[[]int,int] -/
def u102 (P : Program) (s0_1 : Sl) (f1_1 : Value) (h : Heap) (K : Value → Heap → Prop) : Prop :=
  callM P 159 #[(Sl.v s0_1), f1_1] h fun rv_1 h_1 => ∃ t7_1 : Int, rv_1 = (VI t7_1) ∧ Vars h_1 [] ∧
  K (VB (decide (0 ≤ t7_1))) h_1
theorem v102 (s0_1 : Sl) (f1_1 : Value) (h : Heap) (K : Value → Heap → Prop) (H : u102 Try.prog s0_1 f1_1 h K) : callM Try.prog 102 #[(Sl.v s0_1), f1_1] h K := by
  refine c102 (Sl.v s0_1) f1_1 h K ?_
  unfold u102 at H
  unfold t102
  have hL : Vars h [] := .nil
  refine H.mono fun rv_1 h_1 H => ?_
  obtain ⟨t7_1, rfl, hL_1, H⟩ := H
  refine pop_geq .i64 t7_1 0 ?_
  exact H

/-! spec.l1All -/
def u104 (P : Program) (l0_1 : Sl) (lo1_1 : Int) (hi2_1 : Int) (h : Heap) (K : Value → Heap → Prop) : Prop :=
  ∃ J_1 : Nat → Int → Heap → Prop, (∃ n0 : Nat, J_1 n0 0 h) ∧
  ∀ (n_1 : Nat) (t11_1 : Int) (h_1 : Heap), J_1 n_1 t11_1 h_1 → Vars h_1 [] →
  ((decide (t11_1 < (l0_1.n : Int))) = true →
  InB l0_1 t11_1 ∧
  ∃ t14_1 : Int, hcell h_1 (Sl.at l0_1 t11_1 1) = some (VI t14_1) ∧
  callM P 117 #[(VI t14_1), (VI lo1_1), (VI hi2_1)] h_1 fun rv_1 h_2 => ∃ t18_1 : Bool, rv_1 = (VB t18_1) ∧ Vars h_2 [] ∧
  ((!t18_1) = true →
  K (VB false) h_2) ∧
  ((!t18_1) = false →
  ∃ m : Nat, m < n_1 ∧ J_1 m (w64 (t11_1 + 1)) h_2)) ∧
  ((decide (t11_1 < (l0_1.n : Int))) = false →
  K (VB true) h_1)
theorem v104 (l0_1 : Sl) (lo1_1 : Int) (hi2_1 : Int) (h : Heap) (K : Value → Heap → Prop) (H : u104 Try.prog l0_1 lo1_1 hi2_1 h K) : callM Try.prog 104 #[(Sl.v l0_1), (VI lo1_1), (VI hi2_1)] h K := by
  refine c104 (Sl.v l0_1) (VI lo1_1) (VI hi2_1) h K ?_
  unfold u104 at H
  unfold t104
  have hL : Vars h [] := .nil
  refine pop_len l0_1 _ _ sli25 ?_
  obtain ⟨J_1, ⟨n_2, h0_1⟩, HB_1⟩ := H
  refine loop_intro (J := fun (n : Nat) (vs : List Value) (h' : Heap) => ∃ t11_1 : Int, vs = [(VI t11_1)] ∧ J_1 n t11_1 h' ∧ Vars h' []) n_2 ⟨0, rfl, h0_1, hL⟩ ?_
  intro I_1 mu_1 hI_1 junk_1 tv_1 h_1 hi_1
  obtain ⟨n_1, ⟨t11_1, hv, hJ_1, hL_1⟩, hn_1⟩ := hI_1 _ _ hi_1
  cases hv
  have H := HB_1 n_1 t11_1 h_1 hJ_1 hL_1
  refine pop_lss .i64 t11_1 (l0_1.n : Int) ?_
  refine condM_b (fun hb_1 => ?_) (fun hb_1 => ?_)
  · have H := H.1 hb_1
    obtain ⟨hi_2, H⟩ := H
    refine pop_index sli25 siz3 .i64 l0_1 t11_1 hi_2 ?_
    obtain ⟨t14_1, hc_1, H⟩ := H
    refine rop_one one3 (VI t14_1) hc_1 ?_
    refine H.mono fun rv_1 h_2 H => ?_
    obtain ⟨t18_1, rfl, hL_2, H⟩ := H
    refine pop_not t18_1 ?_
    refine condM_b (fun hb_2 => ?_) (fun hb_2 => ?_)
    · have H := H.1 hb_2
      exact H
    · have H := H.2 hb_2
      refine pop_add .i64 t11_1 1 ?_
      obtain ⟨m_1, hm_1, H⟩ := H
      exact hn_1 _ _ ⟨m_1, hm_1, (w64 (t11_1 + 1)), rfl, H, hL_2⟩
  · have H := H.2 hb_1
    exact H

/-! impl.hasSink -/
def u105 (P : Program) (g0_1 : Sl) (sink1_1 : Int) (h : Heap) (K : Value → Heap → Prop) : Prop :=
  ∀ (b_1 : Nat) (h_1 : Heap), h.size ≤ b_1 → Fr (In []) h h_1 → Vars h_1 [(b_1, [(Sl.v g0_1)])] →
  eop P (Instr.buildSlice 25 1 #[(0, (VI sink1_1))]) h_1 fun rv_1 h_2 => ∃ t7_1 : Sl, rv_1 = (Sl.v t7_1) ∧ Vars h_2 [(b_1, [(Sl.v g0_1)])] ∧
  callM P 107 #[(Value.agg #[(Sl.v g0_1)]), (Sl.v t7_1)] h_2 fun rv_2 h_3 => ∃ t8_1 : Bool, rv_2 = (VB t8_1) ∧ Vars h_3 [(b_1, [(Sl.v g0_1)])] ∧
  (t8_1 = true →
  callM P 160 #[(Value.agg #[(Sl.v g0_1)]), (VI sink1_1)] h_3 fun rv_3 h_4 => ∃ t12_1 : Bool, rv_3 = (VB t12_1) ∧ Vars h_4 [(b_1, [(Sl.v g0_1)])] ∧
  K (VB t12_1) h_4) ∧
  (t8_1 = false →
  K (VB false) h_3)
theorem v105 (g0_1 : Sl) (sink1_1 : Int) (h : Heap) (K : Value → Heap → Prop) (H : u105 Try.prog g0_1 sink1_1 h K) : callM Try.prog 105 #[(Value.agg #[(Sl.v g0_1)]), (VI sink1_1)] h K := by
  refine c105 (Value.agg #[(Sl.v g0_1)]) (VI sink1_1) h K ?_
  unfold u105 at H
  unfold t105
  have hL : Vars h [] := .nil
  refine eop_box 32 (Value.agg #[(Sl.v g0_1)]) rfl hL (fun b_1 h_1 hb_1 hf_1 hL_1 => ?_)
  refine rop_locA agg32 hL_1 0 rfl 0 (vs := [(Sl.v g0_1)]) rfl rfl ?_
  have H := H b_1 h_1 (Nat.le_trans (Fr.size (Fr.r (In []) _)) hb_1) (Fr.no' (Fr.r (In []) _) hf_1) hL_1
  refine H.mono fun rv_1 h_2 H => ?_
  obtain ⟨t7_1, rfl, hL_2, H⟩ := H
  refine H.mono fun rv_2 h_3 H => ?_
  obtain ⟨t8_1, rfl, hL_3, H⟩ := H
  refine guardM_st (fun hb_2 => ?_) (fun hb_2 => ?_)
  · have H := H.1 hb_2
    refine rop_locA agg32 hL_3 0 rfl 0 (vs := [(Sl.v g0_1)]) rfl rfl ?_
    refine guardM_y' hb_2 ?_
    refine guardM_y' hb_2 ?_
    refine H.mono fun rv_3 h_4 H => ?_
    obtain ⟨t12_1, rfl, hL_4, H⟩ := H
    refine pop_pickt' hb_2 ?_
    exact H
  · have H := H.2 hb_2
    refine guardM_n' hb_2 (by decide) ?_
    refine guardM_n' hb_2 (by decide) ?_
    refine pop_pickf' hb_2 ?_
    exact H

/-! impl.has -/
def u107 (P : Program) (g0_1 : Sl) (places1_1 : Sl) (h : Heap) (K : Value → Heap → Prop) : Prop :=
  ∀ (b_1 : Nat) (h_1 : Heap), h.size ≤ b_1 → Fr (In []) h h_1 → Vars h_1 [(b_1, [(Sl.v g0_1)])] →
  callM P 88 #[(Value.agg #[(Sl.v g0_1)])] h_1 fun rv_1 h_2 => ∃ t6_1 : Bool, rv_1 = (VB t6_1) ∧ Vars h_2 [(b_1, [(Sl.v g0_1)])] ∧
  (t6_1 = true →
  callM P 102 #[(Sl.v places1_1), (Value.func (Fn.func 161) #[] #[(VP b_1 0)])] h_2 fun rv_2 h_3 => ∃ x_1 : Sl, ∃ t10_1 : Bool, rv_2 = (VB t10_1) ∧ Vars h_3 [(b_1, [(Sl.v x_1)])] ∧
  K (VB (!t10_1)) h_3) ∧
  (t6_1 = false →
  K (VB false) h_2)
theorem v107 (g0_1 : Sl) (places1_1 : Sl) (h : Heap) (K : Value → Heap → Prop) (H : u107 Try.prog g0_1 places1_1 h K) : callM Try.prog 107 #[(Value.agg #[(Sl.v g0_1)]), (Sl.v places1_1)] h K := by
  refine c107 (Value.agg #[(Sl.v g0_1)]) (Sl.v places1_1) h K ?_
  unfold u107 at H
  unfold t107
  have hL : Vars h [] := .nil
  refine eop_box 32 (Value.agg #[(Sl.v g0_1)]) rfl hL (fun b_1 h_1 hb_1 hf_1 hL_1 => ?_)
  refine rop_locA agg32 hL_1 0 rfl 0 (vs := [(Sl.v g0_1)]) rfl rfl ?_
  have H := H b_1 h_1 (Nat.le_trans (Fr.size (Fr.r (In []) _)) hb_1) (Fr.no' (Fr.r (In []) _) hf_1) hL_1
  refine H.mono fun rv_1 h_2 H => ?_
  obtain ⟨t6_1, rfl, hL_2, H⟩ := H
  refine guardM_st (fun hb_2 => ?_) (fun hb_2 => ?_)
  · have H := H.1 hb_2
    refine guardM_y' hb_2 ?_
    refine pop_func _ _ _ ?_
    refine guardM_y' hb_2 ?_
    refine H.mono fun rv_2 h_3 H => ?_
    obtain ⟨x_1, t10_1, rfl, hL_3, H⟩ := H
    refine guardM_y' hb_2 ?_
    refine pop_not t10_1 ?_
    refine pop_pickt' hb_2 ?_
    exact H
  · have H := H.2 hb_2
    refine guardM_n' hb_2 (by decide) ?_
    refine guardM_n' hb_2 (by decide) ?_
    refine guardM_n' hb_2 (by decide) ?_
    refine pop_pickf' hb_2 ?_
    exact H

/-! spec.chOwn -/
def u109 (P : Program) (l0_1 : Sl) (l0_2 : Sl) (h : Heap) (K : Value → Heap → Prop) : Prop :=
  ∀ (b_1 : Nat) (b_2 : Nat) (h_2 : Heap), h.size ≤ b_1 → h.size ≤ b_2 → Fr (In []) h h_2 → Vars h_2 [(b_2, [(Sl.v nilSl), (Sl.v nilSl)]), (b_1, [(Sl.v l0_1), (Sl.v l0_2)])] →
  callM P 130 #[(Sl.v l0_1)] h_2 fun rv_1 h_3 => ∃ t5_1 : Sl, rv_1 = (Sl.v t5_1) ∧ Vars h_3 [(b_2, [(Sl.v nilSl), (Sl.v nilSl)]), (b_1, [(Sl.v l0_1), (Sl.v l0_2)])] ∧
  callM P 130 #[(Sl.v l0_2)] h_3 fun rv_2 h_4 => ∃ t8_1 : Sl, rv_2 = (Sl.v t8_1) ∧ Vars h_4 [(b_2, [(Sl.v nilSl), (Sl.v nilSl)]), (b_1, [(Sl.v l0_1), (Sl.v l0_2)])] ∧
  ∀ (h_5 : Heap), Fr (In [b_2]) h_4 h_5 → Vars h_5 [(b_2, [(Sl.v t5_1), (Sl.v t8_1)]), (b_1, [(Sl.v l0_1), (Sl.v l0_2)])] →
  K (Value.agg #[(Sl.v t5_1), (Sl.v t8_1)]) h_5
theorem v109 (l0_1 : Sl) (l0_2 : Sl) (h : Heap) (K : Value → Heap → Prop) (H : u109 Try.prog l0_1 l0_2 h K) : callM Try.prog 109 #[(Value.agg #[(Sl.v l0_1), (Sl.v l0_2)])] h K := by
  refine c109 (Value.agg #[(Sl.v l0_1), (Sl.v l0_2)]) h K ?_
  unfold u109 at H
  unfold t109
  have hL : Vars h [] := .nil
  refine eop_box 34 (Value.agg #[(Sl.v l0_1), (Sl.v l0_2)]) rfl hL (fun b_1 h_1 hb_1 hf_1 hL_1 => ?_)
  refine eop_alloc 34 zer34 rfl hL_1 (fun b_2 h_2 hb_2 hf_2 hL_2 => ?_)
  refine pop_field 0 fld34_0 b_1 0 ?_
  refine rop_loc one25 hL_2 1 rfl 0 (v := (Sl.v l0_1)) rfl ?_
  refine pop_field 1 fld34_1 b_1 0 ?_
  refine rop_loc one25 hL_2 1 rfl 1 (v := (Sl.v l0_2)) rfl ?_
  have H := H b_1 b_2 h_2 (Nat.le_trans (Fr.size (Fr.r (In []) _)) hb_1) (Nat.le_trans (Fr.size (Fr.no' (Fr.r (In []) _) hf_1)) hb_2) (Fr.no' (Fr.no' (Fr.r (In []) _) hf_1) hf_2) hL_2
  refine H.mono fun rv_1 h_3 H => ?_
  obtain ⟨t5_1, rfl, hL_3, H⟩ := H
  refine ⟨?_, ?_⟩
  · exact still_loc one25 hL_3 1 rfl 1 (v := (Sl.v l0_2)) rfl
  refine H.mono fun rv_2 h_4 H => ?_
  obtain ⟨t8_1, rfl, hL_4, H⟩ := H
  refine pop.mk' (v := (Value.agg #[(Sl.v t5_1), (Sl.v t8_1)])) (fun w => by kernel_rfl) ?_
  refine uop_loc siz34 hL_4 0 rfl 0 [(Sl.v t5_1), (Sl.v t8_1)] rfl rfl rfl (Nat.le_of_ble_eq_true rfl) (L' := [(b_2, [(Sl.v t5_1), (Sl.v t8_1)]), (b_1, [(Sl.v l0_1), (Sl.v l0_2)])]) rfl (fun h_5 hf_3 hL_5 => ?_)
  refine rop_locA agg34 hL_5 0 rfl 0 (vs := [(Sl.v t5_1), (Sl.v t8_1)]) rfl rfl ?_
  have H := H  h_5  (Fr.old (Fr.r (In []) _) hf_3) hL_5
  exact H

/-! spec.chMove -/
def u110 (P : Program) (g0_1 : Sl) (l1_1 : Sl) (l1_2 : Sl) (p2_1 : Int) (h : Heap) (K : Value → Heap → Prop) : Prop :=
  InB g0_1 p2_1 ∧
  ∀ (b_1 : Nat) (b_2 : Nat) (h_2 : Heap), h.size ≤ b_1 → h.size ≤ b_2 → Fr (In []) h h_2 → Vars h_2 [(b_2, [(Sl.v l1_1), (Sl.v l1_2)]), (b_1, [(Sl.v g0_1)])] →
  ∃ t11_1 : Sl, hcell h_2 (Sl.at g0_1 p2_1 1) = some (Sl.v t11_1) ∧
  InB l1_1 p2_1 ∧
  ∃ t19_1 : Int, hcell h_2 (Sl.at l1_1 p2_1 1) = some (VI t19_1) ∧
  (t11_1.n : Int) ≠ 0 ∧
  InB l1_1 p2_1 ∧
  Writable h_2 (Sl.at l1_1 p2_1 1) ∧ Vars (hset h_2 (Sl.at l1_1 p2_1 1) (VI (Int.tmod (w64 (t19_1 + 1)) (t11_1.n : Int)))) [(b_2, [(Sl.v l1_1), (Sl.v l1_2)]), (b_1, [(Sl.v g0_1)])] ∧
  ∀ h_3 : Heap, h_3 = hset h_2 (Sl.at l1_1 p2_1 1) (VI (Int.tmod (w64 (t19_1 + 1)) (t11_1.n : Int))) → Vars h_3 [(b_2, [(Sl.v l1_1), (Sl.v l1_2)]), (b_1, [(Sl.v g0_1)])] →
  InB l1_2 p2_1 ∧
  ∃ t29_1 : Int, hcell h_3 (Sl.at l1_2 p2_1 1) = some (VI t29_1) ∧
  InB l1_2 p2_1 ∧
  Writable h_3 (Sl.at l1_2 p2_1 1) ∧ Vars (hset h_3 (Sl.at l1_2 p2_1 1) (VI (w64 (t29_1 - 1)))) [(b_2, [(Sl.v l1_1), (Sl.v l1_2)]), (b_1, [(Sl.v g0_1)])] ∧
  ∀ h_4 : Heap, h_4 = hset h_3 (Sl.at l1_2 p2_1 1) (VI (w64 (t29_1 - 1))) → Vars h_4 [(b_2, [(Sl.v l1_1), (Sl.v l1_2)]), (b_1, [(Sl.v g0_1)])] →
  InB l1_1 p2_1 ∧
  ∃ t39_1 : Int, hcell h_4 (Sl.at l1_1 p2_1 1) = some (VI t39_1) ∧
  InB t11_1 t39_1 ∧
  ∃ t41_1 : Int, hcell h_4 (Sl.at t11_1 t39_1 1) = some (VI t41_1) ∧
  InB l1_2 t41_1 ∧
  ∃ t43_1 : Int, hcell h_4 (Sl.at l1_2 t41_1 1) = some (VI t43_1) ∧
  InB l1_2 t41_1 ∧
  Writable h_4 (Sl.at l1_2 t41_1 1) ∧ Vars (hset h_4 (Sl.at l1_2 t41_1 1) (VI (w64 (t43_1 + 1)))) [(b_2, [(Sl.v l1_1), (Sl.v l1_2)]), (b_1, [(Sl.v g0_1)])] ∧
  ∀ h_5 : Heap, h_5 = hset h_4 (Sl.at l1_2 t41_1 1) (VI (w64 (t43_1 + 1))) → Vars h_5 [(b_2, [(Sl.v l1_1), (Sl.v l1_2)]), (b_1, [(Sl.v g0_1)])] →
  K (Value.tuple #[]) h_5
theorem v110 (g0_1 : Sl) (l1_1 : Sl) (l1_2 : Sl) (p2_1 : Int) (h : Heap) (K : Value → Heap → Prop) (H : u110 Try.prog g0_1 l1_1 l1_2 p2_1 h K) : callM Try.prog 110 #[(Value.agg #[(Sl.v g0_1)]), (Value.agg #[(Sl.v l1_1), (Sl.v l1_2)]), (VI p2_1)] h K := by
  refine c110 (Value.agg #[(Sl.v g0_1)]) (Value.agg #[(Sl.v l1_1), (Sl.v l1_2)]) (VI p2_1) h K ?_
  unfold u110 at H
  unfold t110
  have hL : Vars h [] := .nil
  refine eop_box 32 (Value.agg #[(Sl.v g0_1)]) rfl hL (fun b_1 h_1 hb_1 hf_1 hL_1 => ?_)
  refine eop_box 34 (Value.agg #[(Sl.v l1_1), (Sl.v l1_2)]) rfl hL_1 (fun b_2 h_2 hb_2 hf_2 hL_2 => ?_)
  refine pop_field 0 fld32_0 b_1 0 ?_
  refine rop_loc one22 hL_2 1 rfl 0 (v := (Sl.v g0_1)) rfl ?_
  obtain ⟨hi_1, H⟩ := H
  refine pop_index sli22 siz25 .i64 g0_1 p2_1 hi_1 ?_
  have H := H b_1 b_2 h_2 (Nat.le_trans (Fr.size (Fr.r (In []) _)) hb_1) (Nat.le_trans (Fr.size (Fr.no' (Fr.r (In []) _) hf_1)) hb_2) (Fr.no' (Fr.no' (Fr.r (In []) _) hf_1) hf_2) hL_2
  obtain ⟨t11_1, hc_6, H⟩ := H
  refine rop_one one25 (Sl.v t11_1) hc_6 ?_
  refine pop_field 0 fld34_0 b_2 0 ?_
  refine rop_loc one25 hL_2 0 rfl 0 (v := (Sl.v l1_1)) rfl ?_
  refine pop_field 0 fld34_0 b_2 0 ?_
  refine rop_loc one25 hL_2 0 rfl 0 (v := (Sl.v l1_1)) rfl ?_
  obtain ⟨hi_2, H⟩ := H
  refine pop_index sli25 siz3 .i64 l1_1 p2_1 hi_2 ?_
  obtain ⟨t19_1, hc_5, H⟩ := H
  refine rop_one one3 (VI t19_1) hc_5 ?_
  refine pop_add .i64 t19_1 1 ?_
  refine pop_len t11_1 _ _ sli25 ?_
  obtain ⟨hz_1, H⟩ := H
  refine pop_rem .i64 (w64 (t19_1 + 1)) (t11_1.n : Int) hz_1 ?_
  obtain ⟨hi_3, H⟩ := H
  refine pop_index sli25 siz3 .i64 l1_1 p2_1 hi_3 ?_
  obtain ⟨hw_1, hL_3, H⟩ := H
  refine uop_cell (v := (VI (Int.tmod (w64 (t19_1 + 1)) (t11_1.n : Int)))) siz3 hw_1 rfl (fun h_3 he_1 => ?_)
  rw [← he_1] at hL_3
  have H := H h_3 he_1 hL_3
  refine pop_field 1 fld34_1 b_2 0 ?_
  refine rop_loc one25 hL_3 0 rfl 1 (v := (Sl.v l1_2)) rfl ?_
  obtain ⟨hi_4, H⟩ := H
  refine pop_index sli25 siz3 .i64 l1_2 p2_1 hi_4 ?_
  obtain ⟨t29_1, hc_4, H⟩ := H
  refine rop_one one3 (VI t29_1) hc_4 ?_
  refine pop_sub .i64 t29_1 1 ?_
  obtain ⟨hi_5, H⟩ := H
  refine pop_index sli25 siz3 .i64 l1_2 p2_1 hi_5 ?_
  obtain ⟨hw_2, hL_4, H⟩ := H
  refine uop_cell (v := (VI (w64 (t29_1 - 1)))) siz3 hw_2 rfl (fun h_4 he_2 => ?_)
  rw [← he_2] at hL_4
  have H := H h_4 he_2 hL_4
  refine pop_field 1 fld34_1 b_2 0 ?_
  refine rop_loc one25 hL_4 0 rfl 1 (v := (Sl.v l1_2)) rfl ?_
  refine pop_field 0 fld34_0 b_2 0 ?_
  refine rop_loc one25 hL_4 0 rfl 0 (v := (Sl.v l1_1)) rfl ?_
  obtain ⟨hi_6, H⟩ := H
  refine pop_index sli25 siz3 .i64 l1_1 p2_1 hi_6 ?_
  obtain ⟨t39_1, hc_3, H⟩ := H
  refine rop_one one3 (VI t39_1) hc_3 ?_
  obtain ⟨hi_7, H⟩ := H
  refine pop_index sli25 siz3 .i64 t11_1 t39_1 hi_7 ?_
  obtain ⟨t41_1, hc_2, H⟩ := H
  refine rop_one one3 (VI t41_1) hc_2 ?_
  obtain ⟨hi_8, H⟩ := H
  refine pop_index sli25 siz3 .i64 l1_2 t41_1 hi_8 ?_
  obtain ⟨t43_1, hc_1, H⟩ := H
  refine rop_one one3 (VI t43_1) hc_1 ?_
  refine pop_add .i64 t43_1 1 ?_
  obtain ⟨hi_9, H⟩ := H
  refine pop_index sli25 siz3 .i64 l1_2 t41_1 hi_9 ?_
  obtain ⟨hw_3, hL_5, H⟩ := H
  refine uop_cell (v := (VI (w64 (t43_1 + 1)))) siz3 hw_3 rfl (fun h_5 he_3 => ?_)
  rw [← he_3] at hL_5
  have H := H h_5 he_3 hL_5
  exact H

/-! spec.chSink -/
def u111 (P : Program) (g0_1 : Sl) (sink1_1 : Int) (h : Heap) (K : Value → Heap → Prop) : Prop :=
  ∀ (b_1 : Nat) (h_1 : Heap), h.size ≤ b_1 → Fr (In []) h h_1 → Vars h_1 [(b_1, [(Sl.v g0_1)])] →
  callM P 116 #[(Value.agg #[(Sl.v g0_1)]), (VI sink1_1)] h_1 fun rv_1 h_2 => ∃ t7_1 : Bool, rv_1 = (VB t7_1) ∧ Vars h_2 [(b_1, [(Sl.v g0_1)])] ∧
  (t7_1 = true →
  callM P 162 #[(Value.agg #[(Sl.v g0_1)]), (VI sink1_1)] h_2 fun rv_2 h_3 => ∃ t11_1 : Bool, rv_2 = (VB t11_1) ∧ Vars h_3 [(b_1, [(Sl.v g0_1)])] ∧
  K (VB t11_1) h_3) ∧
  (t7_1 = false →
  K (VB false) h_2)
theorem v111 (g0_1 : Sl) (sink1_1 : Int) (h : Heap) (K : Value → Heap → Prop) (H : u111 Try.prog g0_1 sink1_1 h K) : callM Try.prog 111 #[(Value.agg #[(Sl.v g0_1)]), (VI sink1_1)] h K := by
  refine c111 (Value.agg #[(Sl.v g0_1)]) (VI sink1_1) h K ?_
  unfold u111 at H
  unfold t111
  have hL : Vars h [] := .nil
  refine eop_box 32 (Value.agg #[(Sl.v g0_1)]) rfl hL (fun b_1 h_1 hb_1 hf_1 hL_1 => ?_)
  refine rop_locA agg32 hL_1 0 rfl 0 (vs := [(Sl.v g0_1)]) rfl rfl ?_
  have H := H b_1 h_1 (Nat.le_trans (Fr.size (Fr.r (In []) _)) hb_1) (Fr.no' (Fr.r (In []) _) hf_1) hL_1
  refine H.mono fun rv_1 h_2 H => ?_
  obtain ⟨t7_1, rfl, hL_2, H⟩ := H
  refine guardM_st (fun hb_2 => ?_) (fun hb_2 => ?_)
  · have H := H.1 hb_2
    refine rop_locA agg32 hL_2 0 rfl 0 (vs := [(Sl.v g0_1)]) rfl rfl ?_
    refine guardM_y' hb_2 ?_
    refine guardM_y' hb_2 ?_
    refine H.mono fun rv_2 h_3 H => ?_
    obtain ⟨t11_1, rfl, hL_3, H⟩ := H
    refine pop_pickt' hb_2 ?_
    exact H
  · have H := H.2 hb_2
    refine guardM_n' hb_2 (by decide) ?_
    refine guardM_n' hb_2 (by decide) ?_
    refine pop_pickf' hb_2 ?_
    exact H

/-! impl.in -/
def u113 (P : Program) (n0_1 : Int) (low1_1 : Int) (high2_1 : Int) (h : Heap) (K : Value → Heap → Prop) : Prop :=
  ((decide (low1_1 ≤ n0_1)) = true →
  K (VB (decide (n0_1 ≤ high2_1))) h) ∧
  ((decide (low1_1 ≤ n0_1)) = false →
  K (VB false) h)
theorem v113 (n0_1 : Int) (low1_1 : Int) (high2_1 : Int) (h : Heap) (K : Value → Heap → Prop) (H : u113 Try.prog n0_1 low1_1 high2_1 h K) : callM Try.prog 113 #[(VI n0_1), (VI low1_1), (VI high2_1)] h K := by
  refine c113 (VI n0_1) (VI low1_1) (VI high2_1) h K ?_
  unfold u113 at H
  unfold t113
  have hL : Vars h [] := .nil
  refine pop_leq .i64 low1_1 n0_1 ?_
  refine guardM_st (fun hb_1 => ?_) (fun hb_1 => ?_)
  · have H := H.1 hb_1
    refine guardM_y' hb_1 ?_
    refine guardM_y' hb_1 ?_
    refine pop_leq .i64 n0_1 high2_1 ?_
    refine pop_pickt' hb_1 ?_
    exact H
  · have H := H.2 hb_1
    refine guardM_n' hb_1 (by decide) ?_
    refine guardM_n' hb_1 (by decide) ?_
    refine pop_pickf' hb_1 ?_
    exact H

/-! spec.grPlace -/
def u116 (P : Program) (g0_1 : Sl) (p1_1 : Int) (h : Heap) (K : Value → Heap → Prop) : Prop :=
  ∀ (b_1 : Nat) (h_1 : Heap), h.size ≤ b_1 → Fr (In []) h h_1 → Vars h_1 [(b_1, [(Sl.v g0_1)])] →
  callM P 165 #[(Value.agg #[(Sl.v g0_1)])] h_1 fun rv_1 h_2 => ∃ t6_1 : Bool, rv_1 = (VB t6_1) ∧ Vars h_2 [(b_1, [(Sl.v g0_1)])] ∧
  (t6_1 = true →
  callM P 117 #[(VI p1_1), (VI 0), (VI (w64 ((g0_1.n : Int) - 1)))] h_2 fun rv_2 h_3 => ∃ t13_1 : Bool, rv_2 = (VB t13_1) ∧ Vars h_3 [(b_1, [(Sl.v g0_1)])] ∧
  K (VB t13_1) h_3) ∧
  (t6_1 = false →
  K (VB false) h_2)
theorem v116 (g0_1 : Sl) (p1_1 : Int) (h : Heap) (K : Value → Heap → Prop) (H : u116 Try.prog g0_1 p1_1 h K) : callM Try.prog 116 #[(Value.agg #[(Sl.v g0_1)]), (VI p1_1)] h K := by
  refine c116 (Value.agg #[(Sl.v g0_1)]) (VI p1_1) h K ?_
  unfold u116 at H
  unfold t116
  have hL : Vars h [] := .nil
  refine eop_box 32 (Value.agg #[(Sl.v g0_1)]) rfl hL (fun b_1 h_1 hb_1 hf_1 hL_1 => ?_)
  refine rop_locA agg32 hL_1 0 rfl 0 (vs := [(Sl.v g0_1)]) rfl rfl ?_
  have H := H b_1 h_1 (Nat.le_trans (Fr.size (Fr.r (In []) _)) hb_1) (Fr.no' (Fr.r (In []) _) hf_1) hL_1
  refine H.mono fun rv_1 h_2 H => ?_
  obtain ⟨t6_1, rfl, hL_2, H⟩ := H
  refine guardM_st (fun hb_2 => ?_) (fun hb_2 => ?_)
  · have H := H.1 hb_2
    refine guardM_y' hb_2 ?_
    refine pop_field 0 fld32_0 b_1 0 ?_
    refine guardM_y' hb_2 ?_
    refine rop_loc one22 hL_2 0 rfl 0 (v := (Sl.v g0_1)) rfl ?_
    refine guardM_y' hb_2 ?_
    refine pop_len g0_1 _ _ sli22 ?_
    refine guardM_y' hb_2 ?_
    refine pop_sub .i64 (g0_1.n : Int) 1 ?_
    refine guardM_y' hb_2 ?_
    refine H.mono fun rv_2 h_3 H => ?_
    obtain ⟨t13_1, rfl, hL_3, H⟩ := H
    refine pop_pickt' hb_2 ?_
    exact H
  · have H := H.2 hb_2
    refine guardM_n' hb_2 (by decide) ?_
    refine guardM_n' hb_2 (by decide) ?_
    refine guardM_n' hb_2 (by decide) ?_
    refine guardM_n' hb_2 (by decide) ?_
    refine guardM_n' hb_2 (by decide) ?_
    refine pop_pickf' hb_2 ?_
    exact H

/-! spec.l1In -/
def u117 (P : Program) (n0_1 : Int) (lo1_1 : Int) (hi2_1 : Int) (h : Heap) (K : Value → Heap → Prop) : Prop :=
  ((decide (lo1_1 ≤ n0_1)) = true →
  K (VB (decide (n0_1 ≤ hi2_1))) h) ∧
  ((decide (lo1_1 ≤ n0_1)) = false →
  K (VB false) h)
theorem v117 (n0_1 : Int) (lo1_1 : Int) (hi2_1 : Int) (h : Heap) (K : Value → Heap → Prop) (H : u117 Try.prog n0_1 lo1_1 hi2_1 h K) : callM Try.prog 117 #[(VI n0_1), (VI lo1_1), (VI hi2_1)] h K := by
  refine c117 (VI n0_1) (VI lo1_1) (VI hi2_1) h K ?_
  unfold u117 at H
  unfold t117
  have hL : Vars h [] := .nil
  refine pop_geq .i64 n0_1 lo1_1 ?_
  refine guardM_st (fun hb_1 => ?_) (fun hb_1 => ?_)
  · have H := H.1 hb_1
    refine guardM_y' hb_1 ?_
    refine guardM_y' hb_1 ?_
    refine pop_leq .i64 n0_1 hi2_1 ?_
    refine pop_pickt' hb_1 ?_
    exact H
  · have H := H.2 hb_1
    refine guardM_n' hb_1 (by decide) ?_
    refine guardM_n' hb_1 (by decide) ?_
    refine pop_pickf' hb_1 ?_
    exact H

/-! spec.l1Own -/
def u130 (P : Program) (l0_1 : Sl) (h : Heap) (K : Value → Heap → Prop) : Prop :=
  eop P (Instr.buildSlice 25 0 #[]) h fun rv_1 h_1 => ∃ t3_1 : Sl, rv_1 = (Sl.v t3_1) ∧ Vars h_1 [] ∧
  eop P (appS 25 25 25 (Sl.v t3_1) (Sl.v l0_1)) h_1 fun rv_2 h_2 => ∃ t5_1 : Sl, rv_2 = (Sl.v t5_1) ∧ Vars h_2 [] ∧
  K (Sl.v t5_1) h_2
theorem v130 (l0_1 : Sl) (h : Heap) (K : Value → Heap → Prop) (H : u130 Try.prog l0_1 h K) : callM Try.prog 130 #[(Sl.v l0_1)] h K := by
  refine c130 (Sl.v l0_1) h K ?_
  unfold u130 at H
  unfold t130
  have hL : Vars h [] := .nil
  refine H.mono fun rv_1 h_1 H => ?_
  obtain ⟨t3_1, rfl, hL_1, H⟩ := H
  refine H.mono fun rv_2 h_2 H => ?_
  obtain ⟨t5_1, rfl, hL_2, H⟩ := H
  exact H

/-! spec.waGood -/
def u138 (P : Program) (g0_1 : Sl) (w1_1 : Sl) (w1_2 : Int) (h : Heap) (K : Value → Heap → Prop) : Prop :=
  ∀ (b_1 : Nat) (b_2 : Nat) (h_2 : Heap), h.size ≤ b_1 → h.size ≤ b_2 → Fr (In []) h h_2 → Vars h_2 [(b_2, [(Sl.v w1_1), (VI w1_2)]), (b_1, [(Sl.v g0_1)])] →
  callM P 116 #[(Value.agg #[(Sl.v g0_1)]), (VI w1_2)] h_2 fun rv_1 h_3 => ∃ t10_1 : Bool, rv_1 = (VB t10_1) ∧ Vars h_3 [(b_2, [(Sl.v w1_1), (VI w1_2)]), (b_1, [(Sl.v g0_1)])] ∧
  ((!t10_1) = true →
  K (VB false) h_3) ∧
  ((!t10_1) = false →
  ((!decide ((w1_1.n : Int) = (g0_1.n : Int))) = true →
  K (VB false) h_3) ∧
  ((!decide ((w1_1.n : Int) = (g0_1.n : Int))) = false →
  ∃ J_1 : Nat → Int → Heap → Prop, (∃ n0 : Nat, J_1 n0 0 h_3) ∧
  ∀ (n_1 : Nat) (t24_1 : Int) (h_4 : Heap), J_1 n_1 t24_1 h_4 → Vars h_4 [(b_2, [(Sl.v w1_1), (VI w1_2)]), (b_1, [(Sl.v g0_1)])] →
  ((decide (t24_1 < (g0_1.n : Int))) = true →
  InB g0_1 t24_1 ∧
  ∃ t28_1 : Sl, hcell h_4 (Sl.at g0_1 t24_1 1) = some (Sl.v t28_1) ∧
  InB w1_1 t24_1 ∧
  ∃ t33_1 : Int, hcell h_4 (Sl.at w1_1 t24_1 1) = some (VI t33_1) ∧
  callM P 173 #[(VI 0), (VI (w64 ((t28_1.n : Int) - 1)))] h_4 fun rv_2 h_5 => ∃ t37_1 : Int, rv_2 = (VI t37_1) ∧ Vars h_5 [(b_2, [(Sl.v w1_1), (VI w1_2)]), (b_1, [(Sl.v g0_1)])] ∧
  hcell h_5 (Sl.at w1_1 t24_1 1) = some (VI t33_1) ∧
  callM P 117 #[(VI t33_1), (VI 0), (VI t37_1)] h_5 fun rv_3 h_6 => ∃ t38_1 : Bool, rv_3 = (VB t38_1) ∧ Vars h_6 [(b_2, [(Sl.v w1_1), (VI w1_2)]), (b_1, [(Sl.v g0_1)])] ∧
  ((!t38_1) = true →
  K (VB false) h_6) ∧
  ((!t38_1) = false →
  ∃ m : Nat, m < n_1 ∧ J_1 m (w64 (t24_1 + 1)) h_6)) ∧
  ((decide (t24_1 < (g0_1.n : Int))) = false →
  K (VB true) h_4)))
theorem v138 (g0_1 : Sl) (w1_1 : Sl) (w1_2 : Int) (h : Heap) (K : Value → Heap → Prop) (H : u138 Try.prog g0_1 w1_1 w1_2 h K) : callM Try.prog 138 #[(Value.agg #[(Sl.v g0_1)]), (Value.agg #[(Sl.v w1_1), (VI w1_2)])] h K := by
  refine c138 (Value.agg #[(Sl.v g0_1)]) (Value.agg #[(Sl.v w1_1), (VI w1_2)]) h K ?_
  unfold u138 at H
  unfold t138
  have hL : Vars h [] := .nil
  refine eop_box 32 (Value.agg #[(Sl.v g0_1)]) rfl hL (fun b_1 h_1 hb_1 hf_1 hL_1 => ?_)
  refine eop_box 132 (Value.agg #[(Sl.v w1_1), (VI w1_2)]) rfl hL_1 (fun b_2 h_2 hb_2 hf_2 hL_2 => ?_)
  refine rop_locA agg32 hL_2 1 rfl 0 (vs := [(Sl.v g0_1)]) rfl rfl ?_
  refine pop_field 1 fld132_1 b_2 0 ?_
  refine rop_loc one3 hL_2 0 rfl 1 (v := (VI w1_2)) rfl ?_
  have H := H b_1 b_2 h_2 (Nat.le_trans (Fr.size (Fr.r (In []) _)) hb_1) (Nat.le_trans (Fr.size (Fr.no' (Fr.r (In []) _) hf_1)) hb_2) (Fr.no' (Fr.no' (Fr.r (In []) _) hf_1) hf_2) hL_2
  refine H.mono fun rv_1 h_3 H => ?_
  obtain ⟨t10_1, rfl, hL_3, H⟩ := H
  refine pop_not t10_1 ?_
  refine guardM_sf (fun hb_3 => ?_) (fun hb_3 => ?_)
  · have H := H.2 hb_3
    refine pop_field 0 fld132_0 b_2 0 ?_
    refine guardM_y' hb_3 ?_
    refine rop_loc one25 hL_3 0 rfl 0 (v := (Sl.v w1_1)) rfl ?_
    refine guardM_y' hb_3 ?_
    refine pop_len w1_1 _ _ sli25 ?_
    refine guardM_y' hb_3 ?_
    refine pop_field 0 fld32_0 b_1 0 ?_
    refine guardM_y' hb_3 ?_
    refine rop_loc one22 hL_3 1 rfl 0 (v := (Sl.v g0_1)) rfl ?_
    refine guardM_y' hb_3 ?_
    refine pop_len g0_1 _ _ sli22 ?_
    refine guardM_y' hb_3 ?_
    refine pop_ine .i64 _ _ (w1_1.n : Int) (g0_1.n : Int) ?_
    refine pop_pickf' hb_3 ?_
    refine condM_b (fun hb_4 => ?_) (fun hb_4 => ?_)
    · have H := H.1 hb_4
      exact H
    · have H := H.2 hb_4
      refine pop_field 0 fld32_0 b_1 0 ?_
      refine rop_loc one22 hL_3 1 rfl 0 (v := (Sl.v g0_1)) rfl ?_
      refine pop_len g0_1 _ _ sli22 ?_
      obtain ⟨J_1, ⟨n_2, h0_1⟩, HB_1⟩ := H
      refine loop_intro (J := fun (n : Nat) (vs : List Value) (h' : Heap) => ∃ t24_1 : Int, vs = [(VI t24_1)] ∧ J_1 n t24_1 h' ∧ Vars h' [(b_2, [(Sl.v w1_1), (VI w1_2)]), (b_1, [(Sl.v g0_1)])]) n_2 ⟨0, rfl, h0_1, hL_3⟩ ?_
      intro I_1 mu_1 hI_1 junk_1 tv_1 h_4 hi_1
      obtain ⟨n_1, ⟨t24_1, hv, hJ_1, hL_4⟩, hn_1⟩ := hI_1 _ _ hi_1
      cases hv
      have H := HB_1 n_1 t24_1 h_4 hJ_1 hL_4
      refine pop_lss .i64 t24_1 (g0_1.n : Int) ?_
      refine condM_b (fun hb_5 => ?_) (fun hb_5 => ?_)
      · have H := H.1 hb_5
        obtain ⟨hi_2, H⟩ := H
        refine pop_index sli22 siz25 .i64 g0_1 t24_1 hi_2 ?_
        obtain ⟨t28_1, hc_3, H⟩ := H
        refine rop_one one25 (Sl.v t28_1) hc_3 ?_
        refine pop_field 0 fld132_0 b_2 0 ?_
        refine rop_loc one25 hL_4 0 rfl 0 (v := (Sl.v w1_1)) rfl ?_
        obtain ⟨hi_3, H⟩ := H
        refine pop_index sli25 siz3 .i64 w1_1 t24_1 hi_3 ?_
        obtain ⟨t33_1, hc_2, H⟩ := H
        refine rop_one one3 (VI t33_1) hc_2 ?_
        refine pop_len t28_1 _ _ sli25 ?_
        refine pop_sub .i64 (t28_1.n : Int) 1 ?_
        refine H.mono fun rv_2 h_5 H => ?_
        obtain ⟨t37_1, rfl, hL_5, H⟩ := H
        refine ⟨?_, ?_⟩
        · exact still_one one3 H.1
        obtain ⟨hc_1, H⟩ := H
        refine ⟨?_, ?_⟩
        · exact still_loc one25 hL_5 0 rfl 0 (v := (Sl.v w1_1)) rfl
        refine H.mono fun rv_3 h_6 H => ?_
        obtain ⟨t38_1, rfl, hL_6, H⟩ := H
        refine ⟨?_, ?_⟩
        · exact still_loc one25 hL_6 0 rfl 0 (v := (Sl.v w1_1)) rfl
        refine pop_not t38_1 ?_
        refine condM_b (fun hb_6 => ?_) (fun hb_6 => ?_)
        · have H := H.1 hb_6
          exact H
        · have H := H.2 hb_6
          refine pop_add .i64 t24_1 1 ?_
          obtain ⟨m_1, hm_1, H⟩ := H
          exact hn_1 _ _ ⟨m_1, hm_1, (w64 (t24_1 + 1)), rfl, H, hL_6⟩
      · have H := H.2 hb_5
        exact H
  · have H := H.1 hb_3
    refine guardM_n' hb_3 (by decide) ?_
    refine guardM_n' hb_3 (by decide) ?_
    refine guardM_n' hb_3 (by decide) ?_
    refine guardM_n' hb_3 (by decide) ?_
    refine guardM_n' hb_3 (by decide) ?_
    refine guardM_n' hb_3 (by decide) ?_
    refine pop_pickt' hb_3 ?_
    refine condM_t ?_
    exact H

/-! spec.chSum -/
def u139 (P : Program) (list0_1 : Sl) (h : Heap) (K : Value → Heap → Prop) : Prop :=
  ∃ J_1 : Nat → Int → Int → Heap → Prop, (∃ n0 : Nat, J_1 n0 0 0 h) ∧
  ∀ (n_1 : Nat) (sum3_1 : Int) (t8_1 : Int) (h_1 : Heap), J_1 n_1 sum3_1 t8_1 h_1 → Vars h_1 [] →
  ((decide (t8_1 < (list0_1.n : Int))) = true →
  InB list0_1 t8_1 ∧
  ∃ t11_1 : Int, hcell h_1 (Sl.at list0_1 t8_1 1) = some (VI t11_1) ∧
  ∃ m : Nat, m < n_1 ∧ J_1 m (w64 (sum3_1 + t11_1)) (w64 (t8_1 + 1)) h_1) ∧
  ((decide (t8_1 < (list0_1.n : Int))) = false →
  K (VI sum3_1) h_1)
theorem v139 (list0_1 : Sl) (h : Heap) (K : Value → Heap → Prop) (H : u139 Try.prog list0_1 h K) : callM Try.prog 139 #[(Sl.v list0_1)] h K := by
  refine c139 (Sl.v list0_1) h K ?_
  unfold u139 at H
  unfold t139
  have hL : Vars h [] := .nil
  refine pop_len list0_1 _ _ sli25 ?_
  obtain ⟨J_1, ⟨n_2, h0_1⟩, HB_1⟩ := H
  refine loop_intro (J := fun (n : Nat) (vs : List Value) (h' : Heap) => ∃ sum3_1 : Int, ∃ t8_1 : Int, vs = [(VI sum3_1), (VI t8_1)] ∧ J_1 n sum3_1 t8_1 h' ∧ Vars h' []) n_2 ⟨0, 0, rfl, h0_1, hL⟩ ?_
  intro I_1 mu_1 hI_1 junk_1 tv_1 tv_2 h_1 hi_1
  obtain ⟨n_1, ⟨sum3_1, t8_1, hv, hJ_1, hL_1⟩, hn_1⟩ := hI_1 _ _ hi_1
  cases hv
  have H := HB_1 n_1 sum3_1 t8_1 h_1 hJ_1 hL_1
  refine pop_lss .i64 t8_1 (list0_1.n : Int) ?_
  refine condM_b (fun hb_1 => ?_) (fun hb_1 => ?_)
  · have H := H.1 hb_1
    obtain ⟨hi_2, H⟩ := H
    refine pop_index sli25 siz3 .i64 list0_1 t8_1 hi_2 ?_
    obtain ⟨t11_1, hc_1, H⟩ := H
    refine rop_one one3 (VI t11_1) hc_1 ?_
    refine pop_add .i64 sum3_1 t11_1 ?_
    refine pop_add .i64 t8_1 1 ?_
    obtain ⟨m_1, hm_1, H⟩ := H
    exact hn_1 _ _ ⟨m_1, hm_1, (w64 (sum3_1 + t11_1)), (w64 (t8_1 + 1)), rfl, H, hL_1⟩
  · have H := H.2 hb_1
    exact H

/-! impl.areRotors -/
def u140 (P : Program) (g0_1 : Sl) (rotors1_1 : Sl) (h : Heap) (K : Value → Heap → Prop) : Prop :=
  ∀ (b_1 : Nat) (h_1 : Heap), h.size ≤ b_1 → Fr (In []) h h_1 → Vars h_1 [(b_1, [(Sl.v g0_1)])] →
  callM P 174 #[(Value.agg #[(Sl.v g0_1)]), (Value.agg #[(Sl.v rotors1_1), (VI 0)])] h_1 fun rv_1 h_2 => ∃ t8_1 : Bool, rv_1 = (VB t8_1) ∧ Vars h_2 [(b_1, [(Sl.v g0_1)])] ∧
  K (VB t8_1) h_2
theorem v140 (g0_1 : Sl) (rotors1_1 : Sl) (h : Heap) (K : Value → Heap → Prop) (H : u140 Try.prog g0_1 rotors1_1 h K) : callM Try.prog 140 #[(Value.agg #[(Sl.v g0_1)]), (Sl.v rotors1_1)] h K := by
  refine c140 (Value.agg #[(Sl.v g0_1)]) (Sl.v rotors1_1) h K ?_
  unfold u140 at H
  unfold t140
  have hL : Vars h [] := .nil
  refine eop_box 32 (Value.agg #[(Sl.v g0_1)]) rfl hL (fun b_1 h_1 hb_1 hf_1 hL_1 => ?_)
  refine rop_locA agg32 hL_1 0 rfl 0 (vs := [(Sl.v g0_1)]) rfl rfl ?_
  refine pop.mk' (v := (Value.agg #[(Sl.v rotors1_1), (VI 0)])) (fun w => by kernel_rfl) ?_
  have H := H b_1 h_1 (Nat.le_trans (Fr.size (Fr.r (In []) _)) hb_1) (Fr.no' (Fr.r (In []) _) hf_1) hL_1
  refine H.mono fun rv_1 h_2 H => ?_
  obtain ⟨t8_1, rfl, hL_2, H⟩ := H
  exact H

/-! impl.areChips -/
def u141 (P : Program) (g0_1 : Sl) (chips1_1 : Sl) (h : Heap) (K : Value → Heap → Prop) : Prop :=
  ((decide ((chips1_1.n : Int) = (g0_1.n : Int))) = true →
  ∀ (b_1 : Nat) (h_1 : Heap), h.size ≤ b_1 → Fr (In []) h h_1 → Vars h_1 [(b_1, [(Sl.v g0_1)])] →
  callM P 102 #[(Sl.v chips1_1), (Value.func (.func 175) #[] #[])] h_1 fun rv_1 h_2 => ∃ t13_1 : Bool, rv_1 = (VB t13_1) ∧ Vars h_2 [(b_1, [(Sl.v g0_1)])] ∧
  K (VB (!t13_1)) h_2) ∧
  ((decide ((chips1_1.n : Int) = (g0_1.n : Int))) = false →
  ∀ (b_1 : Nat) (h_1 : Heap), h.size ≤ b_1 → Fr (In []) h h_1 → Vars h_1 [(b_1, [(Sl.v g0_1)])] →
  K (VB false) h_1)
theorem v141 (g0_1 : Sl) (chips1_1 : Sl) (h : Heap) (K : Value → Heap → Prop) (H : u141 Try.prog g0_1 chips1_1 h K) : callM Try.prog 141 #[(Value.agg #[(Sl.v g0_1)]), (Sl.v chips1_1)] h K := by
  refine c141 (Value.agg #[(Sl.v g0_1)]) (Sl.v chips1_1) h K ?_
  unfold u141 at H
  unfold t141
  have hL : Vars h [] := .nil
  refine eop_box 32 (Value.agg #[(Sl.v g0_1)]) rfl hL (fun b_1 h_1 hb_1 hf_1 hL_1 => ?_)
  refine pop_len chips1_1 _ _ sli25 ?_
  refine pop_field 0 fld32_0 b_1 0 ?_
  refine rop_loc one22 hL_1 0 rfl 0 (v := (Sl.v g0_1)) rfl ?_
  refine pop_len g0_1 _ _ sli22 ?_
  refine pop_ieq .i64 _ _ (chips1_1.n : Int) (g0_1.n : Int) ?_
  refine guardM_st (fun hb_2 => ?_) (fun hb_2 => ?_)
  · have H := H.1 hb_2
    refine guardM_y' hb_2 ?_
    have H := H b_1 h_1 (Nat.le_trans (Fr.size (Fr.r (In []) _)) hb_1) (Fr.no' (Fr.r (In []) _) hf_1) hL_1
    refine H.mono fun rv_1 h_2 H => ?_
    obtain ⟨t13_1, rfl, hL_2, H⟩ := H
    refine guardM_y' hb_2 ?_
    refine pop_not t13_1 ?_
    refine pop_pickt' hb_2 ?_
    exact H
  · have H := H.2 hb_2
    refine guardM_n' hb_2 (by decide) ?_
    refine guardM_n' hb_2 (by decide) ?_
    refine pop_pickf' hb_2 ?_
    have H := H b_1 h_1 (Nat.le_trans (Fr.size (Fr.r (In []) _)) hb_1) (Fr.no' (Fr.r (In []) _) hf_1) hL_1
    exact H

/-! slices.Clone[[]int,int] -/
def u142 (P : Program) (s0_1 : Sl) (h : Heap) (K : Value → Heap → Prop) : Prop :=
  pop P (binE .eql 25 (.tmp 3) (.const (Value.slice none 0 0)) (Sl.v s0_1) (Value.slice none 0 0)) fun rv_1 => ∃ t4_1 : Bool, rv_1 = (VB t4_1) ∧ 
  (t4_1 = true →
  K (Sl.v nilSl) h) ∧
  (t4_1 = false →
  eop P (Instr.buildSlice 25 0 #[]) h fun rv_2 h_1 => ∃ t5_1 : Sl, rv_2 = (Sl.v t5_1) ∧ Vars h_1 [] ∧
  eop P (appS 25 25 25 (Sl.v t5_1) (Sl.v s0_1)) h_1 fun rv_3 h_2 => ∃ t7_1 : Sl, rv_3 = (Sl.v t7_1) ∧ Vars h_2 [] ∧
  K (Sl.v t7_1) h_2)
theorem v142 (s0_1 : Sl) (h : Heap) (K : Value → Heap → Prop) (H : u142 Try.prog s0_1 h K) : callM Try.prog 142 #[(Sl.v s0_1)] h K := by
  refine c142 (Sl.v s0_1) h K ?_
  unfold u142 at H
  unfold t142
  have hL : Vars h [] := .nil
  refine H.mono fun rv_1 H => ?_
  obtain ⟨t4_1, rfl, H⟩ := H
  refine condM_b (fun hb_1 => ?_) (fun hb_1 => ?_)
  · have H := H.1 hb_1
    exact H
  · have H := H.2 hb_1
    refine H.mono fun rv_2 h_1 H => ?_
    obtain ⟨t5_1, rfl, hL_1, H⟩ := H
    refine H.mono fun rv_3 h_2 H => ?_
    obtain ⟨t7_1, rfl, hL_2, H⟩ := H
    exact H

/-! (*impl.Load).send -/
def u143 (P : Program) (b_1 : Nat) (l0_1 : Sl) (l0_2 : Sl) (g1_1 : Sl) (p2_1 : Int) (h : Heap) (K : Value → Heap → Prop) : Prop :=
  ∀ (b_2 : Nat) (b_3 : Nat) (h_3 : Heap), h.size ≤ b_2 → h.size ≤ b_3 → Fr (In []) h h_3 → Vars h_3 [(b_3, [(Sl.v l0_1), (VI p2_1)]), (b_2, [(Sl.v g1_1)]), (b_1, [(Sl.v l0_1), (Sl.v l0_2)])] →
  callM P 176 #[(Value.agg #[(Sl.v g1_1)]), (VP b_3 0)] h_3 fun rv_1 h_4 => ∃ x_1 : Sl, ∃ x_2 : Int, ∃ t14_1 : Bool, rv_1 = (VB t14_1) ∧ Vars h_4 [(b_3, [(Sl.v x_1), (VI x_2)]), (b_2, [(Sl.v g1_1)]), (b_1, [(Sl.v l0_1), (Sl.v l0_2)])] ∧
  InB l0_2 p2_1 ∧
  ∃ t21_1 : Int, hcell h_4 (Sl.at l0_2 p2_1 1) = some (VI t21_1) ∧
  InB l0_2 p2_1 ∧
  Writable h_4 (Sl.at l0_2 p2_1 1) ∧ Vars (hset h_4 (Sl.at l0_2 p2_1 1) (VI (w64 (t21_1 - 1)))) [(b_3, [(Sl.v x_1), (VI x_2)]), (b_2, [(Sl.v g1_1)]), (b_1, [(Sl.v l0_1), (Sl.v l0_2)])] ∧
  ∀ h_5 : Heap, h_5 = hset h_4 (Sl.at l0_2 p2_1 1) (VI (w64 (t21_1 - 1))) → Vars h_5 [(b_3, [(Sl.v x_1), (VI x_2)]), (b_2, [(Sl.v g1_1)]), (b_1, [(Sl.v l0_1), (Sl.v l0_2)])] →
  InB l0_2 x_2 ∧
  ∃ t31_1 : Int, hcell h_5 (Sl.at l0_2 x_2 1) = some (VI t31_1) ∧
  InB l0_2 x_2 ∧
  Writable h_5 (Sl.at l0_2 x_2 1) ∧ Vars (hset h_5 (Sl.at l0_2 x_2 1) (VI (w64 (t31_1 + 1)))) [(b_3, [(Sl.v x_1), (VI x_2)]), (b_2, [(Sl.v g1_1)]), (b_1, [(Sl.v l0_1), (Sl.v l0_2)])] ∧
  ∀ h_6 : Heap, h_6 = hset h_5 (Sl.at l0_2 x_2 1) (VI (w64 (t31_1 + 1))) → Vars h_6 [(b_3, [(Sl.v x_1), (VI x_2)]), (b_2, [(Sl.v g1_1)]), (b_1, [(Sl.v l0_1), (Sl.v l0_2)])] →
  K (Value.tuple #[]) h_6
theorem v143 (b_1 : Nat) (l0_1 : Sl) (l0_2 : Sl) (g1_1 : Sl) (p2_1 : Int) (h : Heap) (K : Value → Heap → Prop) (hL : Vars h [(b_1, [(Sl.v l0_1), (Sl.v l0_2)])]) (H : u143 Try.prog b_1 l0_1 l0_2 g1_1 p2_1 h K) : callM Try.prog 143 #[(VP b_1 0), (Value.agg #[(Sl.v g1_1)]), (VI p2_1)] h K := by
  refine c143 (VP b_1 0) (Value.agg #[(Sl.v g1_1)]) (VI p2_1) h K ?_
  unfold u143 at H
  unfold t143
  refine eop_box 32 (Value.agg #[(Sl.v g1_1)]) rfl hL (fun b_2 h_1 hb_1 hf_1 hL_1 => ?_)
  refine pop_nil _ ?_
  refine pop_field 0 fld34_0 b_1 0 ?_
  refine rop_loc one25 hL_1 1 rfl 0 (v := (Sl.v l0_1)) rfl ?_
  refine pop.mk' (v := (Value.agg #[(Sl.v l0_1), (VI p2_1)])) (fun w => by kernel_rfl) ?_
  refine eop_alloc 132 zer132 rfl hL_1 (fun b_3 h_2 hb_2 hf_2 hL_2 => ?_)
  refine uop_loc siz132 hL_2 0 rfl 0 [(Sl.v l0_1), (VI p2_1)] rfl rfl rfl (Nat.le_of_ble_eq_true rfl) (L' := [(b_3, [(Sl.v l0_1), (VI p2_1)]), (b_2, [(Sl.v g1_1)]), (b_1, [(Sl.v l0_1), (Sl.v l0_2)])]) rfl (fun h_3 hf_3 hL_3 => ?_)
  refine rop_locA agg32 hL_3 1 rfl 0 (vs := [(Sl.v g1_1)]) rfl rfl ?_
  have H := H b_2 b_3 h_3 (Nat.le_trans (Fr.size (Fr.r (In []) _)) hb_1) (Nat.le_trans (Fr.size (Fr.no' (Fr.r (In []) _) hf_1)) hb_2) (Fr.new (Fr.no' (Fr.no' (Fr.r (In []) _) hf_1) hf_2) (Nat.le_trans (Fr.size (Fr.no' (Fr.r (In []) _) hf_1)) hb_2) hf_3) hL_3
  refine H.mono fun rv_1 h_4 H => ?_
  obtain ⟨x_1, x_2, t14_1, rfl, hL_4, H⟩ := H
  refine pop_nil _ ?_
  refine pop_field 1 fld34_1 b_1 0 ?_
  refine rop_loc one25 hL_4 2 rfl 1 (v := (Sl.v l0_2)) rfl ?_
  obtain ⟨hi_1, H⟩ := H
  refine pop_index sli25 siz3 .i64 l0_2 p2_1 hi_1 ?_
  obtain ⟨t21_1, hc_2, H⟩ := H
  refine rop_one one3 (VI t21_1) hc_2 ?_
  refine pop_sub .i64 t21_1 1 ?_
  obtain ⟨hi_2, H⟩ := H
  refine pop_index sli25 siz3 .i64 l0_2 p2_1 hi_2 ?_
  obtain ⟨hw_1, hL_5, H⟩ := H
  refine uop_cell (v := (VI (w64 (t21_1 - 1)))) siz3 hw_1 rfl (fun h_5 he_1 => ?_)
  rw [← he_1] at hL_5
  have H := H h_5 he_1 hL_5
  refine pop_nil _ ?_
  refine pop_field 1 fld34_1 b_1 0 ?_
  refine rop_loc one25 hL_5 2 rfl 1 (v := (Sl.v l0_2)) rfl ?_
  refine pop_field 1 fld132_1 b_3 0 ?_
  refine rop_loc one3 hL_5 0 rfl 1 (v := (VI x_2)) rfl ?_
  obtain ⟨hi_3, H⟩ := H
  refine pop_index sli25 siz3 .i64 l0_2 x_2 hi_3 ?_
  obtain ⟨t31_1, hc_1, H⟩ := H
  refine rop_one one3 (VI t31_1) hc_1 ?_
  refine pop_add .i64 t31_1 1 ?_
  obtain ⟨hi_4, H⟩ := H
  refine pop_index sli25 siz3 .i64 l0_2 x_2 hi_4 ?_
  obtain ⟨hw_2, hL_6, H⟩ := H
  refine uop_cell (v := (VI (w64 (t31_1 + 1)))) siz3 hw_2 rfl (fun h_6 he_2 => ?_)
  rw [← he_2] at hL_6
  have H := H h_6 he_2 hL_6
  exact H

/-! impl.isGraph$1 -/
def u150 (P : Program) (q0_1 : Int) (b_1 : Nat) (t1_1 : Int) (h : Heap) (K : Value → Heap → Prop) : Prop :=
  callM P 113 #[(VI q0_1), (VI 0), (VI (w64 (t1_1 - 1)))] h fun rv_1 h_1 => ∃ t7_1 : Bool, rv_1 = (VB t7_1) ∧ Vars h_1 [(b_1, [(VI t1_1)])] ∧
  K (VB (!t7_1)) h_1
theorem v150 (q0_1 : Int) (b_1 : Nat) (t1_1 : Int) (h : Heap) (K : Value → Heap → Prop) (hL : Vars h [(b_1, [(VI t1_1)])]) (H : u150 Try.prog q0_1 b_1 t1_1 h K) : callM Try.prog 150 #[(VI q0_1), (VP b_1 0)] h K := by
  refine c150 (VI q0_1) (VP b_1 0) h K ?_
  unfold u150 at H
  unfold t150
  refine rop_loc one3 hL 0 rfl 0 (v := (VI t1_1)) rfl ?_
  refine pop_sub .i64 t1_1 1 ?_
  refine H.mono fun rv_1 h_1 H => ?_
  obtain ⟨t7_1, rfl, hL_1, H⟩ := H
  refine pop_not t7_1 ?_
  exact H

/-! slices.IndexFunc[[]int,int] -/
def u159 (P : Program) (s0_1 : Sl) (f1_1 : Value) (h : Heap) (K : Value → Heap → Prop) : Prop :=
  ∃ J_1 : Nat → Int → Heap → Prop, (∃ n0 : Nat, J_1 n0 0 h) ∧
  ∀ (n_1 : Nat) (t8_1 : Int) (h_1 : Heap), J_1 n_1 t8_1 h_1 → Vars h_1 [] →
  ((decide (t8_1 < (s0_1.n : Int))) = true →
  InB s0_1 t8_1 ∧
  ∃ t15_1 : Int, hcell h_1 (Sl.at s0_1 t8_1 1) = some (VI t15_1) ∧
  callV P f1_1 [(VI t15_1)] h_1 fun rv_1 h_2 => ∃ t16_1 : Bool, rv_1 = (VB t16_1) ∧ Vars h_2 [] ∧
  (t16_1 = true →
  K (VI t8_1) h_2) ∧
  (t16_1 = false →
  ∃ m : Nat, m < n_1 ∧ J_1 m (w64 (t8_1 + 1)) h_2)) ∧
  ((decide (t8_1 < (s0_1.n : Int))) = false →
  K (VI (-1)) h_1)
theorem v159 (s0_1 : Sl) (f1_1 : Value) (h : Heap) (K : Value → Heap → Prop) (H : u159 Try.prog s0_1 f1_1 h K) : callM Try.prog 159 #[(Sl.v s0_1), f1_1] h K := by
  refine c159 (Sl.v s0_1) f1_1 h K ?_
  unfold u159 at H
  unfold t159
  have hL : Vars h [] := .nil
  refine pop_len s0_1 _ _ sli25 ?_
  obtain ⟨J_1, ⟨n_2, h0_1⟩, HB_1⟩ := H
  refine loop_intro (J := fun (n : Nat) (vs : List Value) (h' : Heap) => ∃ t8_1 : Int, vs = [(VI t8_1)] ∧ J_1 n t8_1 h' ∧ Vars h' []) n_2 ⟨0, rfl, h0_1, hL⟩ ?_
  intro I_1 mu_1 hI_1 junk_1 tv_1 h_1 hi_1
  obtain ⟨n_1, ⟨t8_1, hv, hJ_1, hL_1⟩, hn_1⟩ := hI_1 _ _ hi_1
  cases hv
  have H := HB_1 n_1 t8_1 h_1 hJ_1 hL_1
  refine pop_lss .i64 t8_1 (s0_1.n : Int) ?_
  refine condM_b (fun hb_1 => ?_) (fun hb_1 => ?_)
  · have H := H.1 hb_1
    obtain ⟨hi_2, H⟩ := H
    refine pop_index sli25 siz3 .i64 s0_1 t8_1 hi_2 ?_
    obtain ⟨t15_1, hc_1, H⟩ := H
    refine rop_one one3 (VI t15_1) hc_1 ?_
    refine H.mono fun rv_1 h_2 H => ?_
    obtain ⟨t16_1, rfl, hL_2, H⟩ := H
    refine condM_b (fun hb_2 => ?_) (fun hb_2 => ?_)
    · have H := H.1 hb_2
      exact H
    · have H := H.2 hb_2
      refine pop_add .i64 t8_1 1 ?_
      obtain ⟨m_1, hm_1, H⟩ := H
      exact hn_1 _ _ ⟨m_1, hm_1, (w64 (t8_1 + 1)), rfl, H, hL_2⟩
  · have H := H.2 hb_1
    exact H

/-! (impl.Graph).leadsTo -/
def u160 (P : Program) (g0_1 : Sl) (p1_1 : Int) (h : Heap) (K : Value → Heap → Prop) : Prop :=
  ∀ (b_1 : Nat) (h_1 : Heap), h.size ≤ b_1 → Fr (In []) h h_1 → Vars h_1 [(b_1, [(Sl.v g0_1)])] →
  ∃ J_1 : Nat → Int → Heap → Prop, (∃ n0 : Nat, J_1 n0 0 h_1) ∧
  ∀ (n_1 : Nat) (t9_1 : Int) (h_2 : Heap), J_1 n_1 t9_1 h_2 → Vars h_2 [(b_1, [(Sl.v g0_1)])] →
  ((decide (t9_1 < (g0_1.n : Int))) = true →
  callM P 187 #[(Value.agg #[(Sl.v g0_1)]), (VI t9_1)] h_2 fun rv_1 h_3 => ∃ t14_1 : Sl, rv_1 = (Sl.v t14_1) ∧ Vars h_3 [(b_1, [(Sl.v g0_1)])] ∧
  InB t14_1 p1_1 ∧
  ∃ t17_1 : Int, hcell h_3 (Sl.at t14_1 p1_1 1) = some (VI t17_1) ∧
  ((decide (t17_1 < 0)) = true →
  K (VB false) h_3) ∧
  ((decide (t17_1 < 0)) = false →
  ∃ m : Nat, m < n_1 ∧ J_1 m (w64 (t9_1 + 1)) h_3)) ∧
  ((decide (t9_1 < (g0_1.n : Int))) = false →
  K (VB true) h_2)
theorem v160 (g0_1 : Sl) (p1_1 : Int) (h : Heap) (K : Value → Heap → Prop) (H : u160 Try.prog g0_1 p1_1 h K) : callM Try.prog 160 #[(Value.agg #[(Sl.v g0_1)]), (VI p1_1)] h K := by
  refine c160 (Value.agg #[(Sl.v g0_1)]) (VI p1_1) h K ?_
  unfold u160 at H
  unfold t160
  have hL : Vars h [] := .nil
  refine eop_box 32 (Value.agg #[(Sl.v g0_1)]) rfl hL (fun b_1 h_1 hb_1 hf_1 hL_1 => ?_)
  refine pop_field 0 fld32_0 b_1 0 ?_
  refine rop_loc one22 hL_1 0 rfl 0 (v := (Sl.v g0_1)) rfl ?_
  refine pop_len g0_1 _ _ sli22 ?_
  have H := H b_1 h_1 (Nat.le_trans (Fr.size (Fr.r (In []) _)) hb_1) (Fr.no' (Fr.r (In []) _) hf_1) hL_1
  obtain ⟨J_1, ⟨n_2, h0_1⟩, HB_1⟩ := H
  refine loop_intro (J := fun (n : Nat) (vs : List Value) (h' : Heap) => ∃ t9_1 : Int, vs = [(VI t9_1)] ∧ J_1 n t9_1 h' ∧ Vars h' [(b_1, [(Sl.v g0_1)])]) n_2 ⟨0, rfl, h0_1, hL_1⟩ ?_
  intro I_1 mu_1 hI_1 junk_1 tv_1 h_2 hi_1
  obtain ⟨n_1, ⟨t9_1, hv, hJ_1, hL_2⟩, hn_1⟩ := hI_1 _ _ hi_1
  cases hv
  have H := HB_1 n_1 t9_1 h_2 hJ_1 hL_2
  refine pop_lss .i64 t9_1 (g0_1.n : Int) ?_
  refine condM_b (fun hb_2 => ?_) (fun hb_2 => ?_)
  · have H := H.1 hb_2
    refine rop_locA agg32 hL_2 0 rfl 0 (vs := [(Sl.v g0_1)]) rfl rfl ?_
    refine H.mono fun rv_1 h_3 H => ?_
    obtain ⟨t14_1, rfl, hL_3, H⟩ := H
    obtain ⟨hi_2, H⟩ := H
    refine pop_index sli25 siz3 .i64 t14_1 p1_1 hi_2 ?_
    obtain ⟨t17_1, hc_1, H⟩ := H
    refine rop_one one3 (VI t17_1) hc_1 ?_
    refine pop_lss .i64 t17_1 0 ?_
    refine condM_b (fun hb_3 => ?_) (fun hb_3 => ?_)
    · have H := H.1 hb_3
      exact H
    · have H := H.2 hb_3
      refine pop_add .i64 t9_1 1 ?_
      obtain ⟨m_1, hm_1, H⟩ := H
      exact hn_1 _ _ ⟨m_1, hm_1, (w64 (t9_1 + 1)), rfl, H, hL_3⟩
  · have H := H.2 hb_2
    exact H

/-! impl.has$1 -/
def u161 (P : Program) (p0_1 : Int) (b_1 : Nat) (t1_1 : Sl) (h : Heap) (K : Value → Heap → Prop) : Prop :=
  callM P 113 #[(VI p0_1), (VI 0), (VI (w64 ((t1_1.n : Int) - 1)))] h fun rv_1 h_1 => ∃ t9_1 : Bool, rv_1 = (VB t9_1) ∧ Vars h_1 [(b_1, [(Sl.v t1_1)])] ∧
  K (VB (!t9_1)) h_1
theorem v161 (p0_1 : Int) (b_1 : Nat) (t1_1 : Sl) (h : Heap) (K : Value → Heap → Prop) (hL : Vars h [(b_1, [(Sl.v t1_1)])]) (H : u161 Try.prog p0_1 b_1 t1_1 h K) : callM Try.prog 161 #[(VI p0_1), (VP b_1 0)] h K := by
  refine c161 (VI p0_1) (VP b_1 0) h K ?_
  unfold u161 at H
  unfold t161
  refine pop_field 0 fld32_0 b_1 0 ?_
  refine rop_loc one22 hL 0 rfl 0 (v := (Sl.v t1_1)) rfl ?_
  refine pop_len t1_1 _ _ sli22 ?_
  refine pop_sub .i64 (t1_1.n : Int) 1 ?_
  refine H.mono fun rv_1 h_1 H => ?_
  obtain ⟨t9_1, rfl, hL_1, H⟩ := H
  refine pop_not t9_1 ?_
  exact H

/-! spec.grLeads -/
def u162 (P : Program) (g0_1 : Sl) (p1_1 : Int) (h : Heap) (K : Value → Heap → Prop) : Prop :=
  ∀ (b_1 : Nat) (h_1 : Heap), h.size ≤ b_1 → Fr (In []) h h_1 → Vars h_1 [(b_1, [(Sl.v g0_1)])] →
  ∃ J_1 : Nat → Int → Heap → Prop, (∃ n0 : Nat, J_1 n0 0 h_1) ∧
  ∀ (n_1 : Nat) (t9_1 : Int) (h_2 : Heap), J_1 n_1 t9_1 h_2 → Vars h_2 [(b_1, [(Sl.v g0_1)])] →
  ((decide (t9_1 < (g0_1.n : Int))) = true →
  callM P 186 #[(Value.agg #[(Sl.v g0_1)]), (VI t9_1)] h_2 fun rv_1 h_3 => ∃ t14_1 : Sl, rv_1 = (Sl.v t14_1) ∧ Vars h_3 [(b_1, [(Sl.v g0_1)])] ∧
  InB t14_1 p1_1 ∧
  ∃ t17_1 : Int, hcell h_3 (Sl.at t14_1 p1_1 1) = some (VI t17_1) ∧
  ((decide (t17_1 < 0)) = true →
  K (VB false) h_3) ∧
  ((decide (t17_1 < 0)) = false →
  ∃ m : Nat, m < n_1 ∧ J_1 m (w64 (t9_1 + 1)) h_3)) ∧
  ((decide (t9_1 < (g0_1.n : Int))) = false →
  K (VB true) h_2)
theorem v162 (g0_1 : Sl) (p1_1 : Int) (h : Heap) (K : Value → Heap → Prop) (H : u162 Try.prog g0_1 p1_1 h K) : callM Try.prog 162 #[(Value.agg #[(Sl.v g0_1)]), (VI p1_1)] h K := by
  refine c162 (Value.agg #[(Sl.v g0_1)]) (VI p1_1) h K ?_
  unfold u162 at H
  unfold t162
  have hL : Vars h [] := .nil
  refine eop_box 32 (Value.agg #[(Sl.v g0_1)]) rfl hL (fun b_1 h_1 hb_1 hf_1 hL_1 => ?_)
  refine pop_field 0 fld32_0 b_1 0 ?_
  refine rop_loc one22 hL_1 0 rfl 0 (v := (Sl.v g0_1)) rfl ?_
  refine pop_len g0_1 _ _ sli22 ?_
  have H := H b_1 h_1 (Nat.le_trans (Fr.size (Fr.r (In []) _)) hb_1) (Fr.no' (Fr.r (In []) _) hf_1) hL_1
  obtain ⟨J_1, ⟨n_2, h0_1⟩, HB_1⟩ := H
  refine loop_intro (J := fun (n : Nat) (vs : List Value) (h' : Heap) => ∃ t9_1 : Int, vs = [(VI t9_1)] ∧ J_1 n t9_1 h' ∧ Vars h' [(b_1, [(Sl.v g0_1)])]) n_2 ⟨0, rfl, h0_1, hL_1⟩ ?_
  intro I_1 mu_1 hI_1 junk_1 tv_1 h_2 hi_1
  obtain ⟨n_1, ⟨t9_1, hv, hJ_1, hL_2⟩, hn_1⟩ := hI_1 _ _ hi_1
  cases hv
  have H := HB_1 n_1 t9_1 h_2 hJ_1 hL_2
  refine pop_lss .i64 t9_1 (g0_1.n : Int) ?_
  refine condM_b (fun hb_2 => ?_) (fun hb_2 => ?_)
  · have H := H.1 hb_2
    refine rop_locA agg32 hL_2 0 rfl 0 (vs := [(Sl.v g0_1)]) rfl rfl ?_
    refine H.mono fun rv_1 h_3 H => ?_
    obtain ⟨t14_1, rfl, hL_3, H⟩ := H
    obtain ⟨hi_2, H⟩ := H
    refine pop_index sli25 siz3 .i64 t14_1 p1_1 hi_2 ?_
    obtain ⟨t17_1, hc_1, H⟩ := H
    refine rop_one one3 (VI t17_1) hc_1 ?_
    refine pop_lss .i64 t17_1 0 ?_
    refine condM_b (fun hb_3 => ?_) (fun hb_3 => ?_)
    · have H := H.1 hb_3
      exact H
    · have H := H.2 hb_3
      refine pop_add .i64 t9_1 1 ?_
      obtain ⟨m_1, hm_1, H⟩ := H
      exact hn_1 _ _ ⟨m_1, hm_1, (w64 (t9_1 + 1)), rfl, H, hL_3⟩
  · have H := H.2 hb_2
    exact H

/-! spec.grGood -/
def u165 (P : Program) (g0_1 : Sl) (h : Heap) (K : Value → Heap → Prop) : Prop :=
  ∀ (b_1 : Nat) (h_1 : Heap), h.size ≤ b_1 → Fr (In []) h h_1 → Vars h_1 [(b_1, [(Sl.v g0_1)])] →
  callM P 117 #[(VI (g0_1.n : Int)), (VI 1), (VI 8)] h_1 fun rv_1 h_2 => ∃ t10_1 : Bool, rv_1 = (VB t10_1) ∧ Vars h_2 [(b_1, [(Sl.v g0_1)])] ∧
  ((!t10_1) = true →
  K (VB false) h_2) ∧
  ((!t10_1) = false →
  ∃ J_1 : Nat → Int → Heap → Prop, (∃ n0 : Nat, J_1 n0 0 h_2) ∧
  ∀ (n_1 : Nat) (t15_1 : Int) (h_3 : Heap), J_1 n_1 t15_1 h_3 → Vars h_3 [(b_1, [(Sl.v g0_1)])] →
  ((decide (t15_1 < (g0_1.n : Int))) = true →
  InB g0_1 t15_1 ∧
  ∃ t18_1 : Sl, hcell h_3 (Sl.at g0_1 t15_1 1) = some (Sl.v t18_1) ∧
  ((decide (5 < (t18_1.n : Int))) = true →
  K (VB false) h_3) ∧
  ((decide (5 < (t18_1.n : Int))) = false →
  callM P 104 #[(Sl.v t18_1), (VI 0), (VI (w64 ((g0_1.n : Int) - 1)))] h_3 fun rv_2 h_4 => ∃ t26_1 : Bool, rv_2 = (VB t26_1) ∧ Vars h_4 [(b_1, [(Sl.v g0_1)])] ∧
  ((!t26_1) = true →
  K (VB false) h_4) ∧
  ((!t26_1) = false →
  ∃ m : Nat, m < n_1 ∧ J_1 m (w64 (t15_1 + 1)) h_4))) ∧
  ((decide (t15_1 < (g0_1.n : Int))) = false →
  K (VB true) h_3))
theorem v165 (g0_1 : Sl) (h : Heap) (K : Value → Heap → Prop) (H : u165 Try.prog g0_1 h K) : callM Try.prog 165 #[(Value.agg #[(Sl.v g0_1)])] h K := by
  refine c165 (Value.agg #[(Sl.v g0_1)]) h K ?_
  unfold u165 at H
  unfold t165
  have hL : Vars h [] := .nil
  refine eop_box 32 (Value.agg #[(Sl.v g0_1)]) rfl hL (fun b_1 h_1 hb_1 hf_1 hL_1 => ?_)
  refine pop_field 0 fld32_0 b_1 0 ?_
  refine rop_loc one22 hL_1 0 rfl 0 (v := (Sl.v g0_1)) rfl ?_
  refine pop_len g0_1 _ _ sli22 ?_
  have H := H b_1 h_1 (Nat.le_trans (Fr.size (Fr.r (In []) _)) hb_1) (Fr.no' (Fr.r (In []) _) hf_1) hL_1
  refine H.mono fun rv_1 h_2 H => ?_
  obtain ⟨t10_1, rfl, hL_2, H⟩ := H
  refine pop_not t10_1 ?_
  refine condM_b (fun hb_2 => ?_) (fun hb_2 => ?_)
  · have H := H.1 hb_2
    exact H
  · have H := H.2 hb_2
    refine pop_field 0 fld32_0 b_1 0 ?_
    refine rop_loc one22 hL_2 0 rfl 0 (v := (Sl.v g0_1)) rfl ?_
    refine pop_len g0_1 _ _ sli22 ?_
    obtain ⟨J_1, ⟨n_2, h0_1⟩, HB_1⟩ := H
    refine loop_intro (J := fun (n : Nat) (vs : List Value) (h' : Heap) => ∃ t15_1 : Int, vs = [(VI t15_1)] ∧ J_1 n t15_1 h' ∧ Vars h' [(b_1, [(Sl.v g0_1)])]) n_2 ⟨0, rfl, h0_1, hL_2⟩ ?_
    intro I_1 mu_1 hI_1 junk_1 tv_1 h_3 hi_1
    obtain ⟨n_1, ⟨t15_1, hv, hJ_1, hL_3⟩, hn_1⟩ := hI_1 _ _ hi_1
    cases hv
    have H := HB_1 n_1 t15_1 h_3 hJ_1 hL_3
    refine pop_lss .i64 t15_1 (g0_1.n : Int) ?_
    refine condM_b (fun hb_3 => ?_) (fun hb_3 => ?_)
    · have H := H.1 hb_3
      obtain ⟨hi_2, H⟩ := H
      refine pop_index sli22 siz25 .i64 g0_1 t15_1 hi_2 ?_
      obtain ⟨t18_1, hc_1, H⟩ := H
      refine rop_one one25 (Sl.v t18_1) hc_1 ?_
      refine pop_len t18_1 _ _ sli25 ?_
      refine pop_gtr .i64 (t18_1.n : Int) 5 ?_
      refine guardM_sf (fun hb_4 => ?_) (fun hb_4 => ?_)
      · have H := H.2 hb_4
        refine guardM_y' hb_4 ?_
        refine guardM_y' hb_4 ?_
        refine pop_sub .i64 (g0_1.n : Int) 1 ?_
        refine guardM_y' hb_4 ?_
        refine H.mono fun rv_2 h_4 H => ?_
        obtain ⟨t26_1, rfl, hL_4, H⟩ := H
        refine guardM_y' hb_4 ?_
        refine pop_not t26_1 ?_
        refine pop_pickf' hb_4 ?_
        refine condM_b (fun hb_5 => ?_) (fun hb_5 => ?_)
        · have H := H.1 hb_5
          exact H
        · have H := H.2 hb_5
          refine pop_add .i64 t15_1 1 ?_
          obtain ⟨m_1, hm_1, H⟩ := H
          exact hn_1 _ _ ⟨m_1, hm_1, (w64 (t15_1 + 1)), rfl, H, hL_4⟩
      · have H := H.1 hb_4
        refine guardM_n' hb_4 (by decide) ?_
        refine guardM_n' hb_4 (by decide) ?_
        refine guardM_n' hb_4 (by decide) ?_
        refine guardM_n' hb_4 (by decide) ?_
        refine pop_pickt' hb_4 ?_
        refine condM_t ?_
        exact H
    · have H := H.2 hb_3
      exact H

/-! spec.l1Most -/
def u173 (P : Program) (a0_1 : Int) (b1_1 : Int) (h : Heap) (K : Value → Heap → Prop) : Prop :=
  ((decide (b1_1 < a0_1)) = true →
  K (VI a0_1) h) ∧
  ((decide (b1_1 < a0_1)) = false →
  K (VI b1_1) h)
theorem v173 (a0_1 : Int) (b1_1 : Int) (h : Heap) (K : Value → Heap → Prop) (H : u173 Try.prog a0_1 b1_1 h K) : callM Try.prog 173 #[(VI a0_1), (VI b1_1)] h K := by
  refine c173 (VI a0_1) (VI b1_1) h K ?_
  unfold u173 at H
  unfold t173
  have hL : Vars h [] := .nil
  refine pop_gtr .i64 a0_1 b1_1 ?_
  refine condM_b (fun hb_1 => ?_) (fun hb_1 => ?_)
  · have H := H.1 hb_1
    exact H
  · have H := H.2 hb_1
    exact H

/-! impl.isWalk -/
def u174 (P : Program) (g0_1 : Sl) (w1_1 : Sl) (w1_2 : Int) (h : Heap) (K : Value → Heap → Prop) : Prop :=
  ∀ (b_1 : Nat) (b_2 : Nat) (h_2 : Heap), h.size ≤ b_1 → h.size ≤ b_2 → Fr (In []) h h_2 → Vars h_2 [(b_2, [(Sl.v w1_1), (VI w1_2)]), (b_1, [(Sl.v g0_1)])] →
  eop P (Instr.buildSlice 25 1 #[(0, (VI w1_2))]) h_2 fun rv_1 h_3 => ∃ t10_1 : Sl, rv_1 = (Sl.v t10_1) ∧ Vars h_3 [(b_2, [(Sl.v w1_1), (VI w1_2)]), (b_1, [(Sl.v g0_1)])] ∧
  callM P 107 #[(Value.agg #[(Sl.v g0_1)]), (Sl.v t10_1)] h_3 fun rv_2 h_4 => ∃ t11_1 : Bool, rv_2 = (VB t11_1) ∧ Vars h_4 [(b_2, [(Sl.v w1_1), (VI w1_2)]), (b_1, [(Sl.v g0_1)])] ∧
  ((!t11_1) = true →
  K (VB false) h_4) ∧
  ((!t11_1) = false →
  ((!decide ((w1_1.n : Int) = (g0_1.n : Int))) = true →
  K (VB false) h_4) ∧
  ((!decide ((w1_1.n : Int) = (g0_1.n : Int))) = false →
  ∃ J_1 : Nat → Int → Heap → Prop, (∃ n0 : Nat, J_1 n0 0 h_4) ∧
  ∀ (n_1 : Nat) (t25_1 : Int) (h_5 : Heap), J_1 n_1 t25_1 h_5 → Vars h_5 [(b_2, [(Sl.v w1_1), (VI w1_2)]), (b_1, [(Sl.v g0_1)])] →
  ((decide (t25_1 < (w1_1.n : Int))) = true →
  InB w1_1 t25_1 ∧
  ∃ t29_1 : Int, hcell h_5 (Sl.at w1_1 t25_1 1) = some (VI t29_1) ∧
  InB g0_1 t25_1 ∧
  ∃ t35_1 : Sl, hcell h_5 (Sl.at g0_1 t25_1 1) = some (Sl.v t35_1) ∧
  pop P (Builtin.max_ #[3, 3] 3 #[(VI (w64 ((t35_1.n : Int) - 1))), (Value.int IntKind.i64 0)]) fun rv_3 => ∃ t38_1 : Int, rv_3 = (VI t38_1) ∧ 
  callM P 113 #[(VI t29_1), (VI 0), (VI t38_1)] h_5 fun rv_4 h_6 => ∃ t39_1 : Bool, rv_4 = (VB t39_1) ∧ Vars h_6 [(b_2, [(Sl.v w1_1), (VI w1_2)]), (b_1, [(Sl.v g0_1)])] ∧
  ((!t39_1) = true →
  K (VB false) h_6) ∧
  ((!t39_1) = false →
  ∃ m : Nat, m < n_1 ∧ J_1 m (w64 (t25_1 + 1)) h_6)) ∧
  ((decide (t25_1 < (w1_1.n : Int))) = false →
  K (VB true) h_5)))
theorem v174 (g0_1 : Sl) (w1_1 : Sl) (w1_2 : Int) (h : Heap) (K : Value → Heap → Prop) (H : u174 Try.prog g0_1 w1_1 w1_2 h K) : callM Try.prog 174 #[(Value.agg #[(Sl.v g0_1)]), (Value.agg #[(Sl.v w1_1), (VI w1_2)])] h K := by
  refine c174 (Value.agg #[(Sl.v g0_1)]) (Value.agg #[(Sl.v w1_1), (VI w1_2)]) h K ?_
  unfold u174 at H
  unfold t174
  have hL : Vars h [] := .nil
  refine eop_box 32 (Value.agg #[(Sl.v g0_1)]) rfl hL (fun b_1 h_1 hb_1 hf_1 hL_1 => ?_)
  refine eop_box 132 (Value.agg #[(Sl.v w1_1), (VI w1_2)]) rfl hL_1 (fun b_2 h_2 hb_2 hf_2 hL_2 => ?_)
  refine rop_locA agg32 hL_2 1 rfl 0 (vs := [(Sl.v g0_1)]) rfl rfl ?_
  refine pop_field 1 fld132_1 b_2 0 ?_
  refine rop_loc one3 hL_2 0 rfl 1 (v := (VI w1_2)) rfl ?_
  have H := H b_1 b_2 h_2 (Nat.le_trans (Fr.size (Fr.r (In []) _)) hb_1) (Nat.le_trans (Fr.size (Fr.no' (Fr.r (In []) _) hf_1)) hb_2) (Fr.no' (Fr.no' (Fr.r (In []) _) hf_1) hf_2) hL_2
  refine H.mono fun rv_1 h_3 H => ?_
  obtain ⟨t10_1, rfl, hL_3, H⟩ := H
  refine H.mono fun rv_2 h_4 H => ?_
  obtain ⟨t11_1, rfl, hL_4, H⟩ := H
  refine pop_not t11_1 ?_
  refine guardM_sf (fun hb_3 => ?_) (fun hb_3 => ?_)
  · have H := H.2 hb_3
    refine pop_field 0 fld132_0 b_2 0 ?_
    refine guardM_y' hb_3 ?_
    refine rop_loc one25 hL_4 0 rfl 0 (v := (Sl.v w1_1)) rfl ?_
    refine guardM_y' hb_3 ?_
    refine pop_len w1_1 _ _ sli25 ?_
    refine guardM_y' hb_3 ?_
    refine pop_field 0 fld32_0 b_1 0 ?_
    refine guardM_y' hb_3 ?_
    refine rop_loc one22 hL_4 1 rfl 0 (v := (Sl.v g0_1)) rfl ?_
    refine guardM_y' hb_3 ?_
    refine pop_len g0_1 _ _ sli22 ?_
    refine guardM_y' hb_3 ?_
    refine pop_ine .i64 _ _ (w1_1.n : Int) (g0_1.n : Int) ?_
    refine pop_pickf' hb_3 ?_
    refine condM_b (fun hb_4 => ?_) (fun hb_4 => ?_)
    · have H := H.1 hb_4
      exact H
    · have H := H.2 hb_4
      refine pop_field 0 fld132_0 b_2 0 ?_
      refine rop_loc one25 hL_4 0 rfl 0 (v := (Sl.v w1_1)) rfl ?_
      refine pop_len w1_1 _ _ sli25 ?_
      obtain ⟨J_1, ⟨n_2, h0_1⟩, HB_1⟩ := H
      refine loop_intro (J := fun (n : Nat) (vs : List Value) (h' : Heap) => ∃ t25_1 : Int, vs = [(VI t25_1)] ∧ J_1 n t25_1 h' ∧ Vars h' [(b_2, [(Sl.v w1_1), (VI w1_2)]), (b_1, [(Sl.v g0_1)])]) n_2 ⟨0, rfl, h0_1, hL_4⟩ ?_
      intro I_1 mu_1 hI_1 junk_1 tv_1 h_5 hi_1
      obtain ⟨n_1, ⟨t25_1, hv, hJ_1, hL_5⟩, hn_1⟩ := hI_1 _ _ hi_1
      cases hv
      have H := HB_1 n_1 t25_1 h_5 hJ_1 hL_5
      refine pop_lss .i64 t25_1 (w1_1.n : Int) ?_
      refine condM_b (fun hb_5 => ?_) (fun hb_5 => ?_)
      · have H := H.1 hb_5
        obtain ⟨hi_2, H⟩ := H
        refine pop_index sli25 siz3 .i64 w1_1 t25_1 hi_2 ?_
        obtain ⟨t29_1, hc_2, H⟩ := H
        refine rop_one one3 (VI t29_1) hc_2 ?_
        refine pop_field 0 fld32_0 b_1 0 ?_
        refine rop_loc one22 hL_5 1 rfl 0 (v := (Sl.v g0_1)) rfl ?_
        obtain ⟨hi_3, H⟩ := H
        refine pop_index sli22 siz25 .i64 g0_1 t25_1 hi_3 ?_
        obtain ⟨t35_1, hc_1, H⟩ := H
        refine rop_one one25 (Sl.v t35_1) hc_1 ?_
        refine pop_len t35_1 _ _ sli25 ?_
        refine pop_sub .i64 (t35_1.n : Int) 1 ?_
        refine H.mono fun rv_3 H => ?_
        obtain ⟨t38_1, rfl, H⟩ := H
        refine H.mono fun rv_4 h_6 H => ?_
        obtain ⟨t39_1, rfl, hL_6, H⟩ := H
        refine pop_not t39_1 ?_
        refine condM_b (fun hb_6 => ?_) (fun hb_6 => ?_)
        · have H := H.1 hb_6
          exact H
        · have H := H.2 hb_6
          refine pop_add .i64 t25_1 1 ?_
          obtain ⟨m_1, hm_1, H⟩ := H
          exact hn_1 _ _ ⟨m_1, hm_1, (w64 (t25_1 + 1)), rfl, H, hL_6⟩
      · have H := H.2 hb_5
        exact H
  · have H := H.1 hb_3
    refine guardM_n' hb_3 (by decide) ?_
    refine guardM_n' hb_3 (by decide) ?_
    refine guardM_n' hb_3 (by decide) ?_
    refine guardM_n' hb_3 (by decide) ?_
    refine guardM_n' hb_3 (by decide) ?_
    refine guardM_n' hb_3 (by decide) ?_
    refine pop_pickt' hb_3 ?_
    refine condM_t ?_
    exact H

/-! impl.areChips$1 -/
def u175 (P : Program) (n0_1 : Int) (h : Heap) (K : Value → Heap → Prop) : Prop :=
  callM P 113 #[(VI n0_1), (VI 0), (VI 20)] h fun rv_1 h_1 => ∃ t4_1 : Bool, rv_1 = (VB t4_1) ∧ Vars h_1 [] ∧
  K (VB (!t4_1)) h_1
theorem v175 (n0_1 : Int) (h : Heap) (K : Value → Heap → Prop) (H : u175 Try.prog n0_1 h K) : callM Try.prog 175 #[(VI n0_1)] h K := by
  refine c175 (VI n0_1) h K ?_
  unfold u175 at H
  unfold t175
  have hL : Vars h [] := .nil
  refine H.mono fun rv_1 h_1 H => ?_
  obtain ⟨t4_1, rfl, hL_1, H⟩ := H
  refine pop_not t4_1 ?_
  exact H

/-! (impl.Graph).step -/
def u176 (P : Program) (g0_1 : Sl) (b_1 : Nat) (w1_1 : Sl) (w1_2 : Int) (h : Heap) (K : Value → Heap → Prop) : Prop :=
  InB g0_1 w1_2 ∧
  ∀ (b_2 : Nat) (h_1 : Heap), h.size ≤ b_2 → Fr (In []) h h_1 → Vars h_1 [(b_2, [(Sl.v g0_1)]), (b_1, [(Sl.v w1_1), (VI w1_2)])] →
  ∃ t13_1 : Sl, hcell h_1 (Sl.at g0_1 w1_2 1) = some (Sl.v t13_1) ∧
  ((decide ((t13_1.n : Int) = 0)) = true →
  K (VB false) h_1) ∧
  ((decide ((t13_1.n : Int) = 0)) = false →
  InB w1_1 w1_2 ∧
  ∃ t34_1 : Int, hcell h_1 (Sl.at w1_1 w1_2 1) = some (VI t34_1) ∧
  (t13_1.n : Int) ≠ 0 ∧
  InB w1_1 w1_2 ∧
  Writable h_1 (Sl.at w1_1 w1_2 1) ∧ Vars (hset h_1 (Sl.at w1_1 w1_2 1) (VI (Int.tmod (w64 (t34_1 + 1)) (t13_1.n : Int)))) [(b_2, [(Sl.v g0_1)]), (b_1, [(Sl.v w1_1), (VI w1_2)])] ∧
  ∀ h_2 : Heap, h_2 = hset h_1 (Sl.at w1_1 w1_2 1) (VI (Int.tmod (w64 (t34_1 + 1)) (t13_1.n : Int))) → Vars h_2 [(b_2, [(Sl.v g0_1)]), (b_1, [(Sl.v w1_1), (VI w1_2)])] →
  InB w1_1 w1_2 ∧
  ∃ t51_1 : Int, hcell h_2 (Sl.at w1_1 w1_2 1) = some (VI t51_1) ∧
  InB t13_1 t51_1 ∧
  ∃ t53_1 : Int, hcell h_2 (Sl.at t13_1 t51_1 1) = some (VI t53_1) ∧
  ∀ (h_3 : Heap), Fr (In [b_1]) h_2 h_3 → Vars h_3 [(b_2, [(Sl.v g0_1)]), (b_1, [(Sl.v w1_1), (VI t53_1)])] →
  K (VB true) h_3)
theorem v176 (g0_1 : Sl) (b_1 : Nat) (w1_1 : Sl) (w1_2 : Int) (h : Heap) (K : Value → Heap → Prop) (hL : Vars h [(b_1, [(Sl.v w1_1), (VI w1_2)])]) (H : u176 Try.prog g0_1 b_1 w1_1 w1_2 h K) : callM Try.prog 176 #[(Value.agg #[(Sl.v g0_1)]), (VP b_1 0)] h K := by
  refine c176 (Value.agg #[(Sl.v g0_1)]) (VP b_1 0) h K ?_
  unfold u176 at H
  unfold t176
  refine eop_box 32 (Value.agg #[(Sl.v g0_1)]) rfl hL (fun b_2 h_1 hb_1 hf_1 hL_1 => ?_)
  refine pop_field 0 fld32_0 b_2 0 ?_
  refine rop_loc one22 hL_1 0 rfl 0 (v := (Sl.v g0_1)) rfl ?_
  refine pop_nil _ ?_
  refine pop_field 1 fld132_1 b_1 0 ?_
  refine rop_loc one3 hL_1 1 rfl 1 (v := (VI w1_2)) rfl ?_
  obtain ⟨hi_1, H⟩ := H
  refine pop_index sli22 siz25 .i64 g0_1 w1_2 hi_1 ?_
  have H := H b_2 h_1 (Nat.le_trans (Fr.size (Fr.r (In []) _)) hb_1) (Fr.no' (Fr.r (In []) _) hf_1) hL_1
  obtain ⟨t13_1, hc_4, H⟩ := H
  refine rop_one one25 (Sl.v t13_1) hc_4 ?_
  refine pop_len t13_1 _ _ sli25 ?_
  refine pop_ieq .i64 _ _ (t13_1.n : Int) 0 ?_
  refine condM_b (fun hb_2 => ?_) (fun hb_2 => ?_)
  · have H := H.1 hb_2
    exact H
  · have H := H.2 hb_2
    refine pop_nil _ ?_
    refine pop_field 0 fld132_0 b_1 0 ?_
    refine rop_loc one25 hL_1 1 rfl 0 (v := (Sl.v w1_1)) rfl ?_
    refine pop_nil _ ?_
    refine pop_field 1 fld132_1 b_1 0 ?_
    refine rop_loc one3 hL_1 1 rfl 1 (v := (VI w1_2)) rfl ?_
    refine pop_nil _ ?_
    refine pop_field 0 fld132_0 b_1 0 ?_
    refine rop_loc one25 hL_1 1 rfl 0 (v := (Sl.v w1_1)) rfl ?_
    refine pop_nil _ ?_
    refine pop_field 1 fld132_1 b_1 0 ?_
    refine rop_loc one3 hL_1 1 rfl 1 (v := (VI w1_2)) rfl ?_
    obtain ⟨hi_2, H⟩ := H
    refine pop_index sli25 siz3 .i64 w1_1 w1_2 hi_2 ?_
    obtain ⟨t34_1, hc_3, H⟩ := H
    refine rop_one one3 (VI t34_1) hc_3 ?_
    refine pop_add .i64 t34_1 1 ?_
    refine pop_len t13_1 _ _ sli25 ?_
    obtain ⟨hz_1, H⟩ := H
    refine pop_rem .i64 (w64 (t34_1 + 1)) (t13_1.n : Int) hz_1 ?_
    obtain ⟨hi_3, H⟩ := H
    refine pop_index sli25 siz3 .i64 w1_1 w1_2 hi_3 ?_
    obtain ⟨hw_1, hL_2, H⟩ := H
    refine uop_cell (v := (VI (Int.tmod (w64 (t34_1 + 1)) (t13_1.n : Int)))) siz3 hw_1 rfl (fun h_2 he_1 => ?_)
    rw [← he_1] at hL_2
    have H := H h_2 he_1 hL_2
    refine pop_nil _ ?_
    refine pop_field 0 fld132_0 b_1 0 ?_
    refine rop_loc one25 hL_2 1 rfl 0 (v := (Sl.v w1_1)) rfl ?_
    refine pop_nil _ ?_
    refine pop_field 1 fld132_1 b_1 0 ?_
    refine rop_loc one3 hL_2 1 rfl 1 (v := (VI w1_2)) rfl ?_
    obtain ⟨hi_4, H⟩ := H
    refine pop_index sli25 siz3 .i64 w1_1 w1_2 hi_4 ?_
    obtain ⟨t51_1, hc_2, H⟩ := H
    refine rop_one one3 (VI t51_1) hc_2 ?_
    obtain ⟨hi_5, H⟩ := H
    refine pop_index sli25 siz3 .i64 t13_1 t51_1 hi_5 ?_
    obtain ⟨t53_1, hc_1, H⟩ := H
    refine rop_one one3 (VI t53_1) hc_1 ?_
    refine pop_nil _ ?_
    refine pop_field 1 fld132_1 b_1 0 ?_
    refine uop_loc siz3 hL_2 1 rfl 1 [(VI t53_1)] rfl rfl rfl (Nat.le_of_ble_eq_true rfl) (L' := [(b_2, [(Sl.v g0_1)]), (b_1, [(Sl.v w1_1), (VI t53_1)])]) rfl (fun h_3 hf_2 hL_3 => ?_)
    have H := H  h_3  (Fr.old (Fr.r (In []) _) hf_2) hL_3
    exact H

/-! spec.grFar -/
def u186 (P : Program) (g0_1 : Sl) (p1_1 : Int) (h : Heap) (K : Value → Heap → Prop) : Prop :=
  ∀ (b_1 : Nat) (h_1 : Heap), h.size ≤ b_1 → Fr (In []) h h_1 → Vars h_1 [(b_1, [(Sl.v g0_1)])] →
  eop P (Instr.makeSlice 25 (VI (g0_1.n : Int)) (VI (g0_1.n : Int))) h_1 fun rv_1 h_2 => ∃ t14_1 : Sl, rv_1 = (Sl.v t14_1) ∧ Vars h_2 [(b_1, [(Sl.v g0_1)])] ∧
  ∃ J_1 : Nat → Int → Heap → Prop, (∃ n0 : Nat, J_1 n0 0 h_2) ∧
  ∀ (n_1 : Nat) (t17_1 : Int) (h_3 : Heap), J_1 n_1 t17_1 h_3 → Vars h_3 [(b_1, [(Sl.v g0_1)])] →
  ((decide (t17_1 < (t14_1.n : Int))) = true →
  InB t14_1 t17_1 ∧
  Writable h_3 (Sl.at t14_1 t17_1 1) ∧ Vars (hset h_3 (Sl.at t14_1 t17_1 1) (VI (-1))) [(b_1, [(Sl.v g0_1)])] ∧
  ∀ h_4 : Heap, h_4 = hset h_3 (Sl.at t14_1 t17_1 1) (VI (-1)) → Vars h_4 [(b_1, [(Sl.v g0_1)])] →
  ∃ m : Nat, m < n_1 ∧ J_1 m (w64 (t17_1 + 1)) h_4) ∧
  ((decide (t17_1 < (t14_1.n : Int))) = false →
  InB t14_1 p1_1 ∧
  Writable h_3 (Sl.at t14_1 p1_1 1) ∧ Vars (hset h_3 (Sl.at t14_1 p1_1 1) (VI 0)) [(b_1, [(Sl.v g0_1)])] ∧
  ∀ h_5 : Heap, h_5 = hset h_3 (Sl.at t14_1 p1_1 1) (VI 0) → Vars h_5 [(b_1, [(Sl.v g0_1)])] →
  eop P (Instr.buildSlice 25 1 #[(0, (VI p1_1))]) h_5 fun rv_2 h_6 => ∃ t28_1 : Sl, rv_2 = (Sl.v t28_1) ∧ Vars h_6 [(b_1, [(Sl.v g0_1)])] ∧
  ∃ J_2 : Nat → Sl → Int → Heap → Prop, (∃ n0 : Nat, J_2 n0 t28_1 0 h_6) ∧
  ∀ (n_2 : Nat) (queue7_1 : Sl) (k8_1 : Int) (h_7 : Heap), J_2 n_2 queue7_1 k8_1 h_7 → Vars h_7 [(b_1, [(Sl.v g0_1)])] →
  ((decide (k8_1 < (queue7_1.n : Int))) = true →
  InB queue7_1 k8_1 ∧
  ∃ t40_1 : Int, hcell h_7 (Sl.at queue7_1 k8_1 1) = some (VI t40_1) ∧
  InB g0_1 t40_1 ∧
  ∃ t42_1 : Sl, hcell h_7 (Sl.at g0_1 t40_1 1) = some (Sl.v t42_1) ∧
  ∃ J_3 : Nat → Sl → Int → Heap → Prop, (∃ n0 : Nat, J_3 n0 queue7_1 0 h_7) ∧
  ∀ (n_3 : Nat) (queue7_2 : Sl) (t44_1 : Int) (h_8 : Heap), J_3 n_3 queue7_2 t44_1 h_8 → Vars h_8 [(b_1, [(Sl.v g0_1)])] →
  ((decide (t44_1 < (t42_1.n : Int))) = true →
  InB t42_1 t44_1 ∧
  ∃ t47_1 : Int, hcell h_8 (Sl.at t42_1 t44_1 1) = some (VI t47_1) ∧
  InB t14_1 t47_1 ∧
  ∃ t51_1 : Int, hcell h_8 (Sl.at t14_1 t47_1 1) = some (VI t51_1) ∧
  ((decide (t51_1 < 0)) = true →
  InB queue7_2 k8_1 ∧
  ∃ t59_1 : Int, hcell h_8 (Sl.at queue7_2 k8_1 1) = some (VI t59_1) ∧
  InB t14_1 t59_1 ∧
  ∃ t61_1 : Int, hcell h_8 (Sl.at t14_1 t59_1 1) = some (VI t61_1) ∧
  InB t14_1 t47_1 ∧
  Writable h_8 (Sl.at t14_1 t47_1 1) ∧ Vars (hset h_8 (Sl.at t14_1 t47_1 1) (VI (w64 (t61_1 + 1)))) [(b_1, [(Sl.v g0_1)])] ∧
  ∀ h_9 : Heap, h_9 = hset h_8 (Sl.at t14_1 t47_1 1) (VI (w64 (t61_1 + 1))) → Vars h_9 [(b_1, [(Sl.v g0_1)])] →
  eop P (Instr.buildSlice 25 1 #[(0, (VI t47_1))]) h_9 fun rv_3 h_10 => ∃ t66_1 : Sl, rv_3 = (Sl.v t66_1) ∧ Vars h_10 [(b_1, [(Sl.v g0_1)])] ∧
  eop P (appS 25 25 25 (Sl.v queue7_2) (Sl.v t66_1)) h_10 fun rv_4 h_11 => ∃ t67_1 : Sl, rv_4 = (Sl.v t67_1) ∧ Vars h_11 [(b_1, [(Sl.v g0_1)])] ∧
  ∃ m : Nat, m < n_3 ∧ J_3 m t67_1 (w64 (t44_1 + 1)) h_11) ∧
  ((decide (t51_1 < 0)) = false →
  ∃ m : Nat, m < n_3 ∧ J_3 m queue7_2 (w64 (t44_1 + 1)) h_8)) ∧
  ((decide (t44_1 < (t42_1.n : Int))) = false →
  ∃ m : Nat, m < n_2 ∧ J_2 m queue7_2 (w64 (k8_1 + 1)) h_8)) ∧
  ((decide (k8_1 < (queue7_1.n : Int))) = false →
  K (Sl.v t14_1) h_7))
theorem v186 (g0_1 : Sl) (p1_1 : Int) (h : Heap) (K : Value → Heap → Prop) (H : u186 Try.prog g0_1 p1_1 h K) : callM Try.prog 186 #[(Value.agg #[(Sl.v g0_1)]), (VI p1_1)] h K := by
  refine c186 (Value.agg #[(Sl.v g0_1)]) (VI p1_1) h K ?_
  unfold u186 at H
  unfold t186
  have hL : Vars h [] := .nil
  refine eop_box 32 (Value.agg #[(Sl.v g0_1)]) rfl hL (fun b_1 h_1 hb_1 hf_1 hL_1 => ?_)
  refine pop_field 0 fld32_0 b_1 0 ?_
  refine rop_loc one22 hL_1 0 rfl 0 (v := (Sl.v g0_1)) rfl ?_
  refine pop_len g0_1 _ _ sli22 ?_
  have H := H b_1 h_1 (Nat.le_trans (Fr.size (Fr.r (In []) _)) hb_1) (Fr.no' (Fr.r (In []) _) hf_1) hL_1
  refine H.mono fun rv_1 h_2 H => ?_
  obtain ⟨t14_1, rfl, hL_2, H⟩ := H
  refine pop_len t14_1 _ _ sli25 ?_
  obtain ⟨J_1, ⟨n_6, h0_3⟩, HB_3⟩ := H
  refine loop_intro (J := fun (n : Nat) (vs : List Value) (h' : Heap) => ∃ t17_1 : Int, vs = [(VI t17_1)] ∧ J_1 n t17_1 h' ∧ Vars h' [(b_1, [(Sl.v g0_1)])]) n_6 ⟨0, rfl, h0_3, hL_2⟩ ?_
  intro I_3 mu_3 hI_3 junk_1 tv_5 h_3 hi_1
  obtain ⟨n_1, ⟨t17_1, hv, hJ_1, hL_3⟩, hn_1⟩ := hI_3 _ _ hi_1
  cases hv
  have H := HB_3 n_1 t17_1 h_3 hJ_1 hL_3
  refine pop_lss .i64 t17_1 (t14_1.n : Int) ?_
  refine condM_b (fun hb_2 => ?_) (fun hb_2 => ?_)
  · have H := H.1 hb_2
    obtain ⟨hi_2, H⟩ := H
    refine pop_index sli25 siz3 .i64 t14_1 t17_1 hi_2 ?_
    obtain ⟨hw_1, hL_4, H⟩ := H
    refine uop_cell (v := (VI (-1))) siz3 hw_1 rfl (fun h_4 he_1 => ?_)
    rw [← he_1] at hL_4
    have H := H h_4 he_1 hL_4
    refine pop_add .i64 t17_1 1 ?_
    obtain ⟨m_1, hm_1, H⟩ := H
    exact hn_1 _ _ ⟨m_1, hm_1, (w64 (t17_1 + 1)), rfl, H, hL_4⟩
  · have H := H.2 hb_2
    obtain ⟨hi_3, H⟩ := H
    refine pop_index sli25 siz3 .i64 t14_1 p1_1 hi_3 ?_
    obtain ⟨hw_2, hL_5, H⟩ := H
    refine uop_cell (v := (VI 0)) siz3 hw_2 rfl (fun h_5 he_2 => ?_)
    rw [← he_2] at hL_5
    have H := H h_5 he_2 hL_5
    refine H.mono fun rv_2 h_6 H => ?_
    obtain ⟨t28_1, rfl, hL_6, H⟩ := H
    obtain ⟨J_2, ⟨n_5, h0_2⟩, HB_2⟩ := H
    refine loop_intro (J := fun (n : Nat) (vs : List Value) (h' : Heap) => ∃ queue7_1 : Sl, ∃ k8_1 : Int, vs = [(Sl.v queue7_1), (VI k8_1)] ∧ J_2 n queue7_1 k8_1 h' ∧ Vars h' [(b_1, [(Sl.v g0_1)])]) n_5 ⟨t28_1, 0, rfl, h0_2, hL_6⟩ ?_
    intro I_2 mu_2 hI_2 junk_2 tv_3 tv_4 h_7 hi_4
    obtain ⟨n_2, ⟨queue7_1, k8_1, hv, hJ_2, hL_7⟩, hn_2⟩ := hI_2 _ _ hi_4
    cases hv
    have H := HB_2 n_2 queue7_1 k8_1 h_7 hJ_2 hL_7
    refine pop_len queue7_1 _ _ sli25 ?_
    refine pop_lss .i64 k8_1 (queue7_1.n : Int) ?_
    refine condM_b (fun hb_3 => ?_) (fun hb_3 => ?_)
    · have H := H.1 hb_3
      refine pop_field 0 fld32_0 b_1 0 ?_
      refine rop_loc one22 hL_7 0 rfl 0 (v := (Sl.v g0_1)) rfl ?_
      obtain ⟨hi_5, H⟩ := H
      refine pop_index sli25 siz3 .i64 queue7_1 k8_1 hi_5 ?_
      obtain ⟨t40_1, hc_6, H⟩ := H
      refine rop_one one3 (VI t40_1) hc_6 ?_
      obtain ⟨hi_6, H⟩ := H
      refine pop_index sli22 siz25 .i64 g0_1 t40_1 hi_6 ?_
      obtain ⟨t42_1, hc_5, H⟩ := H
      refine rop_one one25 (Sl.v t42_1) hc_5 ?_
      refine pop_len t42_1 _ _ sli25 ?_
      obtain ⟨J_3, ⟨n_4, h0_1⟩, HB_1⟩ := H
      refine loop_intro (J := fun (n : Nat) (vs : List Value) (h' : Heap) => ∃ queue7_2 : Sl, ∃ t44_1 : Int, vs = [(Sl.v queue7_2), (VI t44_1)] ∧ J_3 n queue7_2 t44_1 h' ∧ Vars h' [(b_1, [(Sl.v g0_1)])]) n_4 ⟨queue7_1, 0, rfl, h0_1, hL_7⟩ ?_
      intro I_1 mu_1 hI_1 junk_3 tv_1 tv_2 h_8 hi_7
      obtain ⟨n_3, ⟨queue7_2, t44_1, hv, hJ_3, hL_8⟩, hn_3⟩ := hI_1 _ _ hi_7
      cases hv
      have H := HB_1 n_3 queue7_2 t44_1 h_8 hJ_3 hL_8
      refine pop_lss .i64 t44_1 (t42_1.n : Int) ?_
      refine condM_b (fun hb_4 => ?_) (fun hb_4 => ?_)
      · have H := H.1 hb_4
        obtain ⟨hi_8, H⟩ := H
        refine pop_index sli25 siz3 .i64 t42_1 t44_1 hi_8 ?_
        obtain ⟨t47_1, hc_4, H⟩ := H
        refine rop_one one3 (VI t47_1) hc_4 ?_
        obtain ⟨hi_9, H⟩ := H
        refine pop_index sli25 siz3 .i64 t14_1 t47_1 hi_9 ?_
        obtain ⟨t51_1, hc_3, H⟩ := H
        refine rop_one one3 (VI t51_1) hc_3 ?_
        refine pop_lss .i64 t51_1 0 ?_
        refine condM_b (fun hb_5 => ?_) (fun hb_5 => ?_)
        · have H := H.1 hb_5
          obtain ⟨hi_10, H⟩ := H
          refine pop_index sli25 siz3 .i64 queue7_2 k8_1 hi_10 ?_
          obtain ⟨t59_1, hc_2, H⟩ := H
          refine rop_one one3 (VI t59_1) hc_2 ?_
          obtain ⟨hi_11, H⟩ := H
          refine pop_index sli25 siz3 .i64 t14_1 t59_1 hi_11 ?_
          obtain ⟨t61_1, hc_1, H⟩ := H
          refine rop_one one3 (VI t61_1) hc_1 ?_
          refine pop_add .i64 t61_1 1 ?_
          obtain ⟨hi_12, H⟩ := H
          refine pop_index sli25 siz3 .i64 t14_1 t47_1 hi_12 ?_
          obtain ⟨hw_3, hL_9, H⟩ := H
          refine uop_cell (v := (VI (w64 (t61_1 + 1)))) siz3 hw_3 rfl (fun h_9 he_3 => ?_)
          rw [← he_3] at hL_9
          have H := H h_9 he_3 hL_9
          refine H.mono fun rv_3 h_10 H => ?_
          obtain ⟨t66_1, rfl, hL_10, H⟩ := H
          refine H.mono fun rv_4 h_11 H => ?_
          obtain ⟨t67_1, rfl, hL_11, H⟩ := H
          refine pop_add .i64 t44_1 1 ?_
          obtain ⟨m_2, hm_2, H⟩ := H
          exact hn_3 _ _ ⟨m_2, hm_2, t67_1, (w64 (t44_1 + 1)), rfl, H, hL_11⟩
        · have H := H.2 hb_5
          refine pop_add .i64 t44_1 1 ?_
          obtain ⟨m_3, hm_3, H⟩ := H
          exact hn_3 _ _ ⟨m_3, hm_3, queue7_2, (w64 (t44_1 + 1)), rfl, H, hL_8⟩
      · have H := H.2 hb_4
        refine pop_add .i64 k8_1 1 ?_
        obtain ⟨m_4, hm_4, H⟩ := H
        exact hn_2 _ _ ⟨m_4, hm_4, queue7_2, (w64 (k8_1 + 1)), rfl, H, hL_8⟩
    · have H := H.2 hb_3
      exact H

/-! (impl.Graph).lengths -/
def u187 (P : Program) (g0_1 : Sl) (p1_1 : Int) (h : Heap) (K : Value → Heap → Prop) : Prop :=
  ∀ (b_1 : Nat) (h_1 : Heap), h.size ≤ b_1 → Fr (In []) h h_1 → Vars h_1 [(b_1, [(Sl.v g0_1)])] →
  eop P (Instr.buildSlice 25 1 #[(0, (Value.int IntKind.i64 (-1)))]) h_1 fun rv_1 h_2 => ∃ t9_1 : Sl, rv_1 = (Sl.v t9_1) ∧ Vars h_2 [(b_1, [(Sl.v g0_1)])] ∧
  callM P 197 #[(Sl.v t9_1), (VI (g0_1.n : Int))] h_2 fun rv_2 h_3 => ∃ t13_1 : Sl, rv_2 = (Sl.v t13_1) ∧ Vars h_3 [(b_1, [(Sl.v g0_1)])] ∧
  InB t13_1 p1_1 ∧
  Writable h_3 (Sl.at t13_1 p1_1 1) ∧ Vars (hset h_3 (Sl.at t13_1 p1_1 1) (VI 0)) [(b_1, [(Sl.v g0_1)])] ∧
  ∀ h_4 : Heap, h_4 = hset h_3 (Sl.at t13_1 p1_1 1) (VI 0) → Vars h_4 [(b_1, [(Sl.v g0_1)])] →
  eop P (Instr.buildSlice 25 1 #[(0, (VI p1_1))]) h_4 fun rv_3 h_5 => ∃ t18_1 : Sl, rv_3 = (Sl.v t18_1) ∧ Vars h_5 [(b_1, [(Sl.v g0_1)])] ∧
  ∃ J_1 : Nat → Sl → Heap → Prop, (∃ n0 : Nat, J_1 n0 t18_1 h_5) ∧
  ∀ (n_1 : Nat) (list6_1 : Sl) (h_6 : Heap), J_1 n_1 list6_1 h_6 → Vars h_6 [(b_1, [(Sl.v g0_1)])] →
  ((decide (0 < (list6_1.n : Int))) = true →
  InB list6_1 0 ∧
  ∃ t28_1 : Int, hcell h_6 (Sl.at list6_1 0 1) = some (VI t28_1) ∧
  InB g0_1 t28_1 ∧
  ∃ t30_1 : Sl, hcell h_6 (Sl.at g0_1 t28_1 1) = some (Sl.v t30_1) ∧
  ∃ J_2 : Nat → Sl → Int → Heap → Prop, (∃ n0 : Nat, J_2 n0 list6_1 0 h_6) ∧
  ∀ (n_2 : Nat) (list6_2 : Sl) (t32_1 : Int) (h_7 : Heap), J_2 n_2 list6_2 t32_1 h_7 → Vars h_7 [(b_1, [(Sl.v g0_1)])] →
  ((decide (t32_1 < (t30_1.n : Int))) = true →
  InB t30_1 t32_1 ∧
  ∃ t35_1 : Int, hcell h_7 (Sl.at t30_1 t32_1 1) = some (VI t35_1) ∧
  InB t13_1 t35_1 ∧
  ∃ t39_1 : Int, hcell h_7 (Sl.at t13_1 t35_1 1) = some (VI t39_1) ∧
  ((decide (t39_1 < 0)) = true →
  InB list6_2 0 ∧
  ∃ t46_1 : Int, hcell h_7 (Sl.at list6_2 0 1) = some (VI t46_1) ∧
  InB t13_1 t46_1 ∧
  ∃ t48_1 : Int, hcell h_7 (Sl.at t13_1 t46_1 1) = some (VI t48_1) ∧
  InB t13_1 t35_1 ∧
  Writable h_7 (Sl.at t13_1 t35_1 1) ∧ Vars (hset h_7 (Sl.at t13_1 t35_1 1) (VI (w64 (t48_1 + 1)))) [(b_1, [(Sl.v g0_1)])] ∧
  ∀ h_8 : Heap, h_8 = hset h_7 (Sl.at t13_1 t35_1 1) (VI (w64 (t48_1 + 1))) → Vars h_8 [(b_1, [(Sl.v g0_1)])] →
  eop P (Instr.buildSlice 25 1 #[(0, (VI t35_1))]) h_8 fun rv_4 h_9 => ∃ t53_1 : Sl, rv_4 = (Sl.v t53_1) ∧ Vars h_9 [(b_1, [(Sl.v g0_1)])] ∧
  eop P (appS 25 25 25 (Sl.v list6_2) (Sl.v t53_1)) h_9 fun rv_5 h_10 => ∃ t54_1 : Sl, rv_5 = (Sl.v t54_1) ∧ Vars h_10 [(b_1, [(Sl.v g0_1)])] ∧
  ∃ m : Nat, m < n_2 ∧ J_2 m t54_1 (w64 (t32_1 + 1)) h_10) ∧
  ((decide (t39_1 < 0)) = false →
  ∃ m : Nat, m < n_2 ∧ J_2 m list6_2 (w64 (t32_1 + 1)) h_7)) ∧
  ((decide (t32_1 < (t30_1.n : Int))) = false →
  pop P (Instr.sliceAt 25 (Sl.v list6_2) (some (Value.int IntKind.i64 1)) none none) fun rv_6 => ∃ t23_1 : Sl, rv_6 = (Sl.v t23_1) ∧ 
  ∃ m : Nat, m < n_1 ∧ J_1 m t23_1 h_7)) ∧
  ((decide (0 < (list6_1.n : Int))) = false →
  K (Sl.v t13_1) h_6)
theorem v187 (g0_1 : Sl) (p1_1 : Int) (h : Heap) (K : Value → Heap → Prop) (H : u187 Try.prog g0_1 p1_1 h K) : callM Try.prog 187 #[(Value.agg #[(Sl.v g0_1)]), (VI p1_1)] h K := by
  refine c187 (Value.agg #[(Sl.v g0_1)]) (VI p1_1) h K ?_
  unfold u187 at H
  unfold t187
  have hL : Vars h [] := .nil
  refine eop_box 32 (Value.agg #[(Sl.v g0_1)]) rfl hL (fun b_1 h_1 hb_1 hf_1 hL_1 => ?_)
  have H := H b_1 h_1 (Nat.le_trans (Fr.size (Fr.r (In []) _)) hb_1) (Fr.no' (Fr.r (In []) _) hf_1) hL_1
  refine H.mono fun rv_1 h_2 H => ?_
  obtain ⟨t9_1, rfl, hL_2, H⟩ := H
  refine pop_field 0 fld32_0 b_1 0 ?_
  refine rop_loc one22 hL_2 0 rfl 0 (v := (Sl.v g0_1)) rfl ?_
  refine pop_len g0_1 _ _ sli22 ?_
  refine H.mono fun rv_2 h_3 H => ?_
  obtain ⟨t13_1, rfl, hL_3, H⟩ := H
  obtain ⟨hi_1, H⟩ := H
  refine pop_index sli25 siz3 .i64 t13_1 p1_1 hi_1 ?_
  obtain ⟨hw_1, hL_4, H⟩ := H
  refine uop_cell (v := (VI 0)) siz3 hw_1 rfl (fun h_4 he_1 => ?_)
  rw [← he_1] at hL_4
  have H := H h_4 he_1 hL_4
  refine H.mono fun rv_3 h_5 H => ?_
  obtain ⟨t18_1, rfl, hL_5, H⟩ := H
  obtain ⟨J_1, ⟨n_4, h0_2⟩, HB_2⟩ := H
  refine loop_intro (J := fun (n : Nat) (vs : List Value) (h' : Heap) => ∃ list6_1 : Sl, vs = [(Sl.v list6_1)] ∧ J_1 n list6_1 h' ∧ Vars h' [(b_1, [(Sl.v g0_1)])]) n_4 ⟨t18_1, rfl, h0_2, hL_5⟩ ?_
  intro I_2 mu_2 hI_2 junk_1 tv_3 h_6 hi_2
  obtain ⟨n_1, ⟨list6_1, hv, hJ_1, hL_6⟩, hn_1⟩ := hI_2 _ _ hi_2
  cases hv
  have H := HB_2 n_1 list6_1 h_6 hJ_1 hL_6
  refine pop_len list6_1 _ _ sli25 ?_
  refine pop_gtr .i64 (list6_1.n : Int) 0 ?_
  refine condM_b (fun hb_2 => ?_) (fun hb_2 => ?_)
  · have H := H.1 hb_2
    refine pop_field 0 fld32_0 b_1 0 ?_
    refine rop_loc one22 hL_6 0 rfl 0 (v := (Sl.v g0_1)) rfl ?_
    obtain ⟨hi_3, H⟩ := H
    refine pop_index sli25 siz3 .i64 list6_1 0 hi_3 ?_
    obtain ⟨t28_1, hc_6, H⟩ := H
    refine rop_one one3 (VI t28_1) hc_6 ?_
    obtain ⟨hi_4, H⟩ := H
    refine pop_index sli22 siz25 .i64 g0_1 t28_1 hi_4 ?_
    obtain ⟨t30_1, hc_5, H⟩ := H
    refine rop_one one25 (Sl.v t30_1) hc_5 ?_
    refine pop_len t30_1 _ _ sli25 ?_
    obtain ⟨J_2, ⟨n_3, h0_1⟩, HB_1⟩ := H
    refine loop_intro (J := fun (n : Nat) (vs : List Value) (h' : Heap) => ∃ list6_2 : Sl, ∃ t32_1 : Int, vs = [(Sl.v list6_2), (VI t32_1)] ∧ J_2 n list6_2 t32_1 h' ∧ Vars h' [(b_1, [(Sl.v g0_1)])]) n_3 ⟨list6_1, 0, rfl, h0_1, hL_6⟩ ?_
    intro I_1 mu_1 hI_1 junk_2 tv_1 tv_2 h_7 hi_5
    obtain ⟨n_2, ⟨list6_2, t32_1, hv, hJ_2, hL_7⟩, hn_2⟩ := hI_1 _ _ hi_5
    cases hv
    have H := HB_1 n_2 list6_2 t32_1 h_7 hJ_2 hL_7
    refine pop_lss .i64 t32_1 (t30_1.n : Int) ?_
    refine condM_b (fun hb_3 => ?_) (fun hb_3 => ?_)
    · have H := H.1 hb_3
      obtain ⟨hi_6, H⟩ := H
      refine pop_index sli25 siz3 .i64 t30_1 t32_1 hi_6 ?_
      obtain ⟨t35_1, hc_4, H⟩ := H
      refine rop_one one3 (VI t35_1) hc_4 ?_
      obtain ⟨hi_7, H⟩ := H
      refine pop_index sli25 siz3 .i64 t13_1 t35_1 hi_7 ?_
      obtain ⟨t39_1, hc_3, H⟩ := H
      refine rop_one one3 (VI t39_1) hc_3 ?_
      refine pop_lss .i64 t39_1 0 ?_
      refine condM_b (fun hb_4 => ?_) (fun hb_4 => ?_)
      · have H := H.1 hb_4
        obtain ⟨hi_8, H⟩ := H
        refine pop_index sli25 siz3 .i64 list6_2 0 hi_8 ?_
        obtain ⟨t46_1, hc_2, H⟩ := H
        refine rop_one one3 (VI t46_1) hc_2 ?_
        obtain ⟨hi_9, H⟩ := H
        refine pop_index sli25 siz3 .i64 t13_1 t46_1 hi_9 ?_
        obtain ⟨t48_1, hc_1, H⟩ := H
        refine rop_one one3 (VI t48_1) hc_1 ?_
        refine pop_add .i64 t48_1 1 ?_
        obtain ⟨hi_10, H⟩ := H
        refine pop_index sli25 siz3 .i64 t13_1 t35_1 hi_10 ?_
        obtain ⟨hw_2, hL_8, H⟩ := H
        refine uop_cell (v := (VI (w64 (t48_1 + 1)))) siz3 hw_2 rfl (fun h_8 he_2 => ?_)
        rw [← he_2] at hL_8
        have H := H h_8 he_2 hL_8
        refine H.mono fun rv_4 h_9 H => ?_
        obtain ⟨t53_1, rfl, hL_9, H⟩ := H
        refine H.mono fun rv_5 h_10 H => ?_
        obtain ⟨t54_1, rfl, hL_10, H⟩ := H
        refine pop_add .i64 t32_1 1 ?_
        obtain ⟨m_1, hm_1, H⟩ := H
        exact hn_2 _ _ ⟨m_1, hm_1, t54_1, (w64 (t32_1 + 1)), rfl, H, hL_10⟩
      · have H := H.2 hb_4
        refine pop_add .i64 t32_1 1 ?_
        obtain ⟨m_2, hm_2, H⟩ := H
        exact hn_2 _ _ ⟨m_2, hm_2, list6_2, (w64 (t32_1 + 1)), rfl, H, hL_7⟩
    · have H := H.2 hb_3
      refine H.mono fun rv_6 H => ?_
      obtain ⟨t23_1, rfl, H⟩ := H
      obtain ⟨m_3, hm_3, H⟩ := H
      exact hn_1 _ _ ⟨m_3, hm_3, t23_1, rfl, H, hL_7⟩
  · have H := H.2 hb_2
    exact H

/-! slices.Repeat[[]int,int] -/
def u197 (P : Program) (x0_1 : Sl) (count1_1 : Int) (h : Heap) (K : Value → Heap → Prop) : Prop :=
  ∃ J_1 : Heap → Prop, (((decide (count1_1 < 0)) = true →
  pop P (Instr.makeInterface 9 (Value.string { data := #[99, 97, 110, 110, 111, 116, 32, 98, 101, 32, 110, 101, 103, 97, 116, 105, 118, 101] })) fun rv_1 => ∃ t11_1 : Value, rv_1 = t11_1 ∧ 
  False) ∧
  ((decide (count1_1 < 0)) = false →
  J_1  h)) ∧
  ∀ (h_1 : Heap), J_1  h_1 → Vars h_1 [] →
  rop P (convert 3 170 (VI (x0_1.n : Int))) h_1 fun rv_2 => ∃ t15_1 : Int, rv_2 = (Value.int .u64 t15_1) ∧ 
  rop P (convert 3 170 (VI count1_1)) h_1 fun rv_3 => ∃ t17_1 : Int, rv_3 = (Value.int .u64 t17_1) ∧ 
  callM P 211 #[(Value.int .u64 t15_1), (Value.int .u64 t17_1)] h_1 fun rv_4 h_2 => ∃ t18_1 : Int, ∃ t18_2 : Int, rv_4 = (Value.tuple #[(Value.int .u64 t18_1), (Value.int .u64 t18_2)]) ∧ Vars h_2 [] ∧
  ∃ J_2 : Heap → Prop, (((decide (0 < t18_1)) = true →
  pop P (Instr.makeInterface 9 (Value.string { data := #[116, 104, 101, 32, 114, 101, 115, 117, 108, 116, 32, 111, 102, 32, 40, 108, 101, 110, 40, 120, 41, 32, 42, 32, 99, 111, 117, 110, 116, 41, 32, 111, 118, 101, 114, 102, 108, 111, 119, 115] })) fun rv_6 => ∃ t27_2 : Value, rv_6 = t27_2 ∧ 
  False) ∧
  ((decide (0 < t18_1)) = false →
  ((decide (9223372036854775807 < t18_2)) = true →
  pop P (Instr.makeInterface 9 (Value.string { data := #[116, 104, 101, 32, 114, 101, 115, 117, 108, 116, 32, 111, 102, 32, 40, 108, 101, 110, 40, 120, 41, 32, 42, 32, 99, 111, 117, 110, 116, 41, 32, 111, 118, 101, 114, 102, 108, 111, 119, 115] })) fun rv_5 => ∃ t27_1 : Value, rv_5 = t27_1 ∧ 
  False) ∧
  ((decide (9223372036854775807 < t18_2)) = false →
  J_2  h_2))) ∧
  ∀ (h_3 : Heap), J_2  h_3 → Vars h_3 [] →
  rop P (convert 170 3 (Value.int .u64 t18_2)) h_3 fun rv_7 => ∃ t29_1 : Int, rv_7 = (VI t29_1) ∧ 
  eop P (Instr.makeSlice 25 (VI t29_1) (VI t29_1)) h_3 fun rv_8 h_4 => ∃ t30_1 : Sl, rv_8 = (Sl.v t30_1) ∧ Vars h_4 [] ∧
  eop P (Builtin.copy_ #[25, 25] 3 #[(Sl.v t30_1), (Sl.v x0_1)]) h_4 fun rv_9 h_5 => ∃ t33_1 : Int, rv_9 = (VI t33_1) ∧ Vars h_5 [] ∧
  ∃ J_3 : Nat → Int → Heap → Prop, (∃ n0 : Nat, J_3 n0 t33_1 h_5) ∧
  ∀ (n_1 : Nat) (n8_1 : Int) (h_6 : Heap), J_3 n_1 n8_1 h_6 → Vars h_6 [] →
  ((decide (n8_1 < (t30_1.n : Int))) = true →
  pop P (Instr.sliceAt 25 (Sl.v t30_1) (some (VI n8_1)) none none) fun rv_10 => ∃ t41_1 : Sl, rv_10 = (Sl.v t41_1) ∧ 
  pop P (Instr.sliceAt 25 (Sl.v t30_1) none (some (VI n8_1)) none) fun rv_11 => ∃ t44_1 : Sl, rv_11 = (Sl.v t44_1) ∧ 
  eop P (Builtin.copy_ #[25, 25] 3 #[(Sl.v t41_1), (Sl.v t44_1)]) h_6 fun rv_12 h_7 => ∃ t45_1 : Int, rv_12 = (VI t45_1) ∧ Vars h_7 [] ∧
  ∃ m : Nat, m < n_1 ∧ J_3 m (w64 (n8_1 + t45_1)) h_7) ∧
  ((decide (n8_1 < (t30_1.n : Int))) = false →
  K (Sl.v t30_1) h_6)
theorem v197 (x0_1 : Sl) (count1_1 : Int) (h : Heap) (K : Value → Heap → Prop) (H : u197 Try.prog x0_1 count1_1 h K) : callM Try.prog 197 #[(Sl.v x0_1), (VI count1_1)] h K := by
  refine c197 (Sl.v x0_1) (VI count1_1) h K ?_
  unfold u197 at H
  unfold t197
  have hL : Vars h [] := .nil
  obtain ⟨J_1, H, HB_3⟩ := H
  refine ⟨fun (vs : List Value) (h' : Heap) => vs = [] ∧ J_1  h' ∧ Vars h' [], ?_, ?_⟩
  · refine pop_lss .i64 count1_1 0 ?_
    refine condM_b (fun hb_1 => ?_) (fun hb_1 => ?_)
    · have H := H.1 hb_1
      refine H.mono fun rv_1 H => ?_
      obtain ⟨t11_1, rfl, H⟩ := H
      exact H.elim
    · have H := H.2 hb_1
      exact ⟨rfl, H, hL⟩
  intro junk_1  h_1
  rintro ⟨hv, hJ_1, hL_1⟩
  have H := HB_3  h_1 hJ_1 hL_1
  refine pop_len x0_1 _ _ sli25 ?_
  refine H.mono fun rv_2 H => ?_
  obtain ⟨t15_1, rfl, H⟩ := H
  refine H.mono fun rv_3 H => ?_
  obtain ⟨t17_1, rfl, H⟩ := H
  refine H.mono fun rv_4 h_2 H => ?_
  obtain ⟨t18_1, t18_2, rfl, hL_2, H⟩ := H
  refine pop_ext (v := (Value.int .u64 t18_1)) rfl ?_
  refine pop_ext (v := (Value.int .u64 t18_2)) rfl ?_
  obtain ⟨J_2, H, HB_2⟩ := H
  refine ⟨fun (vs : List Value) (h' : Heap) => vs = [] ∧ J_2  h' ∧ Vars h' [], ?_, ?_⟩
  · refine pop_gtr .u64 t18_1 0 ?_
    refine guardM_sf (fun hb_2 => ?_) (fun hb_2 => ?_)
    · have H := H.2 hb_2
      refine guardM_y' hb_2 ?_
      refine pop_gtr .u64 t18_2 9223372036854775807 ?_
      refine pop_pickf' hb_2 ?_
      refine condM_b (fun hb_3 => ?_) (fun hb_3 => ?_)
      · have H := H.1 hb_3
        refine H.mono fun rv_5 H => ?_
        obtain ⟨t27_1, rfl, H⟩ := H
        exact H.elim
      · have H := H.2 hb_3
        exact ⟨rfl, H, hL_2⟩
    · have H := H.1 hb_2
      refine guardM_n' hb_2 (by decide) ?_
      refine pop_pickt' hb_2 ?_
      refine condM_t ?_
      refine H.mono fun rv_6 H => ?_
      obtain ⟨t27_2, rfl, H⟩ := H
      exact H.elim
  intro junk_2  h_3
  rintro ⟨hv, hJ_2, hL_3⟩
  have H := HB_2  h_3 hJ_2 hL_3
  refine H.mono fun rv_7 H => ?_
  obtain ⟨t29_1, rfl, H⟩ := H
  refine H.mono fun rv_8 h_4 H => ?_
  obtain ⟨t30_1, rfl, hL_4, H⟩ := H
  refine H.mono fun rv_9 h_5 H => ?_
  obtain ⟨t33_1, rfl, hL_5, H⟩ := H
  obtain ⟨J_3, ⟨n_2, h0_1⟩, HB_1⟩ := H
  refine loop_intro (J := fun (n : Nat) (vs : List Value) (h' : Heap) => ∃ n8_1 : Int, vs = [(VI n8_1)] ∧ J_3 n n8_1 h' ∧ Vars h' []) n_2 ⟨t33_1, rfl, h0_1, hL_5⟩ ?_
  intro I_1 mu_1 hI_1 junk_3 tv_1 h_6 hi_1
  obtain ⟨n_1, ⟨n8_1, hv, hJ_3, hL_6⟩, hn_1⟩ := hI_1 _ _ hi_1
  cases hv
  have H := HB_1 n_1 n8_1 h_6 hJ_3 hL_6
  refine pop_len t30_1 _ _ sli25 ?_
  refine pop_lss .i64 n8_1 (t30_1.n : Int) ?_
  refine condM_b (fun hb_4 => ?_) (fun hb_4 => ?_)
  · have H := H.1 hb_4
    refine H.mono fun rv_10 H => ?_
    obtain ⟨t41_1, rfl, H⟩ := H
    refine H.mono fun rv_11 H => ?_
    obtain ⟨t44_1, rfl, H⟩ := H
    refine H.mono fun rv_12 h_7 H => ?_
    obtain ⟨t45_1, rfl, hL_7, H⟩ := H
    refine pop_add .i64 n8_1 t45_1 ?_
    obtain ⟨m_1, hm_1, H⟩ := H
    exact hn_1 _ _ ⟨m_1, hm_1, (w64 (n8_1 + t45_1)), rfl, H, hL_7⟩
  · have H := H.2 hb_4
    exact H

/-! math/bits.Mul -/
def u211 (P : Program) (x0_1 : Int) (y1_1 : Int) (h : Heap) (K : Value → Heap → Prop) : Prop :=
  callM P 219 #[(Value.int .u64 x0_1), (Value.int .u64 y1_1)] h fun rv_1 h_1 => ∃ t25_1 : Int, ∃ t25_2 : Int, rv_1 = (Value.tuple #[(Value.int .u64 t25_1), (Value.int .u64 t25_2)]) ∧ Vars h_1 [] ∧
  K (Value.tuple #[(Value.int .u64 t25_1), (Value.int .u64 t25_2)]) h_1
theorem v211 (x0_1 : Int) (y1_1 : Int) (h : Heap) (K : Value → Heap → Prop) (H : u211 Try.prog x0_1 y1_1 h K) : callM Try.prog 211 #[(Value.int .u64 x0_1), (Value.int .u64 y1_1)] h K := by
  refine c211 (Value.int .u64 x0_1) (Value.int .u64 y1_1) h K ?_
  unfold u211 at H
  unfold t211
  have hL : Vars h [] := .nil
  refine condM_f ?_
  refine H.mono fun rv_1 h_1 H => ?_
  obtain ⟨t25_1, t25_2, rfl, hL_1, H⟩ := H
  refine pop_ext (v := (Value.int .u64 t25_1)) rfl ?_
  refine pop_ext (v := (Value.int .u64 t25_2)) rfl ?_
  exact H

/-! math/bits.Mul32 -/
def u218 (P : Program) (x0_1 : Int) (y1_1 : Int) (h : Heap) (K : Value → Heap → Prop) : Prop :=
  rop P (convert 184 107 (Value.int .u32 x0_1)) h fun rv_1 => ∃ t8_1 : Int, rv_1 = (Value.int .u64 t8_1) ∧ 
  rop P (convert 184 107 (Value.int .u32 y1_1)) h fun rv_2 => ∃ t10_1 : Int, rv_2 = (Value.int .u64 t10_1) ∧ 
  pop P (binA .shr 107 (Value.int .u64 (IntKind.wrap .u64 (t8_1 * t10_1))) (Value.int IntKind.u64 32)) fun rv_3 => ∃ t13_1 : Int, rv_3 = (Value.int .u64 t13_1) ∧ 
  rop P (convert 107 184 (Value.int .u64 t13_1)) h fun rv_4 => ∃ t14_1 : Int, rv_4 = (Value.int .u32 t14_1) ∧ 
  rop P (convert 107 184 (Value.int .u64 (IntKind.wrap .u64 (t8_1 * t10_1)))) h fun rv_5 => ∃ t16_1 : Int, rv_5 = (Value.int .u32 t16_1) ∧ 
  K (Value.tuple #[(Value.int .u32 t14_1), (Value.int .u32 t16_1)]) h
theorem v218 (x0_1 : Int) (y1_1 : Int) (h : Heap) (K : Value → Heap → Prop) (H : u218 Try.prog x0_1 y1_1 h K) : callM Try.prog 218 #[(Value.int .u32 x0_1), (Value.int .u32 y1_1)] h K := by
  refine c218 (Value.int .u32 x0_1) (Value.int .u32 y1_1) h K ?_
  unfold u218 at H
  unfold t218
  have hL : Vars h [] := .nil
  refine H.mono fun rv_1 H => ?_
  obtain ⟨t8_1, rfl, H⟩ := H
  refine H.mono fun rv_2 H => ?_
  obtain ⟨t10_1, rfl, H⟩ := H
  refine pop_mul .u64 t8_1 t10_1 ?_
  refine H.mono fun rv_3 H => ?_
  obtain ⟨t13_1, rfl, H⟩ := H
  refine H.mono fun rv_4 H => ?_
  obtain ⟨t14_1, rfl, H⟩ := H
  refine H.mono fun rv_5 H => ?_
  obtain ⟨t16_1, rfl, H⟩ := H
  exact H

/-! math/bits.Mul64 -/
def u219 (P : Program) (x0_1 : Int) (y1_1 : Int) (h : Heap) (K : Value → Heap → Prop) : Prop :=
  pop P (binA .and 107 (Value.int .u64 x0_1) (Value.int IntKind.u64 4294967295)) fun rv_1 => ∃ t15_1 : Int, rv_1 = (Value.int .u64 t15_1) ∧ 
  pop P (binA .shr 107 (Value.int .u64 x0_1) (Value.int IntKind.u64 32)) fun rv_2 => ∃ t17_1 : Int, rv_2 = (Value.int .u64 t17_1) ∧ 
  pop P (binA .and 107 (Value.int .u64 y1_1) (Value.int IntKind.u64 4294967295)) fun rv_3 => ∃ t19_1 : Int, rv_3 = (Value.int .u64 t19_1) ∧ 
  pop P (binA .shr 107 (Value.int .u64 y1_1) (Value.int IntKind.u64 32)) fun rv_4 => ∃ t21_1 : Int, rv_4 = (Value.int .u64 t21_1) ∧ 
  pop P (binA .shr 107 (Value.int .u64 (IntKind.wrap .u64 (t15_1 * t19_1))) (Value.int IntKind.u64 32)) fun rv_5 => ∃ t29_1 : Int, rv_5 = (Value.int .u64 t29_1) ∧ 
  pop P (binA .and 107 (Value.int .u64 (IntKind.wrap .u64 ((IntKind.wrap .u64 (t17_1 * t19_1)) + t29_1))) (Value.int IntKind.u64 4294967295)) fun rv_6 => ∃ t32_1 : Int, rv_6 = (Value.int .u64 t32_1) ∧ 
  pop P (binA .shr 107 (Value.int .u64 (IntKind.wrap .u64 ((IntKind.wrap .u64 (t17_1 * t19_1)) + t29_1))) (Value.int IntKind.u64 32)) fun rv_7 => ∃ t34_1 : Int, rv_7 = (Value.int .u64 t34_1) ∧ 
  pop P (binA .shr 107 (Value.int .u64 (IntKind.wrap .u64 (t32_1 + (IntKind.wrap .u64 (t15_1 * t21_1))))) (Value.int IntKind.u64 32)) fun rv_8 => ∃ t46_1 : Int, rv_8 = (Value.int .u64 t46_1) ∧ 
  K (Value.tuple #[(Value.int .u64 (IntKind.wrap .u64 ((IntKind.wrap .u64 ((IntKind.wrap .u64 (t17_1 * t21_1)) + t34_1)) + t46_1))), (Value.int .u64 (IntKind.wrap .u64 (x0_1 * y1_1)))]) h
theorem v219 (x0_1 : Int) (y1_1 : Int) (h : Heap) (K : Value → Heap → Prop) (H : u219 Try.prog x0_1 y1_1 h K) : callM Try.prog 219 #[(Value.int .u64 x0_1), (Value.int .u64 y1_1)] h K := by
  refine c219 (Value.int .u64 x0_1) (Value.int .u64 y1_1) h K ?_
  unfold u219 at H
  unfold t219
  have hL : Vars h [] := .nil
  refine H.mono fun rv_1 H => ?_
  obtain ⟨t15_1, rfl, H⟩ := H
  refine H.mono fun rv_2 H => ?_
  obtain ⟨t17_1, rfl, H⟩ := H
  refine H.mono fun rv_3 H => ?_
  obtain ⟨t19_1, rfl, H⟩ := H
  refine H.mono fun rv_4 H => ?_
  obtain ⟨t21_1, rfl, H⟩ := H
  refine pop_mul .u64 t15_1 t19_1 ?_
  refine pop_mul .u64 t17_1 t19_1 ?_
  refine H.mono fun rv_5 H => ?_
  obtain ⟨t29_1, rfl, H⟩ := H
  refine pop_add .u64 (IntKind.wrap .u64 (t17_1 * t19_1)) t29_1 ?_
  refine H.mono fun rv_6 H => ?_
  obtain ⟨t32_1, rfl, H⟩ := H
  refine H.mono fun rv_7 H => ?_
  obtain ⟨t34_1, rfl, H⟩ := H
  refine pop_mul .u64 t15_1 t21_1 ?_
  refine pop_add .u64 t32_1 (IntKind.wrap .u64 (t15_1 * t21_1)) ?_
  refine pop_mul .u64 t17_1 t21_1 ?_
  refine pop_add .u64 (IntKind.wrap .u64 (t17_1 * t21_1)) t34_1 ?_
  refine H.mono fun rv_8 H => ?_
  obtain ⟨t46_1, rfl, H⟩ := H
  refine pop_add .u64 (IntKind.wrap .u64 ((IntKind.wrap .u64 (t17_1 * t21_1)) + t34_1)) t46_1 ?_
  refine pop_mul .u64 x0_1 y1_1 ?_
  exact H

end Go.Proofs.Ytbhnecochpehdaa
