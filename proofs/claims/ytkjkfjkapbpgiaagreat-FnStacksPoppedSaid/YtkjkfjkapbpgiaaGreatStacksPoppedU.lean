import Derived.Test.YtkjkfjkapbpgiaaGreatStacksPoppedT1
import Derived.Test.YtkjkfjkapbpgiaaGreatM2
set_option linter.unusedVariables false
set_option linter.unusedSimpArgs false
set_option maxRecDepth 100000
set_option maxHeartbeats 16000000
namespace Go.Proofs.YtkjkfjkapbpgiaaGreat
open Go Go.Mx
theorem agg26 : aggC Tryz.prog 26 = some 1 := by kernel_rfl
theorem agg28 : aggC Tryz.prog 28 = some 1 := by kernel_rfl
theorem boo4 : Tryz.prog.underlying 4 = some .bool := by kernel_rfl
theorem fld26_0 : fieldC Tryz.prog 26 0 = some 0 := by kernel_rfl
theorem fld28_0 : fieldC Tryz.prog 28 0 = some 0 := by kernel_rfl
theorem fld48_0 : fieldC Tryz.prog 48 0 = some 0 := by kernel_rfl
theorem fld48_1 : fieldC Tryz.prog 48 1 = some 1 := by kernel_rfl
theorem fld74_0 : fieldC Tryz.prog 74 0 = some 0 := by kernel_rfl
theorem fld74_1 : fieldC Tryz.prog 74 1 = some 1 := by kernel_rfl
theorem fld74_2 : fieldC Tryz.prog 74 2 = some 2 := by kernel_rfl
theorem one22 : oneC Tryz.prog 22 = true := by kernel_rfl
theorem one24 : oneC Tryz.prog 24 = true := by kernel_rfl
theorem one29 : oneC Tryz.prog 29 = true := by kernel_rfl
theorem one3 : oneC Tryz.prog 3 = true := by kernel_rfl
theorem one4 : oneC Tryz.prog 4 = true := by kernel_rfl
theorem one5 : oneC Tryz.prog 5 = true := by kernel_rfl
theorem one72 : oneC Tryz.prog 72 = true := by kernel_rfl
theorem siz24 : sizeC Tryz.prog 24 = some 1 := by kernel_rfl
theorem siz26 : sizeC Tryz.prog 26 = some 1 := by kernel_rfl
theorem siz28 : sizeC Tryz.prog 28 = some 1 := by kernel_rfl
theorem siz29 : sizeC Tryz.prog 29 = some 1 := by kernel_rfl
theorem siz3 : sizeC Tryz.prog 3 = some 1 := by kernel_rfl
theorem siz4 : sizeC Tryz.prog 4 = some 1 := by kernel_rfl
theorem siz5 : sizeC Tryz.prog 5 = some 1 := by kernel_rfl
theorem siz72 : sizeC Tryz.prog 72 = some 1 := by kernel_rfl
theorem sli126 : Tryz.prog.underlying 126 = some (.slice 4) := by kernel_rfl
theorem sli22 : Tryz.prog.underlying 22 = some (.slice 5) := by kernel_rfl
theorem sli24 : Tryz.prog.underlying 24 = some (.slice 29) := by kernel_rfl
theorem sli29 : Tryz.prog.underlying 29 = some (.slice 3) := by kernel_rfl
theorem zer26 : zeroC Tryz.prog 26 = some (Value.agg #[(Sl.v nilSl)]) := by kernel_rfl
theorem zer28 : zeroC Tryz.prog 28 = some (Value.agg #[(Sl.v nilSl)]) := by kernel_rfl
theorem zer3 : zeroC Tryz.prog 3 = some (VI 0) := by kernel_rfl
def u3 (P : Program) (code0_1 : Sl) (more1_1 : Sl) (h : Heap) (K : Value → Heap → Prop) : Prop :=
  callM P 5 #[(Sl.v code0_1), (Sl.v more1_1)] h fun rv_1 h_1 => ∃ t53_1 : Bool, rv_1 = (VB t53_1) ∧ Vars h_1 [] ∧
  (t53_1 = true →
  K (VB true) h_1) ∧
  (t53_1 = false →
  callM P 6 #[(Sl.v code0_1)] h_1 fun rv_2 h_2 => ∃ t56_1 : Sl, ∃ t56_2 : Int, ∃ t56_3 : Sl, ∃ t56_4 : Sl, rv_2 = (Value.tuple #[(Value.agg #[(Sl.v t56_1)]), (VI t56_2), (Value.agg #[(Sl.v t56_3)]), (Sl.v t56_4)]) ∧ Vars h_2 [] ∧
  ∀ (b_1 : Nat) (b_2 : Nat) (h_6 : Heap), h_2.size ≤ b_1 → h_2.size ≤ b_2 → Fr (In []) h_2 h_6 → Vars h_6 [(b_2, [(Sl.v t56_3)]), (b_1, [(Sl.v t56_1)])] →
  callM P 7 #[(Value.agg #[(Sl.v t56_1)]), (VI t56_2), (Value.agg #[(Sl.v t56_3)]), (Sl.v t56_4)] h_6 fun rv_3 h_7 => ∃ t66_1 : Sl, ∃ t66_2 : Bool, rv_3 = (Value.tuple #[(Value.agg #[(Sl.v t66_1)]), (VB t66_2)]) ∧ Vars h_7 [(b_2, [(Sl.v t56_3)]), (b_1, [(Sl.v t56_1)])] ∧
  ∀ (b_3 : Nat) (h_9 : Heap), h_7.size ≤ b_3 → Fr (In []) h_7 h_9 → Vars h_9 [(b_3, [(Sl.v t66_1)]), (b_2, [(Sl.v t56_3)]), (b_1, [(Sl.v t56_1)])] →
  callM P 8 #[(Value.agg #[(Sl.v t56_1)]), (VI t56_2), (Value.agg #[(Sl.v t56_3)]), (Sl.v t56_4)] h_9 fun rv_4 h_10 => ∃ t74_1 : Sl, ∃ t74_2 : Bool, rv_4 = (Value.tuple #[(Value.agg #[(Sl.v t74_1)]), (VB t74_2)]) ∧ Vars h_10 [(b_3, [(Sl.v t66_1)]), (b_2, [(Sl.v t56_3)]), (b_1, [(Sl.v t56_1)])] ∧
  ∀ (b_4 : Nat) (h_12 : Heap), h_10.size ≤ b_4 → Fr (In []) h_10 h_12 → Vars h_12 [(b_4, [(Sl.v t74_1)]), (b_3, [(Sl.v t66_1)]), (b_2, [(Sl.v t56_3)]), (b_1, [(Sl.v t56_1)])] →
  callM P 7 #[(Value.agg #[(Sl.v t56_1)]), (VI t56_2), (Value.agg #[(Sl.v t56_3)]), (Sl.v nilSl)] h_12 fun rv_5 h_13 => ∃ t81_1 : Sl, ∃ t81_2 : Bool, rv_5 = (Value.tuple #[(Value.agg #[(Sl.v t81_1)]), (VB t81_2)]) ∧ Vars h_13 [(b_4, [(Sl.v t74_1)]), (b_3, [(Sl.v t66_1)]), (b_2, [(Sl.v t56_3)]), (b_1, [(Sl.v t56_1)])] ∧
  ∀ (b_5 : Nat) (h_15 : Heap), h_13.size ≤ b_5 → Fr (In []) h_13 h_15 → Vars h_15 [(b_5, [(Sl.v t81_1)]), (b_4, [(Sl.v t74_1)]), (b_3, [(Sl.v t66_1)]), (b_2, [(Sl.v t56_3)]), (b_1, [(Sl.v t56_1)])] →
  callM P 9 #[(Value.agg #[(Sl.v t56_1)]), (VI t56_2), (Value.agg #[(Sl.v t56_3)])] h_15 fun rv_6 h_16 => ∃ t88_1 : Sl, ∃ t88_2 : Bool, rv_6 = (Value.tuple #[(Sl.v t88_1), (VB t88_2)]) ∧ Vars h_16 [(b_5, [(Sl.v t81_1)]), (b_4, [(Sl.v t74_1)]), (b_3, [(Sl.v t66_1)]), (b_2, [(Sl.v t56_3)]), (b_1, [(Sl.v t56_1)])] ∧
  callM P 10 #[(Value.agg #[(Sl.v t56_1)]), (VI t56_2), (Value.agg #[(Sl.v t56_3)])] h_16 fun rv_7 h_17 => ∃ t95_1 : Sl, ∃ t95_2 : Bool, rv_7 = (Value.tuple #[(Sl.v t95_1), (VB t95_2)]) ∧ Vars h_17 [(b_5, [(Sl.v t81_1)]), (b_4, [(Sl.v t74_1)]), (b_3, [(Sl.v t66_1)]), (b_2, [(Sl.v t56_3)]), (b_1, [(Sl.v t56_1)])] ∧
  callM P 11 #[(Value.agg #[(Sl.v t56_1)]), (VI t56_2), (Value.agg #[(Sl.v t56_3)])] h_17 fun rv_8 h_18 => ∃ t102_1 : Int, ∃ t102_2 : Bool, rv_8 = (Value.tuple #[(VI t102_1), (VB t102_2)]) ∧ Vars h_18 [(b_5, [(Sl.v t81_1)]), (b_4, [(Sl.v t74_1)]), (b_3, [(Sl.v t66_1)]), (b_2, [(Sl.v t56_3)]), (b_1, [(Sl.v t56_1)])] ∧
  callM P 12 #[(Value.agg #[(Sl.v t56_1)]), (VI t56_2), (Value.agg #[(Sl.v t56_3)])] h_18 fun rv_9 h_19 => ∃ t109_1 : Int, ∃ t109_2 : Bool, rv_9 = (Value.tuple #[(VI t109_1), (VB t109_2)]) ∧ Vars h_19 [(b_5, [(Sl.v t81_1)]), (b_4, [(Sl.v t74_1)]), (b_3, [(Sl.v t66_1)]), (b_2, [(Sl.v t56_3)]), (b_1, [(Sl.v t56_1)])] ∧
  callM P 13 #[(Value.agg #[(Sl.v t56_1)]), (VI t56_2), (Value.agg #[(Sl.v t56_3)])] h_19 fun rv_10 h_20 => ∃ t116_1 : Sl, ∃ t116_2 : Bool, rv_10 = (Value.tuple #[(Sl.v t116_1), (VB t116_2)]) ∧ Vars h_20 [(b_5, [(Sl.v t81_1)]), (b_4, [(Sl.v t74_1)]), (b_3, [(Sl.v t66_1)]), (b_2, [(Sl.v t56_3)]), (b_1, [(Sl.v t56_1)])] ∧
  callM P 14 #[(Value.agg #[(Sl.v t56_1)]), (VI t56_2), (Value.agg #[(Sl.v t56_3)])] h_20 fun rv_11 h_21 => ∃ t123_1 : Sl, ∃ t123_2 : Bool, rv_11 = (Value.tuple #[(Sl.v t123_1), (VB t123_2)]) ∧ Vars h_21 [(b_5, [(Sl.v t81_1)]), (b_4, [(Sl.v t74_1)]), (b_3, [(Sl.v t66_1)]), (b_2, [(Sl.v t56_3)]), (b_1, [(Sl.v t56_1)])] ∧
  ((!(t66_2 == t74_2)) = true →
  K (VB false) h_21) ∧
  ((!(t66_2 == t74_2)) = false →
  callM P 15 #[(Value.agg #[(Sl.v t66_1)]), (Value.agg #[(Sl.v t74_1)])] h_21 fun rv_12 h_22 => ∃ t132_1 : Bool, rv_12 = (VB t132_1) ∧ Vars h_22 [(b_5, [(Sl.v t81_1)]), (b_4, [(Sl.v t74_1)]), (b_3, [(Sl.v t66_1)]), (b_2, [(Sl.v t56_3)]), (b_1, [(Sl.v t56_1)])] ∧
  ((!t132_1) = true →
  K (VB false) h_22) ∧
  ((!t132_1) = false →
  ((!(t88_2 == t95_2)) = true →
  K (VB false) h_22) ∧
  ((!(t88_2 == t95_2)) = false →
  callM P 16 #[(Sl.v t88_1), (Sl.v t95_1)] h_22 fun rv_13 h_23 => ∃ t143_1 : Bool, rv_13 = (VB t143_1) ∧ Vars h_23 [(b_5, [(Sl.v t81_1)]), (b_4, [(Sl.v t74_1)]), (b_3, [(Sl.v t66_1)]), (b_2, [(Sl.v t56_3)]), (b_1, [(Sl.v t56_1)])] ∧
  ((!t143_1) = true →
  K (VB false) h_23) ∧
  ((!t143_1) = false →
  ((!(t102_2 == t109_2)) = true →
  K (VB false) h_23) ∧
  ((!(t102_2 == t109_2)) = false →
  ((!decide (t102_1 = t109_1)) = true →
  K (VB false) h_23) ∧
  ((!decide (t102_1 = t109_1)) = false →
  ((!(t116_2 == t123_2)) = true →
  K (VB false) h_23) ∧
  ((!(t116_2 == t123_2)) = false →
  callM P 16 #[(Sl.v t116_1), (Sl.v t123_1)] h_23 fun rv_14 h_24 => ∃ t164_1 : Bool, rv_14 = (VB t164_1) ∧ Vars h_24 [(b_5, [(Sl.v t81_1)]), (b_4, [(Sl.v t74_1)]), (b_3, [(Sl.v t66_1)]), (b_2, [(Sl.v t56_3)]), (b_1, [(Sl.v t56_1)])] ∧
  ((!t164_1) = true →
  K (VB false) h_24) ∧
  ((!t164_1) = false →
  ((!(t81_2 == t88_2)) = true →
  K (VB false) h_24) ∧
  ((!(t81_2 == t88_2)) = false →
  ((!(t102_2 == t88_2)) = true →
  K (VB false) h_24) ∧
  ((!(t102_2 == t88_2)) = false →
  ((!(t116_2 == t88_2)) = true →
  K (VB false) h_24) ∧
  ((!(t116_2 == t88_2)) = false →
  (t66_2 = true →
  ((!t81_2) = true →
  K (VB false) h_24) ∧
  ((!t81_2) = false →
  ∃ J_1 : Heap → Prop, (callM P 15 #[(Value.agg #[(Sl.v t66_1)]), (Value.agg #[(Sl.v t81_1)])] h_24 fun rv_15 h_25 => ∃ t192_1 : Bool, rv_15 = (VB t192_1) ∧ Vars h_25 [(b_5, [(Sl.v t81_1)]), (b_4, [(Sl.v t74_1)]), (b_3, [(Sl.v t66_1)]), (b_2, [(Sl.v t56_3)]), (b_1, [(Sl.v t56_1)])] ∧
  ((!t192_1) = true →
  K (VB false) h_25) ∧
  ((!t192_1) = false →
  ((!decide ((t88_1.n : Int) = (t56_1.n : Int))) = true →
  K (VB false) h_25) ∧
  ((!decide ((t88_1.n : Int) = (t56_1.n : Int))) = false →
  InB t88_1 t56_2 ∧
  ∃ t206_1 : Int, hcell h_25 (Sl.at t88_1 t56_2 1) = some (VI t206_1) ∧
  ((!decide (t206_1 = 0)) = true →
  K (VB false) h_25) ∧
  ((!decide (t206_1 = 0)) = false →
  ∃ J_2 : Nat → Int → Heap → Prop, (∃ n0 : Nat, J_2 n0 0 h_25) ∧
  ∀ (n_1 : Nat) (t211_1 : Int) (h_26 : Heap), J_2 n_1 t211_1 h_26 → Vars h_26 [(b_5, [(Sl.v t81_1)]), (b_4, [(Sl.v t74_1)]), (b_3, [(Sl.v t66_1)]), (b_2, [(Sl.v t56_3)]), (b_1, [(Sl.v t56_1)])] →
  ((decide (t211_1 < (t88_1.n : Int))) = true →
  InB t88_1 t211_1 ∧
  ∃ t215_1 : Int, hcell h_26 (Sl.at t88_1 t211_1 1) = some (VI t215_1) ∧
  InB t66_1 t211_1 ∧
  ∃ t220_1 : Sl, hcell h_26 (Sl.at t66_1 t211_1 1) = some (Sl.v t220_1) ∧
  InB t56_3 t211_1 ∧
  ∃ t226_1 : Sl, hcell h_26 (Sl.at t56_3 t211_1 1) = some (Sl.v t226_1) ∧
  ((!decide ((t220_1.n : Int) = (w64 ((t226_1.n : Int) - t215_1)))) = true →
  hcell h_26 (Sl.at t56_3 t211_1 1) = some (Sl.v t226_1) ∧
  hcell h_26 (Sl.at t66_1 t211_1 1) = some (Sl.v t220_1) ∧
  K (VB false) h_26) ∧
  ((!decide ((t220_1.n : Int) = (w64 ((t226_1.n : Int) - t215_1)))) = false →
  InB t66_1 t211_1 ∧
  ∃ t236_1 : Sl, hcell h_26 (Sl.at t66_1 t211_1 1) = some (Sl.v t236_1) ∧
  InB t56_3 t211_1 ∧
  ∃ t241_1 : Sl, hcell h_26 (Sl.at t56_3 t211_1 1) = some (Sl.v t241_1) ∧
  pop P (Instr.sliceAt 29 (Sl.v t241_1) (some (VI t215_1)) none none) fun rv_16 => ∃ t243_1 : Sl, rv_16 = (Sl.v t243_1) ∧ 
  callM P 16 #[(Sl.v t236_1), (Sl.v t243_1)] h_26 fun rv_17 h_27 => ∃ t244_1 : Bool, rv_17 = (VB t244_1) ∧ Vars h_27 [(b_5, [(Sl.v t81_1)]), (b_4, [(Sl.v t74_1)]), (b_3, [(Sl.v t66_1)]), (b_2, [(Sl.v t56_3)]), (b_1, [(Sl.v t56_1)])] ∧
  hcell h_27 (Sl.at t56_3 t211_1 1) = some (Sl.v t241_1) ∧
  hcell h_27 (Sl.at t56_3 t211_1 1) = some (Sl.v t226_1) ∧
  hcell h_27 (Sl.at t66_1 t211_1 1) = some (Sl.v t220_1) ∧
  ((!t244_1) = true →
  K (VB false) h_27) ∧
  ((!t244_1) = false →
  ∃ m : Nat, m < n_1 ∧ J_2 m (w64 (t211_1 + 1)) h_27))) ∧
  ((decide (t211_1 < (t88_1.n : Int))) = false →
  callM P 17 #[(Value.agg #[(Sl.v t56_1)]), (VI t56_2), (Sl.v t116_1)] h_26 fun rv_18 h_28 => ∃ t252_1 : Bool, ∃ t252_2 : Bool, rv_18 = (Value.tuple #[(VB t252_1), (VB t252_2)]) ∧ Vars h_28 [(b_5, [(Sl.v t81_1)]), (b_4, [(Sl.v t74_1)]), (b_3, [(Sl.v t66_1)]), (b_2, [(Sl.v t56_3)]), (b_1, [(Sl.v t56_1)])] ∧
  callM P 18 #[(Value.agg #[(Sl.v t56_1)]), (VI t56_2), (Value.agg #[(Sl.v t66_1)])] h_28 fun rv_19 h_29 => ∃ t259_1 : Sl, ∃ t259_2 : Bool, rv_19 = (Value.tuple #[(Sl.v t259_1), (VB t259_2)]) ∧ Vars h_29 [(b_5, [(Sl.v t81_1)]), (b_4, [(Sl.v t74_1)]), (b_3, [(Sl.v t66_1)]), (b_2, [(Sl.v t56_3)]), (b_1, [(Sl.v t56_1)])] ∧
  callM P 19 #[(Value.agg #[(Sl.v t56_1)]), (VI t56_2), (Value.agg #[(Sl.v t66_1)])] h_29 fun rv_20 h_30 => ∃ t266_1 : Sl, ∃ t266_2 : Bool, rv_20 = (Value.tuple #[(Sl.v t266_1), (VB t266_2)]) ∧ Vars h_30 [(b_5, [(Sl.v t81_1)]), (b_4, [(Sl.v t74_1)]), (b_3, [(Sl.v t66_1)]), (b_2, [(Sl.v t56_3)]), (b_1, [(Sl.v t56_1)])] ∧
  ((!t252_2) = true →
  K (VB false) h_30) ∧
  ((!t252_2) = false →
  ((!t252_1) = true →
  K (VB false) h_30) ∧
  ((!t252_1) = false →
  ((!t259_2) = true →
  K (VB false) h_30) ∧
  ((!t259_2) = false →
  callM P 16 #[(Sl.v t259_1), (Sl.v t116_1)] h_30 fun rv_21 h_31 => ∃ t282_1 : Bool, rv_21 = (VB t282_1) ∧ Vars h_31 [(b_5, [(Sl.v t81_1)]), (b_4, [(Sl.v t74_1)]), (b_3, [(Sl.v t66_1)]), (b_2, [(Sl.v t56_3)]), (b_1, [(Sl.v t56_1)])] ∧
  ((!t282_1) = true →
  K (VB false) h_31) ∧
  ((!t282_1) = false →
  ((!t266_2) = true →
  K (VB false) h_31) ∧
  ((!t266_2) = false →
  ((!decide ((t266_1.n : Int) = 0)) = true →
  K (VB false) h_31) ∧
  ((!decide ((t266_1.n : Int) = 0)) = false →
  callM P 20 #[(Sl.v t88_1)] h_31 fun rv_22 h_32 => ∃ t298_1 : Int, rv_22 = (VI t298_1) ∧ Vars h_32 [(b_5, [(Sl.v t81_1)]), (b_4, [(Sl.v t74_1)]), (b_3, [(Sl.v t66_1)]), (b_2, [(Sl.v t56_3)]), (b_1, [(Sl.v t56_1)])] ∧
  ((!((decide (t102_1 = 0)) == (decide (t298_1 = 0)))) = true →
  K (VB false) h_32) ∧
  ((!((decide (t102_1 = 0)) == (decide (t298_1 = 0)))) = false →
  callM P 20 #[(Sl.v t88_1)] h_32 fun rv_23 h_33 => ∃ t305_1 : Int, rv_23 = (VI t305_1) ∧ Vars h_33 [(b_5, [(Sl.v t81_1)]), (b_4, [(Sl.v t74_1)]), (b_3, [(Sl.v t66_1)]), (b_2, [(Sl.v t56_3)]), (b_1, [(Sl.v t56_1)])] ∧
  ((decide (t305_1 < t102_1)) = true →
  K (VB false) h_33) ∧
  ((decide (t305_1 < t102_1)) = false →
  J_1  h_33))))))))))))) ∧
  ∀ (h_34 : Heap), J_1  h_34 → Vars h_34 [(b_5, [(Sl.v t81_1)]), (b_4, [(Sl.v t74_1)]), (b_3, [(Sl.v t66_1)]), (b_2, [(Sl.v t56_3)]), (b_1, [(Sl.v t56_1)])] →
  callM P 21 #[(Sl.v more1_1)] h_34 fun rv_24 h_35 => ∃ t310_1 : Sl, ∃ t310_2 : Int, ∃ t310_3 : Sl, ∃ t310_4 : Sl, rv_24 = (Value.tuple #[(Value.agg #[(Sl.v t310_1)]), (VI t310_2), (Value.agg #[(Sl.v t310_3)]), (Sl.v t310_4)]) ∧ Vars h_35 [(b_5, [(Sl.v t81_1)]), (b_4, [(Sl.v t74_1)]), (b_3, [(Sl.v t66_1)]), (b_2, [(Sl.v t56_3)]), (b_1, [(Sl.v t56_1)])] ∧
  ∀ (b_6 : Nat) (b_7 : Nat) (h_39 : Heap), h_35.size ≤ b_6 → h_35.size ≤ b_7 → Fr (In []) h_35 h_39 → Vars h_39 [(b_7, [(Sl.v t310_3)]), (b_6, [(Sl.v t310_1)]), (b_5, [(Sl.v t81_1)]), (b_4, [(Sl.v t74_1)]), (b_3, [(Sl.v t66_1)]), (b_2, [(Sl.v t56_3)]), (b_1, [(Sl.v t56_1)])] →
  callM P 22 #[(Value.agg #[(Sl.v t310_1)]), (VI t310_2), (Value.agg #[(Sl.v t310_3)]), (Sl.v t310_4)] h_39 fun rv_25 h_40 => ∃ t320_1 : Sl, ∃ t320_2 : Bool, rv_25 = (Value.tuple #[(Sl.v t320_1), (VB t320_2)]) ∧ Vars h_40 [(b_7, [(Sl.v t310_3)]), (b_6, [(Sl.v t310_1)]), (b_5, [(Sl.v t81_1)]), (b_4, [(Sl.v t74_1)]), (b_3, [(Sl.v t66_1)]), (b_2, [(Sl.v t56_3)]), (b_1, [(Sl.v t56_1)])] ∧
  callM P 23 #[(Value.agg #[(Sl.v t310_1)]), (VI t310_2), (Value.agg #[(Sl.v t310_3)]), (Sl.v t310_4)] h_40 fun rv_26 h_41 => ∃ t328_1 : Sl, ∃ t328_2 : Bool, rv_26 = (Value.tuple #[(Sl.v t328_1), (VB t328_2)]) ∧ Vars h_41 [(b_7, [(Sl.v t310_3)]), (b_6, [(Sl.v t310_1)]), (b_5, [(Sl.v t81_1)]), (b_4, [(Sl.v t74_1)]), (b_3, [(Sl.v t66_1)]), (b_2, [(Sl.v t56_3)]), (b_1, [(Sl.v t56_1)])] ∧
  callM P 24 #[(Value.agg #[(Sl.v t310_1)]), (VI t310_2), (Value.agg #[(Sl.v t310_3)]), (Sl.v t310_4)] h_41 fun rv_27 h_42 => ∃ t336_1 : Int, ∃ t336_2 : Bool, rv_27 = (Value.tuple #[(VI t336_1), (VB t336_2)]) ∧ Vars h_42 [(b_7, [(Sl.v t310_3)]), (b_6, [(Sl.v t310_1)]), (b_5, [(Sl.v t81_1)]), (b_4, [(Sl.v t74_1)]), (b_3, [(Sl.v t66_1)]), (b_2, [(Sl.v t56_3)]), (b_1, [(Sl.v t56_1)])] ∧
  callM P 25 #[(Value.agg #[(Sl.v t310_1)]), (VI t310_2), (Value.agg #[(Sl.v t310_3)]), (Sl.v t310_4)] h_42 fun rv_28 h_43 => ∃ t344_1 : Int, ∃ t344_2 : Bool, rv_28 = (Value.tuple #[(VI t344_1), (VB t344_2)]) ∧ Vars h_43 [(b_7, [(Sl.v t310_3)]), (b_6, [(Sl.v t310_1)]), (b_5, [(Sl.v t81_1)]), (b_4, [(Sl.v t74_1)]), (b_3, [(Sl.v t66_1)]), (b_2, [(Sl.v t56_3)]), (b_1, [(Sl.v t56_1)])] ∧
  ((!(t320_2 == t328_2)) = true →
  K (VB false) h_43) ∧
  ((!(t320_2 == t328_2)) = false →
  callM P 16 #[(Sl.v t320_1), (Sl.v t328_1)] h_43 fun rv_29 h_44 => ∃ t353_1 : Bool, rv_29 = (VB t353_1) ∧ Vars h_44 [(b_7, [(Sl.v t310_3)]), (b_6, [(Sl.v t310_1)]), (b_5, [(Sl.v t81_1)]), (b_4, [(Sl.v t74_1)]), (b_3, [(Sl.v t66_1)]), (b_2, [(Sl.v t56_3)]), (b_1, [(Sl.v t56_1)])] ∧
  ((!t353_1) = true →
  K (VB false) h_44) ∧
  ((!t353_1) = false →
  ((!(t336_2 == t344_2)) = true →
  K (VB false) h_44) ∧
  ((!(t336_2 == t344_2)) = false →
  ((!decide (t336_1 = t344_1)) = true →
  K (VB false) h_44) ∧
  ((!decide (t336_1 = t344_1)) = false →
  ((!(t336_2 == t320_2)) = true →
  K (VB false) h_44) ∧
  ((!(t336_2 == t320_2)) = false →
  (t320_2 = true →
  callM P 13 #[(Value.agg #[(Sl.v t310_1)]), (VI t310_2), (Value.agg #[(Sl.v t310_3)])] h_44 fun rv_30 h_45 => ∃ t376_1 : Sl, ∃ t376_2 : Bool, rv_30 = (Value.tuple #[(Sl.v t376_1), (VB t376_2)]) ∧ Vars h_45 [(b_7, [(Sl.v t310_3)]), (b_6, [(Sl.v t310_1)]), (b_5, [(Sl.v t81_1)]), (b_4, [(Sl.v t74_1)]), (b_3, [(Sl.v t66_1)]), (b_2, [(Sl.v t56_3)]), (b_1, [(Sl.v t56_1)])] ∧
  callM P 9 #[(Value.agg #[(Sl.v t310_1)]), (VI t310_2), (Value.agg #[(Sl.v t310_3)])] h_45 fun rv_31 h_46 => ∃ t383_1 : Sl, ∃ t383_2 : Bool, rv_31 = (Value.tuple #[(Sl.v t383_1), (VB t383_2)]) ∧ Vars h_46 [(b_7, [(Sl.v t310_3)]), (b_6, [(Sl.v t310_1)]), (b_5, [(Sl.v t81_1)]), (b_4, [(Sl.v t74_1)]), (b_3, [(Sl.v t66_1)]), (b_2, [(Sl.v t56_3)]), (b_1, [(Sl.v t56_1)])] ∧
  (t376_2 = true →
  callM P 16 #[(Sl.v t376_1), (Sl.v t320_1)] h_46 fun rv_32 h_47 => ∃ t390_1 : Bool, rv_32 = (VB t390_1) ∧ Vars h_47 [(b_7, [(Sl.v t310_3)]), (b_6, [(Sl.v t310_1)]), (b_5, [(Sl.v t81_1)]), (b_4, [(Sl.v t74_1)]), (b_3, [(Sl.v t66_1)]), (b_2, [(Sl.v t56_3)]), (b_1, [(Sl.v t56_1)])] ∧
  (t390_1 = true →
  (t383_2 = true →
  callM P 20 #[(Sl.v t383_1)] h_47 fun rv_33 h_48 => ∃ t398_1 : Int, rv_33 = (VI t398_1) ∧ Vars h_48 [(b_7, [(Sl.v t310_3)]), (b_6, [(Sl.v t310_1)]), (b_5, [(Sl.v t81_1)]), (b_4, [(Sl.v t74_1)]), (b_3, [(Sl.v t66_1)]), (b_2, [(Sl.v t56_3)]), (b_1, [(Sl.v t56_1)])] ∧
  K (VB (decide (t336_1 = (w64 ((w64 (t398_1 + (t310_1.n : Int))) - 1))))) h_48) ∧
  (t383_2 = false →
  K (VB false) h_47)) ∧
  (t390_1 = false →
  K (VB false) h_47)) ∧
  (t376_2 = false →
  K (VB false) h_46)) ∧
  (t320_2 = false →
  K (VB true) h_44)))))))) ∧
  (t66_2 = false →
  ∃ J_3 : Heap → Prop, (J_3  h_24) ∧
  ∀ (h_49 : Heap), J_3  h_49 → Vars h_49 [(b_5, [(Sl.v t81_1)]), (b_4, [(Sl.v t74_1)]), (b_3, [(Sl.v t66_1)]), (b_2, [(Sl.v t56_3)]), (b_1, [(Sl.v t56_1)])] →
  callM P 21 #[(Sl.v more1_1)] h_49 fun rv_34 h_50 => ∃ t310_5 : Sl, ∃ t310_6 : Int, ∃ t310_7 : Sl, ∃ t310_8 : Sl, rv_34 = (Value.tuple #[(Value.agg #[(Sl.v t310_5)]), (VI t310_6), (Value.agg #[(Sl.v t310_7)]), (Sl.v t310_8)]) ∧ Vars h_50 [(b_5, [(Sl.v t81_1)]), (b_4, [(Sl.v t74_1)]), (b_3, [(Sl.v t66_1)]), (b_2, [(Sl.v t56_3)]), (b_1, [(Sl.v t56_1)])] ∧
  ∀ (b_8 : Nat) (b_9 : Nat) (h_54 : Heap), h_50.size ≤ b_8 → h_50.size ≤ b_9 → Fr (In []) h_50 h_54 → Vars h_54 [(b_9, [(Sl.v t310_7)]), (b_8, [(Sl.v t310_5)]), (b_5, [(Sl.v t81_1)]), (b_4, [(Sl.v t74_1)]), (b_3, [(Sl.v t66_1)]), (b_2, [(Sl.v t56_3)]), (b_1, [(Sl.v t56_1)])] →
  callM P 22 #[(Value.agg #[(Sl.v t310_5)]), (VI t310_6), (Value.agg #[(Sl.v t310_7)]), (Sl.v t310_8)] h_54 fun rv_35 h_55 => ∃ t320_3 : Sl, ∃ t320_4 : Bool, rv_35 = (Value.tuple #[(Sl.v t320_3), (VB t320_4)]) ∧ Vars h_55 [(b_9, [(Sl.v t310_7)]), (b_8, [(Sl.v t310_5)]), (b_5, [(Sl.v t81_1)]), (b_4, [(Sl.v t74_1)]), (b_3, [(Sl.v t66_1)]), (b_2, [(Sl.v t56_3)]), (b_1, [(Sl.v t56_1)])] ∧
  callM P 23 #[(Value.agg #[(Sl.v t310_5)]), (VI t310_6), (Value.agg #[(Sl.v t310_7)]), (Sl.v t310_8)] h_55 fun rv_36 h_56 => ∃ t328_3 : Sl, ∃ t328_4 : Bool, rv_36 = (Value.tuple #[(Sl.v t328_3), (VB t328_4)]) ∧ Vars h_56 [(b_9, [(Sl.v t310_7)]), (b_8, [(Sl.v t310_5)]), (b_5, [(Sl.v t81_1)]), (b_4, [(Sl.v t74_1)]), (b_3, [(Sl.v t66_1)]), (b_2, [(Sl.v t56_3)]), (b_1, [(Sl.v t56_1)])] ∧
  callM P 24 #[(Value.agg #[(Sl.v t310_5)]), (VI t310_6), (Value.agg #[(Sl.v t310_7)]), (Sl.v t310_8)] h_56 fun rv_37 h_57 => ∃ t336_3 : Int, ∃ t336_4 : Bool, rv_37 = (Value.tuple #[(VI t336_3), (VB t336_4)]) ∧ Vars h_57 [(b_9, [(Sl.v t310_7)]), (b_8, [(Sl.v t310_5)]), (b_5, [(Sl.v t81_1)]), (b_4, [(Sl.v t74_1)]), (b_3, [(Sl.v t66_1)]), (b_2, [(Sl.v t56_3)]), (b_1, [(Sl.v t56_1)])] ∧
  callM P 25 #[(Value.agg #[(Sl.v t310_5)]), (VI t310_6), (Value.agg #[(Sl.v t310_7)]), (Sl.v t310_8)] h_57 fun rv_38 h_58 => ∃ t344_3 : Int, ∃ t344_4 : Bool, rv_38 = (Value.tuple #[(VI t344_3), (VB t344_4)]) ∧ Vars h_58 [(b_9, [(Sl.v t310_7)]), (b_8, [(Sl.v t310_5)]), (b_5, [(Sl.v t81_1)]), (b_4, [(Sl.v t74_1)]), (b_3, [(Sl.v t66_1)]), (b_2, [(Sl.v t56_3)]), (b_1, [(Sl.v t56_1)])] ∧
  ((!(t320_4 == t328_4)) = true →
  K (VB false) h_58) ∧
  ((!(t320_4 == t328_4)) = false →
  callM P 16 #[(Sl.v t320_3), (Sl.v t328_3)] h_58 fun rv_39 h_59 => ∃ t353_2 : Bool, rv_39 = (VB t353_2) ∧ Vars h_59 [(b_9, [(Sl.v t310_7)]), (b_8, [(Sl.v t310_5)]), (b_5, [(Sl.v t81_1)]), (b_4, [(Sl.v t74_1)]), (b_3, [(Sl.v t66_1)]), (b_2, [(Sl.v t56_3)]), (b_1, [(Sl.v t56_1)])] ∧
  ((!t353_2) = true →
  K (VB false) h_59) ∧
  ((!t353_2) = false →
  ((!(t336_4 == t344_4)) = true →
  K (VB false) h_59) ∧
  ((!(t336_4 == t344_4)) = false →
  ((!decide (t336_3 = t344_3)) = true →
  K (VB false) h_59) ∧
  ((!decide (t336_3 = t344_3)) = false →
  ((!(t336_4 == t320_4)) = true →
  K (VB false) h_59) ∧
  ((!(t336_4 == t320_4)) = false →
  (t320_4 = true →
  callM P 13 #[(Value.agg #[(Sl.v t310_5)]), (VI t310_6), (Value.agg #[(Sl.v t310_7)])] h_59 fun rv_40 h_60 => ∃ t376_3 : Sl, ∃ t376_4 : Bool, rv_40 = (Value.tuple #[(Sl.v t376_3), (VB t376_4)]) ∧ Vars h_60 [(b_9, [(Sl.v t310_7)]), (b_8, [(Sl.v t310_5)]), (b_5, [(Sl.v t81_1)]), (b_4, [(Sl.v t74_1)]), (b_3, [(Sl.v t66_1)]), (b_2, [(Sl.v t56_3)]), (b_1, [(Sl.v t56_1)])] ∧
  callM P 9 #[(Value.agg #[(Sl.v t310_5)]), (VI t310_6), (Value.agg #[(Sl.v t310_7)])] h_60 fun rv_41 h_61 => ∃ t383_3 : Sl, ∃ t383_4 : Bool, rv_41 = (Value.tuple #[(Sl.v t383_3), (VB t383_4)]) ∧ Vars h_61 [(b_9, [(Sl.v t310_7)]), (b_8, [(Sl.v t310_5)]), (b_5, [(Sl.v t81_1)]), (b_4, [(Sl.v t74_1)]), (b_3, [(Sl.v t66_1)]), (b_2, [(Sl.v t56_3)]), (b_1, [(Sl.v t56_1)])] ∧
  (t376_4 = true →
  callM P 16 #[(Sl.v t376_3), (Sl.v t320_3)] h_61 fun rv_42 h_62 => ∃ t390_2 : Bool, rv_42 = (VB t390_2) ∧ Vars h_62 [(b_9, [(Sl.v t310_7)]), (b_8, [(Sl.v t310_5)]), (b_5, [(Sl.v t81_1)]), (b_4, [(Sl.v t74_1)]), (b_3, [(Sl.v t66_1)]), (b_2, [(Sl.v t56_3)]), (b_1, [(Sl.v t56_1)])] ∧
  (t390_2 = true →
  (t383_4 = true →
  callM P 20 #[(Sl.v t383_3)] h_62 fun rv_43 h_63 => ∃ t398_2 : Int, rv_43 = (VI t398_2) ∧ Vars h_63 [(b_9, [(Sl.v t310_7)]), (b_8, [(Sl.v t310_5)]), (b_5, [(Sl.v t81_1)]), (b_4, [(Sl.v t74_1)]), (b_3, [(Sl.v t66_1)]), (b_2, [(Sl.v t56_3)]), (b_1, [(Sl.v t56_1)])] ∧
  K (VB (decide (t336_3 = (w64 ((w64 (t398_2 + (t310_5.n : Int))) - 1))))) h_63) ∧
  (t383_4 = false →
  K (VB false) h_62)) ∧
  (t390_2 = false →
  K (VB false) h_62)) ∧
  (t376_4 = false →
  K (VB false) h_61)) ∧
  (t320_4 = false →
  K (VB true) h_59)))))))))))))))))))
theorem v3 (code0_1 : Sl) (more1_1 : Sl) (h : Heap) (K : Value → Heap → Prop) (H : u3 Tryz.prog code0_1 more1_1 h K) : callM Tryz.prog 3 #[(Sl.v code0_1), (Sl.v more1_1)] h K := by
  refine c3 (Sl.v code0_1) (Sl.v more1_1) h K ?_
  unfold u3 at H
  unfold t3
  have hL : Vars h [] := .nil
  refine H.mono fun rv_1 h_1 H => ?_
  obtain ⟨t53_1, rfl, hL_1, H⟩ := H
  refine condM_b (fun hb_1 => ?_) (fun hb_1 => ?_)
  ·have H := H.1 hb_1
   exact H
  have H := H.2 hb_1
  refine H.mono fun rv_2 h_2 H => ?_
  obtain ⟨t56_1, t56_2, t56_3, t56_4, rfl, hL_2, H⟩ := H
  refine pop_ext (v := (Value.agg #[(Sl.v t56_1)])) rfl ?_
  refine pop_ext (v := (VI t56_2)) rfl ?_
  refine pop_ext (v := (Value.agg #[(Sl.v t56_3)])) rfl ?_
  refine pop_ext (v := (Sl.v t56_4)) rfl ?_
  refine eop_alloc 26 zer26 rfl hL_2 (fun b_1 h_3 hb_2 hf_1 hL_3 => ?_)
  refine eop_alloc 28 zer28 rfl hL_3 (fun b_2 h_4 hb_3 hf_2 hL_4 => ?_)
  refine uop_loc siz26 hL_4 1 rfl 0 [(Sl.v t56_1)] rfl rfl rfl (Nat.le_of_ble_eq_true rfl) (L' := [(b_2, [(Sl.v nilSl)]), (b_1, [(Sl.v t56_1)])]) rfl (fun h_5 hf_3 hL_5 => ?_)
  refine uop_loc siz28 hL_5 0 rfl 0 [(Sl.v t56_3)] rfl rfl rfl (Nat.le_of_ble_eq_true rfl) (L' := [(b_2, [(Sl.v t56_3)]), (b_1, [(Sl.v t56_1)])]) rfl (fun h_6 hf_4 hL_6 => ?_)
  refine rop_locA agg26 hL_6 1 rfl 0 (vs := [(Sl.v t56_1)]) rfl rfl ?_
  refine rop_locA agg28 hL_6 0 rfl 0 (vs := [(Sl.v t56_3)]) rfl rfl ?_
  have H := H b_1 b_2 h_6 (Nat.le_trans (Fr.size (Fr.r (In []) _)) hb_2) (Nat.le_trans (Fr.size (Fr.no' (Fr.r (In []) _) hf_1)) hb_3) (Fr.new (Fr.new (Fr.no' (Fr.no' (Fr.r (In []) _) hf_1) hf_2) (Nat.le_trans (Fr.size (Fr.r (In []) _)) hb_2) hf_3) (Nat.le_trans (Fr.size (Fr.no' (Fr.r (In []) _) hf_1)) hb_3) hf_4) hL_6
  refine H.mono fun rv_3 h_7 H => ?_
  obtain ⟨t66_1, t66_2, rfl, hL_7, H⟩ := H
  refine pop_ext (v := (Value.agg #[(Sl.v t66_1)])) rfl ?_
  refine pop_ext (v := (VB t66_2)) rfl ?_
  refine eop_alloc 28 zer28 rfl hL_7 (fun b_3 h_8 hb_4 hf_5 hL_8 => ?_)
  refine uop_loc siz28 hL_8 0 rfl 0 [(Sl.v t66_1)] rfl rfl rfl (Nat.le_of_ble_eq_true rfl) (L' := [(b_3, [(Sl.v t66_1)]), (b_2, [(Sl.v t56_3)]), (b_1, [(Sl.v t56_1)])]) rfl (fun h_9 hf_6 hL_9 => ?_)
  refine rop_locA agg26 hL_9 2 rfl 0 (vs := [(Sl.v t56_1)]) rfl rfl ?_
  refine rop_locA agg28 hL_9 1 rfl 0 (vs := [(Sl.v t56_3)]) rfl rfl ?_
  have H := H b_3 h_9 (Nat.le_trans (Fr.size (Fr.r (In []) _)) hb_4) (Fr.new (Fr.no' (Fr.r (In []) _) hf_5) (Nat.le_trans (Fr.size (Fr.r (In []) _)) hb_4) hf_6) hL_9
  refine H.mono fun rv_4 h_10 H => ?_
  obtain ⟨t74_1, t74_2, rfl, hL_10, H⟩ := H
  refine pop_ext (v := (Value.agg #[(Sl.v t74_1)])) rfl ?_
  refine pop_ext (v := (VB t74_2)) rfl ?_
  refine eop_alloc 28 zer28 rfl hL_10 (fun b_4 h_11 hb_5 hf_7 hL_11 => ?_)
  refine uop_loc siz28 hL_11 0 rfl 0 [(Sl.v t74_1)] rfl rfl rfl (Nat.le_of_ble_eq_true rfl) (L' := [(b_4, [(Sl.v t74_1)]), (b_3, [(Sl.v t66_1)]), (b_2, [(Sl.v t56_3)]), (b_1, [(Sl.v t56_1)])]) rfl (fun h_12 hf_8 hL_12 => ?_)
  refine rop_locA agg26 hL_12 3 rfl 0 (vs := [(Sl.v t56_1)]) rfl rfl ?_
  refine rop_locA agg28 hL_12 2 rfl 0 (vs := [(Sl.v t56_3)]) rfl rfl ?_
  have H := H b_4 h_12 (Nat.le_trans (Fr.size (Fr.r (In []) _)) hb_5) (Fr.new (Fr.no' (Fr.r (In []) _) hf_7) (Nat.le_trans (Fr.size (Fr.r (In []) _)) hb_5) hf_8) hL_12
  refine H.mono fun rv_5 h_13 H => ?_
  obtain ⟨t81_1, t81_2, rfl, hL_13, H⟩ := H
  refine pop_ext (v := (Value.agg #[(Sl.v t81_1)])) rfl ?_
  refine pop_ext (v := (VB t81_2)) rfl ?_
  refine eop_alloc 28 zer28 rfl hL_13 (fun b_5 h_14 hb_6 hf_9 hL_14 => ?_)
  refine uop_loc siz28 hL_14 0 rfl 0 [(Sl.v t81_1)] rfl rfl rfl (Nat.le_of_ble_eq_true rfl) (L' := [(b_5, [(Sl.v t81_1)]), (b_4, [(Sl.v t74_1)]), (b_3, [(Sl.v t66_1)]), (b_2, [(Sl.v t56_3)]), (b_1, [(Sl.v t56_1)])]) rfl (fun h_15 hf_10 hL_15 => ?_)
  refine rop_locA agg26 hL_15 4 rfl 0 (vs := [(Sl.v t56_1)]) rfl rfl ?_
  refine rop_locA agg28 hL_15 3 rfl 0 (vs := [(Sl.v t56_3)]) rfl rfl ?_
  have H := H b_5 h_15 (Nat.le_trans (Fr.size (Fr.r (In []) _)) hb_6) (Fr.new (Fr.no' (Fr.r (In []) _) hf_9) (Nat.le_trans (Fr.size (Fr.r (In []) _)) hb_6) hf_10) hL_15
  refine H.mono fun rv_6 h_16 H => ?_
  obtain ⟨t88_1, t88_2, rfl, hL_16, H⟩ := H
  refine pop_ext (v := (Sl.v t88_1)) rfl ?_
  refine pop_ext (v := (VB t88_2)) rfl ?_
  refine rop_locA agg26 hL_16 4 rfl 0 (vs := [(Sl.v t56_1)]) rfl rfl ?_
  refine rop_locA agg28 hL_16 3 rfl 0 (vs := [(Sl.v t56_3)]) rfl rfl ?_
  refine H.mono fun rv_7 h_17 H => ?_
  obtain ⟨t95_1, t95_2, rfl, hL_17, H⟩ := H
  refine pop_ext (v := (Sl.v t95_1)) rfl ?_
  refine pop_ext (v := (VB t95_2)) rfl ?_
  refine rop_locA agg26 hL_17 4 rfl 0 (vs := [(Sl.v t56_1)]) rfl rfl ?_
  refine rop_locA agg28 hL_17 3 rfl 0 (vs := [(Sl.v t56_3)]) rfl rfl ?_
  refine H.mono fun rv_8 h_18 H => ?_
  obtain ⟨t102_1, t102_2, rfl, hL_18, H⟩ := H
  refine pop_ext (v := (VI t102_1)) rfl ?_
  refine pop_ext (v := (VB t102_2)) rfl ?_
  refine rop_locA agg26 hL_18 4 rfl 0 (vs := [(Sl.v t56_1)]) rfl rfl ?_
  refine rop_locA agg28 hL_18 3 rfl 0 (vs := [(Sl.v t56_3)]) rfl rfl ?_
  refine H.mono fun rv_9 h_19 H => ?_
  obtain ⟨t109_1, t109_2, rfl, hL_19, H⟩ := H
  refine pop_ext (v := (VI t109_1)) rfl ?_
  refine pop_ext (v := (VB t109_2)) rfl ?_
  refine rop_locA agg26 hL_19 4 rfl 0 (vs := [(Sl.v t56_1)]) rfl rfl ?_
  refine rop_locA agg28 hL_19 3 rfl 0 (vs := [(Sl.v t56_3)]) rfl rfl ?_
  refine H.mono fun rv_10 h_20 H => ?_
  obtain ⟨t116_1, t116_2, rfl, hL_20, H⟩ := H
  refine pop_ext (v := (Sl.v t116_1)) rfl ?_
  refine pop_ext (v := (VB t116_2)) rfl ?_
  refine rop_locA agg26 hL_20 4 rfl 0 (vs := [(Sl.v t56_1)]) rfl rfl ?_
  refine rop_locA agg28 hL_20 3 rfl 0 (vs := [(Sl.v t56_3)]) rfl rfl ?_
  refine H.mono fun rv_11 h_21 H => ?_
  obtain ⟨t123_1, t123_2, rfl, hL_21, H⟩ := H
  refine pop_ext (v := (Sl.v t123_1)) rfl ?_
  refine pop_ext (v := (VB t123_2)) rfl ?_
  refine pop_bne boo4 _ _ t66_2 t74_2 ?_
  refine guardM_sf (fun hb_7 => ?_) (fun hb_7 => ?_)
  rotate_left
  ·have H := H.1 hb_7
   refine guardM_n' hb_7 (by decide) ?_
   refine guardM_n' hb_7 (by decide) ?_
   refine guardM_n' hb_7 (by decide) ?_
   refine pop_pickt' hb_7 ?_
   refine guardM_n (by decide) ?_
   refine guardM_n (by decide) ?_
   refine guardM_n (by decide) ?_
   refine pop_pickt _ _ ?_
   refine guardM_n (by decide) ?_
   refine guardM_n (by decide) ?_
   refine guardM_n (by decide) ?_
   refine guardM_n (by decide) ?_
   refine pop_pickt _ _ ?_
   refine guardM_n (by decide) ?_
   refine guardM_n (by decide) ?_
   refine guardM_n (by decide) ?_
   refine pop_pickt _ _ ?_
   refine guardM_n (by decide) ?_
   refine guardM_n (by decide) ?_
   refine guardM_n (by decide) ?_
   refine pop_pickt _ _ ?_
   refine guardM_n (by decide) ?_
   refine guardM_n (by decide) ?_
   refine guardM_n (by decide) ?_
   refine pop_pickt _ _ ?_
   refine guardM_n (by decide) ?_
   refine guardM_n (by decide) ?_
   refine guardM_n (by decide) ?_
   refine guardM_n (by decide) ?_
   refine pop_pickt _ _ ?_
   refine guardM_n (by decide) ?_
   refine guardM_n (by decide) ?_
   refine guardM_n (by decide) ?_
   refine pop_pickt _ _ ?_
   refine guardM_n (by decide) ?_
   refine guardM_n (by decide) ?_
   refine guardM_n (by decide) ?_
   refine pop_pickt _ _ ?_
   refine guardM_n (by decide) ?_
   refine guardM_n (by decide) ?_
   refine guardM_n (by decide) ?_
   refine pop_pickt _ _ ?_
   refine guardM_n (by decide) ?_
   refine guardM_n (by decide) ?_
   refine guardM_n (by decide) ?_
   refine guardM_n (by decide) ?_
   refine guardM_n (by decide) ?_
   refine pop_pickt _ _ ?_
   refine condM_t ?_
   exact H
  have H := H.2 hb_7
  refine rop_locA agg28 hL_21 2 rfl 0 (vs := [(Sl.v t66_1)]) rfl rfl ?_
  refine guardM_y' hb_7 ?_
  refine rop_locA agg28 hL_21 1 rfl 0 (vs := [(Sl.v t74_1)]) rfl rfl ?_
  refine guardM_y' hb_7 ?_
  refine H.mono fun rv_12 h_22 H => ?_
  obtain ⟨t132_1, rfl, hL_22, H⟩ := H
  refine guardM_y' hb_7 ?_
  refine pop_not t132_1 ?_
  refine pop_pickf' hb_7 ?_
  refine guardM_sf (fun hb_8 => ?_) (fun hb_8 => ?_)
  rotate_left
  ·have H := H.1 hb_8
   refine guardM_n' hb_8 (by decide) ?_
   refine guardM_n' hb_8 (by decide) ?_
   refine pop_pickt' hb_8 ?_
   refine guardM_n (by decide) ?_
   refine guardM_n (by decide) ?_
   refine guardM_n (by decide) ?_
   refine guardM_n (by decide) ?_
   refine pop_pickt _ _ ?_
   refine guardM_n (by decide) ?_
   refine guardM_n (by decide) ?_
   refine guardM_n (by decide) ?_
   refine pop_pickt _ _ ?_
   refine guardM_n (by decide) ?_
   refine guardM_n (by decide) ?_
   refine guardM_n (by decide) ?_
   refine pop_pickt _ _ ?_
   refine guardM_n (by decide) ?_
   refine guardM_n (by decide) ?_
   refine guardM_n (by decide) ?_
   refine pop_pickt _ _ ?_
   refine guardM_n (by decide) ?_
   refine guardM_n (by decide) ?_
   refine guardM_n (by decide) ?_
   refine guardM_n (by decide) ?_
   refine pop_pickt _ _ ?_
   refine guardM_n (by decide) ?_
   refine guardM_n (by decide) ?_
   refine guardM_n (by decide) ?_
   refine pop_pickt _ _ ?_
   refine guardM_n (by decide) ?_
   refine guardM_n (by decide) ?_
   refine guardM_n (by decide) ?_
   refine pop_pickt _ _ ?_
   refine guardM_n (by decide) ?_
   refine guardM_n (by decide) ?_
   refine guardM_n (by decide) ?_
   refine pop_pickt _ _ ?_
   refine guardM_n (by decide) ?_
   refine guardM_n (by decide) ?_
   refine guardM_n (by decide) ?_
   refine guardM_n (by decide) ?_
   refine guardM_n (by decide) ?_
   refine pop_pickt _ _ ?_
   refine condM_t ?_
   exact H
  have H := H.2 hb_8
  refine guardM_y' hb_8 ?_
  refine guardM_y' hb_8 ?_
  refine pop_bne boo4 _ _ t88_2 t95_2 ?_
  refine pop_pickf' hb_8 ?_
  refine guardM_sf (fun hb_9 => ?_) (fun hb_9 => ?_)
  rotate_left
  ·have H := H.1 hb_9
   refine guardM_n' hb_9 (by decide) ?_
   refine guardM_n' hb_9 (by decide) ?_
   refine guardM_n' hb_9 (by decide) ?_
   refine pop_pickt' hb_9 ?_
   refine guardM_n (by decide) ?_
   refine guardM_n (by decide) ?_
   refine guardM_n (by decide) ?_
   refine pop_pickt _ _ ?_
   refine guardM_n (by decide) ?_
   refine guardM_n (by decide) ?_
   refine guardM_n (by decide) ?_
   refine pop_pickt _ _ ?_
   refine guardM_n (by decide) ?_
   refine guardM_n (by decide) ?_
   refine guardM_n (by decide) ?_
   refine pop_pickt _ _ ?_
   refine guardM_n (by decide) ?_
   refine guardM_n (by decide) ?_
   refine guardM_n (by decide) ?_
   refine guardM_n (by decide) ?_
   refine pop_pickt _ _ ?_
   refine guardM_n (by decide) ?_
   refine guardM_n (by decide) ?_
   refine guardM_n (by decide) ?_
   refine pop_pickt _ _ ?_
   refine guardM_n (by decide) ?_
   refine guardM_n (by decide) ?_
   refine guardM_n (by decide) ?_
   refine pop_pickt _ _ ?_
   refine guardM_n (by decide) ?_
   refine guardM_n (by decide) ?_
   refine guardM_n (by decide) ?_
   refine pop_pickt _ _ ?_
   refine guardM_n (by decide) ?_
   refine guardM_n (by decide) ?_
   refine guardM_n (by decide) ?_
   refine guardM_n (by decide) ?_
   refine guardM_n (by decide) ?_
   refine pop_pickt _ _ ?_
   refine condM_t ?_
   exact H
  have H := H.2 hb_9
  refine guardM_y' hb_9 ?_
  refine guardM_y' hb_9 ?_
  refine H.mono fun rv_13 h_23 H => ?_
  obtain ⟨t143_1, rfl, hL_23, H⟩ := H
  refine guardM_y' hb_9 ?_
  refine pop_not t143_1 ?_
  refine pop_pickf' hb_9 ?_
  refine guardM_sf (fun hb_10 => ?_) (fun hb_10 => ?_)
  rotate_left
  ·have H := H.1 hb_10
   refine guardM_n' hb_10 (by decide) ?_
   refine guardM_n' hb_10 (by decide) ?_
   refine pop_pickt' hb_10 ?_
   refine guardM_n (by decide) ?_
   refine guardM_n (by decide) ?_
   refine guardM_n (by decide) ?_
   refine pop_pickt _ _ ?_
   refine guardM_n (by decide) ?_
   refine guardM_n (by decide) ?_
   refine guardM_n (by decide) ?_
   refine pop_pickt _ _ ?_
   refine guardM_n (by decide) ?_
   refine guardM_n (by decide) ?_
   refine guardM_n (by decide) ?_
   refine guardM_n (by decide) ?_
   refine pop_pickt _ _ ?_
   refine guardM_n (by decide) ?_
   refine guardM_n (by decide) ?_
   refine guardM_n (by decide) ?_
   refine pop_pickt _ _ ?_
   refine guardM_n (by decide) ?_
   refine guardM_n (by decide) ?_
   refine guardM_n (by decide) ?_
   refine pop_pickt _ _ ?_
   refine guardM_n (by decide) ?_
   refine guardM_n (by decide) ?_
   refine guardM_n (by decide) ?_
   refine pop_pickt _ _ ?_
   refine guardM_n (by decide) ?_
   refine guardM_n (by decide) ?_
   refine guardM_n (by decide) ?_
   refine guardM_n (by decide) ?_
   refine guardM_n (by decide) ?_
   refine pop_pickt _ _ ?_
   refine condM_t ?_
   exact H
  have H := H.2 hb_10
  refine guardM_y' hb_10 ?_
  refine guardM_y' hb_10 ?_
  refine pop_bne boo4 _ _ t102_2 t109_2 ?_
  refine pop_pickf' hb_10 ?_
  refine guardM_sf (fun hb_11 => ?_) (fun hb_11 => ?_)
  rotate_left
  ·have H := H.1 hb_11
   refine guardM_n' hb_11 (by decide) ?_
   refine guardM_n' hb_11 (by decide) ?_
   refine pop_pickt' hb_11 ?_
   refine guardM_n (by decide) ?_
   refine guardM_n (by decide) ?_
   refine guardM_n (by decide) ?_
   refine pop_pickt _ _ ?_
   refine guardM_n (by decide) ?_
   refine guardM_n (by decide) ?_
   refine guardM_n (by decide) ?_
   refine guardM_n (by decide) ?_
   refine pop_pickt _ _ ?_
   refine guardM_n (by decide) ?_
   refine guardM_n (by decide) ?_
   refine guardM_n (by decide) ?_
   refine pop_pickt _ _ ?_
   refine guardM_n (by decide) ?_
   refine guardM_n (by decide) ?_
   refine guardM_n (by decide) ?_
   refine pop_pickt _ _ ?_
   refine guardM_n (by decide) ?_
   refine guardM_n (by decide) ?_
   refine guardM_n (by decide) ?_
   refine pop_pickt _ _ ?_
   refine guardM_n (by decide) ?_
   refine guardM_n (by decide) ?_
   refine guardM_n (by decide) ?_
   refine guardM_n (by decide) ?_
   refine guardM_n (by decide) ?_
   refine pop_pickt _ _ ?_
   refine condM_t ?_
   exact H
  have H := H.2 hb_11
  refine guardM_y' hb_11 ?_
  refine guardM_y' hb_11 ?_
  refine pop_ine .i64 _ _ t102_1 t109_1 ?_
  refine pop_pickf' hb_11 ?_
  refine guardM_sf (fun hb_12 => ?_) (fun hb_12 => ?_)
  rotate_left
  ·have H := H.1 hb_12
   refine guardM_n' hb_12 (by decide) ?_
   refine guardM_n' hb_12 (by decide) ?_
   refine pop_pickt' hb_12 ?_
   refine guardM_n (by decide) ?_
   refine guardM_n (by decide) ?_
   refine guardM_n (by decide) ?_
   refine guardM_n (by decide) ?_
   refine pop_pickt _ _ ?_
   refine guardM_n (by decide) ?_
   refine guardM_n (by decide) ?_
   refine guardM_n (by decide) ?_
   refine pop_pickt _ _ ?_
   refine guardM_n (by decide) ?_
   refine guardM_n (by decide) ?_
   refine guardM_n (by decide) ?_
   refine pop_pickt _ _ ?_
   refine guardM_n (by decide) ?_
   refine guardM_n (by decide) ?_
   refine guardM_n (by decide) ?_
   refine pop_pickt _ _ ?_
   refine guardM_n (by decide) ?_
   refine guardM_n (by decide) ?_
   refine guardM_n (by decide) ?_
   refine guardM_n (by decide) ?_
   refine guardM_n (by decide) ?_
   refine pop_pickt _ _ ?_
   refine condM_t ?_
   exact H
  have H := H.2 hb_12
  refine guardM_y' hb_12 ?_
  refine guardM_y' hb_12 ?_
  refine pop_bne boo4 _ _ t116_2 t123_2 ?_
  refine pop_pickf' hb_12 ?_
  refine guardM_sf (fun hb_13 => ?_) (fun hb_13 => ?_)
  rotate_left
  ·have H := H.1 hb_13
   refine guardM_n' hb_13 (by decide) ?_
   refine guardM_n' hb_13 (by decide) ?_
   refine guardM_n' hb_13 (by decide) ?_
   refine pop_pickt' hb_13 ?_
   refine guardM_n (by decide) ?_
   refine guardM_n (by decide) ?_
   refine guardM_n (by decide) ?_
   refine pop_pickt _ _ ?_
   refine guardM_n (by decide) ?_
   refine guardM_n (by decide) ?_
   refine guardM_n (by decide) ?_
   refine pop_pickt _ _ ?_
   refine guardM_n (by decide) ?_
   refine guardM_n (by decide) ?_
   refine guardM_n (by decide) ?_
   refine pop_pickt _ _ ?_
   refine guardM_n (by decide) ?_
   refine guardM_n (by decide) ?_
   refine guardM_n (by decide) ?_
   refine guardM_n (by decide) ?_
   refine guardM_n (by decide) ?_
   refine pop_pickt _ _ ?_
   refine condM_t ?_
   exact H
  have H := H.2 hb_13
  refine guardM_y' hb_13 ?_
  refine guardM_y' hb_13 ?_
  refine H.mono fun rv_14 h_24 H => ?_
  obtain ⟨t164_1, rfl, hL_24, H⟩ := H
  refine guardM_y' hb_13 ?_
  refine pop_not t164_1 ?_
  refine pop_pickf' hb_13 ?_
  refine guardM_sf (fun hb_14 => ?_) (fun hb_14 => ?_)
  rotate_left
  ·have H := H.1 hb_14
   refine guardM_n' hb_14 (by decide) ?_
   refine guardM_n' hb_14 (by decide) ?_
   refine pop_pickt' hb_14 ?_
   refine guardM_n (by decide) ?_
   refine guardM_n (by decide) ?_
   refine guardM_n (by decide) ?_
   refine pop_pickt _ _ ?_
   refine guardM_n (by decide) ?_
   refine guardM_n (by decide) ?_
   refine guardM_n (by decide) ?_
   refine pop_pickt _ _ ?_
   refine guardM_n (by decide) ?_
   refine guardM_n (by decide) ?_
   refine guardM_n (by decide) ?_
   refine guardM_n (by decide) ?_
   refine guardM_n (by decide) ?_
   refine pop_pickt _ _ ?_
   refine condM_t ?_
   exact H
  have H := H.2 hb_14
  refine guardM_y' hb_14 ?_
  refine guardM_y' hb_14 ?_
  refine pop_bne boo4 _ _ t81_2 t88_2 ?_
  refine pop_pickf' hb_14 ?_
  refine guardM_sf (fun hb_15 => ?_) (fun hb_15 => ?_)
  rotate_left
  ·have H := H.1 hb_15
   refine guardM_n' hb_15 (by decide) ?_
   refine guardM_n' hb_15 (by decide) ?_
   refine pop_pickt' hb_15 ?_
   refine guardM_n (by decide) ?_
   refine guardM_n (by decide) ?_
   refine guardM_n (by decide) ?_
   refine pop_pickt _ _ ?_
   refine guardM_n (by decide) ?_
   refine guardM_n (by decide) ?_
   refine guardM_n (by decide) ?_
   refine guardM_n (by decide) ?_
   refine guardM_n (by decide) ?_
   refine pop_pickt _ _ ?_
   refine condM_t ?_
   exact H
  have H := H.2 hb_15
  refine guardM_y' hb_15 ?_
  refine guardM_y' hb_15 ?_
  refine pop_bne boo4 _ _ t102_2 t88_2 ?_
  refine pop_pickf' hb_15 ?_
  refine guardM_sf (fun hb_16 => ?_) (fun hb_16 => ?_)
  rotate_left
  ·have H := H.1 hb_16
   refine guardM_n' hb_16 (by decide) ?_
   refine guardM_n' hb_16 (by decide) ?_
   refine pop_pickt' hb_16 ?_
   refine guardM_n (by decide) ?_
   refine guardM_n (by decide) ?_
   refine guardM_n (by decide) ?_
   refine guardM_n (by decide) ?_
   refine guardM_n (by decide) ?_
   refine pop_pickt _ _ ?_
   refine condM_t ?_
   exact H
  have H := H.2 hb_16
  refine guardM_y' hb_16 ?_
  refine guardM_y' hb_16 ?_
  refine pop_bne boo4 _ _ t116_2 t88_2 ?_
  refine pop_pickf' hb_16 ?_
  refine guardM_sf (fun hb_17 => ?_) (fun hb_17 => ?_)
  rotate_left
  ·have H := H.1 hb_17
   refine guardM_n' hb_17 (by decide) ?_
   refine guardM_n (by decide) ?_
   refine guardM_n (by decide) ?_
   refine guardM_n' hb_17 (by decide) ?_
   refine pop_pickt' hb_17 ?_
   refine condM_t ?_
   exact H
  have H := H.2 hb_17
  refine guardM_y' hb_17 ?_
  refine guardM_st (fun hb_18 => ?_) (fun hb_18 => ?_)
  rotate_left
  ·have H := H.2 hb_18
   refine guardM_n' hb_18 (by decide) ?_
   refine guardM_y' hb_17 ?_
   refine pop_pickf' hb_18 ?_
   refine pop_pickf' hb_17 ?_
   refine condM_f ?_
   obtain ⟨J_3, H, HB_3⟩ := H
   refine ⟨fun (vs : List Value) (h' : Heap) => vs = [] ∧ J_3  h' ∧ Vars h' [(b_5, [(Sl.v t81_1)]), (b_4, [(Sl.v t74_1)]), (b_3, [(Sl.v t66_1)]), (b_2, [(Sl.v t56_3)]), (b_1, [(Sl.v t56_1)])], ?_, ?_⟩
   ·refine condM_f' hb_18 ?_
    exact ⟨rfl, H, hL_24⟩
   intro junk_3  h_49
   rintro ⟨hv, hJ_3, hL_49⟩
   have H := HB_3  h_49 hJ_3 hL_49
   refine H.mono fun rv_34 h_50 H => ?_
   obtain ⟨t310_5, t310_6, t310_7, t310_8, rfl, hL_50, H⟩ := H
   refine pop_ext (v := (Value.agg #[(Sl.v t310_5)])) rfl ?_
   refine pop_ext (v := (VI t310_6)) rfl ?_
   refine pop_ext (v := (Value.agg #[(Sl.v t310_7)])) rfl ?_
   refine pop_ext (v := (Sl.v t310_8)) rfl ?_
   refine eop_alloc 26 zer26 rfl hL_50 (fun b_8 h_51 hb_45 hf_15 hL_51 => ?_)
   refine eop_alloc 28 zer28 rfl hL_51 (fun b_9 h_52 hb_46 hf_16 hL_52 => ?_)
   refine uop_loc siz26 hL_52 1 rfl 0 [(Sl.v t310_5)] rfl rfl rfl (Nat.le_of_ble_eq_true rfl) (L' := [(b_9, [(Sl.v nilSl)]), (b_8, [(Sl.v t310_5)]), (b_5, [(Sl.v t81_1)]), (b_4, [(Sl.v t74_1)]), (b_3, [(Sl.v t66_1)]), (b_2, [(Sl.v t56_3)]), (b_1, [(Sl.v t56_1)])]) rfl (fun h_53 hf_17 hL_53 => ?_)
   refine uop_loc siz28 hL_53 0 rfl 0 [(Sl.v t310_7)] rfl rfl rfl (Nat.le_of_ble_eq_true rfl) (L' := [(b_9, [(Sl.v t310_7)]), (b_8, [(Sl.v t310_5)]), (b_5, [(Sl.v t81_1)]), (b_4, [(Sl.v t74_1)]), (b_3, [(Sl.v t66_1)]), (b_2, [(Sl.v t56_3)]), (b_1, [(Sl.v t56_1)])]) rfl (fun h_54 hf_18 hL_54 => ?_)
   refine rop_locA agg26 hL_54 1 rfl 0 (vs := [(Sl.v t310_5)]) rfl rfl ?_
   refine rop_locA agg28 hL_54 0 rfl 0 (vs := [(Sl.v t310_7)]) rfl rfl ?_
   have H := H b_8 b_9 h_54 (Nat.le_trans (Fr.size (Fr.r (In []) _)) hb_45) (Nat.le_trans (Fr.size (Fr.no' (Fr.r (In []) _) hf_15)) hb_46) (Fr.new (Fr.new (Fr.no' (Fr.no' (Fr.r (In []) _) hf_15) hf_16) (Nat.le_trans (Fr.size (Fr.r (In []) _)) hb_45) hf_17) (Nat.le_trans (Fr.size (Fr.no' (Fr.r (In []) _) hf_15)) hb_46) hf_18) hL_54
   refine H.mono fun rv_35 h_55 H => ?_
   obtain ⟨t320_3, t320_4, rfl, hL_55, H⟩ := H
   refine pop_ext (v := (Sl.v t320_3)) rfl ?_
   refine pop_ext (v := (VB t320_4)) rfl ?_
   refine rop_locA agg26 hL_55 1 rfl 0 (vs := [(Sl.v t310_5)]) rfl rfl ?_
   refine rop_locA agg28 hL_55 0 rfl 0 (vs := [(Sl.v t310_7)]) rfl rfl ?_
   refine H.mono fun rv_36 h_56 H => ?_
   obtain ⟨t328_3, t328_4, rfl, hL_56, H⟩ := H
   refine pop_ext (v := (Sl.v t328_3)) rfl ?_
   refine pop_ext (v := (VB t328_4)) rfl ?_
   refine rop_locA agg26 hL_56 1 rfl 0 (vs := [(Sl.v t310_5)]) rfl rfl ?_
   refine rop_locA agg28 hL_56 0 rfl 0 (vs := [(Sl.v t310_7)]) rfl rfl ?_
   refine H.mono fun rv_37 h_57 H => ?_
   obtain ⟨t336_3, t336_4, rfl, hL_57, H⟩ := H
   refine pop_ext (v := (VI t336_3)) rfl ?_
   refine pop_ext (v := (VB t336_4)) rfl ?_
   refine rop_locA agg26 hL_57 1 rfl 0 (vs := [(Sl.v t310_5)]) rfl rfl ?_
   refine rop_locA agg28 hL_57 0 rfl 0 (vs := [(Sl.v t310_7)]) rfl rfl ?_
   refine H.mono fun rv_38 h_58 H => ?_
   obtain ⟨t344_3, t344_4, rfl, hL_58, H⟩ := H
   refine pop_ext (v := (VI t344_3)) rfl ?_
   refine pop_ext (v := (VB t344_4)) rfl ?_
   refine pop_bne boo4 _ _ t320_4 t328_4 ?_
   refine guardM_sf (fun hb_47 => ?_) (fun hb_47 => ?_)
   rotate_left
   ·have H := H.1 hb_47
    refine guardM_n' hb_47 (by decide) ?_
    refine guardM_n' hb_47 (by decide) ?_
    refine guardM_n' hb_47 (by decide) ?_
    refine pop_pickt' hb_47 ?_
    refine guardM_n (by decide) ?_
    refine guardM_n (by decide) ?_
    refine guardM_n (by decide) ?_
    refine pop_pickt _ _ ?_
    refine guardM_n (by decide) ?_
    refine guardM_n (by decide) ?_
    refine guardM_n (by decide) ?_
    refine pop_pickt _ _ ?_
    refine guardM_n (by decide) ?_
    refine guardM_n (by decide) ?_
    refine guardM_n (by decide) ?_
    refine pop_pickt _ _ ?_
    refine condM_t ?_
    exact H
   have H := H.2 hb_47
   refine guardM_y' hb_47 ?_
   refine guardM_y' hb_47 ?_
   refine H.mono fun rv_39 h_59 H => ?_
   obtain ⟨t353_2, rfl, hL_59, H⟩ := H
   refine guardM_y' hb_47 ?_
   refine pop_not t353_2 ?_
   refine pop_pickf' hb_47 ?_
   refine guardM_sf (fun hb_48 => ?_) (fun hb_48 => ?_)
   rotate_left
   ·have H := H.1 hb_48
    refine guardM_n' hb_48 (by decide) ?_
    refine guardM_n' hb_48 (by decide) ?_
    refine pop_pickt' hb_48 ?_
    refine guardM_n (by decide) ?_
    refine guardM_n (by decide) ?_
    refine guardM_n (by decide) ?_
    refine pop_pickt _ _ ?_
    refine guardM_n (by decide) ?_
    refine guardM_n (by decide) ?_
    refine guardM_n (by decide) ?_
    refine pop_pickt _ _ ?_
    refine condM_t ?_
    exact H
   have H := H.2 hb_48
   refine guardM_y' hb_48 ?_
   refine guardM_y' hb_48 ?_
   refine pop_bne boo4 _ _ t336_4 t344_4 ?_
   refine pop_pickf' hb_48 ?_
   refine guardM_sf (fun hb_49 => ?_) (fun hb_49 => ?_)
   rotate_left
   ·have H := H.1 hb_49
    refine guardM_n' hb_49 (by decide) ?_
    refine guardM_n' hb_49 (by decide) ?_
    refine pop_pickt' hb_49 ?_
    refine guardM_n (by decide) ?_
    refine guardM_n (by decide) ?_
    refine guardM_n (by decide) ?_
    refine pop_pickt _ _ ?_
    refine condM_t ?_
    exact H
   have H := H.2 hb_49
   refine guardM_y' hb_49 ?_
   refine guardM_y' hb_49 ?_
   refine pop_ine .i64 _ _ t336_3 t344_3 ?_
   refine pop_pickf' hb_49 ?_
   refine guardM_sf (fun hb_50 => ?_) (fun hb_50 => ?_)
   rotate_left
   ·have H := H.1 hb_50
    refine guardM_n' hb_50 (by decide) ?_
    refine guardM_n' hb_50 (by decide) ?_
    refine pop_pickt' hb_50 ?_
    refine condM_t ?_
    exact H
   have H := H.2 hb_50
   refine guardM_y' hb_50 ?_
   refine guardM_y' hb_50 ?_
   refine pop_bne boo4 _ _ t336_4 t320_4 ?_
   refine pop_pickf' hb_50 ?_
   refine condM_b (fun hb_51 => ?_) (fun hb_51 => ?_)
   ·have H := H.1 hb_51
    exact H
   have H := H.2 hb_51
   refine condM_b (fun hb_52 => ?_) (fun hb_52 => ?_)
   rotate_left
   ·have H := H.2 hb_52
    exact H
   have H := H.1 hb_52
   refine rop_locA agg26 hL_59 1 rfl 0 (vs := [(Sl.v t310_5)]) rfl rfl ?_
   refine rop_locA agg28 hL_59 0 rfl 0 (vs := [(Sl.v t310_7)]) rfl rfl ?_
   refine H.mono fun rv_40 h_60 H => ?_
   obtain ⟨t376_3, t376_4, rfl, hL_60, H⟩ := H
   refine pop_ext (v := (Sl.v t376_3)) rfl ?_
   refine pop_ext (v := (VB t376_4)) rfl ?_
   refine rop_locA agg26 hL_60 1 rfl 0 (vs := [(Sl.v t310_5)]) rfl rfl ?_
   refine rop_locA agg28 hL_60 0 rfl 0 (vs := [(Sl.v t310_7)]) rfl rfl ?_
   refine H.mono fun rv_41 h_61 H => ?_
   obtain ⟨t383_3, t383_4, rfl, hL_61, H⟩ := H
   refine pop_ext (v := (Sl.v t383_3)) rfl ?_
   refine pop_ext (v := (VB t383_4)) rfl ?_
   refine guardM_st (fun hb_53 => ?_) (fun hb_53 => ?_)
   rotate_left
   ·have H := H.2 hb_53
    refine guardM_n' hb_53 (by decide) ?_
    refine guardM_n' hb_53 (by decide) ?_
    refine pop_pickf' hb_53 ?_
    refine guardM_n (by decide) ?_
    refine pop_pickf _ _ ?_
    refine guardM_n (by decide) ?_
    refine guardM_n (by decide) ?_
    refine guardM_n (by decide) ?_
    refine guardM_n (by decide) ?_
    refine guardM_n (by decide) ?_
    refine guardM_n (by decide) ?_
    refine ⟨⟨_, rfl, fun h => absurd (h.symm.trans rfl) (by decide), fun _ => rfl⟩, ?_⟩
    refine guardM_n (by decide) ?_
    refine guardM_n (by decide) ?_
    refine guardM_n (by decide) ?_
    refine pop_pickf _ _ ?_
    exact H
   have H := H.1 hb_53
   refine guardM_y' hb_53 ?_
   refine guardM_y' hb_53 ?_
   refine H.mono fun rv_42 h_62 H => ?_
   obtain ⟨t390_2, rfl, hL_62, H⟩ := H
   refine pop_pickt' hb_53 ?_
   refine guardM_st (fun hb_54 => ?_) (fun hb_54 => ?_)
   rotate_left
   ·have H := H.2 hb_54
    refine pop_pickf' hb_54 ?_
    refine guardM_n (by decide) ?_
    refine guardM_n (by decide) ?_
    refine guardM_n (by decide) ?_
    refine guardM_n (by decide) ?_
    refine guardM_n (by decide) ?_
    refine guardM_n (by decide) ?_
    refine ⟨⟨_, rfl, fun h => absurd (h.symm.trans rfl) (by decide), fun _ => rfl⟩, ?_⟩
    refine guardM_n (by decide) ?_
    refine guardM_n (by decide) ?_
    refine guardM_n (by decide) ?_
    refine pop_pickf _ _ ?_
    exact H
   have H := H.1 hb_54
   refine pop_pickt' hb_54 ?_
   refine guardM_st (fun hb_55 => ?_) (fun hb_55 => ?_)
   rotate_left
   ·have H := H.2 hb_55
    refine guardM_n' hb_55 (by decide) ?_
    refine guardM_n' hb_55 (by decide) ?_
    refine guardM_n' hb_55 (by decide) ?_
    refine guardM_n' hb_55 (by decide) ?_
    refine guardM_n' hb_55 (by decide) ?_
    refine ⟨⟨_, rfl, fun h => absurd (h.symm.trans hb_55) (by decide), fun _ => rfl⟩, ?_⟩
    refine guardM_n' hb_55 (by decide) ?_
    refine guardM_n' hb_55 (by decide) ?_
    refine guardM_n' hb_55 (by decide) ?_
    refine pop_pickf' hb_55 ?_
    exact H
   have H := H.1 hb_55
   refine guardM_y' hb_55 ?_
   refine guardM_y' hb_55 ?_
   refine pop_field 0 fld26_0 b_8 0 ?_
   refine guardM_y' hb_55 ?_
   refine rop_loc one24 hL_62 1 rfl 0 (v := (Sl.v t310_5)) rfl ?_
   refine guardM_y' hb_55 ?_
   refine pop_len t310_5 _ _ sli24 ?_
   refine guardM_y' hb_55 ?_
   refine H.mono fun rv_43 h_63 H => ?_
   obtain ⟨t398_2, rfl, hL_63, H⟩ := H
   refine ⟨⟨_, rfl, fun _ => ?_, fun h => absurd hb_55 h⟩, ?_⟩
   ·exact still_loc one24 hL_63 1 rfl 0 (v := (Sl.v t310_5)) rfl
   refine guardM_y' hb_55 ?_
   refine pop_add .i64 t398_2 (t310_5.n : Int) ?_
   refine guardM_y' hb_55 ?_
   refine pop_sub .i64 (w64 (t398_2 + (t310_5.n : Int))) 1 ?_
   refine guardM_y' hb_55 ?_
   refine pop_ieq .i64 _ _ t336_3 (w64 ((w64 (t398_2 + (t310_5.n : Int))) - 1)) ?_
   refine pop_pickt' hb_55 ?_
   exact H
  have H := H.1 hb_18
  refine guardM_y' hb_18 ?_
  refine pop_not t81_2 ?_
  refine guardM_y' hb_17 ?_
  refine pop_pickt' hb_18 ?_
  refine pop_pickf' hb_17 ?_
  refine condM_b (fun hb_19 => ?_) (fun hb_19 => ?_)
  ·have H := H.1 hb_19
   exact H
  have H := H.2 hb_19
  obtain ⟨J_1, H, HB_2⟩ := H
  refine ⟨fun (vs : List Value) (h' : Heap) => vs = [] ∧ J_1  h' ∧ Vars h' [(b_5, [(Sl.v t81_1)]), (b_4, [(Sl.v t74_1)]), (b_3, [(Sl.v t66_1)]), (b_2, [(Sl.v t56_3)]), (b_1, [(Sl.v t56_1)])], ?_, ?_⟩
  ·refine condM_t' hb_18 ?_
   refine rop_locA agg28 hL_24 2 rfl 0 (vs := [(Sl.v t66_1)]) rfl rfl ?_
   refine rop_locA agg28 hL_24 0 rfl 0 (vs := [(Sl.v t81_1)]) rfl rfl ?_
   refine H.mono fun rv_15 h_25 H => ?_
   obtain ⟨t192_1, rfl, hL_25, H⟩ := H
   refine pop_not t192_1 ?_
   refine guardM_sf (fun hb_20 => ?_) (fun hb_20 => ?_)
   rotate_left
   ·have H := H.1 hb_20
    refine guardM_n' hb_20 (by decide) ?_
    refine guardM_n' hb_20 (by decide) ?_
    refine guardM_n' hb_20 (by decide) ?_
    refine guardM_n' hb_20 (by decide) ?_
    refine guardM_n' hb_20 (by decide) ?_
    refine pop_pickt' hb_20 ?_
    refine guardM_n (by decide) ?_
    refine guardM_n (by decide) ?_
    refine guardM_n (by decide) ?_
    refine guardM_n (by decide) ?_
    refine guardM_n (by decide) ?_
    refine pop_pickt _ _ ?_
    refine condM_t ?_
    exact H
   have H := H.2 hb_20
   refine guardM_y' hb_20 ?_
   refine pop_len t88_1 _ _ sli29 ?_
   refine guardM_y' hb_20 ?_
   refine pop_field 0 fld26_0 b_1 0 ?_
   refine guardM_y' hb_20 ?_
   refine rop_loc one24 hL_25 4 rfl 0 (v := (Sl.v t56_1)) rfl ?_
   refine guardM_y' hb_20 ?_
   refine pop_len t56_1 _ _ sli24 ?_
   refine guardM_y' hb_20 ?_
   refine pop_ine .i64 _ _ (t88_1.n : Int) (t56_1.n : Int) ?_
   refine pop_pickf' hb_20 ?_
   refine guardM_sf (fun hb_21 => ?_) (fun hb_21 => ?_)
   rotate_left
   ·have H := H.1 hb_21
    refine guardM_n' hb_21 (by decide) ?_
    refine guardM_n' hb_21 (by decide) ?_
    refine guardM_n' hb_21 (by decide) ?_
    refine guardM_n' hb_21 (by decide) ?_
    refine pop_pickt' hb_21 ?_
    refine condM_t ?_
    exact H
   have H := H.2 hb_21
   refine guardM_y' hb_21 ?_
   refine guardM_y' hb_21 ?_
   obtain ⟨hi_1, H⟩ := H
   refine pop_index sli29 siz3 .i64 t88_1 t56_2 hi_1 ?_
   refine guardM_y' hb_21 ?_
   obtain ⟨t206_1, hc_11, H⟩ := H
   refine rop_one one3 (VI t206_1) hc_11 ?_
   refine guardM_y' hb_21 ?_
   refine pop_ine .i64 _ _ t206_1 0 ?_
   refine pop_pickf' hb_21 ?_
   refine condM_b (fun hb_22 => ?_) (fun hb_22 => ?_)
   ·have H := H.1 hb_22
    exact H
   have H := H.2 hb_22
   refine pop_len t88_1 _ _ sli29 ?_
   obtain ⟨J_2, ⟨n_2, h0_1⟩, HB_1⟩ := H
   refine loop_intro (J := fun (n : Nat) (vs : List Value) (h' : Heap) => ∃ t211_1 : Int, vs = [(VI t211_1)] ∧ J_2 n t211_1 h' ∧ Vars h' [(b_5, [(Sl.v t81_1)]), (b_4, [(Sl.v t74_1)]), (b_3, [(Sl.v t66_1)]), (b_2, [(Sl.v t56_3)]), (b_1, [(Sl.v t56_1)])]) n_2 ⟨0, rfl, h0_1, hL_25⟩ ?_
   intro I_1 mu_1 hI_1 junk_1 tv_1 h_26 hi_2
   obtain ⟨n_1, ⟨t211_1, hv, hJ_1, hL_26⟩, hn_1⟩ := hI_1 _ _ hi_2
   cases hv
   have H := HB_1 n_1 t211_1 h_26 hJ_1 hL_26
   refine pop_lss .i64 t211_1 (t88_1.n : Int) ?_
   refine condM_b (fun hb_23 => ?_) (fun hb_23 => ?_)
   ·have H := H.1 hb_23
    obtain ⟨hi_3, H⟩ := H
    refine pop_index sli29 siz3 .i64 t88_1 t211_1 hi_3 ?_
    obtain ⟨t215_1, hc_10, H⟩ := H
    refine rop_one one3 (VI t215_1) hc_10 ?_
    refine pop_field 0 fld28_0 b_3 0 ?_
    refine rop_loc one24 hL_26 2 rfl 0 (v := (Sl.v t66_1)) rfl ?_
    obtain ⟨hi_4, H⟩ := H
    refine pop_index sli24 siz29 .i64 t66_1 t211_1 hi_4 ?_
    obtain ⟨t220_1, hc_9, H⟩ := H
    refine rop_one one29 (Sl.v t220_1) hc_9 ?_
    refine pop_len t220_1 _ _ sli29 ?_
    refine pop_field 0 fld28_0 b_2 0 ?_
    refine rop_loc one24 hL_26 3 rfl 0 (v := (Sl.v t56_3)) rfl ?_
    obtain ⟨hi_5, H⟩ := H
    refine pop_index sli24 siz29 .i64 t56_3 t211_1 hi_5 ?_
    obtain ⟨t226_1, hc_8, H⟩ := H
    refine rop_one one29 (Sl.v t226_1) hc_8 ?_
    refine pop_len t226_1 _ _ sli29 ?_
    refine pop_sub .i64 (t226_1.n : Int) t215_1 ?_
    refine pop_ine .i64 _ _ (t220_1.n : Int) (w64 ((t226_1.n : Int) - t215_1)) ?_
    refine guardM_sf (fun hb_24 => ?_) (fun hb_24 => ?_)
    rotate_left
    ·have H := H.1 hb_24
     refine guardM_n' hb_24 (by decide) ?_
     refine guardM_n' hb_24 (by decide) ?_
     refine guardM_n' hb_24 (by decide) ?_
     refine guardM_n' hb_24 (by decide) ?_
     refine guardM_n' hb_24 (by decide) ?_
     refine guardM_n' hb_24 (by decide) ?_
     refine guardM_n' hb_24 (by decide) ?_
     refine guardM_n' hb_24 (by decide) ?_
     refine guardM_n' hb_24 (by decide) ?_
     refine guardM_n' hb_24 (by decide) ?_
     refine guardM_n' hb_24 (by decide) ?_
     refine guardM_n' hb_24 (by decide) ?_
     refine ⟨⟨_, rfl, fun h => absurd (h.symm.trans hb_24) (by decide), fun _ => rfl⟩, ?_⟩
     refine ⟨⟨_, rfl, fun h => absurd (h.symm.trans hb_24) (by decide), fun _ => rfl⟩, ?_⟩
     refine ⟨⟨_, rfl, fun h => absurd (h.symm.trans hb_24) (by decide), fun _ => rfl⟩, ?_⟩
     refine ⟨?_, ?_⟩
     ·exact still_one one29 H.1
     obtain ⟨hc_6, H⟩ := H
     refine ⟨?_, ?_⟩
     ·exact still_loc one24 hL_26 3 rfl 0 (v := (Sl.v t56_3)) rfl
     refine ⟨?_, ?_⟩
     ·exact still_one one29 H.1
     obtain ⟨hc_7, H⟩ := H
     refine ⟨?_, ?_⟩
     ·exact still_loc one24 hL_26 2 rfl 0 (v := (Sl.v t66_1)) rfl
     refine guardM_n' hb_24 (by decide) ?_
     refine pop_pickt' hb_24 ?_
     refine condM_t ?_
     exact H
    have H := H.2 hb_24
    refine pop_field 0 fld28_0 b_3 0 ?_
    refine guardM_y' hb_24 ?_
    refine rop_loc one24 hL_26 2 rfl 0 (v := (Sl.v t66_1)) rfl ?_
    refine guardM_y' hb_24 ?_
    refine guardM_y' hb_24 ?_
    obtain ⟨hi_6, H⟩ := H
    refine pop_index sli24 siz29 .i64 t66_1 t211_1 hi_6 ?_
    refine guardM_y' hb_24 ?_
    obtain ⟨t236_1, hc_5, H⟩ := H
    refine rop_one one29 (Sl.v t236_1) hc_5 ?_
    refine guardM_y' hb_24 ?_
    refine pop_field 0 fld28_0 b_2 0 ?_
    refine guardM_y' hb_24 ?_
    refine rop_loc one24 hL_26 3 rfl 0 (v := (Sl.v t56_3)) rfl ?_
    refine guardM_y' hb_24 ?_
    refine guardM_y' hb_24 ?_
    obtain ⟨hi_7, H⟩ := H
    refine pop_index sli24 siz29 .i64 t56_3 t211_1 hi_7 ?_
    refine guardM_y' hb_24 ?_
    obtain ⟨t241_1, hc_4, H⟩ := H
    refine rop_one one29 (Sl.v t241_1) hc_4 ?_
    refine guardM_y' hb_24 ?_
    refine guardM_y' hb_24 ?_
    refine H.mono fun rv_16 H => ?_
    obtain ⟨t243_1, rfl, H⟩ := H
    refine guardM_y' hb_24 ?_
    refine H.mono fun rv_17 h_27 H => ?_
    obtain ⟨t244_1, rfl, hL_27, H⟩ := H
    refine ⟨⟨_, rfl, fun _ => ?_, fun h => absurd hb_24 h⟩, ?_⟩
    ·exact still_one one29 H.1
    obtain ⟨hc_1, H⟩ := H
    refine ⟨⟨_, rfl, fun _ => ?_, fun h => absurd hb_24 h⟩, ?_⟩
    ·exact still_loc one24 hL_27 3 rfl 0 (v := (Sl.v t56_3)) rfl
    refine ⟨⟨_, rfl, fun _ => ?_, fun h => absurd hb_24 h⟩, ?_⟩
    ·exact still_loc one24 hL_27 2 rfl 0 (v := (Sl.v t66_1)) rfl
    refine ⟨?_, ?_⟩
    ·exact still_one one29 H.1
    obtain ⟨hc_2, H⟩ := H
    refine ⟨?_, ?_⟩
    ·exact still_loc one24 hL_27 3 rfl 0 (v := (Sl.v t56_3)) rfl
    refine ⟨?_, ?_⟩
    ·exact still_one one29 H.1
    obtain ⟨hc_3, H⟩ := H
    refine ⟨?_, ?_⟩
    ·exact still_loc one24 hL_27 2 rfl 0 (v := (Sl.v t66_1)) rfl
    refine guardM_y' hb_24 ?_
    refine pop_not t244_1 ?_
    refine pop_pickf' hb_24 ?_
    refine condM_b (fun hb_25 => ?_) (fun hb_25 => ?_)
    ·have H := H.1 hb_25
     exact H
    have H := H.2 hb_25
    refine pop_add .i64 t211_1 1 ?_
    obtain ⟨m_1, hm_1, H⟩ := H
    exact hn_1 _ _ ⟨m_1, hm_1, (w64 (t211_1 + 1)), rfl, H, hL_27⟩
   have H := H.2 hb_23
   refine rop_locA agg26 hL_26 4 rfl 0 (vs := [(Sl.v t56_1)]) rfl rfl ?_
   refine H.mono fun rv_18 h_28 H => ?_
   obtain ⟨t252_1, t252_2, rfl, hL_28, H⟩ := H
   refine pop_ext (v := (VB t252_1)) rfl ?_
   refine pop_ext (v := (VB t252_2)) rfl ?_
   refine rop_locA agg26 hL_28 4 rfl 0 (vs := [(Sl.v t56_1)]) rfl rfl ?_
   refine rop_locA agg28 hL_28 2 rfl 0 (vs := [(Sl.v t66_1)]) rfl rfl ?_
   refine H.mono fun rv_19 h_29 H => ?_
   obtain ⟨t259_1, t259_2, rfl, hL_29, H⟩ := H
   refine pop_ext (v := (Sl.v t259_1)) rfl ?_
   refine pop_ext (v := (VB t259_2)) rfl ?_
   refine rop_locA agg26 hL_29 4 rfl 0 (vs := [(Sl.v t56_1)]) rfl rfl ?_
   refine rop_locA agg28 hL_29 2 rfl 0 (vs := [(Sl.v t66_1)]) rfl rfl ?_
   refine H.mono fun rv_20 h_30 H => ?_
   obtain ⟨t266_1, t266_2, rfl, hL_30, H⟩ := H
   refine pop_ext (v := (Sl.v t266_1)) rfl ?_
   refine pop_ext (v := (VB t266_2)) rfl ?_
   refine pop_not t252_2 ?_
   refine guardM_sf (fun hb_26 => ?_) (fun hb_26 => ?_)
   rotate_left
   ·have H := H.1 hb_26
    refine guardM_n' hb_26 (by decide) ?_
    refine pop_pickt' hb_26 ?_
    refine guardM_n (by decide) ?_
    refine guardM_n (by decide) ?_
    refine pop_pickt _ _ ?_
    refine guardM_n (by decide) ?_
    refine guardM_n (by decide) ?_
    refine guardM_n (by decide) ?_
    refine guardM_n (by decide) ?_
    refine pop_pickt _ _ ?_
    refine guardM_n (by decide) ?_
    refine guardM_n (by decide) ?_
    refine pop_pickt _ _ ?_
    refine guardM_n (by decide) ?_
    refine guardM_n (by decide) ?_
    refine guardM_n (by decide) ?_
    refine pop_pickt _ _ ?_
    refine guardM_n (by decide) ?_
    refine guardM_n (by decide) ?_
    refine guardM_n (by decide) ?_
    refine guardM_n (by decide) ?_
    refine guardM_n (by decide) ?_
    refine guardM_n (by decide) ?_
    refine pop_pickt _ _ ?_
    refine guardM_n (by decide) ?_
    refine guardM_n (by decide) ?_
    refine guardM_n (by decide) ?_
    refine guardM_n (by decide) ?_
    refine pop_pickt _ _ ?_
    refine condM_t ?_
    exact H
   have H := H.2 hb_26
   refine guardM_y' hb_26 ?_
   refine pop_not t252_1 ?_
   refine pop_pickf' hb_26 ?_
   refine guardM_sf (fun hb_27 => ?_) (fun hb_27 => ?_)
   rotate_left
   ·have H := H.1 hb_27
    refine guardM_n' hb_27 (by decide) ?_
    refine pop_pickt' hb_27 ?_
    refine guardM_n (by decide) ?_
    refine guardM_n (by decide) ?_
    refine guardM_n (by decide) ?_
    refine guardM_n (by decide) ?_
    refine pop_pickt _ _ ?_
    refine guardM_n (by decide) ?_
    refine guardM_n (by decide) ?_
    refine pop_pickt _ _ ?_
    refine guardM_n (by decide) ?_
    refine guardM_n (by decide) ?_
    refine guardM_n (by decide) ?_
    refine pop_pickt _ _ ?_
    refine guardM_n (by decide) ?_
    refine guardM_n (by decide) ?_
    refine guardM_n (by decide) ?_
    refine guardM_n (by decide) ?_
    refine guardM_n (by decide) ?_
    refine guardM_n (by decide) ?_
    refine pop_pickt _ _ ?_
    refine guardM_n (by decide) ?_
    refine guardM_n (by decide) ?_
    refine guardM_n (by decide) ?_
    refine guardM_n (by decide) ?_
    refine pop_pickt _ _ ?_
    refine condM_t ?_
    exact H
   have H := H.2 hb_27
   refine guardM_y' hb_27 ?_
   refine pop_not t259_2 ?_
   refine pop_pickf' hb_27 ?_
   refine guardM_sf (fun hb_28 => ?_) (fun hb_28 => ?_)
   rotate_left
   ·have H := H.1 hb_28
    refine guardM_n' hb_28 (by decide) ?_
    refine guardM_n' hb_28 (by decide) ?_
    refine guardM_n' hb_28 (by decide) ?_
    refine pop_pickt' hb_28 ?_
    refine guardM_n (by decide) ?_
    refine guardM_n (by decide) ?_
    refine pop_pickt _ _ ?_
    refine guardM_n (by decide) ?_
    refine guardM_n (by decide) ?_
    refine guardM_n (by decide) ?_
    refine pop_pickt _ _ ?_
    refine guardM_n (by decide) ?_
    refine guardM_n (by decide) ?_
    refine guardM_n (by decide) ?_
    refine guardM_n (by decide) ?_
    refine guardM_n (by decide) ?_
    refine guardM_n (by decide) ?_
    refine pop_pickt _ _ ?_
    refine guardM_n (by decide) ?_
    refine guardM_n (by decide) ?_
    refine guardM_n (by decide) ?_
    refine guardM_n (by decide) ?_
    refine pop_pickt _ _ ?_
    refine condM_t ?_
    exact H
   have H := H.2 hb_28
   refine guardM_y' hb_28 ?_
   refine guardM_y' hb_28 ?_
   refine H.mono fun rv_21 h_31 H => ?_
   obtain ⟨t282_1, rfl, hL_31, H⟩ := H
   refine guardM_y' hb_28 ?_
   refine pop_not t282_1 ?_
   refine pop_pickf' hb_28 ?_
   refine guardM_sf (fun hb_29 => ?_) (fun hb_29 => ?_)
   rotate_left
   ·have H := H.1 hb_29
    refine guardM_n' hb_29 (by decide) ?_
    refine pop_pickt' hb_29 ?_
    refine guardM_n (by decide) ?_
    refine guardM_n (by decide) ?_
    refine guardM_n (by decide) ?_
    refine pop_pickt _ _ ?_
    refine guardM_n (by decide) ?_
    refine guardM_n (by decide) ?_
    refine guardM_n (by decide) ?_
    refine guardM_n (by decide) ?_
    refine guardM_n (by decide) ?_
    refine guardM_n (by decide) ?_
    refine pop_pickt _ _ ?_
    refine guardM_n (by decide) ?_
    refine guardM_n (by decide) ?_
    refine guardM_n (by decide) ?_
    refine guardM_n (by decide) ?_
    refine pop_pickt _ _ ?_
    refine condM_t ?_
    exact H
   have H := H.2 hb_29
   refine guardM_y' hb_29 ?_
   refine pop_not t266_2 ?_
   refine pop_pickf' hb_29 ?_
   refine guardM_sf (fun hb_30 => ?_) (fun hb_30 => ?_)
   rotate_left
   ·have H := H.1 hb_30
    refine guardM_n' hb_30 (by decide) ?_
    refine guardM_n' hb_30 (by decide) ?_
    refine pop_pickt' hb_30 ?_
    refine guardM_n (by decide) ?_
    refine guardM_n (by decide) ?_
    refine guardM_n (by decide) ?_
    refine guardM_n (by decide) ?_
    refine guardM_n (by decide) ?_
    refine guardM_n (by decide) ?_
    refine pop_pickt _ _ ?_
    refine guardM_n (by decide) ?_
    refine guardM_n (by decide) ?_
    refine guardM_n (by decide) ?_
    refine guardM_n (by decide) ?_
    refine pop_pickt _ _ ?_
    refine condM_t ?_
    exact H
   have H := H.2 hb_30
   refine guardM_y' hb_30 ?_
   refine pop_len t266_1 _ _ sli24 ?_
   refine guardM_y' hb_30 ?_
   refine pop_ine .i64 _ _ (t266_1.n : Int) 0 ?_
   refine pop_pickf' hb_30 ?_
   refine guardM_sf (fun hb_31 => ?_) (fun hb_31 => ?_)
   rotate_left
   ·have H := H.1 hb_31
    refine guardM_n' hb_31 (by decide) ?_
    refine guardM_n' hb_31 (by decide) ?_
    refine guardM_n' hb_31 (by decide) ?_
    refine guardM_n' hb_31 (by decide) ?_
    refine guardM_n' hb_31 (by decide) ?_
    refine pop_pickt' hb_31 ?_
    refine guardM_n (by decide) ?_
    refine guardM_n (by decide) ?_
    refine guardM_n (by decide) ?_
    refine guardM_n (by decide) ?_
    refine pop_pickt _ _ ?_
    refine condM_t ?_
    exact H
   have H := H.2 hb_31
   refine guardM_y' hb_31 ?_
   refine pop_ieq .i64 _ _ t102_1 0 ?_
   refine guardM_y' hb_31 ?_
   refine guardM_y' hb_31 ?_
   refine H.mono fun rv_22 h_32 H => ?_
   obtain ⟨t298_1, rfl, hL_32, H⟩ := H
   refine guardM_y' hb_31 ?_
   refine pop_ieq .i64 _ _ t298_1 0 ?_
   refine guardM_y' hb_31 ?_
   refine pop_bne boo4 _ _ (decide (t102_1 = 0)) (decide (t298_1 = 0)) ?_
   refine pop_pickf' hb_31 ?_
   refine guardM_sf (fun hb_32 => ?_) (fun hb_32 => ?_)
   rotate_left
   ·have H := H.1 hb_32
    refine guardM_n' hb_32 (by decide) ?_
    refine guardM_n' hb_32 (by decide) ?_
    refine guardM_n' hb_32 (by decide) ?_
    refine pop_pickt' hb_32 ?_
    refine condM_t ?_
    exact H
   have H := H.2 hb_32
   refine guardM_y' hb_32 ?_
   refine guardM_y' hb_32 ?_
   refine H.mono fun rv_23 h_33 H => ?_
   obtain ⟨t305_1, rfl, hL_33, H⟩ := H
   refine guardM_y' hb_32 ?_
   refine pop_gtr .i64 t102_1 t305_1 ?_
   refine pop_pickf' hb_32 ?_
   refine condM_b (fun hb_33 => ?_) (fun hb_33 => ?_)
   ·have H := H.1 hb_33
    exact H
   have H := H.2 hb_33
   exact ⟨rfl, H, hL_33⟩
  intro junk_2  h_34
  rintro ⟨hv, hJ_2, hL_34⟩
  have H := HB_2  h_34 hJ_2 hL_34
  refine H.mono fun rv_24 h_35 H => ?_
  obtain ⟨t310_1, t310_2, t310_3, t310_4, rfl, hL_35, H⟩ := H
  refine pop_ext (v := (Value.agg #[(Sl.v t310_1)])) rfl ?_
  refine pop_ext (v := (VI t310_2)) rfl ?_
  refine pop_ext (v := (Value.agg #[(Sl.v t310_3)])) rfl ?_
  refine pop_ext (v := (Sl.v t310_4)) rfl ?_
  refine eop_alloc 26 zer26 rfl hL_35 (fun b_6 h_36 hb_34 hf_11 hL_36 => ?_)
  refine eop_alloc 28 zer28 rfl hL_36 (fun b_7 h_37 hb_35 hf_12 hL_37 => ?_)
  refine uop_loc siz26 hL_37 1 rfl 0 [(Sl.v t310_1)] rfl rfl rfl (Nat.le_of_ble_eq_true rfl) (L' := [(b_7, [(Sl.v nilSl)]), (b_6, [(Sl.v t310_1)]), (b_5, [(Sl.v t81_1)]), (b_4, [(Sl.v t74_1)]), (b_3, [(Sl.v t66_1)]), (b_2, [(Sl.v t56_3)]), (b_1, [(Sl.v t56_1)])]) rfl (fun h_38 hf_13 hL_38 => ?_)
  refine uop_loc siz28 hL_38 0 rfl 0 [(Sl.v t310_3)] rfl rfl rfl (Nat.le_of_ble_eq_true rfl) (L' := [(b_7, [(Sl.v t310_3)]), (b_6, [(Sl.v t310_1)]), (b_5, [(Sl.v t81_1)]), (b_4, [(Sl.v t74_1)]), (b_3, [(Sl.v t66_1)]), (b_2, [(Sl.v t56_3)]), (b_1, [(Sl.v t56_1)])]) rfl (fun h_39 hf_14 hL_39 => ?_)
  refine rop_locA agg26 hL_39 1 rfl 0 (vs := [(Sl.v t310_1)]) rfl rfl ?_
  refine rop_locA agg28 hL_39 0 rfl 0 (vs := [(Sl.v t310_3)]) rfl rfl ?_
  have H := H b_6 b_7 h_39 (Nat.le_trans (Fr.size (Fr.r (In []) _)) hb_34) (Nat.le_trans (Fr.size (Fr.no' (Fr.r (In []) _) hf_11)) hb_35) (Fr.new (Fr.new (Fr.no' (Fr.no' (Fr.r (In []) _) hf_11) hf_12) (Nat.le_trans (Fr.size (Fr.r (In []) _)) hb_34) hf_13) (Nat.le_trans (Fr.size (Fr.no' (Fr.r (In []) _) hf_11)) hb_35) hf_14) hL_39
  refine H.mono fun rv_25 h_40 H => ?_
  obtain ⟨t320_1, t320_2, rfl, hL_40, H⟩ := H
  refine pop_ext (v := (Sl.v t320_1)) rfl ?_
  refine pop_ext (v := (VB t320_2)) rfl ?_
  refine rop_locA agg26 hL_40 1 rfl 0 (vs := [(Sl.v t310_1)]) rfl rfl ?_
  refine rop_locA agg28 hL_40 0 rfl 0 (vs := [(Sl.v t310_3)]) rfl rfl ?_
  refine H.mono fun rv_26 h_41 H => ?_
  obtain ⟨t328_1, t328_2, rfl, hL_41, H⟩ := H
  refine pop_ext (v := (Sl.v t328_1)) rfl ?_
  refine pop_ext (v := (VB t328_2)) rfl ?_
  refine rop_locA agg26 hL_41 1 rfl 0 (vs := [(Sl.v t310_1)]) rfl rfl ?_
  refine rop_locA agg28 hL_41 0 rfl 0 (vs := [(Sl.v t310_3)]) rfl rfl ?_
  refine H.mono fun rv_27 h_42 H => ?_
  obtain ⟨t336_1, t336_2, rfl, hL_42, H⟩ := H
  refine pop_ext (v := (VI t336_1)) rfl ?_
  refine pop_ext (v := (VB t336_2)) rfl ?_
  refine rop_locA agg26 hL_42 1 rfl 0 (vs := [(Sl.v t310_1)]) rfl rfl ?_
  refine rop_locA agg28 hL_42 0 rfl 0 (vs := [(Sl.v t310_3)]) rfl rfl ?_
  refine H.mono fun rv_28 h_43 H => ?_
  obtain ⟨t344_1, t344_2, rfl, hL_43, H⟩ := H
  refine pop_ext (v := (VI t344_1)) rfl ?_
  refine pop_ext (v := (VB t344_2)) rfl ?_
  refine pop_bne boo4 _ _ t320_2 t328_2 ?_
  refine guardM_sf (fun hb_36 => ?_) (fun hb_36 => ?_)
  rotate_left
  ·have H := H.1 hb_36
   refine guardM_n' hb_36 (by decide) ?_
   refine guardM_n' hb_36 (by decide) ?_
   refine guardM_n' hb_36 (by decide) ?_
   refine pop_pickt' hb_36 ?_
   refine guardM_n (by decide) ?_
   refine guardM_n (by decide) ?_
   refine guardM_n (by decide) ?_
   refine pop_pickt _ _ ?_
   refine guardM_n (by decide) ?_
   refine guardM_n (by decide) ?_
   refine guardM_n (by decide) ?_
   refine pop_pickt _ _ ?_
   refine guardM_n (by decide) ?_
   refine guardM_n (by decide) ?_
   refine guardM_n (by decide) ?_
   refine pop_pickt _ _ ?_
   refine condM_t ?_
   exact H
  have H := H.2 hb_36
  refine guardM_y' hb_36 ?_
  refine guardM_y' hb_36 ?_
  refine H.mono fun rv_29 h_44 H => ?_
  obtain ⟨t353_1, rfl, hL_44, H⟩ := H
  refine guardM_y' hb_36 ?_
  refine pop_not t353_1 ?_
  refine pop_pickf' hb_36 ?_
  refine guardM_sf (fun hb_37 => ?_) (fun hb_37 => ?_)
  rotate_left
  ·have H := H.1 hb_37
   refine guardM_n' hb_37 (by decide) ?_
   refine guardM_n' hb_37 (by decide) ?_
   refine pop_pickt' hb_37 ?_
   refine guardM_n (by decide) ?_
   refine guardM_n (by decide) ?_
   refine guardM_n (by decide) ?_
   refine pop_pickt _ _ ?_
   refine guardM_n (by decide) ?_
   refine guardM_n (by decide) ?_
   refine guardM_n (by decide) ?_
   refine pop_pickt _ _ ?_
   refine condM_t ?_
   exact H
  have H := H.2 hb_37
  refine guardM_y' hb_37 ?_
  refine guardM_y' hb_37 ?_
  refine pop_bne boo4 _ _ t336_2 t344_2 ?_
  refine pop_pickf' hb_37 ?_
  refine guardM_sf (fun hb_38 => ?_) (fun hb_38 => ?_)
  rotate_left
  ·have H := H.1 hb_38
   refine guardM_n' hb_38 (by decide) ?_
   refine guardM_n' hb_38 (by decide) ?_
   refine pop_pickt' hb_38 ?_
   refine guardM_n (by decide) ?_
   refine guardM_n (by decide) ?_
   refine guardM_n (by decide) ?_
   refine pop_pickt _ _ ?_
   refine condM_t ?_
   exact H
  have H := H.2 hb_38
  refine guardM_y' hb_38 ?_
  refine guardM_y' hb_38 ?_
  refine pop_ine .i64 _ _ t336_1 t344_1 ?_
  refine pop_pickf' hb_38 ?_
  refine guardM_sf (fun hb_39 => ?_) (fun hb_39 => ?_)
  rotate_left
  ·have H := H.1 hb_39
   refine guardM_n' hb_39 (by decide) ?_
   refine guardM_n' hb_39 (by decide) ?_
   refine pop_pickt' hb_39 ?_
   refine condM_t ?_
   exact H
  have H := H.2 hb_39
  refine guardM_y' hb_39 ?_
  refine guardM_y' hb_39 ?_
  refine pop_bne boo4 _ _ t336_2 t320_2 ?_
  refine pop_pickf' hb_39 ?_
  refine condM_b (fun hb_40 => ?_) (fun hb_40 => ?_)
  ·have H := H.1 hb_40
   exact H
  have H := H.2 hb_40
  refine condM_b (fun hb_41 => ?_) (fun hb_41 => ?_)
  rotate_left
  ·have H := H.2 hb_41
   exact H
  have H := H.1 hb_41
  refine rop_locA agg26 hL_44 1 rfl 0 (vs := [(Sl.v t310_1)]) rfl rfl ?_
  refine rop_locA agg28 hL_44 0 rfl 0 (vs := [(Sl.v t310_3)]) rfl rfl ?_
  refine H.mono fun rv_30 h_45 H => ?_
  obtain ⟨t376_1, t376_2, rfl, hL_45, H⟩ := H
  refine pop_ext (v := (Sl.v t376_1)) rfl ?_
  refine pop_ext (v := (VB t376_2)) rfl ?_
  refine rop_locA agg26 hL_45 1 rfl 0 (vs := [(Sl.v t310_1)]) rfl rfl ?_
  refine rop_locA agg28 hL_45 0 rfl 0 (vs := [(Sl.v t310_3)]) rfl rfl ?_
  refine H.mono fun rv_31 h_46 H => ?_
  obtain ⟨t383_1, t383_2, rfl, hL_46, H⟩ := H
  refine pop_ext (v := (Sl.v t383_1)) rfl ?_
  refine pop_ext (v := (VB t383_2)) rfl ?_
  refine guardM_st (fun hb_42 => ?_) (fun hb_42 => ?_)
  rotate_left
  ·have H := H.2 hb_42
   refine guardM_n' hb_42 (by decide) ?_
   refine guardM_n' hb_42 (by decide) ?_
   refine pop_pickf' hb_42 ?_
   refine guardM_n (by decide) ?_
   refine pop_pickf _ _ ?_
   refine guardM_n (by decide) ?_
   refine guardM_n (by decide) ?_
   refine guardM_n (by decide) ?_
   refine guardM_n (by decide) ?_
   refine guardM_n (by decide) ?_
   refine guardM_n (by decide) ?_
   refine ⟨⟨_, rfl, fun h => absurd (h.symm.trans rfl) (by decide), fun _ => rfl⟩, ?_⟩
   refine guardM_n (by decide) ?_
   refine guardM_n (by decide) ?_
   refine guardM_n (by decide) ?_
   refine pop_pickf _ _ ?_
   exact H
  have H := H.1 hb_42
  refine guardM_y' hb_42 ?_
  refine guardM_y' hb_42 ?_
  refine H.mono fun rv_32 h_47 H => ?_
  obtain ⟨t390_1, rfl, hL_47, H⟩ := H
  refine pop_pickt' hb_42 ?_
  refine guardM_st (fun hb_43 => ?_) (fun hb_43 => ?_)
  rotate_left
  ·have H := H.2 hb_43
   refine pop_pickf' hb_43 ?_
   refine guardM_n (by decide) ?_
   refine guardM_n (by decide) ?_
   refine guardM_n (by decide) ?_
   refine guardM_n (by decide) ?_
   refine guardM_n (by decide) ?_
   refine guardM_n (by decide) ?_
   refine ⟨⟨_, rfl, fun h => absurd (h.symm.trans rfl) (by decide), fun _ => rfl⟩, ?_⟩
   refine guardM_n (by decide) ?_
   refine guardM_n (by decide) ?_
   refine guardM_n (by decide) ?_
   refine pop_pickf _ _ ?_
   exact H
  have H := H.1 hb_43
  refine pop_pickt' hb_43 ?_
  refine guardM_st (fun hb_44 => ?_) (fun hb_44 => ?_)
  rotate_left
  ·have H := H.2 hb_44
   refine guardM_n' hb_44 (by decide) ?_
   refine guardM_n' hb_44 (by decide) ?_
   refine guardM_n' hb_44 (by decide) ?_
   refine guardM_n' hb_44 (by decide) ?_
   refine guardM_n' hb_44 (by decide) ?_
   refine ⟨⟨_, rfl, fun h => absurd (h.symm.trans hb_44) (by decide), fun _ => rfl⟩, ?_⟩
   refine guardM_n' hb_44 (by decide) ?_
   refine guardM_n' hb_44 (by decide) ?_
   refine guardM_n' hb_44 (by decide) ?_
   refine pop_pickf' hb_44 ?_
   exact H
  have H := H.1 hb_44
  refine guardM_y' hb_44 ?_
  refine guardM_y' hb_44 ?_
  refine pop_field 0 fld26_0 b_6 0 ?_
  refine guardM_y' hb_44 ?_
  refine rop_loc one24 hL_47 1 rfl 0 (v := (Sl.v t310_1)) rfl ?_
  refine guardM_y' hb_44 ?_
  refine pop_len t310_1 _ _ sli24 ?_
  refine guardM_y' hb_44 ?_
  refine H.mono fun rv_33 h_48 H => ?_
  obtain ⟨t398_1, rfl, hL_48, H⟩ := H
  refine ⟨⟨_, rfl, fun _ => ?_, fun h => absurd hb_44 h⟩, ?_⟩
  ·exact still_loc one24 hL_48 1 rfl 0 (v := (Sl.v t310_1)) rfl
  refine guardM_y' hb_44 ?_
  refine pop_add .i64 t398_1 (t310_1.n : Int) ?_
  refine guardM_y' hb_44 ?_
  refine pop_sub .i64 (w64 (t398_1 + (t310_1.n : Int))) 1 ?_
  refine guardM_y' hb_44 ?_
  refine pop_ieq .i64 _ _ t336_1 (w64 ((w64 (t398_1 + (t310_1.n : Int))) - 1)) ?_
  refine pop_pickt' hb_44 ?_
  exact H
def u5 (P : Program) (code0_1 : Sl) (more1_1 : Sl) (h : Heap) (K : Value → Heap → Prop) : Prop :=
  ((decide (1048576 < (code0_1.n : Int))) = true →
  K (VB true) h) ∧
  ((decide (1048576 < (code0_1.n : Int))) = false →
  K (VB (decide ((w64 (1048576 - (code0_1.n : Int))) < (more1_1.n : Int)))) h)
theorem v5 (code0_1 : Sl) (more1_1 : Sl) (h : Heap) (K : Value → Heap → Prop) (H : u5 Tryz.prog code0_1 more1_1 h K) : callM Tryz.prog 5 #[(Sl.v code0_1), (Sl.v more1_1)] h K := by
  refine c5 (Sl.v code0_1) (Sl.v more1_1) h K ?_
  unfold u5 at H
  unfold t5
  have hL : Vars h [] := .nil
  refine pop_len code0_1 _ _ sli22 ?_
  refine pop_gtr .i64 (code0_1.n : Int) 1048576 ?_
  refine guardM_sf (fun hb_1 => ?_) (fun hb_1 => ?_)
  rotate_left
  ·have H := H.1 hb_1
   refine guardM_n' hb_1 (by decide) ?_
   refine guardM_n' hb_1 (by decide) ?_
   refine guardM_n' hb_1 (by decide) ?_
   refine guardM_n' hb_1 (by decide) ?_
   refine guardM_n' hb_1 (by decide) ?_
   refine pop_pickt' hb_1 ?_
   exact H
  have H := H.2 hb_1
  refine guardM_y' hb_1 ?_
  refine pop_len more1_1 _ _ sli22 ?_
  refine guardM_y' hb_1 ?_
  refine guardM_y' hb_1 ?_
  refine pop_len code0_1 _ _ sli22 ?_
  refine guardM_y' hb_1 ?_
  refine pop_sub .i64 1048576 (code0_1.n : Int) ?_
  refine guardM_y' hb_1 ?_
  refine pop_gtr .i64 (more1_1.n : Int) (w64 (1048576 - (code0_1.n : Int))) ?_
  refine pop_pickf' hb_1 ?_
  exact H
def u6 (P : Program) (code0_1 : Sl) (h : Heap) (K : Value → Heap → Prop) : Prop :=
  ∀ (b_1 : Nat) (b_2 : Nat) (b_3 : Nat) (h_3 : Heap), h.size ≤ b_1 → h.size ≤ b_2 → h.size ≤ b_3 → Fr (In []) h h_3 → Vars h_3 [(b_3, [(Sl.v code0_1), (VI 0), (Value.int .u64 0)]), (b_2, [(Sl.v nilSl)]), (b_1, [(Sl.v nilSl)])] →
  callM P 51 #[(VP b_3 0)] h_3 fun rv_1 h_4 => ∃ x_1 : Sl, ∃ x_2 : Int, ∃ x_3 : Int, ∃ t17_1 : Sl, ∃ t17_2 : Int, ∃ t17_3 : Sl, rv_1 = (Value.tuple #[(Value.agg #[(Sl.v t17_1)]), (VI t17_2), (Value.agg #[(Sl.v t17_3)])]) ∧ Vars h_4 [(b_3, [(Sl.v x_1), (VI x_2), (Value.int .u64 x_3)]), (b_2, [(Sl.v nilSl)]), (b_1, [(Sl.v nilSl)])] ∧
  ∀ (b_4 : Nat) (b_5 : Nat) (h_8 : Heap), h_4.size ≤ b_4 → h_4.size ≤ b_5 → Fr (In []) h_4 h_8 → Vars h_8 [(b_5, [(Sl.v t17_3)]), (b_4, [(Sl.v t17_1)]), (b_3, [(Sl.v x_1), (VI x_2), (Value.int .u64 x_3)]), (b_2, [(Sl.v nilSl)]), (b_1, [(Sl.v nilSl)])] →
  callM P 52 #[(VP b_3 0), (VI 12)] h_8 fun rv_2 h_9 => ∃ x_4 : Sl, ∃ x_5 : Int, ∃ x_6 : Int, ∃ t22_1 : Int, rv_2 = (VI t22_1) ∧ Vars h_9 [(b_5, [(Sl.v t17_3)]), (b_4, [(Sl.v t17_1)]), (b_3, [(Sl.v x_4), (VI x_5), (Value.int .u64 x_6)]), (b_2, [(Sl.v nilSl)]), (b_1, [(Sl.v nilSl)])] ∧
  ∃ J_1 : Nat → Sl → Int → Sl → Int → Int → Heap → Prop, (∃ n0 : Nat, J_1 n0 nilSl t22_1 x_4 x_5 x_6 h_9) ∧
  ∀ (n_1 : Nat) (choices10_1 : Sl) (k11_1 : Int) (x_7 : Sl) (x_8 : Int) (x_9 : Int) (h_10 : Heap), J_1 n_1 choices10_1 k11_1 x_7 x_8 x_9 h_10 → Vars h_10 [(b_5, [(Sl.v t17_3)]), (b_4, [(Sl.v t17_1)]), (b_3, [(Sl.v x_7), (VI x_8), (Value.int .u64 x_9)]), (b_2, [(Sl.v nilSl)]), (b_1, [(Sl.v nilSl)])] →
  ((decide (0 < k11_1)) = true →
  callM P 52 #[(VP b_3 0), (VI 100)] h_10 fun rv_3 h_11 => ∃ x_10 : Sl, ∃ x_11 : Int, ∃ x_12 : Int, ∃ t29_1 : Int, rv_3 = (VI t29_1) ∧ Vars h_11 [(b_5, [(Sl.v t17_3)]), (b_4, [(Sl.v t17_1)]), (b_3, [(Sl.v x_10), (VI x_11), (Value.int .u64 x_12)]), (b_2, [(Sl.v nilSl)]), (b_1, [(Sl.v nilSl)])] ∧
  eop P (Instr.buildSlice 29 1 #[(0, (VI t29_1))]) h_11 fun rv_4 h_12 => ∃ t30_1 : Sl, rv_4 = (Sl.v t30_1) ∧ Vars h_12 [(b_5, [(Sl.v t17_3)]), (b_4, [(Sl.v t17_1)]), (b_3, [(Sl.v x_10), (VI x_11), (Value.int .u64 x_12)]), (b_2, [(Sl.v nilSl)]), (b_1, [(Sl.v nilSl)])] ∧
  eop P (appS 29 29 29 (Sl.v choices10_1) (Sl.v t30_1)) h_12 fun rv_5 h_13 => ∃ t31_1 : Sl, rv_5 = (Sl.v t31_1) ∧ Vars h_13 [(b_5, [(Sl.v t17_3)]), (b_4, [(Sl.v t17_1)]), (b_3, [(Sl.v x_10), (VI x_11), (Value.int .u64 x_12)]), (b_2, [(Sl.v nilSl)]), (b_1, [(Sl.v nilSl)])] ∧
  ∃ m : Nat, m < n_1 ∧ J_1 m t31_1 (w64 (k11_1 - 1)) x_10 x_11 x_12 h_13) ∧
  ((decide (0 < k11_1)) = false →
  ∃ J_2 : Sl → Sl → Int → Int → Heap → Prop, (callM P 52 #[(VP b_3 0), (VI 12)] h_10 fun rv_6 h_14 => ∃ x_17 : Sl, ∃ x_18 : Int, ∃ x_19 : Int, ∃ t33_1 : Int, rv_6 = (VI t33_1) ∧ Vars h_14 [(b_5, [(Sl.v t17_3)]), (b_4, [(Sl.v t17_1)]), (b_3, [(Sl.v x_17), (VI x_18), (Value.int .u64 x_19)]), (b_2, [(Sl.v nilSl)]), (b_1, [(Sl.v nilSl)])] ∧
  ((decide (t33_1 = 0)) = true →
  callM P 52 #[(VP b_3 0), (VI 2)] h_14 fun rv_7 h_15 => ∃ x_20 : Sl, ∃ x_21 : Int, ∃ x_22 : Int, ∃ t37_1 : Int, rv_7 = (VI t37_1) ∧ Vars h_15 [(b_5, [(Sl.v t17_3)]), (b_4, [(Sl.v t17_1)]), (b_3, [(Sl.v x_20), (VI x_21), (Value.int .u64 x_22)]), (b_2, [(Sl.v nilSl)]), (b_1, [(Sl.v nilSl)])] ∧
  eop P (Instr.makeSlice 29 (VI (w64 (100 + t37_1))) (VI (w64 (100 + t37_1)))) h_15 fun rv_8 h_16 => ∃ t39_1 : Sl, rv_8 = (Sl.v t39_1) ∧ Vars h_16 [(b_5, [(Sl.v t17_3)]), (b_4, [(Sl.v t17_1)]), (b_3, [(Sl.v x_20), (VI x_21), (Value.int .u64 x_22)]), (b_2, [(Sl.v nilSl)]), (b_1, [(Sl.v nilSl)])] ∧
  J_2 t39_1 x_20 x_21 x_22 h_16) ∧
  ((decide (t33_1 = 0)) = false →
  ((decide (t33_1 = 1)) = true →
  eop P (Instr.buildSlice 29 2 #[(0, (Value.int IntKind.i64 (-1))), (1, (Value.int IntKind.i64 4611686018427387904))]) h_14 fun rv_9 h_17 => ∃ t44_1 : Sl, rv_9 = (Sl.v t44_1) ∧ Vars h_17 [(b_5, [(Sl.v t17_3)]), (b_4, [(Sl.v t17_1)]), (b_3, [(Sl.v x_17), (VI x_18), (Value.int .u64 x_19)]), (b_2, [(Sl.v nilSl)]), (b_1, [(Sl.v nilSl)])] ∧
  callM P 53 #[(VP b_3 0), (Sl.v t44_1)] h_17 fun rv_10 h_18 => ∃ x_23 : Sl, ∃ x_24 : Int, ∃ x_25 : Int, ∃ t45_1 : Int, rv_10 = (VI t45_1) ∧ Vars h_18 [(b_5, [(Sl.v t17_3)]), (b_4, [(Sl.v t17_1)]), (b_3, [(Sl.v x_23), (VI x_24), (Value.int .u64 x_25)]), (b_2, [(Sl.v nilSl)]), (b_1, [(Sl.v nilSl)])] ∧
  eop P (Instr.buildSlice 29 1 #[(0, (VI t45_1))]) h_18 fun rv_11 h_19 => ∃ t46_1 : Sl, rv_11 = (Sl.v t46_1) ∧ Vars h_19 [(b_5, [(Sl.v t17_3)]), (b_4, [(Sl.v t17_1)]), (b_3, [(Sl.v x_23), (VI x_24), (Value.int .u64 x_25)]), (b_2, [(Sl.v nilSl)]), (b_1, [(Sl.v nilSl)])] ∧
  eop P (appS 29 29 29 (Sl.v choices10_1) (Sl.v t46_1)) h_19 fun rv_12 h_20 => ∃ t47_1 : Sl, rv_12 = (Sl.v t47_1) ∧ Vars h_20 [(b_5, [(Sl.v t17_3)]), (b_4, [(Sl.v t17_1)]), (b_3, [(Sl.v x_23), (VI x_24), (Value.int .u64 x_25)]), (b_2, [(Sl.v nilSl)]), (b_1, [(Sl.v nilSl)])] ∧
  J_2 t47_1 x_23 x_24 x_25 h_20) ∧
  ((decide (t33_1 = 1)) = false →
  J_2 choices10_1 x_17 x_18 x_19 h_14))) ∧
  ∀ (x_13 : Sl) (x_14 : Sl) (x_15 : Int) (x_16 : Int) (h_21 : Heap), J_2 x_13 x_14 x_15 x_16 h_21 → Vars h_21 [(b_5, [(Sl.v t17_3)]), (b_4, [(Sl.v t17_1)]), (b_3, [(Sl.v x_14), (VI x_15), (Value.int .u64 x_16)]), (b_2, [(Sl.v nilSl)]), (b_1, [(Sl.v nilSl)])] →
  ∀ (h_22 : Heap), Fr (In [b_1]) h_21 h_22 → Vars h_22 [(b_5, [(Sl.v t17_3)]), (b_4, [(Sl.v t17_1)]), (b_3, [(Sl.v x_14), (VI x_15), (Value.int .u64 x_16)]), (b_2, [(Sl.v nilSl)]), (b_1, [(Sl.v t17_1)])] →
  ∀ (h_23 : Heap), Fr (In [b_2]) h_22 h_23 → Vars h_23 [(b_5, [(Sl.v t17_3)]), (b_4, [(Sl.v t17_1)]), (b_3, [(Sl.v x_14), (VI x_15), (Value.int .u64 x_16)]), (b_2, [(Sl.v t17_3)]), (b_1, [(Sl.v t17_1)])] →
  K (Value.tuple #[(Value.agg #[(Sl.v t17_1)]), (VI t17_2), (Value.agg #[(Sl.v t17_3)]), (Sl.v x_13)]) h_23)
theorem v6 (code0_1 : Sl) (h : Heap) (K : Value → Heap → Prop) (H : u6 Tryz.prog code0_1 h K) : callM Tryz.prog 6 #[(Sl.v code0_1)] h K := by
  refine c6 (Sl.v code0_1) h K ?_
  unfold u6 at H
  unfold t6
  have hL : Vars h [] := .nil
  refine eop_alloc 26 zer26 rfl hL (fun b_1 h_1 hb_1 hf_1 hL_1 => ?_)
  refine eop_alloc 28 zer28 rfl hL_1 (fun b_2 h_2 hb_2 hf_2 hL_2 => ?_)
  refine pop.mk' (v := (Value.agg #[(Sl.v code0_1), (VI 0), (Value.int .u64 0)])) (fun w => by kernel_rfl) ?_
  refine eop_box 74 (Value.agg #[(Sl.v code0_1), (VI 0), (Value.int .u64 0)]) rfl hL_2 (fun b_3 h_3 hb_3 hf_3 hL_3 => ?_)
  have H := H b_1 b_2 b_3 h_3 (Nat.le_trans (Fr.size (Fr.r (In []) _)) hb_1) (Nat.le_trans (Fr.size (Fr.no' (Fr.r (In []) _) hf_1)) hb_2) (Nat.le_trans (Fr.size (Fr.no' (Fr.no' (Fr.r (In []) _) hf_1) hf_2)) hb_3) (Fr.no' (Fr.no' (Fr.no' (Fr.r (In []) _) hf_1) hf_2) hf_3) hL_3
  refine H.mono fun rv_1 h_4 H => ?_
  obtain ⟨x_1, x_2, x_3, t17_1, t17_2, t17_3, rfl, hL_4, H⟩ := H
  refine pop_ext (v := (Value.agg #[(Sl.v t17_1)])) rfl ?_
  refine pop_ext (v := (VI t17_2)) rfl ?_
  refine pop_ext (v := (Value.agg #[(Sl.v t17_3)])) rfl ?_
  refine eop_alloc 26 zer26 rfl hL_4 (fun b_4 h_5 hb_4 hf_4 hL_5 => ?_)
  refine eop_alloc 28 zer28 rfl hL_5 (fun b_5 h_6 hb_5 hf_5 hL_6 => ?_)
  refine uop_loc siz26 hL_6 1 rfl 0 [(Sl.v t17_1)] rfl rfl rfl (Nat.le_of_ble_eq_true rfl) (L' := [(b_5, [(Sl.v nilSl)]), (b_4, [(Sl.v t17_1)]), (b_3, [(Sl.v x_1), (VI x_2), (Value.int .u64 x_3)]), (b_2, [(Sl.v nilSl)]), (b_1, [(Sl.v nilSl)])]) rfl (fun h_7 hf_6 hL_7 => ?_)
  refine uop_loc siz28 hL_7 0 rfl 0 [(Sl.v t17_3)] rfl rfl rfl (Nat.le_of_ble_eq_true rfl) (L' := [(b_5, [(Sl.v t17_3)]), (b_4, [(Sl.v t17_1)]), (b_3, [(Sl.v x_1), (VI x_2), (Value.int .u64 x_3)]), (b_2, [(Sl.v nilSl)]), (b_1, [(Sl.v nilSl)])]) rfl (fun h_8 hf_7 hL_8 => ?_)
  have H := H b_4 b_5 h_8 (Nat.le_trans (Fr.size (Fr.r (In []) _)) hb_4) (Nat.le_trans (Fr.size (Fr.no' (Fr.r (In []) _) hf_4)) hb_5) (Fr.new (Fr.new (Fr.no' (Fr.no' (Fr.r (In []) _) hf_4) hf_5) (Nat.le_trans (Fr.size (Fr.r (In []) _)) hb_4) hf_6) (Nat.le_trans (Fr.size (Fr.no' (Fr.r (In []) _) hf_4)) hb_5) hf_7) hL_8
  refine H.mono fun rv_2 h_9 H => ?_
  obtain ⟨x_4, x_5, x_6, t22_1, rfl, hL_9, H⟩ := H
  obtain ⟨J_1, ⟨n_2, h0_1⟩, HB_2⟩ := H
  refine loop_intro (J := fun (n : Nat) (vs : List Value) (h' : Heap) => ∃ choices10_1 : Sl, ∃ k11_1 : Int, ∃ x_7 : Sl, ∃ x_8 : Int, ∃ x_9 : Int, vs = [(Sl.v choices10_1), (VI k11_1)] ∧ J_1 n choices10_1 k11_1 x_7 x_8 x_9 h' ∧ Vars h' [(b_5, [(Sl.v t17_3)]), (b_4, [(Sl.v t17_1)]), (b_3, [(Sl.v x_7), (VI x_8), (Value.int .u64 x_9)]), (b_2, [(Sl.v nilSl)]), (b_1, [(Sl.v nilSl)])]) n_2 ⟨nilSl, t22_1, x_4, x_5, x_6, rfl, h0_1, hL_9⟩ ?_
  intro I_1 mu_1 hI_1 junk_1 tv_2 tv_3 h_10 hi_1
  obtain ⟨n_1, ⟨choices10_1, k11_1, x_7, x_8, x_9, hv, hJ_1, hL_10⟩, hn_1⟩ := hI_1 _ _ hi_1
  cases hv
  have H := HB_2 n_1 choices10_1 k11_1 x_7 x_8 x_9 h_10 hJ_1 hL_10
  refine pop_gtr .i64 k11_1 0 ?_
  refine condM_b (fun hb_6 => ?_) (fun hb_6 => ?_)
  ·have H := H.1 hb_6
   refine H.mono fun rv_3 h_11 H => ?_
   obtain ⟨x_10, x_11, x_12, t29_1, rfl, hL_11, H⟩ := H
   refine H.mono fun rv_4 h_12 H => ?_
   obtain ⟨t30_1, rfl, hL_12, H⟩ := H
   refine H.mono fun rv_5 h_13 H => ?_
   obtain ⟨t31_1, rfl, hL_13, H⟩ := H
   refine pop_sub .i64 k11_1 1 ?_
   obtain ⟨m_1, hm_1, H⟩ := H
   exact hn_1 _ _ ⟨m_1, hm_1, t31_1, (w64 (k11_1 - 1)), x_10, x_11, x_12, rfl, H, hL_13⟩
  have H := H.2 hb_6
  obtain ⟨J_2, H, HB_1⟩ := H
  refine ⟨fun (vs : List Value) (h' : Heap) => ∃ x_13 : Sl, ∃ x_14 : Sl, ∃ x_15 : Int, ∃ x_16 : Int, vs = [(Sl.v x_13)] ∧ J_2 x_13 x_14 x_15 x_16 h' ∧ Vars h' [(b_5, [(Sl.v t17_3)]), (b_4, [(Sl.v t17_1)]), (b_3, [(Sl.v x_14), (VI x_15), (Value.int .u64 x_16)]), (b_2, [(Sl.v nilSl)]), (b_1, [(Sl.v nilSl)])], ?_, ?_⟩
  ·refine H.mono fun rv_6 h_14 H => ?_
   obtain ⟨x_17, x_18, x_19, t33_1, rfl, hL_14, H⟩ := H
   refine pop_ieq .i64 _ _ t33_1 0 ?_
   refine condM_b (fun hb_7 => ?_) (fun hb_7 => ?_)
   ·have H := H.1 hb_7
    refine H.mono fun rv_7 h_15 H => ?_
    obtain ⟨x_20, x_21, x_22, t37_1, rfl, hL_15, H⟩ := H
    refine pop_add .i64 100 t37_1 ?_
    refine H.mono fun rv_8 h_16 H => ?_
    obtain ⟨t39_1, rfl, hL_16, H⟩ := H
    exact ⟨t39_1, x_20, x_21, x_22, rfl, H, hL_16⟩
   have H := H.2 hb_7
   refine pop_ieq .i64 _ _ t33_1 1 ?_
   refine condM_b (fun hb_8 => ?_) (fun hb_8 => ?_)
   rotate_left
   ·have H := H.2 hb_8
    exact ⟨choices10_1, x_17, x_18, x_19, rfl, H, hL_14⟩
   have H := H.1 hb_8
   refine H.mono fun rv_9 h_17 H => ?_
   obtain ⟨t44_1, rfl, hL_17, H⟩ := H
   refine H.mono fun rv_10 h_18 H => ?_
   obtain ⟨x_23, x_24, x_25, t45_1, rfl, hL_18, H⟩ := H
   refine H.mono fun rv_11 h_19 H => ?_
   obtain ⟨t46_1, rfl, hL_19, H⟩ := H
   refine H.mono fun rv_12 h_20 H => ?_
   obtain ⟨t47_1, rfl, hL_20, H⟩ := H
   exact ⟨t47_1, x_23, x_24, x_25, rfl, H, hL_20⟩
  intro junk_2 tv_1 h_21
  rintro ⟨x_13, x_14, x_15, x_16, hv, hJ_2, hL_21⟩
  cases hv
  have H := HB_1 x_13 x_14 x_15 x_16 h_21 hJ_2 hL_21
  refine rop_locA agg26 hL_21 1 rfl 0 (vs := [(Sl.v t17_1)]) rfl rfl ?_
  refine rop_locA agg28 hL_21 0 rfl 0 (vs := [(Sl.v t17_3)]) rfl rfl ?_
  refine uop_loc siz26 hL_21 4 rfl 0 [(Sl.v t17_1)] rfl rfl rfl (Nat.le_of_ble_eq_true rfl) (L' := [(b_5, [(Sl.v t17_3)]), (b_4, [(Sl.v t17_1)]), (b_3, [(Sl.v x_14), (VI x_15), (Value.int .u64 x_16)]), (b_2, [(Sl.v nilSl)]), (b_1, [(Sl.v t17_1)])]) rfl (fun h_22 hf_8 hL_22 => ?_)
  have H := H  h_22  (Fr.old (Fr.r (In []) _) hf_8) hL_22
  refine ⟨?_, ?_⟩
  ·exact still_locA agg28 hL_22 0 rfl 0 (vs := [(Sl.v t17_3)]) rfl rfl
  refine uop_loc siz28 hL_22 3 rfl 0 [(Sl.v t17_3)] rfl rfl rfl (Nat.le_of_ble_eq_true rfl) (L' := [(b_5, [(Sl.v t17_3)]), (b_4, [(Sl.v t17_1)]), (b_3, [(Sl.v x_14), (VI x_15), (Value.int .u64 x_16)]), (b_2, [(Sl.v t17_3)]), (b_1, [(Sl.v t17_1)])]) rfl (fun h_23 hf_9 hL_23 => ?_)
  refine rop_locA agg26 hL_23 4 rfl 0 (vs := [(Sl.v t17_1)]) rfl rfl ?_
  refine rop_locA agg28 hL_23 3 rfl 0 (vs := [(Sl.v t17_3)]) rfl rfl ?_
  have H := H  h_23  (Fr.old (Fr.r (In []) _) hf_9) hL_23
  exact H
def u7 (P : Program) (g0_1 : Sl) (sink1_1 : Int) (s2_1 : Sl) (choices3_1 : Sl) (h : Heap) (K : Value → Heap → Prop) : Prop :=
  ∀ (b_1 : Nat) (b_2 : Nat) (b_3 : Nat) (h_3 : Heap), h.size ≤ b_1 → h.size ≤ b_2 → h.size ≤ b_3 → Fr (In []) h h_3 → Vars h_3 [(b_3, [(Sl.v nilSl)]), (b_2, [(Sl.v s2_1)]), (b_1, [(Sl.v g0_1)])] →
  callM P 54 #[(Value.agg #[(Sl.v g0_1)]), (VI sink1_1), (Value.agg #[(Sl.v s2_1)]), (Sl.v choices3_1)] h_3 fun rv_1 h_4 => ∃ t18_1 : Sl, ∃ t18_2 : Int, ∃ t18_3 : Bool, rv_1 = (Value.tuple #[(Value.agg #[(Sl.v t18_1)]), (VI t18_2), (VB t18_3)]) ∧ Vars h_4 [(b_3, [(Sl.v nilSl)]), (b_2, [(Sl.v s2_1)]), (b_1, [(Sl.v g0_1)])] ∧
  ∀ (b_4 : Nat) (h_7 : Heap), h_4.size ≤ b_4 → Fr (In [b_3]) h_4 h_7 → Vars h_7 [(b_4, [(Sl.v t18_1)]), (b_3, [(Sl.v t18_1)]), (b_2, [(Sl.v s2_1)]), (b_1, [(Sl.v g0_1)])] →
  K (Value.tuple #[(Value.agg #[(Sl.v t18_1)]), (VB t18_3)]) h_7
theorem v7 (g0_1 : Sl) (sink1_1 : Int) (s2_1 : Sl) (choices3_1 : Sl) (h : Heap) (K : Value → Heap → Prop) (H : u7 Tryz.prog g0_1 sink1_1 s2_1 choices3_1 h K) : callM Tryz.prog 7 #[(Value.agg #[(Sl.v g0_1)]), (VI sink1_1), (Value.agg #[(Sl.v s2_1)]), (Sl.v choices3_1)] h K := by
  refine c7 (Value.agg #[(Sl.v g0_1)]) (VI sink1_1) (Value.agg #[(Sl.v s2_1)]) (Sl.v choices3_1) h K ?_
  unfold u7 at H
  unfold t7
  have hL : Vars h [] := .nil
  refine eop_box 26 (Value.agg #[(Sl.v g0_1)]) rfl hL (fun b_1 h_1 hb_1 hf_1 hL_1 => ?_)
  refine eop_box 28 (Value.agg #[(Sl.v s2_1)]) rfl hL_1 (fun b_2 h_2 hb_2 hf_2 hL_2 => ?_)
  refine eop_alloc 28 zer28 rfl hL_2 (fun b_3 h_3 hb_3 hf_3 hL_3 => ?_)
  refine rop_locA agg26 hL_3 2 rfl 0 (vs := [(Sl.v g0_1)]) rfl rfl ?_
  refine rop_locA agg28 hL_3 1 rfl 0 (vs := [(Sl.v s2_1)]) rfl rfl ?_
  have H := H b_1 b_2 b_3 h_3 (Nat.le_trans (Fr.size (Fr.r (In []) _)) hb_1) (Nat.le_trans (Fr.size (Fr.no' (Fr.r (In []) _) hf_1)) hb_2) (Nat.le_trans (Fr.size (Fr.no' (Fr.no' (Fr.r (In []) _) hf_1) hf_2)) hb_3) (Fr.no' (Fr.no' (Fr.no' (Fr.r (In []) _) hf_1) hf_2) hf_3) hL_3
  refine H.mono fun rv_1 h_4 H => ?_
  obtain ⟨t18_1, t18_2, t18_3, rfl, hL_4, H⟩ := H
  refine pop_ext (v := (Value.agg #[(Sl.v t18_1)])) rfl ?_
  refine pop_ext (v := (VI t18_2)) rfl ?_
  refine pop_ext (v := (VB t18_3)) rfl ?_
  refine eop_alloc 28 zer28 rfl hL_4 (fun b_4 h_5 hb_4 hf_4 hL_5 => ?_)
  refine uop_loc siz28 hL_5 0 rfl 0 [(Sl.v t18_1)] rfl rfl rfl (Nat.le_of_ble_eq_true rfl) (L' := [(b_4, [(Sl.v t18_1)]), (b_3, [(Sl.v nilSl)]), (b_2, [(Sl.v s2_1)]), (b_1, [(Sl.v g0_1)])]) rfl (fun h_6 hf_5 hL_6 => ?_)
  refine rop_locA agg28 hL_6 0 rfl 0 (vs := [(Sl.v t18_1)]) rfl rfl ?_
  refine uop_loc siz28 hL_6 1 rfl 0 [(Sl.v t18_1)] rfl rfl rfl (Nat.le_of_ble_eq_true rfl) (L' := [(b_4, [(Sl.v t18_1)]), (b_3, [(Sl.v t18_1)]), (b_2, [(Sl.v s2_1)]), (b_1, [(Sl.v g0_1)])]) rfl (fun h_7 hf_6 hL_7 => ?_)
  refine rop_locA agg28 hL_7 1 rfl 0 (vs := [(Sl.v t18_1)]) rfl rfl ?_
  have H := H b_4 h_7 (Nat.le_trans (Fr.size (Fr.r (In []) _)) hb_4) (Fr.old (Fr.new (Fr.no' (Fr.r (In []) _) hf_4) (Nat.le_trans (Fr.size (Fr.r (In []) _)) hb_4) hf_5) hf_6) hL_7
  exact H
def u8 (P : Program) (g0_1 : Sl) (sink1_1 : Int) (s2_1 : Sl) (choices3_1 : Sl) (h : Heap) (K : Value → Heap → Prop) : Prop :=
  ∀ (b_1 : Nat) (b_2 : Nat) (b_3 : Nat) (h_3 : Heap), h.size ≤ b_1 → h.size ≤ b_2 → h.size ≤ b_3 → Fr (In []) h h_3 → Vars h_3 [(b_3, [(Sl.v nilSl)]), (b_2, [(Sl.v s2_1)]), (b_1, [(Sl.v g0_1)])] →
  callM P 55 #[(Value.agg #[(Sl.v g0_1)]), (VI sink1_1), (Value.agg #[(Sl.v s2_1)])] h_3 fun rv_1 h_4 => ∃ t16_1 : Bool, rv_1 = (VB t16_1) ∧ Vars h_4 [(b_3, [(Sl.v nilSl)]), (b_2, [(Sl.v s2_1)]), (b_1, [(Sl.v g0_1)])] ∧
  ((!t16_1) = true →
  ∀ (h_14 : Heap), Fr (In [b_3]) h_4 h_14 → Vars h_14 [(b_3, [(Sl.v nilSl)]), (b_2, [(Sl.v s2_1)]), (b_1, [(Sl.v g0_1)])] →
  K (Value.tuple #[(Value.agg #[(Sl.v nilSl)]), (VB false)]) h_14) ∧
  ((!t16_1) = false →
  ((decide (100 < (choices3_1.n : Int))) = true →
  ∀ (h_13 : Heap), Fr (In [b_3]) h_4 h_13 → Vars h_13 [(b_3, [(Sl.v nilSl)]), (b_2, [(Sl.v s2_1)]), (b_1, [(Sl.v g0_1)])] →
  K (Value.tuple #[(Value.agg #[(Sl.v nilSl)]), (VB false)]) h_13) ∧
  ((decide (100 < (choices3_1.n : Int))) = false →
  callM P 56 #[(Sl.v choices3_1), (VI 0), (VI 9223372036854775807)] h_4 fun rv_2 h_5 => ∃ t25_1 : Bool, rv_2 = (VB t25_1) ∧ Vars h_5 [(b_3, [(Sl.v nilSl)]), (b_2, [(Sl.v s2_1)]), (b_1, [(Sl.v g0_1)])] ∧
  ((!t25_1) = true →
  ∀ (h_6 : Heap), Fr (In [b_3]) h_5 h_6 → Vars h_6 [(b_3, [(Sl.v nilSl)]), (b_2, [(Sl.v s2_1)]), (b_1, [(Sl.v g0_1)])] →
  K (Value.tuple #[(Value.agg #[(Sl.v nilSl)]), (VB false)]) h_6) ∧
  ((!t25_1) = false →
  callM P 57 #[(Value.agg #[(Sl.v g0_1)]), (VI sink1_1), (Value.agg #[(Sl.v s2_1)]), (Sl.v choices3_1)] h_5 fun rv_3 h_7 => ∃ t34_1 : Sl, ∃ t34_2 : Int, ∃ t34_3 : Bool, rv_3 = (Value.tuple #[(Value.agg #[(Sl.v t34_1)]), (VI t34_2), (VB t34_3)]) ∧ Vars h_7 [(b_3, [(Sl.v nilSl)]), (b_2, [(Sl.v s2_1)]), (b_1, [(Sl.v g0_1)])] ∧
  ((!t34_3) = true →
  ∀ (b_4 : Nat) (h_10 : Heap), h_7.size ≤ b_4 → Fr (In [b_3]) h_7 h_10 → Vars h_10 [(b_4, [(Sl.v t34_1)]), (b_3, [(Sl.v nilSl)]), (b_2, [(Sl.v s2_1)]), (b_1, [(Sl.v g0_1)])] →
  K (Value.tuple #[(Value.agg #[(Sl.v nilSl)]), (VB false)]) h_10) ∧
  ((!t34_3) = false →
  ∀ (b_4 : Nat) (h_9 : Heap), h_7.size ≤ b_4 → Fr (In []) h_7 h_9 → Vars h_9 [(b_4, [(Sl.v t34_1)]), (b_3, [(Sl.v nilSl)]), (b_2, [(Sl.v s2_1)]), (b_1, [(Sl.v g0_1)])] →
  callM P 58 #[(Value.agg #[(Sl.v t34_1)]), (Sl.v nilSl)] h_9 fun rv_4 h_11 => ∃ t42_1 : Sl, rv_4 = (Value.agg #[(Sl.v t42_1)]) ∧ Vars h_11 [(b_4, [(Sl.v t34_1)]), (b_3, [(Sl.v nilSl)]), (b_2, [(Sl.v s2_1)]), (b_1, [(Sl.v g0_1)])] ∧
  ∀ (h_12 : Heap), Fr (In [b_3]) h_11 h_12 → Vars h_12 [(b_4, [(Sl.v t34_1)]), (b_3, [(Sl.v t42_1)]), (b_2, [(Sl.v s2_1)]), (b_1, [(Sl.v g0_1)])] →
  K (Value.tuple #[(Value.agg #[(Sl.v t42_1)]), (VB true)]) h_12))))
theorem v8 (g0_1 : Sl) (sink1_1 : Int) (s2_1 : Sl) (choices3_1 : Sl) (h : Heap) (K : Value → Heap → Prop) (H : u8 Tryz.prog g0_1 sink1_1 s2_1 choices3_1 h K) : callM Tryz.prog 8 #[(Value.agg #[(Sl.v g0_1)]), (VI sink1_1), (Value.agg #[(Sl.v s2_1)]), (Sl.v choices3_1)] h K := by
  refine c8 (Value.agg #[(Sl.v g0_1)]) (VI sink1_1) (Value.agg #[(Sl.v s2_1)]) (Sl.v choices3_1) h K ?_
  unfold u8 at H
  unfold t8
  have hL : Vars h [] := .nil
  refine eop_box 26 (Value.agg #[(Sl.v g0_1)]) rfl hL (fun b_1 h_1 hb_1 hf_1 hL_1 => ?_)
  refine eop_box 28 (Value.agg #[(Sl.v s2_1)]) rfl hL_1 (fun b_2 h_2 hb_2 hf_2 hL_2 => ?_)
  refine eop_alloc 28 zer28 rfl hL_2 (fun b_3 h_3 hb_3 hf_3 hL_3 => ?_)
  refine rop_locA agg26 hL_3 2 rfl 0 (vs := [(Sl.v g0_1)]) rfl rfl ?_
  refine rop_locA agg28 hL_3 1 rfl 0 (vs := [(Sl.v s2_1)]) rfl rfl ?_
  have H := H b_1 b_2 b_3 h_3 (Nat.le_trans (Fr.size (Fr.r (In []) _)) hb_1) (Nat.le_trans (Fr.size (Fr.no' (Fr.r (In []) _) hf_1)) hb_2) (Nat.le_trans (Fr.size (Fr.no' (Fr.no' (Fr.r (In []) _) hf_1) hf_2)) hb_3) (Fr.no' (Fr.no' (Fr.no' (Fr.r (In []) _) hf_1) hf_2) hf_3) hL_3
  refine H.mono fun rv_1 h_4 H => ?_
  obtain ⟨t16_1, rfl, hL_4, H⟩ := H
  refine pop_not t16_1 ?_
  refine guardM_sf (fun hb_4 => ?_) (fun hb_4 => ?_)
  rotate_left
  ·have H := H.1 hb_4
   refine guardM_n' hb_4 (by decide) ?_
   refine guardM_n' hb_4 (by decide) ?_
   refine pop_pickt' hb_4 ?_
   refine guardM_n (by decide) ?_
   refine guardM_n (by decide) ?_
   refine guardM_n (by decide) ?_
   refine pop_pickt _ _ ?_
   refine condM_t ?_
   refine pop.mk' (v := (Value.agg #[(Sl.v nilSl)])) (fun w => by kernel_rfl) ?_
   refine uop_loc siz28 hL_4 0 rfl 0 [(Sl.v nilSl)] rfl rfl rfl (Nat.le_of_ble_eq_true rfl) (L' := [(b_3, [(Sl.v nilSl)]), (b_2, [(Sl.v s2_1)]), (b_1, [(Sl.v g0_1)])]) rfl (fun h_14 hf_10 hL_14 => ?_)
   refine rop_locA agg28 hL_14 0 rfl 0 (vs := [(Sl.v nilSl)]) rfl rfl ?_
   have H := H  h_14  (Fr.old (Fr.r (In []) _) hf_10) hL_14
   exact H
  have H := H.2 hb_4
  refine guardM_y' hb_4 ?_
  refine pop_len choices3_1 _ _ sli29 ?_
  refine guardM_y' hb_4 ?_
  refine pop_gtr .i64 (choices3_1.n : Int) 100 ?_
  refine pop_pickf' hb_4 ?_
  refine guardM_sf (fun hb_5 => ?_) (fun hb_5 => ?_)
  rotate_left
  ·have H := H.1 hb_5
   refine guardM_n' hb_5 (by decide) ?_
   refine guardM_n' hb_5 (by decide) ?_
   refine pop_pickt' hb_5 ?_
   refine condM_t ?_
   refine pop.mk' (v := (Value.agg #[(Sl.v nilSl)])) (fun w => by kernel_rfl) ?_
   refine uop_loc siz28 hL_4 0 rfl 0 [(Sl.v nilSl)] rfl rfl rfl (Nat.le_of_ble_eq_true rfl) (L' := [(b_3, [(Sl.v nilSl)]), (b_2, [(Sl.v s2_1)]), (b_1, [(Sl.v g0_1)])]) rfl (fun h_13 hf_9 hL_13 => ?_)
   refine rop_locA agg28 hL_13 0 rfl 0 (vs := [(Sl.v nilSl)]) rfl rfl ?_
   have H := H  h_13  (Fr.old (Fr.r (In []) _) hf_9) hL_13
   exact H
  have H := H.2 hb_5
  refine guardM_y' hb_5 ?_
  refine H.mono fun rv_2 h_5 H => ?_
  obtain ⟨t25_1, rfl, hL_5, H⟩ := H
  refine guardM_y' hb_5 ?_
  refine pop_not t25_1 ?_
  refine pop_pickf' hb_5 ?_
  refine condM_b (fun hb_6 => ?_) (fun hb_6 => ?_)
  ·have H := H.1 hb_6
   refine pop.mk' (v := (Value.agg #[(Sl.v nilSl)])) (fun w => by kernel_rfl) ?_
   refine uop_loc siz28 hL_5 0 rfl 0 [(Sl.v nilSl)] rfl rfl rfl (Nat.le_of_ble_eq_true rfl) (L' := [(b_3, [(Sl.v nilSl)]), (b_2, [(Sl.v s2_1)]), (b_1, [(Sl.v g0_1)])]) rfl (fun h_6 hf_4 hL_6 => ?_)
   refine rop_locA agg28 hL_6 0 rfl 0 (vs := [(Sl.v nilSl)]) rfl rfl ?_
   have H := H  h_6  (Fr.old (Fr.r (In []) _) hf_4) hL_6
   exact H
  have H := H.2 hb_6
  refine rop_locA agg26 hL_5 2 rfl 0 (vs := [(Sl.v g0_1)]) rfl rfl ?_
  refine rop_locA agg28 hL_5 1 rfl 0 (vs := [(Sl.v s2_1)]) rfl rfl ?_
  refine H.mono fun rv_3 h_7 H => ?_
  obtain ⟨t34_1, t34_2, t34_3, rfl, hL_7, H⟩ := H
  refine pop_ext (v := (Value.agg #[(Sl.v t34_1)])) rfl ?_
  refine pop_ext (v := (VI t34_2)) rfl ?_
  refine pop_ext (v := (VB t34_3)) rfl ?_
  refine eop_alloc 28 zer28 rfl hL_7 (fun b_4 h_8 hb_7 hf_5 hL_8 => ?_)
  refine uop_loc siz28 hL_8 0 rfl 0 [(Sl.v t34_1)] rfl rfl rfl (Nat.le_of_ble_eq_true rfl) (L' := [(b_4, [(Sl.v t34_1)]), (b_3, [(Sl.v nilSl)]), (b_2, [(Sl.v s2_1)]), (b_1, [(Sl.v g0_1)])]) rfl (fun h_9 hf_6 hL_9 => ?_)
  refine pop_not t34_3 ?_
  refine condM_b (fun hb_8 => ?_) (fun hb_8 => ?_)
  ·have H := H.1 hb_8
   refine pop.mk' (v := (Value.agg #[(Sl.v nilSl)])) (fun w => by kernel_rfl) ?_
   refine uop_loc siz28 hL_9 1 rfl 0 [(Sl.v nilSl)] rfl rfl rfl (Nat.le_of_ble_eq_true rfl) (L' := [(b_4, [(Sl.v t34_1)]), (b_3, [(Sl.v nilSl)]), (b_2, [(Sl.v s2_1)]), (b_1, [(Sl.v g0_1)])]) rfl (fun h_10 hf_7 hL_10 => ?_)
   refine rop_locA agg28 hL_10 1 rfl 0 (vs := [(Sl.v nilSl)]) rfl rfl ?_
   have H := H b_4 h_10 (Nat.le_trans (Fr.size (Fr.r (In []) _)) hb_7) (Fr.old (Fr.new (Fr.no' (Fr.r (In []) _) hf_5) (Nat.le_trans (Fr.size (Fr.r (In []) _)) hb_7) hf_6) hf_7) hL_10
   exact H
  have H := H.2 hb_8
  refine rop_locA agg28 hL_9 0 rfl 0 (vs := [(Sl.v t34_1)]) rfl rfl ?_
  have H := H b_4 h_9 (Nat.le_trans (Fr.size (Fr.r (In []) _)) hb_7) (Fr.new (Fr.no' (Fr.r (In []) _) hf_5) (Nat.le_trans (Fr.size (Fr.r (In []) _)) hb_7) hf_6) hL_9
  refine H.mono fun rv_4 h_11 H => ?_
  obtain ⟨t42_1, rfl, hL_11, H⟩ := H
  refine uop_loc siz28 hL_11 1 rfl 0 [(Sl.v t42_1)] rfl rfl rfl (Nat.le_of_ble_eq_true rfl) (L' := [(b_4, [(Sl.v t34_1)]), (b_3, [(Sl.v t42_1)]), (b_2, [(Sl.v s2_1)]), (b_1, [(Sl.v g0_1)])]) rfl (fun h_12 hf_8 hL_12 => ?_)
  refine rop_locA agg28 hL_12 1 rfl 0 (vs := [(Sl.v t42_1)]) rfl rfl ?_
  have H := H  h_12  (Fr.old (Fr.r (In []) _) hf_8) hL_12
  exact H
def u9 (P : Program) (g0_1 : Sl) (sink1_1 : Int) (s2_1 : Sl) (h : Heap) (K : Value → Heap → Prop) : Prop :=
  ∀ (b_1 : Nat) (b_2 : Nat) (h_2 : Heap), h.size ≤ b_1 → h.size ≤ b_2 → Fr (In []) h h_2 → Vars h_2 [(b_2, [(Sl.v s2_1)]), (b_1, [(Sl.v g0_1)])] →
  callM P 54 #[(Value.agg #[(Sl.v g0_1)]), (VI sink1_1), (Value.agg #[(Sl.v s2_1)]), (Sl.v nilSl)] h_2 fun rv_1 h_3 => ∃ t18_1 : Sl, ∃ t18_2 : Int, ∃ t18_3 : Bool, rv_1 = (Value.tuple #[(Value.agg #[(Sl.v t18_1)]), (VI t18_2), (VB t18_3)]) ∧ Vars h_3 [(b_2, [(Sl.v s2_1)]), (b_1, [(Sl.v g0_1)])] ∧
  ((!t18_3) = true →
  ∀ (b_3 : Nat) (h_5 : Heap), h_3.size ≤ b_3 → Fr (In []) h_3 h_5 → Vars h_5 [(b_3, [(Sl.v t18_1)]), (b_2, [(Sl.v s2_1)]), (b_1, [(Sl.v g0_1)])] →
  K (Value.tuple #[(Sl.v nilSl), (VB false)]) h_5) ∧
  ((!t18_3) = false →
  ∀ (b_3 : Nat) (h_5 : Heap), h_3.size ≤ b_3 → Fr (In []) h_3 h_5 → Vars h_5 [(b_3, [(Sl.v t18_1)]), (b_2, [(Sl.v s2_1)]), (b_1, [(Sl.v g0_1)])] →
  eop P (Instr.buildSlice 29 0 #[]) h_5 fun rv_2 h_6 => ∃ t24_1 : Sl, rv_2 = (Sl.v t24_1) ∧ Vars h_6 [(b_3, [(Sl.v t18_1)]), (b_2, [(Sl.v s2_1)]), (b_1, [(Sl.v g0_1)])] ∧
  ∃ J_1 : Nat → Sl → Int → Heap → Prop, (∃ n0 : Nat, J_1 n0 t24_1 0 h_6) ∧
  ∀ (n_1 : Nat) (out11_1 : Sl) (t28_1 : Int) (h_7 : Heap), J_1 n_1 out11_1 t28_1 h_7 → Vars h_7 [(b_3, [(Sl.v t18_1)]), (b_2, [(Sl.v s2_1)]), (b_1, [(Sl.v g0_1)])] →
  ((decide (t28_1 < (s2_1.n : Int))) = true →
  InB s2_1 t28_1 ∧
  ∃ t32_1 : Sl, hcell h_7 (Sl.at s2_1 t28_1 1) = some (Sl.v t32_1) ∧
  InB t18_1 t28_1 ∧
  ∃ t40_1 : Sl, hcell h_7 (Sl.at t18_1 t28_1 1) = some (Sl.v t40_1) ∧
  eop P (Instr.buildSlice 29 1 #[(0, (VI (w64 ((t32_1.n : Int) - (t40_1.n : Int)))))]) h_7 fun rv_3 h_8 => ∃ t43_1 : Sl, rv_3 = (Sl.v t43_1) ∧ Vars h_8 [(b_3, [(Sl.v t18_1)]), (b_2, [(Sl.v s2_1)]), (b_1, [(Sl.v g0_1)])] ∧
  eop P (appS 29 29 29 (Sl.v out11_1) (Sl.v t43_1)) h_8 fun rv_4 h_9 => ∃ t44_1 : Sl, rv_4 = (Sl.v t44_1) ∧ Vars h_9 [(b_3, [(Sl.v t18_1)]), (b_2, [(Sl.v s2_1)]), (b_1, [(Sl.v g0_1)])] ∧
  ∃ m : Nat, m < n_1 ∧ J_1 m t44_1 (w64 (t28_1 + 1)) h_9) ∧
  ((decide (t28_1 < (s2_1.n : Int))) = false →
  K (Value.tuple #[(Sl.v out11_1), (VB true)]) h_7))
theorem v9 (g0_1 : Sl) (sink1_1 : Int) (s2_1 : Sl) (h : Heap) (K : Value → Heap → Prop) (H : u9 Tryz.prog g0_1 sink1_1 s2_1 h K) : callM Tryz.prog 9 #[(Value.agg #[(Sl.v g0_1)]), (VI sink1_1), (Value.agg #[(Sl.v s2_1)])] h K := by
  refine c9 (Value.agg #[(Sl.v g0_1)]) (VI sink1_1) (Value.agg #[(Sl.v s2_1)]) h K ?_
  unfold u9 at H
  unfold t9
  have hL : Vars h [] := .nil
  refine eop_box 26 (Value.agg #[(Sl.v g0_1)]) rfl hL (fun b_1 h_1 hb_1 hf_1 hL_1 => ?_)
  refine eop_box 28 (Value.agg #[(Sl.v s2_1)]) rfl hL_1 (fun b_2 h_2 hb_2 hf_2 hL_2 => ?_)
  refine rop_locA agg26 hL_2 1 rfl 0 (vs := [(Sl.v g0_1)]) rfl rfl ?_
  refine rop_locA agg28 hL_2 0 rfl 0 (vs := [(Sl.v s2_1)]) rfl rfl ?_
  have H := H b_1 b_2 h_2 (Nat.le_trans (Fr.size (Fr.r (In []) _)) hb_1) (Nat.le_trans (Fr.size (Fr.no' (Fr.r (In []) _) hf_1)) hb_2) (Fr.no' (Fr.no' (Fr.r (In []) _) hf_1) hf_2) hL_2
  refine H.mono fun rv_1 h_3 H => ?_
  obtain ⟨t18_1, t18_2, t18_3, rfl, hL_3, H⟩ := H
  refine pop_ext (v := (Value.agg #[(Sl.v t18_1)])) rfl ?_
  refine pop_ext (v := (VI t18_2)) rfl ?_
  refine pop_ext (v := (VB t18_3)) rfl ?_
  refine eop_alloc 28 zer28 rfl hL_3 (fun b_3 h_4 hb_3 hf_3 hL_4 => ?_)
  refine uop_loc siz28 hL_4 0 rfl 0 [(Sl.v t18_1)] rfl rfl rfl (Nat.le_of_ble_eq_true rfl) (L' := [(b_3, [(Sl.v t18_1)]), (b_2, [(Sl.v s2_1)]), (b_1, [(Sl.v g0_1)])]) rfl (fun h_5 hf_4 hL_5 => ?_)
  refine pop_not t18_3 ?_
  refine condM_b (fun hb_4 => ?_) (fun hb_4 => ?_)
  ·have H := H.1 hb_4
   have H := H b_3 h_5 (Nat.le_trans (Fr.size (Fr.r (In []) _)) hb_3) (Fr.new (Fr.no' (Fr.r (In []) _) hf_3) (Nat.le_trans (Fr.size (Fr.r (In []) _)) hb_3) hf_4) hL_5
   exact H
  have H := H.2 hb_4
  have H := H b_3 h_5 (Nat.le_trans (Fr.size (Fr.r (In []) _)) hb_3) (Fr.new (Fr.no' (Fr.r (In []) _) hf_3) (Nat.le_trans (Fr.size (Fr.r (In []) _)) hb_3) hf_4) hL_5
  refine H.mono fun rv_2 h_6 H => ?_
  obtain ⟨t24_1, rfl, hL_6, H⟩ := H
  refine pop_field 0 fld28_0 b_2 0 ?_
  refine rop_loc one24 hL_6 1 rfl 0 (v := (Sl.v s2_1)) rfl ?_
  refine pop_len s2_1 _ _ sli24 ?_
  obtain ⟨J_1, ⟨n_2, h0_1⟩, HB_1⟩ := H
  refine loop_intro (J := fun (n : Nat) (vs : List Value) (h' : Heap) => ∃ out11_1 : Sl, ∃ t28_1 : Int, vs = [(Sl.v out11_1), (VI t28_1)] ∧ J_1 n out11_1 t28_1 h' ∧ Vars h' [(b_3, [(Sl.v t18_1)]), (b_2, [(Sl.v s2_1)]), (b_1, [(Sl.v g0_1)])]) n_2 ⟨t24_1, 0, rfl, h0_1, hL_6⟩ ?_
  intro I_1 mu_1 hI_1 junk_1 tv_1 tv_2 h_7 hi_1
  obtain ⟨n_1, ⟨out11_1, t28_1, hv, hJ_1, hL_7⟩, hn_1⟩ := hI_1 _ _ hi_1
  cases hv
  have H := HB_1 n_1 out11_1 t28_1 h_7 hJ_1 hL_7
  refine pop_lss .i64 t28_1 (s2_1.n : Int) ?_
  refine condM_b (fun hb_5 => ?_) (fun hb_5 => ?_)
  rotate_left
  ·have H := H.2 hb_5
   exact H
  have H := H.1 hb_5
  obtain ⟨hi_2, H⟩ := H
  refine pop_index sli24 siz29 .i64 s2_1 t28_1 hi_2 ?_
  obtain ⟨t32_1, hc_2, H⟩ := H
  refine rop_one one29 (Sl.v t32_1) hc_2 ?_
  refine pop_len t32_1 _ _ sli29 ?_
  refine pop_field 0 fld28_0 b_3 0 ?_
  refine rop_loc one24 hL_7 0 rfl 0 (v := (Sl.v t18_1)) rfl ?_
  obtain ⟨hi_3, H⟩ := H
  refine pop_index sli24 siz29 .i64 t18_1 t28_1 hi_3 ?_
  obtain ⟨t40_1, hc_1, H⟩ := H
  refine rop_one one29 (Sl.v t40_1) hc_1 ?_
  refine pop_len t40_1 _ _ sli29 ?_
  refine pop_sub .i64 (t32_1.n : Int) (t40_1.n : Int) ?_
  refine H.mono fun rv_3 h_8 H => ?_
  obtain ⟨t43_1, rfl, hL_8, H⟩ := H
  refine H.mono fun rv_4 h_9 H => ?_
  obtain ⟨t44_1, rfl, hL_9, H⟩ := H
  refine pop_add .i64 t28_1 1 ?_
  obtain ⟨m_1, hm_1, H⟩ := H
  exact hn_1 _ _ ⟨m_1, hm_1, t44_1, (w64 (t28_1 + 1)), rfl, H, hL_9⟩
def u10 (P : Program) (g0_1 : Sl) (sink1_1 : Int) (s2_1 : Sl) (h : Heap) (K : Value → Heap → Prop) : Prop :=
  ∀ (b_1 : Nat) (b_2 : Nat) (h_2 : Heap), h.size ≤ b_1 → h.size ≤ b_2 → Fr (In []) h h_2 → Vars h_2 [(b_2, [(Sl.v s2_1)]), (b_1, [(Sl.v g0_1)])] →
  callM P 55 #[(Value.agg #[(Sl.v g0_1)]), (VI sink1_1), (Value.agg #[(Sl.v s2_1)])] h_2 fun rv_1 h_3 => ∃ t17_1 : Bool, rv_1 = (VB t17_1) ∧ Vars h_3 [(b_2, [(Sl.v s2_1)]), (b_1, [(Sl.v g0_1)])] ∧
  ((!t17_1) = true →
  K (Value.tuple #[(Sl.v nilSl), (VB false)]) h_3) ∧
  ((!t17_1) = false →
  callM P 57 #[(Value.agg #[(Sl.v g0_1)]), (VI sink1_1), (Value.agg #[(Sl.v s2_1)]), (Sl.v nilSl)] h_3 fun rv_2 h_4 => ∃ t23_1 : Sl, ∃ t23_2 : Int, ∃ t23_3 : Bool, rv_2 = (Value.tuple #[(Value.agg #[(Sl.v t23_1)]), (VI t23_2), (VB t23_3)]) ∧ Vars h_4 [(b_2, [(Sl.v s2_1)]), (b_1, [(Sl.v g0_1)])] ∧
  ((!t23_3) = true →
  ∀ (b_3 : Nat) (h_6 : Heap), h_4.size ≤ b_3 → Fr (In []) h_4 h_6 → Vars h_6 [(b_3, [(Sl.v t23_1)]), (b_2, [(Sl.v s2_1)]), (b_1, [(Sl.v g0_1)])] →
  K (Value.tuple #[(Sl.v nilSl), (VB false)]) h_6) ∧
  ((!t23_3) = false →
  ∀ (b_3 : Nat) (h_6 : Heap), h_4.size ≤ b_3 → Fr (In []) h_4 h_6 → Vars h_6 [(b_3, [(Sl.v t23_1)]), (b_2, [(Sl.v s2_1)]), (b_1, [(Sl.v g0_1)])] →
  ∃ J_1 : Nat → Sl → Int → Heap → Prop, (∃ n0 : Nat, J_1 n0 nilSl 0 h_6) ∧
  ∀ (n_1 : Nat) (out11_1 : Sl) (t32_1 : Int) (h_7 : Heap), J_1 n_1 out11_1 t32_1 h_7 → Vars h_7 [(b_3, [(Sl.v t23_1)]), (b_2, [(Sl.v s2_1)]), (b_1, [(Sl.v g0_1)])] →
  ((decide (t32_1 < (s2_1.n : Int))) = true →
  InB s2_1 t32_1 ∧
  ∃ t36_1 : Sl, hcell h_7 (Sl.at s2_1 t32_1 1) = some (Sl.v t36_1) ∧
  InB t23_1 t32_1 ∧
  ∃ t44_1 : Sl, hcell h_7 (Sl.at t23_1 t32_1 1) = some (Sl.v t44_1) ∧
  eop P (Instr.buildSlice 29 1 #[(0, (VI (w64 ((t36_1.n : Int) - (t44_1.n : Int)))))]) h_7 fun rv_3 h_8 => ∃ t47_1 : Sl, rv_3 = (Sl.v t47_1) ∧ Vars h_8 [(b_3, [(Sl.v t23_1)]), (b_2, [(Sl.v s2_1)]), (b_1, [(Sl.v g0_1)])] ∧
  eop P (appS 29 29 29 (Sl.v out11_1) (Sl.v t47_1)) h_8 fun rv_4 h_9 => ∃ t48_1 : Sl, rv_4 = (Sl.v t48_1) ∧ Vars h_9 [(b_3, [(Sl.v t23_1)]), (b_2, [(Sl.v s2_1)]), (b_1, [(Sl.v g0_1)])] ∧
  ∃ m : Nat, m < n_1 ∧ J_1 m t48_1 (w64 (t32_1 + 1)) h_9) ∧
  ((decide (t32_1 < (s2_1.n : Int))) = false →
  K (Value.tuple #[(Sl.v out11_1), (VB true)]) h_7)))
theorem v10 (g0_1 : Sl) (sink1_1 : Int) (s2_1 : Sl) (h : Heap) (K : Value → Heap → Prop) (H : u10 Tryz.prog g0_1 sink1_1 s2_1 h K) : callM Tryz.prog 10 #[(Value.agg #[(Sl.v g0_1)]), (VI sink1_1), (Value.agg #[(Sl.v s2_1)])] h K := by
  refine c10 (Value.agg #[(Sl.v g0_1)]) (VI sink1_1) (Value.agg #[(Sl.v s2_1)]) h K ?_
  unfold u10 at H
  unfold t10
  have hL : Vars h [] := .nil
  refine eop_box 26 (Value.agg #[(Sl.v g0_1)]) rfl hL (fun b_1 h_1 hb_1 hf_1 hL_1 => ?_)
  refine eop_box 28 (Value.agg #[(Sl.v s2_1)]) rfl hL_1 (fun b_2 h_2 hb_2 hf_2 hL_2 => ?_)
  refine rop_locA agg26 hL_2 1 rfl 0 (vs := [(Sl.v g0_1)]) rfl rfl ?_
  refine rop_locA agg28 hL_2 0 rfl 0 (vs := [(Sl.v s2_1)]) rfl rfl ?_
  have H := H b_1 b_2 h_2 (Nat.le_trans (Fr.size (Fr.r (In []) _)) hb_1) (Nat.le_trans (Fr.size (Fr.no' (Fr.r (In []) _) hf_1)) hb_2) (Fr.no' (Fr.no' (Fr.r (In []) _) hf_1) hf_2) hL_2
  refine H.mono fun rv_1 h_3 H => ?_
  obtain ⟨t17_1, rfl, hL_3, H⟩ := H
  refine pop_not t17_1 ?_
  refine condM_b (fun hb_3 => ?_) (fun hb_3 => ?_)
  ·have H := H.1 hb_3
   exact H
  have H := H.2 hb_3
  refine rop_locA agg26 hL_3 1 rfl 0 (vs := [(Sl.v g0_1)]) rfl rfl ?_
  refine rop_locA agg28 hL_3 0 rfl 0 (vs := [(Sl.v s2_1)]) rfl rfl ?_
  refine H.mono fun rv_2 h_4 H => ?_
  obtain ⟨t23_1, t23_2, t23_3, rfl, hL_4, H⟩ := H
  refine pop_ext (v := (Value.agg #[(Sl.v t23_1)])) rfl ?_
  refine pop_ext (v := (VI t23_2)) rfl ?_
  refine pop_ext (v := (VB t23_3)) rfl ?_
  refine eop_alloc 28 zer28 rfl hL_4 (fun b_3 h_5 hb_4 hf_3 hL_5 => ?_)
  refine uop_loc siz28 hL_5 0 rfl 0 [(Sl.v t23_1)] rfl rfl rfl (Nat.le_of_ble_eq_true rfl) (L' := [(b_3, [(Sl.v t23_1)]), (b_2, [(Sl.v s2_1)]), (b_1, [(Sl.v g0_1)])]) rfl (fun h_6 hf_4 hL_6 => ?_)
  refine pop_not t23_3 ?_
  refine condM_b (fun hb_5 => ?_) (fun hb_5 => ?_)
  ·have H := H.1 hb_5
   have H := H b_3 h_6 (Nat.le_trans (Fr.size (Fr.r (In []) _)) hb_4) (Fr.new (Fr.no' (Fr.r (In []) _) hf_3) (Nat.le_trans (Fr.size (Fr.r (In []) _)) hb_4) hf_4) hL_6
   exact H
  have H := H.2 hb_5
  refine pop_field 0 fld28_0 b_2 0 ?_
  refine rop_loc one24 hL_6 1 rfl 0 (v := (Sl.v s2_1)) rfl ?_
  refine pop_len s2_1 _ _ sli24 ?_
  have H := H b_3 h_6 (Nat.le_trans (Fr.size (Fr.r (In []) _)) hb_4) (Fr.new (Fr.no' (Fr.r (In []) _) hf_3) (Nat.le_trans (Fr.size (Fr.r (In []) _)) hb_4) hf_4) hL_6
  obtain ⟨J_1, ⟨n_2, h0_1⟩, HB_1⟩ := H
  refine loop_intro (J := fun (n : Nat) (vs : List Value) (h' : Heap) => ∃ out11_1 : Sl, ∃ t32_1 : Int, vs = [(Sl.v out11_1), (VI t32_1)] ∧ J_1 n out11_1 t32_1 h' ∧ Vars h' [(b_3, [(Sl.v t23_1)]), (b_2, [(Sl.v s2_1)]), (b_1, [(Sl.v g0_1)])]) n_2 ⟨nilSl, 0, rfl, h0_1, hL_6⟩ ?_
  intro I_1 mu_1 hI_1 junk_1 tv_1 tv_2 h_7 hi_1
  obtain ⟨n_1, ⟨out11_1, t32_1, hv, hJ_1, hL_7⟩, hn_1⟩ := hI_1 _ _ hi_1
  cases hv
  have H := HB_1 n_1 out11_1 t32_1 h_7 hJ_1 hL_7
  refine pop_lss .i64 t32_1 (s2_1.n : Int) ?_
  refine condM_b (fun hb_6 => ?_) (fun hb_6 => ?_)
  rotate_left
  ·have H := H.2 hb_6
   exact H
  have H := H.1 hb_6
  obtain ⟨hi_2, H⟩ := H
  refine pop_index sli24 siz29 .i64 s2_1 t32_1 hi_2 ?_
  obtain ⟨t36_1, hc_2, H⟩ := H
  refine rop_one one29 (Sl.v t36_1) hc_2 ?_
  refine pop_len t36_1 _ _ sli29 ?_
  refine pop_field 0 fld28_0 b_3 0 ?_
  refine rop_loc one24 hL_7 0 rfl 0 (v := (Sl.v t23_1)) rfl ?_
  obtain ⟨hi_3, H⟩ := H
  refine pop_index sli24 siz29 .i64 t23_1 t32_1 hi_3 ?_
  obtain ⟨t44_1, hc_1, H⟩ := H
  refine rop_one one29 (Sl.v t44_1) hc_1 ?_
  refine pop_len t44_1 _ _ sli29 ?_
  refine pop_sub .i64 (t36_1.n : Int) (t44_1.n : Int) ?_
  refine H.mono fun rv_3 h_8 H => ?_
  obtain ⟨t47_1, rfl, hL_8, H⟩ := H
  refine H.mono fun rv_4 h_9 H => ?_
  obtain ⟨t48_1, rfl, hL_9, H⟩ := H
  refine pop_add .i64 t32_1 1 ?_
  obtain ⟨m_1, hm_1, H⟩ := H
  exact hn_1 _ _ ⟨m_1, hm_1, t48_1, (w64 (t32_1 + 1)), rfl, H, hL_9⟩
def u11 (P : Program) (g0_1 : Sl) (sink1_1 : Int) (s2_1 : Sl) (h : Heap) (K : Value → Heap → Prop) : Prop :=
  ∀ (b_1 : Nat) (b_2 : Nat) (h_2 : Heap), h.size ≤ b_1 → h.size ≤ b_2 → Fr (In []) h h_2 → Vars h_2 [(b_2, [(Sl.v s2_1)]), (b_1, [(Sl.v g0_1)])] →
  callM P 54 #[(Value.agg #[(Sl.v g0_1)]), (VI sink1_1), (Value.agg #[(Sl.v s2_1)]), (Sl.v nilSl)] h_2 fun rv_1 h_3 => ∃ t15_1 : Sl, ∃ t15_2 : Int, ∃ t15_3 : Bool, rv_1 = (Value.tuple #[(Value.agg #[(Sl.v t15_1)]), (VI t15_2), (VB t15_3)]) ∧ Vars h_3 [(b_2, [(Sl.v s2_1)]), (b_1, [(Sl.v g0_1)])] ∧
  ∀ (b_3 : Nat) (h_5 : Heap), h_3.size ≤ b_3 → Fr (In []) h_3 h_5 → Vars h_5 [(b_3, [(Sl.v t15_1)]), (b_2, [(Sl.v s2_1)]), (b_1, [(Sl.v g0_1)])] →
  K (Value.tuple #[(VI t15_2), (VB t15_3)]) h_5
theorem v11 (g0_1 : Sl) (sink1_1 : Int) (s2_1 : Sl) (h : Heap) (K : Value → Heap → Prop) (H : u11 Tryz.prog g0_1 sink1_1 s2_1 h K) : callM Tryz.prog 11 #[(Value.agg #[(Sl.v g0_1)]), (VI sink1_1), (Value.agg #[(Sl.v s2_1)])] h K := by
  refine c11 (Value.agg #[(Sl.v g0_1)]) (VI sink1_1) (Value.agg #[(Sl.v s2_1)]) h K ?_
  unfold u11 at H
  unfold t11
  have hL : Vars h [] := .nil
  refine eop_box 26 (Value.agg #[(Sl.v g0_1)]) rfl hL (fun b_1 h_1 hb_1 hf_1 hL_1 => ?_)
  refine eop_box 28 (Value.agg #[(Sl.v s2_1)]) rfl hL_1 (fun b_2 h_2 hb_2 hf_2 hL_2 => ?_)
  refine rop_locA agg26 hL_2 1 rfl 0 (vs := [(Sl.v g0_1)]) rfl rfl ?_
  refine rop_locA agg28 hL_2 0 rfl 0 (vs := [(Sl.v s2_1)]) rfl rfl ?_
  have H := H b_1 b_2 h_2 (Nat.le_trans (Fr.size (Fr.r (In []) _)) hb_1) (Nat.le_trans (Fr.size (Fr.no' (Fr.r (In []) _) hf_1)) hb_2) (Fr.no' (Fr.no' (Fr.r (In []) _) hf_1) hf_2) hL_2
  refine H.mono fun rv_1 h_3 H => ?_
  obtain ⟨t15_1, t15_2, t15_3, rfl, hL_3, H⟩ := H
  refine pop_ext (v := (Value.agg #[(Sl.v t15_1)])) rfl ?_
  refine pop_ext (v := (VI t15_2)) rfl ?_
  refine pop_ext (v := (VB t15_3)) rfl ?_
  refine eop_alloc 28 zer28 rfl hL_3 (fun b_3 h_4 hb_3 hf_3 hL_4 => ?_)
  refine uop_loc siz28 hL_4 0 rfl 0 [(Sl.v t15_1)] rfl rfl rfl (Nat.le_of_ble_eq_true rfl) (L' := [(b_3, [(Sl.v t15_1)]), (b_2, [(Sl.v s2_1)]), (b_1, [(Sl.v g0_1)])]) rfl (fun h_5 hf_4 hL_5 => ?_)
  have H := H b_3 h_5 (Nat.le_trans (Fr.size (Fr.r (In []) _)) hb_3) (Fr.new (Fr.no' (Fr.r (In []) _) hf_3) (Nat.le_trans (Fr.size (Fr.r (In []) _)) hb_3) hf_4) hL_5
  exact H
def u12 (P : Program) (g0_1 : Sl) (sink1_1 : Int) (s2_1 : Sl) (h : Heap) (K : Value → Heap → Prop) : Prop :=
  ∀ (b_1 : Nat) (b_2 : Nat) (h_2 : Heap), h.size ≤ b_1 → h.size ≤ b_2 → Fr (In []) h h_2 → Vars h_2 [(b_2, [(Sl.v s2_1)]), (b_1, [(Sl.v g0_1)])] →
  callM P 55 #[(Value.agg #[(Sl.v g0_1)]), (VI sink1_1), (Value.agg #[(Sl.v s2_1)])] h_2 fun rv_1 h_3 => ∃ t14_1 : Bool, rv_1 = (VB t14_1) ∧ Vars h_3 [(b_2, [(Sl.v s2_1)]), (b_1, [(Sl.v g0_1)])] ∧
  ((!t14_1) = true →
  K (Value.tuple #[(VI 0), (VB false)]) h_3) ∧
  ((!t14_1) = false →
  callM P 57 #[(Value.agg #[(Sl.v g0_1)]), (VI sink1_1), (Value.agg #[(Sl.v s2_1)]), (Sl.v nilSl)] h_3 fun rv_2 h_4 => ∃ t20_1 : Sl, ∃ t20_2 : Int, ∃ t20_3 : Bool, rv_2 = (Value.tuple #[(Value.agg #[(Sl.v t20_1)]), (VI t20_2), (VB t20_3)]) ∧ Vars h_4 [(b_2, [(Sl.v s2_1)]), (b_1, [(Sl.v g0_1)])] ∧
  ((!t20_3) = true →
  ∀ (b_3 : Nat) (h_6 : Heap), h_4.size ≤ b_3 → Fr (In []) h_4 h_6 → Vars h_6 [(b_3, [(Sl.v t20_1)]), (b_2, [(Sl.v s2_1)]), (b_1, [(Sl.v g0_1)])] →
  K (Value.tuple #[(VI 0), (VB false)]) h_6) ∧
  ((!t20_3) = false →
  ∀ (b_3 : Nat) (h_6 : Heap), h_4.size ≤ b_3 → Fr (In []) h_4 h_6 → Vars h_6 [(b_3, [(Sl.v t20_1)]), (b_2, [(Sl.v s2_1)]), (b_1, [(Sl.v g0_1)])] →
  K (Value.tuple #[(VI t20_2), (VB true)]) h_6))
theorem v12 (g0_1 : Sl) (sink1_1 : Int) (s2_1 : Sl) (h : Heap) (K : Value → Heap → Prop) (H : u12 Tryz.prog g0_1 sink1_1 s2_1 h K) : callM Tryz.prog 12 #[(Value.agg #[(Sl.v g0_1)]), (VI sink1_1), (Value.agg #[(Sl.v s2_1)])] h K := by
  refine c12 (Value.agg #[(Sl.v g0_1)]) (VI sink1_1) (Value.agg #[(Sl.v s2_1)]) h K ?_
  unfold u12 at H
  unfold t12
  have hL : Vars h [] := .nil
  refine eop_box 26 (Value.agg #[(Sl.v g0_1)]) rfl hL (fun b_1 h_1 hb_1 hf_1 hL_1 => ?_)
  refine eop_box 28 (Value.agg #[(Sl.v s2_1)]) rfl hL_1 (fun b_2 h_2 hb_2 hf_2 hL_2 => ?_)
  refine rop_locA agg26 hL_2 1 rfl 0 (vs := [(Sl.v g0_1)]) rfl rfl ?_
  refine rop_locA agg28 hL_2 0 rfl 0 (vs := [(Sl.v s2_1)]) rfl rfl ?_
  have H := H b_1 b_2 h_2 (Nat.le_trans (Fr.size (Fr.r (In []) _)) hb_1) (Nat.le_trans (Fr.size (Fr.no' (Fr.r (In []) _) hf_1)) hb_2) (Fr.no' (Fr.no' (Fr.r (In []) _) hf_1) hf_2) hL_2
  refine H.mono fun rv_1 h_3 H => ?_
  obtain ⟨t14_1, rfl, hL_3, H⟩ := H
  refine pop_not t14_1 ?_
  refine condM_b (fun hb_3 => ?_) (fun hb_3 => ?_)
  ·have H := H.1 hb_3
   exact H
  have H := H.2 hb_3
  refine rop_locA agg26 hL_3 1 rfl 0 (vs := [(Sl.v g0_1)]) rfl rfl ?_
  refine rop_locA agg28 hL_3 0 rfl 0 (vs := [(Sl.v s2_1)]) rfl rfl ?_
  refine H.mono fun rv_2 h_4 H => ?_
  obtain ⟨t20_1, t20_2, t20_3, rfl, hL_4, H⟩ := H
  refine pop_ext (v := (Value.agg #[(Sl.v t20_1)])) rfl ?_
  refine pop_ext (v := (VI t20_2)) rfl ?_
  refine pop_ext (v := (VB t20_3)) rfl ?_
  refine eop_alloc 28 zer28 rfl hL_4 (fun b_3 h_5 hb_4 hf_3 hL_5 => ?_)
  refine uop_loc siz28 hL_5 0 rfl 0 [(Sl.v t20_1)] rfl rfl rfl (Nat.le_of_ble_eq_true rfl) (L' := [(b_3, [(Sl.v t20_1)]), (b_2, [(Sl.v s2_1)]), (b_1, [(Sl.v g0_1)])]) rfl (fun h_6 hf_4 hL_6 => ?_)
  refine pop_not t20_3 ?_
  refine condM_b (fun hb_5 => ?_) (fun hb_5 => ?_)
  ·have H := H.1 hb_5
   have H := H b_3 h_6 (Nat.le_trans (Fr.size (Fr.r (In []) _)) hb_4) (Fr.new (Fr.no' (Fr.r (In []) _) hf_3) (Nat.le_trans (Fr.size (Fr.r (In []) _)) hb_4) hf_4) hL_6
   exact H
  have H := H.2 hb_5
  have H := H b_3 h_6 (Nat.le_trans (Fr.size (Fr.r (In []) _)) hb_4) (Fr.new (Fr.no' (Fr.r (In []) _) hf_3) (Nat.le_trans (Fr.size (Fr.r (In []) _)) hb_4) hf_4) hL_6
  exact H
def u13 (P : Program) (g0_1 : Sl) (sink1_1 : Int) (s2_1 : Sl) (h : Heap) (K : Value → Heap → Prop) : Prop :=
  ∀ (b_1 : Nat) (b_2 : Nat) (h_2 : Heap), h.size ≤ b_1 → h.size ≤ b_2 → Fr (In []) h h_2 → Vars h_2 [(b_2, [(Sl.v s2_1)]), (b_1, [(Sl.v g0_1)])] →
  callM P 54 #[(Value.agg #[(Sl.v g0_1)]), (VI sink1_1), (Value.agg #[(Sl.v s2_1)]), (Sl.v nilSl)] h_2 fun rv_1 h_3 => ∃ t15_1 : Sl, ∃ t15_2 : Int, ∃ t15_3 : Bool, rv_1 = (Value.tuple #[(Value.agg #[(Sl.v t15_1)]), (VI t15_2), (VB t15_3)]) ∧ Vars h_3 [(b_2, [(Sl.v s2_1)]), (b_1, [(Sl.v g0_1)])] ∧
  ((!t15_3) = true →
  ∀ (b_3 : Nat) (h_5 : Heap), h_3.size ≤ b_3 → Fr (In []) h_3 h_5 → Vars h_5 [(b_3, [(Sl.v t15_1)]), (b_2, [(Sl.v s2_1)]), (b_1, [(Sl.v g0_1)])] →
  K (Value.tuple #[(Sl.v nilSl), (VB false)]) h_5) ∧
  ((!t15_3) = false →
  ∀ (b_3 : Nat) (h_5 : Heap), h_3.size ≤ b_3 → Fr (In []) h_3 h_5 → Vars h_5 [(b_3, [(Sl.v t15_1)]), (b_2, [(Sl.v s2_1)]), (b_1, [(Sl.v g0_1)])] →
  callM P 59 #[(Value.agg #[(Sl.v t15_1)]), (VI sink1_1)] h_5 fun rv_2 h_6 => ∃ t23_1 : Sl, ∃ t23_2 : Bool, rv_2 = (Value.tuple #[(Sl.v t23_1), (VB t23_2)]) ∧ Vars h_6 [(b_3, [(Sl.v t15_1)]), (b_2, [(Sl.v s2_1)]), (b_1, [(Sl.v g0_1)])] ∧
  K (Value.tuple #[(Sl.v t23_1), (VB t23_2)]) h_6)
theorem v13 (g0_1 : Sl) (sink1_1 : Int) (s2_1 : Sl) (h : Heap) (K : Value → Heap → Prop) (H : u13 Tryz.prog g0_1 sink1_1 s2_1 h K) : callM Tryz.prog 13 #[(Value.agg #[(Sl.v g0_1)]), (VI sink1_1), (Value.agg #[(Sl.v s2_1)])] h K := by
  refine c13 (Value.agg #[(Sl.v g0_1)]) (VI sink1_1) (Value.agg #[(Sl.v s2_1)]) h K ?_
  unfold u13 at H
  unfold t13
  have hL : Vars h [] := .nil
  refine eop_box 26 (Value.agg #[(Sl.v g0_1)]) rfl hL (fun b_1 h_1 hb_1 hf_1 hL_1 => ?_)
  refine eop_box 28 (Value.agg #[(Sl.v s2_1)]) rfl hL_1 (fun b_2 h_2 hb_2 hf_2 hL_2 => ?_)
  refine rop_locA agg26 hL_2 1 rfl 0 (vs := [(Sl.v g0_1)]) rfl rfl ?_
  refine rop_locA agg28 hL_2 0 rfl 0 (vs := [(Sl.v s2_1)]) rfl rfl ?_
  have H := H b_1 b_2 h_2 (Nat.le_trans (Fr.size (Fr.r (In []) _)) hb_1) (Nat.le_trans (Fr.size (Fr.no' (Fr.r (In []) _) hf_1)) hb_2) (Fr.no' (Fr.no' (Fr.r (In []) _) hf_1) hf_2) hL_2
  refine H.mono fun rv_1 h_3 H => ?_
  obtain ⟨t15_1, t15_2, t15_3, rfl, hL_3, H⟩ := H
  refine pop_ext (v := (Value.agg #[(Sl.v t15_1)])) rfl ?_
  refine pop_ext (v := (VI t15_2)) rfl ?_
  refine pop_ext (v := (VB t15_3)) rfl ?_
  refine eop_alloc 28 zer28 rfl hL_3 (fun b_3 h_4 hb_3 hf_3 hL_4 => ?_)
  refine uop_loc siz28 hL_4 0 rfl 0 [(Sl.v t15_1)] rfl rfl rfl (Nat.le_of_ble_eq_true rfl) (L' := [(b_3, [(Sl.v t15_1)]), (b_2, [(Sl.v s2_1)]), (b_1, [(Sl.v g0_1)])]) rfl (fun h_5 hf_4 hL_5 => ?_)
  refine pop_not t15_3 ?_
  refine condM_b (fun hb_4 => ?_) (fun hb_4 => ?_)
  ·have H := H.1 hb_4
   have H := H b_3 h_5 (Nat.le_trans (Fr.size (Fr.r (In []) _)) hb_3) (Fr.new (Fr.no' (Fr.r (In []) _) hf_3) (Nat.le_trans (Fr.size (Fr.r (In []) _)) hb_3) hf_4) hL_5
   exact H
  have H := H.2 hb_4
  refine rop_locA agg28 hL_5 0 rfl 0 (vs := [(Sl.v t15_1)]) rfl rfl ?_
  have H := H b_3 h_5 (Nat.le_trans (Fr.size (Fr.r (In []) _)) hb_3) (Fr.new (Fr.no' (Fr.r (In []) _) hf_3) (Nat.le_trans (Fr.size (Fr.r (In []) _)) hb_3) hf_4) hL_5
  refine H.mono fun rv_2 h_6 H => ?_
  obtain ⟨t23_1, t23_2, rfl, hL_6, H⟩ := H
  refine pop_ext (v := (Sl.v t23_1)) rfl ?_
  refine pop_ext (v := (VB t23_2)) rfl ?_
  exact H
def u14 (P : Program) (g0_1 : Sl) (sink1_1 : Int) (s2_1 : Sl) (h : Heap) (K : Value → Heap → Prop) : Prop :=
  ∀ (b_1 : Nat) (b_2 : Nat) (h_2 : Heap), h.size ≤ b_1 → h.size ≤ b_2 → Fr (In []) h h_2 → Vars h_2 [(b_2, [(Sl.v s2_1)]), (b_1, [(Sl.v g0_1)])] →
  callM P 55 #[(Value.agg #[(Sl.v g0_1)]), (VI sink1_1), (Value.agg #[(Sl.v s2_1)])] h_2 fun rv_1 h_3 => ∃ t14_1 : Bool, rv_1 = (VB t14_1) ∧ Vars h_3 [(b_2, [(Sl.v s2_1)]), (b_1, [(Sl.v g0_1)])] ∧
  ((!t14_1) = true →
  K (Value.tuple #[(Sl.v nilSl), (VB false)]) h_3) ∧
  ((!t14_1) = false →
  callM P 57 #[(Value.agg #[(Sl.v g0_1)]), (VI sink1_1), (Value.agg #[(Sl.v s2_1)]), (Sl.v nilSl)] h_3 fun rv_2 h_4 => ∃ t20_1 : Sl, ∃ t20_2 : Int, ∃ t20_3 : Bool, rv_2 = (Value.tuple #[(Value.agg #[(Sl.v t20_1)]), (VI t20_2), (VB t20_3)]) ∧ Vars h_4 [(b_2, [(Sl.v s2_1)]), (b_1, [(Sl.v g0_1)])] ∧
  ((!t20_3) = true →
  ∀ (b_3 : Nat) (h_6 : Heap), h_4.size ≤ b_3 → Fr (In []) h_4 h_6 → Vars h_6 [(b_3, [(Sl.v t20_1)]), (b_2, [(Sl.v s2_1)]), (b_1, [(Sl.v g0_1)])] →
  K (Value.tuple #[(Sl.v nilSl), (VB false)]) h_6) ∧
  ((!t20_3) = false →
  ∀ (b_3 : Nat) (h_6 : Heap), h_4.size ≤ b_3 → Fr (In []) h_4 h_6 → Vars h_6 [(b_3, [(Sl.v t20_1)]), (b_2, [(Sl.v s2_1)]), (b_1, [(Sl.v g0_1)])] →
  callM P 60 #[(Value.agg #[(Sl.v g0_1)]), (VI sink1_1), (Value.agg #[(Sl.v t20_1)])] h_6 fun rv_3 h_7 => ∃ t29_1 : Sl, ∃ t29_2 : Bool, rv_3 = (Value.tuple #[(Sl.v t29_1), (VB t29_2)]) ∧ Vars h_7 [(b_3, [(Sl.v t20_1)]), (b_2, [(Sl.v s2_1)]), (b_1, [(Sl.v g0_1)])] ∧
  K (Value.tuple #[(Sl.v t29_1), (VB t29_2)]) h_7))
theorem v14 (g0_1 : Sl) (sink1_1 : Int) (s2_1 : Sl) (h : Heap) (K : Value → Heap → Prop) (H : u14 Tryz.prog g0_1 sink1_1 s2_1 h K) : callM Tryz.prog 14 #[(Value.agg #[(Sl.v g0_1)]), (VI sink1_1), (Value.agg #[(Sl.v s2_1)])] h K := by
  refine c14 (Value.agg #[(Sl.v g0_1)]) (VI sink1_1) (Value.agg #[(Sl.v s2_1)]) h K ?_
  unfold u14 at H
  unfold t14
  have hL : Vars h [] := .nil
  refine eop_box 26 (Value.agg #[(Sl.v g0_1)]) rfl hL (fun b_1 h_1 hb_1 hf_1 hL_1 => ?_)
  refine eop_box 28 (Value.agg #[(Sl.v s2_1)]) rfl hL_1 (fun b_2 h_2 hb_2 hf_2 hL_2 => ?_)
  refine rop_locA agg26 hL_2 1 rfl 0 (vs := [(Sl.v g0_1)]) rfl rfl ?_
  refine rop_locA agg28 hL_2 0 rfl 0 (vs := [(Sl.v s2_1)]) rfl rfl ?_
  have H := H b_1 b_2 h_2 (Nat.le_trans (Fr.size (Fr.r (In []) _)) hb_1) (Nat.le_trans (Fr.size (Fr.no' (Fr.r (In []) _) hf_1)) hb_2) (Fr.no' (Fr.no' (Fr.r (In []) _) hf_1) hf_2) hL_2
  refine H.mono fun rv_1 h_3 H => ?_
  obtain ⟨t14_1, rfl, hL_3, H⟩ := H
  refine pop_not t14_1 ?_
  refine condM_b (fun hb_3 => ?_) (fun hb_3 => ?_)
  ·have H := H.1 hb_3
   exact H
  have H := H.2 hb_3
  refine rop_locA agg26 hL_3 1 rfl 0 (vs := [(Sl.v g0_1)]) rfl rfl ?_
  refine rop_locA agg28 hL_3 0 rfl 0 (vs := [(Sl.v s2_1)]) rfl rfl ?_
  refine H.mono fun rv_2 h_4 H => ?_
  obtain ⟨t20_1, t20_2, t20_3, rfl, hL_4, H⟩ := H
  refine pop_ext (v := (Value.agg #[(Sl.v t20_1)])) rfl ?_
  refine pop_ext (v := (VI t20_2)) rfl ?_
  refine pop_ext (v := (VB t20_3)) rfl ?_
  refine eop_alloc 28 zer28 rfl hL_4 (fun b_3 h_5 hb_4 hf_3 hL_5 => ?_)
  refine uop_loc siz28 hL_5 0 rfl 0 [(Sl.v t20_1)] rfl rfl rfl (Nat.le_of_ble_eq_true rfl) (L' := [(b_3, [(Sl.v t20_1)]), (b_2, [(Sl.v s2_1)]), (b_1, [(Sl.v g0_1)])]) rfl (fun h_6 hf_4 hL_6 => ?_)
  refine pop_not t20_3 ?_
  refine condM_b (fun hb_5 => ?_) (fun hb_5 => ?_)
  ·have H := H.1 hb_5
   have H := H b_3 h_6 (Nat.le_trans (Fr.size (Fr.r (In []) _)) hb_4) (Fr.new (Fr.no' (Fr.r (In []) _) hf_3) (Nat.le_trans (Fr.size (Fr.r (In []) _)) hb_4) hf_4) hL_6
   exact H
  have H := H.2 hb_5
  refine rop_locA agg26 hL_6 2 rfl 0 (vs := [(Sl.v g0_1)]) rfl rfl ?_
  refine rop_locA agg28 hL_6 0 rfl 0 (vs := [(Sl.v t20_1)]) rfl rfl ?_
  have H := H b_3 h_6 (Nat.le_trans (Fr.size (Fr.r (In []) _)) hb_4) (Fr.new (Fr.no' (Fr.r (In []) _) hf_3) (Nat.le_trans (Fr.size (Fr.r (In []) _)) hb_4) hf_4) hL_6
  refine H.mono fun rv_3 h_7 H => ?_
  obtain ⟨t29_1, t29_2, rfl, hL_7, H⟩ := H
  refine pop_ext (v := (Sl.v t29_1)) rfl ?_
  refine pop_ext (v := (VB t29_2)) rfl ?_
  exact H
def u15 (P : Program) (a0_1 : Sl) (b1_1 : Sl) (h : Heap) (K : Value → Heap → Prop) : Prop :=
  ∀ (b_1 : Nat) (b_2 : Nat) (h_2 : Heap), h.size ≤ b_1 → h.size ≤ b_2 → Fr (In []) h h_2 → Vars h_2 [(b_2, [(Sl.v b1_1)]), (b_1, [(Sl.v a0_1)])] →
  callM P 61 #[(Sl.v a0_1), (Sl.v b1_1)] h_2 fun rv_1 h_3 => ∃ t9_1 : Bool, rv_1 = (VB t9_1) ∧ Vars h_3 [(b_2, [(Sl.v b1_1)]), (b_1, [(Sl.v a0_1)])] ∧
  K (VB t9_1) h_3
theorem v15 (a0_1 : Sl) (b1_1 : Sl) (h : Heap) (K : Value → Heap → Prop) (H : u15 Tryz.prog a0_1 b1_1 h K) : callM Tryz.prog 15 #[(Value.agg #[(Sl.v a0_1)]), (Value.agg #[(Sl.v b1_1)])] h K := by
  refine c15 (Value.agg #[(Sl.v a0_1)]) (Value.agg #[(Sl.v b1_1)]) h K ?_
  unfold u15 at H
  unfold t15
  have hL : Vars h [] := .nil
  refine eop_box 28 (Value.agg #[(Sl.v a0_1)]) rfl hL (fun b_1 h_1 hb_1 hf_1 hL_1 => ?_)
  refine eop_box 28 (Value.agg #[(Sl.v b1_1)]) rfl hL_1 (fun b_2 h_2 hb_2 hf_2 hL_2 => ?_)
  refine pop_field 0 fld28_0 b_1 0 ?_
  refine rop_loc one24 hL_2 1 rfl 0 (v := (Sl.v a0_1)) rfl ?_
  refine pop_field 0 fld28_0 b_2 0 ?_
  refine rop_loc one24 hL_2 0 rfl 0 (v := (Sl.v b1_1)) rfl ?_
  have H := H b_1 b_2 h_2 (Nat.le_trans (Fr.size (Fr.r (In []) _)) hb_1) (Nat.le_trans (Fr.size (Fr.no' (Fr.r (In []) _) hf_1)) hb_2) (Fr.no' (Fr.no' (Fr.r (In []) _) hf_1) hf_2) hL_2
  refine H.mono fun rv_1 h_3 H => ?_
  obtain ⟨t9_1, rfl, hL_3, H⟩ := H
  exact H
def u16 (P : Program) (a0_1 : Sl) (b1_1 : Sl) (h : Heap) (K : Value → Heap → Prop) : Prop :=
  ((!decide ((a0_1.n : Int) = (b1_1.n : Int))) = true →
  K (VB false) h) ∧
  ((!decide ((a0_1.n : Int) = (b1_1.n : Int))) = false →
  ∃ J_1 : Nat → Int → Heap → Prop, (∃ n0 : Nat, J_1 n0 0 h) ∧
  ∀ (n_1 : Nat) (t13_1 : Int) (h_1 : Heap), J_1 n_1 t13_1 h_1 → Vars h_1 [] →
  ((decide (t13_1 < (a0_1.n : Int))) = true →
  InB a0_1 t13_1 ∧
  ∃ t19_1 : Int, hcell h_1 (Sl.at a0_1 t13_1 1) = some (VI t19_1) ∧
  InB b1_1 t13_1 ∧
  ∃ t23_1 : Int, hcell h_1 (Sl.at b1_1 t13_1 1) = some (VI t23_1) ∧
  ((!decide (t19_1 = t23_1)) = true →
  K (VB false) h_1) ∧
  ((!decide (t19_1 = t23_1)) = false →
  ∃ m : Nat, m < n_1 ∧ J_1 m (w64 (t13_1 + 1)) h_1)) ∧
  ((decide (t13_1 < (a0_1.n : Int))) = false →
  K (VB true) h_1))
theorem v16 (a0_1 : Sl) (b1_1 : Sl) (h : Heap) (K : Value → Heap → Prop) (H : u16 Tryz.prog a0_1 b1_1 h K) : callM Tryz.prog 16 #[(Sl.v a0_1), (Sl.v b1_1)] h K := by
  refine c16 (Sl.v a0_1) (Sl.v b1_1) h K ?_
  unfold u16 at H
  unfold t16
  have hL : Vars h [] := .nil
  refine pop_len a0_1 _ _ sli29 ?_
  refine pop_len b1_1 _ _ sli29 ?_
  refine pop_ine .i64 _ _ (a0_1.n : Int) (b1_1.n : Int) ?_
  refine condM_b (fun hb_1 => ?_) (fun hb_1 => ?_)
  ·have H := H.1 hb_1
   exact H
  have H := H.2 hb_1
  refine pop_len a0_1 _ _ sli29 ?_
  obtain ⟨J_1, ⟨n_2, h0_1⟩, HB_1⟩ := H
  refine loop_intro (J := fun (n : Nat) (vs : List Value) (h' : Heap) => ∃ t13_1 : Int, vs = [(VI t13_1)] ∧ J_1 n t13_1 h' ∧ Vars h' []) n_2 ⟨0, rfl, h0_1, hL⟩ ?_
  intro I_1 mu_1 hI_1 junk_1 tv_1 h_1 hi_1
  obtain ⟨n_1, ⟨t13_1, hv, hJ_1, hL_1⟩, hn_1⟩ := hI_1 _ _ hi_1
  cases hv
  have H := HB_1 n_1 t13_1 h_1 hJ_1 hL_1
  refine pop_lss .i64 t13_1 (a0_1.n : Int) ?_
  refine condM_b (fun hb_2 => ?_) (fun hb_2 => ?_)
  rotate_left
  ·have H := H.2 hb_2
   exact H
  have H := H.1 hb_2
  obtain ⟨hi_2, H⟩ := H
  refine pop_index sli29 siz3 .i64 a0_1 t13_1 hi_2 ?_
  obtain ⟨t19_1, hc_2, H⟩ := H
  refine rop_one one3 (VI t19_1) hc_2 ?_
  obtain ⟨hi_3, H⟩ := H
  refine pop_index sli29 siz3 .i64 b1_1 t13_1 hi_3 ?_
  obtain ⟨t23_1, hc_1, H⟩ := H
  refine rop_one one3 (VI t23_1) hc_1 ?_
  refine pop_ine .i64 _ _ t19_1 t23_1 ?_
  refine condM_b (fun hb_3 => ?_) (fun hb_3 => ?_)
  ·have H := H.1 hb_3
   exact H
  have H := H.2 hb_3
  refine pop_add .i64 t13_1 1 ?_
  obtain ⟨m_1, hm_1, H⟩ := H
  exact hn_1 _ _ ⟨m_1, hm_1, (w64 (t13_1 + 1)), rfl, H, hL_1⟩
def u17 (P : Program) (g0_1 : Sl) (sink1_1 : Int) (rotors2_1 : Sl) (h : Heap) (K : Value → Heap → Prop) : Prop :=
  ∀ (b_1 : Nat) (h_1 : Heap), h.size ≤ b_1 → Fr (In []) h h_1 → Vars h_1 [(b_1, [(Sl.v g0_1)])] →
  callM P 62 #[(Value.agg #[(Sl.v g0_1)]), (VI sink1_1), (Sl.v rotors2_1)] h_1 fun rv_1 h_2 => ∃ t11_1 : Bool, rv_1 = (VB t11_1) ∧ Vars h_2 [(b_1, [(Sl.v g0_1)])] ∧
  ((!t11_1) = true →
  K (Value.tuple #[(VB false), (VB false)]) h_2) ∧
  ((!t11_1) = false →
  callM P 63 #[(Value.agg #[(Sl.v g0_1)]), (VI sink1_1), (Sl.v rotors2_1)] h_2 fun rv_2 h_3 => ∃ t16_1 : Bool, rv_2 = (VB t16_1) ∧ Vars h_3 [(b_1, [(Sl.v g0_1)])] ∧
  K (Value.tuple #[(VB t16_1), (VB true)]) h_3)
theorem v17 (g0_1 : Sl) (sink1_1 : Int) (rotors2_1 : Sl) (h : Heap) (K : Value → Heap → Prop) (H : u17 Tryz.prog g0_1 sink1_1 rotors2_1 h K) : callM Tryz.prog 17 #[(Value.agg #[(Sl.v g0_1)]), (VI sink1_1), (Sl.v rotors2_1)] h K := by
  refine c17 (Value.agg #[(Sl.v g0_1)]) (VI sink1_1) (Sl.v rotors2_1) h K ?_
  unfold u17 at H
  unfold t17
  have hL : Vars h [] := .nil
  refine eop_box 26 (Value.agg #[(Sl.v g0_1)]) rfl hL (fun b_1 h_1 hb_1 hf_1 hL_1 => ?_)
  refine rop_locA agg26 hL_1 0 rfl 0 (vs := [(Sl.v g0_1)]) rfl rfl ?_
  have H := H b_1 h_1 (Nat.le_trans (Fr.size (Fr.r (In []) _)) hb_1) (Fr.no' (Fr.r (In []) _) hf_1) hL_1
  refine H.mono fun rv_1 h_2 H => ?_
  obtain ⟨t11_1, rfl, hL_2, H⟩ := H
  refine pop_not t11_1 ?_
  refine condM_b (fun hb_2 => ?_) (fun hb_2 => ?_)
  ·have H := H.1 hb_2
   exact H
  have H := H.2 hb_2
  refine rop_locA agg26 hL_2 0 rfl 0 (vs := [(Sl.v g0_1)]) rfl rfl ?_
  refine H.mono fun rv_2 h_3 H => ?_
  obtain ⟨t16_1, rfl, hL_3, H⟩ := H
  exact H
def u18 (P : Program) (g0_1 : Sl) (sink1_1 : Int) (s2_1 : Sl) (h : Heap) (K : Value → Heap → Prop) : Prop :=
  ∀ (b_1 : Nat) (b_2 : Nat) (h_2 : Heap), h.size ≤ b_1 → h.size ≤ b_2 → Fr (In []) h h_2 → Vars h_2 [(b_2, [(Sl.v s2_1)]), (b_1, [(Sl.v g0_1)])] →
  callM P 64 #[(Value.agg #[(Sl.v g0_1)]), (VI sink1_1), (Value.agg #[(Sl.v s2_1)])] h_2 fun rv_1 h_3 => ∃ t11_1 : Bool, rv_1 = (VB t11_1) ∧ Vars h_3 [(b_2, [(Sl.v s2_1)]), (b_1, [(Sl.v g0_1)])] ∧
  ((!t11_1) = true →
  K (Value.tuple #[(Sl.v nilSl), (VB false)]) h_3) ∧
  ((!t11_1) = false →
  callM P 59 #[(Value.agg #[(Sl.v s2_1)]), (VI sink1_1)] h_3 fun rv_2 h_4 => ∃ t15_1 : Sl, ∃ t15_2 : Bool, rv_2 = (Value.tuple #[(Sl.v t15_1), (VB t15_2)]) ∧ Vars h_4 [(b_2, [(Sl.v s2_1)]), (b_1, [(Sl.v g0_1)])] ∧
  K (Value.tuple #[(Sl.v t15_1), (VB t15_2)]) h_4)
theorem v18 (g0_1 : Sl) (sink1_1 : Int) (s2_1 : Sl) (h : Heap) (K : Value → Heap → Prop) (H : u18 Tryz.prog g0_1 sink1_1 s2_1 h K) : callM Tryz.prog 18 #[(Value.agg #[(Sl.v g0_1)]), (VI sink1_1), (Value.agg #[(Sl.v s2_1)])] h K := by
  refine c18 (Value.agg #[(Sl.v g0_1)]) (VI sink1_1) (Value.agg #[(Sl.v s2_1)]) h K ?_
  unfold u18 at H
  unfold t18
  have hL : Vars h [] := .nil
  refine eop_box 26 (Value.agg #[(Sl.v g0_1)]) rfl hL (fun b_1 h_1 hb_1 hf_1 hL_1 => ?_)
  refine eop_box 28 (Value.agg #[(Sl.v s2_1)]) rfl hL_1 (fun b_2 h_2 hb_2 hf_2 hL_2 => ?_)
  refine rop_locA agg26 hL_2 1 rfl 0 (vs := [(Sl.v g0_1)]) rfl rfl ?_
  refine rop_locA agg28 hL_2 0 rfl 0 (vs := [(Sl.v s2_1)]) rfl rfl ?_
  have H := H b_1 b_2 h_2 (Nat.le_trans (Fr.size (Fr.r (In []) _)) hb_1) (Nat.le_trans (Fr.size (Fr.no' (Fr.r (In []) _) hf_1)) hb_2) (Fr.no' (Fr.no' (Fr.r (In []) _) hf_1) hf_2) hL_2
  refine H.mono fun rv_1 h_3 H => ?_
  obtain ⟨t11_1, rfl, hL_3, H⟩ := H
  refine pop_not t11_1 ?_
  refine condM_b (fun hb_3 => ?_) (fun hb_3 => ?_)
  ·have H := H.1 hb_3
   exact H
  have H := H.2 hb_3
  refine rop_locA agg28 hL_3 0 rfl 0 (vs := [(Sl.v s2_1)]) rfl rfl ?_
  refine H.mono fun rv_2 h_4 H => ?_
  obtain ⟨t15_1, t15_2, rfl, hL_4, H⟩ := H
  refine pop_ext (v := (Sl.v t15_1)) rfl ?_
  refine pop_ext (v := (VB t15_2)) rfl ?_
  exact H
def u19 (P : Program) (g0_1 : Sl) (sink1_1 : Int) (s2_1 : Sl) (h : Heap) (K : Value → Heap → Prop) : Prop :=
  ∀ (b_1 : Nat) (b_2 : Nat) (h_2 : Heap), h.size ≤ b_1 → h.size ≤ b_2 → Fr (In []) h h_2 → Vars h_2 [(b_2, [(Sl.v s2_1)]), (b_1, [(Sl.v g0_1)])] →
  callM P 64 #[(Value.agg #[(Sl.v g0_1)]), (VI sink1_1), (Value.agg #[(Sl.v s2_1)])] h_2 fun rv_1 h_3 => ∃ t11_1 : Bool, rv_1 = (VB t11_1) ∧ Vars h_3 [(b_2, [(Sl.v s2_1)]), (b_1, [(Sl.v g0_1)])] ∧
  ((!t11_1) = true →
  K (Value.tuple #[(Sl.v nilSl), (VB false)]) h_3) ∧
  ((!t11_1) = false →
  callM P 65 #[(Value.agg #[(Sl.v s2_1)]), (Value.agg #[(Sl.v g0_1)])] h_3 fun rv_2 h_4 => ∃ t15_1 : Sl, rv_2 = (Sl.v t15_1) ∧ Vars h_4 [(b_2, [(Sl.v s2_1)]), (b_1, [(Sl.v g0_1)])] ∧
  K (Value.tuple #[(Sl.v t15_1), (VB true)]) h_4)
theorem v19 (g0_1 : Sl) (sink1_1 : Int) (s2_1 : Sl) (h : Heap) (K : Value → Heap → Prop) (H : u19 Tryz.prog g0_1 sink1_1 s2_1 h K) : callM Tryz.prog 19 #[(Value.agg #[(Sl.v g0_1)]), (VI sink1_1), (Value.agg #[(Sl.v s2_1)])] h K := by
  refine c19 (Value.agg #[(Sl.v g0_1)]) (VI sink1_1) (Value.agg #[(Sl.v s2_1)]) h K ?_
  unfold u19 at H
  unfold t19
  have hL : Vars h [] := .nil
  refine eop_box 26 (Value.agg #[(Sl.v g0_1)]) rfl hL (fun b_1 h_1 hb_1 hf_1 hL_1 => ?_)
  refine eop_box 28 (Value.agg #[(Sl.v s2_1)]) rfl hL_1 (fun b_2 h_2 hb_2 hf_2 hL_2 => ?_)
  refine rop_locA agg26 hL_2 1 rfl 0 (vs := [(Sl.v g0_1)]) rfl rfl ?_
  refine rop_locA agg28 hL_2 0 rfl 0 (vs := [(Sl.v s2_1)]) rfl rfl ?_
  have H := H b_1 b_2 h_2 (Nat.le_trans (Fr.size (Fr.r (In []) _)) hb_1) (Nat.le_trans (Fr.size (Fr.no' (Fr.r (In []) _) hf_1)) hb_2) (Fr.no' (Fr.no' (Fr.r (In []) _) hf_1) hf_2) hL_2
  refine H.mono fun rv_1 h_3 H => ?_
  obtain ⟨t11_1, rfl, hL_3, H⟩ := H
  refine pop_not t11_1 ?_
  refine condM_b (fun hb_3 => ?_) (fun hb_3 => ?_)
  ·have H := H.1 hb_3
   exact H
  have H := H.2 hb_3
  refine rop_locA agg28 hL_3 0 rfl 0 (vs := [(Sl.v s2_1)]) rfl rfl ?_
  refine rop_locA agg26 hL_3 1 rfl 0 (vs := [(Sl.v g0_1)]) rfl rfl ?_
  refine H.mono fun rv_2 h_4 H => ?_
  obtain ⟨t15_1, rfl, hL_4, H⟩ := H
  exact H
def u20 (P : Program) (a0_1 : Sl) (h : Heap) (K : Value → Heap → Prop) : Prop :=
  ∃ J_1 : Nat → Int → Int → Heap → Prop, (∃ n0 : Nat, J_1 n0 0 0 h) ∧
  ∀ (n_1 : Nat) (n3_1 : Int) (t8_1 : Int) (h_1 : Heap), J_1 n_1 n3_1 t8_1 h_1 → Vars h_1 [] →
  ((decide (t8_1 < (a0_1.n : Int))) = true →
  InB a0_1 t8_1 ∧
  ∃ t11_1 : Int, hcell h_1 (Sl.at a0_1 t8_1 1) = some (VI t11_1) ∧
  ∃ m : Nat, m < n_1 ∧ J_1 m (w64 (n3_1 + t11_1)) (w64 (t8_1 + 1)) h_1) ∧
  ((decide (t8_1 < (a0_1.n : Int))) = false →
  K (VI n3_1) h_1)
theorem v20 (a0_1 : Sl) (h : Heap) (K : Value → Heap → Prop) (H : u20 Tryz.prog a0_1 h K) : callM Tryz.prog 20 #[(Sl.v a0_1)] h K := by
  refine c20 (Sl.v a0_1) h K ?_
  unfold u20 at H
  unfold t20
  have hL : Vars h [] := .nil
  refine pop_len a0_1 _ _ sli29 ?_
  obtain ⟨J_1, ⟨n_2, h0_1⟩, HB_1⟩ := H
  refine loop_intro (J := fun (n : Nat) (vs : List Value) (h' : Heap) => ∃ n3_1 : Int, ∃ t8_1 : Int, vs = [(VI n3_1), (VI t8_1)] ∧ J_1 n n3_1 t8_1 h' ∧ Vars h' []) n_2 ⟨0, 0, rfl, h0_1, hL⟩ ?_
  intro I_1 mu_1 hI_1 junk_1 tv_1 tv_2 h_1 hi_1
  obtain ⟨n_1, ⟨n3_1, t8_1, hv, hJ_1, hL_1⟩, hn_1⟩ := hI_1 _ _ hi_1
  cases hv
  have H := HB_1 n_1 n3_1 t8_1 h_1 hJ_1 hL_1
  refine pop_lss .i64 t8_1 (a0_1.n : Int) ?_
  refine condM_b (fun hb_1 => ?_) (fun hb_1 => ?_)
  rotate_left
  ·have H := H.2 hb_1
   exact H
  have H := H.1 hb_1
  obtain ⟨hi_2, H⟩ := H
  refine pop_index sli29 siz3 .i64 a0_1 t8_1 hi_2 ?_
  obtain ⟨t11_1, hc_1, H⟩ := H
  refine rop_one one3 (VI t11_1) hc_1 ?_
  refine pop_add .i64 n3_1 t11_1 ?_
  refine pop_add .i64 t8_1 1 ?_
  obtain ⟨m_1, hm_1, H⟩ := H
  exact hn_1 _ _ ⟨m_1, hm_1, (w64 (n3_1 + t11_1)), (w64 (t8_1 + 1)), rfl, H, hL_1⟩
def u21 (P : Program) (code0_1 : Sl) (h : Heap) (K : Value → Heap → Prop) : Prop :=
  ∀ (b_1 : Nat) (b_2 : Nat) (b_3 : Nat) (h_3 : Heap), h.size ≤ b_1 → h.size ≤ b_2 → h.size ≤ b_3 → Fr (In []) h h_3 → Vars h_3 [(b_3, [(Sl.v code0_1), (VI 0), (Value.int .u64 0)]), (b_2, [(Sl.v nilSl)]), (b_1, [(Sl.v nilSl)])] →
  callM P 51 #[(VP b_3 0)] h_3 fun rv_1 h_4 => ∃ x_1 : Sl, ∃ x_2 : Int, ∃ x_3 : Int, ∃ t16_1 : Sl, ∃ t16_2 : Int, ∃ t16_3 : Sl, rv_1 = (Value.tuple #[(Value.agg #[(Sl.v t16_1)]), (VI t16_2), (Value.agg #[(Sl.v t16_3)])]) ∧ Vars h_4 [(b_3, [(Sl.v x_1), (VI x_2), (Value.int .u64 x_3)]), (b_2, [(Sl.v nilSl)]), (b_1, [(Sl.v nilSl)])] ∧
  ∀ (b_4 : Nat) (b_5 : Nat) (h_8 : Heap), h_4.size ≤ b_4 → h_4.size ≤ b_5 → Fr (In []) h_4 h_8 → Vars h_8 [(b_5, [(Sl.v t16_3)]), (b_4, [(Sl.v t16_1)]), (b_3, [(Sl.v x_1), (VI x_2), (Value.int .u64 x_3)]), (b_2, [(Sl.v nilSl)]), (b_1, [(Sl.v nilSl)])] →
  callM P 66 #[(VP b_3 0), (VI (t16_1.n : Int))] h_8 fun rv_2 h_9 => ∃ x_4 : Sl, ∃ x_5 : Int, ∃ x_6 : Int, ∃ t24_1 : Sl, rv_2 = (Sl.v t24_1) ∧ Vars h_9 [(b_5, [(Sl.v t16_3)]), (b_4, [(Sl.v t16_1)]), (b_3, [(Sl.v x_4), (VI x_5), (Value.int .u64 x_6)]), (b_2, [(Sl.v nilSl)]), (b_1, [(Sl.v nilSl)])] ∧
  ∃ J_1 : Sl → Int → Int → Heap → Prop, (((decide (0 < (t24_1.n : Int))) = true →
  callM P 67 #[(VP b_3 0), (VI 10)] h_9 fun rv_3 h_10 => ∃ x_10 : Sl, ∃ x_11 : Int, ∃ x_12 : Int, ∃ t30_1 : Bool, rv_3 = (VB t30_1) ∧ Vars h_10 [(b_5, [(Sl.v t16_3)]), (b_4, [(Sl.v t16_1)]), (b_3, [(Sl.v x_10), (VI x_11), (Value.int .u64 x_12)]), (b_2, [(Sl.v nilSl)]), (b_1, [(Sl.v nilSl)])] ∧
  (t30_1 = true →
  eop P (Instr.buildSlice 29 3 #[(0, (Value.int IntKind.i64 (-1))), (1, (Value.int IntKind.i64 0)), (2, (Value.int IntKind.i64 1))]) h_10 fun rv_4 h_11 => ∃ t34_1 : Sl, rv_4 = (Sl.v t34_1) ∧ Vars h_11 [(b_5, [(Sl.v t16_3)]), (b_4, [(Sl.v t16_1)]), (b_3, [(Sl.v x_10), (VI x_11), (Value.int .u64 x_12)]), (b_2, [(Sl.v nilSl)]), (b_1, [(Sl.v nilSl)])] ∧
  callM P 53 #[(VP b_3 0), (Sl.v t34_1)] h_11 fun rv_5 h_12 => ∃ x_13 : Sl, ∃ x_14 : Int, ∃ x_15 : Int, ∃ t35_1 : Int, rv_5 = (VI t35_1) ∧ Vars h_12 [(b_5, [(Sl.v t16_3)]), (b_4, [(Sl.v t16_1)]), (b_3, [(Sl.v x_13), (VI x_14), (Value.int .u64 x_15)]), (b_2, [(Sl.v nilSl)]), (b_1, [(Sl.v nilSl)])] ∧
  InB t24_1 0 ∧
  Writable h_12 (Sl.at t24_1 0 1) ∧ Vars (hset h_12 (Sl.at t24_1 0 1) (VI t35_1)) [(b_5, [(Sl.v t16_3)]), (b_4, [(Sl.v t16_1)]), (b_3, [(Sl.v x_13), (VI x_14), (Value.int .u64 x_15)]), (b_2, [(Sl.v nilSl)]), (b_1, [(Sl.v nilSl)])] ∧
  ∀ h_13 : Heap, h_13 = hset h_12 (Sl.at t24_1 0 1) (VI t35_1) → Vars h_13 [(b_5, [(Sl.v t16_3)]), (b_4, [(Sl.v t16_1)]), (b_3, [(Sl.v x_13), (VI x_14), (Value.int .u64 x_15)]), (b_2, [(Sl.v nilSl)]), (b_1, [(Sl.v nilSl)])] →
  J_1 x_13 x_14 x_15 h_13) ∧
  (t30_1 = false →
  J_1 x_10 x_11 x_12 h_10)) ∧
  ((decide (0 < (t24_1.n : Int))) = false →
  J_1 x_4 x_5 x_6 h_9)) ∧
  ∀ (x_7 : Sl) (x_8 : Int) (x_9 : Int) (h_14 : Heap), J_1 x_7 x_8 x_9 h_14 → Vars h_14 [(b_5, [(Sl.v t16_3)]), (b_4, [(Sl.v t16_1)]), (b_3, [(Sl.v x_7), (VI x_8), (Value.int .u64 x_9)]), (b_2, [(Sl.v nilSl)]), (b_1, [(Sl.v nilSl)])] →
  ∀ (h_15 : Heap), Fr (In [b_1]) h_14 h_15 → Vars h_15 [(b_5, [(Sl.v t16_3)]), (b_4, [(Sl.v t16_1)]), (b_3, [(Sl.v x_7), (VI x_8), (Value.int .u64 x_9)]), (b_2, [(Sl.v nilSl)]), (b_1, [(Sl.v t16_1)])] →
  ∀ (h_16 : Heap), Fr (In [b_2]) h_15 h_16 → Vars h_16 [(b_5, [(Sl.v t16_3)]), (b_4, [(Sl.v t16_1)]), (b_3, [(Sl.v x_7), (VI x_8), (Value.int .u64 x_9)]), (b_2, [(Sl.v t16_3)]), (b_1, [(Sl.v t16_1)])] →
  K (Value.tuple #[(Value.agg #[(Sl.v t16_1)]), (VI t16_2), (Value.agg #[(Sl.v t16_3)]), (Sl.v t24_1)]) h_16
theorem v21 (code0_1 : Sl) (h : Heap) (K : Value → Heap → Prop) (H : u21 Tryz.prog code0_1 h K) : callM Tryz.prog 21 #[(Sl.v code0_1)] h K := by
  refine c21 (Sl.v code0_1) h K ?_
  unfold u21 at H
  unfold t21
  have hL : Vars h [] := .nil
  refine eop_alloc 26 zer26 rfl hL (fun b_1 h_1 hb_1 hf_1 hL_1 => ?_)
  refine eop_alloc 28 zer28 rfl hL_1 (fun b_2 h_2 hb_2 hf_2 hL_2 => ?_)
  refine pop.mk' (v := (Value.agg #[(Sl.v code0_1), (VI 0), (Value.int .u64 0)])) (fun w => by kernel_rfl) ?_
  refine eop_box 74 (Value.agg #[(Sl.v code0_1), (VI 0), (Value.int .u64 0)]) rfl hL_2 (fun b_3 h_3 hb_3 hf_3 hL_3 => ?_)
  have H := H b_1 b_2 b_3 h_3 (Nat.le_trans (Fr.size (Fr.r (In []) _)) hb_1) (Nat.le_trans (Fr.size (Fr.no' (Fr.r (In []) _) hf_1)) hb_2) (Nat.le_trans (Fr.size (Fr.no' (Fr.no' (Fr.r (In []) _) hf_1) hf_2)) hb_3) (Fr.no' (Fr.no' (Fr.no' (Fr.r (In []) _) hf_1) hf_2) hf_3) hL_3
  refine H.mono fun rv_1 h_4 H => ?_
  obtain ⟨x_1, x_2, x_3, t16_1, t16_2, t16_3, rfl, hL_4, H⟩ := H
  refine pop_ext (v := (Value.agg #[(Sl.v t16_1)])) rfl ?_
  refine pop_ext (v := (VI t16_2)) rfl ?_
  refine pop_ext (v := (Value.agg #[(Sl.v t16_3)])) rfl ?_
  refine eop_alloc 26 zer26 rfl hL_4 (fun b_4 h_5 hb_4 hf_4 hL_5 => ?_)
  refine eop_alloc 28 zer28 rfl hL_5 (fun b_5 h_6 hb_5 hf_5 hL_6 => ?_)
  refine uop_loc siz26 hL_6 1 rfl 0 [(Sl.v t16_1)] rfl rfl rfl (Nat.le_of_ble_eq_true rfl) (L' := [(b_5, [(Sl.v nilSl)]), (b_4, [(Sl.v t16_1)]), (b_3, [(Sl.v x_1), (VI x_2), (Value.int .u64 x_3)]), (b_2, [(Sl.v nilSl)]), (b_1, [(Sl.v nilSl)])]) rfl (fun h_7 hf_6 hL_7 => ?_)
  refine uop_loc siz28 hL_7 0 rfl 0 [(Sl.v t16_3)] rfl rfl rfl (Nat.le_of_ble_eq_true rfl) (L' := [(b_5, [(Sl.v t16_3)]), (b_4, [(Sl.v t16_1)]), (b_3, [(Sl.v x_1), (VI x_2), (Value.int .u64 x_3)]), (b_2, [(Sl.v nilSl)]), (b_1, [(Sl.v nilSl)])]) rfl (fun h_8 hf_7 hL_8 => ?_)
  refine pop_field 0 fld26_0 b_4 0 ?_
  refine rop_loc one24 hL_8 1 rfl 0 (v := (Sl.v t16_1)) rfl ?_
  refine pop_len t16_1 _ _ sli24 ?_
  have H := H b_4 b_5 h_8 (Nat.le_trans (Fr.size (Fr.r (In []) _)) hb_4) (Nat.le_trans (Fr.size (Fr.no' (Fr.r (In []) _) hf_4)) hb_5) (Fr.new (Fr.new (Fr.no' (Fr.no' (Fr.r (In []) _) hf_4) hf_5) (Nat.le_trans (Fr.size (Fr.r (In []) _)) hb_4) hf_6) (Nat.le_trans (Fr.size (Fr.no' (Fr.r (In []) _) hf_4)) hb_5) hf_7) hL_8
  refine H.mono fun rv_2 h_9 H => ?_
  obtain ⟨x_4, x_5, x_6, t24_1, rfl, hL_9, H⟩ := H
  obtain ⟨J_1, H, HB_1⟩ := H
  refine ⟨fun (vs : List Value) (h' : Heap) => ∃ x_7 : Sl, ∃ x_8 : Int, ∃ x_9 : Int, vs = [] ∧ J_1 x_7 x_8 x_9 h' ∧ Vars h' [(b_5, [(Sl.v t16_3)]), (b_4, [(Sl.v t16_1)]), (b_3, [(Sl.v x_7), (VI x_8), (Value.int .u64 x_9)]), (b_2, [(Sl.v nilSl)]), (b_1, [(Sl.v nilSl)])], ?_, ?_⟩
  ·refine pop_len t24_1 _ _ sli29 ?_
   refine pop_gtr .i64 (t24_1.n : Int) 0 ?_
   refine guardM_st (fun hb_6 => ?_) (fun hb_6 => ?_)
   rotate_left
   ·have H := H.2 hb_6
    refine guardM_n' hb_6 (by decide) ?_
    refine pop_pickf' hb_6 ?_
    refine condM_f ?_
    exact ⟨x_4, x_5, x_6, rfl, H, hL_9⟩
   have H := H.1 hb_6
   refine guardM_y' hb_6 ?_
   refine H.mono fun rv_3 h_10 H => ?_
   obtain ⟨x_10, x_11, x_12, t30_1, rfl, hL_10, H⟩ := H
   refine pop_pickt' hb_6 ?_
   refine condM_b (fun hb_7 => ?_) (fun hb_7 => ?_)
   rotate_left
   ·have H := H.2 hb_7
    exact ⟨x_10, x_11, x_12, rfl, H, hL_10⟩
   have H := H.1 hb_7
   refine H.mono fun rv_4 h_11 H => ?_
   obtain ⟨t34_1, rfl, hL_11, H⟩ := H
   refine H.mono fun rv_5 h_12 H => ?_
   obtain ⟨x_13, x_14, x_15, t35_1, rfl, hL_12, H⟩ := H
   obtain ⟨hi_1, H⟩ := H
   refine pop_index sli29 siz3 .i64 t24_1 0 hi_1 ?_
   obtain ⟨hw_1, hL_13, H⟩ := H
   refine uop_cell (v := (VI t35_1)) siz3 hw_1 rfl (fun h_13 he_1 => ?_)
   rw [← he_1] at hL_13
   have H := H h_13 he_1 hL_13
   exact ⟨x_13, x_14, x_15, rfl, H, hL_13⟩
  intro junk_1  h_14
  rintro ⟨x_7, x_8, x_9, hv, hJ_1, hL_14⟩
  have H := HB_1 x_7 x_8 x_9 h_14 hJ_1 hL_14
  refine rop_locA agg26 hL_14 1 rfl 0 (vs := [(Sl.v t16_1)]) rfl rfl ?_
  refine rop_locA agg28 hL_14 0 rfl 0 (vs := [(Sl.v t16_3)]) rfl rfl ?_
  refine uop_loc siz26 hL_14 4 rfl 0 [(Sl.v t16_1)] rfl rfl rfl (Nat.le_of_ble_eq_true rfl) (L' := [(b_5, [(Sl.v t16_3)]), (b_4, [(Sl.v t16_1)]), (b_3, [(Sl.v x_7), (VI x_8), (Value.int .u64 x_9)]), (b_2, [(Sl.v nilSl)]), (b_1, [(Sl.v t16_1)])]) rfl (fun h_15 hf_8 hL_15 => ?_)
  have H := H  h_15  (Fr.old (Fr.r (In []) _) hf_8) hL_15
  refine ⟨?_, ?_⟩
  ·exact still_locA agg28 hL_15 0 rfl 0 (vs := [(Sl.v t16_3)]) rfl rfl
  refine uop_loc siz28 hL_15 3 rfl 0 [(Sl.v t16_3)] rfl rfl rfl (Nat.le_of_ble_eq_true rfl) (L' := [(b_5, [(Sl.v t16_3)]), (b_4, [(Sl.v t16_1)]), (b_3, [(Sl.v x_7), (VI x_8), (Value.int .u64 x_9)]), (b_2, [(Sl.v t16_3)]), (b_1, [(Sl.v t16_1)])]) rfl (fun h_16 hf_9 hL_16 => ?_)
  refine rop_locA agg26 hL_16 4 rfl 0 (vs := [(Sl.v t16_1)]) rfl rfl ?_
  refine rop_locA agg28 hL_16 3 rfl 0 (vs := [(Sl.v t16_3)]) rfl rfl ?_
  have H := H  h_16  (Fr.old (Fr.r (In []) _) hf_9) hL_16
  exact H
def u22 (P : Program) (g0_1 : Sl) (sink1_1 : Int) (s2_1 : Sl) (order3_1 : Sl) (h : Heap) (K : Value → Heap → Prop) : Prop :=
  ∀ (b_1 : Nat) (b_2 : Nat) (h_2 : Heap), h.size ≤ b_1 → h.size ≤ b_2 → Fr (In []) h h_2 → Vars h_2 [(b_2, [(Sl.v s2_1)]), (b_1, [(Sl.v g0_1)])] →
  callM P 68 #[(Value.agg #[(Sl.v g0_1)])] h_2 fun rv_1 h_3 => ∃ t11_1 : Bool, rv_1 = (VB t11_1) ∧ Vars h_3 [(b_2, [(Sl.v s2_1)]), (b_1, [(Sl.v g0_1)])] ∧
  ((!t11_1) = true →
  K (Value.tuple #[(Sl.v nilSl), (VB false)]) h_3) ∧
  ((!t11_1) = false →
  callM P 69 #[(Value.agg #[(Sl.v g0_1)]), (Sl.v order3_1)] h_3 fun rv_2 h_4 => ∃ t16_1 : Bool, rv_2 = (VB t16_1) ∧ Vars h_4 [(b_2, [(Sl.v s2_1)]), (b_1, [(Sl.v g0_1)])] ∧
  ((!t16_1) = true →
  K (Value.tuple #[(Sl.v nilSl), (VB false)]) h_4) ∧
  ((!t16_1) = false →
  callM P 13 #[(Value.agg #[(Sl.v g0_1)]), (VI sink1_1), (Value.agg #[(Sl.v s2_1)])] h_4 fun rv_3 h_5 => ∃ t22_1 : Sl, ∃ t22_2 : Bool, rv_3 = (Value.tuple #[(Sl.v t22_1), (VB t22_2)]) ∧ Vars h_5 [(b_2, [(Sl.v s2_1)]), (b_1, [(Sl.v g0_1)])] ∧
  K (Value.tuple #[(Sl.v t22_1), (VB t22_2)]) h_5))
theorem v22 (g0_1 : Sl) (sink1_1 : Int) (s2_1 : Sl) (order3_1 : Sl) (h : Heap) (K : Value → Heap → Prop) (H : u22 Tryz.prog g0_1 sink1_1 s2_1 order3_1 h K) : callM Tryz.prog 22 #[(Value.agg #[(Sl.v g0_1)]), (VI sink1_1), (Value.agg #[(Sl.v s2_1)]), (Sl.v order3_1)] h K := by
  refine c22 (Value.agg #[(Sl.v g0_1)]) (VI sink1_1) (Value.agg #[(Sl.v s2_1)]) (Sl.v order3_1) h K ?_
  unfold u22 at H
  unfold t22
  have hL : Vars h [] := .nil
  refine eop_box 26 (Value.agg #[(Sl.v g0_1)]) rfl hL (fun b_1 h_1 hb_1 hf_1 hL_1 => ?_)
  refine eop_box 28 (Value.agg #[(Sl.v s2_1)]) rfl hL_1 (fun b_2 h_2 hb_2 hf_2 hL_2 => ?_)
  refine rop_locA agg26 hL_2 1 rfl 0 (vs := [(Sl.v g0_1)]) rfl rfl ?_
  have H := H b_1 b_2 h_2 (Nat.le_trans (Fr.size (Fr.r (In []) _)) hb_1) (Nat.le_trans (Fr.size (Fr.no' (Fr.r (In []) _) hf_1)) hb_2) (Fr.no' (Fr.no' (Fr.r (In []) _) hf_1) hf_2) hL_2
  refine H.mono fun rv_1 h_3 H => ?_
  obtain ⟨t11_1, rfl, hL_3, H⟩ := H
  refine pop_not t11_1 ?_
  refine guardM_sf (fun hb_3 => ?_) (fun hb_3 => ?_)
  rotate_left
  ·have H := H.1 hb_3
   refine guardM_n' hb_3 (by decide) ?_
   refine guardM_n' hb_3 (by decide) ?_
   refine guardM_n' hb_3 (by decide) ?_
   refine pop_pickt' hb_3 ?_
   refine condM_t ?_
   exact H
  have H := H.2 hb_3
  refine rop_locA agg26 hL_3 1 rfl 0 (vs := [(Sl.v g0_1)]) rfl rfl ?_
  refine guardM_y' hb_3 ?_
  refine guardM_y' hb_3 ?_
  refine H.mono fun rv_2 h_4 H => ?_
  obtain ⟨t16_1, rfl, hL_4, H⟩ := H
  refine guardM_y' hb_3 ?_
  refine pop_not t16_1 ?_
  refine pop_pickf' hb_3 ?_
  refine condM_b (fun hb_4 => ?_) (fun hb_4 => ?_)
  ·have H := H.1 hb_4
   exact H
  have H := H.2 hb_4
  refine rop_locA agg26 hL_4 1 rfl 0 (vs := [(Sl.v g0_1)]) rfl rfl ?_
  refine rop_locA agg28 hL_4 0 rfl 0 (vs := [(Sl.v s2_1)]) rfl rfl ?_
  refine H.mono fun rv_3 h_5 H => ?_
  obtain ⟨t22_1, t22_2, rfl, hL_5, H⟩ := H
  refine pop_ext (v := (Sl.v t22_1)) rfl ?_
  refine pop_ext (v := (VB t22_2)) rfl ?_
  exact H
def u23 (P : Program) (g0_1 : Sl) (sink1_1 : Int) (s2_1 : Sl) (order3_1 : Sl) (h : Heap) (K : Value → Heap → Prop) : Prop :=
  ∀ (b_1 : Nat) (b_2 : Nat) (h_2 : Heap), h.size ≤ b_1 → h.size ≤ b_2 → Fr (In []) h h_2 → Vars h_2 [(b_2, [(Sl.v s2_1)]), (b_1, [(Sl.v g0_1)])] →
  callM P 55 #[(Value.agg #[(Sl.v g0_1)]), (VI sink1_1), (Value.agg #[(Sl.v s2_1)])] h_2 fun rv_1 h_3 => ∃ t19_1 : Bool, rv_1 = (VB t19_1) ∧ Vars h_3 [(b_2, [(Sl.v s2_1)]), (b_1, [(Sl.v g0_1)])] ∧
  ((!t19_1) = true →
  K (Value.tuple #[(Sl.v nilSl), (VB false)]) h_3) ∧
  ((!t19_1) = false →
  callM P 70 #[(Sl.v order3_1), (VI (g0_1.n : Int))] h_3 fun rv_2 h_4 => ∃ t26_1 : Bool, rv_2 = (VB t26_1) ∧ Vars h_4 [(b_2, [(Sl.v s2_1)]), (b_1, [(Sl.v g0_1)])] ∧
  ((!t26_1) = true →
  K (Value.tuple #[(Sl.v nilSl), (VB false)]) h_4) ∧
  ((!t26_1) = false →
  callM P 57 #[(Value.agg #[(Sl.v g0_1)]), (VI sink1_1), (Value.agg #[(Sl.v s2_1)]), (Sl.v nilSl)] h_4 fun rv_3 h_5 => ∃ t33_1 : Sl, ∃ t33_2 : Int, ∃ t33_3 : Bool, rv_3 = (Value.tuple #[(Value.agg #[(Sl.v t33_1)]), (VI t33_2), (VB t33_3)]) ∧ Vars h_5 [(b_2, [(Sl.v s2_1)]), (b_1, [(Sl.v g0_1)])] ∧
  ((!t33_3) = true →
  ∀ (b_3 : Nat) (h_7 : Heap), h_5.size ≤ b_3 → Fr (In []) h_5 h_7 → Vars h_7 [(b_3, [(Sl.v t33_1)]), (b_2, [(Sl.v s2_1)]), (b_1, [(Sl.v g0_1)])] →
  K (Value.tuple #[(Sl.v nilSl), (VB false)]) h_7) ∧
  ((!t33_3) = false →
  ∀ (b_3 : Nat) (h_7 : Heap), h_5.size ≤ b_3 → Fr (In []) h_5 h_7 → Vars h_7 [(b_3, [(Sl.v t33_1)]), (b_2, [(Sl.v s2_1)]), (b_1, [(Sl.v g0_1)])] →
  callM P 71 #[(Value.agg #[(Sl.v g0_1)]), (VI sink1_1), (Value.agg #[(Sl.v s2_1)]), (Sl.v order3_1)] h_7 fun rv_4 h_8 => ∃ t44_1 : Sl, ∃ t44_2 : Int, ∃ t44_3 : Bool, rv_4 = (Value.tuple #[(Sl.v t44_1), (VI t44_2), (VB t44_3)]) ∧ Vars h_8 [(b_3, [(Sl.v t33_1)]), (b_2, [(Sl.v s2_1)]), (b_1, [(Sl.v g0_1)])] ∧
  K (Value.tuple #[(Sl.v t44_1), (VB t44_3)]) h_8)))
theorem v23 (g0_1 : Sl) (sink1_1 : Int) (s2_1 : Sl) (order3_1 : Sl) (h : Heap) (K : Value → Heap → Prop) (H : u23 Tryz.prog g0_1 sink1_1 s2_1 order3_1 h K) : callM Tryz.prog 23 #[(Value.agg #[(Sl.v g0_1)]), (VI sink1_1), (Value.agg #[(Sl.v s2_1)]), (Sl.v order3_1)] h K := by
  refine c23 (Value.agg #[(Sl.v g0_1)]) (VI sink1_1) (Value.agg #[(Sl.v s2_1)]) (Sl.v order3_1) h K ?_
  unfold u23 at H
  unfold t23
  have hL : Vars h [] := .nil
  refine eop_box 26 (Value.agg #[(Sl.v g0_1)]) rfl hL (fun b_1 h_1 hb_1 hf_1 hL_1 => ?_)
  refine eop_box 28 (Value.agg #[(Sl.v s2_1)]) rfl hL_1 (fun b_2 h_2 hb_2 hf_2 hL_2 => ?_)
  refine rop_locA agg26 hL_2 1 rfl 0 (vs := [(Sl.v g0_1)]) rfl rfl ?_
  refine rop_locA agg28 hL_2 0 rfl 0 (vs := [(Sl.v s2_1)]) rfl rfl ?_
  have H := H b_1 b_2 h_2 (Nat.le_trans (Fr.size (Fr.r (In []) _)) hb_1) (Nat.le_trans (Fr.size (Fr.no' (Fr.r (In []) _) hf_1)) hb_2) (Fr.no' (Fr.no' (Fr.r (In []) _) hf_1) hf_2) hL_2
  refine H.mono fun rv_1 h_3 H => ?_
  obtain ⟨t19_1, rfl, hL_3, H⟩ := H
  refine pop_not t19_1 ?_
  refine guardM_sf (fun hb_3 => ?_) (fun hb_3 => ?_)
  rotate_left
  ·have H := H.1 hb_3
   refine guardM_n' hb_3 (by decide) ?_
   refine guardM_n' hb_3 (by decide) ?_
   refine guardM_n' hb_3 (by decide) ?_
   refine guardM_n' hb_3 (by decide) ?_
   refine guardM_n' hb_3 (by decide) ?_
   refine pop_pickt' hb_3 ?_
   refine condM_t ?_
   exact H
  have H := H.2 hb_3
  refine guardM_y' hb_3 ?_
  refine pop_field 0 fld26_0 b_1 0 ?_
  refine guardM_y' hb_3 ?_
  refine rop_loc one24 hL_3 1 rfl 0 (v := (Sl.v g0_1)) rfl ?_
  refine guardM_y' hb_3 ?_
  refine pop_len g0_1 _ _ sli24 ?_
  refine guardM_y' hb_3 ?_
  refine H.mono fun rv_2 h_4 H => ?_
  obtain ⟨t26_1, rfl, hL_4, H⟩ := H
  refine guardM_y' hb_3 ?_
  refine pop_not t26_1 ?_
  refine pop_pickf' hb_3 ?_
  refine condM_b (fun hb_4 => ?_) (fun hb_4 => ?_)
  ·have H := H.1 hb_4
   exact H
  have H := H.2 hb_4
  refine rop_locA agg26 hL_4 1 rfl 0 (vs := [(Sl.v g0_1)]) rfl rfl ?_
  refine rop_locA agg28 hL_4 0 rfl 0 (vs := [(Sl.v s2_1)]) rfl rfl ?_
  refine H.mono fun rv_3 h_5 H => ?_
  obtain ⟨t33_1, t33_2, t33_3, rfl, hL_5, H⟩ := H
  refine pop_ext (v := (Value.agg #[(Sl.v t33_1)])) rfl ?_
  refine pop_ext (v := (VI t33_2)) rfl ?_
  refine pop_ext (v := (VB t33_3)) rfl ?_
  refine eop_alloc 28 zer28 rfl hL_5 (fun b_3 h_6 hb_5 hf_3 hL_6 => ?_)
  refine uop_loc siz28 hL_6 0 rfl 0 [(Sl.v t33_1)] rfl rfl rfl (Nat.le_of_ble_eq_true rfl) (L' := [(b_3, [(Sl.v t33_1)]), (b_2, [(Sl.v s2_1)]), (b_1, [(Sl.v g0_1)])]) rfl (fun h_7 hf_4 hL_7 => ?_)
  refine pop_not t33_3 ?_
  refine condM_b (fun hb_6 => ?_) (fun hb_6 => ?_)
  ·have H := H.1 hb_6
   have H := H b_3 h_7 (Nat.le_trans (Fr.size (Fr.r (In []) _)) hb_5) (Fr.new (Fr.no' (Fr.r (In []) _) hf_3) (Nat.le_trans (Fr.size (Fr.r (In []) _)) hb_5) hf_4) hL_7
   exact H
  have H := H.2 hb_6
  refine rop_locA agg26 hL_7 2 rfl 0 (vs := [(Sl.v g0_1)]) rfl rfl ?_
  refine rop_locA agg28 hL_7 1 rfl 0 (vs := [(Sl.v s2_1)]) rfl rfl ?_
  have H := H b_3 h_7 (Nat.le_trans (Fr.size (Fr.r (In []) _)) hb_5) (Fr.new (Fr.no' (Fr.r (In []) _) hf_3) (Nat.le_trans (Fr.size (Fr.r (In []) _)) hb_5) hf_4) hL_7
  refine H.mono fun rv_4 h_8 H => ?_
  obtain ⟨t44_1, t44_2, t44_3, rfl, hL_8, H⟩ := H
  refine pop_ext (v := (Sl.v t44_1)) rfl ?_
  refine pop_ext (v := (VI t44_2)) rfl ?_
  refine pop_ext (v := (VB t44_3)) rfl ?_
  exact H
def u24 (P : Program) (g0_1 : Sl) (sink1_1 : Int) (s2_1 : Sl) (order3_1 : Sl) (h : Heap) (K : Value → Heap → Prop) : Prop :=
  ∀ (b_1 : Nat) (b_2 : Nat) (h_2 : Heap), h.size ≤ b_1 → h.size ≤ b_2 → Fr (In []) h h_2 → Vars h_2 [(b_2, [(Sl.v s2_1)]), (b_1, [(Sl.v g0_1)])] →
  callM P 68 #[(Value.agg #[(Sl.v g0_1)])] h_2 fun rv_1 h_3 => ∃ t13_1 : Bool, rv_1 = (VB t13_1) ∧ Vars h_3 [(b_2, [(Sl.v s2_1)]), (b_1, [(Sl.v g0_1)])] ∧
  ((!t13_1) = true →
  K (Value.tuple #[(VI 0), (VB false)]) h_3) ∧
  ((!t13_1) = false →
  callM P 69 #[(Value.agg #[(Sl.v g0_1)]), (Sl.v order3_1)] h_3 fun rv_2 h_4 => ∃ t18_1 : Bool, rv_2 = (VB t18_1) ∧ Vars h_4 [(b_2, [(Sl.v s2_1)]), (b_1, [(Sl.v g0_1)])] ∧
  ((!t18_1) = true →
  K (Value.tuple #[(VI 0), (VB false)]) h_4) ∧
  ((!t18_1) = false →
  callM P 9 #[(Value.agg #[(Sl.v g0_1)]), (VI sink1_1), (Value.agg #[(Sl.v s2_1)])] h_4 fun rv_3 h_5 => ∃ t25_1 : Sl, ∃ t25_2 : Bool, rv_3 = (Value.tuple #[(Sl.v t25_1), (VB t25_2)]) ∧ Vars h_5 [(b_2, [(Sl.v s2_1)]), (b_1, [(Sl.v g0_1)])] ∧
  ((!t25_2) = true →
  K (Value.tuple #[(VI 0), (VB false)]) h_5) ∧
  ((!t25_2) = false →
  callM P 72 #[(Sl.v t25_1)] h_5 fun rv_4 h_6 => ∃ t31_1 : Int, rv_4 = (VI t31_1) ∧ Vars h_6 [(b_2, [(Sl.v s2_1)]), (b_1, [(Sl.v g0_1)])] ∧
  K (Value.tuple #[(VI (w64 ((w64 (t31_1 + (g0_1.n : Int))) - 1))), (VB true)]) h_6)))
theorem v24 (g0_1 : Sl) (sink1_1 : Int) (s2_1 : Sl) (order3_1 : Sl) (h : Heap) (K : Value → Heap → Prop) (H : u24 Tryz.prog g0_1 sink1_1 s2_1 order3_1 h K) : callM Tryz.prog 24 #[(Value.agg #[(Sl.v g0_1)]), (VI sink1_1), (Value.agg #[(Sl.v s2_1)]), (Sl.v order3_1)] h K := by
  refine c24 (Value.agg #[(Sl.v g0_1)]) (VI sink1_1) (Value.agg #[(Sl.v s2_1)]) (Sl.v order3_1) h K ?_
  unfold u24 at H
  unfold t24
  have hL : Vars h [] := .nil
  refine eop_box 26 (Value.agg #[(Sl.v g0_1)]) rfl hL (fun b_1 h_1 hb_1 hf_1 hL_1 => ?_)
  refine eop_box 28 (Value.agg #[(Sl.v s2_1)]) rfl hL_1 (fun b_2 h_2 hb_2 hf_2 hL_2 => ?_)
  refine rop_locA agg26 hL_2 1 rfl 0 (vs := [(Sl.v g0_1)]) rfl rfl ?_
  have H := H b_1 b_2 h_2 (Nat.le_trans (Fr.size (Fr.r (In []) _)) hb_1) (Nat.le_trans (Fr.size (Fr.no' (Fr.r (In []) _) hf_1)) hb_2) (Fr.no' (Fr.no' (Fr.r (In []) _) hf_1) hf_2) hL_2
  refine H.mono fun rv_1 h_3 H => ?_
  obtain ⟨t13_1, rfl, hL_3, H⟩ := H
  refine pop_not t13_1 ?_
  refine guardM_sf (fun hb_3 => ?_) (fun hb_3 => ?_)
  rotate_left
  ·have H := H.1 hb_3
   refine guardM_n' hb_3 (by decide) ?_
   refine guardM_n' hb_3 (by decide) ?_
   refine guardM_n' hb_3 (by decide) ?_
   refine pop_pickt' hb_3 ?_
   refine condM_t ?_
   exact H
  have H := H.2 hb_3
  refine rop_locA agg26 hL_3 1 rfl 0 (vs := [(Sl.v g0_1)]) rfl rfl ?_
  refine guardM_y' hb_3 ?_
  refine guardM_y' hb_3 ?_
  refine H.mono fun rv_2 h_4 H => ?_
  obtain ⟨t18_1, rfl, hL_4, H⟩ := H
  refine guardM_y' hb_3 ?_
  refine pop_not t18_1 ?_
  refine pop_pickf' hb_3 ?_
  refine condM_b (fun hb_4 => ?_) (fun hb_4 => ?_)
  ·have H := H.1 hb_4
   exact H
  have H := H.2 hb_4
  refine rop_locA agg26 hL_4 1 rfl 0 (vs := [(Sl.v g0_1)]) rfl rfl ?_
  refine rop_locA agg28 hL_4 0 rfl 0 (vs := [(Sl.v s2_1)]) rfl rfl ?_
  refine H.mono fun rv_3 h_5 H => ?_
  obtain ⟨t25_1, t25_2, rfl, hL_5, H⟩ := H
  refine pop_ext (v := (Sl.v t25_1)) rfl ?_
  refine pop_ext (v := (VB t25_2)) rfl ?_
  refine pop_not t25_2 ?_
  refine condM_b (fun hb_5 => ?_) (fun hb_5 => ?_)
  ·have H := H.1 hb_5
   exact H
  have H := H.2 hb_5
  refine pop_field 0 fld26_0 b_1 0 ?_
  refine rop_loc one24 hL_5 1 rfl 0 (v := (Sl.v g0_1)) rfl ?_
  refine pop_len g0_1 _ _ sli24 ?_
  refine H.mono fun rv_4 h_6 H => ?_
  obtain ⟨t31_1, rfl, hL_6, H⟩ := H
  refine ⟨?_, ?_⟩
  ·exact still_loc one24 hL_6 1 rfl 0 (v := (Sl.v g0_1)) rfl
  refine pop_add .i64 t31_1 (g0_1.n : Int) ?_
  refine pop_sub .i64 (w64 (t31_1 + (g0_1.n : Int))) 1 ?_
  exact H
def u25 (P : Program) (g0_1 : Sl) (sink1_1 : Int) (s2_1 : Sl) (order3_1 : Sl) (h : Heap) (K : Value → Heap → Prop) : Prop :=
  ∀ (b_1 : Nat) (b_2 : Nat) (h_2 : Heap), h.size ≤ b_1 → h.size ≤ b_2 → Fr (In []) h h_2 → Vars h_2 [(b_2, [(Sl.v s2_1)]), (b_1, [(Sl.v g0_1)])] →
  callM P 55 #[(Value.agg #[(Sl.v g0_1)]), (VI sink1_1), (Value.agg #[(Sl.v s2_1)])] h_2 fun rv_1 h_3 => ∃ t19_1 : Bool, rv_1 = (VB t19_1) ∧ Vars h_3 [(b_2, [(Sl.v s2_1)]), (b_1, [(Sl.v g0_1)])] ∧
  ((!t19_1) = true →
  K (Value.tuple #[(VI 0), (VB false)]) h_3) ∧
  ((!t19_1) = false →
  callM P 70 #[(Sl.v order3_1), (VI (g0_1.n : Int))] h_3 fun rv_2 h_4 => ∃ t26_1 : Bool, rv_2 = (VB t26_1) ∧ Vars h_4 [(b_2, [(Sl.v s2_1)]), (b_1, [(Sl.v g0_1)])] ∧
  ((!t26_1) = true →
  K (Value.tuple #[(VI 0), (VB false)]) h_4) ∧
  ((!t26_1) = false →
  callM P 57 #[(Value.agg #[(Sl.v g0_1)]), (VI sink1_1), (Value.agg #[(Sl.v s2_1)]), (Sl.v nilSl)] h_4 fun rv_3 h_5 => ∃ t33_1 : Sl, ∃ t33_2 : Int, ∃ t33_3 : Bool, rv_3 = (Value.tuple #[(Value.agg #[(Sl.v t33_1)]), (VI t33_2), (VB t33_3)]) ∧ Vars h_5 [(b_2, [(Sl.v s2_1)]), (b_1, [(Sl.v g0_1)])] ∧
  ((!t33_3) = true →
  ∀ (b_3 : Nat) (h_7 : Heap), h_5.size ≤ b_3 → Fr (In []) h_5 h_7 → Vars h_7 [(b_3, [(Sl.v t33_1)]), (b_2, [(Sl.v s2_1)]), (b_1, [(Sl.v g0_1)])] →
  K (Value.tuple #[(VI 0), (VB false)]) h_7) ∧
  ((!t33_3) = false →
  ∀ (b_3 : Nat) (h_7 : Heap), h_5.size ≤ b_3 → Fr (In []) h_5 h_7 → Vars h_7 [(b_3, [(Sl.v t33_1)]), (b_2, [(Sl.v s2_1)]), (b_1, [(Sl.v g0_1)])] →
  callM P 71 #[(Value.agg #[(Sl.v g0_1)]), (VI sink1_1), (Value.agg #[(Sl.v s2_1)]), (Sl.v order3_1)] h_7 fun rv_4 h_8 => ∃ t44_1 : Sl, ∃ t44_2 : Int, ∃ t44_3 : Bool, rv_4 = (Value.tuple #[(Sl.v t44_1), (VI t44_2), (VB t44_3)]) ∧ Vars h_8 [(b_3, [(Sl.v t33_1)]), (b_2, [(Sl.v s2_1)]), (b_1, [(Sl.v g0_1)])] ∧
  ((!t44_3) = true →
  K (Value.tuple #[(VI 0), (VB false)]) h_8) ∧
  ((!t44_3) = false →
  K (Value.tuple #[(VI t44_2), (VB true)]) h_8))))
theorem v25 (g0_1 : Sl) (sink1_1 : Int) (s2_1 : Sl) (order3_1 : Sl) (h : Heap) (K : Value → Heap → Prop) (H : u25 Tryz.prog g0_1 sink1_1 s2_1 order3_1 h K) : callM Tryz.prog 25 #[(Value.agg #[(Sl.v g0_1)]), (VI sink1_1), (Value.agg #[(Sl.v s2_1)]), (Sl.v order3_1)] h K := by
  refine c25 (Value.agg #[(Sl.v g0_1)]) (VI sink1_1) (Value.agg #[(Sl.v s2_1)]) (Sl.v order3_1) h K ?_
  unfold u25 at H
  unfold t25
  have hL : Vars h [] := .nil
  refine eop_box 26 (Value.agg #[(Sl.v g0_1)]) rfl hL (fun b_1 h_1 hb_1 hf_1 hL_1 => ?_)
  refine eop_box 28 (Value.agg #[(Sl.v s2_1)]) rfl hL_1 (fun b_2 h_2 hb_2 hf_2 hL_2 => ?_)
  refine rop_locA agg26 hL_2 1 rfl 0 (vs := [(Sl.v g0_1)]) rfl rfl ?_
  refine rop_locA agg28 hL_2 0 rfl 0 (vs := [(Sl.v s2_1)]) rfl rfl ?_
  have H := H b_1 b_2 h_2 (Nat.le_trans (Fr.size (Fr.r (In []) _)) hb_1) (Nat.le_trans (Fr.size (Fr.no' (Fr.r (In []) _) hf_1)) hb_2) (Fr.no' (Fr.no' (Fr.r (In []) _) hf_1) hf_2) hL_2
  refine H.mono fun rv_1 h_3 H => ?_
  obtain ⟨t19_1, rfl, hL_3, H⟩ := H
  refine pop_not t19_1 ?_
  refine guardM_sf (fun hb_3 => ?_) (fun hb_3 => ?_)
  rotate_left
  ·have H := H.1 hb_3
   refine guardM_n' hb_3 (by decide) ?_
   refine guardM_n' hb_3 (by decide) ?_
   refine guardM_n' hb_3 (by decide) ?_
   refine guardM_n' hb_3 (by decide) ?_
   refine guardM_n' hb_3 (by decide) ?_
   refine pop_pickt' hb_3 ?_
   refine condM_t ?_
   exact H
  have H := H.2 hb_3
  refine guardM_y' hb_3 ?_
  refine pop_field 0 fld26_0 b_1 0 ?_
  refine guardM_y' hb_3 ?_
  refine rop_loc one24 hL_3 1 rfl 0 (v := (Sl.v g0_1)) rfl ?_
  refine guardM_y' hb_3 ?_
  refine pop_len g0_1 _ _ sli24 ?_
  refine guardM_y' hb_3 ?_
  refine H.mono fun rv_2 h_4 H => ?_
  obtain ⟨t26_1, rfl, hL_4, H⟩ := H
  refine guardM_y' hb_3 ?_
  refine pop_not t26_1 ?_
  refine pop_pickf' hb_3 ?_
  refine condM_b (fun hb_4 => ?_) (fun hb_4 => ?_)
  ·have H := H.1 hb_4
   exact H
  have H := H.2 hb_4
  refine rop_locA agg26 hL_4 1 rfl 0 (vs := [(Sl.v g0_1)]) rfl rfl ?_
  refine rop_locA agg28 hL_4 0 rfl 0 (vs := [(Sl.v s2_1)]) rfl rfl ?_
  refine H.mono fun rv_3 h_5 H => ?_
  obtain ⟨t33_1, t33_2, t33_3, rfl, hL_5, H⟩ := H
  refine pop_ext (v := (Value.agg #[(Sl.v t33_1)])) rfl ?_
  refine pop_ext (v := (VI t33_2)) rfl ?_
  refine pop_ext (v := (VB t33_3)) rfl ?_
  refine eop_alloc 28 zer28 rfl hL_5 (fun b_3 h_6 hb_5 hf_3 hL_6 => ?_)
  refine uop_loc siz28 hL_6 0 rfl 0 [(Sl.v t33_1)] rfl rfl rfl (Nat.le_of_ble_eq_true rfl) (L' := [(b_3, [(Sl.v t33_1)]), (b_2, [(Sl.v s2_1)]), (b_1, [(Sl.v g0_1)])]) rfl (fun h_7 hf_4 hL_7 => ?_)
  refine pop_not t33_3 ?_
  refine condM_b (fun hb_6 => ?_) (fun hb_6 => ?_)
  ·have H := H.1 hb_6
   have H := H b_3 h_7 (Nat.le_trans (Fr.size (Fr.r (In []) _)) hb_5) (Fr.new (Fr.no' (Fr.r (In []) _) hf_3) (Nat.le_trans (Fr.size (Fr.r (In []) _)) hb_5) hf_4) hL_7
   exact H
  have H := H.2 hb_6
  refine rop_locA agg26 hL_7 2 rfl 0 (vs := [(Sl.v g0_1)]) rfl rfl ?_
  refine rop_locA agg28 hL_7 1 rfl 0 (vs := [(Sl.v s2_1)]) rfl rfl ?_
  have H := H b_3 h_7 (Nat.le_trans (Fr.size (Fr.r (In []) _)) hb_5) (Fr.new (Fr.no' (Fr.r (In []) _) hf_3) (Nat.le_trans (Fr.size (Fr.r (In []) _)) hb_5) hf_4) hL_7
  refine H.mono fun rv_4 h_8 H => ?_
  obtain ⟨t44_1, t44_2, t44_3, rfl, hL_8, H⟩ := H
  refine pop_ext (v := (Sl.v t44_1)) rfl ?_
  refine pop_ext (v := (VI t44_2)) rfl ?_
  refine pop_ext (v := (VB t44_3)) rfl ?_
  refine pop_not t44_3 ?_
  refine condM_b (fun hb_7 => ?_) (fun hb_7 => ?_)
  ·have H := H.1 hb_7
   exact H
  have H := H.2 hb_7
  exact H
def u51 (P : Program) (b_1 : Nat) (c0_1 : Sl) (c0_2 : Int) (c0_3 : Int) (h : Heap) (K : Value → Heap → Prop) : Prop :=
  ∀ (b_2 : Nat) (b_3 : Nat) (h_2 : Heap), h.size ≤ b_2 → h.size ≤ b_3 → Fr (In []) h h_2 → Vars h_2 [(b_3, [(Sl.v nilSl)]), (b_2, [(Sl.v nilSl)]), (b_1, [(Sl.v c0_1), (VI c0_2), (Value.int .u64 c0_3)])] →
  callM P 105 #[(VP b_1 0)] h_2 fun rv_1 h_3 => ∃ x_1 : Sl, ∃ x_2 : Int, ∃ x_3 : Int, ∃ t16_1 : Sl, ∃ t16_2 : Int, rv_1 = (Value.tuple #[(Value.agg #[(Sl.v t16_1)]), (VI t16_2)]) ∧ Vars h_3 [(b_3, [(Sl.v nilSl)]), (b_2, [(Sl.v nilSl)]), (b_1, [(Sl.v x_1), (VI x_2), (Value.int .u64 x_3)])] ∧
  ∀ (b_4 : Nat) (b_5 : Nat) (h_7 : Heap), h_3.size ≤ b_4 → h_3.size ≤ b_5 → Fr (In []) h_3 h_7 → Vars h_7 [(b_5, [(Sl.v nilSl)]), (b_4, [(Sl.v t16_1)]), (b_3, [(Sl.v nilSl)]), (b_2, [(Sl.v nilSl)]), (b_1, [(Sl.v x_1), (VI x_2), (Value.int .u64 x_3)])] →
  callM P 98 #[(Value.agg #[(Sl.v t16_1)]), (VI t16_2)] h_7 fun rv_2 h_8 => ∃ t22_1 : Bool, rv_2 = (VB t22_1) ∧ Vars h_8 [(b_5, [(Sl.v nilSl)]), (b_4, [(Sl.v t16_1)]), (b_3, [(Sl.v nilSl)]), (b_2, [(Sl.v nilSl)]), (b_1, [(Sl.v x_1), (VI x_2), (Value.int .u64 x_3)])] ∧
  ((!t22_1) = true →
  ∀ (h_9 : Heap), Fr (In [b_2]) h_8 h_9 → Vars h_9 [(b_5, [(Sl.v nilSl)]), (b_4, [(Sl.v t16_1)]), (b_3, [(Sl.v nilSl)]), (b_2, [(Sl.v t16_1)]), (b_1, [(Sl.v x_1), (VI x_2), (Value.int .u64 x_3)])] →
  ∀ (h_10 : Heap), Fr (In [b_3]) h_9 h_10 → Vars h_10 [(b_5, [(Sl.v nilSl)]), (b_4, [(Sl.v t16_1)]), (b_3, [(Sl.v nilSl)]), (b_2, [(Sl.v t16_1)]), (b_1, [(Sl.v x_1), (VI x_2), (Value.int .u64 x_3)])] →
  K (Value.tuple #[(Value.agg #[(Sl.v t16_1)]), (VI t16_2), (Value.agg #[(Sl.v nilSl)])]) h_10) ∧
  ((!t22_1) = false →
  ∃ J_1 : Nat → Int → Sl → Sl → Int → Int → Heap → Prop, (∃ n0 : Nat, J_1 n0 0 nilSl x_1 x_2 x_3 h_8) ∧
  ∀ (n_1 : Nat) (t30_1 : Int) (x_4 : Sl) (x_5 : Sl) (x_6 : Int) (x_7 : Int) (h_11 : Heap), J_1 n_1 t30_1 x_4 x_5 x_6 x_7 h_11 → Vars h_11 [(b_5, [(Sl.v x_4)]), (b_4, [(Sl.v t16_1)]), (b_3, [(Sl.v nilSl)]), (b_2, [(Sl.v nilSl)]), (b_1, [(Sl.v x_5), (VI x_6), (Value.int .u64 x_7)])] →
  ((decide (t30_1 < (t16_1.n : Int))) = true →
  InB t16_1 t30_1 ∧
  ∃ t34_1 : Sl, hcell h_11 (Sl.at t16_1 t30_1 1) = some (Sl.v t34_1) ∧
  callM P 52 #[(VP b_1 0), (VI 9)] h_11 fun rv_3 h_12 => ∃ x_8 : Sl, ∃ x_9 : Int, ∃ x_10 : Int, ∃ t36_1 : Int, rv_3 = (VI t36_1) ∧ Vars h_12 [(b_5, [(Sl.v x_4)]), (b_4, [(Sl.v t16_1)]), (b_3, [(Sl.v nilSl)]), (b_2, [(Sl.v nilSl)]), (b_1, [(Sl.v x_8), (VI x_9), (Value.int .u64 x_10)])] ∧
  ∃ J_2 : Nat → Sl → Int → Sl → Int → Int → Heap → Prop, (∃ n0 : Nat, J_2 n0 nilSl (w64 (3 + t36_1)) x_8 x_9 x_10 h_12) ∧
  ∀ (n_2 : Nat) (list10_1 : Sl) (k11_1 : Int) (x_11 : Sl) (x_12 : Int) (x_13 : Int) (h_13 : Heap), J_2 n_2 list10_1 k11_1 x_11 x_12 x_13 h_13 → Vars h_13 [(b_5, [(Sl.v x_4)]), (b_4, [(Sl.v t16_1)]), (b_3, [(Sl.v nilSl)]), (b_2, [(Sl.v nilSl)]), (b_1, [(Sl.v x_11), (VI x_12), (Value.int .u64 x_13)])] →
  ((decide (0 < k11_1)) = true →
  ((!decide (t30_1 = t16_2)) = true →
  ((decide (0 < (t34_1.n : Int))) = true →
  callM P 52 #[(VP b_1 0), (VI (t34_1.n : Int))] h_13 fun rv_4 h_14 => ∃ x_14 : Sl, ∃ x_15 : Int, ∃ x_16 : Int, ∃ t56_1 : Int, rv_4 = (VI t56_1) ∧ Vars h_14 [(b_5, [(Sl.v x_4)]), (b_4, [(Sl.v t16_1)]), (b_3, [(Sl.v nilSl)]), (b_2, [(Sl.v nilSl)]), (b_1, [(Sl.v x_14), (VI x_15), (Value.int .u64 x_16)])] ∧
  eop P (Instr.buildSlice 29 1 #[(0, (VI t56_1))]) h_14 fun rv_5 h_15 => ∃ t57_1 : Sl, rv_5 = (Sl.v t57_1) ∧ Vars h_15 [(b_5, [(Sl.v x_4)]), (b_4, [(Sl.v t16_1)]), (b_3, [(Sl.v nilSl)]), (b_2, [(Sl.v nilSl)]), (b_1, [(Sl.v x_14), (VI x_15), (Value.int .u64 x_16)])] ∧
  eop P (appS 29 29 29 (Sl.v list10_1) (Sl.v t57_1)) h_15 fun rv_6 h_16 => ∃ t58_1 : Sl, rv_6 = (Sl.v t58_1) ∧ Vars h_16 [(b_5, [(Sl.v x_4)]), (b_4, [(Sl.v t16_1)]), (b_3, [(Sl.v nilSl)]), (b_2, [(Sl.v nilSl)]), (b_1, [(Sl.v x_14), (VI x_15), (Value.int .u64 x_16)])] ∧
  ∃ m : Nat, m < n_2 ∧ J_2 m t58_1 (w64 (k11_1 - 1)) x_14 x_15 x_16 h_16) ∧
  ((decide (0 < (t34_1.n : Int))) = false →
  eop P (Instr.buildSlice 24 1 #[(0, (Sl.v list10_1))]) h_13 fun rv_7 h_17 => ∃ t62_1 : Sl, rv_7 = (Sl.v t62_1) ∧ Vars h_17 [(b_5, [(Sl.v x_4)]), (b_4, [(Sl.v t16_1)]), (b_3, [(Sl.v nilSl)]), (b_2, [(Sl.v nilSl)]), (b_1, [(Sl.v x_11), (VI x_12), (Value.int .u64 x_13)])] ∧
  eop P (appS 24 24 24 (Sl.v x_4) (Sl.v t62_1)) h_17 fun rv_8 h_18 => ∃ t63_1 : Sl, rv_8 = (Sl.v t63_1) ∧ Vars h_18 [(b_5, [(Sl.v x_4)]), (b_4, [(Sl.v t16_1)]), (b_3, [(Sl.v nilSl)]), (b_2, [(Sl.v nilSl)]), (b_1, [(Sl.v x_11), (VI x_12), (Value.int .u64 x_13)])] ∧
  ∀ (h_19 : Heap), Fr (In [b_5]) h_18 h_19 → Vars h_19 [(b_5, [(Sl.v t63_1)]), (b_4, [(Sl.v t16_1)]), (b_3, [(Sl.v nilSl)]), (b_2, [(Sl.v nilSl)]), (b_1, [(Sl.v x_11), (VI x_12), (Value.int .u64 x_13)])] →
  ∃ m : Nat, m < n_1 ∧ J_1 m (w64 (t30_1 + 1)) t63_1 x_11 x_12 x_13 h_19)) ∧
  ((!decide (t30_1 = t16_2)) = false →
  eop P (Instr.buildSlice 24 1 #[(0, (Sl.v list10_1))]) h_13 fun rv_9 h_20 => ∃ t62_2 : Sl, rv_9 = (Sl.v t62_2) ∧ Vars h_20 [(b_5, [(Sl.v x_4)]), (b_4, [(Sl.v t16_1)]), (b_3, [(Sl.v nilSl)]), (b_2, [(Sl.v nilSl)]), (b_1, [(Sl.v x_11), (VI x_12), (Value.int .u64 x_13)])] ∧
  eop P (appS 24 24 24 (Sl.v x_4) (Sl.v t62_2)) h_20 fun rv_10 h_21 => ∃ t63_2 : Sl, rv_10 = (Sl.v t63_2) ∧ Vars h_21 [(b_5, [(Sl.v x_4)]), (b_4, [(Sl.v t16_1)]), (b_3, [(Sl.v nilSl)]), (b_2, [(Sl.v nilSl)]), (b_1, [(Sl.v x_11), (VI x_12), (Value.int .u64 x_13)])] ∧
  ∀ (h_22 : Heap), Fr (In [b_5]) h_21 h_22 → Vars h_22 [(b_5, [(Sl.v t63_2)]), (b_4, [(Sl.v t16_1)]), (b_3, [(Sl.v nilSl)]), (b_2, [(Sl.v nilSl)]), (b_1, [(Sl.v x_11), (VI x_12), (Value.int .u64 x_13)])] →
  ∃ m : Nat, m < n_1 ∧ J_1 m (w64 (t30_1 + 1)) t63_2 x_11 x_12 x_13 h_22)) ∧
  ((decide (0 < k11_1)) = false →
  eop P (Instr.buildSlice 24 1 #[(0, (Sl.v list10_1))]) h_13 fun rv_11 h_23 => ∃ t62_3 : Sl, rv_11 = (Sl.v t62_3) ∧ Vars h_23 [(b_5, [(Sl.v x_4)]), (b_4, [(Sl.v t16_1)]), (b_3, [(Sl.v nilSl)]), (b_2, [(Sl.v nilSl)]), (b_1, [(Sl.v x_11), (VI x_12), (Value.int .u64 x_13)])] ∧
  eop P (appS 24 24 24 (Sl.v x_4) (Sl.v t62_3)) h_23 fun rv_12 h_24 => ∃ t63_3 : Sl, rv_12 = (Sl.v t63_3) ∧ Vars h_24 [(b_5, [(Sl.v x_4)]), (b_4, [(Sl.v t16_1)]), (b_3, [(Sl.v nilSl)]), (b_2, [(Sl.v nilSl)]), (b_1, [(Sl.v x_11), (VI x_12), (Value.int .u64 x_13)])] ∧
  ∀ (h_25 : Heap), Fr (In [b_5]) h_24 h_25 → Vars h_25 [(b_5, [(Sl.v t63_3)]), (b_4, [(Sl.v t16_1)]), (b_3, [(Sl.v nilSl)]), (b_2, [(Sl.v nilSl)]), (b_1, [(Sl.v x_11), (VI x_12), (Value.int .u64 x_13)])] →
  ∃ m : Nat, m < n_1 ∧ J_1 m (w64 (t30_1 + 1)) t63_3 x_11 x_12 x_13 h_25)) ∧
  ((decide (t30_1 < (t16_1.n : Int))) = false →
  ∃ J_3 : Sl → Sl → Int → Int → Heap → Prop, (callM P 52 #[(VP b_1 0), (VI 16)] h_11 fun rv_13 h_26 => ∃ x_21 : Sl, ∃ x_22 : Int, ∃ x_23 : Int, ∃ t67_1 : Int, rv_13 = (VI t67_1) ∧ Vars h_26 [(b_5, [(Sl.v x_4)]), (b_4, [(Sl.v t16_1)]), (b_3, [(Sl.v nilSl)]), (b_2, [(Sl.v nilSl)]), (b_1, [(Sl.v x_21), (VI x_22), (Value.int .u64 x_23)])] ∧
  ((decide (t67_1 = 0)) = true →
  eop P (Instr.buildSlice 29 1 #[(0, (Value.int IntKind.i64 0))]) h_26 fun rv_14 h_27 => ∃ t73_1 : Sl, rv_14 = (Sl.v t73_1) ∧ Vars h_27 [(b_5, [(Sl.v x_4)]), (b_4, [(Sl.v t16_1)]), (b_3, [(Sl.v nilSl)]), (b_2, [(Sl.v nilSl)]), (b_1, [(Sl.v x_21), (VI x_22), (Value.int .u64 x_23)])] ∧
  InB x_4 t16_2 ∧
  Writable h_27 (Sl.at x_4 t16_2 1) ∧ Vars (hset h_27 (Sl.at x_4 t16_2 1) (Sl.v t73_1)) [(b_5, [(Sl.v x_4)]), (b_4, [(Sl.v t16_1)]), (b_3, [(Sl.v nilSl)]), (b_2, [(Sl.v nilSl)]), (b_1, [(Sl.v x_21), (VI x_22), (Value.int .u64 x_23)])] ∧
  ∀ h_28 : Heap, h_28 = hset h_27 (Sl.at x_4 t16_2 1) (Sl.v t73_1) → Vars h_28 [(b_5, [(Sl.v x_4)]), (b_4, [(Sl.v t16_1)]), (b_3, [(Sl.v nilSl)]), (b_2, [(Sl.v nilSl)]), (b_1, [(Sl.v x_21), (VI x_22), (Value.int .u64 x_23)])] →
  J_3 x_4 x_21 x_22 x_23 h_28) ∧
  ((decide (t67_1 = 0)) = false →
  ((decide (t67_1 = 1)) = true →
  callM P 52 #[(VP b_1 0), (VI (x_4.n : Int))] h_26 fun rv_15 h_29 => ∃ x_24 : Sl, ∃ x_25 : Int, ∃ x_26 : Int, ∃ t81_1 : Int, rv_15 = (VI t81_1) ∧ Vars h_29 [(b_5, [(Sl.v x_4)]), (b_4, [(Sl.v t16_1)]), (b_3, [(Sl.v nilSl)]), (b_2, [(Sl.v nilSl)]), (b_1, [(Sl.v x_24), (VI x_25), (Value.int .u64 x_26)])] ∧
  InB x_4 t81_1 ∧
  ∃ t89_1 : Sl, hcell h_29 (Sl.at x_4 t81_1 1) = some (Sl.v t89_1) ∧
  eop P (Instr.buildSlice 29 3 #[(0, (Value.int IntKind.i64 (-1))), (1, (Value.int IntKind.i64 4)), (2, (Value.int IntKind.i64 5))]) h_29 fun rv_16 h_30 => ∃ t91_1 : Sl, rv_16 = (Sl.v t91_1) ∧ Vars h_30 [(b_5, [(Sl.v x_4)]), (b_4, [(Sl.v t16_1)]), (b_3, [(Sl.v nilSl)]), (b_2, [(Sl.v nilSl)]), (b_1, [(Sl.v x_24), (VI x_25), (Value.int .u64 x_26)])] ∧
  hcell h_30 (Sl.at x_4 t81_1 1) = some (Sl.v t89_1) ∧
  callM P 53 #[(VP b_1 0), (Sl.v t91_1)] h_30 fun rv_17 h_31 => ∃ x_27 : Sl, ∃ x_28 : Int, ∃ x_29 : Int, ∃ t92_1 : Int, rv_17 = (VI t92_1) ∧ Vars h_31 [(b_5, [(Sl.v x_4)]), (b_4, [(Sl.v t16_1)]), (b_3, [(Sl.v nilSl)]), (b_2, [(Sl.v nilSl)]), (b_1, [(Sl.v x_27), (VI x_28), (Value.int .u64 x_29)])] ∧
  hcell h_31 (Sl.at x_4 t81_1 1) = some (Sl.v t89_1) ∧
  eop P (Instr.buildSlice 29 1 #[(0, (VI t92_1))]) h_31 fun rv_18 h_32 => ∃ t93_1 : Sl, rv_18 = (Sl.v t93_1) ∧ Vars h_32 [(b_5, [(Sl.v x_4)]), (b_4, [(Sl.v t16_1)]), (b_3, [(Sl.v nilSl)]), (b_2, [(Sl.v nilSl)]), (b_1, [(Sl.v x_27), (VI x_28), (Value.int .u64 x_29)])] ∧
  hcell h_32 (Sl.at x_4 t81_1 1) = some (Sl.v t89_1) ∧
  eop P (appS 29 29 29 (Sl.v t89_1) (Sl.v t93_1)) h_32 fun rv_19 h_33 => ∃ t94_1 : Sl, rv_19 = (Sl.v t94_1) ∧ Vars h_33 [(b_5, [(Sl.v x_4)]), (b_4, [(Sl.v t16_1)]), (b_3, [(Sl.v nilSl)]), (b_2, [(Sl.v nilSl)]), (b_1, [(Sl.v x_27), (VI x_28), (Value.int .u64 x_29)])] ∧
  InB x_4 t81_1 ∧
  Writable h_33 (Sl.at x_4 t81_1 1) ∧ Vars (hset h_33 (Sl.at x_4 t81_1 1) (Sl.v t94_1)) [(b_5, [(Sl.v x_4)]), (b_4, [(Sl.v t16_1)]), (b_3, [(Sl.v nilSl)]), (b_2, [(Sl.v nilSl)]), (b_1, [(Sl.v x_27), (VI x_28), (Value.int .u64 x_29)])] ∧
  ∀ h_34 : Heap, h_34 = hset h_33 (Sl.at x_4 t81_1 1) (Sl.v t94_1) → Vars h_34 [(b_5, [(Sl.v x_4)]), (b_4, [(Sl.v t16_1)]), (b_3, [(Sl.v nilSl)]), (b_2, [(Sl.v nilSl)]), (b_1, [(Sl.v x_27), (VI x_28), (Value.int .u64 x_29)])] →
  J_3 x_4 x_27 x_28 x_29 h_34) ∧
  ((decide (t67_1 = 1)) = false →
  ((decide (t67_1 = 2)) = true →
  callM P 52 #[(VP b_1 0), (VI (x_4.n : Int))] h_26 fun rv_20 h_35 => ∃ x_30 : Sl, ∃ x_31 : Int, ∃ x_32 : Int, ∃ t102_1 : Int, rv_20 = (VI t102_1) ∧ Vars h_35 [(b_5, [(Sl.v x_4)]), (b_4, [(Sl.v t16_1)]), (b_3, [(Sl.v nilSl)]), (b_2, [(Sl.v nilSl)]), (b_1, [(Sl.v x_30), (VI x_31), (Value.int .u64 x_32)])] ∧
  callM P 52 #[(VP b_1 0), (VI 2)] h_35 fun rv_21 h_36 => ∃ x_33 : Sl, ∃ x_34 : Int, ∃ x_35 : Int, ∃ t107_1 : Int, rv_21 = (VI t107_1) ∧ Vars h_36 [(b_5, [(Sl.v x_4)]), (b_4, [(Sl.v t16_1)]), (b_3, [(Sl.v nilSl)]), (b_2, [(Sl.v nilSl)]), (b_1, [(Sl.v x_33), (VI x_34), (Value.int .u64 x_35)])] ∧
  eop P (Instr.makeSlice 29 (VI (w64 (12 + t107_1))) (VI (w64 (12 + t107_1)))) h_36 fun rv_22 h_37 => ∃ t109_1 : Sl, rv_22 = (Sl.v t109_1) ∧ Vars h_37 [(b_5, [(Sl.v x_4)]), (b_4, [(Sl.v t16_1)]), (b_3, [(Sl.v nilSl)]), (b_2, [(Sl.v nilSl)]), (b_1, [(Sl.v x_33), (VI x_34), (Value.int .u64 x_35)])] ∧
  InB x_4 t102_1 ∧
  Writable h_37 (Sl.at x_4 t102_1 1) ∧ Vars (hset h_37 (Sl.at x_4 t102_1 1) (Sl.v t109_1)) [(b_5, [(Sl.v x_4)]), (b_4, [(Sl.v t16_1)]), (b_3, [(Sl.v nilSl)]), (b_2, [(Sl.v nilSl)]), (b_1, [(Sl.v x_33), (VI x_34), (Value.int .u64 x_35)])] ∧
  ∀ h_38 : Heap, h_38 = hset h_37 (Sl.at x_4 t102_1 1) (Sl.v t109_1) → Vars h_38 [(b_5, [(Sl.v x_4)]), (b_4, [(Sl.v t16_1)]), (b_3, [(Sl.v nilSl)]), (b_2, [(Sl.v nilSl)]), (b_1, [(Sl.v x_33), (VI x_34), (Value.int .u64 x_35)])] →
  J_3 x_4 x_33 x_34 x_35 h_38) ∧
  ((decide (t67_1 = 2)) = false →
  ((decide (t67_1 = 3)) = true →
  pop P (Instr.sliceAt 24 (Sl.v x_4) (some (Value.int IntKind.i64 1)) none none) fun rv_23 => ∃ t115_1 : Sl, rv_23 = (Sl.v t115_1) ∧ 
  ∀ (h_39 : Heap), Fr (In [b_5]) h_26 h_39 → Vars h_39 [(b_5, [(Sl.v t115_1)]), (b_4, [(Sl.v t16_1)]), (b_3, [(Sl.v nilSl)]), (b_2, [(Sl.v nilSl)]), (b_1, [(Sl.v x_21), (VI x_22), (Value.int .u64 x_23)])] →
  J_3 t115_1 x_21 x_22 x_23 h_39) ∧
  ((decide (t67_1 = 3)) = false →
  J_3 x_4 x_21 x_22 x_23 h_26))))) ∧
  ∀ (x_17 : Sl) (x_18 : Sl) (x_19 : Int) (x_20 : Int) (h_40 : Heap), J_3 x_17 x_18 x_19 x_20 h_40 → Vars h_40 [(b_5, [(Sl.v x_17)]), (b_4, [(Sl.v t16_1)]), (b_3, [(Sl.v nilSl)]), (b_2, [(Sl.v nilSl)]), (b_1, [(Sl.v x_18), (VI x_19), (Value.int .u64 x_20)])] →
  ∀ (h_41 : Heap), Fr (In [b_2]) h_40 h_41 → Vars h_41 [(b_5, [(Sl.v x_17)]), (b_4, [(Sl.v t16_1)]), (b_3, [(Sl.v nilSl)]), (b_2, [(Sl.v t16_1)]), (b_1, [(Sl.v x_18), (VI x_19), (Value.int .u64 x_20)])] →
  ∀ (h_42 : Heap), Fr (In [b_3]) h_41 h_42 → Vars h_42 [(b_5, [(Sl.v x_17)]), (b_4, [(Sl.v t16_1)]), (b_3, [(Sl.v x_17)]), (b_2, [(Sl.v t16_1)]), (b_1, [(Sl.v x_18), (VI x_19), (Value.int .u64 x_20)])] →
  K (Value.tuple #[(Value.agg #[(Sl.v t16_1)]), (VI t16_2), (Value.agg #[(Sl.v x_17)])]) h_42))
theorem v51 (b_1 : Nat) (c0_1 : Sl) (c0_2 : Int) (c0_3 : Int) (h : Heap) (K : Value → Heap → Prop) (hL : Vars h [(b_1, [(Sl.v c0_1), (VI c0_2), (Value.int .u64 c0_3)])]) (H : u51 Tryz.prog b_1 c0_1 c0_2 c0_3 h K) : callM Tryz.prog 51 #[(VP b_1 0)] h K := by
  refine c51 (VP b_1 0) h K ?_
  unfold u51 at H
  unfold t51
  refine eop_alloc 26 zer26 rfl hL (fun b_2 h_1 hb_1 hf_1 hL_1 => ?_)
  refine eop_alloc 28 zer28 rfl hL_1 (fun b_3 h_2 hb_2 hf_2 hL_2 => ?_)
  have H := H b_2 b_3 h_2 (Nat.le_trans (Fr.size (Fr.r (In []) _)) hb_1) (Nat.le_trans (Fr.size (Fr.no' (Fr.r (In []) _) hf_1)) hb_2) (Fr.no' (Fr.no' (Fr.r (In []) _) hf_1) hf_2) hL_2
  refine H.mono fun rv_1 h_3 H => ?_
  obtain ⟨x_1, x_2, x_3, t16_1, t16_2, rfl, hL_3, H⟩ := H
  refine pop_ext (v := (Value.agg #[(Sl.v t16_1)])) rfl ?_
  refine pop_ext (v := (VI t16_2)) rfl ?_
  refine eop_alloc 26 zer26 rfl hL_3 (fun b_4 h_4 hb_3 hf_3 hL_4 => ?_)
  refine uop_loc siz26 hL_4 0 rfl 0 [(Sl.v t16_1)] rfl rfl rfl (Nat.le_of_ble_eq_true rfl) (L' := [(b_4, [(Sl.v t16_1)]), (b_3, [(Sl.v nilSl)]), (b_2, [(Sl.v nilSl)]), (b_1, [(Sl.v x_1), (VI x_2), (Value.int .u64 x_3)])]) rfl (fun h_5 hf_4 hL_5 => ?_)
  refine pop.mk' (v := (Value.agg #[(Sl.v nilSl)])) (fun w => by kernel_rfl) ?_
  refine eop_alloc 28 zer28 rfl hL_5 (fun b_5 h_6 hb_4 hf_5 hL_6 => ?_)
  refine uop_loc siz28 hL_6 0 rfl 0 [(Sl.v nilSl)] rfl rfl rfl (Nat.le_of_ble_eq_true rfl) (L' := [(b_5, [(Sl.v nilSl)]), (b_4, [(Sl.v t16_1)]), (b_3, [(Sl.v nilSl)]), (b_2, [(Sl.v nilSl)]), (b_1, [(Sl.v x_1), (VI x_2), (Value.int .u64 x_3)])]) rfl (fun h_7 hf_6 hL_7 => ?_)
  refine rop_locA agg26 hL_7 1 rfl 0 (vs := [(Sl.v t16_1)]) rfl rfl ?_
  have H := H b_4 b_5 h_7 (Nat.le_trans (Fr.size (Fr.r (In []) _)) hb_3) (Nat.le_trans (Fr.size (Fr.new (Fr.no' (Fr.r (In []) _) hf_3) (Nat.le_trans (Fr.size (Fr.r (In []) _)) hb_3) hf_4)) hb_4) (Fr.new (Fr.no' (Fr.new (Fr.no' (Fr.r (In []) _) hf_3) (Nat.le_trans (Fr.size (Fr.r (In []) _)) hb_3) hf_4) hf_5) (Nat.le_trans (Fr.size (Fr.new (Fr.no' (Fr.r (In []) _) hf_3) (Nat.le_trans (Fr.size (Fr.r (In []) _)) hb_3) hf_4)) hb_4) hf_6) hL_7
  refine H.mono fun rv_2 h_8 H => ?_
  obtain ⟨t22_1, rfl, hL_8, H⟩ := H
  refine pop_not t22_1 ?_
  refine condM_b (fun hb_5 => ?_) (fun hb_5 => ?_)
  ·have H := H.1 hb_5
   refine rop_locA agg26 hL_8 1 rfl 0 (vs := [(Sl.v t16_1)]) rfl rfl ?_
   refine rop_locA agg28 hL_8 0 rfl 0 (vs := [(Sl.v nilSl)]) rfl rfl ?_
   refine uop_loc siz26 hL_8 3 rfl 0 [(Sl.v t16_1)] rfl rfl rfl (Nat.le_of_ble_eq_true rfl) (L' := [(b_5, [(Sl.v nilSl)]), (b_4, [(Sl.v t16_1)]), (b_3, [(Sl.v nilSl)]), (b_2, [(Sl.v t16_1)]), (b_1, [(Sl.v x_1), (VI x_2), (Value.int .u64 x_3)])]) rfl (fun h_9 hf_7 hL_9 => ?_)
   have H := H  h_9  (Fr.old (Fr.r (In []) _) hf_7) hL_9
   refine ⟨?_, ?_⟩
   ·exact still_locA agg28 hL_9 0 rfl 0 (vs := [(Sl.v nilSl)]) rfl rfl
   refine uop_loc siz28 hL_9 2 rfl 0 [(Sl.v nilSl)] rfl rfl rfl (Nat.le_of_ble_eq_true rfl) (L' := [(b_5, [(Sl.v nilSl)]), (b_4, [(Sl.v t16_1)]), (b_3, [(Sl.v nilSl)]), (b_2, [(Sl.v t16_1)]), (b_1, [(Sl.v x_1), (VI x_2), (Value.int .u64 x_3)])]) rfl (fun h_10 hf_8 hL_10 => ?_)
   refine rop_locA agg26 hL_10 3 rfl 0 (vs := [(Sl.v t16_1)]) rfl rfl ?_
   refine rop_locA agg28 hL_10 2 rfl 0 (vs := [(Sl.v nilSl)]) rfl rfl ?_
   have H := H  h_10  (Fr.old (Fr.r (In []) _) hf_8) hL_10
   exact H
  have H := H.2 hb_5
  refine pop_field 0 fld26_0 b_4 0 ?_
  refine rop_loc one24 hL_8 1 rfl 0 (v := (Sl.v t16_1)) rfl ?_
  refine pop_len t16_1 _ _ sli24 ?_
  obtain ⟨J_1, ⟨n_4, h0_2⟩, HB_3⟩ := H
  refine loop_intro (J := fun (n : Nat) (vs : List Value) (h' : Heap) => ∃ t30_1 : Int, ∃ x_4 : Sl, ∃ x_5 : Sl, ∃ x_6 : Int, ∃ x_7 : Int, vs = [(VI t30_1)] ∧ J_1 n t30_1 x_4 x_5 x_6 x_7 h' ∧ Vars h' [(b_5, [(Sl.v x_4)]), (b_4, [(Sl.v t16_1)]), (b_3, [(Sl.v nilSl)]), (b_2, [(Sl.v nilSl)]), (b_1, [(Sl.v x_5), (VI x_6), (Value.int .u64 x_7)])]) n_4 ⟨0, nilSl, x_1, x_2, x_3, rfl, h0_2, hL_8⟩ ?_
  intro I_2 mu_2 hI_2 junk_1 tv_3 h_11 hi_1
  obtain ⟨n_1, ⟨t30_1, x_4, x_5, x_6, x_7, hv, hJ_1, hL_11⟩, hn_1⟩ := hI_2 _ _ hi_1
  cases hv
  have H := HB_3 n_1 t30_1 x_4 x_5 x_6 x_7 h_11 hJ_1 hL_11
  refine pop_lss .i64 t30_1 (t16_1.n : Int) ?_
  refine condM_b (fun hb_6 => ?_) (fun hb_6 => ?_)
  ·have H := H.1 hb_6
   obtain ⟨hi_2, H⟩ := H
   refine pop_index sli24 siz29 .i64 t16_1 t30_1 hi_2 ?_
   obtain ⟨t34_1, hc_1, H⟩ := H
   refine rop_one one29 (Sl.v t34_1) hc_1 ?_
   refine H.mono fun rv_3 h_12 H => ?_
   obtain ⟨x_8, x_9, x_10, t36_1, rfl, hL_12, H⟩ := H
   refine pop_add .i64 3 t36_1 ?_
   obtain ⟨J_2, ⟨n_3, h0_1⟩, HB_1⟩ := H
   refine loop_intro (J := fun (n : Nat) (vs : List Value) (h' : Heap) => ∃ list10_1 : Sl, ∃ k11_1 : Int, ∃ x_11 : Sl, ∃ x_12 : Int, ∃ x_13 : Int, vs = [(Sl.v list10_1), (VI k11_1)] ∧ J_2 n list10_1 k11_1 x_11 x_12 x_13 h' ∧ Vars h' [(b_5, [(Sl.v x_4)]), (b_4, [(Sl.v t16_1)]), (b_3, [(Sl.v nilSl)]), (b_2, [(Sl.v nilSl)]), (b_1, [(Sl.v x_11), (VI x_12), (Value.int .u64 x_13)])]) n_3 ⟨nilSl, (w64 (3 + t36_1)), x_8, x_9, x_10, rfl, h0_1, hL_12⟩ ?_
   intro I_1 mu_1 hI_1 junk_2 tv_1 tv_2 h_13 hi_3
   obtain ⟨n_2, ⟨list10_1, k11_1, x_11, x_12, x_13, hv, hJ_2, hL_13⟩, hn_2⟩ := hI_1 _ _ hi_3
   cases hv
   have H := HB_1 n_2 list10_1 k11_1 x_11 x_12 x_13 h_13 hJ_2 hL_13
   refine pop_gtr .i64 k11_1 0 ?_
   refine guardM_st (fun hb_7 => ?_) (fun hb_7 => ?_)
   rotate_left
   ·have H := H.2 hb_7
    refine guardM_n' hb_7 (by decide) ?_
    refine guardM_n' hb_7 (by decide) ?_
    refine pop_pickf' hb_7 ?_
    refine guardM_n (by decide) ?_
    refine guardM_n (by decide) ?_
    refine guardM_n (by decide) ?_
    refine pop_pickf _ _ ?_
    refine condM_f ?_
    refine pop_field 0 fld28_0 b_5 0 ?_
    refine rop_loc one24 hL_13 0 rfl 0 (v := (Sl.v x_4)) rfl ?_
    refine H.mono fun rv_11 h_23 H => ?_
    obtain ⟨t62_3, rfl, hL_23, H⟩ := H
    refine H.mono fun rv_12 h_24 H => ?_
    obtain ⟨t63_3, rfl, hL_24, H⟩ := H
    refine pop_field 0 fld28_0 b_5 0 ?_
    refine uop_loc siz24 hL_24 0 rfl 0 [(Sl.v t63_3)] rfl rfl rfl (Nat.le_of_ble_eq_true rfl) (L' := [(b_5, [(Sl.v t63_3)]), (b_4, [(Sl.v t16_1)]), (b_3, [(Sl.v nilSl)]), (b_2, [(Sl.v nilSl)]), (b_1, [(Sl.v x_11), (VI x_12), (Value.int .u64 x_13)])]) rfl (fun h_25 hf_11 hL_25 => ?_)
    refine pop_add .i64 t30_1 1 ?_
    have H := H  h_25  (Fr.old (Fr.r (In []) _) hf_11) hL_25
    obtain ⟨m_4, hm_4, H⟩ := H
    exact hn_1 _ _ ⟨m_4, hm_4, (w64 (t30_1 + 1)), t63_3, x_11, x_12, x_13, rfl, H, hL_25⟩
   have H := H.1 hb_7
   refine guardM_y' hb_7 ?_
   refine guardM_y' hb_7 ?_
   refine pop_ine .i64 _ _ t30_1 t16_2 ?_
   refine pop_pickt' hb_7 ?_
   refine guardM_st (fun hb_8 => ?_) (fun hb_8 => ?_)
   rotate_left
   ·have H := H.2 hb_8
    refine guardM_n' hb_8 (by decide) ?_
    refine guardM_n' hb_8 (by decide) ?_
    refine pop_pickf' hb_8 ?_
    refine condM_f ?_
    refine pop_field 0 fld28_0 b_5 0 ?_
    refine rop_loc one24 hL_13 0 rfl 0 (v := (Sl.v x_4)) rfl ?_
    refine H.mono fun rv_9 h_20 H => ?_
    obtain ⟨t62_2, rfl, hL_20, H⟩ := H
    refine H.mono fun rv_10 h_21 H => ?_
    obtain ⟨t63_2, rfl, hL_21, H⟩ := H
    refine pop_field 0 fld28_0 b_5 0 ?_
    refine uop_loc siz24 hL_21 0 rfl 0 [(Sl.v t63_2)] rfl rfl rfl (Nat.le_of_ble_eq_true rfl) (L' := [(b_5, [(Sl.v t63_2)]), (b_4, [(Sl.v t16_1)]), (b_3, [(Sl.v nilSl)]), (b_2, [(Sl.v nilSl)]), (b_1, [(Sl.v x_11), (VI x_12), (Value.int .u64 x_13)])]) rfl (fun h_22 hf_10 hL_22 => ?_)
    refine pop_add .i64 t30_1 1 ?_
    have H := H  h_22  (Fr.old (Fr.r (In []) _) hf_10) hL_22
    obtain ⟨m_3, hm_3, H⟩ := H
    exact hn_1 _ _ ⟨m_3, hm_3, (w64 (t30_1 + 1)), t63_2, x_11, x_12, x_13, rfl, H, hL_22⟩
   have H := H.1 hb_8
   refine guardM_y' hb_8 ?_
   refine pop_len t34_1 _ _ sli29 ?_
   refine guardM_y' hb_8 ?_
   refine pop_gtr .i64 (t34_1.n : Int) 0 ?_
   refine pop_pickt' hb_8 ?_
   refine condM_b (fun hb_9 => ?_) (fun hb_9 => ?_)
   ·have H := H.1 hb_9
    refine pop_len t34_1 _ _ sli29 ?_
    refine H.mono fun rv_4 h_14 H => ?_
    obtain ⟨x_14, x_15, x_16, t56_1, rfl, hL_14, H⟩ := H
    refine H.mono fun rv_5 h_15 H => ?_
    obtain ⟨t57_1, rfl, hL_15, H⟩ := H
    refine H.mono fun rv_6 h_16 H => ?_
    obtain ⟨t58_1, rfl, hL_16, H⟩ := H
    refine pop_sub .i64 k11_1 1 ?_
    obtain ⟨m_1, hm_1, H⟩ := H
    exact hn_2 _ _ ⟨m_1, hm_1, t58_1, (w64 (k11_1 - 1)), x_14, x_15, x_16, rfl, H, hL_16⟩
   have H := H.2 hb_9
   refine pop_field 0 fld28_0 b_5 0 ?_
   refine rop_loc one24 hL_13 0 rfl 0 (v := (Sl.v x_4)) rfl ?_
   refine H.mono fun rv_7 h_17 H => ?_
   obtain ⟨t62_1, rfl, hL_17, H⟩ := H
   refine H.mono fun rv_8 h_18 H => ?_
   obtain ⟨t63_1, rfl, hL_18, H⟩ := H
   refine pop_field 0 fld28_0 b_5 0 ?_
   refine uop_loc siz24 hL_18 0 rfl 0 [(Sl.v t63_1)] rfl rfl rfl (Nat.le_of_ble_eq_true rfl) (L' := [(b_5, [(Sl.v t63_1)]), (b_4, [(Sl.v t16_1)]), (b_3, [(Sl.v nilSl)]), (b_2, [(Sl.v nilSl)]), (b_1, [(Sl.v x_11), (VI x_12), (Value.int .u64 x_13)])]) rfl (fun h_19 hf_9 hL_19 => ?_)
   refine pop_add .i64 t30_1 1 ?_
   have H := H  h_19  (Fr.old (Fr.r (In []) _) hf_9) hL_19
   obtain ⟨m_2, hm_2, H⟩ := H
   exact hn_1 _ _ ⟨m_2, hm_2, (w64 (t30_1 + 1)), t63_1, x_11, x_12, x_13, rfl, H, hL_19⟩
  have H := H.2 hb_6
  obtain ⟨J_3, H, HB_2⟩ := H
  refine ⟨fun (vs : List Value) (h' : Heap) => ∃ x_17 : Sl, ∃ x_18 : Sl, ∃ x_19 : Int, ∃ x_20 : Int, vs = [] ∧ J_3 x_17 x_18 x_19 x_20 h' ∧ Vars h' [(b_5, [(Sl.v x_17)]), (b_4, [(Sl.v t16_1)]), (b_3, [(Sl.v nilSl)]), (b_2, [(Sl.v nilSl)]), (b_1, [(Sl.v x_18), (VI x_19), (Value.int .u64 x_20)])], ?_, ?_⟩
  ·refine H.mono fun rv_13 h_26 H => ?_
   obtain ⟨x_21, x_22, x_23, t67_1, rfl, hL_26, H⟩ := H
   refine pop_ieq .i64 _ _ t67_1 0 ?_
   refine condM_b (fun hb_10 => ?_) (fun hb_10 => ?_)
   ·have H := H.1 hb_10
    refine pop_field 0 fld28_0 b_5 0 ?_
    refine rop_loc one24 hL_26 0 rfl 0 (v := (Sl.v x_4)) rfl ?_
    refine H.mono fun rv_14 h_27 H => ?_
    obtain ⟨t73_1, rfl, hL_27, H⟩ := H
    obtain ⟨hi_4, H⟩ := H
    refine pop_index sli24 siz29 .i64 x_4 t16_2 hi_4 ?_
    obtain ⟨hw_1, hL_28, H⟩ := H
    refine uop_cell (v := (Sl.v t73_1)) siz29 hw_1 rfl (fun h_28 he_1 => ?_)
    rw [← he_1] at hL_28
    have H := H h_28 he_1 hL_28
    exact ⟨x_4, x_21, x_22, x_23, rfl, H, hL_28⟩
   have H := H.2 hb_10
   refine pop_ieq .i64 _ _ t67_1 1 ?_
   refine condM_b (fun hb_11 => ?_) (fun hb_11 => ?_)
   rotate_left
   ·have H := H.2 hb_11
    refine pop_ieq .i64 _ _ t67_1 2 ?_
    refine condM_b (fun hb_12 => ?_) (fun hb_12 => ?_)
    rotate_left
    ·have H := H.2 hb_12
     refine pop_ieq .i64 _ _ t67_1 3 ?_
     refine condM_b (fun hb_13 => ?_) (fun hb_13 => ?_)
     rotate_left
     ·have H := H.2 hb_13
      exact ⟨x_4, x_21, x_22, x_23, rfl, H, hL_26⟩
     have H := H.1 hb_13
     refine pop_field 0 fld28_0 b_5 0 ?_
     refine rop_loc one24 hL_26 0 rfl 0 (v := (Sl.v x_4)) rfl ?_
     refine H.mono fun rv_23 H => ?_
     obtain ⟨t115_1, rfl, H⟩ := H
     refine pop_field 0 fld28_0 b_5 0 ?_
     refine uop_loc siz24 hL_26 0 rfl 0 [(Sl.v t115_1)] rfl rfl rfl (Nat.le_of_ble_eq_true rfl) (L' := [(b_5, [(Sl.v t115_1)]), (b_4, [(Sl.v t16_1)]), (b_3, [(Sl.v nilSl)]), (b_2, [(Sl.v nilSl)]), (b_1, [(Sl.v x_21), (VI x_22), (Value.int .u64 x_23)])]) rfl (fun h_39 hf_12 hL_39 => ?_)
     have H := H  h_39  (Fr.old (Fr.r (In []) _) hf_12) hL_39
     exact ⟨t115_1, x_21, x_22, x_23, rfl, H, hL_39⟩
    have H := H.1 hb_12
    refine pop_field 0 fld28_0 b_5 0 ?_
    refine rop_loc one24 hL_26 0 rfl 0 (v := (Sl.v x_4)) rfl ?_
    refine pop_len x_4 _ _ sli24 ?_
    refine H.mono fun rv_20 h_35 H => ?_
    obtain ⟨x_30, x_31, x_32, t102_1, rfl, hL_35, H⟩ := H
    refine pop_field 0 fld28_0 b_5 0 ?_
    refine rop_loc one24 hL_35 0 rfl 0 (v := (Sl.v x_4)) rfl ?_
    refine H.mono fun rv_21 h_36 H => ?_
    obtain ⟨x_33, x_34, x_35, t107_1, rfl, hL_36, H⟩ := H
    refine ⟨?_, ?_⟩
    ·exact still_loc one24 hL_36 0 rfl 0 (v := (Sl.v x_4)) rfl
    refine pop_add .i64 12 t107_1 ?_
    refine H.mono fun rv_22 h_37 H => ?_
    obtain ⟨t109_1, rfl, hL_37, H⟩ := H
    refine ⟨?_, ?_⟩
    ·exact still_loc one24 hL_37 0 rfl 0 (v := (Sl.v x_4)) rfl
    obtain ⟨hi_7, H⟩ := H
    refine pop_index sli24 siz29 .i64 x_4 t102_1 hi_7 ?_
    obtain ⟨hw_3, hL_38, H⟩ := H
    refine uop_cell (v := (Sl.v t109_1)) siz29 hw_3 rfl (fun h_38 he_3 => ?_)
    rw [← he_3] at hL_38
    have H := H h_38 he_3 hL_38
    exact ⟨x_4, x_33, x_34, x_35, rfl, H, hL_38⟩
   have H := H.1 hb_11
   refine pop_field 0 fld28_0 b_5 0 ?_
   refine rop_loc one24 hL_26 0 rfl 0 (v := (Sl.v x_4)) rfl ?_
   refine pop_len x_4 _ _ sli24 ?_
   refine H.mono fun rv_15 h_29 H => ?_
   obtain ⟨x_24, x_25, x_26, t81_1, rfl, hL_29, H⟩ := H
   refine pop_field 0 fld28_0 b_5 0 ?_
   refine rop_loc one24 hL_29 0 rfl 0 (v := (Sl.v x_4)) rfl ?_
   refine pop_field 0 fld28_0 b_5 0 ?_
   refine rop_loc one24 hL_29 0 rfl 0 (v := (Sl.v x_4)) rfl ?_
   obtain ⟨hi_5, H⟩ := H
   refine pop_index sli24 siz29 .i64 x_4 t81_1 hi_5 ?_
   obtain ⟨t89_1, hc_5, H⟩ := H
   refine rop_one one29 (Sl.v t89_1) hc_5 ?_
   refine H.mono fun rv_16 h_30 H => ?_
   obtain ⟨t91_1, rfl, hL_30, H⟩ := H
   refine ⟨?_, ?_⟩
   ·exact still_one one29 H.1
   obtain ⟨hc_2, H⟩ := H
   refine ⟨?_, ?_⟩
   ·exact still_loc one24 hL_30 0 rfl 0 (v := (Sl.v x_4)) rfl
   refine ⟨?_, ?_⟩
   ·exact still_loc one24 hL_30 0 rfl 0 (v := (Sl.v x_4)) rfl
   refine H.mono fun rv_17 h_31 H => ?_
   obtain ⟨x_27, x_28, x_29, t92_1, rfl, hL_31, H⟩ := H
   refine ⟨?_, ?_⟩
   ·exact still_one one29 H.1
   obtain ⟨hc_3, H⟩ := H
   refine ⟨?_, ?_⟩
   ·exact still_loc one24 hL_31 0 rfl 0 (v := (Sl.v x_4)) rfl
   refine ⟨?_, ?_⟩
   ·exact still_loc one24 hL_31 0 rfl 0 (v := (Sl.v x_4)) rfl
   refine H.mono fun rv_18 h_32 H => ?_
   obtain ⟨t93_1, rfl, hL_32, H⟩ := H
   refine ⟨?_, ?_⟩
   ·exact still_one one29 H.1
   obtain ⟨hc_4, H⟩ := H
   refine ⟨?_, ?_⟩
   ·exact still_loc one24 hL_32 0 rfl 0 (v := (Sl.v x_4)) rfl
   refine ⟨?_, ?_⟩
   ·exact still_loc one24 hL_32 0 rfl 0 (v := (Sl.v x_4)) rfl
   refine H.mono fun rv_19 h_33 H => ?_
   obtain ⟨t94_1, rfl, hL_33, H⟩ := H
   refine ⟨?_, ?_⟩
   ·exact still_loc one24 hL_33 0 rfl 0 (v := (Sl.v x_4)) rfl
   refine ⟨?_, ?_⟩
   ·exact still_loc one24 hL_33 0 rfl 0 (v := (Sl.v x_4)) rfl
   obtain ⟨hi_6, H⟩ := H
   refine pop_index sli24 siz29 .i64 x_4 t81_1 hi_6 ?_
   obtain ⟨hw_2, hL_34, H⟩ := H
   refine uop_cell (v := (Sl.v t94_1)) siz29 hw_2 rfl (fun h_34 he_2 => ?_)
   rw [← he_2] at hL_34
   have H := H h_34 he_2 hL_34
   exact ⟨x_4, x_27, x_28, x_29, rfl, H, hL_34⟩
  intro junk_3  h_40
  rintro ⟨x_17, x_18, x_19, x_20, hv, hJ_3, hL_40⟩
  have H := HB_2 x_17 x_18 x_19 x_20 h_40 hJ_3 hL_40
  refine rop_locA agg26 hL_40 1 rfl 0 (vs := [(Sl.v t16_1)]) rfl rfl ?_
  refine rop_locA agg28 hL_40 0 rfl 0 (vs := [(Sl.v x_17)]) rfl rfl ?_
  refine uop_loc siz26 hL_40 3 rfl 0 [(Sl.v t16_1)] rfl rfl rfl (Nat.le_of_ble_eq_true rfl) (L' := [(b_5, [(Sl.v x_17)]), (b_4, [(Sl.v t16_1)]), (b_3, [(Sl.v nilSl)]), (b_2, [(Sl.v t16_1)]), (b_1, [(Sl.v x_18), (VI x_19), (Value.int .u64 x_20)])]) rfl (fun h_41 hf_13 hL_41 => ?_)
  have H := H  h_41  (Fr.old (Fr.r (In []) _) hf_13) hL_41
  refine ⟨?_, ?_⟩
  ·exact still_locA agg28 hL_41 0 rfl 0 (vs := [(Sl.v x_17)]) rfl rfl
  refine uop_loc siz28 hL_41 2 rfl 0 [(Sl.v x_17)] rfl rfl rfl (Nat.le_of_ble_eq_true rfl) (L' := [(b_5, [(Sl.v x_17)]), (b_4, [(Sl.v t16_1)]), (b_3, [(Sl.v x_17)]), (b_2, [(Sl.v t16_1)]), (b_1, [(Sl.v x_18), (VI x_19), (Value.int .u64 x_20)])]) rfl (fun h_42 hf_14 hL_42 => ?_)
  refine rop_locA agg26 hL_42 3 rfl 0 (vs := [(Sl.v t16_1)]) rfl rfl ?_
  refine rop_locA agg28 hL_42 2 rfl 0 (vs := [(Sl.v x_17)]) rfl rfl ?_
  have H := H  h_42  (Fr.old (Fr.r (In []) _) hf_14) hL_42
  exact H
def u52 (P : Program) (b_1 : Nat) (c0_1 : Sl) (c0_2 : Int) (c0_3 : Int) (n1_1 : Int) (h : Heap) (K : Value → Heap → Prop) : Prop :=
  ((decide (n1_1 ≤ 1)) = true →
  K (VI 0) h) ∧
  ((decide (n1_1 ≤ 1)) = false →
  callM P 106 #[(VP b_1 0)] h fun rv_1 h_1 => ∃ x_1 : Sl, ∃ x_2 : Int, ∃ x_3 : Int, ∃ t9_1 : Int, rv_1 = (VI t9_1) ∧ Vars h_1 [(b_1, [(Sl.v x_1), (VI x_2), (Value.int .u64 x_3)])] ∧
  ∃ J_1 : Int → Sl → Int → Int → Heap → Prop, (((decide (200 < n1_1)) = true →
  callM P 106 #[(VP b_1 0)] h_1 fun rv_2 h_2 => ∃ x_8 : Sl, ∃ x_9 : Int, ∃ x_10 : Int, ∃ t15_1 : Int, rv_2 = (VI t15_1) ∧ Vars h_2 [(b_1, [(Sl.v x_8), (VI x_9), (Value.int .u64 x_10)])] ∧
  J_1 (w64 ((w64 (t9_1 * 256)) + t15_1)) x_8 x_9 x_10 h_2) ∧
  ((decide (200 < n1_1)) = false →
  J_1 t9_1 x_1 x_2 x_3 h_1)) ∧
  ∀ (x_4 : Int) (x_5 : Sl) (x_6 : Int) (x_7 : Int) (h_3 : Heap), J_1 x_4 x_5 x_6 x_7 h_3 → Vars h_3 [(b_1, [(Sl.v x_5), (VI x_6), (Value.int .u64 x_7)])] →
  n1_1 ≠ 0 ∧
  K (VI (Int.tmod x_4 n1_1)) h_3)
theorem v52 (b_1 : Nat) (c0_1 : Sl) (c0_2 : Int) (c0_3 : Int) (n1_1 : Int) (h : Heap) (K : Value → Heap → Prop) (hL : Vars h [(b_1, [(Sl.v c0_1), (VI c0_2), (Value.int .u64 c0_3)])]) (H : u52 Tryz.prog b_1 c0_1 c0_2 c0_3 n1_1 h K) : callM Tryz.prog 52 #[(VP b_1 0), (VI n1_1)] h K := by
  refine c52 (VP b_1 0) (VI n1_1) h K ?_
  unfold u52 at H
  unfold t52
  refine pop_leq .i64 n1_1 1 ?_
  refine condM_b (fun hb_1 => ?_) (fun hb_1 => ?_)
  ·have H := H.1 hb_1
   exact H
  have H := H.2 hb_1
  refine H.mono fun rv_1 h_1 H => ?_
  obtain ⟨x_1, x_2, x_3, t9_1, rfl, hL_1, H⟩ := H
  obtain ⟨J_1, H, HB_1⟩ := H
  refine ⟨fun (vs : List Value) (h' : Heap) => ∃ x_4 : Int, ∃ x_5 : Sl, ∃ x_6 : Int, ∃ x_7 : Int, vs = [(VI x_4)] ∧ J_1 x_4 x_5 x_6 x_7 h' ∧ Vars h' [(b_1, [(Sl.v x_5), (VI x_6), (Value.int .u64 x_7)])], ?_, ?_⟩
  ·refine pop_gtr .i64 n1_1 200 ?_
   refine condM_b (fun hb_2 => ?_) (fun hb_2 => ?_)
   rotate_left
   ·have H := H.2 hb_2
    exact ⟨t9_1, x_1, x_2, x_3, rfl, H, hL_1⟩
   have H := H.1 hb_2
   refine pop_mul .i64 t9_1 256 ?_
   refine H.mono fun rv_2 h_2 H => ?_
   obtain ⟨x_8, x_9, x_10, t15_1, rfl, hL_2, H⟩ := H
   refine pop_add .i64 (w64 (t9_1 * 256)) t15_1 ?_
   exact ⟨(w64 ((w64 (t9_1 * 256)) + t15_1)), x_8, x_9, x_10, rfl, H, hL_2⟩
  intro junk_1 tv_1 h_3
  rintro ⟨x_4, x_5, x_6, x_7, hv, hJ_1, hL_3⟩
  cases hv
  have H := HB_1 x_4 x_5 x_6 x_7 h_3 hJ_1 hL_3
  obtain ⟨hz_1, H⟩ := H
  refine pop_rem .i64 x_4 n1_1 hz_1 ?_
  exact H
def u53 (P : Program) (b_1 : Nat) (c0_1 : Sl) (c0_2 : Int) (c0_3 : Int) (list1_1 : Sl) (h : Heap) (K : Value → Heap → Prop) : Prop :=
  callM P 52 #[(VP b_1 0), (VI (list1_1.n : Int))] h fun rv_1 h_1 => ∃ x_1 : Sl, ∃ x_2 : Int, ∃ x_3 : Int, ∃ t9_1 : Int, rv_1 = (VI t9_1) ∧ Vars h_1 [(b_1, [(Sl.v x_1), (VI x_2), (Value.int .u64 x_3)])] ∧
  InB list1_1 t9_1 ∧
  ∃ t11_1 : Int, hcell h_1 (Sl.at list1_1 t9_1 1) = some (VI t11_1) ∧
  K (VI t11_1) h_1
theorem v53 (b_1 : Nat) (c0_1 : Sl) (c0_2 : Int) (c0_3 : Int) (list1_1 : Sl) (h : Heap) (K : Value → Heap → Prop) (hL : Vars h [(b_1, [(Sl.v c0_1), (VI c0_2), (Value.int .u64 c0_3)])]) (H : u53 Tryz.prog b_1 c0_1 c0_2 c0_3 list1_1 h K) : callM Tryz.prog 53 #[(VP b_1 0), (Sl.v list1_1)] h K := by
  refine c53 (VP b_1 0) (Sl.v list1_1) h K ?_
  unfold u53 at H
  unfold t53
  refine pop_len list1_1 _ _ sli29 ?_
  refine H.mono fun rv_1 h_1 H => ?_
  obtain ⟨x_1, x_2, x_3, t9_1, rfl, hL_1, H⟩ := H
  obtain ⟨hi_1, H⟩ := H
  refine pop_index sli29 siz3 .i64 list1_1 t9_1 hi_1 ?_
  obtain ⟨t11_1, hc_1, H⟩ := H
  refine rop_one one3 (VI t11_1) hc_1 ?_
  exact H
def u54 (P : Program) (g0_1 : Sl) (sink1_1 : Int) (s2_1 : Sl) (choices3_1 : Sl) (h : Heap) (K : Value → Heap → Prop) : Prop :=
  ∀ (b_1 : Nat) (b_2 : Nat) (b_3 : Nat) (h_3 : Heap), h.size ≤ b_1 → h.size ≤ b_2 → h.size ≤ b_3 → Fr (In []) h h_3 → Vars h_3 [(b_3, [(Sl.v nilSl)]), (b_2, [(Sl.v s2_1)]), (b_1, [(Sl.v g0_1)])] →
  callM P 64 #[(Value.agg #[(Sl.v g0_1)]), (VI sink1_1), (Value.agg #[(Sl.v s2_1)])] h_3 fun rv_1 h_4 => ∃ t20_1 : Bool, rv_1 = (VB t20_1) ∧ Vars h_4 [(b_3, [(Sl.v nilSl)]), (b_2, [(Sl.v s2_1)]), (b_1, [(Sl.v g0_1)])] ∧
  ((!t20_1) = true →
  ∀ (h_20 : Heap), Fr (In [b_3]) h_4 h_20 → Vars h_20 [(b_3, [(Sl.v nilSl)]), (b_2, [(Sl.v s2_1)]), (b_1, [(Sl.v g0_1)])] →
  K (Value.tuple #[(Value.agg #[(Sl.v nilSl)]), (VI 0), (VB false)]) h_20) ∧
  ((!t20_1) = false →
  ((decide (100 < (choices3_1.n : Int))) = true →
  ∀ (h_19 : Heap), Fr (In [b_3]) h_4 h_19 → Vars h_19 [(b_3, [(Sl.v nilSl)]), (b_2, [(Sl.v s2_1)]), (b_1, [(Sl.v g0_1)])] →
  K (Value.tuple #[(Value.agg #[(Sl.v nilSl)]), (VI 0), (VB false)]) h_19) ∧
  ((decide (100 < (choices3_1.n : Int))) = false →
  callM P 107 #[(Sl.v choices3_1), (Value.func (.func 108) #[] #[])] h_4 fun rv_2 h_5 => ∃ t29_1 : Bool, rv_2 = (VB t29_1) ∧ Vars h_5 [(b_3, [(Sl.v nilSl)]), (b_2, [(Sl.v s2_1)]), (b_1, [(Sl.v g0_1)])] ∧
  (t29_1 = true →
  ∀ (h_6 : Heap), Fr (In [b_3]) h_5 h_6 → Vars h_6 [(b_3, [(Sl.v nilSl)]), (b_2, [(Sl.v s2_1)]), (b_1, [(Sl.v g0_1)])] →
  K (Value.tuple #[(Value.agg #[(Sl.v nilSl)]), (VI 0), (VB false)]) h_6) ∧
  (t29_1 = false →
  callM P 109 #[(Value.agg #[(Sl.v s2_1)])] h_5 fun rv_3 h_7 => ∃ t33_1 : Sl, rv_3 = (Value.agg #[(Sl.v t33_1)]) ∧ Vars h_7 [(b_3, [(Sl.v nilSl)]), (b_2, [(Sl.v s2_1)]), (b_1, [(Sl.v g0_1)])] ∧
  ∀ (b_4 : Nat) (h_9 : Heap), h_7.size ≤ b_4 → Fr (In []) h_7 h_9 → Vars h_9 [(b_4, [(Sl.v t33_1)]), (b_3, [(Sl.v nilSl)]), (b_2, [(Sl.v s2_1)]), (b_1, [(Sl.v g0_1)])] →
  ∃ J_1 : Nat → Int → Heap → Prop, (∃ n0 : Nat, J_1 n0 0 h_9) ∧
  ∀ (n_1 : Nat) (many12_1 : Int) (h_10 : Heap), J_1 n_1 many12_1 h_10 → Vars h_10 [(b_4, [(Sl.v t33_1)]), (b_3, [(Sl.v nilSl)]), (b_2, [(Sl.v s2_1)]), (b_1, [(Sl.v g0_1)])] →
  callM P 65 #[(Value.agg #[(Sl.v t33_1)]), (Value.agg #[(Sl.v g0_1)])] h_10 fun rv_4 h_11 => ∃ t36_1 : Sl, rv_4 = (Sl.v t36_1) ∧ Vars h_11 [(b_4, [(Sl.v t33_1)]), (b_3, [(Sl.v nilSl)]), (b_2, [(Sl.v s2_1)]), (b_1, [(Sl.v g0_1)])] ∧
  ((decide ((t36_1.n : Int) = 0)) = true →
  callM P 59 #[(Value.agg #[(Sl.v t33_1)]), (VI sink1_1)] h_11 fun rv_5 h_12 => ∃ t65_1 : Sl, ∃ t65_2 : Bool, rv_5 = (Value.tuple #[(Sl.v t65_1), (VB t65_2)]) ∧ Vars h_12 [(b_4, [(Sl.v t33_1)]), (b_3, [(Sl.v nilSl)]), (b_2, [(Sl.v s2_1)]), (b_1, [(Sl.v g0_1)])] ∧
  ((!t65_2) = true →
  ∀ (h_13 : Heap), Fr (In [b_3]) h_12 h_13 → Vars h_13 [(b_4, [(Sl.v t33_1)]), (b_3, [(Sl.v nilSl)]), (b_2, [(Sl.v s2_1)]), (b_1, [(Sl.v g0_1)])] →
  K (Value.tuple #[(Value.agg #[(Sl.v nilSl)]), (VI 0), (VB false)]) h_13) ∧
  ((!t65_2) = false →
  callM P 109 #[(Value.agg #[(Sl.v t33_1)])] h_12 fun rv_6 h_14 => ∃ t72_1 : Sl, rv_6 = (Value.agg #[(Sl.v t72_1)]) ∧ Vars h_14 [(b_4, [(Sl.v t33_1)]), (b_3, [(Sl.v nilSl)]), (b_2, [(Sl.v s2_1)]), (b_1, [(Sl.v g0_1)])] ∧
  ∀ (h_15 : Heap), Fr (In [b_3]) h_14 h_15 → Vars h_15 [(b_4, [(Sl.v t33_1)]), (b_3, [(Sl.v t72_1)]), (b_2, [(Sl.v s2_1)]), (b_1, [(Sl.v g0_1)])] →
  K (Value.tuple #[(Value.agg #[(Sl.v t72_1)]), (VI many12_1), (VB true)]) h_15)) ∧
  ((decide ((t36_1.n : Int) = 0)) = false →
  ((decide (many12_1 = 200)) = true →
  ∀ (h_16 : Heap), Fr (In [b_3]) h_11 h_16 → Vars h_16 [(b_4, [(Sl.v t33_1)]), (b_3, [(Sl.v nilSl)]), (b_2, [(Sl.v s2_1)]), (b_1, [(Sl.v g0_1)])] →
  K (Value.tuple #[(Value.agg #[(Sl.v nilSl)]), (VI 0), (VB false)]) h_16) ∧
  ((decide (many12_1 = 200)) = false →
  ∃ J_2 : Int → Heap → Prop, (((decide (many12_1 < (choices3_1.n : Int))) = true →
  InB choices3_1 many12_1 ∧
  ∃ t50_1 : Int, hcell h_11 (Sl.at choices3_1 many12_1 1) = some (VI t50_1) ∧
  (t36_1.n : Int) ≠ 0 ∧
  J_2 (Int.tmod t50_1 (t36_1.n : Int)) h_11) ∧
  ((decide (many12_1 < (choices3_1.n : Int))) = false →
  J_2 0 h_11)) ∧
  ∀ (x_1 : Int) (h_17 : Heap), J_2 x_1 h_17 → Vars h_17 [(b_4, [(Sl.v t33_1)]), (b_3, [(Sl.v nilSl)]), (b_2, [(Sl.v s2_1)]), (b_1, [(Sl.v g0_1)])] →
  InB t36_1 x_1 ∧
  ∃ t58_1 : Sl, hcell h_17 (Sl.at t36_1 x_1 1) = some (Sl.v t58_1) ∧
  callM P 110 #[(Value.agg #[(Sl.v t33_1)]), (Sl.v t58_1)] h_17 fun rv_7 h_18 => Vars h_18 [(b_4, [(Sl.v t33_1)]), (b_3, [(Sl.v nilSl)]), (b_2, [(Sl.v s2_1)]), (b_1, [(Sl.v g0_1)])] ∧
  ∃ m : Nat, m < n_1 ∧ J_1 m (w64 (many12_1 + 1)) h_18)))))
theorem v54 (g0_1 : Sl) (sink1_1 : Int) (s2_1 : Sl) (choices3_1 : Sl) (h : Heap) (K : Value → Heap → Prop) (H : u54 Tryz.prog g0_1 sink1_1 s2_1 choices3_1 h K) : callM Tryz.prog 54 #[(Value.agg #[(Sl.v g0_1)]), (VI sink1_1), (Value.agg #[(Sl.v s2_1)]), (Sl.v choices3_1)] h K := by
  refine c54 (Value.agg #[(Sl.v g0_1)]) (VI sink1_1) (Value.agg #[(Sl.v s2_1)]) (Sl.v choices3_1) h K ?_
  unfold u54 at H
  unfold t54
  have hL : Vars h [] := .nil
  refine eop_box 26 (Value.agg #[(Sl.v g0_1)]) rfl hL (fun b_1 h_1 hb_1 hf_1 hL_1 => ?_)
  refine eop_box 28 (Value.agg #[(Sl.v s2_1)]) rfl hL_1 (fun b_2 h_2 hb_2 hf_2 hL_2 => ?_)
  refine eop_alloc 28 zer28 rfl hL_2 (fun b_3 h_3 hb_3 hf_3 hL_3 => ?_)
  refine rop_locA agg26 hL_3 2 rfl 0 (vs := [(Sl.v g0_1)]) rfl rfl ?_
  refine rop_locA agg28 hL_3 1 rfl 0 (vs := [(Sl.v s2_1)]) rfl rfl ?_
  have H := H b_1 b_2 b_3 h_3 (Nat.le_trans (Fr.size (Fr.r (In []) _)) hb_1) (Nat.le_trans (Fr.size (Fr.no' (Fr.r (In []) _) hf_1)) hb_2) (Nat.le_trans (Fr.size (Fr.no' (Fr.no' (Fr.r (In []) _) hf_1) hf_2)) hb_3) (Fr.no' (Fr.no' (Fr.no' (Fr.r (In []) _) hf_1) hf_2) hf_3) hL_3
  refine H.mono fun rv_1 h_4 H => ?_
  obtain ⟨t20_1, rfl, hL_4, H⟩ := H
  refine pop_not t20_1 ?_
  refine guardM_sf (fun hb_4 => ?_) (fun hb_4 => ?_)
  rotate_left
  ·have H := H.1 hb_4
   refine guardM_n' hb_4 (by decide) ?_
   refine guardM_n' hb_4 (by decide) ?_
   refine pop_pickt' hb_4 ?_
   refine guardM_n (by decide) ?_
   refine guardM_n (by decide) ?_
   refine pop_pickt _ _ ?_
   refine condM_t ?_
   refine pop.mk' (v := (Value.agg #[(Sl.v nilSl)])) (fun w => by kernel_rfl) ?_
   refine uop_loc siz28 hL_4 0 rfl 0 [(Sl.v nilSl)] rfl rfl rfl (Nat.le_of_ble_eq_true rfl) (L' := [(b_3, [(Sl.v nilSl)]), (b_2, [(Sl.v s2_1)]), (b_1, [(Sl.v g0_1)])]) rfl (fun h_20 hf_11 hL_20 => ?_)
   refine rop_locA agg28 hL_20 0 rfl 0 (vs := [(Sl.v nilSl)]) rfl rfl ?_
   have H := H  h_20  (Fr.old (Fr.r (In []) _) hf_11) hL_20
   exact H
  have H := H.2 hb_4
  refine guardM_y' hb_4 ?_
  refine pop_len choices3_1 _ _ sli29 ?_
  refine guardM_y' hb_4 ?_
  refine pop_gtr .i64 (choices3_1.n : Int) 100 ?_
  refine pop_pickf' hb_4 ?_
  refine guardM_sf (fun hb_5 => ?_) (fun hb_5 => ?_)
  rotate_left
  ·have H := H.1 hb_5
   refine guardM_n' hb_5 (by decide) ?_
   refine pop_pickt' hb_5 ?_
   refine condM_t ?_
   refine pop.mk' (v := (Value.agg #[(Sl.v nilSl)])) (fun w => by kernel_rfl) ?_
   refine uop_loc siz28 hL_4 0 rfl 0 [(Sl.v nilSl)] rfl rfl rfl (Nat.le_of_ble_eq_true rfl) (L' := [(b_3, [(Sl.v nilSl)]), (b_2, [(Sl.v s2_1)]), (b_1, [(Sl.v g0_1)])]) rfl (fun h_19 hf_10 hL_19 => ?_)
   refine rop_locA agg28 hL_19 0 rfl 0 (vs := [(Sl.v nilSl)]) rfl rfl ?_
   have H := H  h_19  (Fr.old (Fr.r (In []) _) hf_10) hL_19
   exact H
  have H := H.2 hb_5
  refine guardM_y' hb_5 ?_
  refine H.mono fun rv_2 h_5 H => ?_
  obtain ⟨t29_1, rfl, hL_5, H⟩ := H
  refine pop_pickf' hb_5 ?_
  refine condM_b (fun hb_6 => ?_) (fun hb_6 => ?_)
  ·have H := H.1 hb_6
   refine pop.mk' (v := (Value.agg #[(Sl.v nilSl)])) (fun w => by kernel_rfl) ?_
   refine uop_loc siz28 hL_5 0 rfl 0 [(Sl.v nilSl)] rfl rfl rfl (Nat.le_of_ble_eq_true rfl) (L' := [(b_3, [(Sl.v nilSl)]), (b_2, [(Sl.v s2_1)]), (b_1, [(Sl.v g0_1)])]) rfl (fun h_6 hf_4 hL_6 => ?_)
   refine rop_locA agg28 hL_6 0 rfl 0 (vs := [(Sl.v nilSl)]) rfl rfl ?_
   have H := H  h_6  (Fr.old (Fr.r (In []) _) hf_4) hL_6
   exact H
  have H := H.2 hb_6
  refine rop_locA agg28 hL_5 1 rfl 0 (vs := [(Sl.v s2_1)]) rfl rfl ?_
  refine H.mono fun rv_3 h_7 H => ?_
  obtain ⟨t33_1, rfl, hL_7, H⟩ := H
  refine eop_alloc 28 zer28 rfl hL_7 (fun b_4 h_8 hb_7 hf_5 hL_8 => ?_)
  refine uop_loc siz28 hL_8 0 rfl 0 [(Sl.v t33_1)] rfl rfl rfl (Nat.le_of_ble_eq_true rfl) (L' := [(b_4, [(Sl.v t33_1)]), (b_3, [(Sl.v nilSl)]), (b_2, [(Sl.v s2_1)]), (b_1, [(Sl.v g0_1)])]) rfl (fun h_9 hf_6 hL_9 => ?_)
  have H := H b_4 h_9 (Nat.le_trans (Fr.size (Fr.r (In []) _)) hb_7) (Fr.new (Fr.no' (Fr.r (In []) _) hf_5) (Nat.le_trans (Fr.size (Fr.r (In []) _)) hb_7) hf_6) hL_9
  obtain ⟨J_1, ⟨n_2, h0_1⟩, HB_2⟩ := H
  refine loop_intro (J := fun (n : Nat) (vs : List Value) (h' : Heap) => ∃ many12_1 : Int, vs = [(VI many12_1)] ∧ J_1 n many12_1 h' ∧ Vars h' [(b_4, [(Sl.v t33_1)]), (b_3, [(Sl.v nilSl)]), (b_2, [(Sl.v s2_1)]), (b_1, [(Sl.v g0_1)])]) n_2 ⟨0, rfl, h0_1, hL_9⟩ ?_
  intro I_1 mu_1 hI_1 junk_1 tv_2 h_10 hi_1
  obtain ⟨n_1, ⟨many12_1, hv, hJ_1, hL_10⟩, hn_1⟩ := hI_1 _ _ hi_1
  cases hv
  have H := HB_2 n_1 many12_1 h_10 hJ_1 hL_10
  refine rop_locA agg28 hL_10 0 rfl 0 (vs := [(Sl.v t33_1)]) rfl rfl ?_
  refine rop_locA agg26 hL_10 3 rfl 0 (vs := [(Sl.v g0_1)]) rfl rfl ?_
  refine H.mono fun rv_4 h_11 H => ?_
  obtain ⟨t36_1, rfl, hL_11, H⟩ := H
  refine pop_len t36_1 _ _ sli24 ?_
  refine pop_ieq .i64 _ _ (t36_1.n : Int) 0 ?_
  refine condM_b (fun hb_8 => ?_) (fun hb_8 => ?_)
  ·have H := H.1 hb_8
   refine rop_locA agg28 hL_11 0 rfl 0 (vs := [(Sl.v t33_1)]) rfl rfl ?_
   refine H.mono fun rv_5 h_12 H => ?_
   obtain ⟨t65_1, t65_2, rfl, hL_12, H⟩ := H
   refine pop_ext (v := (Sl.v t65_1)) rfl ?_
   refine pop_ext (v := (VB t65_2)) rfl ?_
   refine pop_not t65_2 ?_
   refine condM_b (fun hb_9 => ?_) (fun hb_9 => ?_)
   ·have H := H.1 hb_9
    refine pop.mk' (v := (Value.agg #[(Sl.v nilSl)])) (fun w => by kernel_rfl) ?_
    refine uop_loc siz28 hL_12 1 rfl 0 [(Sl.v nilSl)] rfl rfl rfl (Nat.le_of_ble_eq_true rfl) (L' := [(b_4, [(Sl.v t33_1)]), (b_3, [(Sl.v nilSl)]), (b_2, [(Sl.v s2_1)]), (b_1, [(Sl.v g0_1)])]) rfl (fun h_13 hf_7 hL_13 => ?_)
    refine rop_locA agg28 hL_13 1 rfl 0 (vs := [(Sl.v nilSl)]) rfl rfl ?_
    have H := H  h_13  (Fr.old (Fr.r (In []) _) hf_7) hL_13
    exact H
   have H := H.2 hb_9
   refine rop_locA agg28 hL_12 0 rfl 0 (vs := [(Sl.v t33_1)]) rfl rfl ?_
   refine H.mono fun rv_6 h_14 H => ?_
   obtain ⟨t72_1, rfl, hL_14, H⟩ := H
   refine uop_loc siz28 hL_14 1 rfl 0 [(Sl.v t72_1)] rfl rfl rfl (Nat.le_of_ble_eq_true rfl) (L' := [(b_4, [(Sl.v t33_1)]), (b_3, [(Sl.v t72_1)]), (b_2, [(Sl.v s2_1)]), (b_1, [(Sl.v g0_1)])]) rfl (fun h_15 hf_8 hL_15 => ?_)
   refine rop_locA agg28 hL_15 1 rfl 0 (vs := [(Sl.v t72_1)]) rfl rfl ?_
   have H := H  h_15  (Fr.old (Fr.r (In []) _) hf_8) hL_15
   exact H
  have H := H.2 hb_8
  refine pop_ieq .i64 _ _ many12_1 200 ?_
  refine condM_b (fun hb_10 => ?_) (fun hb_10 => ?_)
  ·have H := H.1 hb_10
   refine pop.mk' (v := (Value.agg #[(Sl.v nilSl)])) (fun w => by kernel_rfl) ?_
   refine uop_loc siz28 hL_11 1 rfl 0 [(Sl.v nilSl)] rfl rfl rfl (Nat.le_of_ble_eq_true rfl) (L' := [(b_4, [(Sl.v t33_1)]), (b_3, [(Sl.v nilSl)]), (b_2, [(Sl.v s2_1)]), (b_1, [(Sl.v g0_1)])]) rfl (fun h_16 hf_9 hL_16 => ?_)
   refine rop_locA agg28 hL_16 1 rfl 0 (vs := [(Sl.v nilSl)]) rfl rfl ?_
   have H := H  h_16  (Fr.old (Fr.r (In []) _) hf_9) hL_16
   exact H
  have H := H.2 hb_10
  obtain ⟨J_2, H, HB_1⟩ := H
  refine ⟨fun (vs : List Value) (h' : Heap) => ∃ x_1 : Int, vs = [(VI x_1)] ∧ J_2 x_1 h' ∧ Vars h' [(b_4, [(Sl.v t33_1)]), (b_3, [(Sl.v nilSl)]), (b_2, [(Sl.v s2_1)]), (b_1, [(Sl.v g0_1)])], ?_, ?_⟩
  ·refine pop_len choices3_1 _ _ sli29 ?_
   refine pop_lss .i64 many12_1 (choices3_1.n : Int) ?_
   refine condM_b (fun hb_11 => ?_) (fun hb_11 => ?_)
   rotate_left
   ·have H := H.2 hb_11
    exact ⟨0, rfl, H, hL_11⟩
   have H := H.1 hb_11
   obtain ⟨hi_2, H⟩ := H
   refine pop_index sli29 siz3 .i64 choices3_1 many12_1 hi_2 ?_
   obtain ⟨t50_1, hc_1, H⟩ := H
   refine rop_one one3 (VI t50_1) hc_1 ?_
   refine pop_len t36_1 _ _ sli24 ?_
   obtain ⟨hz_1, H⟩ := H
   refine pop_rem .i64 t50_1 (t36_1.n : Int) hz_1 ?_
   exact ⟨(Int.tmod t50_1 (t36_1.n : Int)), rfl, H, hL_11⟩
  intro junk_2 tv_1 h_17
  rintro ⟨x_1, hv, hJ_2, hL_17⟩
  cases hv
  have H := HB_1 x_1 h_17 hJ_2 hL_17
  refine rop_locA agg28 hL_17 0 rfl 0 (vs := [(Sl.v t33_1)]) rfl rfl ?_
  obtain ⟨hi_3, H⟩ := H
  refine pop_index sli24 siz29 .i64 t36_1 x_1 hi_3 ?_
  obtain ⟨t58_1, hc_2, H⟩ := H
  refine rop_one one29 (Sl.v t58_1) hc_2 ?_
  refine H.mono fun rv_7 h_18 H => ?_
  obtain ⟨hL_18, H⟩ := H
  refine pop_add .i64 many12_1 1 ?_
  obtain ⟨m_1, hm_1, H⟩ := H
  exact hn_1 _ _ ⟨m_1, hm_1, (w64 (many12_1 + 1)), rfl, H, hL_18⟩
def u55 (P : Program) (g0_1 : Sl) (sink1_1 : Int) (s2_1 : Sl) (h : Heap) (K : Value → Heap → Prop) : Prop :=
  ∀ (b_1 : Nat) (b_2 : Nat) (h_2 : Heap), h.size ≤ b_1 → h.size ≤ b_2 → Fr (In []) h h_2 → Vars h_2 [(b_2, [(Sl.v s2_1)]), (b_1, [(Sl.v g0_1)])] →
  callM P 98 #[(Value.agg #[(Sl.v g0_1)]), (VI sink1_1)] h_2 fun rv_1 h_3 => ∃ t11_1 : Bool, rv_1 = (VB t11_1) ∧ Vars h_3 [(b_2, [(Sl.v s2_1)]), (b_1, [(Sl.v g0_1)])] ∧
  ((!t11_1) = true →
  K (VB false) h_3) ∧
  ((!t11_1) = false →
  ((!decide ((s2_1.n : Int) = (g0_1.n : Int))) = true →
  K (VB false) h_3) ∧
  ((!decide ((s2_1.n : Int) = (g0_1.n : Int))) = false →
  InB s2_1 sink1_1 ∧
  ∃ t27_1 : Sl, hcell h_3 (Sl.at s2_1 sink1_1 1) = some (Sl.v t27_1) ∧
  ((decide (0 < (t27_1.n : Int))) = true →
  K (VB false) h_3) ∧
  ((decide (0 < (t27_1.n : Int))) = false →
  ∃ J_1 : Nat → Int → Heap → Prop, (∃ n0 : Nat, J_1 n0 0 h_3) ∧
  ∀ (n_1 : Nat) (t34_1 : Int) (h_4 : Heap), J_1 n_1 t34_1 h_4 → Vars h_4 [(b_2, [(Sl.v s2_1)]), (b_1, [(Sl.v g0_1)])] →
  ((decide (t34_1 < (s2_1.n : Int))) = true →
  InB s2_1 t34_1 ∧
  ∃ t38_1 : Sl, hcell h_4 (Sl.at s2_1 t34_1 1) = some (Sl.v t38_1) ∧
  ((decide (12 < (t38_1.n : Int))) = true →
  K (VB false) h_4) ∧
  ((decide (12 < (t38_1.n : Int))) = false →
  InB g0_1 t34_1 ∧
  ∃ t48_1 : Sl, hcell h_4 (Sl.at g0_1 t34_1 1) = some (Sl.v t48_1) ∧
  callM P 56 #[(Sl.v t38_1), (VI 0), (VI (w64 ((t48_1.n : Int) - 1)))] h_4 fun rv_2 h_5 => ∃ t51_1 : Bool, rv_2 = (VB t51_1) ∧ Vars h_5 [(b_2, [(Sl.v s2_1)]), (b_1, [(Sl.v g0_1)])] ∧
  ((!t51_1) = true →
  K (VB false) h_5) ∧
  ((!t51_1) = false →
  ∃ m : Nat, m < n_1 ∧ J_1 m (w64 (t34_1 + 1)) h_5))) ∧
  ((decide (t34_1 < (s2_1.n : Int))) = false →
  K (VB true) h_4))))
theorem v55 (g0_1 : Sl) (sink1_1 : Int) (s2_1 : Sl) (h : Heap) (K : Value → Heap → Prop) (H : u55 Tryz.prog g0_1 sink1_1 s2_1 h K) : callM Tryz.prog 55 #[(Value.agg #[(Sl.v g0_1)]), (VI sink1_1), (Value.agg #[(Sl.v s2_1)])] h K := by
  refine c55 (Value.agg #[(Sl.v g0_1)]) (VI sink1_1) (Value.agg #[(Sl.v s2_1)]) h K ?_
  unfold u55 at H
  unfold t55
  have hL : Vars h [] := .nil
  refine eop_box 26 (Value.agg #[(Sl.v g0_1)]) rfl hL (fun b_1 h_1 hb_1 hf_1 hL_1 => ?_)
  refine eop_box 28 (Value.agg #[(Sl.v s2_1)]) rfl hL_1 (fun b_2 h_2 hb_2 hf_2 hL_2 => ?_)
  refine rop_locA agg26 hL_2 1 rfl 0 (vs := [(Sl.v g0_1)]) rfl rfl ?_
  have H := H b_1 b_2 h_2 (Nat.le_trans (Fr.size (Fr.r (In []) _)) hb_1) (Nat.le_trans (Fr.size (Fr.no' (Fr.r (In []) _) hf_1)) hb_2) (Fr.no' (Fr.no' (Fr.r (In []) _) hf_1) hf_2) hL_2
  refine H.mono fun rv_1 h_3 H => ?_
  obtain ⟨t11_1, rfl, hL_3, H⟩ := H
  refine pop_not t11_1 ?_
  refine guardM_sf (fun hb_3 => ?_) (fun hb_3 => ?_)
  rotate_left
  ·have H := H.1 hb_3
   refine guardM_n' hb_3 (by decide) ?_
   refine guardM_n' hb_3 (by decide) ?_
   refine guardM_n' hb_3 (by decide) ?_
   refine guardM_n' hb_3 (by decide) ?_
   refine guardM_n' hb_3 (by decide) ?_
   refine guardM_n' hb_3 (by decide) ?_
   refine pop_pickt' hb_3 ?_
   refine guardM_n (by decide) ?_
   refine guardM_n (by decide) ?_
   refine guardM_n (by decide) ?_
   refine guardM_n (by decide) ?_
   refine guardM_n (by decide) ?_
   refine guardM_n (by decide) ?_
   refine guardM_n (by decide) ?_
   refine pop_pickt _ _ ?_
   refine condM_t ?_
   exact H
  have H := H.2 hb_3
  refine pop_field 0 fld28_0 b_2 0 ?_
  refine guardM_y' hb_3 ?_
  refine rop_loc one24 hL_3 0 rfl 0 (v := (Sl.v s2_1)) rfl ?_
  refine guardM_y' hb_3 ?_
  refine pop_len s2_1 _ _ sli24 ?_
  refine guardM_y' hb_3 ?_
  refine pop_field 0 fld26_0 b_1 0 ?_
  refine guardM_y' hb_3 ?_
  refine rop_loc one24 hL_3 1 rfl 0 (v := (Sl.v g0_1)) rfl ?_
  refine guardM_y' hb_3 ?_
  refine pop_len g0_1 _ _ sli24 ?_
  refine guardM_y' hb_3 ?_
  refine pop_ine .i64 _ _ (s2_1.n : Int) (g0_1.n : Int) ?_
  refine pop_pickf' hb_3 ?_
  refine guardM_sf (fun hb_4 => ?_) (fun hb_4 => ?_)
  rotate_left
  ·have H := H.1 hb_4
   refine guardM_n' hb_4 (by decide) ?_
   refine guardM_n' hb_4 (by decide) ?_
   refine guardM_n' hb_4 (by decide) ?_
   refine guardM_n' hb_4 (by decide) ?_
   refine guardM_n' hb_4 (by decide) ?_
   refine guardM_n' hb_4 (by decide) ?_
   refine pop_pickt' hb_4 ?_
   refine condM_t ?_
   exact H
  have H := H.2 hb_4
  refine pop_field 0 fld28_0 b_2 0 ?_
  refine guardM_y' hb_4 ?_
  refine rop_loc one24 hL_3 0 rfl 0 (v := (Sl.v s2_1)) rfl ?_
  refine guardM_y' hb_4 ?_
  refine guardM_y' hb_4 ?_
  obtain ⟨hi_1, H⟩ := H
  refine pop_index sli24 siz29 .i64 s2_1 sink1_1 hi_1 ?_
  refine guardM_y' hb_4 ?_
  obtain ⟨t27_1, hc_3, H⟩ := H
  refine rop_one one29 (Sl.v t27_1) hc_3 ?_
  refine guardM_y' hb_4 ?_
  refine pop_len t27_1 _ _ sli29 ?_
  refine guardM_y' hb_4 ?_
  refine pop_gtr .i64 (t27_1.n : Int) 0 ?_
  refine pop_pickf' hb_4 ?_
  refine condM_b (fun hb_5 => ?_) (fun hb_5 => ?_)
  ·have H := H.1 hb_5
   exact H
  have H := H.2 hb_5
  refine pop_field 0 fld28_0 b_2 0 ?_
  refine rop_loc one24 hL_3 0 rfl 0 (v := (Sl.v s2_1)) rfl ?_
  refine pop_len s2_1 _ _ sli24 ?_
  obtain ⟨J_1, ⟨n_2, h0_1⟩, HB_1⟩ := H
  refine loop_intro (J := fun (n : Nat) (vs : List Value) (h' : Heap) => ∃ t34_1 : Int, vs = [(VI t34_1)] ∧ J_1 n t34_1 h' ∧ Vars h' [(b_2, [(Sl.v s2_1)]), (b_1, [(Sl.v g0_1)])]) n_2 ⟨0, rfl, h0_1, hL_3⟩ ?_
  intro I_1 mu_1 hI_1 junk_1 tv_1 h_4 hi_2
  obtain ⟨n_1, ⟨t34_1, hv, hJ_1, hL_4⟩, hn_1⟩ := hI_1 _ _ hi_2
  cases hv
  have H := HB_1 n_1 t34_1 h_4 hJ_1 hL_4
  refine pop_lss .i64 t34_1 (s2_1.n : Int) ?_
  refine condM_b (fun hb_6 => ?_) (fun hb_6 => ?_)
  rotate_left
  ·have H := H.2 hb_6
   exact H
  have H := H.1 hb_6
  obtain ⟨hi_3, H⟩ := H
  refine pop_index sli24 siz29 .i64 s2_1 t34_1 hi_3 ?_
  obtain ⟨t38_1, hc_2, H⟩ := H
  refine rop_one one29 (Sl.v t38_1) hc_2 ?_
  refine pop_len t38_1 _ _ sli29 ?_
  refine pop_gtr .i64 (t38_1.n : Int) 12 ?_
  refine guardM_sf (fun hb_7 => ?_) (fun hb_7 => ?_)
  rotate_left
  ·have H := H.1 hb_7
   refine guardM_n' hb_7 (by decide) ?_
   refine guardM_n' hb_7 (by decide) ?_
   refine guardM_n' hb_7 (by decide) ?_
   refine guardM_n' hb_7 (by decide) ?_
   refine guardM_n' hb_7 (by decide) ?_
   refine guardM_n' hb_7 (by decide) ?_
   refine guardM_n' hb_7 (by decide) ?_
   refine guardM_n' hb_7 (by decide) ?_
   refine guardM_n' hb_7 (by decide) ?_
   refine pop_pickt' hb_7 ?_
   refine condM_t ?_
   exact H
  have H := H.2 hb_7
  refine guardM_y' hb_7 ?_
  refine pop_field 0 fld26_0 b_1 0 ?_
  refine guardM_y' hb_7 ?_
  refine rop_loc one24 hL_4 1 rfl 0 (v := (Sl.v g0_1)) rfl ?_
  refine guardM_y' hb_7 ?_
  refine guardM_y' hb_7 ?_
  obtain ⟨hi_4, H⟩ := H
  refine pop_index sli24 siz29 .i64 g0_1 t34_1 hi_4 ?_
  refine guardM_y' hb_7 ?_
  obtain ⟨t48_1, hc_1, H⟩ := H
  refine rop_one one29 (Sl.v t48_1) hc_1 ?_
  refine guardM_y' hb_7 ?_
  refine pop_len t48_1 _ _ sli29 ?_
  refine guardM_y' hb_7 ?_
  refine pop_sub .i64 (t48_1.n : Int) 1 ?_
  refine guardM_y' hb_7 ?_
  refine H.mono fun rv_2 h_5 H => ?_
  obtain ⟨t51_1, rfl, hL_5, H⟩ := H
  refine guardM_y' hb_7 ?_
  refine pop_not t51_1 ?_
  refine pop_pickf' hb_7 ?_
  refine condM_b (fun hb_8 => ?_) (fun hb_8 => ?_)
  ·have H := H.1 hb_8
   exact H
  have H := H.2 hb_8
  refine pop_add .i64 t34_1 1 ?_
  obtain ⟨m_1, hm_1, H⟩ := H
  exact hn_1 _ _ ⟨m_1, hm_1, (w64 (t34_1 + 1)), rfl, H, hL_5⟩
def u56 (P : Program) (l0_1 : Sl) (lo1_1 : Int) (hi2_1 : Int) (h : Heap) (K : Value → Heap → Prop) : Prop :=
  ∃ J_1 : Nat → Int → Heap → Prop, (∃ n0 : Nat, J_1 n0 0 h) ∧
  ∀ (n_1 : Nat) (t11_1 : Int) (h_1 : Heap), J_1 n_1 t11_1 h_1 → Vars h_1 [] →
  ((decide (t11_1 < (l0_1.n : Int))) = true →
  InB l0_1 t11_1 ∧
  ∃ t14_1 : Int, hcell h_1 (Sl.at l0_1 t11_1 1) = some (VI t14_1) ∧
  callM P 104 #[(VI t14_1), (VI lo1_1), (VI hi2_1)] h_1 fun rv_1 h_2 => ∃ t18_1 : Bool, rv_1 = (VB t18_1) ∧ Vars h_2 [] ∧
  ((!t18_1) = true →
  K (VB false) h_2) ∧
  ((!t18_1) = false →
  ∃ m : Nat, m < n_1 ∧ J_1 m (w64 (t11_1 + 1)) h_2)) ∧
  ((decide (t11_1 < (l0_1.n : Int))) = false →
  K (VB true) h_1)
theorem v56 (l0_1 : Sl) (lo1_1 : Int) (hi2_1 : Int) (h : Heap) (K : Value → Heap → Prop) (H : u56 Tryz.prog l0_1 lo1_1 hi2_1 h K) : callM Tryz.prog 56 #[(Sl.v l0_1), (VI lo1_1), (VI hi2_1)] h K := by
  refine c56 (Sl.v l0_1) (VI lo1_1) (VI hi2_1) h K ?_
  unfold u56 at H
  unfold t56
  have hL : Vars h [] := .nil
  refine pop_len l0_1 _ _ sli29 ?_
  obtain ⟨J_1, ⟨n_2, h0_1⟩, HB_1⟩ := H
  refine loop_intro (J := fun (n : Nat) (vs : List Value) (h' : Heap) => ∃ t11_1 : Int, vs = [(VI t11_1)] ∧ J_1 n t11_1 h' ∧ Vars h' []) n_2 ⟨0, rfl, h0_1, hL⟩ ?_
  intro I_1 mu_1 hI_1 junk_1 tv_1 h_1 hi_1
  obtain ⟨n_1, ⟨t11_1, hv, hJ_1, hL_1⟩, hn_1⟩ := hI_1 _ _ hi_1
  cases hv
  have H := HB_1 n_1 t11_1 h_1 hJ_1 hL_1
  refine pop_lss .i64 t11_1 (l0_1.n : Int) ?_
  refine condM_b (fun hb_1 => ?_) (fun hb_1 => ?_)
  rotate_left
  ·have H := H.2 hb_1
   exact H
  have H := H.1 hb_1
  obtain ⟨hi_2, H⟩ := H
  refine pop_index sli29 siz3 .i64 l0_1 t11_1 hi_2 ?_
  obtain ⟨t14_1, hc_1, H⟩ := H
  refine rop_one one3 (VI t14_1) hc_1 ?_
  refine H.mono fun rv_1 h_2 H => ?_
  obtain ⟨t18_1, rfl, hL_2, H⟩ := H
  refine pop_not t18_1 ?_
  refine condM_b (fun hb_2 => ?_) (fun hb_2 => ?_)
  ·have H := H.1 hb_2
   exact H
  have H := H.2 hb_2
  refine pop_add .i64 t11_1 1 ?_
  obtain ⟨m_1, hm_1, H⟩ := H
  exact hn_1 _ _ ⟨m_1, hm_1, (w64 (t11_1 + 1)), rfl, H, hL_2⟩
def u57 (P : Program) (g0_1 : Sl) (sink1_1 : Int) (s2_1 : Sl) (choices3_1 : Sl) (h : Heap) (K : Value → Heap → Prop) : Prop :=
  ∀ (b_1 : Nat) (b_2 : Nat) (b_3 : Nat) (h_3 : Heap), h.size ≤ b_1 → h.size ≤ b_2 → h.size ≤ b_3 → Fr (In []) h h_3 → Vars h_3 [(b_3, [(Sl.v nilSl)]), (b_2, [(Sl.v s2_1)]), (b_1, [(Sl.v g0_1)])] →
  ∃ J_1 : Nat → Int → Sl → Heap → Prop, (∃ n0 : Nat, J_1 n0 0 s2_1 h_3) ∧
  ∀ (n_1 : Nat) (n11_1 : Int) (x_1 : Sl) (h_4 : Heap), J_1 n_1 n11_1 x_1 h_4 → Vars h_4 [(b_3, [(Sl.v nilSl)]), (b_2, [(Sl.v x_1)]), (b_1, [(Sl.v g0_1)])] →
  ((decide (n11_1 ≤ 200)) = true →
  callM P 111 #[(Value.agg #[(Sl.v g0_1)]), (Value.agg #[(Sl.v x_1)])] h_4 fun rv_1 h_5 => ∃ t22_1 : Sl, rv_1 = (Sl.v t22_1) ∧ Vars h_5 [(b_3, [(Sl.v nilSl)]), (b_2, [(Sl.v x_1)]), (b_1, [(Sl.v g0_1)])] ∧
  ((decide ((t22_1.n : Int) = 0)) = true →
  callM P 60 #[(Value.agg #[(Sl.v g0_1)]), (VI sink1_1), (Value.agg #[(Sl.v x_1)])] h_5 fun rv_2 h_6 => ∃ t30_1 : Sl, ∃ t30_2 : Bool, rv_2 = (Value.tuple #[(Sl.v t30_1), (VB t30_2)]) ∧ Vars h_6 [(b_3, [(Sl.v nilSl)]), (b_2, [(Sl.v x_1)]), (b_1, [(Sl.v g0_1)])] ∧
  ∀ (h_7 : Heap), Fr (In [b_3]) h_6 h_7 → Vars h_7 [(b_3, [(Sl.v x_1)]), (b_2, [(Sl.v x_1)]), (b_1, [(Sl.v g0_1)])] →
  K (Value.tuple #[(Value.agg #[(Sl.v x_1)]), (VI n11_1), (VB t30_2)]) h_7) ∧
  ((decide ((t22_1.n : Int) = 0)) = false →
  ∃ J_2 : Int → Heap → Prop, (((decide (n11_1 < (choices3_1.n : Int))) = true →
  InB choices3_1 n11_1 ∧
  ∃ t43_1 : Int, hcell h_5 (Sl.at choices3_1 n11_1 1) = some (VI t43_1) ∧
  (t22_1.n : Int) ≠ 0 ∧
  J_2 (Int.tmod t43_1 (t22_1.n : Int)) h_5) ∧
  ((decide (n11_1 < (choices3_1.n : Int))) = false →
  J_2 0 h_5)) ∧
  ∀ (x_2 : Int) (h_8 : Heap), J_2 x_2 h_8 → Vars h_8 [(b_3, [(Sl.v nilSl)]), (b_2, [(Sl.v x_1)]), (b_1, [(Sl.v g0_1)])] →
  InB t22_1 x_2 ∧
  ∃ t51_1 : Sl, hcell h_8 (Sl.at t22_1 x_2 1) = some (Sl.v t51_1) ∧
  callM P 58 #[(Value.agg #[(Sl.v x_1)]), (Sl.v t51_1)] h_8 fun rv_3 h_9 => ∃ t52_1 : Sl, rv_3 = (Value.agg #[(Sl.v t52_1)]) ∧ Vars h_9 [(b_3, [(Sl.v nilSl)]), (b_2, [(Sl.v x_1)]), (b_1, [(Sl.v g0_1)])] ∧
  ∀ (h_10 : Heap), Fr (In [b_2]) h_9 h_10 → Vars h_10 [(b_3, [(Sl.v nilSl)]), (b_2, [(Sl.v t52_1)]), (b_1, [(Sl.v g0_1)])] →
  ∃ m : Nat, m < n_1 ∧ J_1 m (w64 (n11_1 + 1)) t52_1 h_10)) ∧
  ((decide (n11_1 ≤ 200)) = false →
  ∀ (h_11 : Heap), Fr (In [b_3]) h_4 h_11 → Vars h_11 [(b_3, [(Sl.v x_1)]), (b_2, [(Sl.v x_1)]), (b_1, [(Sl.v g0_1)])] →
  K (Value.tuple #[(Value.agg #[(Sl.v x_1)]), (VI 0), (VB false)]) h_11)
theorem v57 (g0_1 : Sl) (sink1_1 : Int) (s2_1 : Sl) (choices3_1 : Sl) (h : Heap) (K : Value → Heap → Prop) (H : u57 Tryz.prog g0_1 sink1_1 s2_1 choices3_1 h K) : callM Tryz.prog 57 #[(Value.agg #[(Sl.v g0_1)]), (VI sink1_1), (Value.agg #[(Sl.v s2_1)]), (Sl.v choices3_1)] h K := by
  refine c57 (Value.agg #[(Sl.v g0_1)]) (VI sink1_1) (Value.agg #[(Sl.v s2_1)]) (Sl.v choices3_1) h K ?_
  unfold u57 at H
  unfold t57
  have hL : Vars h [] := .nil
  refine eop_box 26 (Value.agg #[(Sl.v g0_1)]) rfl hL (fun b_1 h_1 hb_1 hf_1 hL_1 => ?_)
  refine eop_box 28 (Value.agg #[(Sl.v s2_1)]) rfl hL_1 (fun b_2 h_2 hb_2 hf_2 hL_2 => ?_)
  refine eop_alloc 28 zer28 rfl hL_2 (fun b_3 h_3 hb_3 hf_3 hL_3 => ?_)
  have H := H b_1 b_2 b_3 h_3 (Nat.le_trans (Fr.size (Fr.r (In []) _)) hb_1) (Nat.le_trans (Fr.size (Fr.no' (Fr.r (In []) _) hf_1)) hb_2) (Nat.le_trans (Fr.size (Fr.no' (Fr.no' (Fr.r (In []) _) hf_1) hf_2)) hb_3) (Fr.no' (Fr.no' (Fr.no' (Fr.r (In []) _) hf_1) hf_2) hf_3) hL_3
  obtain ⟨J_1, ⟨n_2, h0_1⟩, HB_2⟩ := H
  refine loop_intro (J := fun (n : Nat) (vs : List Value) (h' : Heap) => ∃ n11_1 : Int, ∃ x_1 : Sl, vs = [(VI n11_1)] ∧ J_1 n n11_1 x_1 h' ∧ Vars h' [(b_3, [(Sl.v nilSl)]), (b_2, [(Sl.v x_1)]), (b_1, [(Sl.v g0_1)])]) n_2 ⟨0, s2_1, rfl, h0_1, hL_3⟩ ?_
  intro I_1 mu_1 hI_1 junk_1 tv_2 h_4 hi_1
  obtain ⟨n_1, ⟨n11_1, x_1, hv, hJ_1, hL_4⟩, hn_1⟩ := hI_1 _ _ hi_1
  cases hv
  have H := HB_2 n_1 n11_1 x_1 h_4 hJ_1 hL_4
  refine pop_leq .i64 n11_1 200 ?_
  refine condM_b (fun hb_4 => ?_) (fun hb_4 => ?_)
  rotate_left
  ·have H := H.2 hb_4
   refine rop_locA agg28 hL_4 1 rfl 0 (vs := [(Sl.v x_1)]) rfl rfl ?_
   refine uop_loc siz28 hL_4 0 rfl 0 [(Sl.v x_1)] rfl rfl rfl (Nat.le_of_ble_eq_true rfl) (L' := [(b_3, [(Sl.v x_1)]), (b_2, [(Sl.v x_1)]), (b_1, [(Sl.v g0_1)])]) rfl (fun h_11 hf_6 hL_11 => ?_)
   refine rop_locA agg28 hL_11 0 rfl 0 (vs := [(Sl.v x_1)]) rfl rfl ?_
   have H := H  h_11  (Fr.old (Fr.r (In []) _) hf_6) hL_11
   exact H
  have H := H.1 hb_4
  refine rop_locA agg26 hL_4 2 rfl 0 (vs := [(Sl.v g0_1)]) rfl rfl ?_
  refine rop_locA agg28 hL_4 1 rfl 0 (vs := [(Sl.v x_1)]) rfl rfl ?_
  refine H.mono fun rv_1 h_5 H => ?_
  obtain ⟨t22_1, rfl, hL_5, H⟩ := H
  refine pop_len t22_1 _ _ sli24 ?_
  refine pop_ieq .i64 _ _ (t22_1.n : Int) 0 ?_
  refine condM_b (fun hb_5 => ?_) (fun hb_5 => ?_)
  ·have H := H.1 hb_5
   refine rop_locA agg26 hL_5 2 rfl 0 (vs := [(Sl.v g0_1)]) rfl rfl ?_
   refine rop_locA agg28 hL_5 1 rfl 0 (vs := [(Sl.v x_1)]) rfl rfl ?_
   refine H.mono fun rv_2 h_6 H => ?_
   obtain ⟨t30_1, t30_2, rfl, hL_6, H⟩ := H
   refine pop_ext (v := (Sl.v t30_1)) rfl ?_
   refine pop_ext (v := (VB t30_2)) rfl ?_
   refine rop_locA agg28 hL_6 1 rfl 0 (vs := [(Sl.v x_1)]) rfl rfl ?_
   refine uop_loc siz28 hL_6 0 rfl 0 [(Sl.v x_1)] rfl rfl rfl (Nat.le_of_ble_eq_true rfl) (L' := [(b_3, [(Sl.v x_1)]), (b_2, [(Sl.v x_1)]), (b_1, [(Sl.v g0_1)])]) rfl (fun h_7 hf_4 hL_7 => ?_)
   refine rop_locA agg28 hL_7 0 rfl 0 (vs := [(Sl.v x_1)]) rfl rfl ?_
   have H := H  h_7  (Fr.old (Fr.r (In []) _) hf_4) hL_7
   exact H
  have H := H.2 hb_5
  obtain ⟨J_2, H, HB_1⟩ := H
  refine ⟨fun (vs : List Value) (h' : Heap) => ∃ x_2 : Int, vs = [(VI x_2)] ∧ J_2 x_2 h' ∧ Vars h' [(b_3, [(Sl.v nilSl)]), (b_2, [(Sl.v x_1)]), (b_1, [(Sl.v g0_1)])], ?_, ?_⟩
  ·refine pop_len choices3_1 _ _ sli29 ?_
   refine pop_lss .i64 n11_1 (choices3_1.n : Int) ?_
   refine condM_b (fun hb_6 => ?_) (fun hb_6 => ?_)
   rotate_left
   ·have H := H.2 hb_6
    exact ⟨0, rfl, H, hL_5⟩
   have H := H.1 hb_6
   obtain ⟨hi_2, H⟩ := H
   refine pop_index sli29 siz3 .i64 choices3_1 n11_1 hi_2 ?_
   obtain ⟨t43_1, hc_1, H⟩ := H
   refine rop_one one3 (VI t43_1) hc_1 ?_
   refine pop_len t22_1 _ _ sli24 ?_
   obtain ⟨hz_1, H⟩ := H
   refine pop_rem .i64 t43_1 (t22_1.n : Int) hz_1 ?_
   exact ⟨(Int.tmod t43_1 (t22_1.n : Int)), rfl, H, hL_5⟩
  intro junk_2 tv_1 h_8
  rintro ⟨x_2, hv, hJ_2, hL_8⟩
  cases hv
  have H := HB_1 x_2 h_8 hJ_2 hL_8
  refine rop_locA agg28 hL_8 1 rfl 0 (vs := [(Sl.v x_1)]) rfl rfl ?_
  obtain ⟨hi_3, H⟩ := H
  refine pop_index sli24 siz29 .i64 t22_1 x_2 hi_3 ?_
  obtain ⟨t51_1, hc_2, H⟩ := H
  refine rop_one one29 (Sl.v t51_1) hc_2 ?_
  refine H.mono fun rv_3 h_9 H => ?_
  obtain ⟨t52_1, rfl, hL_9, H⟩ := H
  refine uop_loc siz28 hL_9 1 rfl 0 [(Sl.v t52_1)] rfl rfl rfl (Nat.le_of_ble_eq_true rfl) (L' := [(b_3, [(Sl.v nilSl)]), (b_2, [(Sl.v t52_1)]), (b_1, [(Sl.v g0_1)])]) rfl (fun h_10 hf_5 hL_10 => ?_)
  refine pop_add .i64 n11_1 1 ?_
  have H := H  h_10  (Fr.old (Fr.r (In []) _) hf_5) hL_10
  obtain ⟨m_1, hm_1, H⟩ := H
  exact hn_1 _ _ ⟨m_1, hm_1, (w64 (n11_1 + 1)), t52_1, rfl, H, hL_10⟩
def u58 (P : Program) (s0_1 : Sl) (cycle1_1 : Sl) (h : Heap) (K : Value → Heap → Prop) : Prop :=
  ∀ (b_1 : Nat) (b_2 : Nat) (b_3 : Nat) (h_4 : Heap), h.size ≤ b_1 → h.size ≤ b_2 → h.size ≤ b_3 → Fr (In []) h h_4 → Vars h_4 [(b_3, [(Sl.v nilSl)]), (b_2, [(Sl.v nilSl)]), (b_1, [(Sl.v s0_1)])] →
  ∃ J_1 : Nat → Int → Sl → Heap → Prop, (∃ n0 : Nat, J_1 n0 0 nilSl h_4) ∧
  ∀ (n_1 : Nat) (t12_1 : Int) (x_1 : Sl) (h_5 : Heap), J_1 n_1 t12_1 x_1 h_5 → Vars h_5 [(b_3, [(Sl.v x_1)]), (b_2, [(Sl.v nilSl)]), (b_1, [(Sl.v s0_1)])] →
  ((decide (t12_1 < (s0_1.n : Int))) = true →
  InB s0_1 t12_1 ∧
  ∃ t16_1 : Sl, hcell h_5 (Sl.at s0_1 t12_1 1) = some (Sl.v t16_1) ∧
  ∃ J_2 : Sl → Heap → Prop, (callM P 112 #[(Sl.v cycle1_1), (VI t12_1)] h_5 fun rv_1 h_6 => ∃ t19_1 : Bool, rv_1 = (VB t19_1) ∧ Vars h_6 [(b_3, [(Sl.v x_1)]), (b_2, [(Sl.v nilSl)]), (b_1, [(Sl.v s0_1)])] ∧
  (t19_1 = true →
  pop P (Instr.sliceAt 29 (Sl.v t16_1) (some (Value.int IntKind.i64 1)) none none) fun rv_2 => ∃ t21_1 : Sl, rv_2 = (Sl.v t21_1) ∧ 
  J_2 t21_1 h_6) ∧
  (t19_1 = false →
  J_2 t16_1 h_6)) ∧
  ∀ (x_2 : Sl) (h_7 : Heap), J_2 x_2 h_7 → Vars h_7 [(b_3, [(Sl.v x_1)]), (b_2, [(Sl.v nilSl)]), (b_1, [(Sl.v s0_1)])] →
  callM P 79 #[(Sl.v x_2)] h_7 fun rv_3 h_8 => ∃ t25_1 : Sl, rv_3 = (Sl.v t25_1) ∧ Vars h_8 [(b_3, [(Sl.v x_1)]), (b_2, [(Sl.v nilSl)]), (b_1, [(Sl.v s0_1)])] ∧
  eop P (Instr.buildSlice 24 1 #[(0, (Sl.v t25_1))]) h_8 fun rv_4 h_9 => ∃ t26_1 : Sl, rv_4 = (Sl.v t26_1) ∧ Vars h_9 [(b_3, [(Sl.v x_1)]), (b_2, [(Sl.v nilSl)]), (b_1, [(Sl.v s0_1)])] ∧
  eop P (appS 24 24 24 (Sl.v x_1) (Sl.v t26_1)) h_9 fun rv_5 h_10 => ∃ t27_1 : Sl, rv_5 = (Sl.v t27_1) ∧ Vars h_10 [(b_3, [(Sl.v x_1)]), (b_2, [(Sl.v nilSl)]), (b_1, [(Sl.v s0_1)])] ∧
  ∀ (h_11 : Heap), Fr (In [b_3]) h_10 h_11 → Vars h_11 [(b_3, [(Sl.v t27_1)]), (b_2, [(Sl.v nilSl)]), (b_1, [(Sl.v s0_1)])] →
  ∃ m : Nat, m < n_1 ∧ J_1 m (w64 (t12_1 + 1)) t27_1 h_11) ∧
  ((decide (t12_1 < (s0_1.n : Int))) = false →
  ∀ (h_12 : Heap), Fr (In [b_2]) h_5 h_12 → Vars h_12 [(b_3, [(Sl.v x_1)]), (b_2, [(Sl.v x_1)]), (b_1, [(Sl.v s0_1)])] →
  K (Value.agg #[(Sl.v x_1)]) h_12)
theorem v58 (s0_1 : Sl) (cycle1_1 : Sl) (h : Heap) (K : Value → Heap → Prop) (H : u58 Tryz.prog s0_1 cycle1_1 h K) : callM Tryz.prog 58 #[(Value.agg #[(Sl.v s0_1)]), (Sl.v cycle1_1)] h K := by
  refine c58 (Value.agg #[(Sl.v s0_1)]) (Sl.v cycle1_1) h K ?_
  unfold u58 at H
  unfold t58
  have hL : Vars h [] := .nil
  refine eop_box 28 (Value.agg #[(Sl.v s0_1)]) rfl hL (fun b_1 h_1 hb_1 hf_1 hL_1 => ?_)
  refine eop_alloc 28 zer28 rfl hL_1 (fun b_2 h_2 hb_2 hf_2 hL_2 => ?_)
  refine pop.mk' (v := (Value.agg #[(Sl.v nilSl)])) (fun w => by kernel_rfl) ?_
  refine eop_alloc 28 zer28 rfl hL_2 (fun b_3 h_3 hb_3 hf_3 hL_3 => ?_)
  refine uop_loc siz28 hL_3 0 rfl 0 [(Sl.v nilSl)] rfl rfl rfl (Nat.le_of_ble_eq_true rfl) (L' := [(b_3, [(Sl.v nilSl)]), (b_2, [(Sl.v nilSl)]), (b_1, [(Sl.v s0_1)])]) rfl (fun h_4 hf_4 hL_4 => ?_)
  refine pop_field 0 fld28_0 b_1 0 ?_
  refine rop_loc one24 hL_4 2 rfl 0 (v := (Sl.v s0_1)) rfl ?_
  refine pop_len s0_1 _ _ sli24 ?_
  have H := H b_1 b_2 b_3 h_4 (Nat.le_trans (Fr.size (Fr.r (In []) _)) hb_1) (Nat.le_trans (Fr.size (Fr.no' (Fr.r (In []) _) hf_1)) hb_2) (Nat.le_trans (Fr.size (Fr.no' (Fr.no' (Fr.r (In []) _) hf_1) hf_2)) hb_3) (Fr.new (Fr.no' (Fr.no' (Fr.no' (Fr.r (In []) _) hf_1) hf_2) hf_3) (Nat.le_trans (Fr.size (Fr.no' (Fr.no' (Fr.r (In []) _) hf_1) hf_2)) hb_3) hf_4) hL_4
  obtain ⟨J_1, ⟨n_2, h0_1⟩, HB_2⟩ := H
  refine loop_intro (J := fun (n : Nat) (vs : List Value) (h' : Heap) => ∃ t12_1 : Int, ∃ x_1 : Sl, vs = [(VI t12_1)] ∧ J_1 n t12_1 x_1 h' ∧ Vars h' [(b_3, [(Sl.v x_1)]), (b_2, [(Sl.v nilSl)]), (b_1, [(Sl.v s0_1)])]) n_2 ⟨0, nilSl, rfl, h0_1, hL_4⟩ ?_
  intro I_1 mu_1 hI_1 junk_1 tv_2 h_5 hi_1
  obtain ⟨n_1, ⟨t12_1, x_1, hv, hJ_1, hL_5⟩, hn_1⟩ := hI_1 _ _ hi_1
  cases hv
  have H := HB_2 n_1 t12_1 x_1 h_5 hJ_1 hL_5
  refine pop_lss .i64 t12_1 (s0_1.n : Int) ?_
  refine condM_b (fun hb_4 => ?_) (fun hb_4 => ?_)
  rotate_left
  ·have H := H.2 hb_4
   refine rop_locA agg28 hL_5 0 rfl 0 (vs := [(Sl.v x_1)]) rfl rfl ?_
   refine uop_loc siz28 hL_5 1 rfl 0 [(Sl.v x_1)] rfl rfl rfl (Nat.le_of_ble_eq_true rfl) (L' := [(b_3, [(Sl.v x_1)]), (b_2, [(Sl.v x_1)]), (b_1, [(Sl.v s0_1)])]) rfl (fun h_12 hf_6 hL_12 => ?_)
   refine rop_locA agg28 hL_12 1 rfl 0 (vs := [(Sl.v x_1)]) rfl rfl ?_
   have H := H  h_12  (Fr.old (Fr.r (In []) _) hf_6) hL_12
   exact H
  have H := H.1 hb_4
  obtain ⟨hi_2, H⟩ := H
  refine pop_index sli24 siz29 .i64 s0_1 t12_1 hi_2 ?_
  obtain ⟨t16_1, hc_1, H⟩ := H
  refine rop_one one29 (Sl.v t16_1) hc_1 ?_
  obtain ⟨J_2, H, HB_1⟩ := H
  refine ⟨fun (vs : List Value) (h' : Heap) => ∃ x_2 : Sl, vs = [(Sl.v x_2)] ∧ J_2 x_2 h' ∧ Vars h' [(b_3, [(Sl.v x_1)]), (b_2, [(Sl.v nilSl)]), (b_1, [(Sl.v s0_1)])], ?_, ?_⟩
  ·refine H.mono fun rv_1 h_6 H => ?_
   obtain ⟨t19_1, rfl, hL_6, H⟩ := H
   refine condM_b (fun hb_5 => ?_) (fun hb_5 => ?_)
   rotate_left
   ·have H := H.2 hb_5
    exact ⟨t16_1, rfl, H, hL_6⟩
   have H := H.1 hb_5
   refine H.mono fun rv_2 H => ?_
   obtain ⟨t21_1, rfl, H⟩ := H
   exact ⟨t21_1, rfl, H, hL_6⟩
  intro junk_2 tv_1 h_7
  rintro ⟨x_2, hv, hJ_2, hL_7⟩
  cases hv
  have H := HB_1 x_2 h_7 hJ_2 hL_7
  refine pop_field 0 fld28_0 b_3 0 ?_
  refine rop_loc one24 hL_7 0 rfl 0 (v := (Sl.v x_1)) rfl ?_
  refine H.mono fun rv_3 h_8 H => ?_
  obtain ⟨t25_1, rfl, hL_8, H⟩ := H
  refine ⟨?_, ?_⟩
  ·exact still_loc one24 hL_8 0 rfl 0 (v := (Sl.v x_1)) rfl
  refine H.mono fun rv_4 h_9 H => ?_
  obtain ⟨t26_1, rfl, hL_9, H⟩ := H
  refine ⟨?_, ?_⟩
  ·exact still_loc one24 hL_9 0 rfl 0 (v := (Sl.v x_1)) rfl
  refine H.mono fun rv_5 h_10 H => ?_
  obtain ⟨t27_1, rfl, hL_10, H⟩ := H
  refine pop_field 0 fld28_0 b_3 0 ?_
  refine uop_loc siz24 hL_10 0 rfl 0 [(Sl.v t27_1)] rfl rfl rfl (Nat.le_of_ble_eq_true rfl) (L' := [(b_3, [(Sl.v t27_1)]), (b_2, [(Sl.v nilSl)]), (b_1, [(Sl.v s0_1)])]) rfl (fun h_11 hf_5 hL_11 => ?_)
  refine pop_add .i64 t12_1 1 ?_
  have H := H  h_11  (Fr.old (Fr.r (In []) _) hf_5) hL_11
  obtain ⟨m_1, hm_1, H⟩ := H
  exact hn_1 _ _ ⟨m_1, hm_1, (w64 (t12_1 + 1)), t27_1, rfl, H, hL_11⟩
def u59 (P : Program) (s0_1 : Sl) (sink1_1 : Int) (h : Heap) (K : Value → Heap → Prop) : Prop :=
  ∀ (b_1 : Nat) (h_1 : Heap), h.size ≤ b_1 → Fr (In []) h h_1 → Vars h_1 [(b_1, [(Sl.v s0_1)])] →
  eop P (Instr.buildSlice 29 0 #[]) h_1 fun rv_1 h_2 => ∃ t9_1 : Sl, rv_1 = (Sl.v t9_1) ∧ Vars h_2 [(b_1, [(Sl.v s0_1)])] ∧
  ∃ J_1 : Nat → Sl → Int → Heap → Prop, (∃ n0 : Nat, J_1 n0 t9_1 0 h_2) ∧
  ∀ (n_1 : Nat) (out6_1 : Sl) (t13_1 : Int) (h_3 : Heap), J_1 n_1 out6_1 t13_1 h_3 → Vars h_3 [(b_1, [(Sl.v s0_1)])] →
  ((decide (t13_1 < (s0_1.n : Int))) = true →
  InB s0_1 t13_1 ∧
  ∃ t17_1 : Sl, hcell h_3 (Sl.at s0_1 t13_1 1) = some (Sl.v t17_1) ∧
  ((decide (t13_1 = sink1_1)) = true →
  eop P (Instr.buildSlice 29 1 #[(0, (Value.int IntKind.i64 0))]) h_3 fun rv_2 h_4 => ∃ t29_1 : Sl, rv_2 = (Sl.v t29_1) ∧ Vars h_4 [(b_1, [(Sl.v s0_1)])] ∧
  eop P (appS 29 29 29 (Sl.v out6_1) (Sl.v t29_1)) h_4 fun rv_3 h_5 => ∃ t30_1 : Sl, rv_3 = (Sl.v t30_1) ∧ Vars h_5 [(b_1, [(Sl.v s0_1)])] ∧
  ∃ m : Nat, m < n_1 ∧ J_1 m t30_1 (w64 (t13_1 + 1)) h_5) ∧
  ((decide (t13_1 = sink1_1)) = false →
  ((decide ((t17_1.n : Int) = 0)) = true →
  K (Value.tuple #[(Sl.v nilSl), (VB false)]) h_3) ∧
  ((decide ((t17_1.n : Int) = 0)) = false →
  InB t17_1 0 ∧
  ∃ t21_1 : Int, hcell h_3 (Sl.at t17_1 0 1) = some (VI t21_1) ∧
  eop P (Instr.buildSlice 29 1 #[(0, (VI t21_1))]) h_3 fun rv_4 h_6 => ∃ t22_1 : Sl, rv_4 = (Sl.v t22_1) ∧ Vars h_6 [(b_1, [(Sl.v s0_1)])] ∧
  eop P (appS 29 29 29 (Sl.v out6_1) (Sl.v t22_1)) h_6 fun rv_5 h_7 => ∃ t23_1 : Sl, rv_5 = (Sl.v t23_1) ∧ Vars h_7 [(b_1, [(Sl.v s0_1)])] ∧
  ∃ m : Nat, m < n_1 ∧ J_1 m t23_1 (w64 (t13_1 + 1)) h_7))) ∧
  ((decide (t13_1 < (s0_1.n : Int))) = false →
  K (Value.tuple #[(Sl.v out6_1), (VB true)]) h_3)
end Go.Proofs.YtkjkfjkapbpgiaaGreat
