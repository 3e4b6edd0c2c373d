import Derived.Test.YtkjkfjkapbpgiaaDoorWalksTurnT
import Derived.Test.YtkjkfjkapbpgiaaDoorM2
set_option linter.unusedVariables false
set_option linter.unusedSimpArgs false
set_option maxRecDepth 100000
set_option maxHeartbeats 16000000
namespace Go.Proofs.YtkjkfjkapbpgiaaDoor
open Go Go.Mx
theorem agg41 : aggC Tryd.prog 41 = some 1 := by kernel_rfl
theorem agg43 : aggC Tryd.prog 43 = some 2 := by kernel_rfl
theorem agg96 : aggC Tryd.prog 96 = some 5 := by kernel_rfl
theorem boo4 : Tryd.prog.underlying 4 = some .bool := by kernel_rfl
theorem fld123_0 : fieldC Tryd.prog 123 0 = some 0 := by kernel_rfl
theorem fld123_1 : fieldC Tryd.prog 123 1 = some 1 := by kernel_rfl
theorem fld123_2 : fieldC Tryd.prog 123 2 = some 2 := by kernel_rfl
theorem fld41_0 : fieldC Tryd.prog 41 0 = some 0 := by kernel_rfl
theorem fld43_0 : fieldC Tryd.prog 43 0 = some 0 := by kernel_rfl
theorem fld43_1 : fieldC Tryd.prog 43 1 = some 1 := by kernel_rfl
theorem fld96_0 : fieldC Tryd.prog 96 0 = some 0 := by kernel_rfl
theorem fld96_1 : fieldC Tryd.prog 96 1 = some 2 := by kernel_rfl
theorem fld96_2 : fieldC Tryd.prog 96 2 = some 3 := by kernel_rfl
theorem fld96_3 : fieldC Tryd.prog 96 3 = some 4 := by kernel_rfl
theorem one121 : oneC Tryd.prog 121 = true := by kernel_rfl
theorem one22 : oneC Tryd.prog 22 = true := by kernel_rfl
theorem one3 : oneC Tryd.prog 3 = true := by kernel_rfl
theorem one34 : oneC Tryd.prog 34 = true := by kernel_rfl
theorem one48 : oneC Tryd.prog 48 = true := by kernel_rfl
theorem one5 : oneC Tryd.prog 5 = true := by kernel_rfl
theorem siz121 : sizeC Tryd.prog 121 = some 1 := by kernel_rfl
theorem siz22 : sizeC Tryd.prog 22 = some 1 := by kernel_rfl
theorem siz3 : sizeC Tryd.prog 3 = some 1 := by kernel_rfl
theorem siz34 : sizeC Tryd.prog 34 = some 1 := by kernel_rfl
theorem siz41 : sizeC Tryd.prog 41 = some 1 := by kernel_rfl
theorem siz43 : sizeC Tryd.prog 43 = some 2 := by kernel_rfl
theorem siz5 : sizeC Tryd.prog 5 = some 1 := by kernel_rfl
theorem siz96 : sizeC Tryd.prog 96 = some 5 := by kernel_rfl
theorem sli22 : Tryd.prog.underlying 22 = some (.slice 34) := by kernel_rfl
theorem sli34 : Tryd.prog.underlying 34 = some (.slice 3) := by kernel_rfl
theorem sli48 : Tryd.prog.underlying 48 = some (.slice 5) := by kernel_rfl
theorem sli65 : Tryd.prog.underlying 65 = some (.slice 43) := by kernel_rfl
theorem zer22 : zeroC Tryd.prog 22 = some (Sl.v nilSl) := by kernel_rfl
theorem zer3 : zeroC Tryd.prog 3 = some (VI 0) := by kernel_rfl
theorem zer34 : zeroC Tryd.prog 34 = some (Sl.v nilSl) := by kernel_rfl
theorem zer41 : zeroC Tryd.prog 41 = some (Value.agg #[(Sl.v nilSl)]) := by kernel_rfl
theorem zer43 : zeroC Tryd.prog 43 = some (Value.agg #[(Sl.v nilSl), (VI 0)]) := by kernel_rfl
theorem zer96 : zeroC Tryd.prog 96 = some (Value.agg #[(Sl.v nilSl), (VI 0), (Sl.v nilSl), (Sl.v nilSl), (Sl.v nilSl)]) := by kernel_rfl
def u5 (P : Program) (code0_1 : Sl) (more1_1 : Sl) (h : Heap) (K : Value → Heap → Prop) : Prop :=
  callM P 20 #[(Sl.v code0_1), (Sl.v more1_1)] h fun rv_1 h_1 => ∃ t62_1 : Bool, rv_1 = (VB t62_1) ∧ Vars h_1 [] ∧
  (t62_1 = true →
  K (VB true) h_1) ∧
  (t62_1 = false →
  callM P 21 #[(Sl.v code0_1)] h_1 fun rv_2 h_2 => ∃ t65_1 : Sl, ∃ t65_2 : Sl, ∃ t65_3 : Int, ∃ t65_4 : Int, rv_2 = (Value.tuple #[(Value.agg #[(Sl.v t65_1)]), (Value.agg #[(Sl.v t65_2), (VI t65_3)]), (VI t65_4)]) ∧ Vars h_2 [] ∧
  ∀ (b_1 : Nat) (b_2 : Nat) (h_6 : Heap), h_2.size ≤ b_1 → h_2.size ≤ b_2 → Fr (In []) h_2 h_6 → Vars h_6 [(b_2, [(Sl.v t65_2), (VI t65_3)]), (b_1, [(Sl.v t65_1)])] →
  callM P 22 #[(Value.agg #[(Sl.v t65_1)]), (Value.agg #[(Sl.v t65_2), (VI t65_3)]), (VI t65_4)] h_6 fun rv_3 h_7 => ∃ t73_1 : Sl, ∃ t73_2 : Bool, rv_3 = (Value.tuple #[(Sl.v t73_1), (VB t73_2)]) ∧ Vars h_7 [(b_2, [(Sl.v t65_2), (VI t65_3)]), (b_1, [(Sl.v t65_1)])] ∧
  callM P 23 #[(Value.agg #[(Sl.v t65_1)]), (Value.agg #[(Sl.v t65_2), (VI t65_3)]), (VI t65_4)] h_7 fun rv_4 h_8 => ∃ t80_1 : Sl, ∃ t80_2 : Bool, rv_4 = (Value.tuple #[(Sl.v t80_1), (VB t80_2)]) ∧ Vars h_8 [(b_2, [(Sl.v t65_2), (VI t65_3)]), (b_1, [(Sl.v t65_1)])] ∧
  callM P 24 #[(Value.agg #[(Sl.v t65_1)]), (Value.agg #[(Sl.v t65_2), (VI t65_3)]), (VI t65_4)] h_8 fun rv_5 h_9 => ∃ t87_1 : Sl, ∃ t87_2 : Bool, rv_5 = (Value.tuple #[(Sl.v t87_1), (VB t87_2)]) ∧ Vars h_9 [(b_2, [(Sl.v t65_2), (VI t65_3)]), (b_1, [(Sl.v t65_1)])] ∧
  callM P 25 #[(Value.agg #[(Sl.v t65_1)]), (Value.agg #[(Sl.v t65_2), (VI t65_3)]), (VI t65_4)] h_9 fun rv_6 h_10 => ∃ t94_1 : Sl, ∃ t94_2 : Bool, rv_6 = (Value.tuple #[(Sl.v t94_1), (VB t94_2)]) ∧ Vars h_10 [(b_2, [(Sl.v t65_2), (VI t65_3)]), (b_1, [(Sl.v t65_1)])] ∧
  callM P 26 #[(Value.agg #[(Sl.v t65_1)]), (Value.agg #[(Sl.v t65_2), (VI t65_3)]), (VI t65_4)] h_10 fun rv_7 h_11 => ∃ t101_1 : Sl, ∃ t101_2 : Int, ∃ t101_3 : Bool, rv_7 = (Value.tuple #[(Value.agg #[(Sl.v t101_1), (VI t101_2)]), (VB t101_3)]) ∧ Vars h_11 [(b_2, [(Sl.v t65_2), (VI t65_3)]), (b_1, [(Sl.v t65_1)])] ∧
  ∀ (b_3 : Nat) (h_13 : Heap), h_11.size ≤ b_3 → Fr (In []) h_11 h_13 → Vars h_13 [(b_3, [(Sl.v t101_1), (VI t101_2)]), (b_2, [(Sl.v t65_2), (VI t65_3)]), (b_1, [(Sl.v t65_1)])] →
  callM P 27 #[(Value.agg #[(Sl.v t65_1)]), (Value.agg #[(Sl.v t65_2), (VI t65_3)]), (VI t65_4)] h_13 fun rv_8 h_14 => ∃ t108_1 : Sl, ∃ t108_2 : Int, ∃ t108_3 : Bool, rv_8 = (Value.tuple #[(Value.agg #[(Sl.v t108_1), (VI t108_2)]), (VB t108_3)]) ∧ Vars h_14 [(b_3, [(Sl.v t101_1), (VI t101_2)]), (b_2, [(Sl.v t65_2), (VI t65_3)]), (b_1, [(Sl.v t65_1)])] ∧
  ∀ (b_4 : Nat) (h_16 : Heap), h_14.size ≤ b_4 → Fr (In []) h_14 h_16 → Vars h_16 [(b_4, [(Sl.v t108_1), (VI t108_2)]), (b_3, [(Sl.v t101_1), (VI t101_2)]), (b_2, [(Sl.v t65_2), (VI t65_3)]), (b_1, [(Sl.v t65_1)])] →
  callM P 28 #[(Value.agg #[(Sl.v t65_1)]), (Value.agg #[(Sl.v t65_2), (VI t65_3)]), (VI t65_4)] h_16 fun rv_9 h_17 => ∃ t115_1 : Sl, ∃ t115_2 : Bool, rv_9 = (Value.tuple #[(Sl.v t115_1), (VB t115_2)]) ∧ Vars h_17 [(b_4, [(Sl.v t108_1), (VI t108_2)]), (b_3, [(Sl.v t101_1), (VI t101_2)]), (b_2, [(Sl.v t65_2), (VI t65_3)]), (b_1, [(Sl.v t65_1)])] ∧
  callM P 29 #[(Value.agg #[(Sl.v t65_1)]), (Value.agg #[(Sl.v t65_2), (VI t65_3)]), (VI t65_4)] h_17 fun rv_10 h_18 => ∃ t122_1 : Sl, ∃ t122_2 : Bool, rv_10 = (Value.tuple #[(Sl.v t122_1), (VB t122_2)]) ∧ Vars h_18 [(b_4, [(Sl.v t108_1), (VI t108_2)]), (b_3, [(Sl.v t101_1), (VI t101_2)]), (b_2, [(Sl.v t65_2), (VI t65_3)]), (b_1, [(Sl.v t65_1)])] ∧
  ((!(t73_2 == t80_2)) = true →
  K (VB false) h_18) ∧
  ((!(t73_2 == t80_2)) = false →
  callM P 30 #[(Sl.v t73_1), (Sl.v t80_1)] h_18 fun rv_11 h_19 => ∃ t131_1 : Bool, rv_11 = (VB t131_1) ∧ Vars h_19 [(b_4, [(Sl.v t108_1), (VI t108_2)]), (b_3, [(Sl.v t101_1), (VI t101_2)]), (b_2, [(Sl.v t65_2), (VI t65_3)]), (b_1, [(Sl.v t65_1)])] ∧
  ((!t131_1) = true →
  K (VB false) h_19) ∧
  ((!t131_1) = false →
  ((!(t87_2 == t94_2)) = true →
  K (VB false) h_19) ∧
  ((!(t87_2 == t94_2)) = false →
  callM P 31 #[(Sl.v t87_1), (Sl.v t94_1)] h_19 fun rv_12 h_20 => ∃ t142_1 : Bool, rv_12 = (VB t142_1) ∧ Vars h_20 [(b_4, [(Sl.v t108_1), (VI t108_2)]), (b_3, [(Sl.v t101_1), (VI t101_2)]), (b_2, [(Sl.v t65_2), (VI t65_3)]), (b_1, [(Sl.v t65_1)])] ∧
  ((!t142_1) = true →
  K (VB false) h_20) ∧
  ((!t142_1) = false →
  ((!(t101_3 == t108_3)) = true →
  K (VB false) h_20) ∧
  ((!(t101_3 == t108_3)) = false →
  callM P 32 #[(Value.agg #[(Sl.v t101_1), (VI t101_2)]), (Value.agg #[(Sl.v t108_1), (VI t108_2)])] h_20 fun rv_13 h_21 => ∃ t153_1 : Bool, rv_13 = (VB t153_1) ∧ Vars h_21 [(b_4, [(Sl.v t108_1), (VI t108_2)]), (b_3, [(Sl.v t101_1), (VI t101_2)]), (b_2, [(Sl.v t65_2), (VI t65_3)]), (b_1, [(Sl.v t65_1)])] ∧
  ((!t153_1) = true →
  K (VB false) h_21) ∧
  ((!t153_1) = false →
  ((!(t115_2 == t122_2)) = true →
  K (VB false) h_21) ∧
  ((!(t115_2 == t122_2)) = false →
  callM P 31 #[(Sl.v t115_1), (Sl.v t122_1)] h_21 fun rv_14 h_22 => ∃ t164_1 : Bool, rv_14 = (VB t164_1) ∧ Vars h_22 [(b_4, [(Sl.v t108_1), (VI t108_2)]), (b_3, [(Sl.v t101_1), (VI t101_2)]), (b_2, [(Sl.v t65_2), (VI t65_3)]), (b_1, [(Sl.v t65_1)])] ∧
  ((!t164_1) = true →
  K (VB false) h_22) ∧
  ((!t164_1) = false →
  ((!(t87_2 == t73_2)) = true →
  K (VB false) h_22) ∧
  ((!(t87_2 == t73_2)) = false →
  ((!(t101_3 == t73_2)) = true →
  K (VB false) h_22) ∧
  ((!(t101_3 == t73_2)) = false →
  (t115_2 = true →
  ((!t73_2) = true →
  K (VB false) h_22) ∧
  ((!t73_2) = false →
  ∃ J_1 : Heap → Prop, ((t73_2 = true →
  eop P (Instr.makeSlice 34 (VI (t65_1.n : Int)) (VI (t65_1.n : Int))) h_22 fun rv_15 h_23 => ∃ t188_1 : Sl, rv_15 = (Sl.v t188_1) ∧ Vars h_23 [(b_4, [(Sl.v t108_1), (VI t108_2)]), (b_3, [(Sl.v t101_1), (VI t101_2)]), (b_2, [(Sl.v t65_2), (VI t65_3)]), (b_1, [(Sl.v t65_1)])] ∧
  ∃ J_2 : Nat → Int → Int → Heap → Prop, (∃ n0 : Nat, J_2 n0 0 0 h_23) ∧
  ∀ (n_1 : Nat) (total24_1 : Int) (t191_1 : Int) (h_24 : Heap), J_2 n_1 total24_1 t191_1 h_24 → Vars h_24 [(b_4, [(Sl.v t108_1), (VI t108_2)]), (b_3, [(Sl.v t101_1), (VI t101_2)]), (b_2, [(Sl.v t65_2), (VI t65_3)]), (b_1, [(Sl.v t65_1)])] →
  ((decide (t191_1 < (t73_1.n : Int))) = true →
  InB t73_1 t191_1 ∧
  ∃ t195_1 : Sl, hcell h_24 (Sl.at t73_1 t191_1 1) = some (Sl.v t195_1) ∧
  ∃ J_3 : Nat → Int → Int → Int → Int → Heap → Prop, (∃ n0 : Nat, J_3 n0 total24_1 t65_4 0 0 h_24) ∧
  ∀ (n_2 : Nat) (total24_2 : Int) (least28_1 : Int) (most29_1 : Int) (t199_1 : Int) (h_25 : Heap), J_3 n_2 total24_2 least28_1 most29_1 t199_1 h_25 → Vars h_25 [(b_4, [(Sl.v t108_1), (VI t108_2)]), (b_3, [(Sl.v t101_1), (VI t101_2)]), (b_2, [(Sl.v t65_2), (VI t65_3)]), (b_1, [(Sl.v t65_1)])] →
  ((decide (t199_1 < (t195_1.n : Int))) = true →
  InB t195_1 t199_1 ∧
  ∃ t203_1 : Int, hcell h_25 (Sl.at t195_1 t199_1 1) = some (VI t203_1) ∧
  ∃ J_4 : Int → Heap → Prop, (((decide (t203_1 < least28_1)) = true →
  J_4 t203_1 h_25) ∧
  ((decide (t203_1 < least28_1)) = false →
  J_4 least28_1 h_25)) ∧
  ∀ (x_1 : Int) (h_26 : Heap), J_4 x_1 h_26 → Vars h_26 [(b_4, [(Sl.v t108_1), (VI t108_2)]), (b_3, [(Sl.v t101_1), (VI t101_2)]), (b_2, [(Sl.v t65_2), (VI t65_3)]), (b_1, [(Sl.v t65_1)])] →
  ∃ J_5 : Int → Heap → Prop, (((decide (most29_1 < t203_1)) = true →
  J_5 t203_1 h_26) ∧
  ((decide (most29_1 < t203_1)) = false →
  J_5 most29_1 h_26)) ∧
  ∀ (x_2 : Int) (h_27 : Heap), J_5 x_2 h_27 → Vars h_27 [(b_4, [(Sl.v t108_1), (VI t108_2)]), (b_3, [(Sl.v t101_1), (VI t101_2)]), (b_2, [(Sl.v t65_2), (VI t65_3)]), (b_1, [(Sl.v t65_1)])] →
  InB t65_1 t191_1 ∧
  ∃ t220_1 : Sl, hcell h_27 (Sl.at t65_1 t191_1 1) = some (Sl.v t220_1) ∧
  InB t220_1 t199_1 ∧
  ∃ t223_1 : Int, hcell h_27 (Sl.at t220_1 t199_1 1) = some (VI t223_1) ∧
  InB t188_1 t223_1 ∧
  ∃ t225_1 : Int, hcell h_27 (Sl.at t188_1 t223_1 1) = some (VI t225_1) ∧
  InB t188_1 t223_1 ∧
  Writable h_27 (Sl.at t188_1 t223_1 1) ∧ Vars (hset h_27 (Sl.at t188_1 t223_1 1) (VI (w64 (t225_1 + t203_1)))) [(b_4, [(Sl.v t108_1), (VI t108_2)]), (b_3, [(Sl.v t101_1), (VI t101_2)]), (b_2, [(Sl.v t65_2), (VI t65_3)]), (b_1, [(Sl.v t65_1)])] ∧
  ∀ h_28 : Heap, h_28 = hset h_27 (Sl.at t188_1 t223_1 1) (VI (w64 (t225_1 + t203_1))) → Vars h_28 [(b_4, [(Sl.v t108_1), (VI t108_2)]), (b_3, [(Sl.v t101_1), (VI t101_2)]), (b_2, [(Sl.v t65_2), (VI t65_3)]), (b_1, [(Sl.v t65_1)])] →
  ∃ m : Nat, m < n_2 ∧ J_3 m (w64 (total24_2 + t203_1)) x_1 x_2 (w64 (t199_1 + 1)) h_28) ∧
  ((decide (t199_1 < (t195_1.n : Int))) = false →
  ((decide (0 < (t195_1.n : Int))) = true →
  ((decide (1 < (w64 (most29_1 - least28_1)))) = true →
  K (VB false) h_25) ∧
  ((decide (1 < (w64 (most29_1 - least28_1)))) = false →
  InB t65_2 t191_1 ∧
  ∃ t247_1 : Int, hcell h_25 (Sl.at t65_2 t191_1 1) = some (VI t247_1) ∧
  InB t101_1 t191_1 ∧
  ∃ t258_1 : Int, hcell h_25 (Sl.at t101_1 t191_1 1) = some (VI t258_1) ∧
  callM P 33 #[(Sl.v t195_1)] h_25 fun rv_16 h_29 => ∃ t249_1 : Int, rv_16 = (VI t249_1) ∧ Vars h_29 [(b_4, [(Sl.v t108_1), (VI t108_2)]), (b_3, [(Sl.v t101_1), (VI t101_2)]), (b_2, [(Sl.v t65_2), (VI t65_3)]), (b_1, [(Sl.v t65_1)])] ∧
  hcell h_29 (Sl.at t101_1 t191_1 1) = some (VI t258_1) ∧
  hcell h_29 (Sl.at t65_2 t191_1 1) = some (VI t247_1) ∧
  (t195_1.n : Int) ≠ 0 ∧
  ((!decide ((Int.tmod (w64 (t247_1 + t249_1)) (t195_1.n : Int)) = t258_1)) = true →
  K (VB false) h_29) ∧
  ((!decide ((Int.tmod (w64 (t247_1 + t249_1)) (t195_1.n : Int)) = t258_1)) = false →
  ∃ m : Nat, m < n_1 ∧ J_2 m total24_2 (w64 (t191_1 + 1)) h_29))) ∧
  ((decide (0 < (t195_1.n : Int))) = false →
  ∃ m : Nat, m < n_1 ∧ J_2 m total24_2 (w64 (t191_1 + 1)) h_25))) ∧
  ((decide (t191_1 < (t73_1.n : Int))) = false →
  ((!decide (total24_1 = t65_4)) = true →
  K (VB false) h_24) ∧
  ((!decide (total24_1 = t65_4)) = false →
  callM P 33 #[(Sl.v t87_1)] h_24 fun rv_17 h_30 => ∃ t267_1 : Int, rv_17 = (VI t267_1) ∧ Vars h_30 [(b_4, [(Sl.v t108_1), (VI t108_2)]), (b_3, [(Sl.v t101_1), (VI t101_2)]), (b_2, [(Sl.v t65_2), (VI t65_3)]), (b_1, [(Sl.v t65_1)])] ∧
  ((!decide (t267_1 = t65_4)) = true →
  K (VB false) h_30) ∧
  ((!decide (t267_1 = t65_4)) = false →
  callM P 31 #[(Sl.v t188_1), (Sl.v t87_1)] h_30 fun rv_18 h_31 => ∃ t274_1 : Bool, rv_18 = (VB t274_1) ∧ Vars h_31 [(b_4, [(Sl.v t108_1), (VI t108_2)]), (b_3, [(Sl.v t101_1), (VI t101_2)]), (b_2, [(Sl.v t65_2), (VI t65_3)]), (b_1, [(Sl.v t65_1)])] ∧
  ((!t274_1) = true →
  K (VB false) h_31) ∧
  ((!t274_1) = false →
  callM P 34 #[(Value.agg #[(Sl.v t65_1)]), (Value.agg #[(Sl.v t101_1), (VI t101_2)])] h_31 fun rv_19 h_32 => ∃ t280_1 : Bool, rv_19 = (VB t280_1) ∧ Vars h_32 [(b_4, [(Sl.v t108_1), (VI t108_2)]), (b_3, [(Sl.v t101_1), (VI t101_2)]), (b_2, [(Sl.v t65_2), (VI t65_3)]), (b_1, [(Sl.v t65_1)])] ∧
  ((!t280_1) = true →
  K (VB false) h_32) ∧
  ((!t280_1) = false →
  J_1  h_32)))))) ∧
  (t73_2 = false →
  J_1  h_22)) ∧
  ∀ (h_33 : Heap), J_1  h_33 → Vars h_33 [(b_4, [(Sl.v t108_1), (VI t108_2)]), (b_3, [(Sl.v t101_1), (VI t101_2)]), (b_2, [(Sl.v t65_2), (VI t65_3)]), (b_1, [(Sl.v t65_1)])] →
  ∃ J_6 : Heap → Prop, (∀ (b_5 : Nat) (h_35 : Heap), h_33.size ≤ b_5 → Fr (In []) h_33 h_35 → Vars h_35 [(b_5, [(Sl.v t65_2), (VI t65_3)]), (b_4, [(Sl.v t108_1), (VI t108_2)]), (b_3, [(Sl.v t101_1), (VI t101_2)]), (b_2, [(Sl.v t65_2), (VI t65_3)]), (b_1, [(Sl.v t65_1)])] →
  ∃ J_7 : Nat → Int → Sl → Int → Heap → Prop, (∃ n0 : Nat, J_7 n0 0 t65_2 t65_3 h_35) ∧
  ∀ (n_5 : Nat) (t287_1 : Int) (x_3 : Sl) (x_4 : Int) (h_36 : Heap), J_7 n_5 t287_1 x_3 x_4 h_36 → Vars h_36 [(b_5, [(Sl.v x_3), (VI x_4)]), (b_4, [(Sl.v t108_1), (VI t108_2)]), (b_3, [(Sl.v t101_1), (VI t101_2)]), (b_2, [(Sl.v t65_2), (VI t65_3)]), (b_1, [(Sl.v t65_1)])] →
  ((decide (t287_1 < (t115_1.n : Int))) = true →
  InB t115_1 t287_1 ∧
  ∃ t291_1 : Int, hcell h_36 (Sl.at t115_1 t287_1 1) = some (VI t291_1) ∧
  ((!decide (x_4 = t291_1)) = true →
  K (VB false) h_36) ∧
  ((!decide (x_4 = t291_1)) = false →
  ((decide ((w64 (t287_1 + 1)) < (t115_1.n : Int))) = true →
  callM P 35 #[(Value.agg #[(Sl.v t65_1)]), (Value.agg #[(Sl.v x_3), (VI x_4)])] h_36 fun rv_20 h_37 => ∃ t304_1 : Sl, ∃ t304_2 : Int, ∃ t304_3 : Bool, rv_20 = (Value.tuple #[(Value.agg #[(Sl.v t304_1), (VI t304_2)]), (VB t304_3)]) ∧ Vars h_37 [(b_5, [(Sl.v x_3), (VI x_4)]), (b_4, [(Sl.v t108_1), (VI t108_2)]), (b_3, [(Sl.v t101_1), (VI t101_2)]), (b_2, [(Sl.v t65_2), (VI t65_3)]), (b_1, [(Sl.v t65_1)])] ∧
  ((!t304_3) = true →
  ∀ (b_6 : Nat) (h_39 : Heap), h_37.size ≤ b_6 → Fr (In []) h_37 h_39 → Vars h_39 [(b_6, [(Sl.v t304_1), (VI t304_2)]), (b_5, [(Sl.v x_3), (VI x_4)]), (b_4, [(Sl.v t108_1), (VI t108_2)]), (b_3, [(Sl.v t101_1), (VI t101_2)]), (b_2, [(Sl.v t65_2), (VI t65_3)]), (b_1, [(Sl.v t65_1)])] →
  K (VB false) h_39) ∧
  ((!t304_3) = false →
  ∀ (b_6 : Nat) (h_40 : Heap), h_37.size ≤ b_6 → Fr (In [b_5]) h_37 h_40 → Vars h_40 [(b_6, [(Sl.v t304_1), (VI t304_2)]), (b_5, [(Sl.v t304_1), (VI t304_2)]), (b_4, [(Sl.v t108_1), (VI t108_2)]), (b_3, [(Sl.v t101_1), (VI t101_2)]), (b_2, [(Sl.v t65_2), (VI t65_3)]), (b_1, [(Sl.v t65_1)])] →
  ∃ m : Nat, m < n_5 ∧ J_7 m (w64 (t287_1 + 1)) t304_1 t304_2 h_40)) ∧
  ((decide ((w64 (t287_1 + 1)) < (t115_1.n : Int))) = false →
  ∃ m : Nat, m < n_5 ∧ J_7 m (w64 (t287_1 + 1)) x_3 x_4 h_36))) ∧
  ((decide (t287_1 < (t115_1.n : Int))) = false →
  ((!decide ((t115_1.n : Int) = (w64 (t65_4 + 1)))) = true →
  K (VB false) h_36) ∧
  ((!decide ((t115_1.n : Int) = (w64 (t65_4 + 1)))) = false →
  callM P 32 #[(Value.agg #[(Sl.v x_3), (VI x_4)]), (Value.agg #[(Sl.v t101_1), (VI t101_2)])] h_36 fun rv_21 h_41 => ∃ t319_1 : Bool, rv_21 = (VB t319_1) ∧ Vars h_41 [(b_5, [(Sl.v x_3), (VI x_4)]), (b_4, [(Sl.v t108_1), (VI t108_2)]), (b_3, [(Sl.v t101_1), (VI t101_2)]), (b_2, [(Sl.v t65_2), (VI t65_3)]), (b_1, [(Sl.v t65_1)])] ∧
  ((!t319_1) = true →
  K (VB false) h_41) ∧
  ((!t319_1) = false →
  J_6  h_41)))) ∧
  ∀ (h_42 : Heap), J_6  h_42 → Vars h_42 [(b_4, [(Sl.v t108_1), (VI t108_2)]), (b_3, [(Sl.v t101_1), (VI t101_2)]), (b_2, [(Sl.v t65_2), (VI t65_3)]), (b_1, [(Sl.v t65_1)])] →
  callM P 36 #[(Sl.v more1_1)] h_42 fun rv_22 h_43 => ∃ t324_1 : Sl, ∃ t324_2 : Sl, ∃ t324_3 : Int, rv_22 = (Value.tuple #[(Value.agg #[(Sl.v t324_1)]), (Value.agg #[(Sl.v t324_2), (VI t324_3)])]) ∧ Vars h_43 [(b_4, [(Sl.v t108_1), (VI t108_2)]), (b_3, [(Sl.v t101_1), (VI t101_2)]), (b_2, [(Sl.v t65_2), (VI t65_3)]), (b_1, [(Sl.v t65_1)])] ∧
  ∀ (b_7 : Nat) (b_8 : Nat) (h_47 : Heap), h_43.size ≤ b_7 → h_43.size ≤ b_8 → Fr (In []) h_43 h_47 → Vars h_47 [(b_8, [(Sl.v t324_2), (VI t324_3)]), (b_7, [(Sl.v t324_1)]), (b_4, [(Sl.v t108_1), (VI t108_2)]), (b_3, [(Sl.v t101_1), (VI t101_2)]), (b_2, [(Sl.v t65_2), (VI t65_3)]), (b_1, [(Sl.v t65_1)])] →
  callM P 35 #[(Value.agg #[(Sl.v t324_1)]), (Value.agg #[(Sl.v t324_2), (VI t324_3)])] h_47 fun rv_23 h_48 => ∃ t330_1 : Sl, ∃ t330_2 : Int, ∃ t330_3 : Bool, rv_23 = (Value.tuple #[(Value.agg #[(Sl.v t330_1), (VI t330_2)]), (VB t330_3)]) ∧ Vars h_48 [(b_8, [(Sl.v t324_2), (VI t324_3)]), (b_7, [(Sl.v t324_1)]), (b_4, [(Sl.v t108_1), (VI t108_2)]), (b_3, [(Sl.v t101_1), (VI t101_2)]), (b_2, [(Sl.v t65_2), (VI t65_3)]), (b_1, [(Sl.v t65_1)])] ∧
  ∀ (b_9 : Nat) (h_50 : Heap), h_48.size ≤ b_9 → Fr (In []) h_48 h_50 → Vars h_50 [(b_9, [(Sl.v t330_1), (VI t330_2)]), (b_8, [(Sl.v t324_2), (VI t324_3)]), (b_7, [(Sl.v t324_1)]), (b_4, [(Sl.v t108_1), (VI t108_2)]), (b_3, [(Sl.v t101_1), (VI t101_2)]), (b_2, [(Sl.v t65_2), (VI t65_3)]), (b_1, [(Sl.v t65_1)])] →
  callM P 37 #[(Value.agg #[(Sl.v t324_1)]), (Value.agg #[(Sl.v t324_2), (VI t324_3)])] h_50 fun rv_24 h_51 => ∃ t336_1 : Sl, ∃ t336_2 : Int, ∃ t336_3 : Bool, rv_24 = (Value.tuple #[(Value.agg #[(Sl.v t336_1), (VI t336_2)]), (VB t336_3)]) ∧ Vars h_51 [(b_9, [(Sl.v t330_1), (VI t330_2)]), (b_8, [(Sl.v t324_2), (VI t324_3)]), (b_7, [(Sl.v t324_1)]), (b_4, [(Sl.v t108_1), (VI t108_2)]), (b_3, [(Sl.v t101_1), (VI t101_2)]), (b_2, [(Sl.v t65_2), (VI t65_3)]), (b_1, [(Sl.v t65_1)])] ∧
  ∀ (b_10 : Nat) (h_53 : Heap), h_51.size ≤ b_10 → Fr (In []) h_51 h_53 → Vars h_53 [(b_10, [(Sl.v t336_1), (VI t336_2)]), (b_9, [(Sl.v t330_1), (VI t330_2)]), (b_8, [(Sl.v t324_2), (VI t324_3)]), (b_7, [(Sl.v t324_1)]), (b_4, [(Sl.v t108_1), (VI t108_2)]), (b_3, [(Sl.v t101_1), (VI t101_2)]), (b_2, [(Sl.v t65_2), (VI t65_3)]), (b_1, [(Sl.v t65_1)])] →
  callM P 38 #[(Value.agg #[(Sl.v t324_1)]), (Value.agg #[(Sl.v t324_2), (VI t324_3)])] h_53 fun rv_25 h_54 => ∃ t342_1 : Sl, ∃ t342_2 : Bool, rv_25 = (Value.tuple #[(Sl.v t342_1), (VB t342_2)]) ∧ Vars h_54 [(b_10, [(Sl.v t336_1), (VI t336_2)]), (b_9, [(Sl.v t330_1), (VI t330_2)]), (b_8, [(Sl.v t324_2), (VI t324_3)]), (b_7, [(Sl.v t324_1)]), (b_4, [(Sl.v t108_1), (VI t108_2)]), (b_3, [(Sl.v t101_1), (VI t101_2)]), (b_2, [(Sl.v t65_2), (VI t65_3)]), (b_1, [(Sl.v t65_1)])] ∧
  callM P 39 #[(Value.agg #[(Sl.v t324_1)]), (Value.agg #[(Sl.v t324_2), (VI t324_3)])] h_54 fun rv_26 h_55 => ∃ t348_1 : Sl, ∃ t348_2 : Bool, rv_26 = (Value.tuple #[(Sl.v t348_1), (VB t348_2)]) ∧ Vars h_55 [(b_10, [(Sl.v t336_1), (VI t336_2)]), (b_9, [(Sl.v t330_1), (VI t330_2)]), (b_8, [(Sl.v t324_2), (VI t324_3)]), (b_7, [(Sl.v t324_1)]), (b_4, [(Sl.v t108_1), (VI t108_2)]), (b_3, [(Sl.v t101_1), (VI t101_2)]), (b_2, [(Sl.v t65_2), (VI t65_3)]), (b_1, [(Sl.v t65_1)])] ∧
  callM P 40 #[(Value.agg #[(Sl.v t324_2), (VI t324_3)])] h_55 fun rv_27 h_56 => ∃ t353_1 : ByteArray, ∃ t353_2 : Bool, rv_27 = (Value.tuple #[(VS t353_1), (VB t353_2)]) ∧ Vars h_56 [(b_10, [(Sl.v t336_1), (VI t336_2)]), (b_9, [(Sl.v t330_1), (VI t330_2)]), (b_8, [(Sl.v t324_2), (VI t324_3)]), (b_7, [(Sl.v t324_1)]), (b_4, [(Sl.v t108_1), (VI t108_2)]), (b_3, [(Sl.v t101_1), (VI t101_2)]), (b_2, [(Sl.v t65_2), (VI t65_3)]), (b_1, [(Sl.v t65_1)])] ∧
  callM P 41 #[(Value.agg #[(Sl.v t324_2), (VI t324_3)])] h_56 fun rv_28 h_57 => ∃ t358_1 : ByteArray, ∃ t358_2 : Bool, rv_28 = (Value.tuple #[(VS t358_1), (VB t358_2)]) ∧ Vars h_57 [(b_10, [(Sl.v t336_1), (VI t336_2)]), (b_9, [(Sl.v t330_1), (VI t330_2)]), (b_8, [(Sl.v t324_2), (VI t324_3)]), (b_7, [(Sl.v t324_1)]), (b_4, [(Sl.v t108_1), (VI t108_2)]), (b_3, [(Sl.v t101_1), (VI t101_2)]), (b_2, [(Sl.v t65_2), (VI t65_3)]), (b_1, [(Sl.v t65_1)])] ∧
  ((!(t330_3 == t336_3)) = true →
  K (VB false) h_57) ∧
  ((!(t330_3 == t336_3)) = false →
  callM P 32 #[(Value.agg #[(Sl.v t330_1), (VI t330_2)]), (Value.agg #[(Sl.v t336_1), (VI t336_2)])] h_57 fun rv_29 h_58 => ∃ t367_1 : Bool, rv_29 = (VB t367_1) ∧ Vars h_58 [(b_10, [(Sl.v t336_1), (VI t336_2)]), (b_9, [(Sl.v t330_1), (VI t330_2)]), (b_8, [(Sl.v t324_2), (VI t324_3)]), (b_7, [(Sl.v t324_1)]), (b_4, [(Sl.v t108_1), (VI t108_2)]), (b_3, [(Sl.v t101_1), (VI t101_2)]), (b_2, [(Sl.v t65_2), (VI t65_3)]), (b_1, [(Sl.v t65_1)])] ∧
  ((!t367_1) = true →
  K (VB false) h_58) ∧
  ((!t367_1) = false →
  ((!(t342_2 == t348_2)) = true →
  K (VB false) h_58) ∧
  ((!(t342_2 == t348_2)) = false →
  callM P 42 #[(Sl.v t342_1), (Sl.v t348_1)] h_58 fun rv_30 h_59 => ∃ t378_1 : Bool, rv_30 = (VB t378_1) ∧ Vars h_59 [(b_10, [(Sl.v t336_1), (VI t336_2)]), (b_9, [(Sl.v t330_1), (VI t330_2)]), (b_8, [(Sl.v t324_2), (VI t324_3)]), (b_7, [(Sl.v t324_1)]), (b_4, [(Sl.v t108_1), (VI t108_2)]), (b_3, [(Sl.v t101_1), (VI t101_2)]), (b_2, [(Sl.v t65_2), (VI t65_3)]), (b_1, [(Sl.v t65_1)])] ∧
  ((!t378_1) = true →
  K (VB false) h_59) ∧
  ((!t378_1) = false →
  ((!(t353_2 == t358_2)) = true →
  K (VB false) h_59) ∧
  ((!(t353_2 == t358_2)) = false →
  ((!(ByteArray.toList t353_1 == ByteArray.toList t358_1)) = true →
  K (VB false) h_59) ∧
  ((!(ByteArray.toList t353_1 == ByteArray.toList t358_1)) = false →
  callM P 34 #[(Value.agg #[(Sl.v t324_1)]), (Value.agg #[(Sl.v t324_2), (VI t324_3)])] h_59 fun rv_31 h_60 => ∃ t394_1 : Bool, rv_31 = (VB t394_1) ∧ Vars h_60 [(b_10, [(Sl.v t336_1), (VI t336_2)]), (b_9, [(Sl.v t330_1), (VI t330_2)]), (b_8, [(Sl.v t324_2), (VI t324_3)]), (b_7, [(Sl.v t324_1)]), (b_4, [(Sl.v t108_1), (VI t108_2)]), (b_3, [(Sl.v t101_1), (VI t101_2)]), (b_2, [(Sl.v t65_2), (VI t65_3)]), (b_1, [(Sl.v t65_1)])] ∧
  callM P 43 #[(Value.agg #[(Sl.v t324_1)]), (Value.agg #[(Sl.v t324_2), (VI t324_3)])] h_60 fun rv_32 h_61 => ∃ t397_1 : Bool, rv_32 = (VB t397_1) ∧ Vars h_61 [(b_10, [(Sl.v t336_1), (VI t336_2)]), (b_9, [(Sl.v t330_1), (VI t330_2)]), (b_8, [(Sl.v t324_2), (VI t324_3)]), (b_7, [(Sl.v t324_1)]), (b_4, [(Sl.v t108_1), (VI t108_2)]), (b_3, [(Sl.v t101_1), (VI t101_2)]), (b_2, [(Sl.v t65_2), (VI t65_3)]), (b_1, [(Sl.v t65_1)])] ∧
  ((!(t394_1 == t397_1)) = true →
  K (VB false) h_61) ∧
  ((!(t394_1 == t397_1)) = false →
  callM P 34 #[(Value.agg #[(Sl.v t324_1)]), (Value.agg #[(Sl.v t324_2), (VI t324_3)])] h_61 fun rv_33 h_62 => ∃ t404_1 : Bool, rv_33 = (VB t404_1) ∧ Vars h_62 [(b_10, [(Sl.v t336_1), (VI t336_2)]), (b_9, [(Sl.v t330_1), (VI t330_2)]), (b_8, [(Sl.v t324_2), (VI t324_3)]), (b_7, [(Sl.v t324_1)]), (b_4, [(Sl.v t108_1), (VI t108_2)]), (b_3, [(Sl.v t101_1), (VI t101_2)]), (b_2, [(Sl.v t65_2), (VI t65_3)]), (b_1, [(Sl.v t65_1)])] ∧
  ((!(t342_2 == t404_1)) = true →
  K (VB false) h_62) ∧
  ((!(t342_2 == t404_1)) = false →
  ∃ J_8 : Nat → Int → Heap → Prop, (∃ n0 : Nat, J_8 n0 0 h_62) ∧
  ∀ (n_7 : Nat) (t409_1 : Int) (h_63 : Heap), J_8 n_7 t409_1 h_63 → Vars h_63 [(b_10, [(Sl.v t336_1), (VI t336_2)]), (b_9, [(Sl.v t330_1), (VI t330_2)]), (b_8, [(Sl.v t324_2), (VI t324_3)]), (b_7, [(Sl.v t324_1)]), (b_4, [(Sl.v t108_1), (VI t108_2)]), (b_3, [(Sl.v t101_1), (VI t101_2)]), (b_2, [(Sl.v t65_2), (VI t65_3)]), (b_1, [(Sl.v t65_1)])] →
  ((decide (t409_1 < (t342_1.n : Int))) = true →
  InB t342_1 t409_1 ∧
  ∃ t413_1 : Sl, ∃ t413_2 : Int, CellsAt h_63 (Sl.at t342_1 t409_1 2) [(Sl.v t413_1), (VI t413_2)] ∧
  ∀ (b_11 : Nat) (h_65 : Heap), h_63.size ≤ b_11 → Fr (In []) h_63 h_65 → Vars h_65 [(b_11, [(Sl.v t413_1), (VI t413_2)]), (b_10, [(Sl.v t336_1), (VI t336_2)]), (b_9, [(Sl.v t330_1), (VI t330_2)]), (b_8, [(Sl.v t324_2), (VI t324_3)]), (b_7, [(Sl.v t324_1)]), (b_4, [(Sl.v t108_1), (VI t108_2)]), (b_3, [(Sl.v t101_1), (VI t101_2)]), (b_2, [(Sl.v t65_2), (VI t65_3)]), (b_1, [(Sl.v t65_1)])] →
  callM P 35 #[(Value.agg #[(Sl.v t324_1)]), (Value.agg #[(Sl.v t413_1), (VI t413_2)])] h_65 fun rv_34 h_66 => ∃ t417_1 : Sl, ∃ t417_2 : Int, ∃ t417_3 : Bool, rv_34 = (Value.tuple #[(Value.agg #[(Sl.v t417_1), (VI t417_2)]), (VB t417_3)]) ∧ Vars h_66 [(b_11, [(Sl.v t413_1), (VI t413_2)]), (b_10, [(Sl.v t336_1), (VI t336_2)]), (b_9, [(Sl.v t330_1), (VI t330_2)]), (b_8, [(Sl.v t324_2), (VI t324_3)]), (b_7, [(Sl.v t324_1)]), (b_4, [(Sl.v t108_1), (VI t108_2)]), (b_3, [(Sl.v t101_1), (VI t101_2)]), (b_2, [(Sl.v t65_2), (VI t65_3)]), (b_1, [(Sl.v t65_1)])] ∧
  ((!t417_3) = true →
  ∀ (b_12 : Nat) (h_68 : Heap), h_66.size ≤ b_12 → Fr (In []) h_66 h_68 → Vars h_68 [(b_12, [(Sl.v t417_1), (VI t417_2)]), (b_11, [(Sl.v t413_1), (VI t413_2)]), (b_10, [(Sl.v t336_1), (VI t336_2)]), (b_9, [(Sl.v t330_1), (VI t330_2)]), (b_8, [(Sl.v t324_2), (VI t324_3)]), (b_7, [(Sl.v t324_1)]), (b_4, [(Sl.v t108_1), (VI t108_2)]), (b_3, [(Sl.v t101_1), (VI t101_2)]), (b_2, [(Sl.v t65_2), (VI t65_3)]), (b_1, [(Sl.v t65_1)])] →
  K (VB false) h_68) ∧
  ((!t417_3) = false →
  ∀ (b_12 : Nat) (h_68 : Heap), h_66.size ≤ b_12 → Fr (In []) h_66 h_68 → Vars h_68 [(b_12, [(Sl.v t417_1), (VI t417_2)]), (b_11, [(Sl.v t413_1), (VI t413_2)]), (b_10, [(Sl.v t336_1), (VI t336_2)]), (b_9, [(Sl.v t330_1), (VI t330_2)]), (b_8, [(Sl.v t324_2), (VI t324_3)]), (b_7, [(Sl.v t324_1)]), (b_4, [(Sl.v t108_1), (VI t108_2)]), (b_3, [(Sl.v t101_1), (VI t101_2)]), (b_2, [(Sl.v t65_2), (VI t65_3)]), (b_1, [(Sl.v t65_1)])] →
  callM P 32 #[(Value.agg #[(Sl.v t417_1), (VI t417_2)]), (Value.agg #[(Sl.v t324_2), (VI t324_3)])] h_68 fun rv_35 h_69 => ∃ t425_1 : Bool, rv_35 = (VB t425_1) ∧ Vars h_69 [(b_12, [(Sl.v t417_1), (VI t417_2)]), (b_11, [(Sl.v t413_1), (VI t413_2)]), (b_10, [(Sl.v t336_1), (VI t336_2)]), (b_9, [(Sl.v t330_1), (VI t330_2)]), (b_8, [(Sl.v t324_2), (VI t324_3)]), (b_7, [(Sl.v t324_1)]), (b_4, [(Sl.v t108_1), (VI t108_2)]), (b_3, [(Sl.v t101_1), (VI t101_2)]), (b_2, [(Sl.v t65_2), (VI t65_3)]), (b_1, [(Sl.v t65_1)])] ∧
  ((!t425_1) = true →
  K (VB false) h_69) ∧
  ((!t425_1) = false →
  ((decide (0 < t409_1)) = true →
  InB t342_1 (w64 (t409_1 - 1)) ∧
  ∃ t437_1 : Int, hcell h_69 (Addr.add (Sl.at t342_1 (w64 (t409_1 - 1)) 2) 1) = some (VI t437_1) ∧
  ((decide (t413_2 ≤ t437_1)) = true →
  K (VB false) h_69) ∧
  ((decide (t413_2 ≤ t437_1)) = false →
  ∃ m : Nat, m < n_7 ∧ J_8 m (w64 (t409_1 + 1)) h_69)) ∧
  ((decide (0 < t409_1)) = false →
  ∃ m : Nat, m < n_7 ∧ J_8 m (w64 (t409_1 + 1)) h_69)))) ∧
  ((decide (t409_1 < (t342_1.n : Int))) = false →
  (t330_3 = true →
  callM P 38 #[(Value.agg #[(Sl.v t324_1)]), (Value.agg #[(Sl.v t330_1), (VI t330_2)])] h_63 fun rv_36 h_70 => ∃ t448_1 : Sl, ∃ t448_2 : Bool, rv_36 = (Value.tuple #[(Sl.v t448_1), (VB t448_2)]) ∧ Vars h_70 [(b_10, [(Sl.v t336_1), (VI t336_2)]), (b_9, [(Sl.v t330_1), (VI t330_2)]), (b_8, [(Sl.v t324_2), (VI t324_3)]), (b_7, [(Sl.v t324_1)]), (b_4, [(Sl.v t108_1), (VI t108_2)]), (b_3, [(Sl.v t101_1), (VI t101_2)]), (b_2, [(Sl.v t65_2), (VI t65_3)]), (b_1, [(Sl.v t65_1)])] ∧
  ∃ J_9 : Nat → Bool → Int → Heap → Prop, (∃ n0 : Nat, J_9 n0 false 0 h_70) ∧
  ∀ (n_8 : Nat) (found57_1 : Bool) (t453_1 : Int) (h_71 : Heap), J_9 n_8 found57_1 t453_1 h_71 → Vars h_71 [(b_10, [(Sl.v t336_1), (VI t336_2)]), (b_9, [(Sl.v t330_1), (VI t330_2)]), (b_8, [(Sl.v t324_2), (VI t324_3)]), (b_7, [(Sl.v t324_1)]), (b_4, [(Sl.v t108_1), (VI t108_2)]), (b_3, [(Sl.v t101_1), (VI t101_2)]), (b_2, [(Sl.v t65_2), (VI t65_3)]), (b_1, [(Sl.v t65_1)])] →
  ((decide (t453_1 < (t448_1.n : Int))) = true →
  InB t448_1 t453_1 ∧
  ∃ t456_1 : Sl, ∃ t456_2 : Int, CellsAt h_71 (Sl.at t448_1 t453_1 2) [(Sl.v t456_1), (VI t456_2)] ∧
  (found57_1 = true →
  ∀ (b_13 : Nat) (h_73 : Heap), h_71.size ≤ b_13 → Fr (In []) h_71 h_73 → Vars h_73 [(b_13, [(Sl.v t456_1), (VI t456_2)]), (b_10, [(Sl.v t336_1), (VI t336_2)]), (b_9, [(Sl.v t330_1), (VI t330_2)]), (b_8, [(Sl.v t324_2), (VI t324_3)]), (b_7, [(Sl.v t324_1)]), (b_4, [(Sl.v t108_1), (VI t108_2)]), (b_3, [(Sl.v t101_1), (VI t101_2)]), (b_2, [(Sl.v t65_2), (VI t65_3)]), (b_1, [(Sl.v t65_1)])] →
  ∃ m : Nat, m < n_8 ∧ J_9 m true (w64 (t453_1 + 1)) h_73) ∧
  (found57_1 = false →
  ∀ (b_13 : Nat) (h_73 : Heap), h_71.size ≤ b_13 → Fr (In []) h_71 h_73 → Vars h_73 [(b_13, [(Sl.v t456_1), (VI t456_2)]), (b_10, [(Sl.v t336_1), (VI t336_2)]), (b_9, [(Sl.v t330_1), (VI t330_2)]), (b_8, [(Sl.v t324_2), (VI t324_3)]), (b_7, [(Sl.v t324_1)]), (b_4, [(Sl.v t108_1), (VI t108_2)]), (b_3, [(Sl.v t101_1), (VI t101_2)]), (b_2, [(Sl.v t65_2), (VI t65_3)]), (b_1, [(Sl.v t65_1)])] →
  callM P 32 #[(Value.agg #[(Sl.v t456_1), (VI t456_2)]), (Value.agg #[(Sl.v t324_2), (VI t324_3)])] h_73 fun rv_37 h_74 => ∃ t461_1 : Bool, rv_37 = (VB t461_1) ∧ Vars h_74 [(b_13, [(Sl.v t456_1), (VI t456_2)]), (b_10, [(Sl.v t336_1), (VI t336_2)]), (b_9, [(Sl.v t330_1), (VI t330_2)]), (b_8, [(Sl.v t324_2), (VI t324_3)]), (b_7, [(Sl.v t324_1)]), (b_4, [(Sl.v t108_1), (VI t108_2)]), (b_3, [(Sl.v t101_1), (VI t101_2)]), (b_2, [(Sl.v t65_2), (VI t65_3)]), (b_1, [(Sl.v t65_1)])] ∧
  ∃ m : Nat, m < n_8 ∧ J_9 m t461_1 (w64 (t453_1 + 1)) h_74)) ∧
  ((decide (t453_1 < (t448_1.n : Int))) = false →
  (t448_2 = true →
  K (VB found57_1) h_71) ∧
  (t448_2 = false →
  K (VB false) h_71))) ∧
  (t330_3 = false →
  K (VB true) h_63)))))))))))) ∧
  (t115_2 = false →
  ∃ J_10 : Heap → Prop, ((t73_2 = true →
  eop P (Instr.makeSlice 34 (VI (t65_1.n : Int)) (VI (t65_1.n : Int))) h_22 fun rv_38 h_75 => ∃ t188_2 : Sl, rv_38 = (Sl.v t188_2) ∧ Vars h_75 [(b_4, [(Sl.v t108_1), (VI t108_2)]), (b_3, [(Sl.v t101_1), (VI t101_2)]), (b_2, [(Sl.v t65_2), (VI t65_3)]), (b_1, [(Sl.v t65_1)])] ∧
  ∃ J_11 : Nat → Int → Int → Heap → Prop, (∃ n0 : Nat, J_11 n0 0 0 h_75) ∧
  ∀ (n_11 : Nat) (total24_3 : Int) (t191_2 : Int) (h_76 : Heap), J_11 n_11 total24_3 t191_2 h_76 → Vars h_76 [(b_4, [(Sl.v t108_1), (VI t108_2)]), (b_3, [(Sl.v t101_1), (VI t101_2)]), (b_2, [(Sl.v t65_2), (VI t65_3)]), (b_1, [(Sl.v t65_1)])] →
  ((decide (t191_2 < (t73_1.n : Int))) = true →
  InB t73_1 t191_2 ∧
  ∃ t195_2 : Sl, hcell h_76 (Sl.at t73_1 t191_2 1) = some (Sl.v t195_2) ∧
  ∃ J_12 : Nat → Int → Int → Int → Int → Heap → Prop, (∃ n0 : Nat, J_12 n0 total24_3 t65_4 0 0 h_76) ∧
  ∀ (n_12 : Nat) (total24_4 : Int) (least28_2 : Int) (most29_2 : Int) (t199_2 : Int) (h_77 : Heap), J_12 n_12 total24_4 least28_2 most29_2 t199_2 h_77 → Vars h_77 [(b_4, [(Sl.v t108_1), (VI t108_2)]), (b_3, [(Sl.v t101_1), (VI t101_2)]), (b_2, [(Sl.v t65_2), (VI t65_3)]), (b_1, [(Sl.v t65_1)])] →
  ((decide (t199_2 < (t195_2.n : Int))) = true →
  InB t195_2 t199_2 ∧
  ∃ t203_2 : Int, hcell h_77 (Sl.at t195_2 t199_2 1) = some (VI t203_2) ∧
  ∃ J_13 : Int → Heap → Prop, (((decide (t203_2 < least28_2)) = true →
  J_13 t203_2 h_77) ∧
  ((decide (t203_2 < least28_2)) = false →
  J_13 least28_2 h_77)) ∧
  ∀ (x_5 : Int) (h_78 : Heap), J_13 x_5 h_78 → Vars h_78 [(b_4, [(Sl.v t108_1), (VI t108_2)]), (b_3, [(Sl.v t101_1), (VI t101_2)]), (b_2, [(Sl.v t65_2), (VI t65_3)]), (b_1, [(Sl.v t65_1)])] →
  ∃ J_14 : Int → Heap → Prop, (((decide (most29_2 < t203_2)) = true →
  J_14 t203_2 h_78) ∧
  ((decide (most29_2 < t203_2)) = false →
  J_14 most29_2 h_78)) ∧
  ∀ (x_6 : Int) (h_79 : Heap), J_14 x_6 h_79 → Vars h_79 [(b_4, [(Sl.v t108_1), (VI t108_2)]), (b_3, [(Sl.v t101_1), (VI t101_2)]), (b_2, [(Sl.v t65_2), (VI t65_3)]), (b_1, [(Sl.v t65_1)])] →
  InB t65_1 t191_2 ∧
  ∃ t220_2 : Sl, hcell h_79 (Sl.at t65_1 t191_2 1) = some (Sl.v t220_2) ∧
  InB t220_2 t199_2 ∧
  ∃ t223_2 : Int, hcell h_79 (Sl.at t220_2 t199_2 1) = some (VI t223_2) ∧
  InB t188_2 t223_2 ∧
  ∃ t225_2 : Int, hcell h_79 (Sl.at t188_2 t223_2 1) = some (VI t225_2) ∧
  InB t188_2 t223_2 ∧
  Writable h_79 (Sl.at t188_2 t223_2 1) ∧ Vars (hset h_79 (Sl.at t188_2 t223_2 1) (VI (w64 (t225_2 + t203_2)))) [(b_4, [(Sl.v t108_1), (VI t108_2)]), (b_3, [(Sl.v t101_1), (VI t101_2)]), (b_2, [(Sl.v t65_2), (VI t65_3)]), (b_1, [(Sl.v t65_1)])] ∧
  ∀ h_80 : Heap, h_80 = hset h_79 (Sl.at t188_2 t223_2 1) (VI (w64 (t225_2 + t203_2))) → Vars h_80 [(b_4, [(Sl.v t108_1), (VI t108_2)]), (b_3, [(Sl.v t101_1), (VI t101_2)]), (b_2, [(Sl.v t65_2), (VI t65_3)]), (b_1, [(Sl.v t65_1)])] →
  ∃ m : Nat, m < n_12 ∧ J_12 m (w64 (total24_4 + t203_2)) x_5 x_6 (w64 (t199_2 + 1)) h_80) ∧
  ((decide (t199_2 < (t195_2.n : Int))) = false →
  ((decide (0 < (t195_2.n : Int))) = true →
  ((decide (1 < (w64 (most29_2 - least28_2)))) = true →
  K (VB false) h_77) ∧
  ((decide (1 < (w64 (most29_2 - least28_2)))) = false →
  InB t65_2 t191_2 ∧
  ∃ t247_2 : Int, hcell h_77 (Sl.at t65_2 t191_2 1) = some (VI t247_2) ∧
  InB t101_1 t191_2 ∧
  ∃ t258_2 : Int, hcell h_77 (Sl.at t101_1 t191_2 1) = some (VI t258_2) ∧
  callM P 33 #[(Sl.v t195_2)] h_77 fun rv_39 h_81 => ∃ t249_2 : Int, rv_39 = (VI t249_2) ∧ Vars h_81 [(b_4, [(Sl.v t108_1), (VI t108_2)]), (b_3, [(Sl.v t101_1), (VI t101_2)]), (b_2, [(Sl.v t65_2), (VI t65_3)]), (b_1, [(Sl.v t65_1)])] ∧
  hcell h_81 (Sl.at t101_1 t191_2 1) = some (VI t258_2) ∧
  hcell h_81 (Sl.at t65_2 t191_2 1) = some (VI t247_2) ∧
  (t195_2.n : Int) ≠ 0 ∧
  ((!decide ((Int.tmod (w64 (t247_2 + t249_2)) (t195_2.n : Int)) = t258_2)) = true →
  K (VB false) h_81) ∧
  ((!decide ((Int.tmod (w64 (t247_2 + t249_2)) (t195_2.n : Int)) = t258_2)) = false →
  ∃ m : Nat, m < n_11 ∧ J_11 m total24_4 (w64 (t191_2 + 1)) h_81))) ∧
  ((decide (0 < (t195_2.n : Int))) = false →
  ∃ m : Nat, m < n_11 ∧ J_11 m total24_4 (w64 (t191_2 + 1)) h_77))) ∧
  ((decide (t191_2 < (t73_1.n : Int))) = false →
  ((!decide (total24_3 = t65_4)) = true →
  K (VB false) h_76) ∧
  ((!decide (total24_3 = t65_4)) = false →
  callM P 33 #[(Sl.v t87_1)] h_76 fun rv_40 h_82 => ∃ t267_2 : Int, rv_40 = (VI t267_2) ∧ Vars h_82 [(b_4, [(Sl.v t108_1), (VI t108_2)]), (b_3, [(Sl.v t101_1), (VI t101_2)]), (b_2, [(Sl.v t65_2), (VI t65_3)]), (b_1, [(Sl.v t65_1)])] ∧
  ((!decide (t267_2 = t65_4)) = true →
  K (VB false) h_82) ∧
  ((!decide (t267_2 = t65_4)) = false →
  callM P 31 #[(Sl.v t188_2), (Sl.v t87_1)] h_82 fun rv_41 h_83 => ∃ t274_2 : Bool, rv_41 = (VB t274_2) ∧ Vars h_83 [(b_4, [(Sl.v t108_1), (VI t108_2)]), (b_3, [(Sl.v t101_1), (VI t101_2)]), (b_2, [(Sl.v t65_2), (VI t65_3)]), (b_1, [(Sl.v t65_1)])] ∧
  ((!t274_2) = true →
  K (VB false) h_83) ∧
  ((!t274_2) = false →
  callM P 34 #[(Value.agg #[(Sl.v t65_1)]), (Value.agg #[(Sl.v t101_1), (VI t101_2)])] h_83 fun rv_42 h_84 => ∃ t280_2 : Bool, rv_42 = (VB t280_2) ∧ Vars h_84 [(b_4, [(Sl.v t108_1), (VI t108_2)]), (b_3, [(Sl.v t101_1), (VI t101_2)]), (b_2, [(Sl.v t65_2), (VI t65_3)]), (b_1, [(Sl.v t65_1)])] ∧
  ((!t280_2) = true →
  K (VB false) h_84) ∧
  ((!t280_2) = false →
  J_10  h_84)))))) ∧
  (t73_2 = false →
  J_10  h_22)) ∧
  ∀ (h_85 : Heap), J_10  h_85 → Vars h_85 [(b_4, [(Sl.v t108_1), (VI t108_2)]), (b_3, [(Sl.v t101_1), (VI t101_2)]), (b_2, [(Sl.v t65_2), (VI t65_3)]), (b_1, [(Sl.v t65_1)])] →
  ∃ J_15 : Heap → Prop, (J_15  h_85) ∧
  ∀ (h_86 : Heap), J_15  h_86 → Vars h_86 [(b_4, [(Sl.v t108_1), (VI t108_2)]), (b_3, [(Sl.v t101_1), (VI t101_2)]), (b_2, [(Sl.v t65_2), (VI t65_3)]), (b_1, [(Sl.v t65_1)])] →
  callM P 36 #[(Sl.v more1_1)] h_86 fun rv_43 h_87 => ∃ t324_4 : Sl, ∃ t324_5 : Sl, ∃ t324_6 : Int, rv_43 = (Value.tuple #[(Value.agg #[(Sl.v t324_4)]), (Value.agg #[(Sl.v t324_5), (VI t324_6)])]) ∧ Vars h_87 [(b_4, [(Sl.v t108_1), (VI t108_2)]), (b_3, [(Sl.v t101_1), (VI t101_2)]), (b_2, [(Sl.v t65_2), (VI t65_3)]), (b_1, [(Sl.v t65_1)])] ∧
  ∀ (b_14 : Nat) (b_15 : Nat) (h_91 : Heap), h_87.size ≤ b_14 → h_87.size ≤ b_15 → Fr (In []) h_87 h_91 → Vars h_91 [(b_15, [(Sl.v t324_5), (VI t324_6)]), (b_14, [(Sl.v t324_4)]), (b_4, [(Sl.v t108_1), (VI t108_2)]), (b_3, [(Sl.v t101_1), (VI t101_2)]), (b_2, [(Sl.v t65_2), (VI t65_3)]), (b_1, [(Sl.v t65_1)])] →
  callM P 35 #[(Value.agg #[(Sl.v t324_4)]), (Value.agg #[(Sl.v t324_5), (VI t324_6)])] h_91 fun rv_44 h_92 => ∃ t330_4 : Sl, ∃ t330_5 : Int, ∃ t330_6 : Bool, rv_44 = (Value.tuple #[(Value.agg #[(Sl.v t330_4), (VI t330_5)]), (VB t330_6)]) ∧ Vars h_92 [(b_15, [(Sl.v t324_5), (VI t324_6)]), (b_14, [(Sl.v t324_4)]), (b_4, [(Sl.v t108_1), (VI t108_2)]), (b_3, [(Sl.v t101_1), (VI t101_2)]), (b_2, [(Sl.v t65_2), (VI t65_3)]), (b_1, [(Sl.v t65_1)])] ∧
  ∀ (b_16 : Nat) (h_94 : Heap), h_92.size ≤ b_16 → Fr (In []) h_92 h_94 → Vars h_94 [(b_16, [(Sl.v t330_4), (VI t330_5)]), (b_15, [(Sl.v t324_5), (VI t324_6)]), (b_14, [(Sl.v t324_4)]), (b_4, [(Sl.v t108_1), (VI t108_2)]), (b_3, [(Sl.v t101_1), (VI t101_2)]), (b_2, [(Sl.v t65_2), (VI t65_3)]), (b_1, [(Sl.v t65_1)])] →
  callM P 37 #[(Value.agg #[(Sl.v t324_4)]), (Value.agg #[(Sl.v t324_5), (VI t324_6)])] h_94 fun rv_45 h_95 => ∃ t336_4 : Sl, ∃ t336_5 : Int, ∃ t336_6 : Bool, rv_45 = (Value.tuple #[(Value.agg #[(Sl.v t336_4), (VI t336_5)]), (VB t336_6)]) ∧ Vars h_95 [(b_16, [(Sl.v t330_4), (VI t330_5)]), (b_15, [(Sl.v t324_5), (VI t324_6)]), (b_14, [(Sl.v t324_4)]), (b_4, [(Sl.v t108_1), (VI t108_2)]), (b_3, [(Sl.v t101_1), (VI t101_2)]), (b_2, [(Sl.v t65_2), (VI t65_3)]), (b_1, [(Sl.v t65_1)])] ∧
  ∀ (b_17 : Nat) (h_97 : Heap), h_95.size ≤ b_17 → Fr (In []) h_95 h_97 → Vars h_97 [(b_17, [(Sl.v t336_4), (VI t336_5)]), (b_16, [(Sl.v t330_4), (VI t330_5)]), (b_15, [(Sl.v t324_5), (VI t324_6)]), (b_14, [(Sl.v t324_4)]), (b_4, [(Sl.v t108_1), (VI t108_2)]), (b_3, [(Sl.v t101_1), (VI t101_2)]), (b_2, [(Sl.v t65_2), (VI t65_3)]), (b_1, [(Sl.v t65_1)])] →
  callM P 38 #[(Value.agg #[(Sl.v t324_4)]), (Value.agg #[(Sl.v t324_5), (VI t324_6)])] h_97 fun rv_46 h_98 => ∃ t342_3 : Sl, ∃ t342_4 : Bool, rv_46 = (Value.tuple #[(Sl.v t342_3), (VB t342_4)]) ∧ Vars h_98 [(b_17, [(Sl.v t336_4), (VI t336_5)]), (b_16, [(Sl.v t330_4), (VI t330_5)]), (b_15, [(Sl.v t324_5), (VI t324_6)]), (b_14, [(Sl.v t324_4)]), (b_4, [(Sl.v t108_1), (VI t108_2)]), (b_3, [(Sl.v t101_1), (VI t101_2)]), (b_2, [(Sl.v t65_2), (VI t65_3)]), (b_1, [(Sl.v t65_1)])] ∧
  callM P 39 #[(Value.agg #[(Sl.v t324_4)]), (Value.agg #[(Sl.v t324_5), (VI t324_6)])] h_98 fun rv_47 h_99 => ∃ t348_3 : Sl, ∃ t348_4 : Bool, rv_47 = (Value.tuple #[(Sl.v t348_3), (VB t348_4)]) ∧ Vars h_99 [(b_17, [(Sl.v t336_4), (VI t336_5)]), (b_16, [(Sl.v t330_4), (VI t330_5)]), (b_15, [(Sl.v t324_5), (VI t324_6)]), (b_14, [(Sl.v t324_4)]), (b_4, [(Sl.v t108_1), (VI t108_2)]), (b_3, [(Sl.v t101_1), (VI t101_2)]), (b_2, [(Sl.v t65_2), (VI t65_3)]), (b_1, [(Sl.v t65_1)])] ∧
  callM P 40 #[(Value.agg #[(Sl.v t324_5), (VI t324_6)])] h_99 fun rv_48 h_100 => ∃ t353_3 : ByteArray, ∃ t353_4 : Bool, rv_48 = (Value.tuple #[(VS t353_3), (VB t353_4)]) ∧ Vars h_100 [(b_17, [(Sl.v t336_4), (VI t336_5)]), (b_16, [(Sl.v t330_4), (VI t330_5)]), (b_15, [(Sl.v t324_5), (VI t324_6)]), (b_14, [(Sl.v t324_4)]), (b_4, [(Sl.v t108_1), (VI t108_2)]), (b_3, [(Sl.v t101_1), (VI t101_2)]), (b_2, [(Sl.v t65_2), (VI t65_3)]), (b_1, [(Sl.v t65_1)])] ∧
  callM P 41 #[(Value.agg #[(Sl.v t324_5), (VI t324_6)])] h_100 fun rv_49 h_101 => ∃ t358_3 : ByteArray, ∃ t358_4 : Bool, rv_49 = (Value.tuple #[(VS t358_3), (VB t358_4)]) ∧ Vars h_101 [(b_17, [(Sl.v t336_4), (VI t336_5)]), (b_16, [(Sl.v t330_4), (VI t330_5)]), (b_15, [(Sl.v t324_5), (VI t324_6)]), (b_14, [(Sl.v t324_4)]), (b_4, [(Sl.v t108_1), (VI t108_2)]), (b_3, [(Sl.v t101_1), (VI t101_2)]), (b_2, [(Sl.v t65_2), (VI t65_3)]), (b_1, [(Sl.v t65_1)])] ∧
  ((!(t330_6 == t336_6)) = true →
  K (VB false) h_101) ∧
  ((!(t330_6 == t336_6)) = false →
  callM P 32 #[(Value.agg #[(Sl.v t330_4), (VI t330_5)]), (Value.agg #[(Sl.v t336_4), (VI t336_5)])] h_101 fun rv_50 h_102 => ∃ t367_2 : Bool, rv_50 = (VB t367_2) ∧ Vars h_102 [(b_17, [(Sl.v t336_4), (VI t336_5)]), (b_16, [(Sl.v t330_4), (VI t330_5)]), (b_15, [(Sl.v t324_5), (VI t324_6)]), (b_14, [(Sl.v t324_4)]), (b_4, [(Sl.v t108_1), (VI t108_2)]), (b_3, [(Sl.v t101_1), (VI t101_2)]), (b_2, [(Sl.v t65_2), (VI t65_3)]), (b_1, [(Sl.v t65_1)])] ∧
  ((!t367_2) = true →
  K (VB false) h_102) ∧
  ((!t367_2) = false →
  ((!(t342_4 == t348_4)) = true →
  K (VB false) h_102) ∧
  ((!(t342_4 == t348_4)) = false →
  callM P 42 #[(Sl.v t342_3), (Sl.v t348_3)] h_102 fun rv_51 h_103 => ∃ t378_2 : Bool, rv_51 = (VB t378_2) ∧ Vars h_103 [(b_17, [(Sl.v t336_4), (VI t336_5)]), (b_16, [(Sl.v t330_4), (VI t330_5)]), (b_15, [(Sl.v t324_5), (VI t324_6)]), (b_14, [(Sl.v t324_4)]), (b_4, [(Sl.v t108_1), (VI t108_2)]), (b_3, [(Sl.v t101_1), (VI t101_2)]), (b_2, [(Sl.v t65_2), (VI t65_3)]), (b_1, [(Sl.v t65_1)])] ∧
  ((!t378_2) = true →
  K (VB false) h_103) ∧
  ((!t378_2) = false →
  ((!(t353_4 == t358_4)) = true →
  K (VB false) h_103) ∧
  ((!(t353_4 == t358_4)) = false →
  ((!(ByteArray.toList t353_3 == ByteArray.toList t358_3)) = true →
  K (VB false) h_103) ∧
  ((!(ByteArray.toList t353_3 == ByteArray.toList t358_3)) = false →
  callM P 34 #[(Value.agg #[(Sl.v t324_4)]), (Value.agg #[(Sl.v t324_5), (VI t324_6)])] h_103 fun rv_52 h_104 => ∃ t394_2 : Bool, rv_52 = (VB t394_2) ∧ Vars h_104 [(b_17, [(Sl.v t336_4), (VI t336_5)]), (b_16, [(Sl.v t330_4), (VI t330_5)]), (b_15, [(Sl.v t324_5), (VI t324_6)]), (b_14, [(Sl.v t324_4)]), (b_4, [(Sl.v t108_1), (VI t108_2)]), (b_3, [(Sl.v t101_1), (VI t101_2)]), (b_2, [(Sl.v t65_2), (VI t65_3)]), (b_1, [(Sl.v t65_1)])] ∧
  callM P 43 #[(Value.agg #[(Sl.v t324_4)]), (Value.agg #[(Sl.v t324_5), (VI t324_6)])] h_104 fun rv_53 h_105 => ∃ t397_2 : Bool, rv_53 = (VB t397_2) ∧ Vars h_105 [(b_17, [(Sl.v t336_4), (VI t336_5)]), (b_16, [(Sl.v t330_4), (VI t330_5)]), (b_15, [(Sl.v t324_5), (VI t324_6)]), (b_14, [(Sl.v t324_4)]), (b_4, [(Sl.v t108_1), (VI t108_2)]), (b_3, [(Sl.v t101_1), (VI t101_2)]), (b_2, [(Sl.v t65_2), (VI t65_3)]), (b_1, [(Sl.v t65_1)])] ∧
  ((!(t394_2 == t397_2)) = true →
  K (VB false) h_105) ∧
  ((!(t394_2 == t397_2)) = false →
  callM P 34 #[(Value.agg #[(Sl.v t324_4)]), (Value.agg #[(Sl.v t324_5), (VI t324_6)])] h_105 fun rv_54 h_106 => ∃ t404_2 : Bool, rv_54 = (VB t404_2) ∧ Vars h_106 [(b_17, [(Sl.v t336_4), (VI t336_5)]), (b_16, [(Sl.v t330_4), (VI t330_5)]), (b_15, [(Sl.v t324_5), (VI t324_6)]), (b_14, [(Sl.v t324_4)]), (b_4, [(Sl.v t108_1), (VI t108_2)]), (b_3, [(Sl.v t101_1), (VI t101_2)]), (b_2, [(Sl.v t65_2), (VI t65_3)]), (b_1, [(Sl.v t65_1)])] ∧
  ((!(t342_4 == t404_2)) = true →
  K (VB false) h_106) ∧
  ((!(t342_4 == t404_2)) = false →
  ∃ J_16 : Nat → Int → Heap → Prop, (∃ n0 : Nat, J_16 n0 0 h_106) ∧
  ∀ (n_15 : Nat) (t409_2 : Int) (h_107 : Heap), J_16 n_15 t409_2 h_107 → Vars h_107 [(b_17, [(Sl.v t336_4), (VI t336_5)]), (b_16, [(Sl.v t330_4), (VI t330_5)]), (b_15, [(Sl.v t324_5), (VI t324_6)]), (b_14, [(Sl.v t324_4)]), (b_4, [(Sl.v t108_1), (VI t108_2)]), (b_3, [(Sl.v t101_1), (VI t101_2)]), (b_2, [(Sl.v t65_2), (VI t65_3)]), (b_1, [(Sl.v t65_1)])] →
  ((decide (t409_2 < (t342_3.n : Int))) = true →
  InB t342_3 t409_2 ∧
  ∃ t413_3 : Sl, ∃ t413_4 : Int, CellsAt h_107 (Sl.at t342_3 t409_2 2) [(Sl.v t413_3), (VI t413_4)] ∧
  ∀ (b_18 : Nat) (h_109 : Heap), h_107.size ≤ b_18 → Fr (In []) h_107 h_109 → Vars h_109 [(b_18, [(Sl.v t413_3), (VI t413_4)]), (b_17, [(Sl.v t336_4), (VI t336_5)]), (b_16, [(Sl.v t330_4), (VI t330_5)]), (b_15, [(Sl.v t324_5), (VI t324_6)]), (b_14, [(Sl.v t324_4)]), (b_4, [(Sl.v t108_1), (VI t108_2)]), (b_3, [(Sl.v t101_1), (VI t101_2)]), (b_2, [(Sl.v t65_2), (VI t65_3)]), (b_1, [(Sl.v t65_1)])] →
  callM P 35 #[(Value.agg #[(Sl.v t324_4)]), (Value.agg #[(Sl.v t413_3), (VI t413_4)])] h_109 fun rv_55 h_110 => ∃ t417_4 : Sl, ∃ t417_5 : Int, ∃ t417_6 : Bool, rv_55 = (Value.tuple #[(Value.agg #[(Sl.v t417_4), (VI t417_5)]), (VB t417_6)]) ∧ Vars h_110 [(b_18, [(Sl.v t413_3), (VI t413_4)]), (b_17, [(Sl.v t336_4), (VI t336_5)]), (b_16, [(Sl.v t330_4), (VI t330_5)]), (b_15, [(Sl.v t324_5), (VI t324_6)]), (b_14, [(Sl.v t324_4)]), (b_4, [(Sl.v t108_1), (VI t108_2)]), (b_3, [(Sl.v t101_1), (VI t101_2)]), (b_2, [(Sl.v t65_2), (VI t65_3)]), (b_1, [(Sl.v t65_1)])] ∧
  ((!t417_6) = true →
  ∀ (b_19 : Nat) (h_112 : Heap), h_110.size ≤ b_19 → Fr (In []) h_110 h_112 → Vars h_112 [(b_19, [(Sl.v t417_4), (VI t417_5)]), (b_18, [(Sl.v t413_3), (VI t413_4)]), (b_17, [(Sl.v t336_4), (VI t336_5)]), (b_16, [(Sl.v t330_4), (VI t330_5)]), (b_15, [(Sl.v t324_5), (VI t324_6)]), (b_14, [(Sl.v t324_4)]), (b_4, [(Sl.v t108_1), (VI t108_2)]), (b_3, [(Sl.v t101_1), (VI t101_2)]), (b_2, [(Sl.v t65_2), (VI t65_3)]), (b_1, [(Sl.v t65_1)])] →
  K (VB false) h_112) ∧
  ((!t417_6) = false →
  ∀ (b_19 : Nat) (h_112 : Heap), h_110.size ≤ b_19 → Fr (In []) h_110 h_112 → Vars h_112 [(b_19, [(Sl.v t417_4), (VI t417_5)]), (b_18, [(Sl.v t413_3), (VI t413_4)]), (b_17, [(Sl.v t336_4), (VI t336_5)]), (b_16, [(Sl.v t330_4), (VI t330_5)]), (b_15, [(Sl.v t324_5), (VI t324_6)]), (b_14, [(Sl.v t324_4)]), (b_4, [(Sl.v t108_1), (VI t108_2)]), (b_3, [(Sl.v t101_1), (VI t101_2)]), (b_2, [(Sl.v t65_2), (VI t65_3)]), (b_1, [(Sl.v t65_1)])] →
  callM P 32 #[(Value.agg #[(Sl.v t417_4), (VI t417_5)]), (Value.agg #[(Sl.v t324_5), (VI t324_6)])] h_112 fun rv_56 h_113 => ∃ t425_2 : Bool, rv_56 = (VB t425_2) ∧ Vars h_113 [(b_19, [(Sl.v t417_4), (VI t417_5)]), (b_18, [(Sl.v t413_3), (VI t413_4)]), (b_17, [(Sl.v t336_4), (VI t336_5)]), (b_16, [(Sl.v t330_4), (VI t330_5)]), (b_15, [(Sl.v t324_5), (VI t324_6)]), (b_14, [(Sl.v t324_4)]), (b_4, [(Sl.v t108_1), (VI t108_2)]), (b_3, [(Sl.v t101_1), (VI t101_2)]), (b_2, [(Sl.v t65_2), (VI t65_3)]), (b_1, [(Sl.v t65_1)])] ∧
  ((!t425_2) = true →
  K (VB false) h_113) ∧
  ((!t425_2) = false →
  ((decide (0 < t409_2)) = true →
  InB t342_3 (w64 (t409_2 - 1)) ∧
  ∃ t437_2 : Int, hcell h_113 (Addr.add (Sl.at t342_3 (w64 (t409_2 - 1)) 2) 1) = some (VI t437_2) ∧
  ((decide (t413_4 ≤ t437_2)) = true →
  K (VB false) h_113) ∧
  ((decide (t413_4 ≤ t437_2)) = false →
  ∃ m : Nat, m < n_15 ∧ J_16 m (w64 (t409_2 + 1)) h_113)) ∧
  ((decide (0 < t409_2)) = false →
  ∃ m : Nat, m < n_15 ∧ J_16 m (w64 (t409_2 + 1)) h_113)))) ∧
  ((decide (t409_2 < (t342_3.n : Int))) = false →
  (t330_6 = true →
  callM P 38 #[(Value.agg #[(Sl.v t324_4)]), (Value.agg #[(Sl.v t330_4), (VI t330_5)])] h_107 fun rv_57 h_114 => ∃ t448_3 : Sl, ∃ t448_4 : Bool, rv_57 = (Value.tuple #[(Sl.v t448_3), (VB t448_4)]) ∧ Vars h_114 [(b_17, [(Sl.v t336_4), (VI t336_5)]), (b_16, [(Sl.v t330_4), (VI t330_5)]), (b_15, [(Sl.v t324_5), (VI t324_6)]), (b_14, [(Sl.v t324_4)]), (b_4, [(Sl.v t108_1), (VI t108_2)]), (b_3, [(Sl.v t101_1), (VI t101_2)]), (b_2, [(Sl.v t65_2), (VI t65_3)]), (b_1, [(Sl.v t65_1)])] ∧
  ∃ J_17 : Nat → Bool → Int → Heap → Prop, (∃ n0 : Nat, J_17 n0 false 0 h_114) ∧
  ∀ (n_16 : Nat) (found57_2 : Bool) (t453_2 : Int) (h_115 : Heap), J_17 n_16 found57_2 t453_2 h_115 → Vars h_115 [(b_17, [(Sl.v t336_4), (VI t336_5)]), (b_16, [(Sl.v t330_4), (VI t330_5)]), (b_15, [(Sl.v t324_5), (VI t324_6)]), (b_14, [(Sl.v t324_4)]), (b_4, [(Sl.v t108_1), (VI t108_2)]), (b_3, [(Sl.v t101_1), (VI t101_2)]), (b_2, [(Sl.v t65_2), (VI t65_3)]), (b_1, [(Sl.v t65_1)])] →
  ((decide (t453_2 < (t448_3.n : Int))) = true →
  InB t448_3 t453_2 ∧
  ∃ t456_3 : Sl, ∃ t456_4 : Int, CellsAt h_115 (Sl.at t448_3 t453_2 2) [(Sl.v t456_3), (VI t456_4)] ∧
  (found57_2 = true →
  ∀ (b_20 : Nat) (h_117 : Heap), h_115.size ≤ b_20 → Fr (In []) h_115 h_117 → Vars h_117 [(b_20, [(Sl.v t456_3), (VI t456_4)]), (b_17, [(Sl.v t336_4), (VI t336_5)]), (b_16, [(Sl.v t330_4), (VI t330_5)]), (b_15, [(Sl.v t324_5), (VI t324_6)]), (b_14, [(Sl.v t324_4)]), (b_4, [(Sl.v t108_1), (VI t108_2)]), (b_3, [(Sl.v t101_1), (VI t101_2)]), (b_2, [(Sl.v t65_2), (VI t65_3)]), (b_1, [(Sl.v t65_1)])] →
  ∃ m : Nat, m < n_16 ∧ J_17 m true (w64 (t453_2 + 1)) h_117) ∧
  (found57_2 = false →
  ∀ (b_20 : Nat) (h_117 : Heap), h_115.size ≤ b_20 → Fr (In []) h_115 h_117 → Vars h_117 [(b_20, [(Sl.v t456_3), (VI t456_4)]), (b_17, [(Sl.v t336_4), (VI t336_5)]), (b_16, [(Sl.v t330_4), (VI t330_5)]), (b_15, [(Sl.v t324_5), (VI t324_6)]), (b_14, [(Sl.v t324_4)]), (b_4, [(Sl.v t108_1), (VI t108_2)]), (b_3, [(Sl.v t101_1), (VI t101_2)]), (b_2, [(Sl.v t65_2), (VI t65_3)]), (b_1, [(Sl.v t65_1)])] →
  callM P 32 #[(Value.agg #[(Sl.v t456_3), (VI t456_4)]), (Value.agg #[(Sl.v t324_5), (VI t324_6)])] h_117 fun rv_58 h_118 => ∃ t461_2 : Bool, rv_58 = (VB t461_2) ∧ Vars h_118 [(b_20, [(Sl.v t456_3), (VI t456_4)]), (b_17, [(Sl.v t336_4), (VI t336_5)]), (b_16, [(Sl.v t330_4), (VI t330_5)]), (b_15, [(Sl.v t324_5), (VI t324_6)]), (b_14, [(Sl.v t324_4)]), (b_4, [(Sl.v t108_1), (VI t108_2)]), (b_3, [(Sl.v t101_1), (VI t101_2)]), (b_2, [(Sl.v t65_2), (VI t65_3)]), (b_1, [(Sl.v t65_1)])] ∧
  ∃ m : Nat, m < n_16 ∧ J_17 m t461_2 (w64 (t453_2 + 1)) h_118)) ∧
  ((decide (t453_2 < (t448_3.n : Int))) = false →
  (t448_4 = true →
  K (VB found57_2) h_115) ∧
  (t448_4 = false →
  K (VB false) h_115))) ∧
  (t330_6 = false →
  K (VB true) h_107))))))))))))))))))))))
theorem v5 (code0_1 : Sl) (more1_1 : Sl) (h : Heap) (K : Value → Heap → Prop) (H : u5 Tryd.prog code0_1 more1_1 h K) : callM Tryd.prog 5 #[(Sl.v code0_1), (Sl.v more1_1)] h K := by
  refine c5 (Sl.v code0_1) (Sl.v more1_1) h K ?_
  unfold u5 at H
  unfold t5
  have hL : Vars h [] := .nil
  refine H.mono fun rv_1 h_1 H => ?_
  obtain ⟨t62_1, rfl, hL_1, H⟩ := H
  refine condM_b (fun hb_1 => ?_) (fun hb_1 => ?_)
  ·have H := H.1 hb_1
   exact H
  have H := H.2 hb_1
  refine H.mono fun rv_2 h_2 H => ?_
  obtain ⟨t65_1, t65_2, t65_3, t65_4, rfl, hL_2, H⟩ := H
  refine pop_ext (v := (Value.agg #[(Sl.v t65_1)])) rfl ?_
  refine pop_ext (v := (Value.agg #[(Sl.v t65_2), (VI t65_3)])) rfl ?_
  refine pop_ext (v := (VI t65_4)) rfl ?_
  refine eop_alloc 41 zer41 rfl hL_2 (fun b_1 h_3 hb_2 hf_1 hL_3 => ?_)
  refine eop_alloc 43 zer43 rfl hL_3 (fun b_2 h_4 hb_3 hf_2 hL_4 => ?_)
  refine uop_loc siz41 hL_4 1 rfl 0 [(Sl.v t65_1)] rfl rfl rfl (Nat.le_of_ble_eq_true rfl) (L' := [(b_2, [(Sl.v nilSl), (VI 0)]), (b_1, [(Sl.v t65_1)])]) rfl (fun h_5 hf_3 hL_5 => ?_)
  refine uop_loc siz43 hL_5 0 rfl 0 [(Sl.v t65_2), (VI t65_3)] rfl rfl rfl (Nat.le_of_ble_eq_true rfl) (L' := [(b_2, [(Sl.v t65_2), (VI t65_3)]), (b_1, [(Sl.v t65_1)])]) rfl (fun h_6 hf_4 hL_6 => ?_)
  refine rop_locA agg41 hL_6 1 rfl 0 (vs := [(Sl.v t65_1)]) rfl rfl ?_
  refine rop_locA agg43 hL_6 0 rfl 0 (vs := [(Sl.v t65_2), (VI t65_3)]) rfl rfl ?_
  have H := H b_1 b_2 h_6 (Nat.le_trans (Fr.size (Fr.r (In []) _)) hb_2) (Nat.le_trans (Fr.size (Fr.no' (Fr.r (In []) _) hf_1)) hb_3) (Fr.new (Fr.new (Fr.no' (Fr.no' (Fr.r (In []) _) hf_1) hf_2) (Nat.le_trans (Fr.size (Fr.r (In []) _)) hb_2) hf_3) (Nat.le_trans (Fr.size (Fr.no' (Fr.r (In []) _) hf_1)) hb_3) hf_4) hL_6
  refine H.mono fun rv_3 h_7 H => ?_
  obtain ⟨t73_1, t73_2, rfl, hL_7, H⟩ := H
  refine pop_ext (v := (Sl.v t73_1)) rfl ?_
  refine pop_ext (v := (VB t73_2)) rfl ?_
  refine rop_locA agg41 hL_7 1 rfl 0 (vs := [(Sl.v t65_1)]) rfl rfl ?_
  refine rop_locA agg43 hL_7 0 rfl 0 (vs := [(Sl.v t65_2), (VI t65_3)]) rfl rfl ?_
  refine H.mono fun rv_4 h_8 H => ?_
  obtain ⟨t80_1, t80_2, rfl, hL_8, H⟩ := H
  refine pop_ext (v := (Sl.v t80_1)) rfl ?_
  refine pop_ext (v := (VB t80_2)) rfl ?_
  refine rop_locA agg41 hL_8 1 rfl 0 (vs := [(Sl.v t65_1)]) rfl rfl ?_
  refine rop_locA agg43 hL_8 0 rfl 0 (vs := [(Sl.v t65_2), (VI t65_3)]) rfl rfl ?_
  refine H.mono fun rv_5 h_9 H => ?_
  obtain ⟨t87_1, t87_2, rfl, hL_9, H⟩ := H
  refine pop_ext (v := (Sl.v t87_1)) rfl ?_
  refine pop_ext (v := (VB t87_2)) rfl ?_
  refine rop_locA agg41 hL_9 1 rfl 0 (vs := [(Sl.v t65_1)]) rfl rfl ?_
  refine rop_locA agg43 hL_9 0 rfl 0 (vs := [(Sl.v t65_2), (VI t65_3)]) rfl rfl ?_
  refine H.mono fun rv_6 h_10 H => ?_
  obtain ⟨t94_1, t94_2, rfl, hL_10, H⟩ := H
  refine pop_ext (v := (Sl.v t94_1)) rfl ?_
  refine pop_ext (v := (VB t94_2)) rfl ?_
  refine rop_locA agg41 hL_10 1 rfl 0 (vs := [(Sl.v t65_1)]) rfl rfl ?_
  refine rop_locA agg43 hL_10 0 rfl 0 (vs := [(Sl.v t65_2), (VI t65_3)]) rfl rfl ?_
  refine H.mono fun rv_7 h_11 H => ?_
  obtain ⟨t101_1, t101_2, t101_3, rfl, hL_11, H⟩ := H
  refine pop_ext (v := (Value.agg #[(Sl.v t101_1), (VI t101_2)])) rfl ?_
  refine pop_ext (v := (VB t101_3)) rfl ?_
  refine eop_alloc 43 zer43 rfl hL_11 (fun b_3 h_12 hb_4 hf_5 hL_12 => ?_)
  refine uop_loc siz43 hL_12 0 rfl 0 [(Sl.v t101_1), (VI t101_2)] rfl rfl rfl (Nat.le_of_ble_eq_true rfl) (L' := [(b_3, [(Sl.v t101_1), (VI t101_2)]), (b_2, [(Sl.v t65_2), (VI t65_3)]), (b_1, [(Sl.v t65_1)])]) rfl (fun h_13 hf_6 hL_13 => ?_)
  refine rop_locA agg41 hL_13 2 rfl 0 (vs := [(Sl.v t65_1)]) rfl rfl ?_
  refine rop_locA agg43 hL_13 1 rfl 0 (vs := [(Sl.v t65_2), (VI t65_3)]) rfl rfl ?_
  have H := H b_3 h_13 (Nat.le_trans (Fr.size (Fr.r (In []) _)) hb_4) (Fr.new (Fr.no' (Fr.r (In []) _) hf_5) (Nat.le_trans (Fr.size (Fr.r (In []) _)) hb_4) hf_6) hL_13
  refine H.mono fun rv_8 h_14 H => ?_
  obtain ⟨t108_1, t108_2, t108_3, rfl, hL_14, H⟩ := H
  refine pop_ext (v := (Value.agg #[(Sl.v t108_1), (VI t108_2)])) rfl ?_
  refine pop_ext (v := (VB t108_3)) rfl ?_
  refine eop_alloc 43 zer43 rfl hL_14 (fun b_4 h_15 hb_5 hf_7 hL_15 => ?_)
  refine uop_loc siz43 hL_15 0 rfl 0 [(Sl.v t108_1), (VI t108_2)] rfl rfl rfl (Nat.le_of_ble_eq_true rfl) (L' := [(b_4, [(Sl.v t108_1), (VI t108_2)]), (b_3, [(Sl.v t101_1), (VI t101_2)]), (b_2, [(Sl.v t65_2), (VI t65_3)]), (b_1, [(Sl.v t65_1)])]) rfl (fun h_16 hf_8 hL_16 => ?_)
  refine rop_locA agg41 hL_16 3 rfl 0 (vs := [(Sl.v t65_1)]) rfl rfl ?_
  refine rop_locA agg43 hL_16 2 rfl 0 (vs := [(Sl.v t65_2), (VI t65_3)]) rfl rfl ?_
  have H := H b_4 h_16 (Nat.le_trans (Fr.size (Fr.r (In []) _)) hb_5) (Fr.new (Fr.no' (Fr.r (In []) _) hf_7) (Nat.le_trans (Fr.size (Fr.r (In []) _)) hb_5) hf_8) hL_16
  refine H.mono fun rv_9 h_17 H => ?_
  obtain ⟨t115_1, t115_2, rfl, hL_17, H⟩ := H
  refine pop_ext (v := (Sl.v t115_1)) rfl ?_
  refine pop_ext (v := (VB t115_2)) rfl ?_
  refine rop_locA agg41 hL_17 3 rfl 0 (vs := [(Sl.v t65_1)]) rfl rfl ?_
  refine rop_locA agg43 hL_17 2 rfl 0 (vs := [(Sl.v t65_2), (VI t65_3)]) rfl rfl ?_
  refine H.mono fun rv_10 h_18 H => ?_
  obtain ⟨t122_1, t122_2, rfl, hL_18, H⟩ := H
  refine pop_ext (v := (Sl.v t122_1)) rfl ?_
  refine pop_ext (v := (VB t122_2)) rfl ?_
  refine pop_bne boo4 _ _ t73_2 t80_2 ?_
  refine guardM_sf (fun hb_6 => ?_) (fun hb_6 => ?_)
  rotate_left
  ·have H := H.1 hb_6
   refine guardM_n' hb_6 (by decide) ?_
   refine guardM_n' hb_6 (by decide) ?_
   refine guardM_n' hb_6 (by decide) ?_
   refine pop_pickt' hb_6 ?_
   refine guardM_n (by decide) ?_
   refine guardM_n (by decide) ?_
   refine guardM_n (by decide) ?_
   refine pop_pickt _ _ ?_
   refine guardM_n (by decide) ?_
   refine guardM_n (by decide) ?_
   refine guardM_n (by decide) ?_
   refine guardM_n (by decide) ?_
   refine pop_pickt _ _ ?_
   refine guardM_n (by decide) ?_
   refine guardM_n (by decide) ?_
   refine guardM_n (by decide) ?_
   refine pop_pickt _ _ ?_
   refine guardM_n (by decide) ?_
   refine guardM_n (by decide) ?_
   refine guardM_n (by decide) ?_
   refine guardM_n (by decide) ?_
   refine pop_pickt _ _ ?_
   refine guardM_n (by decide) ?_
   refine guardM_n (by decide) ?_
   refine guardM_n (by decide) ?_
   refine pop_pickt _ _ ?_
   refine guardM_n (by decide) ?_
   refine guardM_n (by decide) ?_
   refine guardM_n (by decide) ?_
   refine guardM_n (by decide) ?_
   refine pop_pickt _ _ ?_
   refine guardM_n (by decide) ?_
   refine guardM_n (by decide) ?_
   refine guardM_n (by decide) ?_
   refine pop_pickt _ _ ?_
   refine guardM_n (by decide) ?_
   refine guardM_n (by decide) ?_
   refine guardM_n (by decide) ?_
   refine pop_pickt _ _ ?_
   refine guardM_n (by decide) ?_
   refine guardM_n (by decide) ?_
   refine guardM_n (by decide) ?_
   refine guardM_n (by decide) ?_
   refine guardM_n (by decide) ?_
   refine pop_pickt _ _ ?_
   refine condM_t ?_
   exact H
  have H := H.2 hb_6
  refine guardM_y' hb_6 ?_
  refine guardM_y' hb_6 ?_
  refine H.mono fun rv_11 h_19 H => ?_
  obtain ⟨t131_1, rfl, hL_19, H⟩ := H
  refine guardM_y' hb_6 ?_
  refine pop_not t131_1 ?_
  refine pop_pickf' hb_6 ?_
  refine guardM_sf (fun hb_7 => ?_) (fun hb_7 => ?_)
  rotate_left
  ·have H := H.1 hb_7
   refine guardM_n' hb_7 (by decide) ?_
   refine guardM_n' hb_7 (by decide) ?_
   refine pop_pickt' hb_7 ?_
   refine guardM_n (by decide) ?_
   refine guardM_n (by decide) ?_
   refine guardM_n (by decide) ?_
   refine guardM_n (by decide) ?_
   refine pop_pickt _ _ ?_
   refine guardM_n (by decide) ?_
   refine guardM_n (by decide) ?_
   refine guardM_n (by decide) ?_
   refine pop_pickt _ _ ?_
   refine guardM_n (by decide) ?_
   refine guardM_n (by decide) ?_
   refine guardM_n (by decide) ?_
   refine guardM_n (by decide) ?_
   refine pop_pickt _ _ ?_
   refine guardM_n (by decide) ?_
   refine guardM_n (by decide) ?_
   refine guardM_n (by decide) ?_
   refine pop_pickt _ _ ?_
   refine guardM_n (by decide) ?_
   refine guardM_n (by decide) ?_
   refine guardM_n (by decide) ?_
   refine guardM_n (by decide) ?_
   refine pop_pickt _ _ ?_
   refine guardM_n (by decide) ?_
   refine guardM_n (by decide) ?_
   refine guardM_n (by decide) ?_
   refine pop_pickt _ _ ?_
   refine guardM_n (by decide) ?_
   refine guardM_n (by decide) ?_
   refine guardM_n (by decide) ?_
   refine pop_pickt _ _ ?_
   refine guardM_n (by decide) ?_
   refine guardM_n (by decide) ?_
   refine guardM_n (by decide) ?_
   refine guardM_n (by decide) ?_
   refine guardM_n (by decide) ?_
   refine pop_pickt _ _ ?_
   refine condM_t ?_
   exact H
  have H := H.2 hb_7
  refine guardM_y' hb_7 ?_
  refine guardM_y' hb_7 ?_
  refine pop_bne boo4 _ _ t87_2 t94_2 ?_
  refine pop_pickf' hb_7 ?_
  refine guardM_sf (fun hb_8 => ?_) (fun hb_8 => ?_)
  rotate_left
  ·have H := H.1 hb_8
   refine guardM_n' hb_8 (by decide) ?_
   refine guardM_n' hb_8 (by decide) ?_
   refine guardM_n' hb_8 (by decide) ?_
   refine pop_pickt' hb_8 ?_
   refine guardM_n (by decide) ?_
   refine guardM_n (by decide) ?_
   refine guardM_n (by decide) ?_
   refine pop_pickt _ _ ?_
   refine guardM_n (by decide) ?_
   refine guardM_n (by decide) ?_
   refine guardM_n (by decide) ?_
   refine guardM_n (by decide) ?_
   refine pop_pickt _ _ ?_
   refine guardM_n (by decide) ?_
   refine guardM_n (by decide) ?_
   refine guardM_n (by decide) ?_
   refine pop_pickt _ _ ?_
   refine guardM_n (by decide) ?_
   refine guardM_n (by decide) ?_
   refine guardM_n (by decide) ?_
   refine guardM_n (by decide) ?_
   refine pop_pickt _ _ ?_
   refine guardM_n (by decide) ?_
   refine guardM_n (by decide) ?_
   refine guardM_n (by decide) ?_
   refine pop_pickt _ _ ?_
   refine guardM_n (by decide) ?_
   refine guardM_n (by decide) ?_
   refine guardM_n (by decide) ?_
   refine pop_pickt _ _ ?_
   refine guardM_n (by decide) ?_
   refine guardM_n (by decide) ?_
   refine guardM_n (by decide) ?_
   refine guardM_n (by decide) ?_
   refine guardM_n (by decide) ?_
   refine pop_pickt _ _ ?_
   refine condM_t ?_
   exact H
  have H := H.2 hb_8
  refine guardM_y' hb_8 ?_
  refine guardM_y' hb_8 ?_
  refine H.mono fun rv_12 h_20 H => ?_
  obtain ⟨t142_1, rfl, hL_20, H⟩ := H
  refine guardM_y' hb_8 ?_
  refine pop_not t142_1 ?_
  refine pop_pickf' hb_8 ?_
  refine guardM_sf (fun hb_9 => ?_) (fun hb_9 => ?_)
  rotate_left
  ·have H := H.1 hb_9
   refine guardM_n' hb_9 (by decide) ?_
   refine guardM_n' hb_9 (by decide) ?_
   refine pop_pickt' hb_9 ?_
   refine guardM_n (by decide) ?_
   refine guardM_n (by decide) ?_
   refine guardM_n (by decide) ?_
   refine guardM_n (by decide) ?_
   refine pop_pickt _ _ ?_
   refine guardM_n (by decide) ?_
   refine guardM_n (by decide) ?_
   refine guardM_n (by decide) ?_
   refine pop_pickt _ _ ?_
   refine guardM_n (by decide) ?_
   refine guardM_n (by decide) ?_
   refine guardM_n (by decide) ?_
   refine guardM_n (by decide) ?_
   refine pop_pickt _ _ ?_
   refine guardM_n (by decide) ?_
   refine guardM_n (by decide) ?_
   refine guardM_n (by decide) ?_
   refine pop_pickt _ _ ?_
   refine guardM_n (by decide) ?_
   refine guardM_n (by decide) ?_
   refine guardM_n (by decide) ?_
   refine pop_pickt _ _ ?_
   refine guardM_n (by decide) ?_
   refine guardM_n (by decide) ?_
   refine guardM_n (by decide) ?_
   refine guardM_n (by decide) ?_
   refine guardM_n (by decide) ?_
   refine pop_pickt _ _ ?_
   refine condM_t ?_
   exact H
  have H := H.2 hb_9
  refine guardM_y' hb_9 ?_
  refine guardM_y' hb_9 ?_
  refine pop_bne boo4 _ _ t101_3 t108_3 ?_
  refine pop_pickf' hb_9 ?_
  refine guardM_sf (fun hb_10 => ?_) (fun hb_10 => ?_)
  rotate_left
  ·have H := H.1 hb_10
   refine guardM_n' hb_10 (by decide) ?_
   refine guardM_n' hb_10 (by decide) ?_
   refine guardM_n' hb_10 (by decide) ?_
   refine pop_pickt' hb_10 ?_
   refine guardM_n (by decide) ?_
   refine guardM_n (by decide) ?_
   refine guardM_n (by decide) ?_
   refine pop_pickt _ _ ?_
   refine guardM_n (by decide) ?_
   refine guardM_n (by decide) ?_
   refine guardM_n (by decide) ?_
   refine guardM_n (by decide) ?_
   refine pop_pickt _ _ ?_
   refine guardM_n (by decide) ?_
   refine guardM_n (by decide) ?_
   refine guardM_n (by decide) ?_
   refine pop_pickt _ _ ?_
   refine guardM_n (by decide) ?_
   refine guardM_n (by decide) ?_
   refine guardM_n (by decide) ?_
   refine pop_pickt _ _ ?_
   refine guardM_n (by decide) ?_
   refine guardM_n (by decide) ?_
   refine guardM_n (by decide) ?_
   refine guardM_n (by decide) ?_
   refine guardM_n (by decide) ?_
   refine pop_pickt _ _ ?_
   refine condM_t ?_
   exact H
  have H := H.2 hb_10
  refine rop_locA agg43 hL_20 1 rfl 0 (vs := [(Sl.v t101_1), (VI t101_2)]) rfl rfl ?_
  refine guardM_y' hb_10 ?_
  refine rop_locA agg43 hL_20 0 rfl 0 (vs := [(Sl.v t108_1), (VI t108_2)]) rfl rfl ?_
  refine guardM_y' hb_10 ?_
  refine H.mono fun rv_13 h_21 H => ?_
  obtain ⟨t153_1, rfl, hL_21, H⟩ := H
  refine guardM_y' hb_10 ?_
  refine pop_not t153_1 ?_
  refine pop_pickf' hb_10 ?_
  refine guardM_sf (fun hb_11 => ?_) (fun hb_11 => ?_)
  rotate_left
  ·have H := H.1 hb_11
   refine guardM_n' hb_11 (by decide) ?_
   refine guardM_n' hb_11 (by decide) ?_
   refine pop_pickt' hb_11 ?_
   refine guardM_n (by decide) ?_
   refine guardM_n (by decide) ?_
   refine guardM_n (by decide) ?_
   refine guardM_n (by decide) ?_
   refine pop_pickt _ _ ?_
   refine guardM_n (by decide) ?_
   refine guardM_n (by decide) ?_
   refine guardM_n (by decide) ?_
   refine pop_pickt _ _ ?_
   refine guardM_n (by decide) ?_
   refine guardM_n (by decide) ?_
   refine guardM_n (by decide) ?_
   refine pop_pickt _ _ ?_
   refine guardM_n (by decide) ?_
   refine guardM_n (by decide) ?_
   refine guardM_n (by decide) ?_
   refine guardM_n (by decide) ?_
   refine guardM_n (by decide) ?_
   refine pop_pickt _ _ ?_
   refine condM_t ?_
   exact H
  have H := H.2 hb_11
  refine guardM_y' hb_11 ?_
  refine guardM_y' hb_11 ?_
  refine pop_bne boo4 _ _ t115_2 t122_2 ?_
  refine pop_pickf' hb_11 ?_
  refine guardM_sf (fun hb_12 => ?_) (fun hb_12 => ?_)
  rotate_left
  ·have H := H.1 hb_12
   refine guardM_n' hb_12 (by decide) ?_
   refine guardM_n' hb_12 (by decide) ?_
   refine guardM_n' hb_12 (by decide) ?_
   refine pop_pickt' hb_12 ?_
   refine guardM_n (by decide) ?_
   refine guardM_n (by decide) ?_
   refine guardM_n (by decide) ?_
   refine pop_pickt _ _ ?_
   refine guardM_n (by decide) ?_
   refine guardM_n (by decide) ?_
   refine guardM_n (by decide) ?_
   refine pop_pickt _ _ ?_
   refine guardM_n (by decide) ?_
   refine guardM_n (by decide) ?_
   refine guardM_n (by decide) ?_
   refine guardM_n (by decide) ?_
   refine guardM_n (by decide) ?_
   refine pop_pickt _ _ ?_
   refine condM_t ?_
   exact H
  have H := H.2 hb_12
  refine guardM_y' hb_12 ?_
  refine guardM_y' hb_12 ?_
  refine H.mono fun rv_14 h_22 H => ?_
  obtain ⟨t164_1, rfl, hL_22, H⟩ := H
  refine guardM_y' hb_12 ?_
  refine pop_not t164_1 ?_
  refine pop_pickf' hb_12 ?_
  refine guardM_sf (fun hb_13 => ?_) (fun hb_13 => ?_)
  rotate_left
  ·have H := H.1 hb_13
   refine guardM_n' hb_13 (by decide) ?_
   refine guardM_n' hb_13 (by decide) ?_
   refine pop_pickt' hb_13 ?_
   refine guardM_n (by decide) ?_
   refine guardM_n (by decide) ?_
   refine guardM_n (by decide) ?_
   refine pop_pickt _ _ ?_
   refine guardM_n (by decide) ?_
   refine guardM_n (by decide) ?_
   refine guardM_n (by decide) ?_
   refine guardM_n (by decide) ?_
   refine guardM_n (by decide) ?_
   refine pop_pickt _ _ ?_
   refine condM_t ?_
   exact H
  have H := H.2 hb_13
  refine guardM_y' hb_13 ?_
  refine guardM_y' hb_13 ?_
  refine pop_bne boo4 _ _ t87_2 t73_2 ?_
  refine pop_pickf' hb_13 ?_
  refine guardM_sf (fun hb_14 => ?_) (fun hb_14 => ?_)
  rotate_left
  ·have H := H.1 hb_14
   refine guardM_n' hb_14 (by decide) ?_
   refine guardM_n' hb_14 (by decide) ?_
   refine pop_pickt' hb_14 ?_
   refine guardM_n (by decide) ?_
   refine guardM_n (by decide) ?_
   refine guardM_n (by decide) ?_
   refine guardM_n (by decide) ?_
   refine guardM_n (by decide) ?_
   refine pop_pickt _ _ ?_
   refine condM_t ?_
   exact H
  have H := H.2 hb_14
  refine guardM_y' hb_14 ?_
  refine guardM_y' hb_14 ?_
  refine pop_bne boo4 _ _ t101_3 t73_2 ?_
  refine pop_pickf' hb_14 ?_
  refine guardM_sf (fun hb_15 => ?_) (fun hb_15 => ?_)
  rotate_left
  ·have H := H.1 hb_15
   refine guardM_n' hb_15 (by decide) ?_
   refine guardM_n (by decide) ?_
   refine guardM_n (by decide) ?_
   refine guardM_n' hb_15 (by decide) ?_
   refine pop_pickt' hb_15 ?_
   refine condM_t ?_
   exact H
  have H := H.2 hb_15
  refine guardM_y' hb_15 ?_
  refine guardM_st (fun hb_16 => ?_) (fun hb_16 => ?_)
  rotate_left
  ·have H := H.2 hb_16
   refine guardM_n' hb_16 (by decide) ?_
   refine guardM_y' hb_15 ?_
   refine pop_pickf' hb_16 ?_
   refine pop_pickf' hb_15 ?_
   refine condM_f ?_
   obtain ⟨J_10, H, HB_17⟩ := H
   refine ⟨fun (vs : List Value) (h' : Heap) => vs = [] ∧ J_10  h' ∧ Vars h' [(b_4, [(Sl.v t108_1), (VI t108_2)]), (b_3, [(Sl.v t101_1), (VI t101_2)]), (b_2, [(Sl.v t65_2), (VI t65_3)]), (b_1, [(Sl.v t65_1)])], ?_, ?_⟩
   ·refine condM_b (fun hb_62 => ?_) (fun hb_62 => ?_)
    rotate_left
    ·have H := H.2 hb_62
     exact ⟨rfl, H, hL_22⟩
    have H := H.1 hb_62
    refine pop_field 0 fld41_0 b_1 0 ?_
    refine rop_loc one22 hL_22 3 rfl 0 (v := (Sl.v t65_1)) rfl ?_
    refine pop_len t65_1 _ _ sli22 ?_
    refine H.mono fun rv_38 h_75 H => ?_
    obtain ⟨t188_2, rfl, hL_75, H⟩ := H
    refine pop_len t73_1 _ _ sli22 ?_
    obtain ⟨J_11, ⟨n_14, h0_7⟩, HB_13⟩ := H
    refine loop_intro (J := fun (n : Nat) (vs : List Value) (h' : Heap) => ∃ total24_3 : Int, ∃ t191_2 : Int, vs = [(VI total24_3), (VI t191_2)] ∧ J_11 n total24_3 t191_2 h' ∧ Vars h' [(b_4, [(Sl.v t108_1), (VI t108_2)]), (b_3, [(Sl.v t101_1), (VI t101_2)]), (b_2, [(Sl.v t65_2), (VI t65_3)]), (b_1, [(Sl.v t65_1)])]) n_14 ⟨0, 0, rfl, h0_7, hL_75⟩ ?_
    intro I_7 mu_7 hI_7 junk_10 tv_19 tv_20 h_76 hi_18
    obtain ⟨n_11, ⟨total24_3, t191_2, hv, hJ_10, hL_76⟩, hn_6⟩ := hI_7 _ _ hi_18
    cases hv
    have H := HB_13 n_11 total24_3 t191_2 h_76 hJ_10 hL_76
    refine pop_lss .i64 t191_2 (t73_1.n : Int) ?_
    refine condM_b (fun hb_63 => ?_) (fun hb_63 => ?_)
    rotate_left
    ·have H := H.2 hb_63
     refine pop_ine .i64 _ _ total24_3 t65_4 ?_
     refine guardM_sf (fun hb_70 => ?_) (fun hb_70 => ?_)
     rotate_left
     ·have H := H.1 hb_70
      refine guardM_n' hb_70 (by decide) ?_
      refine guardM_n' hb_70 (by decide) ?_
      refine guardM_n' hb_70 (by decide) ?_
      refine pop_pickt' hb_70 ?_
      refine guardM_n (by decide) ?_
      refine guardM_n (by decide) ?_
      refine guardM_n (by decide) ?_
      refine guardM_n (by decide) ?_
      refine pop_pickt _ _ ?_
      refine guardM_n (by decide) ?_
      refine guardM_n (by decide) ?_
      refine guardM_n (by decide) ?_
      refine guardM_n (by decide) ?_
      refine pop_pickt _ _ ?_
      refine condM_t ?_
      exact H
     have H := H.2 hb_70
     refine guardM_y' hb_70 ?_
     refine H.mono fun rv_40 h_82 H => ?_
     obtain ⟨t267_2, rfl, hL_82, H⟩ := H
     refine guardM_y' hb_70 ?_
     refine guardM_y' hb_70 ?_
     refine pop_ine .i64 _ _ t267_2 t65_4 ?_
     refine pop_pickf' hb_70 ?_
     refine guardM_sf (fun hb_71 => ?_) (fun hb_71 => ?_)
     rotate_left
     ·have H := H.1 hb_71
      refine guardM_n' hb_71 (by decide) ?_
      refine guardM_n' hb_71 (by decide) ?_
      refine guardM_n' hb_71 (by decide) ?_
      refine pop_pickt' hb_71 ?_
      refine guardM_n (by decide) ?_
      refine guardM_n (by decide) ?_
      refine guardM_n (by decide) ?_
      refine guardM_n (by decide) ?_
      refine pop_pickt _ _ ?_
      refine condM_t ?_
      exact H
     have H := H.2 hb_71
     refine guardM_y' hb_71 ?_
     refine guardM_y' hb_71 ?_
     refine H.mono fun rv_41 h_83 H => ?_
     obtain ⟨t274_2, rfl, hL_83, H⟩ := H
     refine guardM_y' hb_71 ?_
     refine pop_not t274_2 ?_
     refine pop_pickf' hb_71 ?_
     refine guardM_sf (fun hb_72 => ?_) (fun hb_72 => ?_)
     rotate_left
     ·have H := H.1 hb_72
      refine guardM_n' hb_72 (by decide) ?_
      refine guardM_n' hb_72 (by decide) ?_
      refine guardM_n' hb_72 (by decide) ?_
      refine pop_pickt' hb_72 ?_
      refine condM_t ?_
      exact H
     have H := H.2 hb_72
     refine rop_locA agg41 hL_83 3 rfl 0 (vs := [(Sl.v t65_1)]) rfl rfl ?_
     refine guardM_y' hb_72 ?_
     refine rop_locA agg43 hL_83 1 rfl 0 (vs := [(Sl.v t101_1), (VI t101_2)]) rfl rfl ?_
     refine guardM_y' hb_72 ?_
     refine H.mono fun rv_42 h_84 H => ?_
     obtain ⟨t280_2, rfl, hL_84, H⟩ := H
     refine guardM_y' hb_72 ?_
     refine pop_not t280_2 ?_
     refine pop_pickf' hb_72 ?_
     refine condM_b (fun hb_73 => ?_) (fun hb_73 => ?_)
     ·have H := H.1 hb_73
      exact H
     have H := H.2 hb_73
     exact ⟨rfl, H, hL_84⟩
    have H := H.1 hb_63
    obtain ⟨hi_19, H⟩ := H
    refine pop_index sli22 siz34 .i64 t73_1 t191_2 hi_19 ?_
    obtain ⟨t195_2, hc_22, H⟩ := H
    refine rop_one one34 (Sl.v t195_2) hc_22 ?_
    refine pop_len t195_2 _ _ sli34 ?_
    obtain ⟨J_12, ⟨n_13, h0_6⟩, HB_12⟩ := H
    refine loop_intro (J := fun (n : Nat) (vs : List Value) (h' : Heap) => ∃ total24_4 : Int, ∃ least28_2 : Int, ∃ most29_2 : Int, ∃ t199_2 : Int, vs = [(VI total24_4), (VI least28_2), (VI most29_2), (VI t199_2)] ∧ J_12 n total24_4 least28_2 most29_2 t199_2 h' ∧ Vars h' [(b_4, [(Sl.v t108_1), (VI t108_2)]), (b_3, [(Sl.v t101_1), (VI t101_2)]), (b_2, [(Sl.v t65_2), (VI t65_3)]), (b_1, [(Sl.v t65_1)])]) n_13 ⟨total24_3, t65_4, 0, 0, rfl, h0_6, hL_76⟩ ?_
    intro I_6 mu_6 hI_6 junk_11 tv_15 tv_16 tv_17 tv_18 h_77 hi_20
    obtain ⟨n_12, ⟨total24_4, least28_2, most29_2, t199_2, hv, hJ_11, hL_77⟩, hn_7⟩ := hI_6 _ _ hi_20
    cases hv
    have H := HB_12 n_12 total24_4 least28_2 most29_2 t199_2 h_77 hJ_11 hL_77
    refine pop_lss .i64 t199_2 (t195_2.n : Int) ?_
    refine condM_b (fun hb_64 => ?_) (fun hb_64 => ?_)
    ·have H := H.1 hb_64
     obtain ⟨hi_21, H⟩ := H
     refine pop_index sli34 siz3 .i64 t195_2 t199_2 hi_21 ?_
     obtain ⟨t203_2, hc_17, H⟩ := H
     refine rop_one one3 (VI t203_2) hc_17 ?_
     obtain ⟨J_13, H, HB_11⟩ := H
     refine ⟨fun (vs : List Value) (h' : Heap) => ∃ x_5 : Int, vs = [(VI x_5)] ∧ J_13 x_5 h' ∧ Vars h' [(b_4, [(Sl.v t108_1), (VI t108_2)]), (b_3, [(Sl.v t101_1), (VI t101_2)]), (b_2, [(Sl.v t65_2), (VI t65_3)]), (b_1, [(Sl.v t65_1)])], ?_, ?_⟩
     ·refine pop_lss .i64 t203_2 least28_2 ?_
      refine condM_b (fun hb_65 => ?_) (fun hb_65 => ?_)
      ·have H := H.1 hb_65
       exact ⟨t203_2, rfl, H, hL_77⟩
      have H := H.2 hb_65
      exact ⟨least28_2, rfl, H, hL_77⟩
     intro junk_12 tv_13 h_78
     rintro ⟨x_5, hv, hJ_12, hL_78⟩
     cases hv
     have H := HB_11 x_5 h_78 hJ_12 hL_78
     obtain ⟨J_14, H, HB_10⟩ := H
     refine ⟨fun (vs : List Value) (h' : Heap) => ∃ x_6 : Int, vs = [(VI x_6)] ∧ J_14 x_6 h' ∧ Vars h' [(b_4, [(Sl.v t108_1), (VI t108_2)]), (b_3, [(Sl.v t101_1), (VI t101_2)]), (b_2, [(Sl.v t65_2), (VI t65_3)]), (b_1, [(Sl.v t65_1)])], ?_, ?_⟩
     ·refine pop_gtr .i64 t203_2 most29_2 ?_
      refine condM_b (fun hb_66 => ?_) (fun hb_66 => ?_)
      ·have H := H.1 hb_66
       exact ⟨t203_2, rfl, H, hL_78⟩
      have H := H.2 hb_66
      exact ⟨most29_2, rfl, H, hL_78⟩
     intro junk_13 tv_14 h_79
     rintro ⟨x_6, hv, hJ_13, hL_79⟩
     cases hv
     have H := HB_10 x_6 h_79 hJ_13 hL_79
     refine pop_add .i64 total24_4 t203_2 ?_
     refine pop_field 0 fld41_0 b_1 0 ?_
     refine rop_loc one22 hL_79 3 rfl 0 (v := (Sl.v t65_1)) rfl ?_
     obtain ⟨hi_22, H⟩ := H
     refine pop_index sli22 siz34 .i64 t65_1 t191_2 hi_22 ?_
     obtain ⟨t220_2, hc_16, H⟩ := H
     refine rop_one one34 (Sl.v t220_2) hc_16 ?_
     obtain ⟨hi_23, H⟩ := H
     refine pop_index sli34 siz3 .i64 t220_2 t199_2 hi_23 ?_
     obtain ⟨t223_2, hc_15, H⟩ := H
     refine rop_one one3 (VI t223_2) hc_15 ?_
     obtain ⟨hi_24, H⟩ := H
     refine pop_index sli34 siz3 .i64 t188_2 t223_2 hi_24 ?_
     obtain ⟨t225_2, hc_14, H⟩ := H
     refine rop_one one3 (VI t225_2) hc_14 ?_
     refine pop_add .i64 t225_2 t203_2 ?_
     obtain ⟨hi_25, H⟩ := H
     refine pop_index sli34 siz3 .i64 t188_2 t223_2 hi_25 ?_
     obtain ⟨hw_2, hL_80, H⟩ := H
     refine uop_cell (v := (VI (w64 (t225_2 + t203_2)))) siz3 hw_2 rfl (fun h_80 he_2 => ?_)
     rw [← he_2] at hL_80
     have H := H h_80 he_2 hL_80
     refine pop_add .i64 t199_2 1 ?_
     obtain ⟨m_10, hm_10, H⟩ := H
     exact hn_7 _ _ ⟨m_10, hm_10, (w64 (total24_4 + t203_2)), x_5, x_6, (w64 (t199_2 + 1)), rfl, H, hL_80⟩
    have H := H.2 hb_64
    refine pop_len t195_2 _ _ sli34 ?_
    refine pop_gtr .i64 (t195_2.n : Int) 0 ?_
    refine guardM_st (fun hb_67 => ?_) (fun hb_67 => ?_)
    rotate_left
    ·have H := H.2 hb_67
     refine guardM_n' hb_67 (by decide) ?_
     refine guardM_n' hb_67 (by decide) ?_
     refine guardM_n' hb_67 (by decide) ?_
     refine pop_pickf' hb_67 ?_
     refine condM_f ?_
     refine pop_len t195_2 _ _ sli34 ?_
     refine pop_gtr .i64 (t195_2.n : Int) 0 ?_
     refine guardM_n' hb_67 (by decide) ?_
     refine guardM_n' hb_67 (by decide) ?_
     refine guardM_n' hb_67 (by decide) ?_
     refine guardM_n' hb_67 (by decide) ?_
     refine guardM_n' hb_67 (by decide) ?_
     refine guardM_n' hb_67 (by decide) ?_
     refine guardM_n' hb_67 (by decide) ?_
     refine guardM_n' hb_67 (by decide) ?_
     refine guardM_n' hb_67 (by decide) ?_
     refine guardM_n' hb_67 (by decide) ?_
     refine guardM_n' hb_67 (by decide) ?_
     refine guardM_n' hb_67 (by decide) ?_
     refine guardM_n' hb_67 (by decide) ?_
     refine guardM_n' hb_67 (by decide) ?_
     refine ⟨⟨_, rfl, fun h => absurd (h.symm.trans hb_67) (by decide), fun _ => rfl⟩, ?_⟩
     refine ⟨⟨_, rfl, fun h => absurd (h.symm.trans hb_67) (by decide), fun _ => rfl⟩, ?_⟩
     refine ⟨⟨_, rfl, fun h => absurd (h.symm.trans hb_67) (by decide), fun _ => rfl⟩, ?_⟩
     refine ⟨⟨_, rfl, fun h => absurd (h.symm.trans hb_67) (by decide), fun _ => rfl⟩, ?_⟩
     refine guardM_n' hb_67 (by decide) ?_
     refine guardM_n' hb_67 (by decide) ?_
     refine guardM_n' hb_67 (by decide) ?_
     refine pop_pickf' hb_67 ?_
     refine condM_f ?_
     refine pop_add .i64 t191_2 1 ?_
     obtain ⟨m_12, hm_12, H⟩ := H
     exact hn_6 _ _ ⟨m_12, hm_12, total24_4, (w64 (t191_2 + 1)), rfl, H, hL_77⟩
    have H := H.1 hb_67
    refine guardM_y' hb_67 ?_
    refine guardM_y' hb_67 ?_
    refine pop_sub .i64 most29_2 least28_2 ?_
    refine guardM_y' hb_67 ?_
    refine pop_gtr .i64 (w64 (most29_2 - least28_2)) 1 ?_
    refine pop_pickt' hb_67 ?_
    refine condM_b (fun hb_68 => ?_) (fun hb_68 => ?_)
    ·have H := H.1 hb_68
     exact H
    have H := H.2 hb_68
    refine pop_len t195_2 _ _ sli34 ?_
    refine pop_gtr .i64 (t195_2.n : Int) 0 ?_
    refine guardM_y' hb_67 ?_
    refine pop_field 0 fld43_0 b_2 0 ?_
    refine guardM_y' hb_67 ?_
    refine rop_loc one34 hL_77 2 rfl 0 (v := (Sl.v t65_2)) rfl ?_
    refine guardM_y' hb_67 ?_
    refine guardM_y' hb_67 ?_
    obtain ⟨hi_26, H⟩ := H
    refine pop_index sli34 siz3 .i64 t65_2 t191_2 hi_26 ?_
    refine guardM_y' hb_67 ?_
    obtain ⟨t247_2, hc_21, H⟩ := H
    refine rop_one one3 (VI t247_2) hc_21 ?_
    refine guardM_y' hb_67 ?_
    refine guardM_y' hb_67 ?_
    refine guardM_y' hb_67 ?_
    refine pop_len t195_2 _ _ sli34 ?_
    refine guardM_y' hb_67 ?_
    refine pop_field 0 fld43_0 b_3 0 ?_
    refine guardM_y' hb_67 ?_
    refine rop_loc one34 hL_77 1 rfl 0 (v := (Sl.v t101_1)) rfl ?_
    refine guardM_y' hb_67 ?_
    refine guardM_y' hb_67 ?_
    obtain ⟨hi_27, H⟩ := H
    refine pop_index sli34 siz3 .i64 t101_1 t191_2 hi_27 ?_
    refine guardM_y' hb_67 ?_
    obtain ⟨t258_2, hc_20, H⟩ := H
    refine rop_one one3 (VI t258_2) hc_20 ?_
    refine guardM_y' hb_67 ?_
    refine H.mono fun rv_39 h_81 H => ?_
    obtain ⟨t249_2, rfl, hL_81, H⟩ := H
    refine ⟨⟨_, rfl, fun _ => ?_, fun h => absurd hb_67 h⟩, ?_⟩
    ·exact still_one one3 H.1
    obtain ⟨hc_18, H⟩ := H
    refine ⟨⟨_, rfl, fun _ => ?_, fun h => absurd hb_67 h⟩, ?_⟩
    ·exact still_loc one34 hL_81 1 rfl 0 (v := (Sl.v t101_1)) rfl
    refine ⟨⟨_, rfl, fun _ => ?_, fun h => absurd hb_67 h⟩, ?_⟩
    ·exact still_one one3 H.1
    obtain ⟨hc_19, H⟩ := H
    refine ⟨⟨_, rfl, fun _ => ?_, fun h => absurd hb_67 h⟩, ?_⟩
    ·exact still_loc one34 hL_81 2 rfl 0 (v := (Sl.v t65_2)) rfl
    refine guardM_y' hb_67 ?_
    refine pop_add .i64 t247_2 t249_2 ?_
    refine guardM_y' hb_67 ?_
    obtain ⟨hz_2, H⟩ := H
    refine pop_rem .i64 (w64 (t247_2 + t249_2)) (t195_2.n : Int) hz_2 ?_
    refine guardM_y' hb_67 ?_
    refine pop_ine .i64 _ _ (Int.tmod (w64 (t247_2 + t249_2)) (t195_2.n : Int)) t258_2 ?_
    refine pop_pickt' hb_67 ?_
    refine condM_b (fun hb_69 => ?_) (fun hb_69 => ?_)
    ·have H := H.1 hb_69
     exact H
    have H := H.2 hb_69
    refine pop_add .i64 t191_2 1 ?_
    obtain ⟨m_11, hm_11, H⟩ := H
    exact hn_6 _ _ ⟨m_11, hm_11, total24_4, (w64 (t191_2 + 1)), rfl, H, hL_81⟩
   intro junk_14  h_85
   rintro ⟨hv, hJ_14, hL_85⟩
   have H := HB_17  h_85 hJ_14 hL_85
   obtain ⟨J_15, H, HB_16⟩ := H
   refine ⟨fun (vs : List Value) (h' : Heap) => vs = [] ∧ J_15  h' ∧ Vars h' [(b_4, [(Sl.v t108_1), (VI t108_2)]), (b_3, [(Sl.v t101_1), (VI t101_2)]), (b_2, [(Sl.v t65_2), (VI t65_3)]), (b_1, [(Sl.v t65_1)])], ?_, ?_⟩
   ·refine condM_f' hb_16 ?_
    exact ⟨rfl, H, hL_85⟩
   intro junk_15  h_86
   rintro ⟨hv, hJ_15, hL_86⟩
   have H := HB_16  h_86 hJ_15 hL_86
   refine H.mono fun rv_43 h_87 H => ?_
   obtain ⟨t324_4, t324_5, t324_6, rfl, hL_87, H⟩ := H
   refine pop_ext (v := (Value.agg #[(Sl.v t324_4)])) rfl ?_
   refine pop_ext (v := (Value.agg #[(Sl.v t324_5), (VI t324_6)])) rfl ?_
   refine eop_alloc 41 zer41 rfl hL_87 (fun b_14 h_88 hb_74 hf_28 hL_88 => ?_)
   refine eop_alloc 43 zer43 rfl hL_88 (fun b_15 h_89 hb_75 hf_29 hL_89 => ?_)
   refine uop_loc siz41 hL_89 1 rfl 0 [(Sl.v t324_4)] rfl rfl rfl (Nat.le_of_ble_eq_true rfl) (L' := [(b_15, [(Sl.v nilSl), (VI 0)]), (b_14, [(Sl.v t324_4)]), (b_4, [(Sl.v t108_1), (VI t108_2)]), (b_3, [(Sl.v t101_1), (VI t101_2)]), (b_2, [(Sl.v t65_2), (VI t65_3)]), (b_1, [(Sl.v t65_1)])]) rfl (fun h_90 hf_30 hL_90 => ?_)
   refine uop_loc siz43 hL_90 0 rfl 0 [(Sl.v t324_5), (VI t324_6)] rfl rfl rfl (Nat.le_of_ble_eq_true rfl) (L' := [(b_15, [(Sl.v t324_5), (VI t324_6)]), (b_14, [(Sl.v t324_4)]), (b_4, [(Sl.v t108_1), (VI t108_2)]), (b_3, [(Sl.v t101_1), (VI t101_2)]), (b_2, [(Sl.v t65_2), (VI t65_3)]), (b_1, [(Sl.v t65_1)])]) rfl (fun h_91 hf_31 hL_91 => ?_)
   refine rop_locA agg41 hL_91 1 rfl 0 (vs := [(Sl.v t324_4)]) rfl rfl ?_
   refine rop_locA agg43 hL_91 0 rfl 0 (vs := [(Sl.v t324_5), (VI t324_6)]) rfl rfl ?_
   have H := H b_14 b_15 h_91 (Nat.le_trans (Fr.size (Fr.r (In []) _)) hb_74) (Nat.le_trans (Fr.size (Fr.no' (Fr.r (In []) _) hf_28)) hb_75) (Fr.new (Fr.new (Fr.no' (Fr.no' (Fr.r (In []) _) hf_28) hf_29) (Nat.le_trans (Fr.size (Fr.r (In []) _)) hb_74) hf_30) (Nat.le_trans (Fr.size (Fr.no' (Fr.r (In []) _) hf_28)) hb_75) hf_31) hL_91
   refine H.mono fun rv_44 h_92 H => ?_
   obtain ⟨t330_4, t330_5, t330_6, rfl, hL_92, H⟩ := H
   refine pop_ext (v := (Value.agg #[(Sl.v t330_4), (VI t330_5)])) rfl ?_
   refine pop_ext (v := (VB t330_6)) rfl ?_
   refine eop_alloc 43 zer43 rfl hL_92 (fun b_16 h_93 hb_76 hf_32 hL_93 => ?_)
   refine uop_loc siz43 hL_93 0 rfl 0 [(Sl.v t330_4), (VI t330_5)] rfl rfl rfl (Nat.le_of_ble_eq_true rfl) (L' := [(b_16, [(Sl.v t330_4), (VI t330_5)]), (b_15, [(Sl.v t324_5), (VI t324_6)]), (b_14, [(Sl.v t324_4)]), (b_4, [(Sl.v t108_1), (VI t108_2)]), (b_3, [(Sl.v t101_1), (VI t101_2)]), (b_2, [(Sl.v t65_2), (VI t65_3)]), (b_1, [(Sl.v t65_1)])]) rfl (fun h_94 hf_33 hL_94 => ?_)
   refine rop_locA agg41 hL_94 2 rfl 0 (vs := [(Sl.v t324_4)]) rfl rfl ?_
   refine rop_locA agg43 hL_94 1 rfl 0 (vs := [(Sl.v t324_5), (VI t324_6)]) rfl rfl ?_
   have H := H b_16 h_94 (Nat.le_trans (Fr.size (Fr.r (In []) _)) hb_76) (Fr.new (Fr.no' (Fr.r (In []) _) hf_32) (Nat.le_trans (Fr.size (Fr.r (In []) _)) hb_76) hf_33) hL_94
   refine H.mono fun rv_45 h_95 H => ?_
   obtain ⟨t336_4, t336_5, t336_6, rfl, hL_95, H⟩ := H
   refine pop_ext (v := (Value.agg #[(Sl.v t336_4), (VI t336_5)])) rfl ?_
   refine pop_ext (v := (VB t336_6)) rfl ?_
   refine eop_alloc 43 zer43 rfl hL_95 (fun b_17 h_96 hb_77 hf_34 hL_96 => ?_)
   refine uop_loc siz43 hL_96 0 rfl 0 [(Sl.v t336_4), (VI t336_5)] rfl rfl rfl (Nat.le_of_ble_eq_true rfl) (L' := [(b_17, [(Sl.v t336_4), (VI t336_5)]), (b_16, [(Sl.v t330_4), (VI t330_5)]), (b_15, [(Sl.v t324_5), (VI t324_6)]), (b_14, [(Sl.v t324_4)]), (b_4, [(Sl.v t108_1), (VI t108_2)]), (b_3, [(Sl.v t101_1), (VI t101_2)]), (b_2, [(Sl.v t65_2), (VI t65_3)]), (b_1, [(Sl.v t65_1)])]) rfl (fun h_97 hf_35 hL_97 => ?_)
   refine rop_locA agg41 hL_97 3 rfl 0 (vs := [(Sl.v t324_4)]) rfl rfl ?_
   refine rop_locA agg43 hL_97 2 rfl 0 (vs := [(Sl.v t324_5), (VI t324_6)]) rfl rfl ?_
   have H := H b_17 h_97 (Nat.le_trans (Fr.size (Fr.r (In []) _)) hb_77) (Fr.new (Fr.no' (Fr.r (In []) _) hf_34) (Nat.le_trans (Fr.size (Fr.r (In []) _)) hb_77) hf_35) hL_97
   refine H.mono fun rv_46 h_98 H => ?_
   obtain ⟨t342_3, t342_4, rfl, hL_98, H⟩ := H
   refine pop_ext (v := (Sl.v t342_3)) rfl ?_
   refine pop_ext (v := (VB t342_4)) rfl ?_
   refine rop_locA agg41 hL_98 3 rfl 0 (vs := [(Sl.v t324_4)]) rfl rfl ?_
   refine rop_locA agg43 hL_98 2 rfl 0 (vs := [(Sl.v t324_5), (VI t324_6)]) rfl rfl ?_
   refine H.mono fun rv_47 h_99 H => ?_
   obtain ⟨t348_3, t348_4, rfl, hL_99, H⟩ := H
   refine pop_ext (v := (Sl.v t348_3)) rfl ?_
   refine pop_ext (v := (VB t348_4)) rfl ?_
   refine rop_locA agg43 hL_99 2 rfl 0 (vs := [(Sl.v t324_5), (VI t324_6)]) rfl rfl ?_
   refine H.mono fun rv_48 h_100 H => ?_
   obtain ⟨t353_3, t353_4, rfl, hL_100, H⟩ := H
   refine pop_ext (v := (VS t353_3)) rfl ?_
   refine pop_ext (v := (VB t353_4)) rfl ?_
   refine rop_locA agg43 hL_100 2 rfl 0 (vs := [(Sl.v t324_5), (VI t324_6)]) rfl rfl ?_
   refine H.mono fun rv_49 h_101 H => ?_
   obtain ⟨t358_3, t358_4, rfl, hL_101, H⟩ := H
   refine pop_ext (v := (VS t358_3)) rfl ?_
   refine pop_ext (v := (VB t358_4)) rfl ?_
   refine pop_bne boo4 _ _ t330_6 t336_6 ?_
   refine guardM_sf (fun hb_78 => ?_) (fun hb_78 => ?_)
   rotate_left
   ·have H := H.1 hb_78
    refine guardM_n' hb_78 (by decide) ?_
    refine guardM_n' hb_78 (by decide) ?_
    refine guardM_n' hb_78 (by decide) ?_
    refine pop_pickt' hb_78 ?_
    refine guardM_n (by decide) ?_
    refine guardM_n (by decide) ?_
    refine guardM_n (by decide) ?_
    refine pop_pickt _ _ ?_
    refine guardM_n (by decide) ?_
    refine guardM_n (by decide) ?_
    refine guardM_n (by decide) ?_
    refine guardM_n (by decide) ?_
    refine pop_pickt _ _ ?_
    refine guardM_n (by decide) ?_
    refine guardM_n (by decide) ?_
    refine guardM_n (by decide) ?_
    refine pop_pickt _ _ ?_
    refine guardM_n (by decide) ?_
    refine guardM_n (by decide) ?_
    refine guardM_n (by decide) ?_
    refine pop_pickt _ _ ?_
    refine guardM_n (by decide) ?_
    refine guardM_n (by decide) ?_
    refine guardM_n (by decide) ?_
    refine guardM_n (by decide) ?_
    refine guardM_n (by decide) ?_
    refine ⟨⟨_, rfl, fun h => absurd (h.symm.trans rfl) (by decide), fun _ => rfl⟩, ?_⟩
    refine ⟨⟨_, rfl, fun h => absurd (h.symm.trans rfl) (by decide), fun _ => rfl⟩, ?_⟩
    refine guardM_n (by decide) ?_
    refine guardM_n (by decide) ?_
    refine pop_pickt _ _ ?_
    refine guardM_n (by decide) ?_
    refine guardM_n (by decide) ?_
    refine guardM_n (by decide) ?_
    refine guardM_n (by decide) ?_
    refine guardM_n (by decide) ?_
    refine pop_pickt _ _ ?_
    refine condM_t ?_
    exact H
   have H := H.2 hb_78
   refine rop_locA agg43 hL_101 1 rfl 0 (vs := [(Sl.v t330_4), (VI t330_5)]) rfl rfl ?_
   refine guardM_y' hb_78 ?_
   refine rop_locA agg43 hL_101 0 rfl 0 (vs := [(Sl.v t336_4), (VI t336_5)]) rfl rfl ?_
   refine guardM_y' hb_78 ?_
   refine H.mono fun rv_50 h_102 H => ?_
   obtain ⟨t367_2, rfl, hL_102, H⟩ := H
   refine guardM_y' hb_78 ?_
   refine pop_not t367_2 ?_
   refine pop_pickf' hb_78 ?_
   refine guardM_sf (fun hb_79 => ?_) (fun hb_79 => ?_)
   rotate_left
   ·have H := H.1 hb_79
    refine guardM_n' hb_79 (by decide) ?_
    refine guardM_n' hb_79 (by decide) ?_
    refine pop_pickt' hb_79 ?_
    refine guardM_n (by decide) ?_
    refine guardM_n (by decide) ?_
    refine guardM_n (by decide) ?_
    refine guardM_n (by decide) ?_
    refine pop_pickt _ _ ?_
    refine guardM_n (by decide) ?_
    refine guardM_n (by decide) ?_
    refine guardM_n (by decide) ?_
    refine pop_pickt _ _ ?_
    refine guardM_n (by decide) ?_
    refine guardM_n (by decide) ?_
    refine guardM_n (by decide) ?_
    refine pop_pickt _ _ ?_
    refine guardM_n (by decide) ?_
    refine guardM_n (by decide) ?_
    refine guardM_n (by decide) ?_
    refine guardM_n (by decide) ?_
    refine guardM_n (by decide) ?_
    refine ⟨⟨_, rfl, fun h => absurd (h.symm.trans rfl) (by decide), fun _ => rfl⟩, ?_⟩
    refine ⟨⟨_, rfl, fun h => absurd (h.symm.trans rfl) (by decide), fun _ => rfl⟩, ?_⟩
    refine guardM_n (by decide) ?_
    refine guardM_n (by decide) ?_
    refine pop_pickt _ _ ?_
    refine guardM_n (by decide) ?_
    refine guardM_n (by decide) ?_
    refine guardM_n (by decide) ?_
    refine guardM_n (by decide) ?_
    refine guardM_n (by decide) ?_
    refine pop_pickt _ _ ?_
    refine condM_t ?_
    exact H
   have H := H.2 hb_79
   refine guardM_y' hb_79 ?_
   refine guardM_y' hb_79 ?_
   refine pop_bne boo4 _ _ t342_4 t348_4 ?_
   refine pop_pickf' hb_79 ?_
   refine guardM_sf (fun hb_80 => ?_) (fun hb_80 => ?_)
   rotate_left
   ·have H := H.1 hb_80
    refine guardM_n' hb_80 (by decide) ?_
    refine guardM_n' hb_80 (by decide) ?_
    refine guardM_n' hb_80 (by decide) ?_
    refine pop_pickt' hb_80 ?_
    refine guardM_n (by decide) ?_
    refine guardM_n (by decide) ?_
    refine guardM_n (by decide) ?_
    refine pop_pickt _ _ ?_
    refine guardM_n (by decide) ?_
    refine guardM_n (by decide) ?_
    refine guardM_n (by decide) ?_
    refine pop_pickt _ _ ?_
    refine guardM_n (by decide) ?_
    refine guardM_n (by decide) ?_
    refine guardM_n (by decide) ?_
    refine guardM_n (by decide) ?_
    refine guardM_n (by decide) ?_
    refine ⟨⟨_, rfl, fun h => absurd (h.symm.trans rfl) (by decide), fun _ => rfl⟩, ?_⟩
    refine ⟨⟨_, rfl, fun h => absurd (h.symm.trans rfl) (by decide), fun _ => rfl⟩, ?_⟩
    refine guardM_n (by decide) ?_
    refine guardM_n (by decide) ?_
    refine pop_pickt _ _ ?_
    refine guardM_n (by decide) ?_
    refine guardM_n (by decide) ?_
    refine guardM_n (by decide) ?_
    refine guardM_n (by decide) ?_
    refine guardM_n (by decide) ?_
    refine pop_pickt _ _ ?_
    refine condM_t ?_
    exact H
   have H := H.2 hb_80
   refine guardM_y' hb_80 ?_
   refine guardM_y' hb_80 ?_
   refine H.mono fun rv_51 h_103 H => ?_
   obtain ⟨t378_2, rfl, hL_103, H⟩ := H
   refine guardM_y' hb_80 ?_
   refine pop_not t378_2 ?_
   refine pop_pickf' hb_80 ?_
   refine guardM_sf (fun hb_81 => ?_) (fun hb_81 => ?_)
   rotate_left
   ·have H := H.1 hb_81
    refine guardM_n' hb_81 (by decide) ?_
    refine guardM_n' hb_81 (by decide) ?_
    refine pop_pickt' hb_81 ?_
    refine guardM_n (by decide) ?_
    refine guardM_n (by decide) ?_
    refine guardM_n (by decide) ?_
    refine pop_pickt _ _ ?_
    refine guardM_n (by decide) ?_
    refine guardM_n (by decide) ?_
    refine guardM_n (by decide) ?_
    refine guardM_n (by decide) ?_
    refine guardM_n (by decide) ?_
    refine ⟨⟨_, rfl, fun h => absurd (h.symm.trans rfl) (by decide), fun _ => rfl⟩, ?_⟩
    refine ⟨⟨_, rfl, fun h => absurd (h.symm.trans rfl) (by decide), fun _ => rfl⟩, ?_⟩
    refine guardM_n (by decide) ?_
    refine guardM_n (by decide) ?_
    refine pop_pickt _ _ ?_
    refine guardM_n (by decide) ?_
    refine guardM_n (by decide) ?_
    refine guardM_n (by decide) ?_
    refine guardM_n (by decide) ?_
    refine guardM_n (by decide) ?_
    refine pop_pickt _ _ ?_
    refine condM_t ?_
    exact H
   have H := H.2 hb_81
   refine guardM_y' hb_81 ?_
   refine guardM_y' hb_81 ?_
   refine pop_bne boo4 _ _ t353_4 t358_4 ?_
   refine pop_pickf' hb_81 ?_
   refine guardM_sf (fun hb_82 => ?_) (fun hb_82 => ?_)
   rotate_left
   ·have H := H.1 hb_82
    refine guardM_n' hb_82 (by decide) ?_
    refine guardM_n' hb_82 (by decide) ?_
    refine pop_pickt' hb_82 ?_
    refine guardM_n (by decide) ?_
    refine guardM_n (by decide) ?_
    refine guardM_n (by decide) ?_
    refine guardM_n (by decide) ?_
    refine guardM_n (by decide) ?_
    refine ⟨⟨_, rfl, fun h => absurd (h.symm.trans rfl) (by decide), fun _ => rfl⟩, ?_⟩
    refine ⟨⟨_, rfl, fun h => absurd (h.symm.trans rfl) (by decide), fun _ => rfl⟩, ?_⟩
    refine guardM_n (by decide) ?_
    refine guardM_n (by decide) ?_
    refine pop_pickt _ _ ?_
    refine guardM_n (by decide) ?_
    refine guardM_n (by decide) ?_
    refine guardM_n (by decide) ?_
    refine guardM_n (by decide) ?_
    refine guardM_n (by decide) ?_
    refine pop_pickt _ _ ?_
    refine condM_t ?_
    exact H
   have H := H.2 hb_82
   refine guardM_y' hb_82 ?_
   refine guardM_y' hb_82 ?_
   refine pop_sne _ _ t353_3 t358_3 ?_
   refine pop_pickf' hb_82 ?_
   refine guardM_sf (fun hb_83 => ?_) (fun hb_83 => ?_)
   rotate_left
   ·have H := H.1 hb_83
    refine guardM_n' hb_83 (by decide) ?_
    refine guardM_n' hb_83 (by decide) ?_
    refine guardM_n' hb_83 (by decide) ?_
    refine guardM_n' hb_83 (by decide) ?_
    refine ⟨⟨_, rfl, fun h => absurd (h.symm.trans hb_83) (by decide), fun _ => rfl⟩, ?_⟩
    refine ⟨⟨_, rfl, fun h => absurd (h.symm.trans hb_83) (by decide), fun _ => rfl⟩, ?_⟩
    refine guardM_n' hb_83 (by decide) ?_
    refine guardM_n' hb_83 (by decide) ?_
    refine pop_pickt' hb_83 ?_
    refine guardM_n (by decide) ?_
    refine guardM_n (by decide) ?_
    refine guardM_n (by decide) ?_
    refine guardM_n (by decide) ?_
    refine guardM_n (by decide) ?_
    refine pop_pickt _ _ ?_
    refine condM_t ?_
    exact H
   have H := H.2 hb_83
   refine rop_locA agg41 hL_103 3 rfl 0 (vs := [(Sl.v t324_4)]) rfl rfl ?_
   refine guardM_y' hb_83 ?_
   refine rop_locA agg43 hL_103 2 rfl 0 (vs := [(Sl.v t324_5), (VI t324_6)]) rfl rfl ?_
   refine guardM_y' hb_83 ?_
   refine rop_locA agg41 hL_103 3 rfl 0 (vs := [(Sl.v t324_4)]) rfl rfl ?_
   refine guardM_y' hb_83 ?_
   refine rop_locA agg43 hL_103 2 rfl 0 (vs := [(Sl.v t324_5), (VI t324_6)]) rfl rfl ?_
   refine guardM_y' hb_83 ?_
   refine H.mono fun rv_52 h_104 H => ?_
   obtain ⟨t394_2, rfl, hL_104, H⟩ := H
   refine ⟨⟨_, rfl, fun _ => ?_, fun h => absurd hb_83 h⟩, ?_⟩
   ·exact still_locA agg43 hL_104 2 rfl 0 (vs := [(Sl.v t324_5), (VI t324_6)]) rfl rfl
   refine ⟨⟨_, rfl, fun _ => ?_, fun h => absurd hb_83 h⟩, ?_⟩
   ·exact still_locA agg41 hL_104 3 rfl 0 (vs := [(Sl.v t324_4)]) rfl rfl
   refine guardM_y' hb_83 ?_
   refine H.mono fun rv_53 h_105 H => ?_
   obtain ⟨t397_2, rfl, hL_105, H⟩ := H
   refine guardM_y' hb_83 ?_
   refine pop_bne boo4 _ _ t394_2 t397_2 ?_
   refine pop_pickf' hb_83 ?_
   refine guardM_sf (fun hb_84 => ?_) (fun hb_84 => ?_)
   rotate_left
   ·have H := H.1 hb_84
    refine guardM_n' hb_84 (by decide) ?_
    refine guardM_n' hb_84 (by decide) ?_
    refine guardM_n' hb_84 (by decide) ?_
    refine guardM_n' hb_84 (by decide) ?_
    refine pop_pickt' hb_84 ?_
    refine condM_t ?_
    exact H
   have H := H.2 hb_84
   refine guardM_y' hb_84 ?_
   refine rop_locA agg41 hL_105 3 rfl 0 (vs := [(Sl.v t324_4)]) rfl rfl ?_
   refine guardM_y' hb_84 ?_
   refine rop_locA agg43 hL_105 2 rfl 0 (vs := [(Sl.v t324_5), (VI t324_6)]) rfl rfl ?_
   refine guardM_y' hb_84 ?_
   refine H.mono fun rv_54 h_106 H => ?_
   obtain ⟨t404_2, rfl, hL_106, H⟩ := H
   refine guardM_y' hb_84 ?_
   refine pop_bne boo4 _ _ t342_4 t404_2 ?_
   refine pop_pickf' hb_84 ?_
   refine condM_b (fun hb_85 => ?_) (fun hb_85 => ?_)
   ·have H := H.1 hb_85
    exact H
   have H := H.2 hb_85
   refine pop_len t342_3 _ _ sli65 ?_
   obtain ⟨J_16, ⟨n_18, h0_9⟩, HB_15⟩ := H
   refine loop_intro (J := fun (n : Nat) (vs : List Value) (h' : Heap) => ∃ t409_2 : Int, vs = [(VI t409_2)] ∧ J_16 n t409_2 h' ∧ Vars h' [(b_17, [(Sl.v t336_4), (VI t336_5)]), (b_16, [(Sl.v t330_4), (VI t330_5)]), (b_15, [(Sl.v t324_5), (VI t324_6)]), (b_14, [(Sl.v t324_4)]), (b_4, [(Sl.v t108_1), (VI t108_2)]), (b_3, [(Sl.v t101_1), (VI t101_2)]), (b_2, [(Sl.v t65_2), (VI t65_3)]), (b_1, [(Sl.v t65_1)])]) n_18 ⟨0, rfl, h0_9, hL_106⟩ ?_
   intro I_9 mu_9 hI_9 junk_16 tv_23 h_107 hi_28
   obtain ⟨n_15, ⟨t409_2, hv, hJ_16, hL_107⟩, hn_8⟩ := hI_9 _ _ hi_28
   cases hv
   have H := HB_15 n_15 t409_2 h_107 hJ_16 hL_107
   refine pop_lss .i64 t409_2 (t342_3.n : Int) ?_
   refine condM_b (fun hb_86 => ?_) (fun hb_86 => ?_)
   rotate_left
   ·have H := H.2 hb_86
    refine condM_b (fun hb_93 => ?_) (fun hb_93 => ?_)
    rotate_left
    ·have H := H.2 hb_93
     exact H
    have H := H.1 hb_93
    refine rop_locA agg41 hL_107 3 rfl 0 (vs := [(Sl.v t324_4)]) rfl rfl ?_
    refine rop_locA agg43 hL_107 1 rfl 0 (vs := [(Sl.v t330_4), (VI t330_5)]) rfl rfl ?_
    refine H.mono fun rv_57 h_114 H => ?_
    obtain ⟨t448_3, t448_4, rfl, hL_114, H⟩ := H
    refine pop_ext (v := (Sl.v t448_3)) rfl ?_
    refine pop_ext (v := (VB t448_4)) rfl ?_
    refine pop_len t448_3 _ _ sli65 ?_
    obtain ⟨J_17, ⟨n_17, h0_8⟩, HB_14⟩ := H
    refine loop_intro (J := fun (n : Nat) (vs : List Value) (h' : Heap) => ∃ found57_2 : Bool, ∃ t453_2 : Int, vs = [(VB found57_2), (VI t453_2)] ∧ J_17 n found57_2 t453_2 h' ∧ Vars h' [(b_17, [(Sl.v t336_4), (VI t336_5)]), (b_16, [(Sl.v t330_4), (VI t330_5)]), (b_15, [(Sl.v t324_5), (VI t324_6)]), (b_14, [(Sl.v t324_4)]), (b_4, [(Sl.v t108_1), (VI t108_2)]), (b_3, [(Sl.v t101_1), (VI t101_2)]), (b_2, [(Sl.v t65_2), (VI t65_3)]), (b_1, [(Sl.v t65_1)])]) n_17 ⟨false, 0, rfl, h0_8, hL_114⟩ ?_
    intro I_8 mu_8 hI_8 junk_17 tv_21 tv_22 h_115 hi_31
    obtain ⟨n_16, ⟨found57_2, t453_2, hv, hJ_17, hL_115⟩, hn_9⟩ := hI_8 _ _ hi_31
    cases hv
    have H := HB_14 n_16 found57_2 t453_2 h_115 hJ_17 hL_115
    refine pop_lss .i64 t453_2 (t448_3.n : Int) ?_
    refine condM_b (fun hb_94 => ?_) (fun hb_94 => ?_)
    rotate_left
    ·have H := H.2 hb_94
     refine guardM_st (fun hb_97 => ?_) (fun hb_97 => ?_)
     ·have H := H.1 hb_97
      refine pop_pickt' hb_97 ?_
      exact H
     have H := H.2 hb_97
     refine pop_pickf' hb_97 ?_
     exact H
    have H := H.1 hb_94
    obtain ⟨hi_32, H⟩ := H
    refine pop_index sli65 siz43 .i64 t448_3 t453_2 hi_32 ?_
    obtain ⟨t456_3, t456_4, hc_25, H⟩ := H
    refine rop_agg agg43 [(Sl.v t456_3), (VI t456_4)] rfl hc_25 ?_
    refine eop_alloc 43 zer43 rfl hL_115 (fun b_20 h_116 hb_95 hf_40 hL_116 => ?_)
    refine uop_loc siz43 hL_116 0 rfl 0 [(Sl.v t456_3), (VI t456_4)] rfl rfl rfl (Nat.le_of_ble_eq_true rfl) (L' := [(b_20, [(Sl.v t456_3), (VI t456_4)]), (b_17, [(Sl.v t336_4), (VI t336_5)]), (b_16, [(Sl.v t330_4), (VI t330_5)]), (b_15, [(Sl.v t324_5), (VI t324_6)]), (b_14, [(Sl.v t324_4)]), (b_4, [(Sl.v t108_1), (VI t108_2)]), (b_3, [(Sl.v t101_1), (VI t101_2)]), (b_2, [(Sl.v t65_2), (VI t65_3)]), (b_1, [(Sl.v t65_1)])]) rfl (fun h_117 hf_41 hL_117 => ?_)
    refine guardM_sf (fun hb_96 => ?_) (fun hb_96 => ?_)
    rotate_left
    ·have H := H.1 hb_96
     refine guardM_n' hb_96 (by decide) ?_
     refine guardM_n' hb_96 (by decide) ?_
     refine pop_pickt' hb_96 ?_
     refine pop_add .i64 t453_2 1 ?_
     have H := H b_20 h_117 (Nat.le_trans (Fr.size (Fr.r (In []) _)) hb_95) (Fr.new (Fr.no' (Fr.r (In []) _) hf_40) (Nat.le_trans (Fr.size (Fr.r (In []) _)) hb_95) hf_41) hL_117
     obtain ⟨m_16, hm_16, H⟩ := H
     exact hn_9 _ _ ⟨m_16, hm_16, true, (w64 (t453_2 + 1)), rfl, H, (Vars.tail hL_117)⟩
    have H := H.2 hb_96
    refine rop_locA agg43 hL_117 0 rfl 0 (vs := [(Sl.v t456_3), (VI t456_4)]) rfl rfl ?_
    refine guardM_y' hb_96 ?_
    refine rop_locA agg43 hL_117 3 rfl 0 (vs := [(Sl.v t324_5), (VI t324_6)]) rfl rfl ?_
    refine guardM_y' hb_96 ?_
    have H := H b_20 h_117 (Nat.le_trans (Fr.size (Fr.r (In []) _)) hb_95) (Fr.new (Fr.no' (Fr.r (In []) _) hf_40) (Nat.le_trans (Fr.size (Fr.r (In []) _)) hb_95) hf_41) hL_117
    refine H.mono fun rv_58 h_118 H => ?_
    obtain ⟨t461_2, rfl, hL_118, H⟩ := H
    refine pop_pickf' hb_96 ?_
    refine pop_add .i64 t453_2 1 ?_
    obtain ⟨m_15, hm_15, H⟩ := H
    exact hn_9 _ _ ⟨m_15, hm_15, t461_2, (w64 (t453_2 + 1)), rfl, H, (Vars.tail hL_118)⟩
   have H := H.1 hb_86
   obtain ⟨hi_29, H⟩ := H
   refine pop_index sli65 siz43 .i64 t342_3 t409_2 hi_29 ?_
   obtain ⟨t413_3, t413_4, hc_24, H⟩ := H
   refine rop_agg agg43 [(Sl.v t413_3), (VI t413_4)] rfl hc_24 ?_
   refine eop_alloc 43 zer43 rfl hL_107 (fun b_18 h_108 hb_87 hf_36 hL_108 => ?_)
   refine uop_loc siz43 hL_108 0 rfl 0 [(Sl.v t413_3), (VI t413_4)] rfl rfl rfl (Nat.le_of_ble_eq_true rfl) (L' := [(b_18, [(Sl.v t413_3), (VI t413_4)]), (b_17, [(Sl.v t336_4), (VI t336_5)]), (b_16, [(Sl.v t330_4), (VI t330_5)]), (b_15, [(Sl.v t324_5), (VI t324_6)]), (b_14, [(Sl.v t324_4)]), (b_4, [(Sl.v t108_1), (VI t108_2)]), (b_3, [(Sl.v t101_1), (VI t101_2)]), (b_2, [(Sl.v t65_2), (VI t65_3)]), (b_1, [(Sl.v t65_1)])]) rfl (fun h_109 hf_37 hL_109 => ?_)
   refine rop_locA agg41 hL_109 4 rfl 0 (vs := [(Sl.v t324_4)]) rfl rfl ?_
   refine rop_locA agg43 hL_109 0 rfl 0 (vs := [(Sl.v t413_3), (VI t413_4)]) rfl rfl ?_
   have H := H b_18 h_109 (Nat.le_trans (Fr.size (Fr.r (In []) _)) hb_87) (Fr.new (Fr.no' (Fr.r (In []) _) hf_36) (Nat.le_trans (Fr.size (Fr.r (In []) _)) hb_87) hf_37) hL_109
   refine H.mono fun rv_55 h_110 H => ?_
   obtain ⟨t417_4, t417_5, t417_6, rfl, hL_110, H⟩ := H
   refine pop_ext (v := (Value.agg #[(Sl.v t417_4), (VI t417_5)])) rfl ?_
   refine pop_ext (v := (VB t417_6)) rfl ?_
   refine eop_alloc 43 zer43 rfl hL_110 (fun b_19 h_111 hb_88 hf_38 hL_111 => ?_)
   refine uop_loc siz43 hL_111 0 rfl 0 [(Sl.v t417_4), (VI t417_5)] rfl rfl rfl (Nat.le_of_ble_eq_true rfl) (L' := [(b_19, [(Sl.v t417_4), (VI t417_5)]), (b_18, [(Sl.v t413_3), (VI t413_4)]), (b_17, [(Sl.v t336_4), (VI t336_5)]), (b_16, [(Sl.v t330_4), (VI t330_5)]), (b_15, [(Sl.v t324_5), (VI t324_6)]), (b_14, [(Sl.v t324_4)]), (b_4, [(Sl.v t108_1), (VI t108_2)]), (b_3, [(Sl.v t101_1), (VI t101_2)]), (b_2, [(Sl.v t65_2), (VI t65_3)]), (b_1, [(Sl.v t65_1)])]) rfl (fun h_112 hf_39 hL_112 => ?_)
   refine pop_not t417_6 ?_
   refine guardM_sf (fun hb_89 => ?_) (fun hb_89 => ?_)
   rotate_left
   ·have H := H.1 hb_89
    refine guardM_n' hb_89 (by decide) ?_
    refine guardM_n' hb_89 (by decide) ?_
    refine guardM_n' hb_89 (by decide) ?_
    refine pop_pickt' hb_89 ?_
    refine guardM_n (by decide) ?_
    refine guardM_n (by decide) ?_
    refine guardM_n (by decide) ?_
    refine guardM_n (by decide) ?_
    refine guardM_n (by decide) ?_
    refine guardM_n (by decide) ?_
    refine guardM_n (by decide) ?_
    refine guardM_n (by decide) ?_
    refine guardM_n (by decide) ?_
    refine guardM_n (by decide) ?_
    refine guardM_n (by decide) ?_
    refine guardM_n (by decide) ?_
    refine guardM_n (by decide) ?_
    refine pop_pickt _ _ ?_
    refine condM_t ?_
    have H := H b_19 h_112 (Nat.le_trans (Fr.size (Fr.r (In []) _)) hb_88) (Fr.new (Fr.no' (Fr.r (In []) _) hf_38) (Nat.le_trans (Fr.size (Fr.r (In []) _)) hb_88) hf_39) hL_112
    exact H
   have H := H.2 hb_89
   refine rop_locA agg43 hL_112 0 rfl 0 (vs := [(Sl.v t417_4), (VI t417_5)]) rfl rfl ?_
   refine guardM_y' hb_89 ?_
   refine rop_locA agg43 hL_112 4 rfl 0 (vs := [(Sl.v t324_5), (VI t324_6)]) rfl rfl ?_
   refine guardM_y' hb_89 ?_
   have H := H b_19 h_112 (Nat.le_trans (Fr.size (Fr.r (In []) _)) hb_88) (Fr.new (Fr.no' (Fr.r (In []) _) hf_38) (Nat.le_trans (Fr.size (Fr.r (In []) _)) hb_88) hf_39) hL_112
   refine H.mono fun rv_56 h_113 H => ?_
   obtain ⟨t425_2, rfl, hL_113, H⟩ := H
   refine guardM_y' hb_89 ?_
   refine pop_not t425_2 ?_
   refine pop_pickf' hb_89 ?_
   refine guardM_sf (fun hb_90 => ?_) (fun hb_90 => ?_)
   rotate_left
   ·have H := H.1 hb_90
    refine guardM_n' hb_90 (by decide) ?_
    refine guardM_n' hb_90 (by decide) ?_
    refine guardM_n (by decide) ?_
    refine guardM_n (by decide) ?_
    refine guardM_n (by decide) ?_
    refine guardM_n (by decide) ?_
    refine guardM_n (by decide) ?_
    refine guardM_n (by decide) ?_
    refine guardM_n (by decide) ?_
    refine guardM_n (by decide) ?_
    refine guardM_n (by decide) ?_
    refine guardM_n' hb_90 (by decide) ?_
    refine pop_pickt' hb_90 ?_
    refine condM_t ?_
    exact H
   have H := H.2 hb_90
   refine guardM_y' hb_90 ?_
   refine pop_gtr .i64 t409_2 0 ?_
   refine guardM_y' hb_90 ?_
   refine guardM_st (fun hb_91 => ?_) (fun hb_91 => ?_)
   rotate_left
   ·have H := H.2 hb_91
    refine guardM_n' hb_91 (by decide) ?_
    refine guardM_n' hb_91 (by decide) ?_
    refine guardM_n' hb_91 (by decide) ?_
    refine guardM_n' hb_91 (by decide) ?_
    refine guardM_n' hb_91 (by decide) ?_
    refine guardM_n' hb_91 (by decide) ?_
    refine guardM_n' hb_91 (by decide) ?_
    refine guardM_n' hb_91 (by decide) ?_
    refine guardM_y' hb_90 ?_
    refine pop_pickf' hb_91 ?_
    refine pop_pickf' hb_90 ?_
    refine condM_f ?_
    refine pop_add .i64 t409_2 1 ?_
    obtain ⟨m_14, hm_14, H⟩ := H
    exact hn_8 _ _ ⟨m_14, hm_14, (w64 (t409_2 + 1)), rfl, H, (Vars.tail (Vars.tail hL_113))⟩
   have H := H.1 hb_91
   refine guardM_y' hb_91 ?_
   refine guardM_y' hb_91 ?_
   refine pop_sub .i64 t409_2 1 ?_
   refine guardM_y' hb_91 ?_
   obtain ⟨hi_30, H⟩ := H
   refine pop_index sli65 siz43 .i64 t342_3 (w64 (t409_2 - 1)) hi_30 ?_
   refine guardM_y' hb_91 ?_
   refine pop_fieldA 1 fld43_1 (Sl.at t342_3 (w64 (t409_2 - 1)) 2) ?_
   refine guardM_y' hb_91 ?_
   obtain ⟨t437_2, hc_23, H⟩ := H
   refine rop_one one3 (VI t437_2) hc_23 ?_
   refine guardM_y' hb_91 ?_
   refine pop_field 1 fld43_1 b_18 0 ?_
   refine guardM_y' hb_91 ?_
   refine rop_loc one3 hL_113 1 rfl 1 (v := (VI t413_4)) rfl ?_
   refine guardM_y' hb_91 ?_
   refine pop_geq .i64 t437_2 t413_4 ?_
   refine guardM_y' hb_90 ?_
   refine pop_pickt' hb_91 ?_
   refine pop_pickf' hb_90 ?_
   refine condM_b (fun hb_92 => ?_) (fun hb_92 => ?_)
   ·have H := H.1 hb_92
    exact H
   have H := H.2 hb_92
   refine pop_add .i64 t409_2 1 ?_
   obtain ⟨m_13, hm_13, H⟩ := H
   exact hn_8 _ _ ⟨m_13, hm_13, (w64 (t409_2 + 1)), rfl, H, (Vars.tail (Vars.tail hL_113))⟩
  have H := H.1 hb_16
  refine guardM_y' hb_16 ?_
  refine pop_not t73_2 ?_
  refine guardM_y' hb_15 ?_
  refine pop_pickt' hb_16 ?_
  refine pop_pickf' hb_15 ?_
  refine condM_b (fun hb_17 => ?_) (fun hb_17 => ?_)
  ·have H := H.1 hb_17
   exact H
  have H := H.2 hb_17
  obtain ⟨J_1, H, HB_9⟩ := H
  refine ⟨fun (vs : List Value) (h' : Heap) => vs = [] ∧ J_1  h' ∧ Vars h' [(b_4, [(Sl.v t108_1), (VI t108_2)]), (b_3, [(Sl.v t101_1), (VI t101_2)]), (b_2, [(Sl.v t65_2), (VI t65_3)]), (b_1, [(Sl.v t65_1)])], ?_, ?_⟩
  ·refine condM_b (fun hb_18 => ?_) (fun hb_18 => ?_)
   rotate_left
   ·have H := H.2 hb_18
    exact ⟨rfl, H, hL_22⟩
   have H := H.1 hb_18
   refine pop_field 0 fld41_0 b_1 0 ?_
   refine rop_loc one22 hL_22 3 rfl 0 (v := (Sl.v t65_1)) rfl ?_
   refine pop_len t65_1 _ _ sli22 ?_
   refine H.mono fun rv_15 h_23 H => ?_
   obtain ⟨t188_1, rfl, hL_23, H⟩ := H
   refine pop_len t73_1 _ _ sli22 ?_
   obtain ⟨J_2, ⟨n_4, h0_2⟩, HB_4⟩ := H
   refine loop_intro (J := fun (n : Nat) (vs : List Value) (h' : Heap) => ∃ total24_1 : Int, ∃ t191_1 : Int, vs = [(VI total24_1), (VI t191_1)] ∧ J_2 n total24_1 t191_1 h' ∧ Vars h' [(b_4, [(Sl.v t108_1), (VI t108_2)]), (b_3, [(Sl.v t101_1), (VI t101_2)]), (b_2, [(Sl.v t65_2), (VI t65_3)]), (b_1, [(Sl.v t65_1)])]) n_4 ⟨0, 0, rfl, h0_2, hL_23⟩ ?_
   intro I_2 mu_2 hI_2 junk_1 tv_7 tv_8 h_24 hi_1
   obtain ⟨n_1, ⟨total24_1, t191_1, hv, hJ_1, hL_24⟩, hn_1⟩ := hI_2 _ _ hi_1
   cases hv
   have H := HB_4 n_1 total24_1 t191_1 h_24 hJ_1 hL_24
   refine pop_lss .i64 t191_1 (t73_1.n : Int) ?_
   refine condM_b (fun hb_19 => ?_) (fun hb_19 => ?_)
   rotate_left
   ·have H := H.2 hb_19
    refine pop_ine .i64 _ _ total24_1 t65_4 ?_
    refine guardM_sf (fun hb_26 => ?_) (fun hb_26 => ?_)
    rotate_left
    ·have H := H.1 hb_26
     refine guardM_n' hb_26 (by decide) ?_
     refine guardM_n' hb_26 (by decide) ?_
     refine guardM_n' hb_26 (by decide) ?_
     refine pop_pickt' hb_26 ?_
     refine guardM_n (by decide) ?_
     refine guardM_n (by decide) ?_
     refine guardM_n (by decide) ?_
     refine guardM_n (by decide) ?_
     refine pop_pickt _ _ ?_
     refine guardM_n (by decide) ?_
     refine guardM_n (by decide) ?_
     refine guardM_n (by decide) ?_
     refine guardM_n (by decide) ?_
     refine pop_pickt _ _ ?_
     refine condM_t ?_
     exact H
    have H := H.2 hb_26
    refine guardM_y' hb_26 ?_
    refine H.mono fun rv_17 h_30 H => ?_
    obtain ⟨t267_1, rfl, hL_30, H⟩ := H
    refine guardM_y' hb_26 ?_
    refine guardM_y' hb_26 ?_
    refine pop_ine .i64 _ _ t267_1 t65_4 ?_
    refine pop_pickf' hb_26 ?_
    refine guardM_sf (fun hb_27 => ?_) (fun hb_27 => ?_)
    rotate_left
    ·have H := H.1 hb_27
     refine guardM_n' hb_27 (by decide) ?_
     refine guardM_n' hb_27 (by decide) ?_
     refine guardM_n' hb_27 (by decide) ?_
     refine pop_pickt' hb_27 ?_
     refine guardM_n (by decide) ?_
     refine guardM_n (by decide) ?_
     refine guardM_n (by decide) ?_
     refine guardM_n (by decide) ?_
     refine pop_pickt _ _ ?_
     refine condM_t ?_
     exact H
    have H := H.2 hb_27
    refine guardM_y' hb_27 ?_
    refine guardM_y' hb_27 ?_
    refine H.mono fun rv_18 h_31 H => ?_
    obtain ⟨t274_1, rfl, hL_31, H⟩ := H
    refine guardM_y' hb_27 ?_
    refine pop_not t274_1 ?_
    refine pop_pickf' hb_27 ?_
    refine guardM_sf (fun hb_28 => ?_) (fun hb_28 => ?_)
    rotate_left
    ·have H := H.1 hb_28
     refine guardM_n' hb_28 (by decide) ?_
     refine guardM_n' hb_28 (by decide) ?_
     refine guardM_n' hb_28 (by decide) ?_
     refine pop_pickt' hb_28 ?_
     refine condM_t ?_
     exact H
    have H := H.2 hb_28
    refine rop_locA agg41 hL_31 3 rfl 0 (vs := [(Sl.v t65_1)]) rfl rfl ?_
    refine guardM_y' hb_28 ?_
    refine rop_locA agg43 hL_31 1 rfl 0 (vs := [(Sl.v t101_1), (VI t101_2)]) rfl rfl ?_
    refine guardM_y' hb_28 ?_
    refine H.mono fun rv_19 h_32 H => ?_
    obtain ⟨t280_1, rfl, hL_32, H⟩ := H
    refine guardM_y' hb_28 ?_
    refine pop_not t280_1 ?_
    refine pop_pickf' hb_28 ?_
    refine condM_b (fun hb_29 => ?_) (fun hb_29 => ?_)
    ·have H := H.1 hb_29
     exact H
    have H := H.2 hb_29
    exact ⟨rfl, H, hL_32⟩
   have H := H.1 hb_19
   obtain ⟨hi_2, H⟩ := H
   refine pop_index sli22 siz34 .i64 t73_1 t191_1 hi_2 ?_
   obtain ⟨t195_1, hc_9, H⟩ := H
   refine rop_one one34 (Sl.v t195_1) hc_9 ?_
   refine pop_len t195_1 _ _ sli34 ?_
   obtain ⟨J_3, ⟨n_3, h0_1⟩, HB_3⟩ := H
   refine loop_intro (J := fun (n : Nat) (vs : List Value) (h' : Heap) => ∃ total24_2 : Int, ∃ least28_1 : Int, ∃ most29_1 : Int, ∃ t199_1 : Int, vs = [(VI total24_2), (VI least28_1), (VI most29_1), (VI t199_1)] ∧ J_3 n total24_2 least28_1 most29_1 t199_1 h' ∧ Vars h' [(b_4, [(Sl.v t108_1), (VI t108_2)]), (b_3, [(Sl.v t101_1), (VI t101_2)]), (b_2, [(Sl.v t65_2), (VI t65_3)]), (b_1, [(Sl.v t65_1)])]) n_3 ⟨total24_1, t65_4, 0, 0, rfl, h0_1, hL_24⟩ ?_
   intro I_1 mu_1 hI_1 junk_2 tv_3 tv_4 tv_5 tv_6 h_25 hi_3
   obtain ⟨n_2, ⟨total24_2, least28_1, most29_1, t199_1, hv, hJ_2, hL_25⟩, hn_2⟩ := hI_1 _ _ hi_3
   cases hv
   have H := HB_3 n_2 total24_2 least28_1 most29_1 t199_1 h_25 hJ_2 hL_25
   refine pop_lss .i64 t199_1 (t195_1.n : Int) ?_
   refine condM_b (fun hb_20 => ?_) (fun hb_20 => ?_)
   ·have H := H.1 hb_20
    obtain ⟨hi_4, H⟩ := H
    refine pop_index sli34 siz3 .i64 t195_1 t199_1 hi_4 ?_
    obtain ⟨t203_1, hc_4, H⟩ := H
    refine rop_one one3 (VI t203_1) hc_4 ?_
    obtain ⟨J_4, H, HB_2⟩ := H
    refine ⟨fun (vs : List Value) (h' : Heap) => ∃ x_1 : Int, vs = [(VI x_1)] ∧ J_4 x_1 h' ∧ Vars h' [(b_4, [(Sl.v t108_1), (VI t108_2)]), (b_3, [(Sl.v t101_1), (VI t101_2)]), (b_2, [(Sl.v t65_2), (VI t65_3)]), (b_1, [(Sl.v t65_1)])], ?_, ?_⟩
    ·refine pop_lss .i64 t203_1 least28_1 ?_
     refine condM_b (fun hb_21 => ?_) (fun hb_21 => ?_)
     ·have H := H.1 hb_21
      exact ⟨t203_1, rfl, H, hL_25⟩
     have H := H.2 hb_21
     exact ⟨least28_1, rfl, H, hL_25⟩
    intro junk_3 tv_1 h_26
    rintro ⟨x_1, hv, hJ_3, hL_26⟩
    cases hv
    have H := HB_2 x_1 h_26 hJ_3 hL_26
    obtain ⟨J_5, H, HB_1⟩ := H
    refine ⟨fun (vs : List Value) (h' : Heap) => ∃ x_2 : Int, vs = [(VI x_2)] ∧ J_5 x_2 h' ∧ Vars h' [(b_4, [(Sl.v t108_1), (VI t108_2)]), (b_3, [(Sl.v t101_1), (VI t101_2)]), (b_2, [(Sl.v t65_2), (VI t65_3)]), (b_1, [(Sl.v t65_1)])], ?_, ?_⟩
    ·refine pop_gtr .i64 t203_1 most29_1 ?_
     refine condM_b (fun hb_22 => ?_) (fun hb_22 => ?_)
     ·have H := H.1 hb_22
      exact ⟨t203_1, rfl, H, hL_26⟩
     have H := H.2 hb_22
     exact ⟨most29_1, rfl, H, hL_26⟩
    intro junk_4 tv_2 h_27
    rintro ⟨x_2, hv, hJ_4, hL_27⟩
    cases hv
    have H := HB_1 x_2 h_27 hJ_4 hL_27
    refine pop_add .i64 total24_2 t203_1 ?_
    refine pop_field 0 fld41_0 b_1 0 ?_
    refine rop_loc one22 hL_27 3 rfl 0 (v := (Sl.v t65_1)) rfl ?_
    obtain ⟨hi_5, H⟩ := H
    refine pop_index sli22 siz34 .i64 t65_1 t191_1 hi_5 ?_
    obtain ⟨t220_1, hc_3, H⟩ := H
    refine rop_one one34 (Sl.v t220_1) hc_3 ?_
    obtain ⟨hi_6, H⟩ := H
    refine pop_index sli34 siz3 .i64 t220_1 t199_1 hi_6 ?_
    obtain ⟨t223_1, hc_2, H⟩ := H
    refine rop_one one3 (VI t223_1) hc_2 ?_
    obtain ⟨hi_7, H⟩ := H
    refine pop_index sli34 siz3 .i64 t188_1 t223_1 hi_7 ?_
    obtain ⟨t225_1, hc_1, H⟩ := H
    refine rop_one one3 (VI t225_1) hc_1 ?_
    refine pop_add .i64 t225_1 t203_1 ?_
    obtain ⟨hi_8, H⟩ := H
    refine pop_index sli34 siz3 .i64 t188_1 t223_1 hi_8 ?_
    obtain ⟨hw_1, hL_28, H⟩ := H
    refine uop_cell (v := (VI (w64 (t225_1 + t203_1)))) siz3 hw_1 rfl (fun h_28 he_1 => ?_)
    rw [← he_1] at hL_28
    have H := H h_28 he_1 hL_28
    refine pop_add .i64 t199_1 1 ?_
    obtain ⟨m_1, hm_1, H⟩ := H
    exact hn_2 _ _ ⟨m_1, hm_1, (w64 (total24_2 + t203_1)), x_1, x_2, (w64 (t199_1 + 1)), rfl, H, hL_28⟩
   have H := H.2 hb_20
   refine pop_len t195_1 _ _ sli34 ?_
   refine pop_gtr .i64 (t195_1.n : Int) 0 ?_
   refine guardM_st (fun hb_23 => ?_) (fun hb_23 => ?_)
   rotate_left
   ·have H := H.2 hb_23
    refine guardM_n' hb_23 (by decide) ?_
    refine guardM_n' hb_23 (by decide) ?_
    refine guardM_n' hb_23 (by decide) ?_
    refine pop_pickf' hb_23 ?_
    refine condM_f ?_
    refine pop_len t195_1 _ _ sli34 ?_
    refine pop_gtr .i64 (t195_1.n : Int) 0 ?_
    refine guardM_n' hb_23 (by decide) ?_
    refine guardM_n' hb_23 (by decide) ?_
    refine guardM_n' hb_23 (by decide) ?_
    refine guardM_n' hb_23 (by decide) ?_
    refine guardM_n' hb_23 (by decide) ?_
    refine guardM_n' hb_23 (by decide) ?_
    refine guardM_n' hb_23 (by decide) ?_
    refine guardM_n' hb_23 (by decide) ?_
    refine guardM_n' hb_23 (by decide) ?_
    refine guardM_n' hb_23 (by decide) ?_
    refine guardM_n' hb_23 (by decide) ?_
    refine guardM_n' hb_23 (by decide) ?_
    refine guardM_n' hb_23 (by decide) ?_
    refine guardM_n' hb_23 (by decide) ?_
    refine ⟨⟨_, rfl, fun h => absurd (h.symm.trans hb_23) (by decide), fun _ => rfl⟩, ?_⟩
    refine ⟨⟨_, rfl, fun h => absurd (h.symm.trans hb_23) (by decide), fun _ => rfl⟩, ?_⟩
    refine ⟨⟨_, rfl, fun h => absurd (h.symm.trans hb_23) (by decide), fun _ => rfl⟩, ?_⟩
    refine ⟨⟨_, rfl, fun h => absurd (h.symm.trans hb_23) (by decide), fun _ => rfl⟩, ?_⟩
    refine guardM_n' hb_23 (by decide) ?_
    refine guardM_n' hb_23 (by decide) ?_
    refine guardM_n' hb_23 (by decide) ?_
    refine pop_pickf' hb_23 ?_
    refine condM_f ?_
    refine pop_add .i64 t191_1 1 ?_
    obtain ⟨m_3, hm_3, H⟩ := H
    exact hn_1 _ _ ⟨m_3, hm_3, total24_2, (w64 (t191_1 + 1)), rfl, H, hL_25⟩
   have H := H.1 hb_23
   refine guardM_y' hb_23 ?_
   refine guardM_y' hb_23 ?_
   refine pop_sub .i64 most29_1 least28_1 ?_
   refine guardM_y' hb_23 ?_
   refine pop_gtr .i64 (w64 (most29_1 - least28_1)) 1 ?_
   refine pop_pickt' hb_23 ?_
   refine condM_b (fun hb_24 => ?_) (fun hb_24 => ?_)
   ·have H := H.1 hb_24
    exact H
   have H := H.2 hb_24
   refine pop_len t195_1 _ _ sli34 ?_
   refine pop_gtr .i64 (t195_1.n : Int) 0 ?_
   refine guardM_y' hb_23 ?_
   refine pop_field 0 fld43_0 b_2 0 ?_
   refine guardM_y' hb_23 ?_
   refine rop_loc one34 hL_25 2 rfl 0 (v := (Sl.v t65_2)) rfl ?_
   refine guardM_y' hb_23 ?_
   refine guardM_y' hb_23 ?_
   obtain ⟨hi_9, H⟩ := H
   refine pop_index sli34 siz3 .i64 t65_2 t191_1 hi_9 ?_
   refine guardM_y' hb_23 ?_
   obtain ⟨t247_1, hc_8, H⟩ := H
   refine rop_one one3 (VI t247_1) hc_8 ?_
   refine guardM_y' hb_23 ?_
   refine guardM_y' hb_23 ?_
   refine guardM_y' hb_23 ?_
   refine pop_len t195_1 _ _ sli34 ?_
   refine guardM_y' hb_23 ?_
   refine pop_field 0 fld43_0 b_3 0 ?_
   refine guardM_y' hb_23 ?_
   refine rop_loc one34 hL_25 1 rfl 0 (v := (Sl.v t101_1)) rfl ?_
   refine guardM_y' hb_23 ?_
   refine guardM_y' hb_23 ?_
   obtain ⟨hi_10, H⟩ := H
   refine pop_index sli34 siz3 .i64 t101_1 t191_1 hi_10 ?_
   refine guardM_y' hb_23 ?_
   obtain ⟨t258_1, hc_7, H⟩ := H
   refine rop_one one3 (VI t258_1) hc_7 ?_
   refine guardM_y' hb_23 ?_
   refine H.mono fun rv_16 h_29 H => ?_
   obtain ⟨t249_1, rfl, hL_29, H⟩ := H
   refine ⟨⟨_, rfl, fun _ => ?_, fun h => absurd hb_23 h⟩, ?_⟩
   ·exact still_one one3 H.1
   obtain ⟨hc_5, H⟩ := H
   refine ⟨⟨_, rfl, fun _ => ?_, fun h => absurd hb_23 h⟩, ?_⟩
   ·exact still_loc one34 hL_29 1 rfl 0 (v := (Sl.v t101_1)) rfl
   refine ⟨⟨_, rfl, fun _ => ?_, fun h => absurd hb_23 h⟩, ?_⟩
   ·exact still_one one3 H.1
   obtain ⟨hc_6, H⟩ := H
   refine ⟨⟨_, rfl, fun _ => ?_, fun h => absurd hb_23 h⟩, ?_⟩
   ·exact still_loc one34 hL_29 2 rfl 0 (v := (Sl.v t65_2)) rfl
   refine guardM_y' hb_23 ?_
   refine pop_add .i64 t247_1 t249_1 ?_
   refine guardM_y' hb_23 ?_
   obtain ⟨hz_1, H⟩ := H
   refine pop_rem .i64 (w64 (t247_1 + t249_1)) (t195_1.n : Int) hz_1 ?_
   refine guardM_y' hb_23 ?_
   refine pop_ine .i64 _ _ (Int.tmod (w64 (t247_1 + t249_1)) (t195_1.n : Int)) t258_1 ?_
   refine pop_pickt' hb_23 ?_
   refine condM_b (fun hb_25 => ?_) (fun hb_25 => ?_)
   ·have H := H.1 hb_25
    exact H
   have H := H.2 hb_25
   refine pop_add .i64 t191_1 1 ?_
   obtain ⟨m_2, hm_2, H⟩ := H
   exact hn_1 _ _ ⟨m_2, hm_2, total24_2, (w64 (t191_1 + 1)), rfl, H, hL_29⟩
  intro junk_5  h_33
  rintro ⟨hv, hJ_5, hL_33⟩
  have H := HB_9  h_33 hJ_5 hL_33
  obtain ⟨J_6, H, HB_8⟩ := H
  refine ⟨fun (vs : List Value) (h' : Heap) => vs = [] ∧ J_6  h' ∧ Vars h' [(b_4, [(Sl.v t108_1), (VI t108_2)]), (b_3, [(Sl.v t101_1), (VI t101_2)]), (b_2, [(Sl.v t65_2), (VI t65_3)]), (b_1, [(Sl.v t65_1)])], ?_, ?_⟩
  ·refine condM_t' hb_16 ?_
   refine rop_locA agg43 hL_33 2 rfl 0 (vs := [(Sl.v t65_2), (VI t65_3)]) rfl rfl ?_
   refine eop_alloc 43 zer43 rfl hL_33 (fun b_5 h_34 hb_30 hf_9 hL_34 => ?_)
   refine uop_loc siz43 hL_34 0 rfl 0 [(Sl.v t65_2), (VI t65_3)] rfl rfl rfl (Nat.le_of_ble_eq_true rfl) (L' := [(b_5, [(Sl.v t65_2), (VI t65_3)]), (b_4, [(Sl.v t108_1), (VI t108_2)]), (b_3, [(Sl.v t101_1), (VI t101_2)]), (b_2, [(Sl.v t65_2), (VI t65_3)]), (b_1, [(Sl.v t65_1)])]) rfl (fun h_35 hf_10 hL_35 => ?_)
   refine pop_len t115_1 _ _ sli34 ?_
   have H := H b_5 h_35 (Nat.le_trans (Fr.size (Fr.r (In []) _)) hb_30) (Fr.new (Fr.no' (Fr.r (In []) _) hf_9) (Nat.le_trans (Fr.size (Fr.r (In []) _)) hb_30) hf_10) hL_35
   obtain ⟨J_7, ⟨n_6, h0_3⟩, HB_5⟩ := H
   refine loop_intro (J := fun (n : Nat) (vs : List Value) (h' : Heap) => ∃ t287_1 : Int, ∃ x_3 : Sl, ∃ x_4 : Int, vs = [(VI t287_1)] ∧ J_7 n t287_1 x_3 x_4 h' ∧ Vars h' [(b_5, [(Sl.v x_3), (VI x_4)]), (b_4, [(Sl.v t108_1), (VI t108_2)]), (b_3, [(Sl.v t101_1), (VI t101_2)]), (b_2, [(Sl.v t65_2), (VI t65_3)]), (b_1, [(Sl.v t65_1)])]) n_6 ⟨0, t65_2, t65_3, rfl, h0_3, hL_35⟩ ?_
   intro I_3 mu_3 hI_3 junk_6 tv_9 h_36 hi_11
   obtain ⟨n_5, ⟨t287_1, x_3, x_4, hv, hJ_6, hL_36⟩, hn_3⟩ := hI_3 _ _ hi_11
   cases hv
   have H := HB_5 n_5 t287_1 x_3 x_4 h_36 hJ_6 hL_36
   refine pop_lss .i64 t287_1 (t115_1.n : Int) ?_
   refine condM_b (fun hb_31 => ?_) (fun hb_31 => ?_)
   rotate_left
   ·have H := H.2 hb_31
    refine pop_len t115_1 _ _ sli34 ?_
    refine pop_add .i64 t65_4 1 ?_
    refine pop_ine .i64 _ _ (t115_1.n : Int) (w64 (t65_4 + 1)) ?_
    refine guardM_sf (fun hb_36 => ?_) (fun hb_36 => ?_)
    rotate_left
    ·have H := H.1 hb_36
     refine guardM_n' hb_36 (by decide) ?_
     refine guardM_n' hb_36 (by decide) ?_
     refine guardM_n' hb_36 (by decide) ?_
     refine pop_pickt' hb_36 ?_
     refine condM_t ?_
     exact H
    have H := H.2 hb_36
    refine rop_locA agg43 hL_36 0 rfl 0 (vs := [(Sl.v x_3), (VI x_4)]) rfl rfl ?_
    refine guardM_y' hb_36 ?_
    refine rop_locA agg43 hL_36 2 rfl 0 (vs := [(Sl.v t101_1), (VI t101_2)]) rfl rfl ?_
    refine guardM_y' hb_36 ?_
    refine H.mono fun rv_21 h_41 H => ?_
    obtain ⟨t319_1, rfl, hL_41, H⟩ := H
    refine guardM_y' hb_36 ?_
    refine pop_not t319_1 ?_
    refine pop_pickf' hb_36 ?_
    refine condM_b (fun hb_37 => ?_) (fun hb_37 => ?_)
    ·have H := H.1 hb_37
     exact H
    have H := H.2 hb_37
    exact ⟨rfl, H, Vars.pick hL_41 [1, 2, 3, 4] rfl⟩
   have H := H.1 hb_31
   obtain ⟨hi_12, H⟩ := H
   refine pop_index sli34 siz3 .i64 t115_1 t287_1 hi_12 ?_
   obtain ⟨t291_1, hc_10, H⟩ := H
   refine rop_one one3 (VI t291_1) hc_10 ?_
   refine pop_field 1 fld43_1 b_5 0 ?_
   refine rop_loc one3 hL_36 0 rfl 1 (v := (VI x_4)) rfl ?_
   refine pop_ine .i64 _ _ x_4 t291_1 ?_
   refine condM_b (fun hb_32 => ?_) (fun hb_32 => ?_)
   ·have H := H.1 hb_32
    exact H
   have H := H.2 hb_32
   refine pop_add .i64 t287_1 1 ?_
   refine pop_len t115_1 _ _ sli34 ?_
   refine pop_lss .i64 (w64 (t287_1 + 1)) (t115_1.n : Int) ?_
   refine condM_b (fun hb_33 => ?_) (fun hb_33 => ?_)
   rotate_left
   ·have H := H.2 hb_33
    refine pop_add .i64 t287_1 1 ?_
    obtain ⟨m_5, hm_5, H⟩ := H
    exact hn_3 _ _ ⟨m_5, hm_5, (w64 (t287_1 + 1)), x_3, x_4, rfl, H, hL_36⟩
   have H := H.1 hb_33
   refine rop_locA agg41 hL_36 4 rfl 0 (vs := [(Sl.v t65_1)]) rfl rfl ?_
   refine rop_locA agg43 hL_36 0 rfl 0 (vs := [(Sl.v x_3), (VI x_4)]) rfl rfl ?_
   refine H.mono fun rv_20 h_37 H => ?_
   obtain ⟨t304_1, t304_2, t304_3, rfl, hL_37, H⟩ := H
   refine pop_ext (v := (Value.agg #[(Sl.v t304_1), (VI t304_2)])) rfl ?_
   refine pop_ext (v := (VB t304_3)) rfl ?_
   refine eop_alloc 43 zer43 rfl hL_37 (fun b_6 h_38 hb_34 hf_11 hL_38 => ?_)
   refine uop_loc siz43 hL_38 0 rfl 0 [(Sl.v t304_1), (VI t304_2)] rfl rfl rfl (Nat.le_of_ble_eq_true rfl) (L' := [(b_6, [(Sl.v t304_1), (VI t304_2)]), (b_5, [(Sl.v x_3), (VI x_4)]), (b_4, [(Sl.v t108_1), (VI t108_2)]), (b_3, [(Sl.v t101_1), (VI t101_2)]), (b_2, [(Sl.v t65_2), (VI t65_3)]), (b_1, [(Sl.v t65_1)])]) rfl (fun h_39 hf_12 hL_39 => ?_)
   refine pop_not t304_3 ?_
   refine condM_b (fun hb_35 => ?_) (fun hb_35 => ?_)
   ·have H := H.1 hb_35
    have H := H b_6 h_39 (Nat.le_trans (Fr.size (Fr.r (In []) _)) hb_34) (Fr.new (Fr.no' (Fr.r (In []) _) hf_11) (Nat.le_trans (Fr.size (Fr.r (In []) _)) hb_34) hf_12) hL_39
    exact H
   have H := H.2 hb_35
   refine rop_locA agg43 hL_39 0 rfl 0 (vs := [(Sl.v t304_1), (VI t304_2)]) rfl rfl ?_
   refine uop_loc siz43 hL_39 1 rfl 0 [(Sl.v t304_1), (VI t304_2)] rfl rfl rfl (Nat.le_of_ble_eq_true rfl) (L' := [(b_6, [(Sl.v t304_1), (VI t304_2)]), (b_5, [(Sl.v t304_1), (VI t304_2)]), (b_4, [(Sl.v t108_1), (VI t108_2)]), (b_3, [(Sl.v t101_1), (VI t101_2)]), (b_2, [(Sl.v t65_2), (VI t65_3)]), (b_1, [(Sl.v t65_1)])]) rfl (fun h_40 hf_13 hL_40 => ?_)
   refine pop_add .i64 t287_1 1 ?_
   have H := H b_6 h_40 (Nat.le_trans (Fr.size (Fr.r (In []) _)) hb_34) (Fr.old (Fr.new (Fr.no' (Fr.r (In []) _) hf_11) (Nat.le_trans (Fr.size (Fr.r (In []) _)) hb_34) hf_12) hf_13) hL_40
   obtain ⟨m_4, hm_4, H⟩ := H
   exact hn_3 _ _ ⟨m_4, hm_4, (w64 (t287_1 + 1)), t304_1, t304_2, rfl, H, (Vars.tail hL_40)⟩
  intro junk_7  h_42
  rintro ⟨hv, hJ_7, hL_42⟩
  have H := HB_8  h_42 hJ_7 hL_42
  refine H.mono fun rv_22 h_43 H => ?_
  obtain ⟨t324_1, t324_2, t324_3, rfl, hL_43, H⟩ := H
  refine pop_ext (v := (Value.agg #[(Sl.v t324_1)])) rfl ?_
  refine pop_ext (v := (Value.agg #[(Sl.v t324_2), (VI t324_3)])) rfl ?_
  refine eop_alloc 41 zer41 rfl hL_43 (fun b_7 h_44 hb_38 hf_14 hL_44 => ?_)
  refine eop_alloc 43 zer43 rfl hL_44 (fun b_8 h_45 hb_39 hf_15 hL_45 => ?_)
  refine uop_loc siz41 hL_45 1 rfl 0 [(Sl.v t324_1)] rfl rfl rfl (Nat.le_of_ble_eq_true rfl) (L' := [(b_8, [(Sl.v nilSl), (VI 0)]), (b_7, [(Sl.v t324_1)]), (b_4, [(Sl.v t108_1), (VI t108_2)]), (b_3, [(Sl.v t101_1), (VI t101_2)]), (b_2, [(Sl.v t65_2), (VI t65_3)]), (b_1, [(Sl.v t65_1)])]) rfl (fun h_46 hf_16 hL_46 => ?_)
  refine uop_loc siz43 hL_46 0 rfl 0 [(Sl.v t324_2), (VI t324_3)] rfl rfl rfl (Nat.le_of_ble_eq_true rfl) (L' := [(b_8, [(Sl.v t324_2), (VI t324_3)]), (b_7, [(Sl.v t324_1)]), (b_4, [(Sl.v t108_1), (VI t108_2)]), (b_3, [(Sl.v t101_1), (VI t101_2)]), (b_2, [(Sl.v t65_2), (VI t65_3)]), (b_1, [(Sl.v t65_1)])]) rfl (fun h_47 hf_17 hL_47 => ?_)
  refine rop_locA agg41 hL_47 1 rfl 0 (vs := [(Sl.v t324_1)]) rfl rfl ?_
  refine rop_locA agg43 hL_47 0 rfl 0 (vs := [(Sl.v t324_2), (VI t324_3)]) rfl rfl ?_
  have H := H b_7 b_8 h_47 (Nat.le_trans (Fr.size (Fr.r (In []) _)) hb_38) (Nat.le_trans (Fr.size (Fr.no' (Fr.r (In []) _) hf_14)) hb_39) (Fr.new (Fr.new (Fr.no' (Fr.no' (Fr.r (In []) _) hf_14) hf_15) (Nat.le_trans (Fr.size (Fr.r (In []) _)) hb_38) hf_16) (Nat.le_trans (Fr.size (Fr.no' (Fr.r (In []) _) hf_14)) hb_39) hf_17) hL_47
  refine H.mono fun rv_23 h_48 H => ?_
  obtain ⟨t330_1, t330_2, t330_3, rfl, hL_48, H⟩ := H
  refine pop_ext (v := (Value.agg #[(Sl.v t330_1), (VI t330_2)])) rfl ?_
  refine pop_ext (v := (VB t330_3)) rfl ?_
  refine eop_alloc 43 zer43 rfl hL_48 (fun b_9 h_49 hb_40 hf_18 hL_49 => ?_)
  refine uop_loc siz43 hL_49 0 rfl 0 [(Sl.v t330_1), (VI t330_2)] rfl rfl rfl (Nat.le_of_ble_eq_true rfl) (L' := [(b_9, [(Sl.v t330_1), (VI t330_2)]), (b_8, [(Sl.v t324_2), (VI t324_3)]), (b_7, [(Sl.v t324_1)]), (b_4, [(Sl.v t108_1), (VI t108_2)]), (b_3, [(Sl.v t101_1), (VI t101_2)]), (b_2, [(Sl.v t65_2), (VI t65_3)]), (b_1, [(Sl.v t65_1)])]) rfl (fun h_50 hf_19 hL_50 => ?_)
  refine rop_locA agg41 hL_50 2 rfl 0 (vs := [(Sl.v t324_1)]) rfl rfl ?_
  refine rop_locA agg43 hL_50 1 rfl 0 (vs := [(Sl.v t324_2), (VI t324_3)]) rfl rfl ?_
  have H := H b_9 h_50 (Nat.le_trans (Fr.size (Fr.r (In []) _)) hb_40) (Fr.new (Fr.no' (Fr.r (In []) _) hf_18) (Nat.le_trans (Fr.size (Fr.r (In []) _)) hb_40) hf_19) hL_50
  refine H.mono fun rv_24 h_51 H => ?_
  obtain ⟨t336_1, t336_2, t336_3, rfl, hL_51, H⟩ := H
  refine pop_ext (v := (Value.agg #[(Sl.v t336_1), (VI t336_2)])) rfl ?_
  refine pop_ext (v := (VB t336_3)) rfl ?_
  refine eop_alloc 43 zer43 rfl hL_51 (fun b_10 h_52 hb_41 hf_20 hL_52 => ?_)
  refine uop_loc siz43 hL_52 0 rfl 0 [(Sl.v t336_1), (VI t336_2)] rfl rfl rfl (Nat.le_of_ble_eq_true rfl) (L' := [(b_10, [(Sl.v t336_1), (VI t336_2)]), (b_9, [(Sl.v t330_1), (VI t330_2)]), (b_8, [(Sl.v t324_2), (VI t324_3)]), (b_7, [(Sl.v t324_1)]), (b_4, [(Sl.v t108_1), (VI t108_2)]), (b_3, [(Sl.v t101_1), (VI t101_2)]), (b_2, [(Sl.v t65_2), (VI t65_3)]), (b_1, [(Sl.v t65_1)])]) rfl (fun h_53 hf_21 hL_53 => ?_)
  refine rop_locA agg41 hL_53 3 rfl 0 (vs := [(Sl.v t324_1)]) rfl rfl ?_
  refine rop_locA agg43 hL_53 2 rfl 0 (vs := [(Sl.v t324_2), (VI t324_3)]) rfl rfl ?_
  have H := H b_10 h_53 (Nat.le_trans (Fr.size (Fr.r (In []) _)) hb_41) (Fr.new (Fr.no' (Fr.r (In []) _) hf_20) (Nat.le_trans (Fr.size (Fr.r (In []) _)) hb_41) hf_21) hL_53
  refine H.mono fun rv_25 h_54 H => ?_
  obtain ⟨t342_1, t342_2, rfl, hL_54, H⟩ := H
  refine pop_ext (v := (Sl.v t342_1)) rfl ?_
  refine pop_ext (v := (VB t342_2)) rfl ?_
  refine rop_locA agg41 hL_54 3 rfl 0 (vs := [(Sl.v t324_1)]) rfl rfl ?_
  refine rop_locA agg43 hL_54 2 rfl 0 (vs := [(Sl.v t324_2), (VI t324_3)]) rfl rfl ?_
  refine H.mono fun rv_26 h_55 H => ?_
  obtain ⟨t348_1, t348_2, rfl, hL_55, H⟩ := H
  refine pop_ext (v := (Sl.v t348_1)) rfl ?_
  refine pop_ext (v := (VB t348_2)) rfl ?_
  refine rop_locA agg43 hL_55 2 rfl 0 (vs := [(Sl.v t324_2), (VI t324_3)]) rfl rfl ?_
  refine H.mono fun rv_27 h_56 H => ?_
  obtain ⟨t353_1, t353_2, rfl, hL_56, H⟩ := H
  refine pop_ext (v := (VS t353_1)) rfl ?_
  refine pop_ext (v := (VB t353_2)) rfl ?_
  refine rop_locA agg43 hL_56 2 rfl 0 (vs := [(Sl.v t324_2), (VI t324_3)]) rfl rfl ?_
  refine H.mono fun rv_28 h_57 H => ?_
  obtain ⟨t358_1, t358_2, rfl, hL_57, H⟩ := H
  refine pop_ext (v := (VS t358_1)) rfl ?_
  refine pop_ext (v := (VB t358_2)) rfl ?_
  refine pop_bne boo4 _ _ t330_3 t336_3 ?_
  refine guardM_sf (fun hb_42 => ?_) (fun hb_42 => ?_)
  rotate_left
  ·have H := H.1 hb_42
   refine guardM_n' hb_42 (by decide) ?_
   refine guardM_n' hb_42 (by decide) ?_
   refine guardM_n' hb_42 (by decide) ?_
   refine pop_pickt' hb_42 ?_
   refine guardM_n (by decide) ?_
   refine guardM_n (by decide) ?_
   refine guardM_n (by decide) ?_
   refine pop_pickt _ _ ?_
   refine guardM_n (by decide) ?_
   refine guardM_n (by decide) ?_
   refine guardM_n (by decide) ?_
   refine guardM_n (by decide) ?_
   refine pop_pickt _ _ ?_
   refine guardM_n (by decide) ?_
   refine guardM_n (by decide) ?_
   refine guardM_n (by decide) ?_
   refine pop_pickt _ _ ?_
   refine guardM_n (by decide) ?_
   refine guardM_n (by decide) ?_
   refine guardM_n (by decide) ?_
   refine pop_pickt _ _ ?_
   refine guardM_n (by decide) ?_
   refine guardM_n (by decide) ?_
   refine guardM_n (by decide) ?_
   refine guardM_n (by decide) ?_
   refine guardM_n (by decide) ?_
   refine ⟨⟨_, rfl, fun h => absurd (h.symm.trans rfl) (by decide), fun _ => rfl⟩, ?_⟩
   refine ⟨⟨_, rfl, fun h => absurd (h.symm.trans rfl) (by decide), fun _ => rfl⟩, ?_⟩
   refine guardM_n (by decide) ?_
   refine guardM_n (by decide) ?_
   refine pop_pickt _ _ ?_
   refine guardM_n (by decide) ?_
   refine guardM_n (by decide) ?_
   refine guardM_n (by decide) ?_
   refine guardM_n (by decide) ?_
   refine guardM_n (by decide) ?_
   refine pop_pickt _ _ ?_
   refine condM_t ?_
   exact H
  have H := H.2 hb_42
  refine rop_locA agg43 hL_57 1 rfl 0 (vs := [(Sl.v t330_1), (VI t330_2)]) rfl rfl ?_
  refine guardM_y' hb_42 ?_
  refine rop_locA agg43 hL_57 0 rfl 0 (vs := [(Sl.v t336_1), (VI t336_2)]) rfl rfl ?_
  refine guardM_y' hb_42 ?_
  refine H.mono fun rv_29 h_58 H => ?_
  obtain ⟨t367_1, rfl, hL_58, H⟩ := H
  refine guardM_y' hb_42 ?_
  refine pop_not t367_1 ?_
  refine pop_pickf' hb_42 ?_
  refine guardM_sf (fun hb_43 => ?_) (fun hb_43 => ?_)
  rotate_left
  ·have H := H.1 hb_43
   refine guardM_n' hb_43 (by decide) ?_
   refine guardM_n' hb_43 (by decide) ?_
   refine pop_pickt' hb_43 ?_
   refine guardM_n (by decide) ?_
   refine guardM_n (by decide) ?_
   refine guardM_n (by decide) ?_
   refine guardM_n (by decide) ?_
   refine pop_pickt _ _ ?_
   refine guardM_n (by decide) ?_
   refine guardM_n (by decide) ?_
   refine guardM_n (by decide) ?_
   refine pop_pickt _ _ ?_
   refine guardM_n (by decide) ?_
   refine guardM_n (by decide) ?_
   refine guardM_n (by decide) ?_
   refine pop_pickt _ _ ?_
   refine guardM_n (by decide) ?_
   refine guardM_n (by decide) ?_
   refine guardM_n (by decide) ?_
   refine guardM_n (by decide) ?_
   refine guardM_n (by decide) ?_
   refine ⟨⟨_, rfl, fun h => absurd (h.symm.trans rfl) (by decide), fun _ => rfl⟩, ?_⟩
   refine ⟨⟨_, rfl, fun h => absurd (h.symm.trans rfl) (by decide), fun _ => rfl⟩, ?_⟩
   refine guardM_n (by decide) ?_
   refine guardM_n (by decide) ?_
   refine pop_pickt _ _ ?_
   refine guardM_n (by decide) ?_
   refine guardM_n (by decide) ?_
   refine guardM_n (by decide) ?_
   refine guardM_n (by decide) ?_
   refine guardM_n (by decide) ?_
   refine pop_pickt _ _ ?_
   refine condM_t ?_
   exact H
  have H := H.2 hb_43
  refine guardM_y' hb_43 ?_
  refine guardM_y' hb_43 ?_
  refine pop_bne boo4 _ _ t342_2 t348_2 ?_
  refine pop_pickf' hb_43 ?_
  refine guardM_sf (fun hb_44 => ?_) (fun hb_44 => ?_)
  rotate_left
  ·have H := H.1 hb_44
   refine guardM_n' hb_44 (by decide) ?_
   refine guardM_n' hb_44 (by decide) ?_
   refine guardM_n' hb_44 (by decide) ?_
   refine pop_pickt' hb_44 ?_
   refine guardM_n (by decide) ?_
   refine guardM_n (by decide) ?_
   refine guardM_n (by decide) ?_
   refine pop_pickt _ _ ?_
   refine guardM_n (by decide) ?_
   refine guardM_n (by decide) ?_
   refine guardM_n (by decide) ?_
   refine pop_pickt _ _ ?_
   refine guardM_n (by decide) ?_
   refine guardM_n (by decide) ?_
   refine guardM_n (by decide) ?_
   refine guardM_n (by decide) ?_
   refine guardM_n (by decide) ?_
   refine ⟨⟨_, rfl, fun h => absurd (h.symm.trans rfl) (by decide), fun _ => rfl⟩, ?_⟩
   refine ⟨⟨_, rfl, fun h => absurd (h.symm.trans rfl) (by decide), fun _ => rfl⟩, ?_⟩
   refine guardM_n (by decide) ?_
   refine guardM_n (by decide) ?_
   refine pop_pickt _ _ ?_
   refine guardM_n (by decide) ?_
   refine guardM_n (by decide) ?_
   refine guardM_n (by decide) ?_
   refine guardM_n (by decide) ?_
   refine guardM_n (by decide) ?_
   refine pop_pickt _ _ ?_
   refine condM_t ?_
   exact H
  have H := H.2 hb_44
  refine guardM_y' hb_44 ?_
  refine guardM_y' hb_44 ?_
  refine H.mono fun rv_30 h_59 H => ?_
  obtain ⟨t378_1, rfl, hL_59, H⟩ := H
  refine guardM_y' hb_44 ?_
  refine pop_not t378_1 ?_
  refine pop_pickf' hb_44 ?_
  refine guardM_sf (fun hb_45 => ?_) (fun hb_45 => ?_)
  rotate_left
  ·have H := H.1 hb_45
   refine guardM_n' hb_45 (by decide) ?_
   refine guardM_n' hb_45 (by decide) ?_
   refine pop_pickt' hb_45 ?_
   refine guardM_n (by decide) ?_
   refine guardM_n (by decide) ?_
   refine guardM_n (by decide) ?_
   refine pop_pickt _ _ ?_
   refine guardM_n (by decide) ?_
   refine guardM_n (by decide) ?_
   refine guardM_n (by decide) ?_
   refine guardM_n (by decide) ?_
   refine guardM_n (by decide) ?_
   refine ⟨⟨_, rfl, fun h => absurd (h.symm.trans rfl) (by decide), fun _ => rfl⟩, ?_⟩
   refine ⟨⟨_, rfl, fun h => absurd (h.symm.trans rfl) (by decide), fun _ => rfl⟩, ?_⟩
   refine guardM_n (by decide) ?_
   refine guardM_n (by decide) ?_
   refine pop_pickt _ _ ?_
   refine guardM_n (by decide) ?_
   refine guardM_n (by decide) ?_
   refine guardM_n (by decide) ?_
   refine guardM_n (by decide) ?_
   refine guardM_n (by decide) ?_
   refine pop_pickt _ _ ?_
   refine condM_t ?_
   exact H
  have H := H.2 hb_45
  refine guardM_y' hb_45 ?_
  refine guardM_y' hb_45 ?_
  refine pop_bne boo4 _ _ t353_2 t358_2 ?_
  refine pop_pickf' hb_45 ?_
  refine guardM_sf (fun hb_46 => ?_) (fun hb_46 => ?_)
  rotate_left
  ·have H := H.1 hb_46
   refine guardM_n' hb_46 (by decide) ?_
   refine guardM_n' hb_46 (by decide) ?_
   refine pop_pickt' hb_46 ?_
   refine guardM_n (by decide) ?_
   refine guardM_n (by decide) ?_
   refine guardM_n (by decide) ?_
   refine guardM_n (by decide) ?_
   refine guardM_n (by decide) ?_
   refine ⟨⟨_, rfl, fun h => absurd (h.symm.trans rfl) (by decide), fun _ => rfl⟩, ?_⟩
   refine ⟨⟨_, rfl, fun h => absurd (h.symm.trans rfl) (by decide), fun _ => rfl⟩, ?_⟩
   refine guardM_n (by decide) ?_
   refine guardM_n (by decide) ?_
   refine pop_pickt _ _ ?_
   refine guardM_n (by decide) ?_
   refine guardM_n (by decide) ?_
   refine guardM_n (by decide) ?_
   refine guardM_n (by decide) ?_
   refine guardM_n (by decide) ?_
   refine pop_pickt _ _ ?_
   refine condM_t ?_
   exact H
  have H := H.2 hb_46
  refine guardM_y' hb_46 ?_
  refine guardM_y' hb_46 ?_
  refine pop_sne _ _ t353_1 t358_1 ?_
  refine pop_pickf' hb_46 ?_
  refine guardM_sf (fun hb_47 => ?_) (fun hb_47 => ?_)
  rotate_left
  ·have H := H.1 hb_47
   refine guardM_n' hb_47 (by decide) ?_
   refine guardM_n' hb_47 (by decide) ?_
   refine guardM_n' hb_47 (by decide) ?_
   refine guardM_n' hb_47 (by decide) ?_
   refine ⟨⟨_, rfl, fun h => absurd (h.symm.trans hb_47) (by decide), fun _ => rfl⟩, ?_⟩
   refine ⟨⟨_, rfl, fun h => absurd (h.symm.trans hb_47) (by decide), fun _ => rfl⟩, ?_⟩
   refine guardM_n' hb_47 (by decide) ?_
   refine guardM_n' hb_47 (by decide) ?_
   refine pop_pickt' hb_47 ?_
   refine guardM_n (by decide) ?_
   refine guardM_n (by decide) ?_
   refine guardM_n (by decide) ?_
   refine guardM_n (by decide) ?_
   refine guardM_n (by decide) ?_
   refine pop_pickt _ _ ?_
   refine condM_t ?_
   exact H
  have H := H.2 hb_47
  refine rop_locA agg41 hL_59 3 rfl 0 (vs := [(Sl.v t324_1)]) rfl rfl ?_
  refine guardM_y' hb_47 ?_
  refine rop_locA agg43 hL_59 2 rfl 0 (vs := [(Sl.v t324_2), (VI t324_3)]) rfl rfl ?_
  refine guardM_y' hb_47 ?_
  refine rop_locA agg41 hL_59 3 rfl 0 (vs := [(Sl.v t324_1)]) rfl rfl ?_
  refine guardM_y' hb_47 ?_
  refine rop_locA agg43 hL_59 2 rfl 0 (vs := [(Sl.v t324_2), (VI t324_3)]) rfl rfl ?_
  refine guardM_y' hb_47 ?_
  refine H.mono fun rv_31 h_60 H => ?_
  obtain ⟨t394_1, rfl, hL_60, H⟩ := H
  refine ⟨⟨_, rfl, fun _ => ?_, fun h => absurd hb_47 h⟩, ?_⟩
  ·exact still_locA agg43 hL_60 2 rfl 0 (vs := [(Sl.v t324_2), (VI t324_3)]) rfl rfl
  refine ⟨⟨_, rfl, fun _ => ?_, fun h => absurd hb_47 h⟩, ?_⟩
  ·exact still_locA agg41 hL_60 3 rfl 0 (vs := [(Sl.v t324_1)]) rfl rfl
  refine guardM_y' hb_47 ?_
  refine H.mono fun rv_32 h_61 H => ?_
  obtain ⟨t397_1, rfl, hL_61, H⟩ := H
  refine guardM_y' hb_47 ?_
  refine pop_bne boo4 _ _ t394_1 t397_1 ?_
  refine pop_pickf' hb_47 ?_
  refine guardM_sf (fun hb_48 => ?_) (fun hb_48 => ?_)
  rotate_left
  ·have H := H.1 hb_48
   refine guardM_n' hb_48 (by decide) ?_
   refine guardM_n' hb_48 (by decide) ?_
   refine guardM_n' hb_48 (by decide) ?_
   refine guardM_n' hb_48 (by decide) ?_
   refine pop_pickt' hb_48 ?_
   refine condM_t ?_
   exact H
  have H := H.2 hb_48
  refine guardM_y' hb_48 ?_
  refine rop_locA agg41 hL_61 3 rfl 0 (vs := [(Sl.v t324_1)]) rfl rfl ?_
  refine guardM_y' hb_48 ?_
  refine rop_locA agg43 hL_61 2 rfl 0 (vs := [(Sl.v t324_2), (VI t324_3)]) rfl rfl ?_
  refine guardM_y' hb_48 ?_
  refine H.mono fun rv_33 h_62 H => ?_
  obtain ⟨t404_1, rfl, hL_62, H⟩ := H
  refine guardM_y' hb_48 ?_
  refine pop_bne boo4 _ _ t342_2 t404_1 ?_
  refine pop_pickf' hb_48 ?_
  refine condM_b (fun hb_49 => ?_) (fun hb_49 => ?_)
  ·have H := H.1 hb_49
   exact H
  have H := H.2 hb_49
  refine pop_len t342_1 _ _ sli65 ?_
  obtain ⟨J_8, ⟨n_10, h0_5⟩, HB_7⟩ := H
  refine loop_intro (J := fun (n : Nat) (vs : List Value) (h' : Heap) => ∃ t409_1 : Int, vs = [(VI t409_1)] ∧ J_8 n t409_1 h' ∧ Vars h' [(b_10, [(Sl.v t336_1), (VI t336_2)]), (b_9, [(Sl.v t330_1), (VI t330_2)]), (b_8, [(Sl.v t324_2), (VI t324_3)]), (b_7, [(Sl.v t324_1)]), (b_4, [(Sl.v t108_1), (VI t108_2)]), (b_3, [(Sl.v t101_1), (VI t101_2)]), (b_2, [(Sl.v t65_2), (VI t65_3)]), (b_1, [(Sl.v t65_1)])]) n_10 ⟨0, rfl, h0_5, hL_62⟩ ?_
  intro I_5 mu_5 hI_5 junk_8 tv_12 h_63 hi_13
  obtain ⟨n_7, ⟨t409_1, hv, hJ_8, hL_63⟩, hn_4⟩ := hI_5 _ _ hi_13
  cases hv
  have H := HB_7 n_7 t409_1 h_63 hJ_8 hL_63
  refine pop_lss .i64 t409_1 (t342_1.n : Int) ?_
  refine condM_b (fun hb_50 => ?_) (fun hb_50 => ?_)
  rotate_left
  ·have H := H.2 hb_50
   refine condM_b (fun hb_57 => ?_) (fun hb_57 => ?_)
   rotate_left
   ·have H := H.2 hb_57
    exact H
   have H := H.1 hb_57
   refine rop_locA agg41 hL_63 3 rfl 0 (vs := [(Sl.v t324_1)]) rfl rfl ?_
   refine rop_locA agg43 hL_63 1 rfl 0 (vs := [(Sl.v t330_1), (VI t330_2)]) rfl rfl ?_
   refine H.mono fun rv_36 h_70 H => ?_
   obtain ⟨t448_1, t448_2, rfl, hL_70, H⟩ := H
   refine pop_ext (v := (Sl.v t448_1)) rfl ?_
   refine pop_ext (v := (VB t448_2)) rfl ?_
   refine pop_len t448_1 _ _ sli65 ?_
   obtain ⟨J_9, ⟨n_9, h0_4⟩, HB_6⟩ := H
   refine loop_intro (J := fun (n : Nat) (vs : List Value) (h' : Heap) => ∃ found57_1 : Bool, ∃ t453_1 : Int, vs = [(VB found57_1), (VI t453_1)] ∧ J_9 n found57_1 t453_1 h' ∧ Vars h' [(b_10, [(Sl.v t336_1), (VI t336_2)]), (b_9, [(Sl.v t330_1), (VI t330_2)]), (b_8, [(Sl.v t324_2), (VI t324_3)]), (b_7, [(Sl.v t324_1)]), (b_4, [(Sl.v t108_1), (VI t108_2)]), (b_3, [(Sl.v t101_1), (VI t101_2)]), (b_2, [(Sl.v t65_2), (VI t65_3)]), (b_1, [(Sl.v t65_1)])]) n_9 ⟨false, 0, rfl, h0_4, hL_70⟩ ?_
   intro I_4 mu_4 hI_4 junk_9 tv_10 tv_11 h_71 hi_16
   obtain ⟨n_8, ⟨found57_1, t453_1, hv, hJ_9, hL_71⟩, hn_5⟩ := hI_4 _ _ hi_16
   cases hv
   have H := HB_6 n_8 found57_1 t453_1 h_71 hJ_9 hL_71
   refine pop_lss .i64 t453_1 (t448_1.n : Int) ?_
   refine condM_b (fun hb_58 => ?_) (fun hb_58 => ?_)
   rotate_left
   ·have H := H.2 hb_58
    refine guardM_st (fun hb_61 => ?_) (fun hb_61 => ?_)
    ·have H := H.1 hb_61
     refine pop_pickt' hb_61 ?_
     exact H
    have H := H.2 hb_61
    refine pop_pickf' hb_61 ?_
    exact H
   have H := H.1 hb_58
   obtain ⟨hi_17, H⟩ := H
   refine pop_index sli65 siz43 .i64 t448_1 t453_1 hi_17 ?_
   obtain ⟨t456_1, t456_2, hc_13, H⟩ := H
   refine rop_agg agg43 [(Sl.v t456_1), (VI t456_2)] rfl hc_13 ?_
   refine eop_alloc 43 zer43 rfl hL_71 (fun b_13 h_72 hb_59 hf_26 hL_72 => ?_)
   refine uop_loc siz43 hL_72 0 rfl 0 [(Sl.v t456_1), (VI t456_2)] rfl rfl rfl (Nat.le_of_ble_eq_true rfl) (L' := [(b_13, [(Sl.v t456_1), (VI t456_2)]), (b_10, [(Sl.v t336_1), (VI t336_2)]), (b_9, [(Sl.v t330_1), (VI t330_2)]), (b_8, [(Sl.v t324_2), (VI t324_3)]), (b_7, [(Sl.v t324_1)]), (b_4, [(Sl.v t108_1), (VI t108_2)]), (b_3, [(Sl.v t101_1), (VI t101_2)]), (b_2, [(Sl.v t65_2), (VI t65_3)]), (b_1, [(Sl.v t65_1)])]) rfl (fun h_73 hf_27 hL_73 => ?_)
   refine guardM_sf (fun hb_60 => ?_) (fun hb_60 => ?_)
   rotate_left
   ·have H := H.1 hb_60
    refine guardM_n' hb_60 (by decide) ?_
    refine guardM_n' hb_60 (by decide) ?_
    refine pop_pickt' hb_60 ?_
    refine pop_add .i64 t453_1 1 ?_
    have H := H b_13 h_73 (Nat.le_trans (Fr.size (Fr.r (In []) _)) hb_59) (Fr.new (Fr.no' (Fr.r (In []) _) hf_26) (Nat.le_trans (Fr.size (Fr.r (In []) _)) hb_59) hf_27) hL_73
    obtain ⟨m_9, hm_9, H⟩ := H
    exact hn_5 _ _ ⟨m_9, hm_9, true, (w64 (t453_1 + 1)), rfl, H, (Vars.tail hL_73)⟩
   have H := H.2 hb_60
   refine rop_locA agg43 hL_73 0 rfl 0 (vs := [(Sl.v t456_1), (VI t456_2)]) rfl rfl ?_
   refine guardM_y' hb_60 ?_
   refine rop_locA agg43 hL_73 3 rfl 0 (vs := [(Sl.v t324_2), (VI t324_3)]) rfl rfl ?_
   refine guardM_y' hb_60 ?_
   have H := H b_13 h_73 (Nat.le_trans (Fr.size (Fr.r (In []) _)) hb_59) (Fr.new (Fr.no' (Fr.r (In []) _) hf_26) (Nat.le_trans (Fr.size (Fr.r (In []) _)) hb_59) hf_27) hL_73
   refine H.mono fun rv_37 h_74 H => ?_
   obtain ⟨t461_1, rfl, hL_74, H⟩ := H
   refine pop_pickf' hb_60 ?_
   refine pop_add .i64 t453_1 1 ?_
   obtain ⟨m_8, hm_8, H⟩ := H
   exact hn_5 _ _ ⟨m_8, hm_8, t461_1, (w64 (t453_1 + 1)), rfl, H, (Vars.tail hL_74)⟩
  have H := H.1 hb_50
  obtain ⟨hi_14, H⟩ := H
  refine pop_index sli65 siz43 .i64 t342_1 t409_1 hi_14 ?_
  obtain ⟨t413_1, t413_2, hc_12, H⟩ := H
  refine rop_agg agg43 [(Sl.v t413_1), (VI t413_2)] rfl hc_12 ?_
  refine eop_alloc 43 zer43 rfl hL_63 (fun b_11 h_64 hb_51 hf_22 hL_64 => ?_)
  refine uop_loc siz43 hL_64 0 rfl 0 [(Sl.v t413_1), (VI t413_2)] rfl rfl rfl (Nat.le_of_ble_eq_true rfl) (L' := [(b_11, [(Sl.v t413_1), (VI t413_2)]), (b_10, [(Sl.v t336_1), (VI t336_2)]), (b_9, [(Sl.v t330_1), (VI t330_2)]), (b_8, [(Sl.v t324_2), (VI t324_3)]), (b_7, [(Sl.v t324_1)]), (b_4, [(Sl.v t108_1), (VI t108_2)]), (b_3, [(Sl.v t101_1), (VI t101_2)]), (b_2, [(Sl.v t65_2), (VI t65_3)]), (b_1, [(Sl.v t65_1)])]) rfl (fun h_65 hf_23 hL_65 => ?_)
  refine rop_locA agg41 hL_65 4 rfl 0 (vs := [(Sl.v t324_1)]) rfl rfl ?_
  refine rop_locA agg43 hL_65 0 rfl 0 (vs := [(Sl.v t413_1), (VI t413_2)]) rfl rfl ?_
  have H := H b_11 h_65 (Nat.le_trans (Fr.size (Fr.r (In []) _)) hb_51) (Fr.new (Fr.no' (Fr.r (In []) _) hf_22) (Nat.le_trans (Fr.size (Fr.r (In []) _)) hb_51) hf_23) hL_65
  refine H.mono fun rv_34 h_66 H => ?_
  obtain ⟨t417_1, t417_2, t417_3, rfl, hL_66, H⟩ := H
  refine pop_ext (v := (Value.agg #[(Sl.v t417_1), (VI t417_2)])) rfl ?_
  refine pop_ext (v := (VB t417_3)) rfl ?_
  refine eop_alloc 43 zer43 rfl hL_66 (fun b_12 h_67 hb_52 hf_24 hL_67 => ?_)
  refine uop_loc siz43 hL_67 0 rfl 0 [(Sl.v t417_1), (VI t417_2)] rfl rfl rfl (Nat.le_of_ble_eq_true rfl) (L' := [(b_12, [(Sl.v t417_1), (VI t417_2)]), (b_11, [(Sl.v t413_1), (VI t413_2)]), (b_10, [(Sl.v t336_1), (VI t336_2)]), (b_9, [(Sl.v t330_1), (VI t330_2)]), (b_8, [(Sl.v t324_2), (VI t324_3)]), (b_7, [(Sl.v t324_1)]), (b_4, [(Sl.v t108_1), (VI t108_2)]), (b_3, [(Sl.v t101_1), (VI t101_2)]), (b_2, [(Sl.v t65_2), (VI t65_3)]), (b_1, [(Sl.v t65_1)])]) rfl (fun h_68 hf_25 hL_68 => ?_)
  refine pop_not t417_3 ?_
  refine guardM_sf (fun hb_53 => ?_) (fun hb_53 => ?_)
  rotate_left
  ·have H := H.1 hb_53
   refine guardM_n' hb_53 (by decide) ?_
   refine guardM_n' hb_53 (by decide) ?_
   refine guardM_n' hb_53 (by decide) ?_
   refine pop_pickt' hb_53 ?_
   refine guardM_n (by decide) ?_
   refine guardM_n (by decide) ?_
   refine guardM_n (by decide) ?_
   refine guardM_n (by decide) ?_
   refine guardM_n (by decide) ?_
   refine guardM_n (by decide) ?_
   refine guardM_n (by decide) ?_
   refine guardM_n (by decide) ?_
   refine guardM_n (by decide) ?_
   refine guardM_n (by decide) ?_
   refine guardM_n (by decide) ?_
   refine guardM_n (by decide) ?_
   refine guardM_n (by decide) ?_
   refine pop_pickt _ _ ?_
   refine condM_t ?_
   have H := H b_12 h_68 (Nat.le_trans (Fr.size (Fr.r (In []) _)) hb_52) (Fr.new (Fr.no' (Fr.r (In []) _) hf_24) (Nat.le_trans (Fr.size (Fr.r (In []) _)) hb_52) hf_25) hL_68
   exact H
  have H := H.2 hb_53
  refine rop_locA agg43 hL_68 0 rfl 0 (vs := [(Sl.v t417_1), (VI t417_2)]) rfl rfl ?_
  refine guardM_y' hb_53 ?_
  refine rop_locA agg43 hL_68 4 rfl 0 (vs := [(Sl.v t324_2), (VI t324_3)]) rfl rfl ?_
  refine guardM_y' hb_53 ?_
  have H := H b_12 h_68 (Nat.le_trans (Fr.size (Fr.r (In []) _)) hb_52) (Fr.new (Fr.no' (Fr.r (In []) _) hf_24) (Nat.le_trans (Fr.size (Fr.r (In []) _)) hb_52) hf_25) hL_68
  refine H.mono fun rv_35 h_69 H => ?_
  obtain ⟨t425_1, rfl, hL_69, H⟩ := H
  refine guardM_y' hb_53 ?_
  refine pop_not t425_1 ?_
  refine pop_pickf' hb_53 ?_
  refine guardM_sf (fun hb_54 => ?_) (fun hb_54 => ?_)
  rotate_left
  ·have H := H.1 hb_54
   refine guardM_n' hb_54 (by decide) ?_
   refine guardM_n' hb_54 (by decide) ?_
   refine guardM_n (by decide) ?_
   refine guardM_n (by decide) ?_
   refine guardM_n (by decide) ?_
   refine guardM_n (by decide) ?_
   refine guardM_n (by decide) ?_
   refine guardM_n (by decide) ?_
   refine guardM_n (by decide) ?_
   refine guardM_n (by decide) ?_
   refine guardM_n (by decide) ?_
   refine guardM_n' hb_54 (by decide) ?_
   refine pop_pickt' hb_54 ?_
   refine condM_t ?_
   exact H
  have H := H.2 hb_54
  refine guardM_y' hb_54 ?_
  refine pop_gtr .i64 t409_1 0 ?_
  refine guardM_y' hb_54 ?_
  refine guardM_st (fun hb_55 => ?_) (fun hb_55 => ?_)
  rotate_left
  ·have H := H.2 hb_55
   refine guardM_n' hb_55 (by decide) ?_
   refine guardM_n' hb_55 (by decide) ?_
   refine guardM_n' hb_55 (by decide) ?_
   refine guardM_n' hb_55 (by decide) ?_
   refine guardM_n' hb_55 (by decide) ?_
   refine guardM_n' hb_55 (by decide) ?_
   refine guardM_n' hb_55 (by decide) ?_
   refine guardM_n' hb_55 (by decide) ?_
   refine guardM_y' hb_54 ?_
   refine pop_pickf' hb_55 ?_
   refine pop_pickf' hb_54 ?_
   refine condM_f ?_
   refine pop_add .i64 t409_1 1 ?_
   obtain ⟨m_7, hm_7, H⟩ := H
   exact hn_4 _ _ ⟨m_7, hm_7, (w64 (t409_1 + 1)), rfl, H, (Vars.tail (Vars.tail hL_69))⟩
  have H := H.1 hb_55
  refine guardM_y' hb_55 ?_
  refine guardM_y' hb_55 ?_
  refine pop_sub .i64 t409_1 1 ?_
  refine guardM_y' hb_55 ?_
  obtain ⟨hi_15, H⟩ := H
  refine pop_index sli65 siz43 .i64 t342_1 (w64 (t409_1 - 1)) hi_15 ?_
  refine guardM_y' hb_55 ?_
  refine pop_fieldA 1 fld43_1 (Sl.at t342_1 (w64 (t409_1 - 1)) 2) ?_
  refine guardM_y' hb_55 ?_
  obtain ⟨t437_1, hc_11, H⟩ := H
  refine rop_one one3 (VI t437_1) hc_11 ?_
  refine guardM_y' hb_55 ?_
  refine pop_field 1 fld43_1 b_11 0 ?_
  refine guardM_y' hb_55 ?_
  refine rop_loc one3 hL_69 1 rfl 1 (v := (VI t413_2)) rfl ?_
  refine guardM_y' hb_55 ?_
  refine pop_geq .i64 t437_1 t413_2 ?_
  refine guardM_y' hb_54 ?_
  refine pop_pickt' hb_55 ?_
  refine pop_pickf' hb_54 ?_
  refine condM_b (fun hb_56 => ?_) (fun hb_56 => ?_)
  ·have H := H.1 hb_56
   exact H
  have H := H.2 hb_56
  refine pop_add .i64 t409_1 1 ?_
  obtain ⟨m_6, hm_6, H⟩ := H
  exact hn_4 _ _ ⟨m_6, hm_6, (w64 (t409_1 + 1)), rfl, H, (Vars.tail (Vars.tail hL_69))⟩
def u20 (P : Program) (code0_1 : Sl) (more1_1 : Sl) (h : Heap) (K : Value → Heap → Prop) : Prop :=
  ((decide (1048576 < (code0_1.n : Int))) = true →
  K (VB true) h) ∧
  ((decide (1048576 < (code0_1.n : Int))) = false →
  K (VB (decide ((w64 (1048576 - (code0_1.n : Int))) < (more1_1.n : Int)))) h)
theorem v20 (code0_1 : Sl) (more1_1 : Sl) (h : Heap) (K : Value → Heap → Prop) (H : u20 Tryd.prog code0_1 more1_1 h K) : callM Tryd.prog 20 #[(Sl.v code0_1), (Sl.v more1_1)] h K := by
  refine c20 (Sl.v code0_1) (Sl.v more1_1) h K ?_
  unfold u20 at H
  unfold t20
  have hL : Vars h [] := .nil
  refine pop_len code0_1 _ _ sli48 ?_
  refine pop_gtr .i64 (code0_1.n : Int) 1048576 ?_
  refine guardM_sf (fun hb_1 => ?_) (fun hb_1 => ?_)
  rotate_left
  ·have H := H.1 hb_1
   refine guardM_n' hb_1 (by decide) ?_
   refine guardM_n' hb_1 (by decide) ?_
   refine guardM_n' hb_1 (by decide) ?_
   refine guardM_n' hb_1 (by decide) ?_
   refine guardM_n' hb_1 (by decide) ?_
   refine pop_pickt' hb_1 ?_
   exact H
  have H := H.2 hb_1
  refine guardM_y' hb_1 ?_
  refine pop_len more1_1 _ _ sli48 ?_
  refine guardM_y' hb_1 ?_
  refine guardM_y' hb_1 ?_
  refine pop_len code0_1 _ _ sli48 ?_
  refine guardM_y' hb_1 ?_
  refine pop_sub .i64 1048576 (code0_1.n : Int) ?_
  refine guardM_y' hb_1 ?_
  refine pop_gtr .i64 (more1_1.n : Int) (w64 (1048576 - (code0_1.n : Int))) ?_
  refine pop_pickf' hb_1 ?_
  exact H
def u21 (P : Program) (code0_1 : Sl) (h : Heap) (K : Value → Heap → Prop) : Prop :=
  ∀ (b_1 : Nat) (b_2 : Nat) (h_2 : Heap), h.size ≤ b_1 → h.size ≤ b_2 → Fr (In []) h h_2 → Vars h_2 [(b_2, [(Sl.v nilSl), (VI 0)]), (b_1, [(Sl.v nilSl)])] →
  callM P 67 #[(Sl.v code0_1)] h_2 fun rv_1 h_3 => ∃ t6_1 : Sl, ∃ t6_2 : Sl, ∃ t6_3 : Int, ∃ t6_4 : Int, rv_1 = (Value.tuple #[(Value.agg #[(Sl.v t6_1)]), (Value.agg #[(Sl.v t6_2), (VI t6_3)]), (VI t6_4)]) ∧ Vars h_3 [(b_2, [(Sl.v nilSl), (VI 0)]), (b_1, [(Sl.v nilSl)])] ∧
  ∀ (h_5 : Heap), Fr (In [b_2, b_1]) h_3 h_5 → Vars h_5 [(b_2, [(Sl.v t6_2), (VI t6_3)]), (b_1, [(Sl.v t6_1)])] →
  K (Value.tuple #[(Value.agg #[(Sl.v t6_1)]), (Value.agg #[(Sl.v t6_2), (VI t6_3)]), (VI t6_4)]) h_5
theorem v21 (code0_1 : Sl) (h : Heap) (K : Value → Heap → Prop) (H : u21 Tryd.prog code0_1 h K) : callM Tryd.prog 21 #[(Sl.v code0_1)] h K := by
  refine c21 (Sl.v code0_1) h K ?_
  unfold u21 at H
  unfold t21
  have hL : Vars h [] := .nil
  refine eop_alloc 41 zer41 rfl hL (fun b_1 h_1 hb_1 hf_1 hL_1 => ?_)
  refine eop_alloc 43 zer43 rfl hL_1 (fun b_2 h_2 hb_2 hf_2 hL_2 => ?_)
  have H := H b_1 b_2 h_2 (Nat.le_trans (Fr.size (Fr.r (In []) _)) hb_1) (Nat.le_trans (Fr.size (Fr.no' (Fr.r (In []) _) hf_1)) hb_2) (Fr.no' (Fr.no' (Fr.r (In []) _) hf_1) hf_2) hL_2
  refine H.mono fun rv_1 h_3 H => ?_
  obtain ⟨t6_1, t6_2, t6_3, t6_4, rfl, hL_3, H⟩ := H
  refine pop_ext (v := (Value.agg #[(Sl.v t6_1)])) rfl ?_
  refine pop_ext (v := (Value.agg #[(Sl.v t6_2), (VI t6_3)])) rfl ?_
  refine pop_ext (v := (VI t6_4)) rfl ?_
  refine uop_loc siz41 hL_3 1 rfl 0 [(Sl.v t6_1)] rfl rfl rfl (Nat.le_of_ble_eq_true rfl) (L' := [(b_2, [(Sl.v nilSl), (VI 0)]), (b_1, [(Sl.v t6_1)])]) rfl (fun h_4 hf_3 hL_4 => ?_)
  refine uop_loc siz43 hL_4 0 rfl 0 [(Sl.v t6_2), (VI t6_3)] rfl rfl rfl (Nat.le_of_ble_eq_true rfl) (L' := [(b_2, [(Sl.v t6_2), (VI t6_3)]), (b_1, [(Sl.v t6_1)])]) rfl (fun h_5 hf_4 hL_5 => ?_)
  refine rop_locA agg41 hL_5 1 rfl 0 (vs := [(Sl.v t6_1)]) rfl rfl ?_
  refine rop_locA agg43 hL_5 0 rfl 0 (vs := [(Sl.v t6_2), (VI t6_3)]) rfl rfl ?_
  have H := H  h_5  (Fr.old (Fr.old (Fr.r (In []) _) hf_3) hf_4) hL_5
  exact H
def u22 (P : Program) (g0_1 : Sl) (w1_1 : Sl) (w1_2 : Int) (n2_1 : Int) (h : Heap) (K : Value → Heap → Prop) : Prop :=
  ∀ (b_1 : Nat) (b_2 : Nat) (h_2 : Heap), h.size ≤ b_1 → h.size ≤ b_2 → Fr (In []) h h_2 → Vars h_2 [(b_2, [(Sl.v w1_1), (VI w1_2)]), (b_1, [(Sl.v g0_1)])] →
  callM P 68 #[(Value.agg #[(Sl.v g0_1)]), (Value.agg #[(Sl.v w1_1), (VI w1_2)]), (VI n2_1), (VI 2000)] h_2 fun rv_1 h_3 => ∃ t13_1 : Bool, rv_1 = (VB t13_1) ∧ Vars h_3 [(b_2, [(Sl.v w1_1), (VI w1_2)]), (b_1, [(Sl.v g0_1)])] ∧
  ((!t13_1) = true →
  K (Value.tuple #[(Sl.v nilSl), (VB false)]) h_3) ∧
  ((!t13_1) = false →
  ∃ J_1 : Nat → Sl → Int → Nat → Sl → Heap → Prop, ((callM P 69 #[(Value.agg #[(Sl.v w1_1), (VI w1_2)])] h_3 fun rv_2 h_4 => ∃ t16_1 : Sl, ∃ t16_2 : Int, rv_2 = (Value.agg #[(Sl.v t16_1), (VI t16_2)]) ∧ Vars h_4 [(b_2, [(Sl.v w1_1), (VI w1_2)]), (b_1, [(Sl.v g0_1)])] ∧
  (callM P 70 #[(Value.agg #[(Sl.v g0_1)])] h_4 fun rv_3 h_5 => ∃ t18_1 : Sl, rv_3 = (Sl.v t18_1) ∧ Vars h_5 [(b_2, [(Sl.v w1_1), (VI w1_2)]), (b_1, [(Sl.v g0_1)])] ∧
  (∀ (b_5 : Nat) (b_6 : Nat) (h_9 : Heap), h_5.size ≤ b_5 → h_5.size ≤ b_6 → Fr (In []) h_5 h_9 → Vars h_9 [(b_6, [(Sl.v t18_1)]), (b_5, [(Sl.v t16_1), (VI t16_2)]), (b_2, [(Sl.v w1_1), (VI w1_2)]), (b_1, [(Sl.v g0_1)])] →
  J_1 b_5 t16_1 t16_2 b_6 t18_1 h_9) ∧
  (∀ (b_7 : Nat) (b_8 : Nat) (h_13 : Heap), h_5.size ≤ b_7 → h_5.size ≤ b_8 → Fr (In []) h_5 h_13 → Vars h_13 [(b_8, [(Sl.v t16_1), (VI t16_2)]), (b_7, [(Sl.v t18_1)]), (b_2, [(Sl.v w1_1), (VI w1_2)]), (b_1, [(Sl.v g0_1)])] →
  J_1 b_8 t16_1 t16_2 b_7 t18_1 h_13)) ∧
  (∀ (b_9 : Nat) (h_14 : Heap), h_4.size ≤ b_9 → Fr (In []) h_4 h_14 → Vars h_14 [(b_9, [(Sl.v nilSl), (VI 0)]), (b_2, [(Sl.v w1_1), (VI w1_2)]), (b_1, [(Sl.v g0_1)])] →
  (callM P 70 #[(Value.agg #[(Sl.v g0_1)])] h_14 fun rv_4 h_15 => ∃ t18_2 : Sl, rv_4 = (Sl.v t18_2) ∧ Vars h_15 [(b_9, [(Sl.v nilSl), (VI 0)]), (b_2, [(Sl.v w1_1), (VI w1_2)]), (b_1, [(Sl.v g0_1)])] ∧
  ∀ (b_10 : Nat) (h_18 : Heap), h_15.size ≤ b_10 → Fr (In [b_9]) h_15 h_18 → Vars h_18 [(b_10, [(Sl.v t18_2)]), (b_9, [(Sl.v t16_1), (VI t16_2)]), (b_2, [(Sl.v w1_1), (VI w1_2)]), (b_1, [(Sl.v g0_1)])] →
  J_1 b_9 t16_1 t16_2 b_10 t18_2 h_18) ∧
  (∀ (b_11 : Nat) (h_19 : Heap), h_14.size ≤ b_11 → Fr (In []) h_14 h_19 → Vars h_19 [(b_11, [(Sl.v nilSl)]), (b_9, [(Sl.v nilSl), (VI 0)]), (b_2, [(Sl.v w1_1), (VI w1_2)]), (b_1, [(Sl.v g0_1)])] →
  callM P 70 #[(Value.agg #[(Sl.v g0_1)])] h_19 fun rv_5 h_20 => ∃ t18_3 : Sl, rv_5 = (Sl.v t18_3) ∧ Vars h_20 [(b_11, [(Sl.v nilSl)]), (b_9, [(Sl.v nilSl), (VI 0)]), (b_2, [(Sl.v w1_1), (VI w1_2)]), (b_1, [(Sl.v g0_1)])] ∧
  ∀ (h_22 : Heap), Fr (In [b_11, b_9]) h_20 h_22 → Vars h_22 [(b_11, [(Sl.v t18_3)]), (b_9, [(Sl.v t16_1), (VI t16_2)]), (b_2, [(Sl.v w1_1), (VI w1_2)]), (b_1, [(Sl.v g0_1)])] →
  J_1 b_9 t16_1 t16_2 b_11 t18_3 h_22)) ∧
  (∀ (b_12 : Nat) (h_23 : Heap), h_4.size ≤ b_12 → Fr (In []) h_4 h_23 → Vars h_23 [(b_12, [(Sl.v nilSl)]), (b_2, [(Sl.v w1_1), (VI w1_2)]), (b_1, [(Sl.v g0_1)])] →
  (callM P 70 #[(Value.agg #[(Sl.v g0_1)])] h_23 fun rv_6 h_24 => ∃ t18_4 : Sl, rv_6 = (Sl.v t18_4) ∧ Vars h_24 [(b_12, [(Sl.v nilSl)]), (b_2, [(Sl.v w1_1), (VI w1_2)]), (b_1, [(Sl.v g0_1)])] ∧
  ∀ (b_13 : Nat) (h_27 : Heap), h_24.size ≤ b_13 → Fr (In [b_12]) h_24 h_27 → Vars h_27 [(b_13, [(Sl.v t16_1), (VI t16_2)]), (b_12, [(Sl.v t18_4)]), (b_2, [(Sl.v w1_1), (VI w1_2)]), (b_1, [(Sl.v g0_1)])] →
  J_1 b_13 t16_1 t16_2 b_12 t18_4 h_27) ∧
  (∀ (b_14 : Nat) (h_28 : Heap), h_23.size ≤ b_14 → Fr (In []) h_23 h_28 → Vars h_28 [(b_14, [(Sl.v nilSl), (VI 0)]), (b_12, [(Sl.v nilSl)]), (b_2, [(Sl.v w1_1), (VI w1_2)]), (b_1, [(Sl.v g0_1)])] →
  callM P 70 #[(Value.agg #[(Sl.v g0_1)])] h_28 fun rv_7 h_29 => ∃ t18_5 : Sl, rv_7 = (Sl.v t18_5) ∧ Vars h_29 [(b_14, [(Sl.v nilSl), (VI 0)]), (b_12, [(Sl.v nilSl)]), (b_2, [(Sl.v w1_1), (VI w1_2)]), (b_1, [(Sl.v g0_1)])] ∧
  ∀ (h_31 : Heap), Fr (In [b_12, b_14]) h_29 h_31 → Vars h_31 [(b_14, [(Sl.v t16_1), (VI t16_2)]), (b_12, [(Sl.v t18_5)]), (b_2, [(Sl.v w1_1), (VI w1_2)]), (b_1, [(Sl.v g0_1)])] →
  J_1 b_14 t16_1 t16_2 b_12 t18_5 h_31))) ∧
  (∀ (b_15 : Nat) (h_32 : Heap), h_3.size ≤ b_15 → Fr (In []) h_3 h_32 → Vars h_32 [(b_15, [(Sl.v nilSl), (VI 0)]), (b_2, [(Sl.v w1_1), (VI w1_2)]), (b_1, [(Sl.v g0_1)])] →
  (callM P 69 #[(Value.agg #[(Sl.v w1_1), (VI w1_2)])] h_32 fun rv_8 h_33 => ∃ t16_3 : Sl, ∃ t16_4 : Int, rv_8 = (Value.agg #[(Sl.v t16_3), (VI t16_4)]) ∧ Vars h_33 [(b_15, [(Sl.v nilSl), (VI 0)]), (b_2, [(Sl.v w1_1), (VI w1_2)]), (b_1, [(Sl.v g0_1)])] ∧
  (callM P 70 #[(Value.agg #[(Sl.v g0_1)])] h_33 fun rv_9 h_34 => ∃ t18_6 : Sl, rv_9 = (Sl.v t18_6) ∧ Vars h_34 [(b_15, [(Sl.v nilSl), (VI 0)]), (b_2, [(Sl.v w1_1), (VI w1_2)]), (b_1, [(Sl.v g0_1)])] ∧
  ∀ (b_16 : Nat) (h_37 : Heap), h_34.size ≤ b_16 → Fr (In [b_15]) h_34 h_37 → Vars h_37 [(b_16, [(Sl.v t18_6)]), (b_15, [(Sl.v t16_3), (VI t16_4)]), (b_2, [(Sl.v w1_1), (VI w1_2)]), (b_1, [(Sl.v g0_1)])] →
  J_1 b_15 t16_3 t16_4 b_16 t18_6 h_37) ∧
  (∀ (b_17 : Nat) (h_38 : Heap), h_33.size ≤ b_17 → Fr (In []) h_33 h_38 → Vars h_38 [(b_17, [(Sl.v nilSl)]), (b_15, [(Sl.v nilSl), (VI 0)]), (b_2, [(Sl.v w1_1), (VI w1_2)]), (b_1, [(Sl.v g0_1)])] →
  callM P 70 #[(Value.agg #[(Sl.v g0_1)])] h_38 fun rv_10 h_39 => ∃ t18_7 : Sl, rv_10 = (Sl.v t18_7) ∧ Vars h_39 [(b_17, [(Sl.v nilSl)]), (b_15, [(Sl.v nilSl), (VI 0)]), (b_2, [(Sl.v w1_1), (VI w1_2)]), (b_1, [(Sl.v g0_1)])] ∧
  ∀ (h_41 : Heap), Fr (In [b_17, b_15]) h_39 h_41 → Vars h_41 [(b_17, [(Sl.v t18_7)]), (b_15, [(Sl.v t16_3), (VI t16_4)]), (b_2, [(Sl.v w1_1), (VI w1_2)]), (b_1, [(Sl.v g0_1)])] →
  J_1 b_15 t16_3 t16_4 b_17 t18_7 h_41)) ∧
  (∀ (b_18 : Nat) (h_42 : Heap), h_32.size ≤ b_18 → Fr (In []) h_32 h_42 → Vars h_42 [(b_18, [(Sl.v nilSl)]), (b_15, [(Sl.v nilSl), (VI 0)]), (b_2, [(Sl.v w1_1), (VI w1_2)]), (b_1, [(Sl.v g0_1)])] →
  callM P 69 #[(Value.agg #[(Sl.v w1_1), (VI w1_2)])] h_42 fun rv_11 h_43 => ∃ t16_5 : Sl, ∃ t16_6 : Int, rv_11 = (Value.agg #[(Sl.v t16_5), (VI t16_6)]) ∧ Vars h_43 [(b_18, [(Sl.v nilSl)]), (b_15, [(Sl.v nilSl), (VI 0)]), (b_2, [(Sl.v w1_1), (VI w1_2)]), (b_1, [(Sl.v g0_1)])] ∧
  callM P 70 #[(Value.agg #[(Sl.v g0_1)])] h_43 fun rv_12 h_44 => ∃ t18_8 : Sl, rv_12 = (Sl.v t18_8) ∧ Vars h_44 [(b_18, [(Sl.v nilSl)]), (b_15, [(Sl.v nilSl), (VI 0)]), (b_2, [(Sl.v w1_1), (VI w1_2)]), (b_1, [(Sl.v g0_1)])] ∧
  ∀ (h_46 : Heap), Fr (In [b_18, b_15]) h_44 h_46 → Vars h_46 [(b_18, [(Sl.v t18_8)]), (b_15, [(Sl.v t16_5), (VI t16_6)]), (b_2, [(Sl.v w1_1), (VI w1_2)]), (b_1, [(Sl.v g0_1)])] →
  J_1 b_15 t16_5 t16_6 b_18 t18_8 h_46)) ∧
  (∀ (b_19 : Nat) (h_47 : Heap), h_3.size ≤ b_19 → Fr (In []) h_3 h_47 → Vars h_47 [(b_19, [(Sl.v nilSl)]), (b_2, [(Sl.v w1_1), (VI w1_2)]), (b_1, [(Sl.v g0_1)])] →
  (callM P 69 #[(Value.agg #[(Sl.v w1_1), (VI w1_2)])] h_47 fun rv_13 h_48 => ∃ t16_7 : Sl, ∃ t16_8 : Int, rv_13 = (Value.agg #[(Sl.v t16_7), (VI t16_8)]) ∧ Vars h_48 [(b_19, [(Sl.v nilSl)]), (b_2, [(Sl.v w1_1), (VI w1_2)]), (b_1, [(Sl.v g0_1)])] ∧
  (callM P 70 #[(Value.agg #[(Sl.v g0_1)])] h_48 fun rv_14 h_49 => ∃ t18_9 : Sl, rv_14 = (Sl.v t18_9) ∧ Vars h_49 [(b_19, [(Sl.v nilSl)]), (b_2, [(Sl.v w1_1), (VI w1_2)]), (b_1, [(Sl.v g0_1)])] ∧
  ∀ (b_20 : Nat) (h_52 : Heap), h_49.size ≤ b_20 → Fr (In [b_19]) h_49 h_52 → Vars h_52 [(b_20, [(Sl.v t16_7), (VI t16_8)]), (b_19, [(Sl.v t18_9)]), (b_2, [(Sl.v w1_1), (VI w1_2)]), (b_1, [(Sl.v g0_1)])] →
  J_1 b_20 t16_7 t16_8 b_19 t18_9 h_52) ∧
  (∀ (b_21 : Nat) (h_53 : Heap), h_48.size ≤ b_21 → Fr (In []) h_48 h_53 → Vars h_53 [(b_21, [(Sl.v nilSl), (VI 0)]), (b_19, [(Sl.v nilSl)]), (b_2, [(Sl.v w1_1), (VI w1_2)]), (b_1, [(Sl.v g0_1)])] →
  callM P 70 #[(Value.agg #[(Sl.v g0_1)])] h_53 fun rv_15 h_54 => ∃ t18_10 : Sl, rv_15 = (Sl.v t18_10) ∧ Vars h_54 [(b_21, [(Sl.v nilSl), (VI 0)]), (b_19, [(Sl.v nilSl)]), (b_2, [(Sl.v w1_1), (VI w1_2)]), (b_1, [(Sl.v g0_1)])] ∧
  ∀ (h_56 : Heap), Fr (In [b_19, b_21]) h_54 h_56 → Vars h_56 [(b_21, [(Sl.v t16_7), (VI t16_8)]), (b_19, [(Sl.v t18_10)]), (b_2, [(Sl.v w1_1), (VI w1_2)]), (b_1, [(Sl.v g0_1)])] →
  J_1 b_21 t16_7 t16_8 b_19 t18_10 h_56)) ∧
  (∀ (b_22 : Nat) (h_57 : Heap), h_47.size ≤ b_22 → Fr (In []) h_47 h_57 → Vars h_57 [(b_22, [(Sl.v nilSl), (VI 0)]), (b_19, [(Sl.v nilSl)]), (b_2, [(Sl.v w1_1), (VI w1_2)]), (b_1, [(Sl.v g0_1)])] →
  callM P 69 #[(Value.agg #[(Sl.v w1_1), (VI w1_2)])] h_57 fun rv_16 h_58 => ∃ t16_9 : Sl, ∃ t16_10 : Int, rv_16 = (Value.agg #[(Sl.v t16_9), (VI t16_10)]) ∧ Vars h_58 [(b_22, [(Sl.v nilSl), (VI 0)]), (b_19, [(Sl.v nilSl)]), (b_2, [(Sl.v w1_1), (VI w1_2)]), (b_1, [(Sl.v g0_1)])] ∧
  callM P 70 #[(Value.agg #[(Sl.v g0_1)])] h_58 fun rv_17 h_59 => ∃ t18_11 : Sl, rv_17 = (Sl.v t18_11) ∧ Vars h_59 [(b_22, [(Sl.v nilSl), (VI 0)]), (b_19, [(Sl.v nilSl)]), (b_2, [(Sl.v w1_1), (VI w1_2)]), (b_1, [(Sl.v g0_1)])] ∧
  ∀ (h_61 : Heap), Fr (In [b_19, b_22]) h_59 h_61 → Vars h_61 [(b_22, [(Sl.v t16_9), (VI t16_10)]), (b_19, [(Sl.v t18_11)]), (b_2, [(Sl.v w1_1), (VI w1_2)]), (b_1, [(Sl.v g0_1)])] →
  J_1 b_22 t16_9 t16_10 b_19 t18_11 h_61))) ∧
  ∀ (b_3 : Nat) (x_1 : Sl) (x_2 : Int) (b_4 : Nat) (x_3 : Sl) (h_62 : Heap), J_1 b_3 x_1 x_2 b_4 x_3 h_62 → Vars h_62 [(b_4, [(Sl.v x_3)]), (b_3, [(Sl.v x_1), (VI x_2)]), (b_2, [(Sl.v w1_1), (VI w1_2)]), (b_1, [(Sl.v g0_1)])] →
  callM P 71 #[(Value.agg #[(Sl.v g0_1)]), (VP b_3 0), (VI n2_1), (Value.func (Fn.func 72) #[] #[(VP b_4 0), (VP b_3 0)])] h_62 fun rv_18 h_63 => ∃ x_4 : Sl, ∃ x_5 : Sl, ∃ x_6 : Int, ∃ t22_1 : Bool, rv_18 = (VB t22_1) ∧ Vars h_63 [(b_4, [(Sl.v x_4)]), (b_3, [(Sl.v x_5), (VI x_6)]), (b_2, [(Sl.v w1_1), (VI w1_2)]), (b_1, [(Sl.v g0_1)])] ∧
  ((!t22_1) = true →
  K (Value.tuple #[(Sl.v nilSl), (VB false)]) h_63) ∧
  ((!t22_1) = false →
  K (Value.tuple #[(Sl.v x_4), (VB true)]) h_63))
theorem v22 (g0_1 : Sl) (w1_1 : Sl) (w1_2 : Int) (n2_1 : Int) (h : Heap) (K : Value → Heap → Prop) (H : u22 Tryd.prog g0_1 w1_1 w1_2 n2_1 h K) : callM Tryd.prog 22 #[(Value.agg #[(Sl.v g0_1)]), (Value.agg #[(Sl.v w1_1), (VI w1_2)]), (VI n2_1)] h K := by
  refine c22 (Value.agg #[(Sl.v g0_1)]) (Value.agg #[(Sl.v w1_1), (VI w1_2)]) (VI n2_1) h K ?_
  unfold u22 at H
  unfold t22
  have hL : Vars h [] := .nil
  refine eop_box 41 (Value.agg #[(Sl.v g0_1)]) rfl hL (fun b_1 h_1 hb_1 hf_1 hL_1 => ?_)
  refine eop_box 43 (Value.agg #[(Sl.v w1_1), (VI w1_2)]) rfl hL_1 (fun b_2 h_2 hb_2 hf_2 hL_2 => ?_)
  refine rop_locA agg41 hL_2 1 rfl 0 (vs := [(Sl.v g0_1)]) rfl rfl ?_
  refine rop_locA agg43 hL_2 0 rfl 0 (vs := [(Sl.v w1_1), (VI w1_2)]) rfl rfl ?_
  have H := H b_1 b_2 h_2 (Nat.le_trans (Fr.size (Fr.r (In []) _)) hb_1) (Nat.le_trans (Fr.size (Fr.no' (Fr.r (In []) _) hf_1)) hb_2) (Fr.no' (Fr.no' (Fr.r (In []) _) hf_1) hf_2) hL_2
  refine H.mono fun rv_1 h_3 H => ?_
  obtain ⟨t13_1, rfl, hL_3, H⟩ := H
  refine pop_not t13_1 ?_
  refine condM_b (fun hb_3 => ?_) (fun hb_3 => ?_)
  ·have H := H.1 hb_3
   exact H
  have H := H.2 hb_3
  obtain ⟨J_1, H, HB_1⟩ := H
  refine ⟨fun (vs : List Value) (h' : Heap) => ∃ b_3 : Nat, ∃ x_1 : Sl, ∃ x_2 : Int, ∃ b_4 : Nat, ∃ x_3 : Sl, vs = [(VP b_3 0), (VP b_4 0)] ∧ J_1 b_3 x_1 x_2 b_4 x_3 h' ∧ Vars h' [(b_4, [(Sl.v x_3)]), (b_3, [(Sl.v x_1), (VI x_2)]), (b_2, [(Sl.v w1_1), (VI w1_2)]), (b_1, [(Sl.v g0_1)])], ?_, ?_⟩
  ·refine rop_locA agg43 hL_3 0 rfl 0 (vs := [(Sl.v w1_1), (VI w1_2)]) rfl rfl ?_
   refine rop_locA agg41 hL_3 1 rfl 0 (vs := [(Sl.v g0_1)]) rfl rfl ?_
   refine ⟨?_, ?_, ?_⟩
   ·have H := H.1
    refine H.mono fun rv_2 h_4 H => ?_
    obtain ⟨t16_1, t16_2, rfl, hL_4, H⟩ := H
    refine ⟨?_, ?_⟩
    ·exact still_locA agg41 hL_4 1 rfl 0 (vs := [(Sl.v g0_1)]) rfl rfl
    refine ⟨?_, ?_, ?_⟩
    ·have H := H.1
     refine H.mono fun rv_3 h_5 H => ?_
     obtain ⟨t18_1, rfl, hL_5, H⟩ := H
     refine ⟨?_, ?_⟩
     ·have H := H.1
      refine eop_alloc 43 zer43 rfl hL_5 (fun b_5 h_6 hb_4 hf_3 hL_6 => ?_)
      refine eop_alloc 22 zer22 rfl hL_6 (fun b_6 h_7 hb_5 hf_4 hL_7 => ?_)
      refine uop_loc siz43 hL_7 1 rfl 0 [(Sl.v t16_1), (VI t16_2)] rfl rfl rfl (Nat.le_of_ble_eq_true rfl) (L' := [(b_6, [(Sl.v nilSl)]), (b_5, [(Sl.v t16_1), (VI t16_2)]), (b_2, [(Sl.v w1_1), (VI w1_2)]), (b_1, [(Sl.v g0_1)])]) rfl (fun h_8 hf_5 hL_8 => ?_)
      refine uop_loc siz22 hL_8 0 rfl 0 [(Sl.v t18_1)] rfl rfl rfl (Nat.le_of_ble_eq_true rfl) (L' := [(b_6, [(Sl.v t18_1)]), (b_5, [(Sl.v t16_1), (VI t16_2)]), (b_2, [(Sl.v w1_1), (VI w1_2)]), (b_1, [(Sl.v g0_1)])]) rfl (fun h_9 hf_6 hL_9 => ?_)
      have H := H b_5 b_6 h_9 (Nat.le_trans (Fr.size (Fr.r (In []) _)) hb_4) (Nat.le_trans (Fr.size (Fr.no' (Fr.r (In []) _) hf_3)) hb_5) (Fr.new (Fr.new (Fr.no' (Fr.no' (Fr.r (In []) _) hf_3) hf_4) (Nat.le_trans (Fr.size (Fr.r (In []) _)) hb_4) hf_5) (Nat.le_trans (Fr.size (Fr.no' (Fr.r (In []) _) hf_3)) hb_5) hf_6) hL_9
      exact ⟨b_5, t16_1, t16_2, b_6, t18_1, rfl, H, hL_9⟩
     have H := H.2
     refine eop_alloc 22 zer22 rfl hL_5 (fun b_7 h_10 hb_6 hf_7 hL_10 => ?_)
     refine eop_alloc 43 zer43 rfl hL_10 (fun b_8 h_11 hb_7 hf_8 hL_11 => ?_)
     refine uop_loc siz43 hL_11 0 rfl 0 [(Sl.v t16_1), (VI t16_2)] rfl rfl rfl (Nat.le_of_ble_eq_true rfl) (L' := [(b_8, [(Sl.v t16_1), (VI t16_2)]), (b_7, [(Sl.v nilSl)]), (b_2, [(Sl.v w1_1), (VI w1_2)]), (b_1, [(Sl.v g0_1)])]) rfl (fun h_12 hf_9 hL_12 => ?_)
     refine uop_loc siz22 hL_12 1 rfl 0 [(Sl.v t18_1)] rfl rfl rfl (Nat.le_of_ble_eq_true rfl) (L' := [(b_8, [(Sl.v t16_1), (VI t16_2)]), (b_7, [(Sl.v t18_1)]), (b_2, [(Sl.v w1_1), (VI w1_2)]), (b_1, [(Sl.v g0_1)])]) rfl (fun h_13 hf_10 hL_13 => ?_)
     have H := H b_7 b_8 h_13 (Nat.le_trans (Fr.size (Fr.r (In []) _)) hb_6) (Nat.le_trans (Fr.size (Fr.no' (Fr.r (In []) _) hf_7)) hb_7) (Fr.new (Fr.new (Fr.no' (Fr.no' (Fr.r (In []) _) hf_7) hf_8) (Nat.le_trans (Fr.size (Fr.no' (Fr.r (In []) _) hf_7)) hb_7) hf_9) (Nat.le_trans (Fr.size (Fr.r (In []) _)) hb_6) hf_10) hL_13
     exact ⟨b_8, t16_1, t16_2, b_7, t18_1, rfl, H, Vars.pick hL_13 [1, 0, 2, 3] rfl⟩
    ·have H := H.2.1
     refine eop_alloc 43 zer43 rfl hL_4 (fun b_9 h_14 hb_8 hf_11 hL_14 => ?_)
     have H := H b_9 h_14 (Nat.le_trans (Fr.size (Fr.r (In []) _)) hb_8) (Fr.no' (Fr.r (In []) _) hf_11) hL_14
     refine ⟨?_, ?_⟩
     ·exact still_locA agg41 hL_14 2 rfl 0 (vs := [(Sl.v g0_1)]) rfl rfl
     refine ⟨?_, ?_⟩
     ·have H := H.1
      refine H.mono fun rv_4 h_15 H => ?_
      obtain ⟨t18_2, rfl, hL_15, H⟩ := H
      refine eop_alloc 22 zer22 rfl hL_15 (fun b_10 h_16 hb_9 hf_12 hL_16 => ?_)
      refine uop_loc siz43 hL_16 1 rfl 0 [(Sl.v t16_1), (VI t16_2)] rfl rfl rfl (Nat.le_of_ble_eq_true rfl) (L' := [(b_10, [(Sl.v nilSl)]), (b_9, [(Sl.v t16_1), (VI t16_2)]), (b_2, [(Sl.v w1_1), (VI w1_2)]), (b_1, [(Sl.v g0_1)])]) rfl (fun h_17 hf_13 hL_17 => ?_)
      refine uop_loc siz22 hL_17 0 rfl 0 [(Sl.v t18_2)] rfl rfl rfl (Nat.le_of_ble_eq_true rfl) (L' := [(b_10, [(Sl.v t18_2)]), (b_9, [(Sl.v t16_1), (VI t16_2)]), (b_2, [(Sl.v w1_1), (VI w1_2)]), (b_1, [(Sl.v g0_1)])]) rfl (fun h_18 hf_14 hL_18 => ?_)
      have H := H b_10 h_18 (Nat.le_trans (Fr.size (Fr.r (In []) _)) hb_9) (Fr.new (Fr.old (Fr.no' (Fr.r (In []) _) hf_12) hf_13) (Nat.le_trans (Fr.size (Fr.r (In []) _)) hb_9) hf_14) hL_18
      exact ⟨b_9, t16_1, t16_2, b_10, t18_2, rfl, H, hL_18⟩
     have H := H.2
     refine eop_alloc 22 zer22 rfl hL_14 (fun b_11 h_19 hb_10 hf_15 hL_19 => ?_)
     have H := H b_11 h_19 (Nat.le_trans (Fr.size (Fr.r (In []) _)) hb_10) (Fr.no' (Fr.r (In []) _) hf_15) hL_19
     refine ⟨?_, ?_⟩
     ·exact still_locA agg41 hL_19 3 rfl 0 (vs := [(Sl.v g0_1)]) rfl rfl
     refine H.mono fun rv_5 h_20 H => ?_
     obtain ⟨t18_3, rfl, hL_20, H⟩ := H
     refine uop_loc siz43 hL_20 1 rfl 0 [(Sl.v t16_1), (VI t16_2)] rfl rfl rfl (Nat.le_of_ble_eq_true rfl) (L' := [(b_11, [(Sl.v nilSl)]), (b_9, [(Sl.v t16_1), (VI t16_2)]), (b_2, [(Sl.v w1_1), (VI w1_2)]), (b_1, [(Sl.v g0_1)])]) rfl (fun h_21 hf_16 hL_21 => ?_)
     refine uop_loc siz22 hL_21 0 rfl 0 [(Sl.v t18_3)] rfl rfl rfl (Nat.le_of_ble_eq_true rfl) (L' := [(b_11, [(Sl.v t18_3)]), (b_9, [(Sl.v t16_1), (VI t16_2)]), (b_2, [(Sl.v w1_1), (VI w1_2)]), (b_1, [(Sl.v g0_1)])]) rfl (fun h_22 hf_17 hL_22 => ?_)
     have H := H  h_22  (Fr.old (Fr.old (Fr.r (In []) _) hf_16) hf_17) hL_22
     exact ⟨b_9, t16_1, t16_2, b_11, t18_3, rfl, H, hL_22⟩
    have H := H.2.2
    refine eop_alloc 22 zer22 rfl hL_4 (fun b_12 h_23 hb_11 hf_18 hL_23 => ?_)
    have H := H b_12 h_23 (Nat.le_trans (Fr.size (Fr.r (In []) _)) hb_11) (Fr.no' (Fr.r (In []) _) hf_18) hL_23
    refine ⟨?_, ?_⟩
    ·exact still_locA agg41 hL_23 2 rfl 0 (vs := [(Sl.v g0_1)]) rfl rfl
    refine ⟨?_, ?_⟩
    ·have H := H.1
     refine H.mono fun rv_6 h_24 H => ?_
     obtain ⟨t18_4, rfl, hL_24, H⟩ := H
     refine eop_alloc 43 zer43 rfl hL_24 (fun b_13 h_25 hb_12 hf_19 hL_25 => ?_)
     refine uop_loc siz43 hL_25 0 rfl 0 [(Sl.v t16_1), (VI t16_2)] rfl rfl rfl (Nat.le_of_ble_eq_true rfl) (L' := [(b_13, [(Sl.v t16_1), (VI t16_2)]), (b_12, [(Sl.v nilSl)]), (b_2, [(Sl.v w1_1), (VI w1_2)]), (b_1, [(Sl.v g0_1)])]) rfl (fun h_26 hf_20 hL_26 => ?_)
     refine uop_loc siz22 hL_26 1 rfl 0 [(Sl.v t18_4)] rfl rfl rfl (Nat.le_of_ble_eq_true rfl) (L' := [(b_13, [(Sl.v t16_1), (VI t16_2)]), (b_12, [(Sl.v t18_4)]), (b_2, [(Sl.v w1_1), (VI w1_2)]), (b_1, [(Sl.v g0_1)])]) rfl (fun h_27 hf_21 hL_27 => ?_)
     have H := H b_13 h_27 (Nat.le_trans (Fr.size (Fr.r (In []) _)) hb_12) (Fr.old (Fr.new (Fr.no' (Fr.r (In []) _) hf_19) (Nat.le_trans (Fr.size (Fr.r (In []) _)) hb_12) hf_20) hf_21) hL_27
     exact ⟨b_13, t16_1, t16_2, b_12, t18_4, rfl, H, Vars.pick hL_27 [1, 0, 2, 3] rfl⟩
    have H := H.2
    refine eop_alloc 43 zer43 rfl hL_23 (fun b_14 h_28 hb_13 hf_22 hL_28 => ?_)
    have H := H b_14 h_28 (Nat.le_trans (Fr.size (Fr.r (In []) _)) hb_13) (Fr.no' (Fr.r (In []) _) hf_22) hL_28
    refine ⟨?_, ?_⟩
    ·exact still_locA agg41 hL_28 3 rfl 0 (vs := [(Sl.v g0_1)]) rfl rfl
    refine H.mono fun rv_7 h_29 H => ?_
    obtain ⟨t18_5, rfl, hL_29, H⟩ := H
    refine uop_loc siz43 hL_29 0 rfl 0 [(Sl.v t16_1), (VI t16_2)] rfl rfl rfl (Nat.le_of_ble_eq_true rfl) (L' := [(b_14, [(Sl.v t16_1), (VI t16_2)]), (b_12, [(Sl.v nilSl)]), (b_2, [(Sl.v w1_1), (VI w1_2)]), (b_1, [(Sl.v g0_1)])]) rfl (fun h_30 hf_23 hL_30 => ?_)
    refine uop_loc siz22 hL_30 1 rfl 0 [(Sl.v t18_5)] rfl rfl rfl (Nat.le_of_ble_eq_true rfl) (L' := [(b_14, [(Sl.v t16_1), (VI t16_2)]), (b_12, [(Sl.v t18_5)]), (b_2, [(Sl.v w1_1), (VI w1_2)]), (b_1, [(Sl.v g0_1)])]) rfl (fun h_31 hf_24 hL_31 => ?_)
    have H := H  h_31  (Fr.old (Fr.old (Fr.r (In []) _) hf_23) hf_24) hL_31
    exact ⟨b_14, t16_1, t16_2, b_12, t18_5, rfl, H, Vars.pick hL_31 [1, 0, 2, 3] rfl⟩
   ·have H := H.2.1
    refine eop_alloc 43 zer43 rfl hL_3 (fun b_15 h_32 hb_14 hf_25 hL_32 => ?_)
    have H := H b_15 h_32 (Nat.le_trans (Fr.size (Fr.r (In []) _)) hb_14) (Fr.no' (Fr.r (In []) _) hf_25) hL_32
    refine ⟨?_, ?_⟩
    ·exact still_locA agg41 hL_32 2 rfl 0 (vs := [(Sl.v g0_1)]) rfl rfl
    refine ⟨?_, ?_⟩
    ·exact still_locA agg43 hL_32 1 rfl 0 (vs := [(Sl.v w1_1), (VI w1_2)]) rfl rfl
    refine ⟨?_, ?_⟩
    rotate_left
    ·have H := H.2
     refine eop_alloc 22 zer22 rfl hL_32 (fun b_18 h_42 hb_17 hf_32 hL_42 => ?_)
     have H := H b_18 h_42 (Nat.le_trans (Fr.size (Fr.r (In []) _)) hb_17) (Fr.no' (Fr.r (In []) _) hf_32) hL_42
     refine ⟨?_, ?_⟩
     ·exact still_locA agg41 hL_42 3 rfl 0 (vs := [(Sl.v g0_1)]) rfl rfl
     refine ⟨?_, ?_⟩
     ·exact still_locA agg43 hL_42 2 rfl 0 (vs := [(Sl.v w1_1), (VI w1_2)]) rfl rfl
     refine H.mono fun rv_11 h_43 H => ?_
     obtain ⟨t16_5, t16_6, rfl, hL_43, H⟩ := H
     refine ⟨?_, ?_⟩
     ·exact still_locA agg41 hL_43 3 rfl 0 (vs := [(Sl.v g0_1)]) rfl rfl
     refine H.mono fun rv_12 h_44 H => ?_
     obtain ⟨t18_8, rfl, hL_44, H⟩ := H
     refine uop_loc siz43 hL_44 1 rfl 0 [(Sl.v t16_5), (VI t16_6)] rfl rfl rfl (Nat.le_of_ble_eq_true rfl) (L' := [(b_18, [(Sl.v nilSl)]), (b_15, [(Sl.v t16_5), (VI t16_6)]), (b_2, [(Sl.v w1_1), (VI w1_2)]), (b_1, [(Sl.v g0_1)])]) rfl (fun h_45 hf_33 hL_45 => ?_)
     refine uop_loc siz22 hL_45 0 rfl 0 [(Sl.v t18_8)] rfl rfl rfl (Nat.le_of_ble_eq_true rfl) (L' := [(b_18, [(Sl.v t18_8)]), (b_15, [(Sl.v t16_5), (VI t16_6)]), (b_2, [(Sl.v w1_1), (VI w1_2)]), (b_1, [(Sl.v g0_1)])]) rfl (fun h_46 hf_34 hL_46 => ?_)
     have H := H  h_46  (Fr.old (Fr.old (Fr.r (In []) _) hf_33) hf_34) hL_46
     exact ⟨b_15, t16_5, t16_6, b_18, t18_8, rfl, H, hL_46⟩
    have H := H.1
    refine H.mono fun rv_8 h_33 H => ?_
    obtain ⟨t16_3, t16_4, rfl, hL_33, H⟩ := H
    refine ⟨?_, ?_⟩
    ·exact still_locA agg41 hL_33 2 rfl 0 (vs := [(Sl.v g0_1)]) rfl rfl
    refine ⟨?_, ?_⟩
    ·have H := H.1
     refine H.mono fun rv_9 h_34 H => ?_
     obtain ⟨t18_6, rfl, hL_34, H⟩ := H
     refine eop_alloc 22 zer22 rfl hL_34 (fun b_16 h_35 hb_15 hf_26 hL_35 => ?_)
     refine uop_loc siz43 hL_35 1 rfl 0 [(Sl.v t16_3), (VI t16_4)] rfl rfl rfl (Nat.le_of_ble_eq_true rfl) (L' := [(b_16, [(Sl.v nilSl)]), (b_15, [(Sl.v t16_3), (VI t16_4)]), (b_2, [(Sl.v w1_1), (VI w1_2)]), (b_1, [(Sl.v g0_1)])]) rfl (fun h_36 hf_27 hL_36 => ?_)
     refine uop_loc siz22 hL_36 0 rfl 0 [(Sl.v t18_6)] rfl rfl rfl (Nat.le_of_ble_eq_true rfl) (L' := [(b_16, [(Sl.v t18_6)]), (b_15, [(Sl.v t16_3), (VI t16_4)]), (b_2, [(Sl.v w1_1), (VI w1_2)]), (b_1, [(Sl.v g0_1)])]) rfl (fun h_37 hf_28 hL_37 => ?_)
     have H := H b_16 h_37 (Nat.le_trans (Fr.size (Fr.r (In []) _)) hb_15) (Fr.new (Fr.old (Fr.no' (Fr.r (In []) _) hf_26) hf_27) (Nat.le_trans (Fr.size (Fr.r (In []) _)) hb_15) hf_28) hL_37
     exact ⟨b_15, t16_3, t16_4, b_16, t18_6, rfl, H, hL_37⟩
    have H := H.2
    refine eop_alloc 22 zer22 rfl hL_33 (fun b_17 h_38 hb_16 hf_29 hL_38 => ?_)
    have H := H b_17 h_38 (Nat.le_trans (Fr.size (Fr.r (In []) _)) hb_16) (Fr.no' (Fr.r (In []) _) hf_29) hL_38
    refine ⟨?_, ?_⟩
    ·exact still_locA agg41 hL_38 3 rfl 0 (vs := [(Sl.v g0_1)]) rfl rfl
    refine H.mono fun rv_10 h_39 H => ?_
    obtain ⟨t18_7, rfl, hL_39, H⟩ := H
    refine uop_loc siz43 hL_39 1 rfl 0 [(Sl.v t16_3), (VI t16_4)] rfl rfl rfl (Nat.le_of_ble_eq_true rfl) (L' := [(b_17, [(Sl.v nilSl)]), (b_15, [(Sl.v t16_3), (VI t16_4)]), (b_2, [(Sl.v w1_1), (VI w1_2)]), (b_1, [(Sl.v g0_1)])]) rfl (fun h_40 hf_30 hL_40 => ?_)
    refine uop_loc siz22 hL_40 0 rfl 0 [(Sl.v t18_7)] rfl rfl rfl (Nat.le_of_ble_eq_true rfl) (L' := [(b_17, [(Sl.v t18_7)]), (b_15, [(Sl.v t16_3), (VI t16_4)]), (b_2, [(Sl.v w1_1), (VI w1_2)]), (b_1, [(Sl.v g0_1)])]) rfl (fun h_41 hf_31 hL_41 => ?_)
    have H := H  h_41  (Fr.old (Fr.old (Fr.r (In []) _) hf_30) hf_31) hL_41
    exact ⟨b_15, t16_3, t16_4, b_17, t18_7, rfl, H, hL_41⟩
   have H := H.2.2
   refine eop_alloc 22 zer22 rfl hL_3 (fun b_19 h_47 hb_18 hf_35 hL_47 => ?_)
   have H := H b_19 h_47 (Nat.le_trans (Fr.size (Fr.r (In []) _)) hb_18) (Fr.no' (Fr.r (In []) _) hf_35) hL_47
   refine ⟨?_, ?_⟩
   ·exact still_locA agg41 hL_47 2 rfl 0 (vs := [(Sl.v g0_1)]) rfl rfl
   refine ⟨?_, ?_⟩
   ·exact still_locA agg43 hL_47 1 rfl 0 (vs := [(Sl.v w1_1), (VI w1_2)]) rfl rfl
   refine ⟨?_, ?_⟩
   rotate_left
   ·have H := H.2
    refine eop_alloc 43 zer43 rfl hL_47 (fun b_22 h_57 hb_21 hf_42 hL_57 => ?_)
    have H := H b_22 h_57 (Nat.le_trans (Fr.size (Fr.r (In []) _)) hb_21) (Fr.no' (Fr.r (In []) _) hf_42) hL_57
    refine ⟨?_, ?_⟩
    ·exact still_locA agg41 hL_57 3 rfl 0 (vs := [(Sl.v g0_1)]) rfl rfl
    refine ⟨?_, ?_⟩
    ·exact still_locA agg43 hL_57 2 rfl 0 (vs := [(Sl.v w1_1), (VI w1_2)]) rfl rfl
    refine H.mono fun rv_16 h_58 H => ?_
    obtain ⟨t16_9, t16_10, rfl, hL_58, H⟩ := H
    refine ⟨?_, ?_⟩
    ·exact still_locA agg41 hL_58 3 rfl 0 (vs := [(Sl.v g0_1)]) rfl rfl
    refine H.mono fun rv_17 h_59 H => ?_
    obtain ⟨t18_11, rfl, hL_59, H⟩ := H
    refine uop_loc siz43 hL_59 0 rfl 0 [(Sl.v t16_9), (VI t16_10)] rfl rfl rfl (Nat.le_of_ble_eq_true rfl) (L' := [(b_22, [(Sl.v t16_9), (VI t16_10)]), (b_19, [(Sl.v nilSl)]), (b_2, [(Sl.v w1_1), (VI w1_2)]), (b_1, [(Sl.v g0_1)])]) rfl (fun h_60 hf_43 hL_60 => ?_)
    refine uop_loc siz22 hL_60 1 rfl 0 [(Sl.v t18_11)] rfl rfl rfl (Nat.le_of_ble_eq_true rfl) (L' := [(b_22, [(Sl.v t16_9), (VI t16_10)]), (b_19, [(Sl.v t18_11)]), (b_2, [(Sl.v w1_1), (VI w1_2)]), (b_1, [(Sl.v g0_1)])]) rfl (fun h_61 hf_44 hL_61 => ?_)
    have H := H  h_61  (Fr.old (Fr.old (Fr.r (In []) _) hf_43) hf_44) hL_61
    exact ⟨b_22, t16_9, t16_10, b_19, t18_11, rfl, H, Vars.pick hL_61 [1, 0, 2, 3] rfl⟩
   have H := H.1
   refine H.mono fun rv_13 h_48 H => ?_
   obtain ⟨t16_7, t16_8, rfl, hL_48, H⟩ := H
   refine ⟨?_, ?_⟩
   ·exact still_locA agg41 hL_48 2 rfl 0 (vs := [(Sl.v g0_1)]) rfl rfl
   refine ⟨?_, ?_⟩
   ·have H := H.1
    refine H.mono fun rv_14 h_49 H => ?_
    obtain ⟨t18_9, rfl, hL_49, H⟩ := H
    refine eop_alloc 43 zer43 rfl hL_49 (fun b_20 h_50 hb_19 hf_36 hL_50 => ?_)
    refine uop_loc siz43 hL_50 0 rfl 0 [(Sl.v t16_7), (VI t16_8)] rfl rfl rfl (Nat.le_of_ble_eq_true rfl) (L' := [(b_20, [(Sl.v t16_7), (VI t16_8)]), (b_19, [(Sl.v nilSl)]), (b_2, [(Sl.v w1_1), (VI w1_2)]), (b_1, [(Sl.v g0_1)])]) rfl (fun h_51 hf_37 hL_51 => ?_)
    refine uop_loc siz22 hL_51 1 rfl 0 [(Sl.v t18_9)] rfl rfl rfl (Nat.le_of_ble_eq_true rfl) (L' := [(b_20, [(Sl.v t16_7), (VI t16_8)]), (b_19, [(Sl.v t18_9)]), (b_2, [(Sl.v w1_1), (VI w1_2)]), (b_1, [(Sl.v g0_1)])]) rfl (fun h_52 hf_38 hL_52 => ?_)
    have H := H b_20 h_52 (Nat.le_trans (Fr.size (Fr.r (In []) _)) hb_19) (Fr.old (Fr.new (Fr.no' (Fr.r (In []) _) hf_36) (Nat.le_trans (Fr.size (Fr.r (In []) _)) hb_19) hf_37) hf_38) hL_52
    exact ⟨b_20, t16_7, t16_8, b_19, t18_9, rfl, H, Vars.pick hL_52 [1, 0, 2, 3] rfl⟩
   have H := H.2
   refine eop_alloc 43 zer43 rfl hL_48 (fun b_21 h_53 hb_20 hf_39 hL_53 => ?_)
   have H := H b_21 h_53 (Nat.le_trans (Fr.size (Fr.r (In []) _)) hb_20) (Fr.no' (Fr.r (In []) _) hf_39) hL_53
   refine ⟨?_, ?_⟩
   ·exact still_locA agg41 hL_53 3 rfl 0 (vs := [(Sl.v g0_1)]) rfl rfl
   refine H.mono fun rv_15 h_54 H => ?_
   obtain ⟨t18_10, rfl, hL_54, H⟩ := H
   refine uop_loc siz43 hL_54 0 rfl 0 [(Sl.v t16_7), (VI t16_8)] rfl rfl rfl (Nat.le_of_ble_eq_true rfl) (L' := [(b_21, [(Sl.v t16_7), (VI t16_8)]), (b_19, [(Sl.v nilSl)]), (b_2, [(Sl.v w1_1), (VI w1_2)]), (b_1, [(Sl.v g0_1)])]) rfl (fun h_55 hf_40 hL_55 => ?_)
   refine uop_loc siz22 hL_55 1 rfl 0 [(Sl.v t18_10)] rfl rfl rfl (Nat.le_of_ble_eq_true rfl) (L' := [(b_21, [(Sl.v t16_7), (VI t16_8)]), (b_19, [(Sl.v t18_10)]), (b_2, [(Sl.v w1_1), (VI w1_2)]), (b_1, [(Sl.v g0_1)])]) rfl (fun h_56 hf_41 hL_56 => ?_)
   have H := H  h_56  (Fr.old (Fr.old (Fr.r (In []) _) hf_40) hf_41) hL_56
   exact ⟨b_21, t16_7, t16_8, b_19, t18_10, rfl, H, Vars.pick hL_56 [1, 0, 2, 3] rfl⟩
  intro junk_1 tv_1 tv_2 h_62
  rintro ⟨b_3, x_1, x_2, b_4, x_3, hv, hJ_1, hL_62⟩
  cases hv
  have H := HB_1 b_3 x_1 x_2 b_4 x_3 h_62 hJ_1 hL_62
  refine rop_locA agg41 hL_62 3 rfl 0 (vs := [(Sl.v g0_1)]) rfl rfl ?_
  refine pop_func _ _ _ ?_
  refine H.mono fun rv_18 h_63 H => ?_
  obtain ⟨x_4, x_5, x_6, t22_1, rfl, hL_63, H⟩ := H
  refine pop_not t22_1 ?_
  refine condM_b (fun hb_22 => ?_) (fun hb_22 => ?_)
  ·have H := H.1 hb_22
   exact H
  have H := H.2 hb_22
  refine rop_loc one22 hL_63 0 rfl 0 (v := (Sl.v x_4)) rfl ?_
  exact H
def u23 (P : Program) (g0_1 : Sl) (w1_1 : Sl) (w1_2 : Int) (n2_1 : Int) (h : Heap) (K : Value → Heap → Prop) : Prop :=
  ∀ (b_1 : Nat) (b_2 : Nat) (h_2 : Heap), h.size ≤ b_1 → h.size ≤ b_2 → Fr (In []) h h_2 → Vars h_2 [(b_2, [(Sl.v w1_1), (VI w1_2)]), (b_1, [(Sl.v g0_1)])] →
  callM P 73 #[(Value.agg #[(Sl.v g0_1)]), (Value.agg #[(Sl.v w1_1), (VI w1_2)]), (VI n2_1)] h_2 fun rv_1 h_3 => ∃ t13_1 : Bool, rv_1 = (VB t13_1) ∧ Vars h_3 [(b_2, [(Sl.v w1_1), (VI w1_2)]), (b_1, [(Sl.v g0_1)])] ∧
  ((!t13_1) = true →
  K (Value.tuple #[(Sl.v nilSl), (VB false)]) h_3) ∧
  ((!t13_1) = false →
  callM P 74 #[(Value.agg #[(Sl.v g0_1)]), (Value.agg #[(Sl.v w1_1), (VI w1_2)]), (VI n2_1)] h_3 fun rv_2 h_4 => ∃ t19_1 : Sl, ∃ t19_2 : Int, ∃ t19_3 : Sl, ∃ t19_4 : Sl, ∃ t19_5 : Sl, ∃ t19_6 : Bool, rv_2 = (Value.tuple #[(Value.agg #[(Sl.v t19_1), (VI t19_2), (Sl.v t19_3), (Sl.v t19_4), (Sl.v t19_5)]), (VB t19_6)]) ∧ Vars h_4 [(b_2, [(Sl.v w1_1), (VI w1_2)]), (b_1, [(Sl.v g0_1)])] ∧
  ∀ (b_3 : Nat) (h_6 : Heap), h_4.size ≤ b_3 → Fr (In []) h_4 h_6 → Vars h_6 [(b_3, [(Sl.v t19_1), (VI t19_2), (Sl.v t19_3), (Sl.v t19_4), (Sl.v t19_5)]), (b_2, [(Sl.v w1_1), (VI w1_2)]), (b_1, [(Sl.v g0_1)])] →
  K (Value.tuple #[(Sl.v t19_5), (VB t19_6)]) h_6)
theorem v23 (g0_1 : Sl) (w1_1 : Sl) (w1_2 : Int) (n2_1 : Int) (h : Heap) (K : Value → Heap → Prop) (H : u23 Tryd.prog g0_1 w1_1 w1_2 n2_1 h K) : callM Tryd.prog 23 #[(Value.agg #[(Sl.v g0_1)]), (Value.agg #[(Sl.v w1_1), (VI w1_2)]), (VI n2_1)] h K := by
  refine c23 (Value.agg #[(Sl.v g0_1)]) (Value.agg #[(Sl.v w1_1), (VI w1_2)]) (VI n2_1) h K ?_
  unfold u23 at H
  unfold t23
  have hL : Vars h [] := .nil
  refine eop_box 41 (Value.agg #[(Sl.v g0_1)]) rfl hL (fun b_1 h_1 hb_1 hf_1 hL_1 => ?_)
  refine eop_box 43 (Value.agg #[(Sl.v w1_1), (VI w1_2)]) rfl hL_1 (fun b_2 h_2 hb_2 hf_2 hL_2 => ?_)
  refine rop_locA agg41 hL_2 1 rfl 0 (vs := [(Sl.v g0_1)]) rfl rfl ?_
  refine rop_locA agg43 hL_2 0 rfl 0 (vs := [(Sl.v w1_1), (VI w1_2)]) rfl rfl ?_
  have H := H b_1 b_2 h_2 (Nat.le_trans (Fr.size (Fr.r (In []) _)) hb_1) (Nat.le_trans (Fr.size (Fr.no' (Fr.r (In []) _) hf_1)) hb_2) (Fr.no' (Fr.no' (Fr.r (In []) _) hf_1) hf_2) hL_2
  refine H.mono fun rv_1 h_3 H => ?_
  obtain ⟨t13_1, rfl, hL_3, H⟩ := H
  refine pop_not t13_1 ?_
  refine condM_b (fun hb_3 => ?_) (fun hb_3 => ?_)
  ·have H := H.1 hb_3
   exact H
  have H := H.2 hb_3
  refine rop_locA agg41 hL_3 1 rfl 0 (vs := [(Sl.v g0_1)]) rfl rfl ?_
  refine rop_locA agg43 hL_3 0 rfl 0 (vs := [(Sl.v w1_1), (VI w1_2)]) rfl rfl ?_
  refine H.mono fun rv_2 h_4 H => ?_
  obtain ⟨t19_1, t19_2, t19_3, t19_4, t19_5, t19_6, rfl, hL_4, H⟩ := H
  refine pop_ext (v := (Value.agg #[(Sl.v t19_1), (VI t19_2), (Sl.v t19_3), (Sl.v t19_4), (Sl.v t19_5)])) rfl ?_
  refine pop_ext (v := (VB t19_6)) rfl ?_
  refine eop_alloc 96 zer96 rfl hL_4 (fun b_3 h_5 hb_4 hf_3 hL_5 => ?_)
  refine uop_loc siz96 hL_5 0 rfl 0 [(Sl.v t19_1), (VI t19_2), (Sl.v t19_3), (Sl.v t19_4), (Sl.v t19_5)] rfl rfl rfl (Nat.le_of_ble_eq_true rfl) (L' := [(b_3, [(Sl.v t19_1), (VI t19_2), (Sl.v t19_3), (Sl.v t19_4), (Sl.v t19_5)]), (b_2, [(Sl.v w1_1), (VI w1_2)]), (b_1, [(Sl.v g0_1)])]) rfl (fun h_6 hf_4 hL_6 => ?_)
  refine pop_field 3 fld96_3 b_3 0 ?_
  refine rop_loc one22 hL_6 0 rfl 4 (v := (Sl.v t19_5)) rfl ?_
  have H := H b_3 h_6 (Nat.le_trans (Fr.size (Fr.r (In []) _)) hb_4) (Fr.new (Fr.no' (Fr.r (In []) _) hf_3) (Nat.le_trans (Fr.size (Fr.r (In []) _)) hb_4) hf_4) hL_6
  exact H
def u24 (P : Program) (g0_1 : Sl) (w1_1 : Sl) (w1_2 : Int) (n2_1 : Int) (h : Heap) (K : Value → Heap → Prop) : Prop :=
  ∀ (b_1 : Nat) (b_2 : Nat) (h_2 : Heap), h.size ≤ b_1 → h.size ≤ b_2 → Fr (In []) h h_2 → Vars h_2 [(b_2, [(Sl.v w1_1), (VI w1_2)]), (b_1, [(Sl.v g0_1)])] →
  callM P 68 #[(Value.agg #[(Sl.v g0_1)]), (Value.agg #[(Sl.v w1_1), (VI w1_2)]), (VI n2_1), (VI 2000)] h_2 fun rv_1 h_3 => ∃ t13_1 : Bool, rv_1 = (VB t13_1) ∧ Vars h_3 [(b_2, [(Sl.v w1_1), (VI w1_2)]), (b_1, [(Sl.v g0_1)])] ∧
  ((!t13_1) = true →
  K (Value.tuple #[(Sl.v nilSl), (VB false)]) h_3) ∧
  ((!t13_1) = false →
  ∃ J_1 : Nat → Sl → Int → Nat → Sl → Heap → Prop, ((callM P 69 #[(Value.agg #[(Sl.v w1_1), (VI w1_2)])] h_3 fun rv_2 h_4 => ∃ t16_1 : Sl, ∃ t16_2 : Int, rv_2 = (Value.agg #[(Sl.v t16_1), (VI t16_2)]) ∧ Vars h_4 [(b_2, [(Sl.v w1_1), (VI w1_2)]), (b_1, [(Sl.v g0_1)])] ∧
  (eop P (Instr.makeSlice 34 (VI (g0_1.n : Int)) (VI (g0_1.n : Int))) h_4 fun rv_3 h_5 => ∃ t20_1 : Sl, rv_3 = (Sl.v t20_1) ∧ Vars h_5 [(b_2, [(Sl.v w1_1), (VI w1_2)]), (b_1, [(Sl.v g0_1)])] ∧
  (∀ (b_5 : Nat) (h_6 : Heap), h_5.size ≤ b_5 → Fr (In []) h_5 h_6 → Vars h_6 [(b_5, [(Sl.v nilSl), (VI 0)]), (b_2, [(Sl.v w1_1), (VI w1_2)]), (b_1, [(Sl.v g0_1)])] →
  ∀ (b_6 : Nat) (h_7 : Heap), h_6.size ≤ b_6 → Fr (In []) h_6 h_7 → Vars h_7 [(b_6, [(Sl.v nilSl)]), (b_5, [(Sl.v nilSl), (VI 0)]), (b_2, [(Sl.v w1_1), (VI w1_2)]), (b_1, [(Sl.v g0_1)])] →
  ∀ (h_8 : Heap), Fr (In [b_5]) h_7 h_8 → Vars h_8 [(b_6, [(Sl.v nilSl)]), (b_5, [(Sl.v t16_1), (VI t16_2)]), (b_2, [(Sl.v w1_1), (VI w1_2)]), (b_1, [(Sl.v g0_1)])] →
  ∀ (h_9 : Heap), Fr (In [b_6]) h_8 h_9 → Vars h_9 [(b_6, [(Sl.v t20_1)]), (b_5, [(Sl.v t16_1), (VI t16_2)]), (b_2, [(Sl.v w1_1), (VI w1_2)]), (b_1, [(Sl.v g0_1)])] →
  J_1 b_5 t16_1 t16_2 b_6 t20_1 h_9) ∧
  (∀ (b_7 : Nat) (h_10 : Heap), h_5.size ≤ b_7 → Fr (In []) h_5 h_10 → Vars h_10 [(b_7, [(Sl.v nilSl)]), (b_2, [(Sl.v w1_1), (VI w1_2)]), (b_1, [(Sl.v g0_1)])] →
  ∀ (b_8 : Nat) (h_11 : Heap), h_10.size ≤ b_8 → Fr (In []) h_10 h_11 → Vars h_11 [(b_8, [(Sl.v nilSl), (VI 0)]), (b_7, [(Sl.v nilSl)]), (b_2, [(Sl.v w1_1), (VI w1_2)]), (b_1, [(Sl.v g0_1)])] →
  ∀ (h_12 : Heap), Fr (In [b_8]) h_11 h_12 → Vars h_12 [(b_8, [(Sl.v t16_1), (VI t16_2)]), (b_7, [(Sl.v nilSl)]), (b_2, [(Sl.v w1_1), (VI w1_2)]), (b_1, [(Sl.v g0_1)])] →
  ∀ (h_13 : Heap), Fr (In [b_7]) h_12 h_13 → Vars h_13 [(b_8, [(Sl.v t16_1), (VI t16_2)]), (b_7, [(Sl.v t20_1)]), (b_2, [(Sl.v w1_1), (VI w1_2)]), (b_1, [(Sl.v g0_1)])] →
  J_1 b_8 t16_1 t16_2 b_7 t20_1 h_13)) ∧
  (∀ (b_9 : Nat) (h_14 : Heap), h_4.size ≤ b_9 → Fr (In []) h_4 h_14 → Vars h_14 [(b_9, [(Sl.v nilSl), (VI 0)]), (b_2, [(Sl.v w1_1), (VI w1_2)]), (b_1, [(Sl.v g0_1)])] →
  (eop P (Instr.makeSlice 34 (VI (g0_1.n : Int)) (VI (g0_1.n : Int))) h_14 fun rv_4 h_15 => ∃ t20_2 : Sl, rv_4 = (Sl.v t20_2) ∧ Vars h_15 [(b_9, [(Sl.v nilSl), (VI 0)]), (b_2, [(Sl.v w1_1), (VI w1_2)]), (b_1, [(Sl.v g0_1)])] ∧
  ∀ (b_10 : Nat) (h_16 : Heap), h_15.size ≤ b_10 → Fr (In []) h_15 h_16 → Vars h_16 [(b_10, [(Sl.v nilSl)]), (b_9, [(Sl.v nilSl), (VI 0)]), (b_2, [(Sl.v w1_1), (VI w1_2)]), (b_1, [(Sl.v g0_1)])] →
  ∀ (h_17 : Heap), Fr (In [b_9]) h_16 h_17 → Vars h_17 [(b_10, [(Sl.v nilSl)]), (b_9, [(Sl.v t16_1), (VI t16_2)]), (b_2, [(Sl.v w1_1), (VI w1_2)]), (b_1, [(Sl.v g0_1)])] →
  ∀ (h_18 : Heap), Fr (In [b_10]) h_17 h_18 → Vars h_18 [(b_10, [(Sl.v t20_2)]), (b_9, [(Sl.v t16_1), (VI t16_2)]), (b_2, [(Sl.v w1_1), (VI w1_2)]), (b_1, [(Sl.v g0_1)])] →
  J_1 b_9 t16_1 t16_2 b_10 t20_2 h_18) ∧
  (∀ (b_11 : Nat) (h_19 : Heap), h_14.size ≤ b_11 → Fr (In []) h_14 h_19 → Vars h_19 [(b_11, [(Sl.v nilSl)]), (b_9, [(Sl.v nilSl), (VI 0)]), (b_2, [(Sl.v w1_1), (VI w1_2)]), (b_1, [(Sl.v g0_1)])] →
  (eop P (Instr.makeSlice 34 (VI (g0_1.n : Int)) (VI (g0_1.n : Int))) h_19 fun rv_5 h_20 => ∃ t20_3 : Sl, rv_5 = (Sl.v t20_3) ∧ Vars h_20 [(b_11, [(Sl.v nilSl)]), (b_9, [(Sl.v nilSl), (VI 0)]), (b_2, [(Sl.v w1_1), (VI w1_2)]), (b_1, [(Sl.v g0_1)])] ∧
  ∀ (h_21 : Heap), Fr (In [b_9]) h_20 h_21 → Vars h_21 [(b_11, [(Sl.v nilSl)]), (b_9, [(Sl.v t16_1), (VI t16_2)]), (b_2, [(Sl.v w1_1), (VI w1_2)]), (b_1, [(Sl.v g0_1)])] →
  ∀ (h_22 : Heap), Fr (In [b_11]) h_21 h_22 → Vars h_22 [(b_11, [(Sl.v t20_3)]), (b_9, [(Sl.v t16_1), (VI t16_2)]), (b_2, [(Sl.v w1_1), (VI w1_2)]), (b_1, [(Sl.v g0_1)])] →
  J_1 b_9 t16_1 t16_2 b_11 t20_3 h_22) ∧
  (∀ (h_23 : Heap), Fr (In [b_9]) h_19 h_23 → Vars h_23 [(b_11, [(Sl.v nilSl)]), (b_9, [(Sl.v t16_1), (VI t16_2)]), (b_2, [(Sl.v w1_1), (VI w1_2)]), (b_1, [(Sl.v g0_1)])] →
  eop P (Instr.makeSlice 34 (VI (g0_1.n : Int)) (VI (g0_1.n : Int))) h_23 fun rv_6 h_24 => ∃ t20_4 : Sl, rv_6 = (Sl.v t20_4) ∧ Vars h_24 [(b_11, [(Sl.v nilSl)]), (b_9, [(Sl.v t16_1), (VI t16_2)]), (b_2, [(Sl.v w1_1), (VI w1_2)]), (b_1, [(Sl.v g0_1)])] ∧
  ∀ (h_25 : Heap), Fr (In [b_11]) h_24 h_25 → Vars h_25 [(b_11, [(Sl.v t20_4)]), (b_9, [(Sl.v t16_1), (VI t16_2)]), (b_2, [(Sl.v w1_1), (VI w1_2)]), (b_1, [(Sl.v g0_1)])] →
  J_1 b_9 t16_1 t16_2 b_11 t20_4 h_25))) ∧
  (∀ (b_12 : Nat) (h_26 : Heap), h_4.size ≤ b_12 → Fr (In []) h_4 h_26 → Vars h_26 [(b_12, [(Sl.v nilSl)]), (b_2, [(Sl.v w1_1), (VI w1_2)]), (b_1, [(Sl.v g0_1)])] →
  (eop P (Instr.makeSlice 34 (VI (g0_1.n : Int)) (VI (g0_1.n : Int))) h_26 fun rv_7 h_27 => ∃ t20_5 : Sl, rv_7 = (Sl.v t20_5) ∧ Vars h_27 [(b_12, [(Sl.v nilSl)]), (b_2, [(Sl.v w1_1), (VI w1_2)]), (b_1, [(Sl.v g0_1)])] ∧
  ∀ (b_13 : Nat) (h_28 : Heap), h_27.size ≤ b_13 → Fr (In []) h_27 h_28 → Vars h_28 [(b_13, [(Sl.v nilSl), (VI 0)]), (b_12, [(Sl.v nilSl)]), (b_2, [(Sl.v w1_1), (VI w1_2)]), (b_1, [(Sl.v g0_1)])] →
  ∀ (h_29 : Heap), Fr (In [b_13]) h_28 h_29 → Vars h_29 [(b_13, [(Sl.v t16_1), (VI t16_2)]), (b_12, [(Sl.v nilSl)]), (b_2, [(Sl.v w1_1), (VI w1_2)]), (b_1, [(Sl.v g0_1)])] →
  ∀ (h_30 : Heap), Fr (In [b_12]) h_29 h_30 → Vars h_30 [(b_13, [(Sl.v t16_1), (VI t16_2)]), (b_12, [(Sl.v t20_5)]), (b_2, [(Sl.v w1_1), (VI w1_2)]), (b_1, [(Sl.v g0_1)])] →
  J_1 b_13 t16_1 t16_2 b_12 t20_5 h_30) ∧
  (∀ (b_14 : Nat) (h_31 : Heap), h_26.size ≤ b_14 → Fr (In []) h_26 h_31 → Vars h_31 [(b_14, [(Sl.v nilSl), (VI 0)]), (b_12, [(Sl.v nilSl)]), (b_2, [(Sl.v w1_1), (VI w1_2)]), (b_1, [(Sl.v g0_1)])] →
  (eop P (Instr.makeSlice 34 (VI (g0_1.n : Int)) (VI (g0_1.n : Int))) h_31 fun rv_8 h_32 => ∃ t20_6 : Sl, rv_8 = (Sl.v t20_6) ∧ Vars h_32 [(b_14, [(Sl.v nilSl), (VI 0)]), (b_12, [(Sl.v nilSl)]), (b_2, [(Sl.v w1_1), (VI w1_2)]), (b_1, [(Sl.v g0_1)])] ∧
  ∀ (h_33 : Heap), Fr (In [b_14]) h_32 h_33 → Vars h_33 [(b_14, [(Sl.v t16_1), (VI t16_2)]), (b_12, [(Sl.v nilSl)]), (b_2, [(Sl.v w1_1), (VI w1_2)]), (b_1, [(Sl.v g0_1)])] →
  ∀ (h_34 : Heap), Fr (In [b_12]) h_33 h_34 → Vars h_34 [(b_14, [(Sl.v t16_1), (VI t16_2)]), (b_12, [(Sl.v t20_6)]), (b_2, [(Sl.v w1_1), (VI w1_2)]), (b_1, [(Sl.v g0_1)])] →
  J_1 b_14 t16_1 t16_2 b_12 t20_6 h_34) ∧
  (∀ (h_35 : Heap), Fr (In [b_14]) h_31 h_35 → Vars h_35 [(b_14, [(Sl.v t16_1), (VI t16_2)]), (b_12, [(Sl.v nilSl)]), (b_2, [(Sl.v w1_1), (VI w1_2)]), (b_1, [(Sl.v g0_1)])] →
  eop P (Instr.makeSlice 34 (VI (g0_1.n : Int)) (VI (g0_1.n : Int))) h_35 fun rv_9 h_36 => ∃ t20_7 : Sl, rv_9 = (Sl.v t20_7) ∧ Vars h_36 [(b_14, [(Sl.v t16_1), (VI t16_2)]), (b_12, [(Sl.v nilSl)]), (b_2, [(Sl.v w1_1), (VI w1_2)]), (b_1, [(Sl.v g0_1)])] ∧
  ∀ (h_37 : Heap), Fr (In [b_12]) h_36 h_37 → Vars h_37 [(b_14, [(Sl.v t16_1), (VI t16_2)]), (b_12, [(Sl.v t20_7)]), (b_2, [(Sl.v w1_1), (VI w1_2)]), (b_1, [(Sl.v g0_1)])] →
  J_1 b_14 t16_1 t16_2 b_12 t20_7 h_37)))) ∧
  (eop P (Instr.makeSlice 34 (VI (g0_1.n : Int)) (VI (g0_1.n : Int))) h_3 fun rv_10 h_38 => ∃ t20_8 : Sl, rv_10 = (Sl.v t20_8) ∧ Vars h_38 [(b_2, [(Sl.v w1_1), (VI w1_2)]), (b_1, [(Sl.v g0_1)])] ∧
  (callM P 69 #[(Value.agg #[(Sl.v w1_1), (VI w1_2)])] h_38 fun rv_11 h_39 => ∃ t16_3 : Sl, ∃ t16_4 : Int, rv_11 = (Value.agg #[(Sl.v t16_3), (VI t16_4)]) ∧ Vars h_39 [(b_2, [(Sl.v w1_1), (VI w1_2)]), (b_1, [(Sl.v g0_1)])] ∧
  (∀ (b_15 : Nat) (h_40 : Heap), h_39.size ≤ b_15 → Fr (In []) h_39 h_40 → Vars h_40 [(b_15, [(Sl.v nilSl), (VI 0)]), (b_2, [(Sl.v w1_1), (VI w1_2)]), (b_1, [(Sl.v g0_1)])] →
  ∀ (b_16 : Nat) (h_41 : Heap), h_40.size ≤ b_16 → Fr (In []) h_40 h_41 → Vars h_41 [(b_16, [(Sl.v nilSl)]), (b_15, [(Sl.v nilSl), (VI 0)]), (b_2, [(Sl.v w1_1), (VI w1_2)]), (b_1, [(Sl.v g0_1)])] →
  ∀ (h_42 : Heap), Fr (In [b_15]) h_41 h_42 → Vars h_42 [(b_16, [(Sl.v nilSl)]), (b_15, [(Sl.v t16_3), (VI t16_4)]), (b_2, [(Sl.v w1_1), (VI w1_2)]), (b_1, [(Sl.v g0_1)])] →
  ∀ (h_43 : Heap), Fr (In [b_16]) h_42 h_43 → Vars h_43 [(b_16, [(Sl.v t20_8)]), (b_15, [(Sl.v t16_3), (VI t16_4)]), (b_2, [(Sl.v w1_1), (VI w1_2)]), (b_1, [(Sl.v g0_1)])] →
  J_1 b_15 t16_3 t16_4 b_16 t20_8 h_43) ∧
  (∀ (b_17 : Nat) (h_44 : Heap), h_39.size ≤ b_17 → Fr (In []) h_39 h_44 → Vars h_44 [(b_17, [(Sl.v nilSl)]), (b_2, [(Sl.v w1_1), (VI w1_2)]), (b_1, [(Sl.v g0_1)])] →
  ∀ (b_18 : Nat) (h_45 : Heap), h_44.size ≤ b_18 → Fr (In []) h_44 h_45 → Vars h_45 [(b_18, [(Sl.v nilSl), (VI 0)]), (b_17, [(Sl.v nilSl)]), (b_2, [(Sl.v w1_1), (VI w1_2)]), (b_1, [(Sl.v g0_1)])] →
  ∀ (h_46 : Heap), Fr (In [b_18]) h_45 h_46 → Vars h_46 [(b_18, [(Sl.v t16_3), (VI t16_4)]), (b_17, [(Sl.v nilSl)]), (b_2, [(Sl.v w1_1), (VI w1_2)]), (b_1, [(Sl.v g0_1)])] →
  ∀ (h_47 : Heap), Fr (In [b_17]) h_46 h_47 → Vars h_47 [(b_18, [(Sl.v t16_3), (VI t16_4)]), (b_17, [(Sl.v t20_8)]), (b_2, [(Sl.v w1_1), (VI w1_2)]), (b_1, [(Sl.v g0_1)])] →
  J_1 b_18 t16_3 t16_4 b_17 t20_8 h_47)) ∧
  (∀ (b_19 : Nat) (h_48 : Heap), h_38.size ≤ b_19 → Fr (In []) h_38 h_48 → Vars h_48 [(b_19, [(Sl.v nilSl), (VI 0)]), (b_2, [(Sl.v w1_1), (VI w1_2)]), (b_1, [(Sl.v g0_1)])] →
  (callM P 69 #[(Value.agg #[(Sl.v w1_1), (VI w1_2)])] h_48 fun rv_12 h_49 => ∃ t16_5 : Sl, ∃ t16_6 : Int, rv_12 = (Value.agg #[(Sl.v t16_5), (VI t16_6)]) ∧ Vars h_49 [(b_19, [(Sl.v nilSl), (VI 0)]), (b_2, [(Sl.v w1_1), (VI w1_2)]), (b_1, [(Sl.v g0_1)])] ∧
  ∀ (b_20 : Nat) (h_50 : Heap), h_49.size ≤ b_20 → Fr (In []) h_49 h_50 → Vars h_50 [(b_20, [(Sl.v nilSl)]), (b_19, [(Sl.v nilSl), (VI 0)]), (b_2, [(Sl.v w1_1), (VI w1_2)]), (b_1, [(Sl.v g0_1)])] →
  ∀ (h_51 : Heap), Fr (In [b_19]) h_50 h_51 → Vars h_51 [(b_20, [(Sl.v nilSl)]), (b_19, [(Sl.v t16_5), (VI t16_6)]), (b_2, [(Sl.v w1_1), (VI w1_2)]), (b_1, [(Sl.v g0_1)])] →
  ∀ (h_52 : Heap), Fr (In [b_20]) h_51 h_52 → Vars h_52 [(b_20, [(Sl.v t20_8)]), (b_19, [(Sl.v t16_5), (VI t16_6)]), (b_2, [(Sl.v w1_1), (VI w1_2)]), (b_1, [(Sl.v g0_1)])] →
  J_1 b_19 t16_5 t16_6 b_20 t20_8 h_52) ∧
  (∀ (b_21 : Nat) (h_53 : Heap), h_48.size ≤ b_21 → Fr (In []) h_48 h_53 → Vars h_53 [(b_21, [(Sl.v nilSl)]), (b_19, [(Sl.v nilSl), (VI 0)]), (b_2, [(Sl.v w1_1), (VI w1_2)]), (b_1, [(Sl.v g0_1)])] →
  callM P 69 #[(Value.agg #[(Sl.v w1_1), (VI w1_2)])] h_53 fun rv_13 h_54 => ∃ t16_7 : Sl, ∃ t16_8 : Int, rv_13 = (Value.agg #[(Sl.v t16_7), (VI t16_8)]) ∧ Vars h_54 [(b_21, [(Sl.v nilSl)]), (b_19, [(Sl.v nilSl), (VI 0)]), (b_2, [(Sl.v w1_1), (VI w1_2)]), (b_1, [(Sl.v g0_1)])] ∧
  ∀ (h_55 : Heap), Fr (In [b_19]) h_54 h_55 → Vars h_55 [(b_21, [(Sl.v nilSl)]), (b_19, [(Sl.v t16_7), (VI t16_8)]), (b_2, [(Sl.v w1_1), (VI w1_2)]), (b_1, [(Sl.v g0_1)])] →
  ∀ (h_56 : Heap), Fr (In [b_21]) h_55 h_56 → Vars h_56 [(b_21, [(Sl.v t20_8)]), (b_19, [(Sl.v t16_7), (VI t16_8)]), (b_2, [(Sl.v w1_1), (VI w1_2)]), (b_1, [(Sl.v g0_1)])] →
  J_1 b_19 t16_7 t16_8 b_21 t20_8 h_56)) ∧
  (∀ (b_22 : Nat) (h_57 : Heap), h_38.size ≤ b_22 → Fr (In []) h_38 h_57 → Vars h_57 [(b_22, [(Sl.v nilSl)]), (b_2, [(Sl.v w1_1), (VI w1_2)]), (b_1, [(Sl.v g0_1)])] →
  (callM P 69 #[(Value.agg #[(Sl.v w1_1), (VI w1_2)])] h_57 fun rv_14 h_58 => ∃ t16_9 : Sl, ∃ t16_10 : Int, rv_14 = (Value.agg #[(Sl.v t16_9), (VI t16_10)]) ∧ Vars h_58 [(b_22, [(Sl.v nilSl)]), (b_2, [(Sl.v w1_1), (VI w1_2)]), (b_1, [(Sl.v g0_1)])] ∧
  ∀ (b_23 : Nat) (h_59 : Heap), h_58.size ≤ b_23 → Fr (In []) h_58 h_59 → Vars h_59 [(b_23, [(Sl.v nilSl), (VI 0)]), (b_22, [(Sl.v nilSl)]), (b_2, [(Sl.v w1_1), (VI w1_2)]), (b_1, [(Sl.v g0_1)])] →
  ∀ (h_60 : Heap), Fr (In [b_23]) h_59 h_60 → Vars h_60 [(b_23, [(Sl.v t16_9), (VI t16_10)]), (b_22, [(Sl.v nilSl)]), (b_2, [(Sl.v w1_1), (VI w1_2)]), (b_1, [(Sl.v g0_1)])] →
  ∀ (h_61 : Heap), Fr (In [b_22]) h_60 h_61 → Vars h_61 [(b_23, [(Sl.v t16_9), (VI t16_10)]), (b_22, [(Sl.v t20_8)]), (b_2, [(Sl.v w1_1), (VI w1_2)]), (b_1, [(Sl.v g0_1)])] →
  J_1 b_23 t16_9 t16_10 b_22 t20_8 h_61) ∧
  (∀ (b_24 : Nat) (h_62 : Heap), h_57.size ≤ b_24 → Fr (In []) h_57 h_62 → Vars h_62 [(b_24, [(Sl.v nilSl), (VI 0)]), (b_22, [(Sl.v nilSl)]), (b_2, [(Sl.v w1_1), (VI w1_2)]), (b_1, [(Sl.v g0_1)])] →
  callM P 69 #[(Value.agg #[(Sl.v w1_1), (VI w1_2)])] h_62 fun rv_15 h_63 => ∃ t16_11 : Sl, ∃ t16_12 : Int, rv_15 = (Value.agg #[(Sl.v t16_11), (VI t16_12)]) ∧ Vars h_63 [(b_24, [(Sl.v nilSl), (VI 0)]), (b_22, [(Sl.v nilSl)]), (b_2, [(Sl.v w1_1), (VI w1_2)]), (b_1, [(Sl.v g0_1)])] ∧
  ∀ (h_64 : Heap), Fr (In [b_24]) h_63 h_64 → Vars h_64 [(b_24, [(Sl.v t16_11), (VI t16_12)]), (b_22, [(Sl.v nilSl)]), (b_2, [(Sl.v w1_1), (VI w1_2)]), (b_1, [(Sl.v g0_1)])] →
  ∀ (h_65 : Heap), Fr (In [b_22]) h_64 h_65 → Vars h_65 [(b_24, [(Sl.v t16_11), (VI t16_12)]), (b_22, [(Sl.v t20_8)]), (b_2, [(Sl.v w1_1), (VI w1_2)]), (b_1, [(Sl.v g0_1)])] →
  J_1 b_24 t16_11 t16_12 b_22 t20_8 h_65))) ∧
  (∀ (b_25 : Nat) (h_66 : Heap), h_3.size ≤ b_25 → Fr (In []) h_3 h_66 → Vars h_66 [(b_25, [(Sl.v nilSl), (VI 0)]), (b_2, [(Sl.v w1_1), (VI w1_2)]), (b_1, [(Sl.v g0_1)])] →
  (callM P 69 #[(Value.agg #[(Sl.v w1_1), (VI w1_2)])] h_66 fun rv_16 h_67 => ∃ t16_13 : Sl, ∃ t16_14 : Int, rv_16 = (Value.agg #[(Sl.v t16_13), (VI t16_14)]) ∧ Vars h_67 [(b_25, [(Sl.v nilSl), (VI 0)]), (b_2, [(Sl.v w1_1), (VI w1_2)]), (b_1, [(Sl.v g0_1)])] ∧
  (eop P (Instr.makeSlice 34 (VI (g0_1.n : Int)) (VI (g0_1.n : Int))) h_67 fun rv_17 h_68 => ∃ t20_9 : Sl, rv_17 = (Sl.v t20_9) ∧ Vars h_68 [(b_25, [(Sl.v nilSl), (VI 0)]), (b_2, [(Sl.v w1_1), (VI w1_2)]), (b_1, [(Sl.v g0_1)])] ∧
  ∀ (b_26 : Nat) (h_69 : Heap), h_68.size ≤ b_26 → Fr (In []) h_68 h_69 → Vars h_69 [(b_26, [(Sl.v nilSl)]), (b_25, [(Sl.v nilSl), (VI 0)]), (b_2, [(Sl.v w1_1), (VI w1_2)]), (b_1, [(Sl.v g0_1)])] →
  ∀ (h_70 : Heap), Fr (In [b_25]) h_69 h_70 → Vars h_70 [(b_26, [(Sl.v nilSl)]), (b_25, [(Sl.v t16_13), (VI t16_14)]), (b_2, [(Sl.v w1_1), (VI w1_2)]), (b_1, [(Sl.v g0_1)])] →
  ∀ (h_71 : Heap), Fr (In [b_26]) h_70 h_71 → Vars h_71 [(b_26, [(Sl.v t20_9)]), (b_25, [(Sl.v t16_13), (VI t16_14)]), (b_2, [(Sl.v w1_1), (VI w1_2)]), (b_1, [(Sl.v g0_1)])] →
  J_1 b_25 t16_13 t16_14 b_26 t20_9 h_71) ∧
  (∀ (b_27 : Nat) (h_72 : Heap), h_67.size ≤ b_27 → Fr (In []) h_67 h_72 → Vars h_72 [(b_27, [(Sl.v nilSl)]), (b_25, [(Sl.v nilSl), (VI 0)]), (b_2, [(Sl.v w1_1), (VI w1_2)]), (b_1, [(Sl.v g0_1)])] →
  (eop P (Instr.makeSlice 34 (VI (g0_1.n : Int)) (VI (g0_1.n : Int))) h_72 fun rv_18 h_73 => ∃ t20_10 : Sl, rv_18 = (Sl.v t20_10) ∧ Vars h_73 [(b_27, [(Sl.v nilSl)]), (b_25, [(Sl.v nilSl), (VI 0)]), (b_2, [(Sl.v w1_1), (VI w1_2)]), (b_1, [(Sl.v g0_1)])] ∧
  ∀ (h_74 : Heap), Fr (In [b_25]) h_73 h_74 → Vars h_74 [(b_27, [(Sl.v nilSl)]), (b_25, [(Sl.v t16_13), (VI t16_14)]), (b_2, [(Sl.v w1_1), (VI w1_2)]), (b_1, [(Sl.v g0_1)])] →
  ∀ (h_75 : Heap), Fr (In [b_27]) h_74 h_75 → Vars h_75 [(b_27, [(Sl.v t20_10)]), (b_25, [(Sl.v t16_13), (VI t16_14)]), (b_2, [(Sl.v w1_1), (VI w1_2)]), (b_1, [(Sl.v g0_1)])] →
  J_1 b_25 t16_13 t16_14 b_27 t20_10 h_75) ∧
  (∀ (h_76 : Heap), Fr (In [b_25]) h_72 h_76 → Vars h_76 [(b_27, [(Sl.v nilSl)]), (b_25, [(Sl.v t16_13), (VI t16_14)]), (b_2, [(Sl.v w1_1), (VI w1_2)]), (b_1, [(Sl.v g0_1)])] →
  eop P (Instr.makeSlice 34 (VI (g0_1.n : Int)) (VI (g0_1.n : Int))) h_76 fun rv_19 h_77 => ∃ t20_11 : Sl, rv_19 = (Sl.v t20_11) ∧ Vars h_77 [(b_27, [(Sl.v nilSl)]), (b_25, [(Sl.v t16_13), (VI t16_14)]), (b_2, [(Sl.v w1_1), (VI w1_2)]), (b_1, [(Sl.v g0_1)])] ∧
  ∀ (h_78 : Heap), Fr (In [b_27]) h_77 h_78 → Vars h_78 [(b_27, [(Sl.v t20_11)]), (b_25, [(Sl.v t16_13), (VI t16_14)]), (b_2, [(Sl.v w1_1), (VI w1_2)]), (b_1, [(Sl.v g0_1)])] →
  J_1 b_25 t16_13 t16_14 b_27 t20_11 h_78))) ∧
  (eop P (Instr.makeSlice 34 (VI (g0_1.n : Int)) (VI (g0_1.n : Int))) h_66 fun rv_20 h_79 => ∃ t20_12 : Sl, rv_20 = (Sl.v t20_12) ∧ Vars h_79 [(b_25, [(Sl.v nilSl), (VI 0)]), (b_2, [(Sl.v w1_1), (VI w1_2)]), (b_1, [(Sl.v g0_1)])] ∧
  (callM P 69 #[(Value.agg #[(Sl.v w1_1), (VI w1_2)])] h_79 fun rv_21 h_80 => ∃ t16_15 : Sl, ∃ t16_16 : Int, rv_21 = (Value.agg #[(Sl.v t16_15), (VI t16_16)]) ∧ Vars h_80 [(b_25, [(Sl.v nilSl), (VI 0)]), (b_2, [(Sl.v w1_1), (VI w1_2)]), (b_1, [(Sl.v g0_1)])] ∧
  ∀ (b_28 : Nat) (h_81 : Heap), h_80.size ≤ b_28 → Fr (In []) h_80 h_81 → Vars h_81 [(b_28, [(Sl.v nilSl)]), (b_25, [(Sl.v nilSl), (VI 0)]), (b_2, [(Sl.v w1_1), (VI w1_2)]), (b_1, [(Sl.v g0_1)])] →
  ∀ (h_82 : Heap), Fr (In [b_25]) h_81 h_82 → Vars h_82 [(b_28, [(Sl.v nilSl)]), (b_25, [(Sl.v t16_15), (VI t16_16)]), (b_2, [(Sl.v w1_1), (VI w1_2)]), (b_1, [(Sl.v g0_1)])] →
  ∀ (h_83 : Heap), Fr (In [b_28]) h_82 h_83 → Vars h_83 [(b_28, [(Sl.v t20_12)]), (b_25, [(Sl.v t16_15), (VI t16_16)]), (b_2, [(Sl.v w1_1), (VI w1_2)]), (b_1, [(Sl.v g0_1)])] →
  J_1 b_25 t16_15 t16_16 b_28 t20_12 h_83) ∧
  (∀ (b_29 : Nat) (h_84 : Heap), h_79.size ≤ b_29 → Fr (In []) h_79 h_84 → Vars h_84 [(b_29, [(Sl.v nilSl)]), (b_25, [(Sl.v nilSl), (VI 0)]), (b_2, [(Sl.v w1_1), (VI w1_2)]), (b_1, [(Sl.v g0_1)])] →
  callM P 69 #[(Value.agg #[(Sl.v w1_1), (VI w1_2)])] h_84 fun rv_22 h_85 => ∃ t16_17 : Sl, ∃ t16_18 : Int, rv_22 = (Value.agg #[(Sl.v t16_17), (VI t16_18)]) ∧ Vars h_85 [(b_29, [(Sl.v nilSl)]), (b_25, [(Sl.v nilSl), (VI 0)]), (b_2, [(Sl.v w1_1), (VI w1_2)]), (b_1, [(Sl.v g0_1)])] ∧
  ∀ (h_86 : Heap), Fr (In [b_25]) h_85 h_86 → Vars h_86 [(b_29, [(Sl.v nilSl)]), (b_25, [(Sl.v t16_17), (VI t16_18)]), (b_2, [(Sl.v w1_1), (VI w1_2)]), (b_1, [(Sl.v g0_1)])] →
  ∀ (h_87 : Heap), Fr (In [b_29]) h_86 h_87 → Vars h_87 [(b_29, [(Sl.v t20_12)]), (b_25, [(Sl.v t16_17), (VI t16_18)]), (b_2, [(Sl.v w1_1), (VI w1_2)]), (b_1, [(Sl.v g0_1)])] →
  J_1 b_25 t16_17 t16_18 b_29 t20_12 h_87)) ∧
  (∀ (b_30 : Nat) (h_88 : Heap), h_66.size ≤ b_30 → Fr (In []) h_66 h_88 → Vars h_88 [(b_30, [(Sl.v nilSl)]), (b_25, [(Sl.v nilSl), (VI 0)]), (b_2, [(Sl.v w1_1), (VI w1_2)]), (b_1, [(Sl.v g0_1)])] →
  (callM P 69 #[(Value.agg #[(Sl.v w1_1), (VI w1_2)])] h_88 fun rv_23 h_89 => ∃ t16_19 : Sl, ∃ t16_20 : Int, rv_23 = (Value.agg #[(Sl.v t16_19), (VI t16_20)]) ∧ Vars h_89 [(b_30, [(Sl.v nilSl)]), (b_25, [(Sl.v nilSl), (VI 0)]), (b_2, [(Sl.v w1_1), (VI w1_2)]), (b_1, [(Sl.v g0_1)])] ∧
  (eop P (Instr.makeSlice 34 (VI (g0_1.n : Int)) (VI (g0_1.n : Int))) h_89 fun rv_24 h_90 => ∃ t20_13 : Sl, rv_24 = (Sl.v t20_13) ∧ Vars h_90 [(b_30, [(Sl.v nilSl)]), (b_25, [(Sl.v nilSl), (VI 0)]), (b_2, [(Sl.v w1_1), (VI w1_2)]), (b_1, [(Sl.v g0_1)])] ∧
  ∀ (h_91 : Heap), Fr (In [b_25]) h_90 h_91 → Vars h_91 [(b_30, [(Sl.v nilSl)]), (b_25, [(Sl.v t16_19), (VI t16_20)]), (b_2, [(Sl.v w1_1), (VI w1_2)]), (b_1, [(Sl.v g0_1)])] →
  ∀ (h_92 : Heap), Fr (In [b_30]) h_91 h_92 → Vars h_92 [(b_30, [(Sl.v t20_13)]), (b_25, [(Sl.v t16_19), (VI t16_20)]), (b_2, [(Sl.v w1_1), (VI w1_2)]), (b_1, [(Sl.v g0_1)])] →
  J_1 b_25 t16_19 t16_20 b_30 t20_13 h_92) ∧
  (∀ (h_93 : Heap), Fr (In [b_25]) h_89 h_93 → Vars h_93 [(b_30, [(Sl.v nilSl)]), (b_25, [(Sl.v t16_19), (VI t16_20)]), (b_2, [(Sl.v w1_1), (VI w1_2)]), (b_1, [(Sl.v g0_1)])] →
  eop P (Instr.makeSlice 34 (VI (g0_1.n : Int)) (VI (g0_1.n : Int))) h_93 fun rv_25 h_94 => ∃ t20_14 : Sl, rv_25 = (Sl.v t20_14) ∧ Vars h_94 [(b_30, [(Sl.v nilSl)]), (b_25, [(Sl.v t16_19), (VI t16_20)]), (b_2, [(Sl.v w1_1), (VI w1_2)]), (b_1, [(Sl.v g0_1)])] ∧
  ∀ (h_95 : Heap), Fr (In [b_30]) h_94 h_95 → Vars h_95 [(b_30, [(Sl.v t20_14)]), (b_25, [(Sl.v t16_19), (VI t16_20)]), (b_2, [(Sl.v w1_1), (VI w1_2)]), (b_1, [(Sl.v g0_1)])] →
  J_1 b_25 t16_19 t16_20 b_30 t20_14 h_95)) ∧
  (eop P (Instr.makeSlice 34 (VI (g0_1.n : Int)) (VI (g0_1.n : Int))) h_88 fun rv_26 h_96 => ∃ t20_15 : Sl, rv_26 = (Sl.v t20_15) ∧ Vars h_96 [(b_30, [(Sl.v nilSl)]), (b_25, [(Sl.v nilSl), (VI 0)]), (b_2, [(Sl.v w1_1), (VI w1_2)]), (b_1, [(Sl.v g0_1)])] ∧
  callM P 69 #[(Value.agg #[(Sl.v w1_1), (VI w1_2)])] h_96 fun rv_27 h_97 => ∃ t16_21 : Sl, ∃ t16_22 : Int, rv_27 = (Value.agg #[(Sl.v t16_21), (VI t16_22)]) ∧ Vars h_97 [(b_30, [(Sl.v nilSl)]), (b_25, [(Sl.v nilSl), (VI 0)]), (b_2, [(Sl.v w1_1), (VI w1_2)]), (b_1, [(Sl.v g0_1)])] ∧
  ∀ (h_98 : Heap), Fr (In [b_25]) h_97 h_98 → Vars h_98 [(b_30, [(Sl.v nilSl)]), (b_25, [(Sl.v t16_21), (VI t16_22)]), (b_2, [(Sl.v w1_1), (VI w1_2)]), (b_1, [(Sl.v g0_1)])] →
  ∀ (h_99 : Heap), Fr (In [b_30]) h_98 h_99 → Vars h_99 [(b_30, [(Sl.v t20_15)]), (b_25, [(Sl.v t16_21), (VI t16_22)]), (b_2, [(Sl.v w1_1), (VI w1_2)]), (b_1, [(Sl.v g0_1)])] →
  J_1 b_25 t16_21 t16_22 b_30 t20_15 h_99))) ∧
  (∀ (b_31 : Nat) (h_100 : Heap), h_3.size ≤ b_31 → Fr (In []) h_3 h_100 → Vars h_100 [(b_31, [(Sl.v nilSl)]), (b_2, [(Sl.v w1_1), (VI w1_2)]), (b_1, [(Sl.v g0_1)])] →
  (callM P 69 #[(Value.agg #[(Sl.v w1_1), (VI w1_2)])] h_100 fun rv_28 h_101 => ∃ t16_23 : Sl, ∃ t16_24 : Int, rv_28 = (Value.agg #[(Sl.v t16_23), (VI t16_24)]) ∧ Vars h_101 [(b_31, [(Sl.v nilSl)]), (b_2, [(Sl.v w1_1), (VI w1_2)]), (b_1, [(Sl.v g0_1)])] ∧
  (eop P (Instr.makeSlice 34 (VI (g0_1.n : Int)) (VI (g0_1.n : Int))) h_101 fun rv_29 h_102 => ∃ t20_16 : Sl, rv_29 = (Sl.v t20_16) ∧ Vars h_102 [(b_31, [(Sl.v nilSl)]), (b_2, [(Sl.v w1_1), (VI w1_2)]), (b_1, [(Sl.v g0_1)])] ∧
  ∀ (b_32 : Nat) (h_103 : Heap), h_102.size ≤ b_32 → Fr (In []) h_102 h_103 → Vars h_103 [(b_32, [(Sl.v nilSl), (VI 0)]), (b_31, [(Sl.v nilSl)]), (b_2, [(Sl.v w1_1), (VI w1_2)]), (b_1, [(Sl.v g0_1)])] →
  ∀ (h_104 : Heap), Fr (In [b_32]) h_103 h_104 → Vars h_104 [(b_32, [(Sl.v t16_23), (VI t16_24)]), (b_31, [(Sl.v nilSl)]), (b_2, [(Sl.v w1_1), (VI w1_2)]), (b_1, [(Sl.v g0_1)])] →
  ∀ (h_105 : Heap), Fr (In [b_31]) h_104 h_105 → Vars h_105 [(b_32, [(Sl.v t16_23), (VI t16_24)]), (b_31, [(Sl.v t20_16)]), (b_2, [(Sl.v w1_1), (VI w1_2)]), (b_1, [(Sl.v g0_1)])] →
  J_1 b_32 t16_23 t16_24 b_31 t20_16 h_105) ∧
  (∀ (b_33 : Nat) (h_106 : Heap), h_101.size ≤ b_33 → Fr (In []) h_101 h_106 → Vars h_106 [(b_33, [(Sl.v nilSl), (VI 0)]), (b_31, [(Sl.v nilSl)]), (b_2, [(Sl.v w1_1), (VI w1_2)]), (b_1, [(Sl.v g0_1)])] →
  (eop P (Instr.makeSlice 34 (VI (g0_1.n : Int)) (VI (g0_1.n : Int))) h_106 fun rv_30 h_107 => ∃ t20_17 : Sl, rv_30 = (Sl.v t20_17) ∧ Vars h_107 [(b_33, [(Sl.v nilSl), (VI 0)]), (b_31, [(Sl.v nilSl)]), (b_2, [(Sl.v w1_1), (VI w1_2)]), (b_1, [(Sl.v g0_1)])] ∧
  ∀ (h_108 : Heap), Fr (In [b_33]) h_107 h_108 → Vars h_108 [(b_33, [(Sl.v t16_23), (VI t16_24)]), (b_31, [(Sl.v nilSl)]), (b_2, [(Sl.v w1_1), (VI w1_2)]), (b_1, [(Sl.v g0_1)])] →
  ∀ (h_109 : Heap), Fr (In [b_31]) h_108 h_109 → Vars h_109 [(b_33, [(Sl.v t16_23), (VI t16_24)]), (b_31, [(Sl.v t20_17)]), (b_2, [(Sl.v w1_1), (VI w1_2)]), (b_1, [(Sl.v g0_1)])] →
  J_1 b_33 t16_23 t16_24 b_31 t20_17 h_109) ∧
  (∀ (h_110 : Heap), Fr (In [b_33]) h_106 h_110 → Vars h_110 [(b_33, [(Sl.v t16_23), (VI t16_24)]), (b_31, [(Sl.v nilSl)]), (b_2, [(Sl.v w1_1), (VI w1_2)]), (b_1, [(Sl.v g0_1)])] →
  eop P (Instr.makeSlice 34 (VI (g0_1.n : Int)) (VI (g0_1.n : Int))) h_110 fun rv_31 h_111 => ∃ t20_18 : Sl, rv_31 = (Sl.v t20_18) ∧ Vars h_111 [(b_33, [(Sl.v t16_23), (VI t16_24)]), (b_31, [(Sl.v nilSl)]), (b_2, [(Sl.v w1_1), (VI w1_2)]), (b_1, [(Sl.v g0_1)])] ∧
  ∀ (h_112 : Heap), Fr (In [b_31]) h_111 h_112 → Vars h_112 [(b_33, [(Sl.v t16_23), (VI t16_24)]), (b_31, [(Sl.v t20_18)]), (b_2, [(Sl.v w1_1), (VI w1_2)]), (b_1, [(Sl.v g0_1)])] →
  J_1 b_33 t16_23 t16_24 b_31 t20_18 h_112))) ∧
  (eop P (Instr.makeSlice 34 (VI (g0_1.n : Int)) (VI (g0_1.n : Int))) h_100 fun rv_32 h_113 => ∃ t20_19 : Sl, rv_32 = (Sl.v t20_19) ∧ Vars h_113 [(b_31, [(Sl.v nilSl)]), (b_2, [(Sl.v w1_1), (VI w1_2)]), (b_1, [(Sl.v g0_1)])] ∧
  (callM P 69 #[(Value.agg #[(Sl.v w1_1), (VI w1_2)])] h_113 fun rv_33 h_114 => ∃ t16_25 : Sl, ∃ t16_26 : Int, rv_33 = (Value.agg #[(Sl.v t16_25), (VI t16_26)]) ∧ Vars h_114 [(b_31, [(Sl.v nilSl)]), (b_2, [(Sl.v w1_1), (VI w1_2)]), (b_1, [(Sl.v g0_1)])] ∧
  ∀ (b_34 : Nat) (h_115 : Heap), h_114.size ≤ b_34 → Fr (In []) h_114 h_115 → Vars h_115 [(b_34, [(Sl.v nilSl), (VI 0)]), (b_31, [(Sl.v nilSl)]), (b_2, [(Sl.v w1_1), (VI w1_2)]), (b_1, [(Sl.v g0_1)])] →
  ∀ (h_116 : Heap), Fr (In [b_34]) h_115 h_116 → Vars h_116 [(b_34, [(Sl.v t16_25), (VI t16_26)]), (b_31, [(Sl.v nilSl)]), (b_2, [(Sl.v w1_1), (VI w1_2)]), (b_1, [(Sl.v g0_1)])] →
  ∀ (h_117 : Heap), Fr (In [b_31]) h_116 h_117 → Vars h_117 [(b_34, [(Sl.v t16_25), (VI t16_26)]), (b_31, [(Sl.v t20_19)]), (b_2, [(Sl.v w1_1), (VI w1_2)]), (b_1, [(Sl.v g0_1)])] →
  J_1 b_34 t16_25 t16_26 b_31 t20_19 h_117) ∧
  (∀ (b_35 : Nat) (h_118 : Heap), h_113.size ≤ b_35 → Fr (In []) h_113 h_118 → Vars h_118 [(b_35, [(Sl.v nilSl), (VI 0)]), (b_31, [(Sl.v nilSl)]), (b_2, [(Sl.v w1_1), (VI w1_2)]), (b_1, [(Sl.v g0_1)])] →
  callM P 69 #[(Value.agg #[(Sl.v w1_1), (VI w1_2)])] h_118 fun rv_34 h_119 => ∃ t16_27 : Sl, ∃ t16_28 : Int, rv_34 = (Value.agg #[(Sl.v t16_27), (VI t16_28)]) ∧ Vars h_119 [(b_35, [(Sl.v nilSl), (VI 0)]), (b_31, [(Sl.v nilSl)]), (b_2, [(Sl.v w1_1), (VI w1_2)]), (b_1, [(Sl.v g0_1)])] ∧
  ∀ (h_120 : Heap), Fr (In [b_35]) h_119 h_120 → Vars h_120 [(b_35, [(Sl.v t16_27), (VI t16_28)]), (b_31, [(Sl.v nilSl)]), (b_2, [(Sl.v w1_1), (VI w1_2)]), (b_1, [(Sl.v g0_1)])] →
  ∀ (h_121 : Heap), Fr (In [b_31]) h_120 h_121 → Vars h_121 [(b_35, [(Sl.v t16_27), (VI t16_28)]), (b_31, [(Sl.v t20_19)]), (b_2, [(Sl.v w1_1), (VI w1_2)]), (b_1, [(Sl.v g0_1)])] →
  J_1 b_35 t16_27 t16_28 b_31 t20_19 h_121)) ∧
  (∀ (b_36 : Nat) (h_122 : Heap), h_100.size ≤ b_36 → Fr (In []) h_100 h_122 → Vars h_122 [(b_36, [(Sl.v nilSl), (VI 0)]), (b_31, [(Sl.v nilSl)]), (b_2, [(Sl.v w1_1), (VI w1_2)]), (b_1, [(Sl.v g0_1)])] →
  (callM P 69 #[(Value.agg #[(Sl.v w1_1), (VI w1_2)])] h_122 fun rv_35 h_123 => ∃ t16_29 : Sl, ∃ t16_30 : Int, rv_35 = (Value.agg #[(Sl.v t16_29), (VI t16_30)]) ∧ Vars h_123 [(b_36, [(Sl.v nilSl), (VI 0)]), (b_31, [(Sl.v nilSl)]), (b_2, [(Sl.v w1_1), (VI w1_2)]), (b_1, [(Sl.v g0_1)])] ∧
  (eop P (Instr.makeSlice 34 (VI (g0_1.n : Int)) (VI (g0_1.n : Int))) h_123 fun rv_36 h_124 => ∃ t20_20 : Sl, rv_36 = (Sl.v t20_20) ∧ Vars h_124 [(b_36, [(Sl.v nilSl), (VI 0)]), (b_31, [(Sl.v nilSl)]), (b_2, [(Sl.v w1_1), (VI w1_2)]), (b_1, [(Sl.v g0_1)])] ∧
  ∀ (h_125 : Heap), Fr (In [b_36]) h_124 h_125 → Vars h_125 [(b_36, [(Sl.v t16_29), (VI t16_30)]), (b_31, [(Sl.v nilSl)]), (b_2, [(Sl.v w1_1), (VI w1_2)]), (b_1, [(Sl.v g0_1)])] →
  ∀ (h_126 : Heap), Fr (In [b_31]) h_125 h_126 → Vars h_126 [(b_36, [(Sl.v t16_29), (VI t16_30)]), (b_31, [(Sl.v t20_20)]), (b_2, [(Sl.v w1_1), (VI w1_2)]), (b_1, [(Sl.v g0_1)])] →
  J_1 b_36 t16_29 t16_30 b_31 t20_20 h_126) ∧
  (∀ (h_127 : Heap), Fr (In [b_36]) h_123 h_127 → Vars h_127 [(b_36, [(Sl.v t16_29), (VI t16_30)]), (b_31, [(Sl.v nilSl)]), (b_2, [(Sl.v w1_1), (VI w1_2)]), (b_1, [(Sl.v g0_1)])] →
  eop P (Instr.makeSlice 34 (VI (g0_1.n : Int)) (VI (g0_1.n : Int))) h_127 fun rv_37 h_128 => ∃ t20_21 : Sl, rv_37 = (Sl.v t20_21) ∧ Vars h_128 [(b_36, [(Sl.v t16_29), (VI t16_30)]), (b_31, [(Sl.v nilSl)]), (b_2, [(Sl.v w1_1), (VI w1_2)]), (b_1, [(Sl.v g0_1)])] ∧
  ∀ (h_129 : Heap), Fr (In [b_31]) h_128 h_129 → Vars h_129 [(b_36, [(Sl.v t16_29), (VI t16_30)]), (b_31, [(Sl.v t20_21)]), (b_2, [(Sl.v w1_1), (VI w1_2)]), (b_1, [(Sl.v g0_1)])] →
  J_1 b_36 t16_29 t16_30 b_31 t20_21 h_129)) ∧
  (eop P (Instr.makeSlice 34 (VI (g0_1.n : Int)) (VI (g0_1.n : Int))) h_122 fun rv_38 h_130 => ∃ t20_22 : Sl, rv_38 = (Sl.v t20_22) ∧ Vars h_130 [(b_36, [(Sl.v nilSl), (VI 0)]), (b_31, [(Sl.v nilSl)]), (b_2, [(Sl.v w1_1), (VI w1_2)]), (b_1, [(Sl.v g0_1)])] ∧
  callM P 69 #[(Value.agg #[(Sl.v w1_1), (VI w1_2)])] h_130 fun rv_39 h_131 => ∃ t16_31 : Sl, ∃ t16_32 : Int, rv_39 = (Value.agg #[(Sl.v t16_31), (VI t16_32)]) ∧ Vars h_131 [(b_36, [(Sl.v nilSl), (VI 0)]), (b_31, [(Sl.v nilSl)]), (b_2, [(Sl.v w1_1), (VI w1_2)]), (b_1, [(Sl.v g0_1)])] ∧
  ∀ (h_132 : Heap), Fr (In [b_36]) h_131 h_132 → Vars h_132 [(b_36, [(Sl.v t16_31), (VI t16_32)]), (b_31, [(Sl.v nilSl)]), (b_2, [(Sl.v w1_1), (VI w1_2)]), (b_1, [(Sl.v g0_1)])] →
  ∀ (h_133 : Heap), Fr (In [b_31]) h_132 h_133 → Vars h_133 [(b_36, [(Sl.v t16_31), (VI t16_32)]), (b_31, [(Sl.v t20_22)]), (b_2, [(Sl.v w1_1), (VI w1_2)]), (b_1, [(Sl.v g0_1)])] →
  J_1 b_36 t16_31 t16_32 b_31 t20_22 h_133)))) ∧
  ∀ (b_3 : Nat) (x_1 : Sl) (x_2 : Int) (b_4 : Nat) (x_3 : Sl) (h_134 : Heap), J_1 b_3 x_1 x_2 b_4 x_3 h_134 → Vars h_134 [(b_4, [(Sl.v x_3)]), (b_3, [(Sl.v x_1), (VI x_2)]), (b_2, [(Sl.v w1_1), (VI w1_2)]), (b_1, [(Sl.v g0_1)])] →
  callM P 71 #[(Value.agg #[(Sl.v g0_1)]), (VP b_3 0), (VI n2_1), (Value.func (Fn.func 75) #[] #[(VP b_4 0), (VP b_3 0)])] h_134 fun rv_40 h_135 => ∃ x_4 : Sl, ∃ x_5 : Sl, ∃ x_6 : Int, ∃ t24_1 : Bool, rv_40 = (VB t24_1) ∧ Vars h_135 [(b_4, [(Sl.v x_4)]), (b_3, [(Sl.v x_5), (VI x_6)]), (b_2, [(Sl.v w1_1), (VI w1_2)]), (b_1, [(Sl.v g0_1)])] ∧
  ((!t24_1) = true →
  K (Value.tuple #[(Sl.v nilSl), (VB false)]) h_135) ∧
  ((!t24_1) = false →
  K (Value.tuple #[(Sl.v x_4), (VB true)]) h_135))
end Go.Proofs.YtkjkfjkapbpgiaaDoor
