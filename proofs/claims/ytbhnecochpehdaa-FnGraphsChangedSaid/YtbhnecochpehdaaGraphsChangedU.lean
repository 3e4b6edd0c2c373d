/-
  The same over typed data. Written by a program.
-/
import Derived.Test.YtbhnecochpehdaaGraphsChangedT
import Derived.Test.YtbhnecochpehdaaM2
set_option linter.unusedVariables false
set_option linter.unusedSimpArgs false
namespace Go.Proofs.Ytbhnecochpehdaa
open Go Go.Mx
theorem agg32 : aggC Try.prog 32 = some 1 := by kernel_rfl
theorem boo4 : Try.prog.underlying 4 = some .bool := by kernel_rfl
theorem fld109_0 : fieldC Try.prog 109 0 = some 0 := by kernel_rfl
theorem fld109_1 : fieldC Try.prog 109 1 = some 1 := by kernel_rfl
theorem fld109_2 : fieldC Try.prog 109 2 = some 2 := by kernel_rfl
theorem fld32_0 : fieldC Try.prog 32 0 = some 0 := by kernel_rfl
theorem one107 : oneC Try.prog 107 = true := by kernel_rfl
theorem one22 : oneC Try.prog 22 = true := by kernel_rfl
theorem one25 : oneC Try.prog 25 = true := by kernel_rfl
theorem one3 : oneC Try.prog 3 = true := by kernel_rfl
theorem one5 : oneC Try.prog 5 = true := by kernel_rfl
theorem one55 : oneC Try.prog 55 = true := by kernel_rfl
theorem siz107 : sizeC Try.prog 107 = some 1 := by kernel_rfl
theorem siz22 : sizeC Try.prog 22 = some 1 := by kernel_rfl
theorem siz25 : sizeC Try.prog 25 = some 1 := by kernel_rfl
theorem siz3 : sizeC Try.prog 3 = some 1 := by kernel_rfl
theorem siz32 : sizeC Try.prog 32 = some 1 := by kernel_rfl
theorem siz5 : sizeC Try.prog 5 = some 1 := by kernel_rfl
theorem sli22 : Try.prog.underlying 22 = some (.slice 25) := by kernel_rfl
theorem sli25 : Try.prog.underlying 25 = some (.slice 3) := by kernel_rfl
theorem sli55 : Try.prog.underlying 55 = some (.slice 5) := by kernel_rfl
theorem zer3 : zeroC Try.prog 3 = some (VI 0) := by kernel_rfl
theorem zer32 : zeroC Try.prog 32 = some (Value.agg #[(Sl.v nilSl)]) := by kernel_rfl
/-! laws.FnGraphsChanged -/
def u8 (P : Program) (code0_1 : Sl) (more1_1 : Sl) (h : Heap) (K : Value → Heap → Prop) : Prop :=
  callM P 32 #[(Sl.v code0_1), (Sl.v more1_1)] h fun rv_1 h_1 => ∃ t45_1 : Bool, rv_1 = (VB t45_1) ∧ Vars h_1 [] ∧
  (t45_1 = true →
  K (VB true) h_1) ∧
  (t45_1 = false →
  callM P 55 #[(Sl.v code0_1)] h_1 fun rv_2 h_2 => ∃ t48_1 : Sl, ∃ t48_2 : Int, ∃ t48_3 : Int, rv_2 = (Value.tuple #[(Value.agg #[(Sl.v t48_1)]), (VI t48_2), (VI t48_3)]) ∧ Vars h_2 [] ∧
  ∀ (b_1 : Nat) (h_4 : Heap), h_2.size ≤ b_1 → Fr (In []) h_2 h_4 → Vars h_4 [(b_1, [(Sl.v t48_1)])] →
  callM P 56 #[(Value.agg #[(Sl.v t48_1)]), (VI t48_2), (VI t48_3)] h_4 fun rv_3 h_5 => ∃ t56_1 : Sl, ∃ t56_2 : Bool, rv_3 = (Value.tuple #[(Value.agg #[(Sl.v t56_1)]), (VB t56_2)]) ∧ Vars h_5 [(b_1, [(Sl.v t48_1)])] ∧
  ∀ (b_2 : Nat) (h_7 : Heap), h_5.size ≤ b_2 → Fr (In []) h_5 h_7 → Vars h_7 [(b_2, [(Sl.v t56_1)]), (b_1, [(Sl.v t48_1)])] →
  callM P 57 #[(Value.agg #[(Sl.v t48_1)]), (VI t48_2), (VI t48_3)] h_7 fun rv_4 h_8 => ∃ t63_1 : Sl, ∃ t63_2 : Bool, rv_4 = (Value.tuple #[(Value.agg #[(Sl.v t63_1)]), (VB t63_2)]) ∧ Vars h_8 [(b_2, [(Sl.v t56_1)]), (b_1, [(Sl.v t48_1)])] ∧
  ((!(t56_2 == t63_2)) = true →
  ∀ (b_3 : Nat) (h_10 : Heap), h_8.size ≤ b_3 → Fr (In []) h_8 h_10 → Vars h_10 [(b_3, [(Sl.v t63_1)]), (b_2, [(Sl.v t56_1)]), (b_1, [(Sl.v t48_1)])] →
  K (VB false) h_10) ∧
  ((!(t56_2 == t63_2)) = false →
  ∀ (b_3 : Nat) (h_10 : Heap), h_8.size ≤ b_3 → Fr (In []) h_8 h_10 → Vars h_10 [(b_3, [(Sl.v t63_1)]), (b_2, [(Sl.v t56_1)]), (b_1, [(Sl.v t48_1)])] →
  callM P 58 #[(Value.agg #[(Sl.v t56_1)]), (Value.agg #[(Sl.v t63_1)])] h_10 fun rv_5 h_11 => ∃ t72_1 : Bool, rv_5 = (VB t72_1) ∧ Vars h_11 [(b_3, [(Sl.v t63_1)]), (b_2, [(Sl.v t56_1)]), (b_1, [(Sl.v t48_1)])] ∧
  ((!t72_1) = true →
  K (VB false) h_11) ∧
  ((!t72_1) = false →
  ∃ J_1 : Heap → Prop, ((t56_2 = true →
  InB t48_1 t48_2 ∧
  ∃ t80_1 : Sl, hcell h_11 (Sl.at t48_1 t48_2 1) = some (Sl.v t80_1) ∧
  ((decide (0 < (t80_1.n : Int))) = true →
  ∃ J_2 : Nat → Sl → Bool → Heap → Prop, ((t80_1.n : Int) ≠ 0 ∧
  (callM P 56 #[(Value.agg #[(Sl.v t56_1)]), (VI t48_2), (VI (w64 ((t80_1.n : Int) - (Int.tmod t48_3 (t80_1.n : Int)))))] h_11 fun rv_6 h_12 => ∃ t92_1 : Sl, ∃ t92_2 : Bool, rv_6 = (Value.tuple #[(Value.agg #[(Sl.v t92_1)]), (VB t92_2)]) ∧ Vars h_12 [(b_3, [(Sl.v t63_1)]), (b_2, [(Sl.v t56_1)]), (b_1, [(Sl.v t48_1)])] ∧
  ∀ (b_5 : Nat) (h_14 : Heap), h_12.size ≤ b_5 → Fr (In []) h_12 h_14 → Vars h_14 [(b_5, [(Sl.v t92_1)]), (b_3, [(Sl.v t63_1)]), (b_2, [(Sl.v t56_1)]), (b_1, [(Sl.v t48_1)])] →
  J_2 b_5 t92_1 t92_2 h_14) ∧
  (∀ (b_6 : Nat) (h_15 : Heap), h_11.size ≤ b_6 → Fr (In []) h_11 h_15 → Vars h_15 [(b_6, [(Sl.v nilSl)]), (b_3, [(Sl.v t63_1)]), (b_2, [(Sl.v t56_1)]), (b_1, [(Sl.v t48_1)])] →
  callM P 56 #[(Value.agg #[(Sl.v t56_1)]), (VI t48_2), (VI (w64 ((t80_1.n : Int) - (Int.tmod t48_3 (t80_1.n : Int)))))] h_15 fun rv_7 h_16 => ∃ t92_3 : Sl, ∃ t92_4 : Bool, rv_7 = (Value.tuple #[(Value.agg #[(Sl.v t92_3)]), (VB t92_4)]) ∧ Vars h_16 [(b_6, [(Sl.v nilSl)]), (b_3, [(Sl.v t63_1)]), (b_2, [(Sl.v t56_1)]), (b_1, [(Sl.v t48_1)])] ∧
  ∀ (h_17 : Heap), Fr (In [b_6]) h_16 h_17 → Vars h_17 [(b_6, [(Sl.v t92_3)]), (b_3, [(Sl.v t63_1)]), (b_2, [(Sl.v t56_1)]), (b_1, [(Sl.v t48_1)])] →
  J_2 b_6 t92_3 t92_4 h_17)) ∧
  ∀ (b_4 : Nat) (x_1 : Sl) (x_2 : Bool) (h_18 : Heap), J_2 b_4 x_1 x_2 h_18 → Vars h_18 [(b_4, [(Sl.v x_1)]), (b_3, [(Sl.v t63_1)]), (b_2, [(Sl.v t56_1)]), (b_1, [(Sl.v t48_1)])] →
  ((!x_2) = true →
  K (VB false) h_18) ∧
  ((!x_2) = false →
  callM P 58 #[(Value.agg #[(Sl.v x_1)]), (Value.agg #[(Sl.v t48_1)])] h_18 fun rv_8 h_19 => ∃ t100_1 : Bool, rv_8 = (VB t100_1) ∧ Vars h_19 [(b_4, [(Sl.v x_1)]), (b_3, [(Sl.v t63_1)]), (b_2, [(Sl.v t56_1)]), (b_1, [(Sl.v t48_1)])] ∧
  ((!t100_1) = true →
  K (VB false) h_19) ∧
  ((!t100_1) = false →
  InB t56_1 t48_2 ∧
  ∃ t108_1 : Sl, hcell h_19 (Sl.at t56_1 t48_2 1) = some (Sl.v t108_1) ∧
  InB t108_1 0 ∧
  ∃ t110_1 : Int, hcell h_19 (Sl.at t108_1 0 1) = some (VI t110_1) ∧
  InB t48_1 t48_2 ∧
  ∃ t115_1 : Sl, hcell h_19 (Sl.at t48_1 t48_2 1) = some (Sl.v t115_1) ∧
  (t80_1.n : Int) ≠ 0 ∧
  InB t115_1 (Int.tmod t48_3 (t80_1.n : Int)) ∧
  ∃ t120_1 : Int, hcell h_19 (Sl.at t115_1 (Int.tmod t48_3 (t80_1.n : Int)) 1) = some (VI t120_1) ∧
  ((!decide (t110_1 = t120_1)) = true →
  K (VB false) h_19) ∧
  ((!decide (t110_1 = t120_1)) = false →
  J_1  h_19)))) ∧
  ((decide (0 < (t80_1.n : Int))) = false →
  callM P 58 #[(Value.agg #[(Sl.v t56_1)]), (Value.agg #[(Sl.v t48_1)])] h_11 fun rv_9 h_20 => ∃ t125_1 : Bool, rv_9 = (VB t125_1) ∧ Vars h_20 [(b_3, [(Sl.v t63_1)]), (b_2, [(Sl.v t56_1)]), (b_1, [(Sl.v t48_1)])] ∧
  ((!t125_1) = true →
  K (VB false) h_20) ∧
  ((!t125_1) = false →
  J_1  h_20))) ∧
  (t56_2 = false →
  J_1  h_11)) ∧
  ∀ (h_21 : Heap), J_1  h_21 → Vars h_21 [(b_3, [(Sl.v t63_1)]), (b_2, [(Sl.v t56_1)]), (b_1, [(Sl.v t48_1)])] →
  callM P 59 #[(Sl.v more1_1)] h_21 fun rv_10 h_22 => ∃ t129_1 : Sl, ∃ t129_2 : Int, ∃ t129_3 : Int, rv_10 = (Value.tuple #[(Value.agg #[(Sl.v t129_1)]), (VI t129_2), (VI t129_3)]) ∧ Vars h_22 [(b_3, [(Sl.v t63_1)]), (b_2, [(Sl.v t56_1)]), (b_1, [(Sl.v t48_1)])] ∧
  ∀ (b_7 : Nat) (h_24 : Heap), h_22.size ≤ b_7 → Fr (In []) h_22 h_24 → Vars h_24 [(b_7, [(Sl.v t129_1)]), (b_3, [(Sl.v t63_1)]), (b_2, [(Sl.v t56_1)]), (b_1, [(Sl.v t48_1)])] →
  callM P 60 #[(Value.agg #[(Sl.v t129_1)]), (VI t129_2), (VI t129_3)] h_24 fun rv_11 h_25 => ∃ t137_1 : Sl, ∃ t137_2 : Bool, rv_11 = (Value.tuple #[(Value.agg #[(Sl.v t137_1)]), (VB t137_2)]) ∧ Vars h_25 [(b_7, [(Sl.v t129_1)]), (b_3, [(Sl.v t63_1)]), (b_2, [(Sl.v t56_1)]), (b_1, [(Sl.v t48_1)])] ∧
  ∀ (b_8 : Nat) (h_27 : Heap), h_25.size ≤ b_8 → Fr (In []) h_25 h_27 → Vars h_27 [(b_8, [(Sl.v t137_1)]), (b_7, [(Sl.v t129_1)]), (b_3, [(Sl.v t63_1)]), (b_2, [(Sl.v t56_1)]), (b_1, [(Sl.v t48_1)])] →
  callM P 61 #[(Value.agg #[(Sl.v t129_1)]), (VI t129_2), (VI t129_3)] h_27 fun rv_12 h_28 => ∃ t144_1 : Sl, ∃ t144_2 : Bool, rv_12 = (Value.tuple #[(Value.agg #[(Sl.v t144_1)]), (VB t144_2)]) ∧ Vars h_28 [(b_8, [(Sl.v t137_1)]), (b_7, [(Sl.v t129_1)]), (b_3, [(Sl.v t63_1)]), (b_2, [(Sl.v t56_1)]), (b_1, [(Sl.v t48_1)])] ∧
  ((!(t137_2 == t144_2)) = true →
  ∀ (b_9 : Nat) (h_30 : Heap), h_28.size ≤ b_9 → Fr (In []) h_28 h_30 → Vars h_30 [(b_9, [(Sl.v t144_1)]), (b_8, [(Sl.v t137_1)]), (b_7, [(Sl.v t129_1)]), (b_3, [(Sl.v t63_1)]), (b_2, [(Sl.v t56_1)]), (b_1, [(Sl.v t48_1)])] →
  K (VB false) h_30) ∧
  ((!(t137_2 == t144_2)) = false →
  ∀ (b_9 : Nat) (h_30 : Heap), h_28.size ≤ b_9 → Fr (In []) h_28 h_30 → Vars h_30 [(b_9, [(Sl.v t144_1)]), (b_8, [(Sl.v t137_1)]), (b_7, [(Sl.v t129_1)]), (b_3, [(Sl.v t63_1)]), (b_2, [(Sl.v t56_1)]), (b_1, [(Sl.v t48_1)])] →
  callM P 58 #[(Value.agg #[(Sl.v t137_1)]), (Value.agg #[(Sl.v t144_1)])] h_30 fun rv_13 h_31 => ∃ t153_1 : Bool, rv_13 = (VB t153_1) ∧ Vars h_31 [(b_9, [(Sl.v t144_1)]), (b_8, [(Sl.v t137_1)]), (b_7, [(Sl.v t129_1)]), (b_3, [(Sl.v t63_1)]), (b_2, [(Sl.v t56_1)]), (b_1, [(Sl.v t48_1)])] ∧
  ((!t153_1) = true →
  K (VB false) h_31) ∧
  ((!t153_1) = false →
  ∃ J_3 : Heap → Prop, ((t137_2 = true →
  callM P 62 #[(Value.agg #[(Sl.v t129_1)])] h_31 fun rv_14 h_32 => ∃ t159_1 : Int, ∃ t159_2 : Bool, rv_14 = (Value.tuple #[(VI t159_1), (VB t159_2)]) ∧ Vars h_32 [(b_9, [(Sl.v t144_1)]), (b_8, [(Sl.v t137_1)]), (b_7, [(Sl.v t129_1)]), (b_3, [(Sl.v t63_1)]), (b_2, [(Sl.v t56_1)]), (b_1, [(Sl.v t48_1)])] ∧
  callM P 62 #[(Value.agg #[(Sl.v t137_1)])] h_32 fun rv_15 h_33 => ∃ t164_1 : Int, ∃ t164_2 : Bool, rv_15 = (Value.tuple #[(VI t164_1), (VB t164_2)]) ∧ Vars h_33 [(b_9, [(Sl.v t144_1)]), (b_8, [(Sl.v t137_1)]), (b_7, [(Sl.v t129_1)]), (b_3, [(Sl.v t63_1)]), (b_2, [(Sl.v t56_1)]), (b_1, [(Sl.v t48_1)])] ∧
  callM P 63 #[(Value.agg #[(Sl.v t129_1)]), (VI t129_3)] h_33 fun rv_16 h_34 => ∃ t170_1 : Int, ∃ t170_2 : Bool, rv_16 = (Value.tuple #[(VI t170_1), (VB t170_2)]) ∧ Vars h_34 [(b_9, [(Sl.v t144_1)]), (b_8, [(Sl.v t137_1)]), (b_7, [(Sl.v t129_1)]), (b_3, [(Sl.v t63_1)]), (b_2, [(Sl.v t56_1)]), (b_1, [(Sl.v t48_1)])] ∧
  callM P 63 #[(Value.agg #[(Sl.v t137_1)]), (VI t129_3)] h_34 fun rv_17 h_35 => ∃ t176_1 : Int, ∃ t176_2 : Bool, rv_17 = (Value.tuple #[(VI t176_1), (VB t176_2)]) ∧ Vars h_35 [(b_9, [(Sl.v t144_1)]), (b_8, [(Sl.v t137_1)]), (b_7, [(Sl.v t129_1)]), (b_3, [(Sl.v t63_1)]), (b_2, [(Sl.v t56_1)]), (b_1, [(Sl.v t48_1)])] ∧
  ((!t159_2) = true →
  K (VB false) h_35) ∧
  ((!t159_2) = false →
  ((!t164_2) = true →
  K (VB false) h_35) ∧
  ((!t164_2) = false →
  ((!decide (t164_1 = (w64 (t159_1 + 1)))) = true →
  K (VB false) h_35) ∧
  ((!decide (t164_1 = (w64 (t159_1 + 1)))) = false →
  ((!t170_2) = true →
  K (VB false) h_35) ∧
  ((!t170_2) = false →
  ((!t176_2) = true →
  K (VB false) h_35) ∧
  ((!t176_2) = false →
  ((!decide (t176_1 = (w64 (t170_1 + 1)))) = true →
  K (VB false) h_35) ∧
  ((!decide (t176_1 = (w64 (t170_1 + 1)))) = false →
  J_3  h_35))))))) ∧
  (t137_2 = false →
  J_3  h_31)) ∧
  ∀ (h_36 : Heap), J_3  h_36 → Vars h_36 [(b_9, [(Sl.v t144_1)]), (b_8, [(Sl.v t137_1)]), (b_7, [(Sl.v t129_1)]), (b_3, [(Sl.v t63_1)]), (b_2, [(Sl.v t56_1)]), (b_1, [(Sl.v t48_1)])] →
  callM P 64 #[(Sl.v more1_1)] h_36 fun rv_18 h_37 => ∃ t207_1 : Int, ∃ t207_2 : Bool, rv_18 = (Value.tuple #[(VI t207_1), (VB t207_2)]) ∧ Vars h_37 [(b_9, [(Sl.v t144_1)]), (b_8, [(Sl.v t137_1)]), (b_7, [(Sl.v t129_1)]), (b_3, [(Sl.v t63_1)]), (b_2, [(Sl.v t56_1)]), (b_1, [(Sl.v t48_1)])] ∧
  callM P 65 #[(VI t207_1), (VB t207_2)] h_37 fun rv_19 h_38 => ∃ t213_1 : Sl, ∃ t213_2 : Bool, rv_19 = (Value.tuple #[(Value.agg #[(Sl.v t213_1)]), (VB t213_2)]) ∧ Vars h_38 [(b_9, [(Sl.v t144_1)]), (b_8, [(Sl.v t137_1)]), (b_7, [(Sl.v t129_1)]), (b_3, [(Sl.v t63_1)]), (b_2, [(Sl.v t56_1)]), (b_1, [(Sl.v t48_1)])] ∧
  ∀ (b_10 : Nat) (h_40 : Heap), h_38.size ≤ b_10 → Fr (In []) h_38 h_40 → Vars h_40 [(b_10, [(Sl.v t213_1)]), (b_9, [(Sl.v t144_1)]), (b_8, [(Sl.v t137_1)]), (b_7, [(Sl.v t129_1)]), (b_3, [(Sl.v t63_1)]), (b_2, [(Sl.v t56_1)]), (b_1, [(Sl.v t48_1)])] →
  callM P 66 #[(VI t207_1), (VB t207_2)] h_40 fun rv_20 h_41 => ∃ t219_1 : Sl, ∃ t219_2 : Bool, rv_20 = (Value.tuple #[(Value.agg #[(Sl.v t219_1)]), (VB t219_2)]) ∧ Vars h_41 [(b_10, [(Sl.v t213_1)]), (b_9, [(Sl.v t144_1)]), (b_8, [(Sl.v t137_1)]), (b_7, [(Sl.v t129_1)]), (b_3, [(Sl.v t63_1)]), (b_2, [(Sl.v t56_1)]), (b_1, [(Sl.v t48_1)])] ∧
  ((!(t213_2 == t219_2)) = true →
  ∀ (b_11 : Nat) (h_43 : Heap), h_41.size ≤ b_11 → Fr (In []) h_41 h_43 → Vars h_43 [(b_11, [(Sl.v t219_1)]), (b_10, [(Sl.v t213_1)]), (b_9, [(Sl.v t144_1)]), (b_8, [(Sl.v t137_1)]), (b_7, [(Sl.v t129_1)]), (b_3, [(Sl.v t63_1)]), (b_2, [(Sl.v t56_1)]), (b_1, [(Sl.v t48_1)])] →
  K (VB false) h_43) ∧
  ((!(t213_2 == t219_2)) = false →
  ∀ (b_11 : Nat) (h_43 : Heap), h_41.size ≤ b_11 → Fr (In []) h_41 h_43 → Vars h_43 [(b_11, [(Sl.v t219_1)]), (b_10, [(Sl.v t213_1)]), (b_9, [(Sl.v t144_1)]), (b_8, [(Sl.v t137_1)]), (b_7, [(Sl.v t129_1)]), (b_3, [(Sl.v t63_1)]), (b_2, [(Sl.v t56_1)]), (b_1, [(Sl.v t48_1)])] →
  callM P 58 #[(Value.agg #[(Sl.v t213_1)]), (Value.agg #[(Sl.v t219_1)])] h_43 fun rv_21 h_44 => ∃ t228_1 : Bool, rv_21 = (VB t228_1) ∧ Vars h_44 [(b_11, [(Sl.v t219_1)]), (b_10, [(Sl.v t213_1)]), (b_9, [(Sl.v t144_1)]), (b_8, [(Sl.v t137_1)]), (b_7, [(Sl.v t129_1)]), (b_3, [(Sl.v t63_1)]), (b_2, [(Sl.v t56_1)]), (b_1, [(Sl.v t48_1)])] ∧
  ((!t228_1) = true →
  K (VB false) h_44) ∧
  ((!t228_1) = false →
  (t213_2 = true →
  callM P 67 #[(Value.agg #[(Sl.v t213_1)])] h_44 fun rv_22 h_45 => ∃ t234_1 : Bool, ∃ t234_2 : Bool, rv_22 = (Value.tuple #[(VB t234_1), (VB t234_2)]) ∧ Vars h_45 [(b_11, [(Sl.v t219_1)]), (b_10, [(Sl.v t213_1)]), (b_9, [(Sl.v t144_1)]), (b_8, [(Sl.v t137_1)]), (b_7, [(Sl.v t129_1)]), (b_3, [(Sl.v t63_1)]), (b_2, [(Sl.v t56_1)]), (b_1, [(Sl.v t48_1)])] ∧
  callM P 68 #[(Value.agg #[(Sl.v t213_1)])] h_45 fun rv_23 h_46 => ∃ t239_1 : Bool, ∃ t239_2 : Bool, rv_23 = (Value.tuple #[(VB t239_1), (VB t239_2)]) ∧ Vars h_46 [(b_11, [(Sl.v t219_1)]), (b_10, [(Sl.v t213_1)]), (b_9, [(Sl.v t144_1)]), (b_8, [(Sl.v t137_1)]), (b_7, [(Sl.v t129_1)]), (b_3, [(Sl.v t63_1)]), (b_2, [(Sl.v t56_1)]), (b_1, [(Sl.v t48_1)])] ∧
  callM P 62 #[(Value.agg #[(Sl.v t213_1)])] h_46 fun rv_24 h_47 => ∃ t244_1 : Int, ∃ t244_2 : Bool, rv_24 = (Value.tuple #[(VI t244_1), (VB t244_2)]) ∧ Vars h_47 [(b_11, [(Sl.v t219_1)]), (b_10, [(Sl.v t213_1)]), (b_9, [(Sl.v t144_1)]), (b_8, [(Sl.v t137_1)]), (b_7, [(Sl.v t129_1)]), (b_3, [(Sl.v t63_1)]), (b_2, [(Sl.v t56_1)]), (b_1, [(Sl.v t48_1)])] ∧
  ∃ J_4 : Int → Heap → Prop, ((t207_2 = true →
  J_4 (w64 (2 * t207_1)) h_47) ∧
  (t207_2 = false →
  J_4 t207_1 h_47)) ∧
  ∀ (x_3 : Int) (h_48 : Heap), J_4 x_3 h_48 → Vars h_48 [(b_11, [(Sl.v t219_1)]), (b_10, [(Sl.v t213_1)]), (b_9, [(Sl.v t144_1)]), (b_8, [(Sl.v t137_1)]), (b_7, [(Sl.v t129_1)]), (b_3, [(Sl.v t63_1)]), (b_2, [(Sl.v t56_1)]), (b_1, [(Sl.v t48_1)])] →
  (t234_2 = true →
  (t234_1 = true →
  (t239_2 = true →
  (t239_1 = true →
  (t244_2 = true →
  K (VB (decide (t244_1 = x_3))) h_48) ∧
  (t244_2 = false →
  K (VB false) h_48)) ∧
  (t239_1 = false →
  K (VB false) h_48)) ∧
  (t239_2 = false →
  K (VB false) h_48)) ∧
  (t234_1 = false →
  K (VB false) h_48)) ∧
  (t234_2 = false →
  K (VB false) h_48)) ∧
  (t213_2 = false →
  K (VB true) h_44))))))))
theorem v8 (code0_1 : Sl) (more1_1 : Sl) (h : Heap) (K : Value → Heap → Prop) (H : u8 Try.prog code0_1 more1_1 h K) : callM Try.prog 8 #[(Sl.v code0_1), (Sl.v more1_1)] h K := by
  refine c8 (Sl.v code0_1) (Sl.v more1_1) h K ?_
  unfold u8 at H
  unfold t8
  have hL : Vars h [] := .nil
  refine H.mono fun rv_1 h_1 H => ?_
  obtain ⟨t45_1, rfl, hL_1, H⟩ := H
  refine condM_b (fun hb_1 => ?_) (fun hb_1 => ?_)
  · have H := H.1 hb_1
    exact H
  · have H := H.2 hb_1
    refine H.mono fun rv_2 h_2 H => ?_
    obtain ⟨t48_1, t48_2, t48_3, rfl, hL_2, H⟩ := H
    refine pop_ext (v := (Value.agg #[(Sl.v t48_1)])) rfl ?_
    refine pop_ext (v := (VI t48_2)) rfl ?_
    refine pop_ext (v := (VI t48_3)) rfl ?_
    refine eop_alloc 32 zer32 rfl hL_2 (fun b_1 h_3 hb_2 hf_1 hL_3 => ?_)
    refine uop_loc siz32 hL_3 0 rfl 0 [(Sl.v t48_1)] rfl rfl rfl (Nat.le_of_ble_eq_true rfl) (L' := [(b_1, [(Sl.v t48_1)])]) rfl (fun h_4 hf_2 hL_4 => ?_)
    refine rop_locA agg32 hL_4 0 rfl 0 (vs := [(Sl.v t48_1)]) rfl rfl ?_
    have H := H b_1 h_4 (Nat.le_trans (Fr.size (Fr.r (In []) _)) hb_2) (Fr.new (Fr.no' (Fr.r (In []) _) hf_1) (Nat.le_trans (Fr.size (Fr.r (In []) _)) hb_2) hf_2) hL_4
    refine H.mono fun rv_3 h_5 H => ?_
    obtain ⟨t56_1, t56_2, rfl, hL_5, H⟩ := H
    refine pop_ext (v := (Value.agg #[(Sl.v t56_1)])) rfl ?_
    refine pop_ext (v := (VB t56_2)) rfl ?_
    refine eop_alloc 32 zer32 rfl hL_5 (fun b_2 h_6 hb_3 hf_3 hL_6 => ?_)
    refine uop_loc siz32 hL_6 0 rfl 0 [(Sl.v t56_1)] rfl rfl rfl (Nat.le_of_ble_eq_true rfl) (L' := [(b_2, [(Sl.v t56_1)]), (b_1, [(Sl.v t48_1)])]) rfl (fun h_7 hf_4 hL_7 => ?_)
    refine rop_locA agg32 hL_7 1 rfl 0 (vs := [(Sl.v t48_1)]) rfl rfl ?_
    have H := H b_2 h_7 (Nat.le_trans (Fr.size (Fr.r (In []) _)) hb_3) (Fr.new (Fr.no' (Fr.r (In []) _) hf_3) (Nat.le_trans (Fr.size (Fr.r (In []) _)) hb_3) hf_4) hL_7
    refine H.mono fun rv_4 h_8 H => ?_
    obtain ⟨t63_1, t63_2, rfl, hL_8, H⟩ := H
    refine pop_ext (v := (Value.agg #[(Sl.v t63_1)])) rfl ?_
    refine pop_ext (v := (VB t63_2)) rfl ?_
    refine eop_alloc 32 zer32 rfl hL_8 (fun b_3 h_9 hb_4 hf_5 hL_9 => ?_)
    refine uop_loc siz32 hL_9 0 rfl 0 [(Sl.v t63_1)] rfl rfl rfl (Nat.le_of_ble_eq_true rfl) (L' := [(b_3, [(Sl.v t63_1)]), (b_2, [(Sl.v t56_1)]), (b_1, [(Sl.v t48_1)])]) rfl (fun h_10 hf_6 hL_10 => ?_)
    refine pop_bne boo4 _ _ t56_2 t63_2 ?_
    refine guardM_sf (fun hb_5 => ?_) (fun hb_5 => ?_)
    · have H := H.2 hb_5
      refine rop_locA agg32 hL_10 1 rfl 0 (vs := [(Sl.v t56_1)]) rfl rfl ?_
      refine guardM_y' hb_5 ?_
      refine rop_locA agg32 hL_10 0 rfl 0 (vs := [(Sl.v t63_1)]) rfl rfl ?_
      refine guardM_y' hb_5 ?_
      have H := H b_3 h_10 (Nat.le_trans (Fr.size (Fr.r (In []) _)) hb_4) (Fr.new (Fr.no' (Fr.r (In []) _) hf_5) (Nat.le_trans (Fr.size (Fr.r (In []) _)) hb_4) hf_6) hL_10
      refine H.mono fun rv_5 h_11 H => ?_
      obtain ⟨t72_1, rfl, hL_11, H⟩ := H
      refine guardM_y' hb_5 ?_
      refine pop_not t72_1 ?_
      refine pop_pickf' hb_5 ?_
      refine condM_b (fun hb_6 => ?_) (fun hb_6 => ?_)
      · have H := H.1 hb_6
        exact H
      · have H := H.2 hb_6
        obtain ⟨J_1, H, HB_4⟩ := H
        refine ⟨fun (vs : List Value) (h' : Heap) => vs = [] ∧ J_1  h' ∧ Vars h' [(b_3, [(Sl.v t63_1)]), (b_2, [(Sl.v t56_1)]), (b_1, [(Sl.v t48_1)])], ?_, ?_⟩
        · refine condM_b (fun hb_7 => ?_) (fun hb_7 => ?_)
          · have H := H.1 hb_7
            refine pop_field 0 fld32_0 b_1 0 ?_
            refine rop_loc one22 hL_11 2 rfl 0 (v := (Sl.v t48_1)) rfl ?_
            obtain ⟨hi_1, H⟩ := H
            refine pop_index sli22 siz25 .i64 t48_1 t48_2 hi_1 ?_
            obtain ⟨t80_1, hc_5, H⟩ := H
            refine rop_one one25 (Sl.v t80_1) hc_5 ?_
            refine pop_len t80_1 _ _ sli25 ?_
            refine pop_gtr .i64 (t80_1.n : Int) 0 ?_
            refine condM_b (fun hb_8 => ?_) (fun hb_8 => ?_)
            · have H := H.1 hb_8
              obtain ⟨J_2, H, HB_1⟩ := H
              refine ⟨fun (vs : List Value) (h' : Heap) => ∃ b_4 : Nat, ∃ x_1 : Sl, ∃ x_2 : Bool, vs = [(VP b_4 0), (VB x_2)] ∧ J_2 b_4 x_1 x_2 h' ∧ Vars h' [(b_4, [(Sl.v x_1)]), (b_3, [(Sl.v t63_1)]), (b_2, [(Sl.v t56_1)]), (b_1, [(Sl.v t48_1)])], ?_, ?_⟩
              · refine rop_locA agg32 hL_11 1 rfl 0 (vs := [(Sl.v t56_1)]) rfl rfl ?_
                obtain ⟨hz_1, H⟩ := H
                refine pop_rem .i64 t48_3 (t80_1.n : Int) hz_1 ?_
                refine pop_sub .i64 (t80_1.n : Int) (Int.tmod t48_3 (t80_1.n : Int)) ?_
                refine ⟨?_, ?_⟩
                · have H := H.1
                  refine H.mono fun rv_6 h_12 H => ?_
                  obtain ⟨t92_1, t92_2, rfl, hL_12, H⟩ := H
                  refine pop_ext (v := (Value.agg #[(Sl.v t92_1)])) rfl ?_
                  refine pop_ext (v := (VB t92_2)) rfl ?_
                  refine eop_alloc 32 zer32 rfl hL_12 (fun b_5 h_13 hb_9 hf_7 hL_13 => ?_)
                  refine uop_loc siz32 hL_13 0 rfl 0 [(Sl.v t92_1)] rfl rfl rfl (Nat.le_of_ble_eq_true rfl) (L' := [(b_5, [(Sl.v t92_1)]), (b_3, [(Sl.v t63_1)]), (b_2, [(Sl.v t56_1)]), (b_1, [(Sl.v t48_1)])]) rfl (fun h_14 hf_8 hL_14 => ?_)
                  have H := H b_5 h_14 (Nat.le_trans (Fr.size (Fr.r (In []) _)) hb_9) (Fr.new (Fr.no' (Fr.r (In []) _) hf_7) (Nat.le_trans (Fr.size (Fr.r (In []) _)) hb_9) hf_8) hL_14
                  exact ⟨b_5, t92_1, t92_2, rfl, H, hL_14⟩
                · have H := H.2
                  refine eop_alloc 32 zer32 rfl hL_11 (fun b_6 h_15 hb_10 hf_9 hL_15 => ?_)
                  have H := H b_6 h_15 (Nat.le_trans (Fr.size (Fr.r (In []) _)) hb_10) (Fr.no' (Fr.r (In []) _) hf_9) hL_15
                  refine ⟨?_, ?_⟩
                  · exact still_locA agg32 hL_15 2 rfl 0 (vs := [(Sl.v t56_1)]) rfl rfl
                  refine H.mono fun rv_7 h_16 H => ?_
                  obtain ⟨t92_3, t92_4, rfl, hL_16, H⟩ := H
                  refine pop_ext (v := (Value.agg #[(Sl.v t92_3)])) rfl ?_
                  refine pop_ext (v := (VB t92_4)) rfl ?_
                  refine uop_loc siz32 hL_16 0 rfl 0 [(Sl.v t92_3)] rfl rfl rfl (Nat.le_of_ble_eq_true rfl) (L' := [(b_6, [(Sl.v t92_3)]), (b_3, [(Sl.v t63_1)]), (b_2, [(Sl.v t56_1)]), (b_1, [(Sl.v t48_1)])]) rfl (fun h_17 hf_10 hL_17 => ?_)
                  have H := H  h_17  (Fr.old (Fr.r (In []) _) hf_10) hL_17
                  exact ⟨b_6, t92_3, t92_4, rfl, H, hL_17⟩
              intro junk_1 tv_1 tv_2 h_18
              rintro ⟨b_4, x_1, x_2, hv, hJ_1, hL_18⟩
              cases hv
              have H := HB_1 b_4 x_1 x_2 h_18 hJ_1 hL_18
              refine pop_not x_2 ?_
              refine guardM_sf (fun hb_11 => ?_) (fun hb_11 => ?_)
              · have H := H.2 hb_11
                refine rop_locA agg32 hL_18 0 rfl 0 (vs := [(Sl.v x_1)]) rfl rfl ?_
                refine guardM_y' hb_11 ?_
                refine rop_locA agg32 hL_18 3 rfl 0 (vs := [(Sl.v t48_1)]) rfl rfl ?_
                refine guardM_y' hb_11 ?_
                refine H.mono fun rv_8 h_19 H => ?_
                obtain ⟨t100_1, rfl, hL_19, H⟩ := H
                refine guardM_y' hb_11 ?_
                refine pop_not t100_1 ?_
                refine pop_pickf' hb_11 ?_
                refine guardM_sf (fun hb_12 => ?_) (fun hb_12 => ?_)
                · have H := H.2 hb_12
                  refine pop_field 0 fld32_0 b_2 0 ?_
                  refine guardM_y' hb_12 ?_
                  refine rop_loc one22 hL_19 2 rfl 0 (v := (Sl.v t56_1)) rfl ?_
                  refine guardM_y' hb_12 ?_
                  refine guardM_y' hb_12 ?_
                  obtain ⟨hi_2, H⟩ := H
                  refine pop_index sli22 siz25 .i64 t56_1 t48_2 hi_2 ?_
                  refine guardM_y' hb_12 ?_
                  obtain ⟨t108_1, hc_4, H⟩ := H
                  refine rop_one one25 (Sl.v t108_1) hc_4 ?_
                  refine guardM_y' hb_12 ?_
                  obtain ⟨hi_3, H⟩ := H
                  refine pop_index sli25 siz3 .i64 t108_1 0 hi_3 ?_
                  refine guardM_y' hb_12 ?_
                  obtain ⟨t110_1, hc_3, H⟩ := H
                  refine rop_one one3 (VI t110_1) hc_3 ?_
                  refine guardM_y' hb_12 ?_
                  refine pop_field 0 fld32_0 b_1 0 ?_
                  refine guardM_y' hb_12 ?_
                  refine rop_loc one22 hL_19 3 rfl 0 (v := (Sl.v t48_1)) rfl ?_
                  refine guardM_y' hb_12 ?_
                  refine guardM_y' hb_12 ?_
                  obtain ⟨hi_4, H⟩ := H
                  refine pop_index sli22 siz25 .i64 t48_1 t48_2 hi_4 ?_
                  refine guardM_y' hb_12 ?_
                  obtain ⟨t115_1, hc_2, H⟩ := H
                  refine rop_one one25 (Sl.v t115_1) hc_2 ?_
                  refine guardM_y' hb_12 ?_
                  refine guardM_y' hb_12 ?_
                  refine guardM_y' hb_12 ?_
                  obtain ⟨hz_2, H⟩ := H
                  refine pop_rem .i64 t48_3 (t80_1.n : Int) hz_2 ?_
                  refine guardM_y' hb_12 ?_
                  obtain ⟨hi_5, H⟩ := H
                  refine pop_index sli25 siz3 .i64 t115_1 (Int.tmod t48_3 (t80_1.n : Int)) hi_5 ?_
                  refine guardM_y' hb_12 ?_
                  obtain ⟨t120_1, hc_1, H⟩ := H
                  refine rop_one one3 (VI t120_1) hc_1 ?_
                  refine guardM_y' hb_12 ?_
                  refine pop_ine .i64 _ _ t110_1 t120_1 ?_
                  refine pop_pickf' hb_12 ?_
                  refine condM_b (fun hb_13 => ?_) (fun hb_13 => ?_)
                  · have H := H.1 hb_13
                    exact H
                  · have H := H.2 hb_13
                    exact ⟨rfl, H, Vars.pick hL_19 [1, 2, 3] rfl⟩
                · have H := H.1 hb_12
                  refine guardM_n' hb_12 (by decide) ?_
                  refine guardM_n' hb_12 (by decide) ?_
                  refine guardM_n' hb_12 (by decide) ?_
                  refine guardM_n' hb_12 (by decide) ?_
                  refine guardM_n' hb_12 (by decide) ?_
                  refine guardM_n' hb_12 (by decide) ?_
                  refine guardM_n' hb_12 (by decide) ?_
                  refine guardM_n' hb_12 (by decide) ?_
                  refine guardM_n' hb_12 (by decide) ?_
                  refine guardM_n' hb_12 (by decide) ?_
                  refine guardM_n' hb_12 (by decide) ?_
                  refine guardM_n' hb_12 (by decide) ?_
                  refine guardM_n' hb_12 (by decide) ?_
                  refine guardM_n' hb_12 (by decide) ?_
                  refine guardM_n' hb_12 (by decide) ?_
                  refine guardM_n' hb_12 (by decide) ?_
                  refine guardM_n' hb_12 (by decide) ?_
                  refine pop_pickt' hb_12 ?_
                  refine condM_t ?_
                  exact H
              · have H := H.1 hb_11
                refine guardM_n' hb_11 (by decide) ?_
                refine guardM_n' hb_11 (by decide) ?_
                refine guardM_n' hb_11 (by decide) ?_
                refine pop_pickt' hb_11 ?_
                refine guardM_n (by decide) ?_
                refine guardM_n (by decide) ?_
                refine guardM_n (by decide) ?_
                refine guardM_n (by decide) ?_
                refine guardM_n (by decide) ?_
                refine guardM_n (by decide) ?_
                refine guardM_n (by decide) ?_
                refine guardM_n (by decide) ?_
                refine guardM_n (by decide) ?_
                refine guardM_n (by decide) ?_
                refine guardM_n (by decide) ?_
                refine guardM_n (by decide) ?_
                refine guardM_n (by decide) ?_
                refine guardM_n (by decide) ?_
                refine guardM_n (by decide) ?_
                refine guardM_n (by decide) ?_
                refine guardM_n (by decide) ?_
                refine guardM_n (by decide) ?_
                refine pop_pickt _ _ ?_
                refine condM_t ?_
                exact H
            · have H := H.2 hb_8
              refine rop_locA agg32 hL_11 1 rfl 0 (vs := [(Sl.v t56_1)]) rfl rfl ?_
              refine rop_locA agg32 hL_11 2 rfl 0 (vs := [(Sl.v t48_1)]) rfl rfl ?_
              refine H.mono fun rv_9 h_20 H => ?_
              obtain ⟨t125_1, rfl, hL_20, H⟩ := H
              refine pop_not t125_1 ?_
              refine condM_b (fun hb_14 => ?_) (fun hb_14 => ?_)
              · have H := H.1 hb_14
                exact H
              · have H := H.2 hb_14
                exact ⟨rfl, H, hL_20⟩
          · have H := H.2 hb_7
            exact ⟨rfl, H, hL_11⟩
        intro junk_2  h_21
        rintro ⟨hv, hJ_2, hL_21⟩
        have H := HB_4  h_21 hJ_2 hL_21
        refine H.mono fun rv_10 h_22 H => ?_
        obtain ⟨t129_1, t129_2, t129_3, rfl, hL_22, H⟩ := H
        refine pop_ext (v := (Value.agg #[(Sl.v t129_1)])) rfl ?_
        refine pop_ext (v := (VI t129_2)) rfl ?_
        refine pop_ext (v := (VI t129_3)) rfl ?_
        refine eop_alloc 32 zer32 rfl hL_22 (fun b_7 h_23 hb_15 hf_11 hL_23 => ?_)
        refine uop_loc siz32 hL_23 0 rfl 0 [(Sl.v t129_1)] rfl rfl rfl (Nat.le_of_ble_eq_true rfl) (L' := [(b_7, [(Sl.v t129_1)]), (b_3, [(Sl.v t63_1)]), (b_2, [(Sl.v t56_1)]), (b_1, [(Sl.v t48_1)])]) rfl (fun h_24 hf_12 hL_24 => ?_)
        refine rop_locA agg32 hL_24 0 rfl 0 (vs := [(Sl.v t129_1)]) rfl rfl ?_
        have H := H b_7 h_24 (Nat.le_trans (Fr.size (Fr.r (In []) _)) hb_15) (Fr.new (Fr.no' (Fr.r (In []) _) hf_11) (Nat.le_trans (Fr.size (Fr.r (In []) _)) hb_15) hf_12) hL_24
        refine H.mono fun rv_11 h_25 H => ?_
        obtain ⟨t137_1, t137_2, rfl, hL_25, H⟩ := H
        refine pop_ext (v := (Value.agg #[(Sl.v t137_1)])) rfl ?_
        refine pop_ext (v := (VB t137_2)) rfl ?_
        refine eop_alloc 32 zer32 rfl hL_25 (fun b_8 h_26 hb_16 hf_13 hL_26 => ?_)
        refine uop_loc siz32 hL_26 0 rfl 0 [(Sl.v t137_1)] rfl rfl rfl (Nat.le_of_ble_eq_true rfl) (L' := [(b_8, [(Sl.v t137_1)]), (b_7, [(Sl.v t129_1)]), (b_3, [(Sl.v t63_1)]), (b_2, [(Sl.v t56_1)]), (b_1, [(Sl.v t48_1)])]) rfl (fun h_27 hf_14 hL_27 => ?_)
        refine rop_locA agg32 hL_27 1 rfl 0 (vs := [(Sl.v t129_1)]) rfl rfl ?_
        have H := H b_8 h_27 (Nat.le_trans (Fr.size (Fr.r (In []) _)) hb_16) (Fr.new (Fr.no' (Fr.r (In []) _) hf_13) (Nat.le_trans (Fr.size (Fr.r (In []) _)) hb_16) hf_14) hL_27
        refine H.mono fun rv_12 h_28 H => ?_
        obtain ⟨t144_1, t144_2, rfl, hL_28, H⟩ := H
        refine pop_ext (v := (Value.agg #[(Sl.v t144_1)])) rfl ?_
        refine pop_ext (v := (VB t144_2)) rfl ?_
        refine eop_alloc 32 zer32 rfl hL_28 (fun b_9 h_29 hb_17 hf_15 hL_29 => ?_)
        refine uop_loc siz32 hL_29 0 rfl 0 [(Sl.v t144_1)] rfl rfl rfl (Nat.le_of_ble_eq_true rfl) (L' := [(b_9, [(Sl.v t144_1)]), (b_8, [(Sl.v t137_1)]), (b_7, [(Sl.v t129_1)]), (b_3, [(Sl.v t63_1)]), (b_2, [(Sl.v t56_1)]), (b_1, [(Sl.v t48_1)])]) rfl (fun h_30 hf_16 hL_30 => ?_)
        refine pop_bne boo4 _ _ t137_2 t144_2 ?_
        refine guardM_sf (fun hb_18 => ?_) (fun hb_18 => ?_)
        · have H := H.2 hb_18
          refine rop_locA agg32 hL_30 1 rfl 0 (vs := [(Sl.v t137_1)]) rfl rfl ?_
          refine guardM_y' hb_18 ?_
          refine rop_locA agg32 hL_30 0 rfl 0 (vs := [(Sl.v t144_1)]) rfl rfl ?_
          refine guardM_y' hb_18 ?_
          have H := H b_9 h_30 (Nat.le_trans (Fr.size (Fr.r (In []) _)) hb_17) (Fr.new (Fr.no' (Fr.r (In []) _) hf_15) (Nat.le_trans (Fr.size (Fr.r (In []) _)) hb_17) hf_16) hL_30
          refine H.mono fun rv_13 h_31 H => ?_
          obtain ⟨t153_1, rfl, hL_31, H⟩ := H
          refine guardM_y' hb_18 ?_
          refine pop_not t153_1 ?_
          refine pop_pickf' hb_18 ?_
          refine condM_b (fun hb_19 => ?_) (fun hb_19 => ?_)
          · have H := H.1 hb_19
            exact H
          · have H := H.2 hb_19
            obtain ⟨J_3, H, HB_3⟩ := H
            refine ⟨fun (vs : List Value) (h' : Heap) => vs = [] ∧ J_3  h' ∧ Vars h' [(b_9, [(Sl.v t144_1)]), (b_8, [(Sl.v t137_1)]), (b_7, [(Sl.v t129_1)]), (b_3, [(Sl.v t63_1)]), (b_2, [(Sl.v t56_1)]), (b_1, [(Sl.v t48_1)])], ?_, ?_⟩
            · refine condM_b (fun hb_20 => ?_) (fun hb_20 => ?_)
              · have H := H.1 hb_20
                refine rop_locA agg32 hL_31 2 rfl 0 (vs := [(Sl.v t129_1)]) rfl rfl ?_
                refine H.mono fun rv_14 h_32 H => ?_
                obtain ⟨t159_1, t159_2, rfl, hL_32, H⟩ := H
                refine pop_ext (v := (VI t159_1)) rfl ?_
                refine pop_ext (v := (VB t159_2)) rfl ?_
                refine rop_locA agg32 hL_32 1 rfl 0 (vs := [(Sl.v t137_1)]) rfl rfl ?_
                refine H.mono fun rv_15 h_33 H => ?_
                obtain ⟨t164_1, t164_2, rfl, hL_33, H⟩ := H
                refine pop_ext (v := (VI t164_1)) rfl ?_
                refine pop_ext (v := (VB t164_2)) rfl ?_
                refine rop_locA agg32 hL_33 2 rfl 0 (vs := [(Sl.v t129_1)]) rfl rfl ?_
                refine H.mono fun rv_16 h_34 H => ?_
                obtain ⟨t170_1, t170_2, rfl, hL_34, H⟩ := H
                refine pop_ext (v := (VI t170_1)) rfl ?_
                refine pop_ext (v := (VB t170_2)) rfl ?_
                refine rop_locA agg32 hL_34 1 rfl 0 (vs := [(Sl.v t137_1)]) rfl rfl ?_
                refine H.mono fun rv_17 h_35 H => ?_
                obtain ⟨t176_1, t176_2, rfl, hL_35, H⟩ := H
                refine pop_ext (v := (VI t176_1)) rfl ?_
                refine pop_ext (v := (VB t176_2)) rfl ?_
                refine pop_not t159_2 ?_
                refine guardM_sf (fun hb_21 => ?_) (fun hb_21 => ?_)
                · have H := H.2 hb_21
                  refine guardM_y' hb_21 ?_
                  refine pop_not t164_2 ?_
                  refine pop_pickf' hb_21 ?_
                  refine guardM_sf (fun hb_22 => ?_) (fun hb_22 => ?_)
                  · have H := H.2 hb_22
                    refine guardM_y' hb_22 ?_
                    refine guardM_y' hb_22 ?_
                    refine pop_add .i64 t159_1 1 ?_
                    refine guardM_y' hb_22 ?_
                    refine pop_ine .i64 _ _ t164_1 (w64 (t159_1 + 1)) ?_
                    refine pop_pickf' hb_22 ?_
                    refine guardM_sf (fun hb_23 => ?_) (fun hb_23 => ?_)
                    · have H := H.2 hb_23
                      refine guardM_y' hb_23 ?_
                      refine pop_not t170_2 ?_
                      refine pop_pickf' hb_23 ?_
                      refine guardM_sf (fun hb_24 => ?_) (fun hb_24 => ?_)
                      · have H := H.2 hb_24
                        refine guardM_y' hb_24 ?_
                        refine pop_not t176_2 ?_
                        refine pop_pickf' hb_24 ?_
                        refine guardM_sf (fun hb_25 => ?_) (fun hb_25 => ?_)
                        · have H := H.2 hb_25
                          refine guardM_y' hb_25 ?_
                          refine guardM_y' hb_25 ?_
                          refine pop_add .i64 t170_1 1 ?_
                          refine guardM_y' hb_25 ?_
                          refine pop_ine .i64 _ _ t176_1 (w64 (t170_1 + 1)) ?_
                          refine pop_pickf' hb_25 ?_
                          refine condM_b (fun hb_26 => ?_) (fun hb_26 => ?_)
                          · have H := H.1 hb_26
                            exact H
                          · have H := H.2 hb_26
                            exact ⟨rfl, H, hL_35⟩
                        · have H := H.1 hb_25
                          refine guardM_n' hb_25 (by decide) ?_
                          refine guardM_n' hb_25 (by decide) ?_
                          refine guardM_n' hb_25 (by decide) ?_
                          refine pop_pickt' hb_25 ?_
                          refine condM_t ?_
                          exact H
                      · have H := H.1 hb_24
                        refine guardM_n' hb_24 (by decide) ?_
                        refine pop_pickt' hb_24 ?_
                        refine guardM_n (by decide) ?_
                        refine guardM_n (by decide) ?_
                        refine guardM_n (by decide) ?_
                        refine guardM_n (by decide) ?_
                        refine pop_pickt _ _ ?_
                        refine condM_t ?_
                        exact H
                    · have H := H.1 hb_23
                      refine guardM_n' hb_23 (by decide) ?_
                      refine pop_pickt' hb_23 ?_
                      refine guardM_n (by decide) ?_
                      refine guardM_n (by decide) ?_
                      refine pop_pickt _ _ ?_
                      refine guardM_n (by decide) ?_
                      refine guardM_n (by decide) ?_
                      refine guardM_n (by decide) ?_
                      refine guardM_n (by decide) ?_
                      refine pop_pickt _ _ ?_
                      refine condM_t ?_
                      exact H
                  · have H := H.1 hb_22
                    refine guardM_n' hb_22 (by decide) ?_
                    refine guardM_n' hb_22 (by decide) ?_
                    refine guardM_n' hb_22 (by decide) ?_
                    refine pop_pickt' hb_22 ?_
                    refine guardM_n (by decide) ?_
                    refine guardM_n (by decide) ?_
                    refine pop_pickt _ _ ?_
                    refine guardM_n (by decide) ?_
                    refine guardM_n (by decide) ?_
                    refine pop_pickt _ _ ?_
                    refine guardM_n (by decide) ?_
                    refine guardM_n (by decide) ?_
                    refine guardM_n (by decide) ?_
                    refine guardM_n (by decide) ?_
                    refine pop_pickt _ _ ?_
                    refine condM_t ?_
                    exact H
                · have H := H.1 hb_21
                  refine guardM_n' hb_21 (by decide) ?_
                  refine pop_pickt' hb_21 ?_
                  refine guardM_n (by decide) ?_
                  refine guardM_n (by decide) ?_
                  refine guardM_n (by decide) ?_
                  refine guardM_n (by decide) ?_
                  refine pop_pickt _ _ ?_
                  refine guardM_n (by decide) ?_
                  refine guardM_n (by decide) ?_
                  refine pop_pickt _ _ ?_
                  refine guardM_n (by decide) ?_
                  refine guardM_n (by decide) ?_
                  refine pop_pickt _ _ ?_
                  refine guardM_n (by decide) ?_
                  refine guardM_n (by decide) ?_
                  refine guardM_n (by decide) ?_
                  refine guardM_n (by decide) ?_
                  refine pop_pickt _ _ ?_
                  refine condM_t ?_
                  exact H
              · have H := H.2 hb_20
                exact ⟨rfl, H, hL_31⟩
            intro junk_3  h_36
            rintro ⟨hv, hJ_3, hL_36⟩
            have H := HB_3  h_36 hJ_3 hL_36
            refine H.mono fun rv_18 h_37 H => ?_
            obtain ⟨t207_1, t207_2, rfl, hL_37, H⟩ := H
            refine pop_ext (v := (VI t207_1)) rfl ?_
            refine pop_ext (v := (VB t207_2)) rfl ?_
            refine H.mono fun rv_19 h_38 H => ?_
            obtain ⟨t213_1, t213_2, rfl, hL_38, H⟩ := H
            refine pop_ext (v := (Value.agg #[(Sl.v t213_1)])) rfl ?_
            refine pop_ext (v := (VB t213_2)) rfl ?_
            refine eop_alloc 32 zer32 rfl hL_38 (fun b_10 h_39 hb_27 hf_17 hL_39 => ?_)
            refine uop_loc siz32 hL_39 0 rfl 0 [(Sl.v t213_1)] rfl rfl rfl (Nat.le_of_ble_eq_true rfl) (L' := [(b_10, [(Sl.v t213_1)]), (b_9, [(Sl.v t144_1)]), (b_8, [(Sl.v t137_1)]), (b_7, [(Sl.v t129_1)]), (b_3, [(Sl.v t63_1)]), (b_2, [(Sl.v t56_1)]), (b_1, [(Sl.v t48_1)])]) rfl (fun h_40 hf_18 hL_40 => ?_)
            have H := H b_10 h_40 (Nat.le_trans (Fr.size (Fr.r (In []) _)) hb_27) (Fr.new (Fr.no' (Fr.r (In []) _) hf_17) (Nat.le_trans (Fr.size (Fr.r (In []) _)) hb_27) hf_18) hL_40
            refine H.mono fun rv_20 h_41 H => ?_
            obtain ⟨t219_1, t219_2, rfl, hL_41, H⟩ := H
            refine pop_ext (v := (Value.agg #[(Sl.v t219_1)])) rfl ?_
            refine pop_ext (v := (VB t219_2)) rfl ?_
            refine eop_alloc 32 zer32 rfl hL_41 (fun b_11 h_42 hb_28 hf_19 hL_42 => ?_)
            refine uop_loc siz32 hL_42 0 rfl 0 [(Sl.v t219_1)] rfl rfl rfl (Nat.le_of_ble_eq_true rfl) (L' := [(b_11, [(Sl.v t219_1)]), (b_10, [(Sl.v t213_1)]), (b_9, [(Sl.v t144_1)]), (b_8, [(Sl.v t137_1)]), (b_7, [(Sl.v t129_1)]), (b_3, [(Sl.v t63_1)]), (b_2, [(Sl.v t56_1)]), (b_1, [(Sl.v t48_1)])]) rfl (fun h_43 hf_20 hL_43 => ?_)
            refine pop_bne boo4 _ _ t213_2 t219_2 ?_
            refine guardM_sf (fun hb_29 => ?_) (fun hb_29 => ?_)
            · have H := H.2 hb_29
              refine rop_locA agg32 hL_43 1 rfl 0 (vs := [(Sl.v t213_1)]) rfl rfl ?_
              refine guardM_y' hb_29 ?_
              refine rop_locA agg32 hL_43 0 rfl 0 (vs := [(Sl.v t219_1)]) rfl rfl ?_
              refine guardM_y' hb_29 ?_
              have H := H b_11 h_43 (Nat.le_trans (Fr.size (Fr.r (In []) _)) hb_28) (Fr.new (Fr.no' (Fr.r (In []) _) hf_19) (Nat.le_trans (Fr.size (Fr.r (In []) _)) hb_28) hf_20) hL_43
              refine H.mono fun rv_21 h_44 H => ?_
              obtain ⟨t228_1, rfl, hL_44, H⟩ := H
              refine guardM_y' hb_29 ?_
              refine pop_not t228_1 ?_
              refine pop_pickf' hb_29 ?_
              refine condM_b (fun hb_30 => ?_) (fun hb_30 => ?_)
              · have H := H.1 hb_30
                exact H
              · have H := H.2 hb_30
                refine condM_b (fun hb_31 => ?_) (fun hb_31 => ?_)
                · have H := H.1 hb_31
                  refine rop_locA agg32 hL_44 1 rfl 0 (vs := [(Sl.v t213_1)]) rfl rfl ?_
                  refine H.mono fun rv_22 h_45 H => ?_
                  obtain ⟨t234_1, t234_2, rfl, hL_45, H⟩ := H
                  refine pop_ext (v := (VB t234_1)) rfl ?_
                  refine pop_ext (v := (VB t234_2)) rfl ?_
                  refine rop_locA agg32 hL_45 1 rfl 0 (vs := [(Sl.v t213_1)]) rfl rfl ?_
                  refine H.mono fun rv_23 h_46 H => ?_
                  obtain ⟨t239_1, t239_2, rfl, hL_46, H⟩ := H
                  refine pop_ext (v := (VB t239_1)) rfl ?_
                  refine pop_ext (v := (VB t239_2)) rfl ?_
                  refine rop_locA agg32 hL_46 1 rfl 0 (vs := [(Sl.v t213_1)]) rfl rfl ?_
                  refine H.mono fun rv_24 h_47 H => ?_
                  obtain ⟨t244_1, t244_2, rfl, hL_47, H⟩ := H
                  refine pop_ext (v := (VI t244_1)) rfl ?_
                  refine pop_ext (v := (VB t244_2)) rfl ?_
                  obtain ⟨J_4, H, HB_2⟩ := H
                  refine ⟨fun (vs : List Value) (h' : Heap) => ∃ x_3 : Int, vs = [(VI x_3)] ∧ J_4 x_3 h' ∧ Vars h' [(b_11, [(Sl.v t219_1)]), (b_10, [(Sl.v t213_1)]), (b_9, [(Sl.v t144_1)]), (b_8, [(Sl.v t137_1)]), (b_7, [(Sl.v t129_1)]), (b_3, [(Sl.v t63_1)]), (b_2, [(Sl.v t56_1)]), (b_1, [(Sl.v t48_1)])], ?_, ?_⟩
                  · refine condM_b (fun hb_32 => ?_) (fun hb_32 => ?_)
                    · have H := H.1 hb_32
                      refine pop_mul .i64 2 t207_1 ?_
                      exact ⟨(w64 (2 * t207_1)), rfl, H, hL_47⟩
                    · have H := H.2 hb_32
                      exact ⟨t207_1, rfl, H, hL_47⟩
                  intro junk_4 tv_3 h_48
                  rintro ⟨x_3, hv, hJ_4, hL_48⟩
                  cases hv
                  have H := HB_2 x_3 h_48 hJ_4 hL_48
                  refine guardM_st (fun hb_33 => ?_) (fun hb_33 => ?_)
                  · have H := H.1 hb_33
                    refine pop_pickt' hb_33 ?_
                    refine guardM_st (fun hb_34 => ?_) (fun hb_34 => ?_)
                    · have H := H.1 hb_34
                      refine pop_pickt' hb_34 ?_
                      refine guardM_st (fun hb_35 => ?_) (fun hb_35 => ?_)
                      · have H := H.1 hb_35
                        refine pop_pickt' hb_35 ?_
                        refine guardM_st (fun hb_36 => ?_) (fun hb_36 => ?_)
                        · have H := H.1 hb_36
                          refine pop_pickt' hb_36 ?_
                          refine guardM_st (fun hb_37 => ?_) (fun hb_37 => ?_)
                          · have H := H.1 hb_37
                            refine guardM_y' hb_37 ?_
                            refine guardM_y' hb_37 ?_
                            refine pop_ieq .i64 _ _ t244_1 x_3 ?_
                            refine pop_pickt' hb_37 ?_
                            exact H
                          · have H := H.2 hb_37
                            refine guardM_n' hb_37 (by decide) ?_
                            refine guardM_n' hb_37 (by decide) ?_
                            refine pop_pickf' hb_37 ?_
                            exact H
                        · have H := H.2 hb_36
                          refine pop_pickf' hb_36 ?_
                          refine guardM_n (by decide) ?_
                          refine guardM_n (by decide) ?_
                          refine guardM_n (by decide) ?_
                          refine pop_pickf _ _ ?_
                          exact H
                      · have H := H.2 hb_35
                        refine pop_pickf' hb_35 ?_
                        refine guardM_n (by decide) ?_
                        refine pop_pickf _ _ ?_
                        refine guardM_n (by decide) ?_
                        refine guardM_n (by decide) ?_
                        refine guardM_n (by decide) ?_
                        refine pop_pickf _ _ ?_
                        exact H
                    · have H := H.2 hb_34
                      refine pop_pickf' hb_34 ?_
                      refine guardM_n (by decide) ?_
                      refine pop_pickf _ _ ?_
                      refine guardM_n (by decide) ?_
                      refine pop_pickf _ _ ?_
                      refine guardM_n (by decide) ?_
                      refine guardM_n (by decide) ?_
                      refine guardM_n (by decide) ?_
                      refine pop_pickf _ _ ?_
                      exact H
                  · have H := H.2 hb_33
                    refine pop_pickf' hb_33 ?_
                    refine guardM_n (by decide) ?_
                    refine pop_pickf _ _ ?_
                    refine guardM_n (by decide) ?_
                    refine pop_pickf _ _ ?_
                    refine guardM_n (by decide) ?_
                    refine pop_pickf _ _ ?_
                    refine guardM_n (by decide) ?_
                    refine guardM_n (by decide) ?_
                    refine guardM_n (by decide) ?_
                    refine pop_pickf _ _ ?_
                    exact H
                · have H := H.2 hb_31
                  exact H
            · have H := H.1 hb_29
              refine guardM_n' hb_29 (by decide) ?_
              refine guardM_n' hb_29 (by decide) ?_
              refine guardM_n' hb_29 (by decide) ?_
              refine pop_pickt' hb_29 ?_
              refine condM_t ?_
              have H := H b_11 h_43 (Nat.le_trans (Fr.size (Fr.r (In []) _)) hb_28) (Fr.new (Fr.no' (Fr.r (In []) _) hf_19) (Nat.le_trans (Fr.size (Fr.r (In []) _)) hb_28) hf_20) hL_43
              exact H
        · have H := H.1 hb_18
          refine guardM_n' hb_18 (by decide) ?_
          refine guardM_n' hb_18 (by decide) ?_
          refine guardM_n' hb_18 (by decide) ?_
          refine pop_pickt' hb_18 ?_
          refine condM_t ?_
          have H := H b_9 h_30 (Nat.le_trans (Fr.size (Fr.r (In []) _)) hb_17) (Fr.new (Fr.no' (Fr.r (In []) _) hf_15) (Nat.le_trans (Fr.size (Fr.r (In []) _)) hb_17) hf_16) hL_30
          exact H
    · have H := H.1 hb_5
      refine guardM_n' hb_5 (by decide) ?_
      refine guardM_n' hb_5 (by decide) ?_
      refine guardM_n' hb_5 (by decide) ?_
      refine pop_pickt' hb_5 ?_
      refine condM_t ?_
      have H := H b_3 h_10 (Nat.le_trans (Fr.size (Fr.r (In []) _)) hb_4) (Fr.new (Fr.no' (Fr.r (In []) _) hf_5) (Nat.le_trans (Fr.size (Fr.r (In []) _)) hb_4) hf_6) hL_10
      exact H

/-! laws.big -/
def u32 (P : Program) (code0_1 : Sl) (more1_1 : Sl) (h : Heap) (K : Value → Heap → Prop) : Prop :=
  ((decide (1048576 < (code0_1.n : Int))) = true →
  K (VB true) h) ∧
  ((decide (1048576 < (code0_1.n : Int))) = false →
  K (VB (decide ((w64 (1048576 - (code0_1.n : Int))) < (more1_1.n : Int)))) h)
theorem v32 (code0_1 : Sl) (more1_1 : Sl) (h : Heap) (K : Value → Heap → Prop) (H : u32 Try.prog code0_1 more1_1 h K) : callM Try.prog 32 #[(Sl.v code0_1), (Sl.v more1_1)] h K := by
  refine c32 (Sl.v code0_1) (Sl.v more1_1) h K ?_
  unfold u32 at H
  unfold t32
  have hL : Vars h [] := .nil
  refine pop_len code0_1 _ _ sli55 ?_
  refine pop_gtr .i64 (code0_1.n : Int) 1048576 ?_
  refine guardM_sf (fun hb_1 => ?_) (fun hb_1 => ?_)
  · have H := H.2 hb_1
    refine guardM_y' hb_1 ?_
    refine pop_len more1_1 _ _ sli55 ?_
    refine guardM_y' hb_1 ?_
    refine guardM_y' hb_1 ?_
    refine pop_len code0_1 _ _ sli55 ?_
    refine guardM_y' hb_1 ?_
    refine pop_sub .i64 1048576 (code0_1.n : Int) ?_
    refine guardM_y' hb_1 ?_
    refine pop_gtr .i64 (more1_1.n : Int) (w64 (1048576 - (code0_1.n : Int))) ?_
    refine pop_pickf' hb_1 ?_
    exact H
  · have H := H.1 hb_1
    refine guardM_n' hb_1 (by decide) ?_
    refine guardM_n' hb_1 (by decide) ?_
    refine guardM_n' hb_1 (by decide) ?_
    refine guardM_n' hb_1 (by decide) ?_
    refine guardM_n' hb_1 (by decide) ?_
    refine pop_pickt' hb_1 ?_
    exact H

/-! spec.DrawTurnExits -/
def u55 (P : Program) (code0_1 : Sl) (h : Heap) (K : Value → Heap → Prop) : Prop :=
  ∀ (b_1 : Nat) (b_2 : Nat) (h_2 : Heap), h.size ≤ b_1 → h.size ≤ b_2 → Fr (In []) h h_2 → Vars h_2 [(b_2, [(Sl.v code0_1), (VI 0), (Value.int .u64 0)]), (b_1, [(Sl.v nilSl)])] →
  callM P 112 #[(VP b_2 0)] h_2 fun rv_1 h_3 => ∃ x_1 : Sl, ∃ x_2 : Int, ∃ x_3 : Int, ∃ t11_1 : Sl, rv_1 = (Value.agg #[(Sl.v t11_1)]) ∧ Vars h_3 [(b_2, [(Sl.v x_1), (VI x_2), (Value.int .u64 x_3)]), (b_1, [(Sl.v nilSl)])] ∧
  ∀ (b_3 : Nat) (h_5 : Heap), h_3.size ≤ b_3 → Fr (In []) h_3 h_5 → Vars h_5 [(b_3, [(Sl.v t11_1)]), (b_2, [(Sl.v x_1), (VI x_2), (Value.int .u64 x_3)]), (b_1, [(Sl.v nilSl)])] →
  callM P 99 #[(VP b_2 0), (VI 10)] h_5 fun rv_2 h_6 => ∃ x_4 : Sl, ∃ x_5 : Int, ∃ x_6 : Int, ∃ t13_1 : Bool, rv_2 = (VB t13_1) ∧ Vars h_6 [(b_3, [(Sl.v t11_1)]), (b_2, [(Sl.v x_4), (VI x_5), (Value.int .u64 x_6)]), (b_1, [(Sl.v nilSl)])] ∧
  (t13_1 = true →
  (callM P 106 #[(VP b_2 0), (Value.agg #[(Sl.v t11_1)])] h_6 fun rv_3 h_7 => ∃ x_7 : Sl, ∃ x_8 : Int, ∃ x_9 : Int, ∃ t17_1 : Int, rv_3 = (VI t17_1) ∧ Vars h_7 [(b_3, [(Sl.v t11_1)]), (b_2, [(Sl.v x_7), (VI x_8), (Value.int .u64 x_9)]), (b_1, [(Sl.v nilSl)])] ∧
  eop P (Instr.buildSlice 25 3 #[(0, (Value.int IntKind.i64 (-1))), (1, (Value.int IntKind.i64 1000)), (2, (Value.int IntKind.i64 1001))]) h_7 fun rv_4 h_8 => ∃ t19_1 : Sl, rv_4 = (Sl.v t19_1) ∧ Vars h_8 [(b_3, [(Sl.v t11_1)]), (b_2, [(Sl.v x_7), (VI x_8), (Value.int .u64 x_9)]), (b_1, [(Sl.v nilSl)])] ∧
  callM P 101 #[(VP b_2 0), (Sl.v t19_1)] h_8 fun rv_5 h_9 => ∃ x_10 : Sl, ∃ x_11 : Int, ∃ x_12 : Int, ∃ t20_1 : Int, rv_5 = (VI t20_1) ∧ Vars h_9 [(b_3, [(Sl.v t11_1)]), (b_2, [(Sl.v x_10), (VI x_11), (Value.int .u64 x_12)]), (b_1, [(Sl.v nilSl)])] ∧
  ∀ (h_10 : Heap), Fr (In [b_1]) h_9 h_10 → Vars h_10 [(b_3, [(Sl.v t11_1)]), (b_2, [(Sl.v x_10), (VI x_11), (Value.int .u64 x_12)]), (b_1, [(Sl.v t11_1)])] →
  K (Value.tuple #[(Value.agg #[(Sl.v t11_1)]), (VI t17_1), (VI t20_1)]) h_10) ∧
  (eop P (Instr.buildSlice 25 3 #[(0, (Value.int IntKind.i64 (-1))), (1, (Value.int IntKind.i64 1000)), (2, (Value.int IntKind.i64 1001))]) h_6 fun rv_6 h_11 => ∃ t19_2 : Sl, rv_6 = (Sl.v t19_2) ∧ Vars h_11 [(b_3, [(Sl.v t11_1)]), (b_2, [(Sl.v x_4), (VI x_5), (Value.int .u64 x_6)]), (b_1, [(Sl.v nilSl)])] ∧
  callM P 106 #[(VP b_2 0), (Value.agg #[(Sl.v t11_1)])] h_11 fun rv_7 h_12 => ∃ x_13 : Sl, ∃ x_14 : Int, ∃ x_15 : Int, ∃ t17_2 : Int, rv_7 = (VI t17_2) ∧ Vars h_12 [(b_3, [(Sl.v t11_1)]), (b_2, [(Sl.v x_13), (VI x_14), (Value.int .u64 x_15)]), (b_1, [(Sl.v nilSl)])] ∧
  callM P 101 #[(VP b_2 0), (Sl.v t19_2)] h_12 fun rv_8 h_13 => ∃ x_16 : Sl, ∃ x_17 : Int, ∃ x_18 : Int, ∃ t20_2 : Int, rv_8 = (VI t20_2) ∧ Vars h_13 [(b_3, [(Sl.v t11_1)]), (b_2, [(Sl.v x_16), (VI x_17), (Value.int .u64 x_18)]), (b_1, [(Sl.v nilSl)])] ∧
  ∀ (h_14 : Heap), Fr (In [b_1]) h_13 h_14 → Vars h_14 [(b_3, [(Sl.v t11_1)]), (b_2, [(Sl.v x_16), (VI x_17), (Value.int .u64 x_18)]), (b_1, [(Sl.v t11_1)])] →
  K (Value.tuple #[(Value.agg #[(Sl.v t11_1)]), (VI t17_2), (VI t20_2)]) h_14)) ∧
  (t13_1 = false →
  callM P 106 #[(VP b_2 0), (Value.agg #[(Sl.v t11_1)])] h_6 fun rv_9 h_15 => ∃ x_19 : Sl, ∃ x_20 : Int, ∃ x_21 : Int, ∃ t24_1 : Int, rv_9 = (VI t24_1) ∧ Vars h_15 [(b_3, [(Sl.v t11_1)]), (b_2, [(Sl.v x_19), (VI x_20), (Value.int .u64 x_21)]), (b_1, [(Sl.v nilSl)])] ∧
  callM P 100 #[(VP b_2 0), (VI 9)] h_15 fun rv_10 h_16 => ∃ x_22 : Sl, ∃ x_23 : Int, ∃ x_24 : Int, ∃ t26_1 : Int, rv_10 = (VI t26_1) ∧ Vars h_16 [(b_3, [(Sl.v t11_1)]), (b_2, [(Sl.v x_22), (VI x_23), (Value.int .u64 x_24)]), (b_1, [(Sl.v nilSl)])] ∧
  ∀ (h_17 : Heap), Fr (In [b_1]) h_16 h_17 → Vars h_17 [(b_3, [(Sl.v t11_1)]), (b_2, [(Sl.v x_22), (VI x_23), (Value.int .u64 x_24)]), (b_1, [(Sl.v t11_1)])] →
  K (Value.tuple #[(Value.agg #[(Sl.v t11_1)]), (VI t24_1), (VI t26_1)]) h_17)
theorem v55 (code0_1 : Sl) (h : Heap) (K : Value → Heap → Prop) (H : u55 Try.prog code0_1 h K) : callM Try.prog 55 #[(Sl.v code0_1)] h K := by
  refine c55 (Sl.v code0_1) h K ?_
  unfold u55 at H
  unfold t55
  have hL : Vars h [] := .nil
  refine eop_alloc 32 zer32 rfl hL (fun b_1 h_1 hb_1 hf_1 hL_1 => ?_)
  refine pop.mk' (v := (Value.agg #[(Sl.v code0_1), (VI 0), (Value.int .u64 0)])) (fun w => by kernel_rfl) ?_
  refine eop_box 109 (Value.agg #[(Sl.v code0_1), (VI 0), (Value.int .u64 0)]) rfl hL_1 (fun b_2 h_2 hb_2 hf_2 hL_2 => ?_)
  have H := H b_1 b_2 h_2 (Nat.le_trans (Fr.size (Fr.r (In []) _)) hb_1) (Nat.le_trans (Fr.size (Fr.no' (Fr.r (In []) _) hf_1)) hb_2) (Fr.no' (Fr.no' (Fr.r (In []) _) hf_1) hf_2) hL_2
  refine H.mono fun rv_1 h_3 H => ?_
  obtain ⟨x_1, x_2, x_3, t11_1, rfl, hL_3, H⟩ := H
  refine eop_alloc 32 zer32 rfl hL_3 (fun b_3 h_4 hb_3 hf_3 hL_4 => ?_)
  refine uop_loc siz32 hL_4 0 rfl 0 [(Sl.v t11_1)] rfl rfl rfl (Nat.le_of_ble_eq_true rfl) (L' := [(b_3, [(Sl.v t11_1)]), (b_2, [(Sl.v x_1), (VI x_2), (Value.int .u64 x_3)]), (b_1, [(Sl.v nilSl)])]) rfl (fun h_5 hf_4 hL_5 => ?_)
  have H := H b_3 h_5 (Nat.le_trans (Fr.size (Fr.r (In []) _)) hb_3) (Fr.new (Fr.no' (Fr.r (In []) _) hf_3) (Nat.le_trans (Fr.size (Fr.r (In []) _)) hb_3) hf_4) hL_5
  refine H.mono fun rv_2 h_6 H => ?_
  obtain ⟨x_4, x_5, x_6, t13_1, rfl, hL_6, H⟩ := H
  refine condM_b (fun hb_4 => ?_) (fun hb_4 => ?_)
  · have H := H.1 hb_4
    refine rop_locA agg32 hL_6 0 rfl 0 (vs := [(Sl.v t11_1)]) rfl rfl ?_
    refine rop_locA agg32 hL_6 0 rfl 0 (vs := [(Sl.v t11_1)]) rfl rfl ?_
    refine ⟨?_, ?_⟩
    · have H := H.1
      refine H.mono fun rv_3 h_7 H => ?_
      obtain ⟨x_7, x_8, x_9, t17_1, rfl, hL_7, H⟩ := H
      refine ⟨?_, ?_⟩
      · exact still_locA agg32 hL_7 0 rfl 0 (vs := [(Sl.v t11_1)]) rfl rfl
      refine H.mono fun rv_4 h_8 H => ?_
      obtain ⟨t19_1, rfl, hL_8, H⟩ := H
      refine ⟨?_, ?_⟩
      · exact still_locA agg32 hL_8 0 rfl 0 (vs := [(Sl.v t11_1)]) rfl rfl
      refine H.mono fun rv_5 h_9 H => ?_
      obtain ⟨x_10, x_11, x_12, t20_1, rfl, hL_9, H⟩ := H
      refine ⟨?_, ?_⟩
      · exact still_locA agg32 hL_9 0 rfl 0 (vs := [(Sl.v t11_1)]) rfl rfl
      refine uop_loc siz32 hL_9 2 rfl 0 [(Sl.v t11_1)] rfl rfl rfl (Nat.le_of_ble_eq_true rfl) (L' := [(b_3, [(Sl.v t11_1)]), (b_2, [(Sl.v x_10), (VI x_11), (Value.int .u64 x_12)]), (b_1, [(Sl.v t11_1)])]) rfl (fun h_10 hf_5 hL_10 => ?_)
      refine rop_locA agg32 hL_10 2 rfl 0 (vs := [(Sl.v t11_1)]) rfl rfl ?_
      have H := H  h_10  (Fr.old (Fr.r (In []) _) hf_5) hL_10
      exact H
    · have H := H.2
      refine H.mono fun rv_6 h_11 H => ?_
      obtain ⟨t19_2, rfl, hL_11, H⟩ := H
      refine ⟨?_, ?_⟩
      · exact still_locA agg32 hL_11 0 rfl 0 (vs := [(Sl.v t11_1)]) rfl rfl
      refine ⟨?_, ?_⟩
      · exact still_locA agg32 hL_11 0 rfl 0 (vs := [(Sl.v t11_1)]) rfl rfl
      refine H.mono fun rv_7 h_12 H => ?_
      obtain ⟨x_13, x_14, x_15, t17_2, rfl, hL_12, H⟩ := H
      refine ⟨?_, ?_⟩
      · exact still_locA agg32 hL_12 0 rfl 0 (vs := [(Sl.v t11_1)]) rfl rfl
      refine H.mono fun rv_8 h_13 H => ?_
      obtain ⟨x_16, x_17, x_18, t20_2, rfl, hL_13, H⟩ := H
      refine ⟨?_, ?_⟩
      · exact still_locA agg32 hL_13 0 rfl 0 (vs := [(Sl.v t11_1)]) rfl rfl
      refine uop_loc siz32 hL_13 2 rfl 0 [(Sl.v t11_1)] rfl rfl rfl (Nat.le_of_ble_eq_true rfl) (L' := [(b_3, [(Sl.v t11_1)]), (b_2, [(Sl.v x_16), (VI x_17), (Value.int .u64 x_18)]), (b_1, [(Sl.v t11_1)])]) rfl (fun h_14 hf_6 hL_14 => ?_)
      refine rop_locA agg32 hL_14 2 rfl 0 (vs := [(Sl.v t11_1)]) rfl rfl ?_
      have H := H  h_14  (Fr.old (Fr.r (In []) _) hf_6) hL_14
      exact H
  · have H := H.2 hb_4
    refine rop_locA agg32 hL_6 0 rfl 0 (vs := [(Sl.v t11_1)]) rfl rfl ?_
    refine rop_locA agg32 hL_6 0 rfl 0 (vs := [(Sl.v t11_1)]) rfl rfl ?_
    refine H.mono fun rv_9 h_15 H => ?_
    obtain ⟨x_19, x_20, x_21, t24_1, rfl, hL_15, H⟩ := H
    refine ⟨?_, ?_⟩
    · exact still_locA agg32 hL_15 0 rfl 0 (vs := [(Sl.v t11_1)]) rfl rfl
    refine H.mono fun rv_10 h_16 H => ?_
    obtain ⟨x_22, x_23, x_24, t26_1, rfl, hL_16, H⟩ := H
    refine ⟨?_, ?_⟩
    · exact still_locA agg32 hL_16 0 rfl 0 (vs := [(Sl.v t11_1)]) rfl rfl
    refine uop_loc siz32 hL_16 2 rfl 0 [(Sl.v t11_1)] rfl rfl rfl (Nat.le_of_ble_eq_true rfl) (L' := [(b_3, [(Sl.v t11_1)]), (b_2, [(Sl.v x_22), (VI x_23), (Value.int .u64 x_24)]), (b_1, [(Sl.v t11_1)])]) rfl (fun h_17 hf_7 hL_17 => ?_)
    refine rop_locA agg32 hL_17 2 rfl 0 (vs := [(Sl.v t11_1)]) rfl rfl ?_
    have H := H  h_17  (Fr.old (Fr.r (In []) _) hf_7) hL_17
    exact H

/-! impl.TurnExits -/
def u56 (P : Program) (g0_1 : Sl) (p1_1 : Int) (k2_1 : Int) (h : Heap) (K : Value → Heap → Prop) : Prop :=
  ∀ (b_1 : Nat) (b_2 : Nat) (h_2 : Heap), h.size ≤ b_1 → h.size ≤ b_2 → Fr (In []) h h_2 → Vars h_2 [(b_2, [(Sl.v nilSl)]), (b_1, [(Sl.v g0_1)])] →
  eop P (Instr.buildSlice 25 1 #[(0, (VI p1_1))]) h_2 fun rv_1 h_3 => ∃ t12_1 : Sl, rv_1 = (Sl.v t12_1) ∧ Vars h_3 [(b_2, [(Sl.v nilSl)]), (b_1, [(Sl.v g0_1)])] ∧
  callM P 107 #[(Value.agg #[(Sl.v g0_1)]), (Sl.v t12_1)] h_3 fun rv_2 h_4 => ∃ t13_1 : Bool, rv_2 = (VB t13_1) ∧ Vars h_4 [(b_2, [(Sl.v nilSl)]), (b_1, [(Sl.v g0_1)])] ∧
  ((!t13_1) = true →
  ∀ (h_15 : Heap), Fr (In [b_2]) h_4 h_15 → Vars h_15 [(b_2, [(Sl.v nilSl)]), (b_1, [(Sl.v g0_1)])] →
  K (Value.tuple #[(Value.agg #[(Sl.v nilSl)]), (VB false)]) h_15) ∧
  ((!t13_1) = false →
  callM P 113 #[(VI k2_1), (VI 0), (VI 1000)] h_4 fun rv_3 h_5 => ∃ t17_1 : Bool, rv_3 = (VB t17_1) ∧ Vars h_5 [(b_2, [(Sl.v nilSl)]), (b_1, [(Sl.v g0_1)])] ∧
  ((!t17_1) = true →
  ∀ (h_6 : Heap), Fr (In [b_2]) h_5 h_6 → Vars h_6 [(b_2, [(Sl.v nilSl)]), (b_1, [(Sl.v g0_1)])] →
  K (Value.tuple #[(Value.agg #[(Sl.v nilSl)]), (VB false)]) h_6) ∧
  ((!t17_1) = false →
  callM P 114 #[(Value.agg #[(Sl.v g0_1)])] h_5 fun rv_4 h_7 => ∃ t22_1 : Sl, rv_4 = (Value.agg #[(Sl.v t22_1)]) ∧ Vars h_7 [(b_2, [(Sl.v nilSl)]), (b_1, [(Sl.v g0_1)])] ∧
  ∀ (b_3 : Nat) (h_9 : Heap), h_7.size ≤ b_3 → Fr (In []) h_7 h_9 → Vars h_9 [(b_3, [(Sl.v t22_1)]), (b_2, [(Sl.v nilSl)]), (b_1, [(Sl.v g0_1)])] →
  ∃ J_1 : Heap → Prop, (InB g0_1 p1_1 ∧
  ∃ t27_1 : Sl, hcell h_9 (Sl.at g0_1 p1_1 1) = some (Sl.v t27_1) ∧
  ((decide (0 < (t27_1.n : Int))) = true →
  (t27_1.n : Int) ≠ 0 ∧
  pop P (Instr.sliceAt 25 (Sl.v t27_1) (some (VI (Int.tmod k2_1 (t27_1.n : Int)))) none none) fun rv_5 => ∃ t40_1 : Sl, rv_5 = (Sl.v t40_1) ∧ 
  pop P (Instr.sliceAt 25 (Sl.v t27_1) none (some (VI (Int.tmod k2_1 (t27_1.n : Int)))) none) fun rv_6 => ∃ t43_1 : Sl, rv_6 = (Sl.v t43_1) ∧ 
  eop P (Instr.buildSlice 22 2 #[(0, (Sl.v t40_1)), (1, (Sl.v t43_1))]) h_9 fun rv_7 h_10 => ∃ t44_1 : Sl, rv_7 = (Sl.v t44_1) ∧ Vars h_10 [(b_3, [(Sl.v t22_1)]), (b_2, [(Sl.v nilSl)]), (b_1, [(Sl.v g0_1)])] ∧
  callM P 115 #[(Sl.v t44_1)] h_10 fun rv_8 h_11 => ∃ t45_1 : Sl, rv_8 = (Sl.v t45_1) ∧ Vars h_11 [(b_3, [(Sl.v t22_1)]), (b_2, [(Sl.v nilSl)]), (b_1, [(Sl.v g0_1)])] ∧
  InB t22_1 p1_1 ∧
  Writable h_11 (Sl.at t22_1 p1_1 1) ∧ Vars (hset h_11 (Sl.at t22_1 p1_1 1) (Sl.v t45_1)) [(b_3, [(Sl.v t22_1)]), (b_2, [(Sl.v nilSl)]), (b_1, [(Sl.v g0_1)])] ∧
  ∀ h_12 : Heap, h_12 = hset h_11 (Sl.at t22_1 p1_1 1) (Sl.v t45_1) → Vars h_12 [(b_3, [(Sl.v t22_1)]), (b_2, [(Sl.v nilSl)]), (b_1, [(Sl.v g0_1)])] →
  J_1  h_12) ∧
  ((decide (0 < (t27_1.n : Int))) = false →
  J_1  h_9)) ∧
  ∀ (h_13 : Heap), J_1  h_13 → Vars h_13 [(b_3, [(Sl.v t22_1)]), (b_2, [(Sl.v nilSl)]), (b_1, [(Sl.v g0_1)])] →
  ∀ (h_14 : Heap), Fr (In [b_2]) h_13 h_14 → Vars h_14 [(b_3, [(Sl.v t22_1)]), (b_2, [(Sl.v t22_1)]), (b_1, [(Sl.v g0_1)])] →
  K (Value.tuple #[(Value.agg #[(Sl.v t22_1)]), (VB true)]) h_14))
theorem v56 (g0_1 : Sl) (p1_1 : Int) (k2_1 : Int) (h : Heap) (K : Value → Heap → Prop) (H : u56 Try.prog g0_1 p1_1 k2_1 h K) : callM Try.prog 56 #[(Value.agg #[(Sl.v g0_1)]), (VI p1_1), (VI k2_1)] h K := by
  refine c56 (Value.agg #[(Sl.v g0_1)]) (VI p1_1) (VI k2_1) h K ?_
  unfold u56 at H
  unfold t56
  have hL : Vars h [] := .nil
  refine eop_box 32 (Value.agg #[(Sl.v g0_1)]) rfl hL (fun b_1 h_1 hb_1 hf_1 hL_1 => ?_)
  refine eop_alloc 32 zer32 rfl hL_1 (fun b_2 h_2 hb_2 hf_2 hL_2 => ?_)
  refine rop_locA agg32 hL_2 1 rfl 0 (vs := [(Sl.v g0_1)]) rfl rfl ?_
  have H := H b_1 b_2 h_2 (Nat.le_trans (Fr.size (Fr.r (In []) _)) hb_1) (Nat.le_trans (Fr.size (Fr.no' (Fr.r (In []) _) hf_1)) hb_2) (Fr.no' (Fr.no' (Fr.r (In []) _) hf_1) hf_2) hL_2
  refine H.mono fun rv_1 h_3 H => ?_
  obtain ⟨t12_1, rfl, hL_3, H⟩ := H
  refine H.mono fun rv_2 h_4 H => ?_
  obtain ⟨t13_1, rfl, hL_4, H⟩ := H
  refine pop_not t13_1 ?_
  refine guardM_sf (fun hb_3 => ?_) (fun hb_3 => ?_)
  · have H := H.2 hb_3
    refine guardM_y' hb_3 ?_
    refine H.mono fun rv_3 h_5 H => ?_
    obtain ⟨t17_1, rfl, hL_5, H⟩ := H
    refine guardM_y' hb_3 ?_
    refine pop_not t17_1 ?_
    refine pop_pickf' hb_3 ?_
    refine condM_b (fun hb_4 => ?_) (fun hb_4 => ?_)
    · have H := H.1 hb_4
      refine pop.mk' (v := (Value.agg #[(Sl.v nilSl)])) (fun w => by kernel_rfl) ?_
      refine uop_loc siz32 hL_5 0 rfl 0 [(Sl.v nilSl)] rfl rfl rfl (Nat.le_of_ble_eq_true rfl) (L' := [(b_2, [(Sl.v nilSl)]), (b_1, [(Sl.v g0_1)])]) rfl (fun h_6 hf_3 hL_6 => ?_)
      refine rop_locA agg32 hL_6 0 rfl 0 (vs := [(Sl.v nilSl)]) rfl rfl ?_
      have H := H  h_6  (Fr.old (Fr.r (In []) _) hf_3) hL_6
      exact H
    · have H := H.2 hb_4
      refine rop_locA agg32 hL_5 1 rfl 0 (vs := [(Sl.v g0_1)]) rfl rfl ?_
      refine H.mono fun rv_4 h_7 H => ?_
      obtain ⟨t22_1, rfl, hL_7, H⟩ := H
      refine eop_alloc 32 zer32 rfl hL_7 (fun b_3 h_8 hb_5 hf_4 hL_8 => ?_)
      refine uop_loc siz32 hL_8 0 rfl 0 [(Sl.v t22_1)] rfl rfl rfl (Nat.le_of_ble_eq_true rfl) (L' := [(b_3, [(Sl.v t22_1)]), (b_2, [(Sl.v nilSl)]), (b_1, [(Sl.v g0_1)])]) rfl (fun h_9 hf_5 hL_9 => ?_)
      have H := H b_3 h_9 (Nat.le_trans (Fr.size (Fr.r (In []) _)) hb_5) (Fr.new (Fr.no' (Fr.r (In []) _) hf_4) (Nat.le_trans (Fr.size (Fr.r (In []) _)) hb_5) hf_5) hL_9
      obtain ⟨J_1, H, HB_1⟩ := H
      refine ⟨fun (vs : List Value) (h' : Heap) => vs = [] ∧ J_1  h' ∧ Vars h' [(b_3, [(Sl.v t22_1)]), (b_2, [(Sl.v nilSl)]), (b_1, [(Sl.v g0_1)])], ?_, ?_⟩
      · refine pop_field 0 fld32_0 b_1 0 ?_
        refine rop_loc one22 hL_9 2 rfl 0 (v := (Sl.v g0_1)) rfl ?_
        obtain ⟨hi_1, H⟩ := H
        refine pop_index sli22 siz25 .i64 g0_1 p1_1 hi_1 ?_
        obtain ⟨t27_1, hc_1, H⟩ := H
        refine rop_one one25 (Sl.v t27_1) hc_1 ?_
        refine pop_len t27_1 _ _ sli25 ?_
        refine pop_gtr .i64 (t27_1.n : Int) 0 ?_
        refine condM_b (fun hb_6 => ?_) (fun hb_6 => ?_)
        · have H := H.1 hb_6
          refine pop_len t27_1 _ _ sli25 ?_
          obtain ⟨hz_1, H⟩ := H
          refine pop_rem .i64 k2_1 (t27_1.n : Int) hz_1 ?_
          refine pop_field 0 fld32_0 b_3 0 ?_
          refine rop_loc one22 hL_9 0 rfl 0 (v := (Sl.v t22_1)) rfl ?_
          refine H.mono fun rv_5 H => ?_
          obtain ⟨t40_1, rfl, H⟩ := H
          refine H.mono fun rv_6 H => ?_
          obtain ⟨t43_1, rfl, H⟩ := H
          refine H.mono fun rv_7 h_10 H => ?_
          obtain ⟨t44_1, rfl, hL_10, H⟩ := H
          refine ⟨?_, ?_⟩
          · exact still_loc one22 hL_10 0 rfl 0 (v := (Sl.v t22_1)) rfl
          refine H.mono fun rv_8 h_11 H => ?_
          obtain ⟨t45_1, rfl, hL_11, H⟩ := H
          refine ⟨?_, ?_⟩
          · exact still_loc one22 hL_11 0 rfl 0 (v := (Sl.v t22_1)) rfl
          obtain ⟨hi_2, H⟩ := H
          refine pop_index sli22 siz25 .i64 t22_1 p1_1 hi_2 ?_
          obtain ⟨hw_1, hL_12, H⟩ := H
          refine uop_cell (v := (Sl.v t45_1)) siz25 hw_1 rfl (fun h_12 he_1 => ?_)
          rw [← he_1] at hL_12
          have H := H h_12 he_1 hL_12
          exact ⟨rfl, H, hL_12⟩
        · have H := H.2 hb_6
          exact ⟨rfl, H, hL_9⟩
      intro junk_1  h_13
      rintro ⟨hv, hJ_1, hL_13⟩
      have H := HB_1  h_13 hJ_1 hL_13
      refine rop_locA agg32 hL_13 0 rfl 0 (vs := [(Sl.v t22_1)]) rfl rfl ?_
      refine uop_loc siz32 hL_13 1 rfl 0 [(Sl.v t22_1)] rfl rfl rfl (Nat.le_of_ble_eq_true rfl) (L' := [(b_3, [(Sl.v t22_1)]), (b_2, [(Sl.v t22_1)]), (b_1, [(Sl.v g0_1)])]) rfl (fun h_14 hf_6 hL_14 => ?_)
      refine rop_locA agg32 hL_14 1 rfl 0 (vs := [(Sl.v t22_1)]) rfl rfl ?_
      have H := H  h_14  (Fr.old (Fr.r (In []) _) hf_6) hL_14
      exact H
  · have H := H.1 hb_3
    refine guardM_n' hb_3 (by decide) ?_
    refine guardM_n' hb_3 (by decide) ?_
    refine pop_pickt' hb_3 ?_
    refine condM_t ?_
    refine pop.mk' (v := (Value.agg #[(Sl.v nilSl)])) (fun w => by kernel_rfl) ?_
    refine uop_loc siz32 hL_4 0 rfl 0 [(Sl.v nilSl)] rfl rfl rfl (Nat.le_of_ble_eq_true rfl) (L' := [(b_2, [(Sl.v nilSl)]), (b_1, [(Sl.v g0_1)])]) rfl (fun h_15 hf_7 hL_15 => ?_)
    refine rop_locA agg32 hL_15 0 rfl 0 (vs := [(Sl.v nilSl)]) rfl rfl ?_
    have H := H  h_15  (Fr.old (Fr.r (In []) _) hf_7) hL_15
    exact H

/-! spec.TurnExits -/
def u57 (P : Program) (g0_1 : Sl) (p1_1 : Int) (k2_1 : Int) (h : Heap) (K : Value → Heap → Prop) : Prop :=
  ∀ (b_1 : Nat) (b_2 : Nat) (h_2 : Heap), h.size ≤ b_1 → h.size ≤ b_2 → Fr (In []) h h_2 → Vars h_2 [(b_2, [(Sl.v nilSl)]), (b_1, [(Sl.v g0_1)])] →
  callM P 116 #[(Value.agg #[(Sl.v g0_1)]), (VI p1_1)] h_2 fun rv_1 h_3 => ∃ t14_1 : Bool, rv_1 = (VB t14_1) ∧ Vars h_3 [(b_2, [(Sl.v nilSl)]), (b_1, [(Sl.v g0_1)])] ∧
  ((!t14_1) = true →
  ∀ (h_12 : Heap), Fr (In [b_2]) h_3 h_12 → Vars h_12 [(b_2, [(Sl.v nilSl)]), (b_1, [(Sl.v g0_1)])] →
  K (Value.tuple #[(Value.agg #[(Sl.v nilSl)]), (VB false)]) h_12) ∧
  ((!t14_1) = false →
  callM P 117 #[(VI k2_1), (VI 0), (VI 1000)] h_3 fun rv_2 h_4 => ∃ t18_1 : Bool, rv_2 = (VB t18_1) ∧ Vars h_4 [(b_2, [(Sl.v nilSl)]), (b_1, [(Sl.v g0_1)])] ∧
  ((!t18_1) = true →
  ∀ (h_5 : Heap), Fr (In [b_2]) h_4 h_5 → Vars h_5 [(b_2, [(Sl.v nilSl)]), (b_1, [(Sl.v g0_1)])] →
  K (Value.tuple #[(Value.agg #[(Sl.v nilSl)]), (VB false)]) h_5) ∧
  ((!t18_1) = false →
  callM P 118 #[(Value.agg #[(Sl.v g0_1)])] h_4 fun rv_3 h_6 => ∃ t23_1 : Sl, rv_3 = (Value.agg #[(Sl.v t23_1)]) ∧ Vars h_6 [(b_2, [(Sl.v nilSl)]), (b_1, [(Sl.v g0_1)])] ∧
  InB g0_1 p1_1 ∧
  ∀ (b_3 : Nat) (h_8 : Heap), h_6.size ≤ b_3 → Fr (In []) h_6 h_8 → Vars h_8 [(b_3, [(Sl.v t23_1)]), (b_2, [(Sl.v nilSl)]), (b_1, [(Sl.v g0_1)])] →
  ∃ t28_1 : Sl, hcell h_8 (Sl.at g0_1 p1_1 1) = some (Sl.v t28_1) ∧
  ∃ J_1 : Nat → Int → Heap → Prop, (∃ n0 : Nat, J_1 n0 0 h_8) ∧
  ∀ (n_1 : Nat) (t31_1 : Int) (h_9 : Heap), J_1 n_1 t31_1 h_9 → Vars h_9 [(b_3, [(Sl.v t23_1)]), (b_2, [(Sl.v nilSl)]), (b_1, [(Sl.v g0_1)])] →
  ((decide (t31_1 < (t28_1.n : Int))) = true →
  InB t23_1 p1_1 ∧
  ∃ t38_1 : Sl, hcell h_9 (Sl.at t23_1 p1_1 1) = some (Sl.v t38_1) ∧
  (t28_1.n : Int) ≠ 0 ∧
  InB t28_1 (Int.tmod (w64 (t31_1 + k2_1)) (t28_1.n : Int)) ∧
  ∃ t49_1 : Int, hcell h_9 (Sl.at t28_1 (Int.tmod (w64 (t31_1 + k2_1)) (t28_1.n : Int)) 1) = some (VI t49_1) ∧
  InB t38_1 t31_1 ∧
  Writable h_9 (Sl.at t38_1 t31_1 1) ∧ Vars (hset h_9 (Sl.at t38_1 t31_1 1) (VI t49_1)) [(b_3, [(Sl.v t23_1)]), (b_2, [(Sl.v nilSl)]), (b_1, [(Sl.v g0_1)])] ∧
  ∀ h_10 : Heap, h_10 = hset h_9 (Sl.at t38_1 t31_1 1) (VI t49_1) → Vars h_10 [(b_3, [(Sl.v t23_1)]), (b_2, [(Sl.v nilSl)]), (b_1, [(Sl.v g0_1)])] →
  ∃ m : Nat, m < n_1 ∧ J_1 m (w64 (t31_1 + 1)) h_10) ∧
  ((decide (t31_1 < (t28_1.n : Int))) = false →
  ∀ (h_11 : Heap), Fr (In [b_2]) h_9 h_11 → Vars h_11 [(b_3, [(Sl.v t23_1)]), (b_2, [(Sl.v t23_1)]), (b_1, [(Sl.v g0_1)])] →
  K (Value.tuple #[(Value.agg #[(Sl.v t23_1)]), (VB true)]) h_11)))
theorem v57 (g0_1 : Sl) (p1_1 : Int) (k2_1 : Int) (h : Heap) (K : Value → Heap → Prop) (H : u57 Try.prog g0_1 p1_1 k2_1 h K) : callM Try.prog 57 #[(Value.agg #[(Sl.v g0_1)]), (VI p1_1), (VI k2_1)] h K := by
  refine c57 (Value.agg #[(Sl.v g0_1)]) (VI p1_1) (VI k2_1) h K ?_
  unfold u57 at H
  unfold t57
  have hL : Vars h [] := .nil
  refine eop_box 32 (Value.agg #[(Sl.v g0_1)]) rfl hL (fun b_1 h_1 hb_1 hf_1 hL_1 => ?_)
  refine eop_alloc 32 zer32 rfl hL_1 (fun b_2 h_2 hb_2 hf_2 hL_2 => ?_)
  refine rop_locA agg32 hL_2 1 rfl 0 (vs := [(Sl.v g0_1)]) rfl rfl ?_
  have H := H b_1 b_2 h_2 (Nat.le_trans (Fr.size (Fr.r (In []) _)) hb_1) (Nat.le_trans (Fr.size (Fr.no' (Fr.r (In []) _) hf_1)) hb_2) (Fr.no' (Fr.no' (Fr.r (In []) _) hf_1) hf_2) hL_2
  refine H.mono fun rv_1 h_3 H => ?_
  obtain ⟨t14_1, rfl, hL_3, H⟩ := H
  refine pop_not t14_1 ?_
  refine guardM_sf (fun hb_3 => ?_) (fun hb_3 => ?_)
  · have H := H.2 hb_3
    refine guardM_y' hb_3 ?_
    refine H.mono fun rv_2 h_4 H => ?_
    obtain ⟨t18_1, rfl, hL_4, H⟩ := H
    refine guardM_y' hb_3 ?_
    refine pop_not t18_1 ?_
    refine pop_pickf' hb_3 ?_
    refine condM_b (fun hb_4 => ?_) (fun hb_4 => ?_)
    · have H := H.1 hb_4
      refine pop.mk' (v := (Value.agg #[(Sl.v nilSl)])) (fun w => by kernel_rfl) ?_
      refine uop_loc siz32 hL_4 0 rfl 0 [(Sl.v nilSl)] rfl rfl rfl (Nat.le_of_ble_eq_true rfl) (L' := [(b_2, [(Sl.v nilSl)]), (b_1, [(Sl.v g0_1)])]) rfl (fun h_5 hf_3 hL_5 => ?_)
      refine rop_locA agg32 hL_5 0 rfl 0 (vs := [(Sl.v nilSl)]) rfl rfl ?_
      have H := H  h_5  (Fr.old (Fr.r (In []) _) hf_3) hL_5
      exact H
    · have H := H.2 hb_4
      refine rop_locA agg32 hL_4 1 rfl 0 (vs := [(Sl.v g0_1)]) rfl rfl ?_
      refine H.mono fun rv_3 h_6 H => ?_
      obtain ⟨t23_1, rfl, hL_6, H⟩ := H
      refine eop_alloc 32 zer32 rfl hL_6 (fun b_3 h_7 hb_5 hf_4 hL_7 => ?_)
      refine uop_loc siz32 hL_7 0 rfl 0 [(Sl.v t23_1)] rfl rfl rfl (Nat.le_of_ble_eq_true rfl) (L' := [(b_3, [(Sl.v t23_1)]), (b_2, [(Sl.v nilSl)]), (b_1, [(Sl.v g0_1)])]) rfl (fun h_8 hf_5 hL_8 => ?_)
      refine pop_field 0 fld32_0 b_1 0 ?_
      refine rop_loc one22 hL_8 2 rfl 0 (v := (Sl.v g0_1)) rfl ?_
      obtain ⟨hi_1, H⟩ := H
      refine pop_index sli22 siz25 .i64 g0_1 p1_1 hi_1 ?_
      have H := H b_3 h_8 (Nat.le_trans (Fr.size (Fr.r (In []) _)) hb_5) (Fr.new (Fr.no' (Fr.r (In []) _) hf_4) (Nat.le_trans (Fr.size (Fr.r (In []) _)) hb_5) hf_5) hL_8
      obtain ⟨t28_1, hc_3, H⟩ := H
      refine rop_one one25 (Sl.v t28_1) hc_3 ?_
      refine pop_len t28_1 _ _ sli25 ?_
      obtain ⟨J_1, ⟨n_2, h0_1⟩, HB_1⟩ := H
      refine loop_intro (J := fun (n : Nat) (vs : List Value) (h' : Heap) => ∃ t31_1 : Int, vs = [(VI t31_1)] ∧ J_1 n t31_1 h' ∧ Vars h' [(b_3, [(Sl.v t23_1)]), (b_2, [(Sl.v nilSl)]), (b_1, [(Sl.v g0_1)])]) n_2 ⟨0, rfl, h0_1, hL_8⟩ ?_
      intro I_1 mu_1 hI_1 junk_1 tv_1 h_9 hi_2
      obtain ⟨n_1, ⟨t31_1, hv, hJ_1, hL_9⟩, hn_1⟩ := hI_1 _ _ hi_2
      cases hv
      have H := HB_1 n_1 t31_1 h_9 hJ_1 hL_9
      refine pop_lss .i64 t31_1 (t28_1.n : Int) ?_
      refine condM_b (fun hb_6 => ?_) (fun hb_6 => ?_)
      · have H := H.1 hb_6
        refine pop_field 0 fld32_0 b_3 0 ?_
        refine rop_loc one22 hL_9 0 rfl 0 (v := (Sl.v t23_1)) rfl ?_
        obtain ⟨hi_3, H⟩ := H
        refine pop_index sli22 siz25 .i64 t23_1 p1_1 hi_3 ?_
        obtain ⟨t38_1, hc_2, H⟩ := H
        refine rop_one one25 (Sl.v t38_1) hc_2 ?_
        refine pop_add .i64 t31_1 k2_1 ?_
        refine pop_len t28_1 _ _ sli25 ?_
        obtain ⟨hz_1, H⟩ := H
        refine pop_rem .i64 (w64 (t31_1 + k2_1)) (t28_1.n : Int) hz_1 ?_
        obtain ⟨hi_4, H⟩ := H
        refine pop_index sli25 siz3 .i64 t28_1 (Int.tmod (w64 (t31_1 + k2_1)) (t28_1.n : Int)) hi_4 ?_
        obtain ⟨t49_1, hc_1, H⟩ := H
        refine rop_one one3 (VI t49_1) hc_1 ?_
        obtain ⟨hi_5, H⟩ := H
        refine pop_index sli25 siz3 .i64 t38_1 t31_1 hi_5 ?_
        obtain ⟨hw_1, hL_10, H⟩ := H
        refine uop_cell (v := (VI t49_1)) siz3 hw_1 rfl (fun h_10 he_1 => ?_)
        rw [← he_1] at hL_10
        have H := H h_10 he_1 hL_10
        refine pop_add .i64 t31_1 1 ?_
        obtain ⟨m_1, hm_1, H⟩ := H
        exact hn_1 _ _ ⟨m_1, hm_1, (w64 (t31_1 + 1)), rfl, H, hL_10⟩
      · have H := H.2 hb_6
        refine rop_locA agg32 hL_9 0 rfl 0 (vs := [(Sl.v t23_1)]) rfl rfl ?_
        refine uop_loc siz32 hL_9 1 rfl 0 [(Sl.v t23_1)] rfl rfl rfl (Nat.le_of_ble_eq_true rfl) (L' := [(b_3, [(Sl.v t23_1)]), (b_2, [(Sl.v t23_1)]), (b_1, [(Sl.v g0_1)])]) rfl (fun h_11 hf_6 hL_11 => ?_)
        refine rop_locA agg32 hL_11 1 rfl 0 (vs := [(Sl.v t23_1)]) rfl rfl ?_
        have H := H  h_11  (Fr.old (Fr.r (In []) _) hf_6) hL_11
        exact H
  · have H := H.1 hb_3
    refine guardM_n' hb_3 (by decide) ?_
    refine guardM_n' hb_3 (by decide) ?_
    refine pop_pickt' hb_3 ?_
    refine condM_t ?_
    refine pop.mk' (v := (Value.agg #[(Sl.v nilSl)])) (fun w => by kernel_rfl) ?_
    refine uop_loc siz32 hL_3 0 rfl 0 [(Sl.v nilSl)] rfl rfl rfl (Nat.le_of_ble_eq_true rfl) (L' := [(b_2, [(Sl.v nilSl)]), (b_1, [(Sl.v g0_1)])]) rfl (fun h_12 hf_7 hL_12 => ?_)
    refine rop_locA agg32 hL_12 0 rfl 0 (vs := [(Sl.v nilSl)]) rfl rfl ?_
    have H := H  h_12  (Fr.old (Fr.r (In []) _) hf_7) hL_12
    exact H

/-! laws.wGraph -/
def u58 (P : Program) (a0_1 : Sl) (b1_1 : Sl) (h : Heap) (K : Value → Heap → Prop) : Prop :=
  ∀ (b_1 : Nat) (b_2 : Nat) (h_2 : Heap), h.size ≤ b_1 → h.size ≤ b_2 → Fr (In []) h h_2 → Vars h_2 [(b_2, [(Sl.v b1_1)]), (b_1, [(Sl.v a0_1)])] →
  callM P 119 #[(Sl.v a0_1), (Sl.v b1_1)] h_2 fun rv_1 h_3 => ∃ t9_1 : Bool, rv_1 = (VB t9_1) ∧ Vars h_3 [(b_2, [(Sl.v b1_1)]), (b_1, [(Sl.v a0_1)])] ∧
  K (VB t9_1) h_3
theorem v58 (a0_1 : Sl) (b1_1 : Sl) (h : Heap) (K : Value → Heap → Prop) (H : u58 Try.prog a0_1 b1_1 h K) : callM Try.prog 58 #[(Value.agg #[(Sl.v a0_1)]), (Value.agg #[(Sl.v b1_1)])] h K := by
  refine c58 (Value.agg #[(Sl.v a0_1)]) (Value.agg #[(Sl.v b1_1)]) h K ?_
  unfold u58 at H
  unfold t58
  have hL : Vars h [] := .nil
  refine eop_box 32 (Value.agg #[(Sl.v a0_1)]) rfl hL (fun b_1 h_1 hb_1 hf_1 hL_1 => ?_)
  refine eop_box 32 (Value.agg #[(Sl.v b1_1)]) rfl hL_1 (fun b_2 h_2 hb_2 hf_2 hL_2 => ?_)
  refine pop_field 0 fld32_0 b_1 0 ?_
  refine rop_loc one22 hL_2 1 rfl 0 (v := (Sl.v a0_1)) rfl ?_
  refine pop_field 0 fld32_0 b_2 0 ?_
  refine rop_loc one22 hL_2 0 rfl 0 (v := (Sl.v b1_1)) rfl ?_
  have H := H b_1 b_2 h_2 (Nat.le_trans (Fr.size (Fr.r (In []) _)) hb_1) (Nat.le_trans (Fr.size (Fr.no' (Fr.r (In []) _) hf_1)) hb_2) (Fr.no' (Fr.no' (Fr.r (In []) _) hf_1) hf_2) hL_2
  refine H.mono fun rv_1 h_3 H => ?_
  obtain ⟨t9_1, rfl, hL_3, H⟩ := H
  exact H

/-! spec.DrawAddExit -/
def u59 (P : Program) (code0_1 : Sl) (h : Heap) (K : Value → Heap → Prop) : Prop :=
  ∀ (b_1 : Nat) (h_1 : Heap), h.size ≤ b_1 → Fr (In []) h h_1 → Vars h_1 [(b_1, [(Sl.v nilSl)])] →
  callM P 120 #[(Sl.v code0_1)] h_1 fun rv_1 h_2 => ∃ t6_1 : Sl, ∃ t6_2 : Int, ∃ t6_3 : Int, rv_1 = (Value.tuple #[(Value.agg #[(Sl.v t6_1)]), (VI t6_2), (VI t6_3)]) ∧ Vars h_2 [(b_1, [(Sl.v nilSl)])] ∧
  ∀ (h_3 : Heap), Fr (In [b_1]) h_2 h_3 → Vars h_3 [(b_1, [(Sl.v t6_1)])] →
  K (Value.tuple #[(Value.agg #[(Sl.v t6_1)]), (VI t6_2), (VI t6_3)]) h_3
theorem v59 (code0_1 : Sl) (h : Heap) (K : Value → Heap → Prop) (H : u59 Try.prog code0_1 h K) : callM Try.prog 59 #[(Sl.v code0_1)] h K := by
  refine c59 (Sl.v code0_1) h K ?_
  unfold u59 at H
  unfold t59
  have hL : Vars h [] := .nil
  refine eop_alloc 32 zer32 rfl hL (fun b_1 h_1 hb_1 hf_1 hL_1 => ?_)
  have H := H b_1 h_1 (Nat.le_trans (Fr.size (Fr.r (In []) _)) hb_1) (Fr.no' (Fr.r (In []) _) hf_1) hL_1
  refine H.mono fun rv_1 h_2 H => ?_
  obtain ⟨t6_1, t6_2, t6_3, rfl, hL_2, H⟩ := H
  refine pop_ext (v := (Value.agg #[(Sl.v t6_1)])) rfl ?_
  refine pop_ext (v := (VI t6_2)) rfl ?_
  refine pop_ext (v := (VI t6_3)) rfl ?_
  refine uop_loc siz32 hL_2 0 rfl 0 [(Sl.v t6_1)] rfl rfl rfl (Nat.le_of_ble_eq_true rfl) (L' := [(b_1, [(Sl.v t6_1)])]) rfl (fun h_3 hf_2 hL_3 => ?_)
  refine rop_locA agg32 hL_3 0 rfl 0 (vs := [(Sl.v t6_1)]) rfl rfl ?_
  have H := H  h_3  (Fr.old (Fr.r (In []) _) hf_2) hL_3
  exact H

/-! impl.AddExit -/
def u60 (P : Program) (g0_1 : Sl) (p1_1 : Int) (q2_1 : Int) (h : Heap) (K : Value → Heap → Prop) : Prop :=
  ∀ (b_1 : Nat) (b_2 : Nat) (h_2 : Heap), h.size ≤ b_1 → h.size ≤ b_2 → Fr (In []) h h_2 → Vars h_2 [(b_2, [(Sl.v nilSl)]), (b_1, [(Sl.v g0_1)])] →
  eop P (Instr.buildSlice 25 2 #[(0, (VI p1_1)), (1, (VI q2_1))]) h_2 fun rv_1 h_3 => ∃ t12_1 : Sl, rv_1 = (Sl.v t12_1) ∧ Vars h_3 [(b_2, [(Sl.v nilSl)]), (b_1, [(Sl.v g0_1)])] ∧
  callM P 107 #[(Value.agg #[(Sl.v g0_1)]), (Sl.v t12_1)] h_3 fun rv_2 h_4 => ∃ t13_1 : Bool, rv_2 = (VB t13_1) ∧ Vars h_4 [(b_2, [(Sl.v nilSl)]), (b_1, [(Sl.v g0_1)])] ∧
  ((!t13_1) = true →
  ∀ (h_5 : Heap), Fr (In [b_2]) h_4 h_5 → Vars h_5 [(b_2, [(Sl.v nilSl)]), (b_1, [(Sl.v g0_1)])] →
  K (Value.tuple #[(Value.agg #[(Sl.v nilSl)]), (VB false)]) h_5) ∧
  ((!t13_1) = false →
  callM P 114 #[(Value.agg #[(Sl.v g0_1)])] h_4 fun rv_3 h_6 => ∃ t17_1 : Sl, rv_3 = (Value.agg #[(Sl.v t17_1)]) ∧ Vars h_6 [(b_2, [(Sl.v nilSl)]), (b_1, [(Sl.v g0_1)])] ∧
  InB t17_1 p1_1 ∧
  ∀ (b_3 : Nat) (h_8 : Heap), h_6.size ≤ b_3 → Fr (In []) h_6 h_8 → Vars h_8 [(b_3, [(Sl.v t17_1)]), (b_2, [(Sl.v nilSl)]), (b_1, [(Sl.v g0_1)])] →
  ∃ t25_1 : Sl, hcell h_8 (Sl.at t17_1 p1_1 1) = some (Sl.v t25_1) ∧
  eop P (Instr.buildSlice 25 1 #[(0, (VI q2_1))]) h_8 fun rv_4 h_9 => ∃ t27_1 : Sl, rv_4 = (Sl.v t27_1) ∧ Vars h_9 [(b_3, [(Sl.v t17_1)]), (b_2, [(Sl.v nilSl)]), (b_1, [(Sl.v g0_1)])] ∧
  hcell h_9 (Sl.at t17_1 p1_1 1) = some (Sl.v t25_1) ∧
  eop P (appS 25 25 25 (Sl.v t25_1) (Sl.v t27_1)) h_9 fun rv_5 h_10 => ∃ t28_1 : Sl, rv_5 = (Sl.v t28_1) ∧ Vars h_10 [(b_3, [(Sl.v t17_1)]), (b_2, [(Sl.v nilSl)]), (b_1, [(Sl.v g0_1)])] ∧
  InB t17_1 p1_1 ∧
  Writable h_10 (Sl.at t17_1 p1_1 1) ∧ Vars (hset h_10 (Sl.at t17_1 p1_1 1) (Sl.v t28_1)) [(b_3, [(Sl.v t17_1)]), (b_2, [(Sl.v nilSl)]), (b_1, [(Sl.v g0_1)])] ∧
  ∀ h_11 : Heap, h_11 = hset h_10 (Sl.at t17_1 p1_1 1) (Sl.v t28_1) → Vars h_11 [(b_3, [(Sl.v t17_1)]), (b_2, [(Sl.v nilSl)]), (b_1, [(Sl.v g0_1)])] →
  callM P 121 #[(Value.agg #[(Sl.v t17_1)])] h_11 fun rv_6 h_12 => ∃ t31_1 : Sl, ∃ t31_2 : Bool, rv_6 = (Value.tuple #[(Value.agg #[(Sl.v t31_1)]), (VB t31_2)]) ∧ Vars h_12 [(b_3, [(Sl.v t17_1)]), (b_2, [(Sl.v nilSl)]), (b_1, [(Sl.v g0_1)])] ∧
  ∀ (h_13 : Heap), Fr (In [b_2]) h_12 h_13 → Vars h_13 [(b_3, [(Sl.v t17_1)]), (b_2, [(Sl.v t31_1)]), (b_1, [(Sl.v g0_1)])] →
  K (Value.tuple #[(Value.agg #[(Sl.v t31_1)]), (VB t31_2)]) h_13)
theorem v60 (g0_1 : Sl) (p1_1 : Int) (q2_1 : Int) (h : Heap) (K : Value → Heap → Prop) (H : u60 Try.prog g0_1 p1_1 q2_1 h K) : callM Try.prog 60 #[(Value.agg #[(Sl.v g0_1)]), (VI p1_1), (VI q2_1)] h K := by
  refine c60 (Value.agg #[(Sl.v g0_1)]) (VI p1_1) (VI q2_1) h K ?_
  unfold u60 at H
  unfold t60
  have hL : Vars h [] := .nil
  refine eop_box 32 (Value.agg #[(Sl.v g0_1)]) rfl hL (fun b_1 h_1 hb_1 hf_1 hL_1 => ?_)
  refine eop_alloc 32 zer32 rfl hL_1 (fun b_2 h_2 hb_2 hf_2 hL_2 => ?_)
  refine rop_locA agg32 hL_2 1 rfl 0 (vs := [(Sl.v g0_1)]) rfl rfl ?_
  have H := H b_1 b_2 h_2 (Nat.le_trans (Fr.size (Fr.r (In []) _)) hb_1) (Nat.le_trans (Fr.size (Fr.no' (Fr.r (In []) _) hf_1)) hb_2) (Fr.no' (Fr.no' (Fr.r (In []) _) hf_1) hf_2) hL_2
  refine H.mono fun rv_1 h_3 H => ?_
  obtain ⟨t12_1, rfl, hL_3, H⟩ := H
  refine H.mono fun rv_2 h_4 H => ?_
  obtain ⟨t13_1, rfl, hL_4, H⟩ := H
  refine pop_not t13_1 ?_
  refine condM_b (fun hb_3 => ?_) (fun hb_3 => ?_)
  · have H := H.1 hb_3
    refine pop.mk' (v := (Value.agg #[(Sl.v nilSl)])) (fun w => by kernel_rfl) ?_
    refine uop_loc siz32 hL_4 0 rfl 0 [(Sl.v nilSl)] rfl rfl rfl (Nat.le_of_ble_eq_true rfl) (L' := [(b_2, [(Sl.v nilSl)]), (b_1, [(Sl.v g0_1)])]) rfl (fun h_5 hf_3 hL_5 => ?_)
    refine rop_locA agg32 hL_5 0 rfl 0 (vs := [(Sl.v nilSl)]) rfl rfl ?_
    have H := H  h_5  (Fr.old (Fr.r (In []) _) hf_3) hL_5
    exact H
  · have H := H.2 hb_3
    refine rop_locA agg32 hL_4 1 rfl 0 (vs := [(Sl.v g0_1)]) rfl rfl ?_
    refine H.mono fun rv_3 h_6 H => ?_
    obtain ⟨t17_1, rfl, hL_6, H⟩ := H
    refine eop_alloc 32 zer32 rfl hL_6 (fun b_3 h_7 hb_4 hf_4 hL_7 => ?_)
    refine uop_loc siz32 hL_7 0 rfl 0 [(Sl.v t17_1)] rfl rfl rfl (Nat.le_of_ble_eq_true rfl) (L' := [(b_3, [(Sl.v t17_1)]), (b_2, [(Sl.v nilSl)]), (b_1, [(Sl.v g0_1)])]) rfl (fun h_8 hf_5 hL_8 => ?_)
    refine pop_field 0 fld32_0 b_3 0 ?_
    refine rop_loc one22 hL_8 0 rfl 0 (v := (Sl.v t17_1)) rfl ?_
    refine pop_field 0 fld32_0 b_3 0 ?_
    refine rop_loc one22 hL_8 0 rfl 0 (v := (Sl.v t17_1)) rfl ?_
    obtain ⟨hi_1, H⟩ := H
    refine pop_index sli22 siz25 .i64 t17_1 p1_1 hi_1 ?_
    have H := H b_3 h_8 (Nat.le_trans (Fr.size (Fr.r (In []) _)) hb_4) (Fr.new (Fr.no' (Fr.r (In []) _) hf_4) (Nat.le_trans (Fr.size (Fr.r (In []) _)) hb_4) hf_5) hL_8
    obtain ⟨t25_1, hc_2, H⟩ := H
    refine rop_one one25 (Sl.v t25_1) hc_2 ?_
    refine H.mono fun rv_4 h_9 H => ?_
    obtain ⟨t27_1, rfl, hL_9, H⟩ := H
    refine ⟨?_, ?_⟩
    · exact still_one one25 H.1
    obtain ⟨hc_1, H⟩ := H
    refine ⟨?_, ?_⟩
    · exact still_loc one22 hL_9 0 rfl 0 (v := (Sl.v t17_1)) rfl
    refine ⟨?_, ?_⟩
    · exact still_loc one22 hL_9 0 rfl 0 (v := (Sl.v t17_1)) rfl
    refine H.mono fun rv_5 h_10 H => ?_
    obtain ⟨t28_1, rfl, hL_10, H⟩ := H
    refine ⟨?_, ?_⟩
    · exact still_loc one22 hL_10 0 rfl 0 (v := (Sl.v t17_1)) rfl
    refine ⟨?_, ?_⟩
    · exact still_loc one22 hL_10 0 rfl 0 (v := (Sl.v t17_1)) rfl
    obtain ⟨hi_2, H⟩ := H
    refine pop_index sli22 siz25 .i64 t17_1 p1_1 hi_2 ?_
    obtain ⟨hw_1, hL_11, H⟩ := H
    refine uop_cell (v := (Sl.v t28_1)) siz25 hw_1 rfl (fun h_11 he_1 => ?_)
    rw [← he_1] at hL_11
    have H := H h_11 he_1 hL_11
    refine rop_locA agg32 hL_11 0 rfl 0 (vs := [(Sl.v t17_1)]) rfl rfl ?_
    refine H.mono fun rv_6 h_12 H => ?_
    obtain ⟨t31_1, t31_2, rfl, hL_12, H⟩ := H
    refine pop_ext (v := (Value.agg #[(Sl.v t31_1)])) rfl ?_
    refine pop_ext (v := (VB t31_2)) rfl ?_
    refine uop_loc siz32 hL_12 1 rfl 0 [(Sl.v t31_1)] rfl rfl rfl (Nat.le_of_ble_eq_true rfl) (L' := [(b_3, [(Sl.v t17_1)]), (b_2, [(Sl.v t31_1)]), (b_1, [(Sl.v g0_1)])]) rfl (fun h_13 hf_6 hL_13 => ?_)
    refine rop_locA agg32 hL_13 1 rfl 0 (vs := [(Sl.v t31_1)]) rfl rfl ?_
    have H := H  h_13  (Fr.old (Fr.r (In []) _) hf_6) hL_13
    exact H

/-! spec.AddExit -/
def u61 (P : Program) (g0_1 : Sl) (p1_1 : Int) (q2_1 : Int) (h : Heap) (K : Value → Heap → Prop) : Prop :=
  ∀ (b_1 : Nat) (b_2 : Nat) (h_2 : Heap), h.size ≤ b_1 → h.size ≤ b_2 → Fr (In []) h h_2 → Vars h_2 [(b_2, [(Sl.v nilSl)]), (b_1, [(Sl.v g0_1)])] →
  callM P 116 #[(Value.agg #[(Sl.v g0_1)]), (VI p1_1)] h_2 fun rv_1 h_3 => ∃ t11_1 : Bool, rv_1 = (VB t11_1) ∧ Vars h_3 [(b_2, [(Sl.v nilSl)]), (b_1, [(Sl.v g0_1)])] ∧
  ((!t11_1) = true →
  ∀ (h_14 : Heap), Fr (In [b_2]) h_3 h_14 → Vars h_14 [(b_2, [(Sl.v nilSl)]), (b_1, [(Sl.v g0_1)])] →
  K (Value.tuple #[(Value.agg #[(Sl.v nilSl)]), (VB false)]) h_14) ∧
  ((!t11_1) = false →
  callM P 116 #[(Value.agg #[(Sl.v g0_1)]), (VI q2_1)] h_3 fun rv_2 h_4 => ∃ t16_1 : Bool, rv_2 = (VB t16_1) ∧ Vars h_4 [(b_2, [(Sl.v nilSl)]), (b_1, [(Sl.v g0_1)])] ∧
  ((!t16_1) = true →
  ∀ (h_5 : Heap), Fr (In [b_2]) h_4 h_5 → Vars h_5 [(b_2, [(Sl.v nilSl)]), (b_1, [(Sl.v g0_1)])] →
  K (Value.tuple #[(Value.agg #[(Sl.v nilSl)]), (VB false)]) h_5) ∧
  ((!t16_1) = false →
  callM P 118 #[(Value.agg #[(Sl.v g0_1)])] h_4 fun rv_3 h_6 => ∃ t21_1 : Sl, rv_3 = (Value.agg #[(Sl.v t21_1)]) ∧ Vars h_6 [(b_2, [(Sl.v nilSl)]), (b_1, [(Sl.v g0_1)])] ∧
  InB t21_1 p1_1 ∧
  ∀ (b_3 : Nat) (h_8 : Heap), h_6.size ≤ b_3 → Fr (In []) h_6 h_8 → Vars h_8 [(b_3, [(Sl.v t21_1)]), (b_2, [(Sl.v nilSl)]), (b_1, [(Sl.v g0_1)])] →
  ∃ t29_1 : Sl, hcell h_8 (Sl.at t21_1 p1_1 1) = some (Sl.v t29_1) ∧
  eop P (Instr.buildSlice 25 1 #[(0, (VI q2_1))]) h_8 fun rv_4 h_9 => ∃ t31_1 : Sl, rv_4 = (Sl.v t31_1) ∧ Vars h_9 [(b_3, [(Sl.v t21_1)]), (b_2, [(Sl.v nilSl)]), (b_1, [(Sl.v g0_1)])] ∧
  hcell h_9 (Sl.at t21_1 p1_1 1) = some (Sl.v t29_1) ∧
  eop P (appS 25 25 25 (Sl.v t29_1) (Sl.v t31_1)) h_9 fun rv_5 h_10 => ∃ t32_1 : Sl, rv_5 = (Sl.v t32_1) ∧ Vars h_10 [(b_3, [(Sl.v t21_1)]), (b_2, [(Sl.v nilSl)]), (b_1, [(Sl.v g0_1)])] ∧
  InB t21_1 p1_1 ∧
  Writable h_10 (Sl.at t21_1 p1_1 1) ∧ Vars (hset h_10 (Sl.at t21_1 p1_1 1) (Sl.v t32_1)) [(b_3, [(Sl.v t21_1)]), (b_2, [(Sl.v nilSl)]), (b_1, [(Sl.v g0_1)])] ∧
  ∀ h_11 : Heap, h_11 = hset h_10 (Sl.at t21_1 p1_1 1) (Sl.v t32_1) → Vars h_11 [(b_3, [(Sl.v t21_1)]), (b_2, [(Sl.v nilSl)]), (b_1, [(Sl.v g0_1)])] →
  callM P 122 #[(Value.agg #[(Sl.v t21_1)])] h_11 fun rv_6 h_12 => ∃ t35_1 : Sl, ∃ t35_2 : Bool, rv_6 = (Value.tuple #[(Value.agg #[(Sl.v t35_1)]), (VB t35_2)]) ∧ Vars h_12 [(b_3, [(Sl.v t21_1)]), (b_2, [(Sl.v nilSl)]), (b_1, [(Sl.v g0_1)])] ∧
  ∀ (h_13 : Heap), Fr (In [b_2]) h_12 h_13 → Vars h_13 [(b_3, [(Sl.v t21_1)]), (b_2, [(Sl.v t35_1)]), (b_1, [(Sl.v g0_1)])] →
  K (Value.tuple #[(Value.agg #[(Sl.v t35_1)]), (VB t35_2)]) h_13))
theorem v61 (g0_1 : Sl) (p1_1 : Int) (q2_1 : Int) (h : Heap) (K : Value → Heap → Prop) (H : u61 Try.prog g0_1 p1_1 q2_1 h K) : callM Try.prog 61 #[(Value.agg #[(Sl.v g0_1)]), (VI p1_1), (VI q2_1)] h K := by
  refine c61 (Value.agg #[(Sl.v g0_1)]) (VI p1_1) (VI q2_1) h K ?_
  unfold u61 at H
  unfold t61
  have hL : Vars h [] := .nil
  refine eop_box 32 (Value.agg #[(Sl.v g0_1)]) rfl hL (fun b_1 h_1 hb_1 hf_1 hL_1 => ?_)
  refine eop_alloc 32 zer32 rfl hL_1 (fun b_2 h_2 hb_2 hf_2 hL_2 => ?_)
  refine rop_locA agg32 hL_2 1 rfl 0 (vs := [(Sl.v g0_1)]) rfl rfl ?_
  have H := H b_1 b_2 h_2 (Nat.le_trans (Fr.size (Fr.r (In []) _)) hb_1) (Nat.le_trans (Fr.size (Fr.no' (Fr.r (In []) _) hf_1)) hb_2) (Fr.no' (Fr.no' (Fr.r (In []) _) hf_1) hf_2) hL_2
  refine H.mono fun rv_1 h_3 H => ?_
  obtain ⟨t11_1, rfl, hL_3, H⟩ := H
  refine pop_not t11_1 ?_
  refine guardM_sf (fun hb_3 => ?_) (fun hb_3 => ?_)
  · have H := H.2 hb_3
    refine rop_locA agg32 hL_3 1 rfl 0 (vs := [(Sl.v g0_1)]) rfl rfl ?_
    refine guardM_y' hb_3 ?_
    refine guardM_y' hb_3 ?_
    refine H.mono fun rv_2 h_4 H => ?_
    obtain ⟨t16_1, rfl, hL_4, H⟩ := H
    refine guardM_y' hb_3 ?_
    refine pop_not t16_1 ?_
    refine pop_pickf' hb_3 ?_
    refine condM_b (fun hb_4 => ?_) (fun hb_4 => ?_)
    · have H := H.1 hb_4
      refine pop.mk' (v := (Value.agg #[(Sl.v nilSl)])) (fun w => by kernel_rfl) ?_
      refine uop_loc siz32 hL_4 0 rfl 0 [(Sl.v nilSl)] rfl rfl rfl (Nat.le_of_ble_eq_true rfl) (L' := [(b_2, [(Sl.v nilSl)]), (b_1, [(Sl.v g0_1)])]) rfl (fun h_5 hf_3 hL_5 => ?_)
      refine rop_locA agg32 hL_5 0 rfl 0 (vs := [(Sl.v nilSl)]) rfl rfl ?_
      have H := H  h_5  (Fr.old (Fr.r (In []) _) hf_3) hL_5
      exact H
    · have H := H.2 hb_4
      refine rop_locA agg32 hL_4 1 rfl 0 (vs := [(Sl.v g0_1)]) rfl rfl ?_
      refine H.mono fun rv_3 h_6 H => ?_
      obtain ⟨t21_1, rfl, hL_6, H⟩ := H
      refine eop_alloc 32 zer32 rfl hL_6 (fun b_3 h_7 hb_5 hf_4 hL_7 => ?_)
      refine uop_loc siz32 hL_7 0 rfl 0 [(Sl.v t21_1)] rfl rfl rfl (Nat.le_of_ble_eq_true rfl) (L' := [(b_3, [(Sl.v t21_1)]), (b_2, [(Sl.v nilSl)]), (b_1, [(Sl.v g0_1)])]) rfl (fun h_8 hf_5 hL_8 => ?_)
      refine pop_field 0 fld32_0 b_3 0 ?_
      refine rop_loc one22 hL_8 0 rfl 0 (v := (Sl.v t21_1)) rfl ?_
      refine pop_field 0 fld32_0 b_3 0 ?_
      refine rop_loc one22 hL_8 0 rfl 0 (v := (Sl.v t21_1)) rfl ?_
      obtain ⟨hi_1, H⟩ := H
      refine pop_index sli22 siz25 .i64 t21_1 p1_1 hi_1 ?_
      have H := H b_3 h_8 (Nat.le_trans (Fr.size (Fr.r (In []) _)) hb_5) (Fr.new (Fr.no' (Fr.r (In []) _) hf_4) (Nat.le_trans (Fr.size (Fr.r (In []) _)) hb_5) hf_5) hL_8
      obtain ⟨t29_1, hc_2, H⟩ := H
      refine rop_one one25 (Sl.v t29_1) hc_2 ?_
      refine H.mono fun rv_4 h_9 H => ?_
      obtain ⟨t31_1, rfl, hL_9, H⟩ := H
      refine ⟨?_, ?_⟩
      · exact still_one one25 H.1
      obtain ⟨hc_1, H⟩ := H
      refine ⟨?_, ?_⟩
      · exact still_loc one22 hL_9 0 rfl 0 (v := (Sl.v t21_1)) rfl
      refine ⟨?_, ?_⟩
      · exact still_loc one22 hL_9 0 rfl 0 (v := (Sl.v t21_1)) rfl
      refine H.mono fun rv_5 h_10 H => ?_
      obtain ⟨t32_1, rfl, hL_10, H⟩ := H
      refine ⟨?_, ?_⟩
      · exact still_loc one22 hL_10 0 rfl 0 (v := (Sl.v t21_1)) rfl
      refine ⟨?_, ?_⟩
      · exact still_loc one22 hL_10 0 rfl 0 (v := (Sl.v t21_1)) rfl
      obtain ⟨hi_2, H⟩ := H
      refine pop_index sli22 siz25 .i64 t21_1 p1_1 hi_2 ?_
      obtain ⟨hw_1, hL_11, H⟩ := H
      refine uop_cell (v := (Sl.v t32_1)) siz25 hw_1 rfl (fun h_11 he_1 => ?_)
      rw [← he_1] at hL_11
      have H := H h_11 he_1 hL_11
      refine rop_locA agg32 hL_11 0 rfl 0 (vs := [(Sl.v t21_1)]) rfl rfl ?_
      refine H.mono fun rv_6 h_12 H => ?_
      obtain ⟨t35_1, t35_2, rfl, hL_12, H⟩ := H
      refine pop_ext (v := (Value.agg #[(Sl.v t35_1)])) rfl ?_
      refine pop_ext (v := (VB t35_2)) rfl ?_
      refine uop_loc siz32 hL_12 1 rfl 0 [(Sl.v t35_1)] rfl rfl rfl (Nat.le_of_ble_eq_true rfl) (L' := [(b_3, [(Sl.v t21_1)]), (b_2, [(Sl.v t35_1)]), (b_1, [(Sl.v g0_1)])]) rfl (fun h_13 hf_6 hL_13 => ?_)
      refine rop_locA agg32 hL_13 1 rfl 0 (vs := [(Sl.v t35_1)]) rfl rfl ?_
      have H := H  h_13  (Fr.old (Fr.r (In []) _) hf_6) hL_13
      exact H
  · have H := H.1 hb_3
    refine guardM_n' hb_3 (by decide) ?_
    refine guardM_n' hb_3 (by decide) ?_
    refine guardM_n' hb_3 (by decide) ?_
    refine pop_pickt' hb_3 ?_
    refine condM_t ?_
    refine pop.mk' (v := (Value.agg #[(Sl.v nilSl)])) (fun w => by kernel_rfl) ?_
    refine uop_loc siz32 hL_3 0 rfl 0 [(Sl.v nilSl)] rfl rfl rfl (Nat.le_of_ble_eq_true rfl) (L' := [(b_2, [(Sl.v nilSl)]), (b_1, [(Sl.v g0_1)])]) rfl (fun h_14 hf_7 hL_14 => ?_)
    refine rop_locA agg32 hL_14 0 rfl 0 (vs := [(Sl.v nilSl)]) rfl rfl ?_
    have H := H  h_14  (Fr.old (Fr.r (In []) _) hf_7) hL_14
    exact H

/-! impl.CountExits -/
def u62 (P : Program) (g0_1 : Sl) (h : Heap) (K : Value → Heap → Prop) : Prop :=
  ∀ (b_1 : Nat) (h_1 : Heap), h.size ≤ b_1 → Fr (In []) h h_1 → Vars h_1 [(b_1, [(Sl.v g0_1)])] →
  callM P 88 #[(Value.agg #[(Sl.v g0_1)])] h_1 fun rv_1 h_2 => ∃ t5_1 : Bool, rv_1 = (VB t5_1) ∧ Vars h_2 [(b_1, [(Sl.v g0_1)])] ∧
  ((!t5_1) = true →
  K (Value.tuple #[(VI 0), (VB false)]) h_2) ∧
  ((!t5_1) = false →
  callM P 115 #[(Sl.v g0_1)] h_2 fun rv_2 h_3 => ∃ t9_1 : Sl, rv_2 = (Sl.v t9_1) ∧ Vars h_3 [(b_1, [(Sl.v g0_1)])] ∧
  K (Value.tuple #[(VI (t9_1.n : Int)), (VB true)]) h_3)
theorem v62 (g0_1 : Sl) (h : Heap) (K : Value → Heap → Prop) (H : u62 Try.prog g0_1 h K) : callM Try.prog 62 #[(Value.agg #[(Sl.v g0_1)])] h K := by
  refine c62 (Value.agg #[(Sl.v g0_1)]) h K ?_
  unfold u62 at H
  unfold t62
  have hL : Vars h [] := .nil
  refine eop_box 32 (Value.agg #[(Sl.v g0_1)]) rfl hL (fun b_1 h_1 hb_1 hf_1 hL_1 => ?_)
  refine rop_locA agg32 hL_1 0 rfl 0 (vs := [(Sl.v g0_1)]) rfl rfl ?_
  have H := H b_1 h_1 (Nat.le_trans (Fr.size (Fr.r (In []) _)) hb_1) (Fr.no' (Fr.r (In []) _) hf_1) hL_1
  refine H.mono fun rv_1 h_2 H => ?_
  obtain ⟨t5_1, rfl, hL_2, H⟩ := H
  refine pop_not t5_1 ?_
  refine condM_b (fun hb_2 => ?_) (fun hb_2 => ?_)
  · have H := H.1 hb_2
    exact H
  · have H := H.2 hb_2
    refine pop_field 0 fld32_0 b_1 0 ?_
    refine rop_loc one22 hL_2 0 rfl 0 (v := (Sl.v g0_1)) rfl ?_
    refine H.mono fun rv_2 h_3 H => ?_
    obtain ⟨t9_1, rfl, hL_3, H⟩ := H
    refine pop_len t9_1 _ _ sli25 ?_
    exact H

/-! impl.EntriesOf -/
def u63 (P : Program) (g0_1 : Sl) (p1_1 : Int) (h : Heap) (K : Value → Heap → Prop) : Prop :=
  ∀ (b_1 : Nat) (h_1 : Heap), h.size ≤ b_1 → Fr (In []) h h_1 → Vars h_1 [(b_1, [(Sl.v g0_1)])] →
  eop P (Instr.buildSlice 25 1 #[(0, (VI p1_1))]) h_1 fun rv_1 h_2 => ∃ t8_1 : Sl, rv_1 = (Sl.v t8_1) ∧ Vars h_2 [(b_1, [(Sl.v g0_1)])] ∧
  callM P 107 #[(Value.agg #[(Sl.v g0_1)]), (Sl.v t8_1)] h_2 fun rv_2 h_3 => ∃ t9_1 : Bool, rv_2 = (VB t9_1) ∧ Vars h_3 [(b_1, [(Sl.v g0_1)])] ∧
  ((!t9_1) = true →
  K (Value.tuple #[(VI 0), (VB false)]) h_3) ∧
  ((!t9_1) = false →
  callM P 123 #[(Value.agg #[(Sl.v g0_1)]), (VI p1_1)] h_3 fun rv_3 h_4 => ∃ t13_1 : Int, rv_3 = (VI t13_1) ∧ Vars h_4 [(b_1, [(Sl.v g0_1)])] ∧
  K (Value.tuple #[(VI t13_1), (VB true)]) h_4)
theorem v63 (g0_1 : Sl) (p1_1 : Int) (h : Heap) (K : Value → Heap → Prop) (H : u63 Try.prog g0_1 p1_1 h K) : callM Try.prog 63 #[(Value.agg #[(Sl.v g0_1)]), (VI p1_1)] h K := by
  refine c63 (Value.agg #[(Sl.v g0_1)]) (VI p1_1) h K ?_
  unfold u63 at H
  unfold t63
  have hL : Vars h [] := .nil
  refine eop_box 32 (Value.agg #[(Sl.v g0_1)]) rfl hL (fun b_1 h_1 hb_1 hf_1 hL_1 => ?_)
  refine rop_locA agg32 hL_1 0 rfl 0 (vs := [(Sl.v g0_1)]) rfl rfl ?_
  have H := H b_1 h_1 (Nat.le_trans (Fr.size (Fr.r (In []) _)) hb_1) (Fr.no' (Fr.r (In []) _) hf_1) hL_1
  refine H.mono fun rv_1 h_2 H => ?_
  obtain ⟨t8_1, rfl, hL_2, H⟩ := H
  refine H.mono fun rv_2 h_3 H => ?_
  obtain ⟨t9_1, rfl, hL_3, H⟩ := H
  refine pop_not t9_1 ?_
  refine condM_b (fun hb_2 => ?_) (fun hb_2 => ?_)
  · have H := H.1 hb_2
    exact H
  · have H := H.2 hb_2
    refine rop_locA agg32 hL_3 0 rfl 0 (vs := [(Sl.v g0_1)]) rfl rfl ?_
    refine H.mono fun rv_3 h_4 H => ?_
    obtain ⟨t13_1, rfl, hL_4, H⟩ := H
    exact H

/-! spec.DrawCycleGraph -/
def u64 (P : Program) (code0_1 : Sl) (h : Heap) (K : Value → Heap → Prop) : Prop :=
  ∀ (b_1 : Nat) (h_1 : Heap), h.size ≤ b_1 → Fr (In []) h h_1 → Vars h_1 [(b_1, [(Sl.v code0_1), (VI 0), (Value.int .u64 0)])] →
  callM P 100 #[(VP b_1 0), (VI 11)] h_1 fun rv_1 h_2 => ∃ x_1 : Sl, ∃ x_2 : Int, ∃ x_3 : Int, ∃ t9_1 : Int, rv_1 = (VI t9_1) ∧ Vars h_2 [(b_1, [(Sl.v x_1), (VI x_2), (Value.int .u64 x_3)])] ∧
  callM P 99 #[(VP b_1 0), (VI 2)] h_2 fun rv_2 h_3 => ∃ x_4 : Sl, ∃ x_5 : Int, ∃ x_6 : Int, ∃ t12_1 : Bool, rv_2 = (VB t12_1) ∧ Vars h_3 [(b_1, [(Sl.v x_4), (VI x_5), (Value.int .u64 x_6)])] ∧
  K (Value.tuple #[(VI (w64 (t9_1 - 1))), (VB t12_1)]) h_3
theorem v64 (code0_1 : Sl) (h : Heap) (K : Value → Heap → Prop) (H : u64 Try.prog code0_1 h K) : callM Try.prog 64 #[(Sl.v code0_1)] h K := by
  refine c64 (Sl.v code0_1) h K ?_
  unfold u64 at H
  unfold t64
  have hL : Vars h [] := .nil
  refine pop.mk' (v := (Value.agg #[(Sl.v code0_1), (VI 0), (Value.int .u64 0)])) (fun w => by kernel_rfl) ?_
  refine eop_box 109 (Value.agg #[(Sl.v code0_1), (VI 0), (Value.int .u64 0)]) rfl hL (fun b_1 h_1 hb_1 hf_1 hL_1 => ?_)
  have H := H b_1 h_1 (Nat.le_trans (Fr.size (Fr.r (In []) _)) hb_1) (Fr.no' (Fr.r (In []) _) hf_1) hL_1
  refine H.mono fun rv_1 h_2 H => ?_
  obtain ⟨x_1, x_2, x_3, t9_1, rfl, hL_2, H⟩ := H
  refine pop_sub .i64 t9_1 1 ?_
  refine H.mono fun rv_2 h_3 H => ?_
  obtain ⟨x_4, x_5, x_6, t12_1, rfl, hL_3, H⟩ := H
  exact H

/-! impl.CycleGraph -/
def u65 (P : Program) (n0_1 : Int) (both1_1 : Bool) (h : Heap) (K : Value → Heap → Prop) : Prop :=
  ∀ (b_1 : Nat) (h_1 : Heap), h.size ≤ b_1 → Fr (In []) h h_1 → Vars h_1 [(b_1, [(Sl.v nilSl)])] →
  callM P 113 #[(VI n0_1), (VI 1), (VI 8)] h_1 fun rv_1 h_2 => ∃ t10_1 : Bool, rv_1 = (VB t10_1) ∧ Vars h_2 [(b_1, [(Sl.v nilSl)])] ∧
  ((!t10_1) = true →
  ∀ (h_3 : Heap), Fr (In [b_1]) h_2 h_3 → Vars h_3 [(b_1, [(Sl.v nilSl)])] →
  K (Value.tuple #[(Value.agg #[(Sl.v nilSl)]), (VB false)]) h_3) ∧
  ((!t10_1) = false →
  ∀ (b_2 : Nat) (h_5 : Heap), h_2.size ≤ b_2 → Fr (In []) h_2 h_5 → Vars h_5 [(b_2, [(Sl.v nilSl)]), (b_1, [(Sl.v nilSl)])] →
  ∃ J_1 : Nat → Int → Sl → Heap → Prop, (∃ n0 : Nat, J_1 n0 0 nilSl h_5) ∧
  ∀ (n_1 : Nat) (t15_1 : Int) (x_1 : Sl) (h_6 : Heap), J_1 n_1 t15_1 x_1 h_6 → Vars h_6 [(b_2, [(Sl.v x_1)]), (b_1, [(Sl.v nilSl)])] →
  ((decide (t15_1 < n0_1)) = true →
  n0_1 ≠ 0 ∧
  eop P (Instr.buildSlice 25 1 #[(0, (VI (Int.tmod (w64 (t15_1 + 1)) n0_1)))]) h_6 fun rv_2 h_7 => ∃ t22_1 : Sl, rv_2 = (Sl.v t22_1) ∧ Vars h_7 [(b_2, [(Sl.v x_1)]), (b_1, [(Sl.v nilSl)])] ∧
  ∃ J_2 : Sl → Heap → Prop, ((both1_1 = true →
  n0_1 ≠ 0 ∧
  eop P (Instr.buildSlice 25 1 #[(0, (VI (Int.tmod (w64 ((w64 (t15_1 + n0_1)) - 1)) n0_1)))]) h_7 fun rv_3 h_8 => ∃ t31_1 : Sl, rv_3 = (Sl.v t31_1) ∧ Vars h_8 [(b_2, [(Sl.v x_1)]), (b_1, [(Sl.v nilSl)])] ∧
  eop P (appS 25 25 25 (Sl.v t22_1) (Sl.v t31_1)) h_8 fun rv_4 h_9 => ∃ t32_1 : Sl, rv_4 = (Sl.v t32_1) ∧ Vars h_9 [(b_2, [(Sl.v x_1)]), (b_1, [(Sl.v nilSl)])] ∧
  J_2 t32_1 h_9) ∧
  (both1_1 = false →
  J_2 t22_1 h_7)) ∧
  ∀ (x_2 : Sl) (h_10 : Heap), J_2 x_2 h_10 → Vars h_10 [(b_2, [(Sl.v x_1)]), (b_1, [(Sl.v nilSl)])] →
  eop P (Instr.buildSlice 22 1 #[(0, (Sl.v x_2))]) h_10 fun rv_5 h_11 => ∃ t36_1 : Sl, rv_5 = (Sl.v t36_1) ∧ Vars h_11 [(b_2, [(Sl.v x_1)]), (b_1, [(Sl.v nilSl)])] ∧
  eop P (appS 22 22 22 (Sl.v x_1) (Sl.v t36_1)) h_11 fun rv_6 h_12 => ∃ t37_1 : Sl, rv_6 = (Sl.v t37_1) ∧ Vars h_12 [(b_2, [(Sl.v x_1)]), (b_1, [(Sl.v nilSl)])] ∧
  ∀ (h_13 : Heap), Fr (In [b_2]) h_12 h_13 → Vars h_13 [(b_2, [(Sl.v t37_1)]), (b_1, [(Sl.v nilSl)])] →
  ∃ m : Nat, m < n_1 ∧ J_1 m (w64 (t15_1 + 1)) t37_1 h_13) ∧
  ((decide (t15_1 < n0_1)) = false →
  ∀ (h_14 : Heap), Fr (In [b_1]) h_6 h_14 → Vars h_14 [(b_2, [(Sl.v x_1)]), (b_1, [(Sl.v x_1)])] →
  K (Value.tuple #[(Value.agg #[(Sl.v x_1)]), (VB true)]) h_14))
theorem v65 (n0_1 : Int) (both1_1 : Bool) (h : Heap) (K : Value → Heap → Prop) (H : u65 Try.prog n0_1 both1_1 h K) : callM Try.prog 65 #[(VI n0_1), (VB both1_1)] h K := by
  refine c65 (VI n0_1) (VB both1_1) h K ?_
  unfold u65 at H
  unfold t65
  have hL : Vars h [] := .nil
  refine eop_alloc 32 zer32 rfl hL (fun b_1 h_1 hb_1 hf_1 hL_1 => ?_)
  have H := H b_1 h_1 (Nat.le_trans (Fr.size (Fr.r (In []) _)) hb_1) (Fr.no' (Fr.r (In []) _) hf_1) hL_1
  refine H.mono fun rv_1 h_2 H => ?_
  obtain ⟨t10_1, rfl, hL_2, H⟩ := H
  refine pop_not t10_1 ?_
  refine condM_b (fun hb_2 => ?_) (fun hb_2 => ?_)
  · have H := H.1 hb_2
    refine pop.mk' (v := (Value.agg #[(Sl.v nilSl)])) (fun w => by kernel_rfl) ?_
    refine uop_loc siz32 hL_2 0 rfl 0 [(Sl.v nilSl)] rfl rfl rfl (Nat.le_of_ble_eq_true rfl) (L' := [(b_1, [(Sl.v nilSl)])]) rfl (fun h_3 hf_2 hL_3 => ?_)
    refine rop_locA agg32 hL_3 0 rfl 0 (vs := [(Sl.v nilSl)]) rfl rfl ?_
    have H := H  h_3  (Fr.old (Fr.r (In []) _) hf_2) hL_3
    exact H
  · have H := H.2 hb_2
    refine pop.mk' (v := (Value.agg #[(Sl.v nilSl)])) (fun w => by kernel_rfl) ?_
    refine eop_alloc 32 zer32 rfl hL_2 (fun b_2 h_4 hb_3 hf_3 hL_4 => ?_)
    refine uop_loc siz32 hL_4 0 rfl 0 [(Sl.v nilSl)] rfl rfl rfl (Nat.le_of_ble_eq_true rfl) (L' := [(b_2, [(Sl.v nilSl)]), (b_1, [(Sl.v nilSl)])]) rfl (fun h_5 hf_4 hL_5 => ?_)
    have H := H b_2 h_5 (Nat.le_trans (Fr.size (Fr.r (In []) _)) hb_3) (Fr.new (Fr.no' (Fr.r (In []) _) hf_3) (Nat.le_trans (Fr.size (Fr.r (In []) _)) hb_3) hf_4) hL_5
    obtain ⟨J_1, ⟨n_2, h0_1⟩, HB_2⟩ := H
    refine loop_intro (J := fun (n : Nat) (vs : List Value) (h' : Heap) => ∃ t15_1 : Int, ∃ x_1 : Sl, vs = [(VI t15_1)] ∧ J_1 n t15_1 x_1 h' ∧ Vars h' [(b_2, [(Sl.v x_1)]), (b_1, [(Sl.v nilSl)])]) n_2 ⟨0, nilSl, rfl, h0_1, hL_5⟩ ?_
    intro I_1 mu_1 hI_1 junk_1 tv_2 h_6 hi_1
    obtain ⟨n_1, ⟨t15_1, x_1, hv, hJ_1, hL_6⟩, hn_1⟩ := hI_1 _ _ hi_1
    cases hv
    have H := HB_2 n_1 t15_1 x_1 h_6 hJ_1 hL_6
    refine pop_lss .i64 t15_1 n0_1 ?_
    refine condM_b (fun hb_4 => ?_) (fun hb_4 => ?_)
    · have H := H.1 hb_4
      refine pop_add .i64 t15_1 1 ?_
      obtain ⟨hz_1, H⟩ := H
      refine pop_rem .i64 (w64 (t15_1 + 1)) n0_1 hz_1 ?_
      refine H.mono fun rv_2 h_7 H => ?_
      obtain ⟨t22_1, rfl, hL_7, H⟩ := H
      obtain ⟨J_2, H, HB_1⟩ := H
      refine ⟨fun (vs : List Value) (h' : Heap) => ∃ x_2 : Sl, vs = [(Sl.v x_2)] ∧ J_2 x_2 h' ∧ Vars h' [(b_2, [(Sl.v x_1)]), (b_1, [(Sl.v nilSl)])], ?_, ?_⟩
      · refine condM_b (fun hb_5 => ?_) (fun hb_5 => ?_)
        · have H := H.1 hb_5
          refine pop_add .i64 t15_1 n0_1 ?_
          refine pop_sub .i64 (w64 (t15_1 + n0_1)) 1 ?_
          obtain ⟨hz_2, H⟩ := H
          refine pop_rem .i64 (w64 ((w64 (t15_1 + n0_1)) - 1)) n0_1 hz_2 ?_
          refine H.mono fun rv_3 h_8 H => ?_
          obtain ⟨t31_1, rfl, hL_8, H⟩ := H
          refine H.mono fun rv_4 h_9 H => ?_
          obtain ⟨t32_1, rfl, hL_9, H⟩ := H
          exact ⟨t32_1, rfl, H, hL_9⟩
        · have H := H.2 hb_5
          exact ⟨t22_1, rfl, H, hL_7⟩
      intro junk_2 tv_1 h_10
      rintro ⟨x_2, hv, hJ_2, hL_10⟩
      cases hv
      have H := HB_1 x_2 h_10 hJ_2 hL_10
      refine pop_field 0 fld32_0 b_2 0 ?_
      refine rop_loc one22 hL_10 0 rfl 0 (v := (Sl.v x_1)) rfl ?_
      refine H.mono fun rv_5 h_11 H => ?_
      obtain ⟨t36_1, rfl, hL_11, H⟩ := H
      refine H.mono fun rv_6 h_12 H => ?_
      obtain ⟨t37_1, rfl, hL_12, H⟩ := H
      refine pop_field 0 fld32_0 b_2 0 ?_
      refine uop_loc siz22 hL_12 0 rfl 0 [(Sl.v t37_1)] rfl rfl rfl (Nat.le_of_ble_eq_true rfl) (L' := [(b_2, [(Sl.v t37_1)]), (b_1, [(Sl.v nilSl)])]) rfl (fun h_13 hf_5 hL_13 => ?_)
      refine pop_add .i64 t15_1 1 ?_
      have H := H  h_13  (Fr.old (Fr.r (In []) _) hf_5) hL_13
      obtain ⟨m_1, hm_1, H⟩ := H
      exact hn_1 _ _ ⟨m_1, hm_1, (w64 (t15_1 + 1)), t37_1, rfl, H, hL_13⟩
    · have H := H.2 hb_4
      refine rop_locA agg32 hL_6 0 rfl 0 (vs := [(Sl.v x_1)]) rfl rfl ?_
      refine uop_loc siz32 hL_6 1 rfl 0 [(Sl.v x_1)] rfl rfl rfl (Nat.le_of_ble_eq_true rfl) (L' := [(b_2, [(Sl.v x_1)]), (b_1, [(Sl.v x_1)])]) rfl (fun h_14 hf_6 hL_14 => ?_)
      refine rop_locA agg32 hL_14 1 rfl 0 (vs := [(Sl.v x_1)]) rfl rfl ?_
      have H := H  h_14  (Fr.old (Fr.r (In []) _) hf_6) hL_14
      exact H

/-! spec.CycleGraph -/
def u66 (P : Program) (n0_1 : Int) (both1_1 : Bool) (h : Heap) (K : Value → Heap → Prop) : Prop :=
  ∀ (b_1 : Nat) (h_1 : Heap), h.size ≤ b_1 → Fr (In []) h h_1 → Vars h_1 [(b_1, [(Sl.v nilSl)])] →
  callM P 117 #[(VI n0_1), (VI 1), (VI 8)] h_1 fun rv_1 h_2 => ∃ t7_1 : Bool, rv_1 = (VB t7_1) ∧ Vars h_2 [(b_1, [(Sl.v nilSl)])] ∧
  ((!t7_1) = true →
  ∀ (h_3 : Heap), Fr (In [b_1]) h_2 h_3 → Vars h_3 [(b_1, [(Sl.v nilSl)])] →
  K (Value.tuple #[(Value.agg #[(Sl.v nilSl)]), (VB false)]) h_3) ∧
  ((!t7_1) = false →
  callM P 124 #[(VI n0_1), (VB both1_1)] h_2 fun rv_2 h_4 => ∃ t12_1 : Sl, rv_2 = (Value.agg #[(Sl.v t12_1)]) ∧ Vars h_4 [(b_1, [(Sl.v nilSl)])] ∧
  ∀ (h_5 : Heap), Fr (In [b_1]) h_4 h_5 → Vars h_5 [(b_1, [(Sl.v t12_1)])] →
  K (Value.tuple #[(Value.agg #[(Sl.v t12_1)]), (VB true)]) h_5)
theorem v66 (n0_1 : Int) (both1_1 : Bool) (h : Heap) (K : Value → Heap → Prop) (H : u66 Try.prog n0_1 both1_1 h K) : callM Try.prog 66 #[(VI n0_1), (VB both1_1)] h K := by
  refine c66 (VI n0_1) (VB both1_1) h K ?_
  unfold u66 at H
  unfold t66
  have hL : Vars h [] := .nil
  refine eop_alloc 32 zer32 rfl hL (fun b_1 h_1 hb_1 hf_1 hL_1 => ?_)
  have H := H b_1 h_1 (Nat.le_trans (Fr.size (Fr.r (In []) _)) hb_1) (Fr.no' (Fr.r (In []) _) hf_1) hL_1
  refine H.mono fun rv_1 h_2 H => ?_
  obtain ⟨t7_1, rfl, hL_2, H⟩ := H
  refine pop_not t7_1 ?_
  refine condM_b (fun hb_2 => ?_) (fun hb_2 => ?_)
  · have H := H.1 hb_2
    refine pop.mk' (v := (Value.agg #[(Sl.v nilSl)])) (fun w => by kernel_rfl) ?_
    refine uop_loc siz32 hL_2 0 rfl 0 [(Sl.v nilSl)] rfl rfl rfl (Nat.le_of_ble_eq_true rfl) (L' := [(b_1, [(Sl.v nilSl)])]) rfl (fun h_3 hf_2 hL_3 => ?_)
    refine rop_locA agg32 hL_3 0 rfl 0 (vs := [(Sl.v nilSl)]) rfl rfl ?_
    have H := H  h_3  (Fr.old (Fr.r (In []) _) hf_2) hL_3
    exact H
  · have H := H.2 hb_2
    refine H.mono fun rv_2 h_4 H => ?_
    obtain ⟨t12_1, rfl, hL_4, H⟩ := H
    refine uop_loc siz32 hL_4 0 rfl 0 [(Sl.v t12_1)] rfl rfl rfl (Nat.le_of_ble_eq_true rfl) (L' := [(b_1, [(Sl.v t12_1)])]) rfl (fun h_5 hf_3 hL_5 => ?_)
    refine rop_locA agg32 hL_5 0 rfl 0 (vs := [(Sl.v t12_1)]) rfl rfl ?_
    have H := H  h_5  (Fr.old (Fr.r (In []) _) hf_3) hL_5
    exact H

/-! impl.IsStrong -/
def u67 (P : Program) (g0_1 : Sl) (h : Heap) (K : Value → Heap → Prop) : Prop :=
  ∀ (b_1 : Nat) (h_1 : Heap), h.size ≤ b_1 → Fr (In []) h h_1 → Vars h_1 [(b_1, [(Sl.v g0_1)])] →
  callM P 88 #[(Value.agg #[(Sl.v g0_1)])] h_1 fun rv_1 h_2 => ∃ t5_1 : Bool, rv_1 = (VB t5_1) ∧ Vars h_2 [(b_1, [(Sl.v g0_1)])] ∧
  ((!t5_1) = true →
  K (Value.tuple #[(VB false), (VB false)]) h_2) ∧
  ((!t5_1) = false →
  callM P 125 #[(Value.agg #[(Sl.v g0_1)])] h_2 fun rv_2 h_3 => ∃ t8_1 : Bool, rv_2 = (VB t8_1) ∧ Vars h_3 [(b_1, [(Sl.v g0_1)])] ∧
  K (Value.tuple #[(VB t8_1), (VB true)]) h_3)
theorem v67 (g0_1 : Sl) (h : Heap) (K : Value → Heap → Prop) (H : u67 Try.prog g0_1 h K) : callM Try.prog 67 #[(Value.agg #[(Sl.v g0_1)])] h K := by
  refine c67 (Value.agg #[(Sl.v g0_1)]) h K ?_
  unfold u67 at H
  unfold t67
  have hL : Vars h [] := .nil
  refine eop_box 32 (Value.agg #[(Sl.v g0_1)]) rfl hL (fun b_1 h_1 hb_1 hf_1 hL_1 => ?_)
  refine rop_locA agg32 hL_1 0 rfl 0 (vs := [(Sl.v g0_1)]) rfl rfl ?_
  have H := H b_1 h_1 (Nat.le_trans (Fr.size (Fr.r (In []) _)) hb_1) (Fr.no' (Fr.r (In []) _) hf_1) hL_1
  refine H.mono fun rv_1 h_2 H => ?_
  obtain ⟨t5_1, rfl, hL_2, H⟩ := H
  refine pop_not t5_1 ?_
  refine condM_b (fun hb_2 => ?_) (fun hb_2 => ?_)
  · have H := H.1 hb_2
    exact H
  · have H := H.2 hb_2
    refine rop_locA agg32 hL_2 0 rfl 0 (vs := [(Sl.v g0_1)]) rfl rfl ?_
    refine H.mono fun rv_2 h_3 H => ?_
    obtain ⟨t8_1, rfl, hL_3, H⟩ := H
    exact H

/-! impl.IsBalanced -/
def u68 (P : Program) (g0_1 : Sl) (h : Heap) (K : Value → Heap → Prop) : Prop :=
  ∀ (b_1 : Nat) (h_1 : Heap), h.size ≤ b_1 → Fr (In []) h h_1 → Vars h_1 [(b_1, [(Sl.v g0_1)])] →
  callM P 88 #[(Value.agg #[(Sl.v g0_1)])] h_1 fun rv_1 h_2 => ∃ t5_1 : Bool, rv_1 = (VB t5_1) ∧ Vars h_2 [(b_1, [(Sl.v g0_1)])] ∧
  ((!t5_1) = true →
  K (Value.tuple #[(VB false), (VB false)]) h_2) ∧
  ((!t5_1) = false →
  callM P 126 #[(Value.agg #[(Sl.v g0_1)])] h_2 fun rv_2 h_3 => ∃ t8_1 : Bool, rv_2 = (VB t8_1) ∧ Vars h_3 [(b_1, [(Sl.v g0_1)])] ∧
  K (Value.tuple #[(VB t8_1), (VB true)]) h_3)
theorem v68 (g0_1 : Sl) (h : Heap) (K : Value → Heap → Prop) (H : u68 Try.prog g0_1 h K) : callM Try.prog 68 #[(Value.agg #[(Sl.v g0_1)])] h K := by
  refine c68 (Value.agg #[(Sl.v g0_1)]) h K ?_
  unfold u68 at H
  unfold t68
  have hL : Vars h [] := .nil
  refine eop_box 32 (Value.agg #[(Sl.v g0_1)]) rfl hL (fun b_1 h_1 hb_1 hf_1 hL_1 => ?_)
  refine rop_locA agg32 hL_1 0 rfl 0 (vs := [(Sl.v g0_1)]) rfl rfl ?_
  have H := H b_1 h_1 (Nat.le_trans (Fr.size (Fr.r (In []) _)) hb_1) (Fr.no' (Fr.r (In []) _) hf_1) hL_1
  refine H.mono fun rv_1 h_2 H => ?_
  obtain ⟨t5_1, rfl, hL_2, H⟩ := H
  refine pop_not t5_1 ?_
  refine condM_b (fun hb_2 => ?_) (fun hb_2 => ?_)
  · have H := H.1 hb_2
    exact H
  · have H := H.2 hb_2
    refine rop_locA agg32 hL_2 0 rfl 0 (vs := [(Sl.v g0_1)]) rfl rfl ?_
    refine H.mono fun rv_2 h_3 H => ?_
    obtain ⟨t8_1, rfl, hL_3, H⟩ := H
    exact H

/-! impl.isGraph -/
def u88 (P : Program) (g0_1 : Sl) (h : Heap) (K : Value → Heap → Prop) : Prop :=
  ∀ (b_1 : Nat) (b_2 : Nat) (h_3 : Heap), h.size ≤ b_1 → h.size ≤ b_2 → Fr (In []) h h_3 → Vars h_3 [(b_2, [(VI (g0_1.n : Int))]), (b_1, [(Sl.v g0_1)])] →
  callM P 113 #[(VI (g0_1.n : Int)), (VI 1), (VI 8)] h_3 fun rv_1 h_4 => ∃ t10_1 : Bool, rv_1 = (VB t10_1) ∧ Vars h_4 [(b_2, [(VI (g0_1.n : Int))]), (b_1, [(Sl.v g0_1)])] ∧
  ((!t10_1) = true →
  K (VB false) h_4) ∧
  ((!t10_1) = false →
  ∃ J_1 : Nat → Int → Int → Heap → Prop, (∃ n0 : Nat, J_1 n0 0 (g0_1.n : Int) h_4) ∧
  ∀ (n_1 : Nat) (t15_1 : Int) (x_1 : Int) (h_5 : Heap), J_1 n_1 t15_1 x_1 h_5 → Vars h_5 [(b_2, [(VI x_1)]), (b_1, [(Sl.v g0_1)])] →
  ((decide (t15_1 < (g0_1.n : Int))) = true →
  InB g0_1 t15_1 ∧
  ∃ t18_1 : Sl, hcell h_5 (Sl.at g0_1 t15_1 1) = some (Sl.v t18_1) ∧
  ((decide (5 < (t18_1.n : Int))) = true →
  K (VB false) h_5) ∧
  ((decide (5 < (t18_1.n : Int))) = false →
  callM P 102 #[(Sl.v t18_1), (Value.func (Fn.func 150) #[] #[(VP b_2 0)])] h_5 fun rv_2 h_6 => ∃ x_2 : Int, ∃ t25_1 : Bool, rv_2 = (VB t25_1) ∧ Vars h_6 [(b_2, [(VI x_2)]), (b_1, [(Sl.v g0_1)])] ∧
  (t25_1 = true →
  K (VB false) h_6) ∧
  (t25_1 = false →
  ∃ m : Nat, m < n_1 ∧ J_1 m (w64 (t15_1 + 1)) x_2 h_6))) ∧
  ((decide (t15_1 < (g0_1.n : Int))) = false →
  K (VB true) h_5))
theorem v88 (g0_1 : Sl) (h : Heap) (K : Value → Heap → Prop) (H : u88 Try.prog g0_1 h K) : callM Try.prog 88 #[(Value.agg #[(Sl.v g0_1)])] h K := by
  refine c88 (Value.agg #[(Sl.v g0_1)]) h K ?_
  unfold u88 at H
  unfold t88
  have hL : Vars h [] := .nil
  refine eop_box 32 (Value.agg #[(Sl.v g0_1)]) rfl hL (fun b_1 h_1 hb_1 hf_1 hL_1 => ?_)
  refine pop_field 0 fld32_0 b_1 0 ?_
  refine rop_loc one22 hL_1 0 rfl 0 (v := (Sl.v g0_1)) rfl ?_
  refine pop_len g0_1 _ _ sli22 ?_
  refine eop_alloc 3 zer3 rfl hL_1 (fun b_2 h_2 hb_2 hf_2 hL_2 => ?_)
  refine uop_loc siz3 hL_2 0 rfl 0 [(VI (g0_1.n : Int))] rfl rfl rfl (Nat.le_of_ble_eq_true rfl) (L' := [(b_2, [(VI (g0_1.n : Int))]), (b_1, [(Sl.v g0_1)])]) rfl (fun h_3 hf_3 hL_3 => ?_)
  refine rop_loc one3 hL_3 0 rfl 0 (v := (VI (g0_1.n : Int))) rfl ?_
  have H := H b_1 b_2 h_3 (Nat.le_trans (Fr.size (Fr.r (In []) _)) hb_1) (Nat.le_trans (Fr.size (Fr.no' (Fr.r (In []) _) hf_1)) hb_2) (Fr.new (Fr.no' (Fr.no' (Fr.r (In []) _) hf_1) hf_2) (Nat.le_trans (Fr.size (Fr.no' (Fr.r (In []) _) hf_1)) hb_2) hf_3) hL_3
  refine H.mono fun rv_1 h_4 H => ?_
  obtain ⟨t10_1, rfl, hL_4, H⟩ := H
  refine pop_not t10_1 ?_
  refine condM_b (fun hb_3 => ?_) (fun hb_3 => ?_)
  · have H := H.1 hb_3
    exact H
  · have H := H.2 hb_3
    refine pop_field 0 fld32_0 b_1 0 ?_
    refine rop_loc one22 hL_4 1 rfl 0 (v := (Sl.v g0_1)) rfl ?_
    refine pop_len g0_1 _ _ sli22 ?_
    obtain ⟨J_1, ⟨n_2, h0_1⟩, HB_1⟩ := H
    refine loop_intro (J := fun (n : Nat) (vs : List Value) (h' : Heap) => ∃ t15_1 : Int, ∃ x_1 : Int, vs = [(VI t15_1)] ∧ J_1 n t15_1 x_1 h' ∧ Vars h' [(b_2, [(VI x_1)]), (b_1, [(Sl.v g0_1)])]) n_2 ⟨0, (g0_1.n : Int), rfl, h0_1, hL_4⟩ ?_
    intro I_1 mu_1 hI_1 junk_1 tv_1 h_5 hi_1
    obtain ⟨n_1, ⟨t15_1, x_1, hv, hJ_1, hL_5⟩, hn_1⟩ := hI_1 _ _ hi_1
    cases hv
    have H := HB_1 n_1 t15_1 x_1 h_5 hJ_1 hL_5
    refine pop_lss .i64 t15_1 (g0_1.n : Int) ?_
    refine condM_b (fun hb_4 => ?_) (fun hb_4 => ?_)
    · have H := H.1 hb_4
      obtain ⟨hi_2, H⟩ := H
      refine pop_index sli22 siz25 .i64 g0_1 t15_1 hi_2 ?_
      obtain ⟨t18_1, hc_1, H⟩ := H
      refine rop_one one25 (Sl.v t18_1) hc_1 ?_
      refine pop_len t18_1 _ _ sli25 ?_
      refine pop_gtr .i64 (t18_1.n : Int) 5 ?_
      refine guardM_sf (fun hb_5 => ?_) (fun hb_5 => ?_)
      · have H := H.2 hb_5
        refine guardM_y' hb_5 ?_
        refine pop_func _ _ _ ?_
        refine guardM_y' hb_5 ?_
        refine H.mono fun rv_2 h_6 H => ?_
        obtain ⟨x_2, t25_1, rfl, hL_6, H⟩ := H
        refine pop_pickf' hb_5 ?_
        refine condM_b (fun hb_6 => ?_) (fun hb_6 => ?_)
        · have H := H.1 hb_6
          exact H
        · have H := H.2 hb_6
          refine pop_add .i64 t15_1 1 ?_
          obtain ⟨m_1, hm_1, H⟩ := H
          exact hn_1 _ _ ⟨m_1, hm_1, (w64 (t15_1 + 1)), x_2, rfl, H, hL_6⟩
      · have H := H.1 hb_5
        refine guardM_n' hb_5 (by decide) ?_
        refine guardM_n' hb_5 (by decide) ?_
        refine pop_pickt' hb_5 ?_
        refine condM_t ?_
        exact H
    · have H := H.2 hb_4
      exact H

/-! (*spec.l1Cur).one -/
def u99 (P : Program) (b_1 : Nat) (c0_1 : Sl) (c0_2 : Int) (c0_3 : Int) (n1_1 : Int) (h : Heap) (K : Value → Heap → Prop) : Prop :=
  callM P 100 #[(VP b_1 0), (VI n1_1)] h fun rv_1 h_1 => ∃ x_1 : Sl, ∃ x_2 : Int, ∃ x_3 : Int, ∃ t7_1 : Int, rv_1 = (VI t7_1) ∧ Vars h_1 [(b_1, [(Sl.v x_1), (VI x_2), (Value.int .u64 x_3)])] ∧
  K (VB (decide (t7_1 = 0))) h_1
theorem v99 (b_1 : Nat) (c0_1 : Sl) (c0_2 : Int) (c0_3 : Int) (n1_1 : Int) (h : Heap) (K : Value → Heap → Prop) (hL : Vars h [(b_1, [(Sl.v c0_1), (VI c0_2), (Value.int .u64 c0_3)])]) (H : u99 Try.prog b_1 c0_1 c0_2 c0_3 n1_1 h K) : callM Try.prog 99 #[(VP b_1 0), (VI n1_1)] h K := by
  refine c99 (VP b_1 0) (VI n1_1) h K ?_
  unfold u99 at H
  unfold t99
  refine H.mono fun rv_1 h_1 H => ?_
  obtain ⟨x_1, x_2, x_3, t7_1, rfl, hL_1, H⟩ := H
  refine pop_ieq .i64 _ _ t7_1 0 ?_
  exact H

/-! (*spec.l1Cur).pick -/
def u100 (P : Program) (b_1 : Nat) (c0_1 : Sl) (c0_2 : Int) (c0_3 : Int) (n1_1 : Int) (h : Heap) (K : Value → Heap → Prop) : Prop :=
  ((decide (n1_1 ≤ 1)) = true →
  K (VI 0) h) ∧
  ((decide (n1_1 ≤ 1)) = false →
  callM P 158 #[(VP b_1 0)] h fun rv_1 h_1 => ∃ x_1 : Sl, ∃ x_2 : Int, ∃ x_3 : Int, ∃ t9_1 : Int, rv_1 = (VI t9_1) ∧ Vars h_1 [(b_1, [(Sl.v x_1), (VI x_2), (Value.int .u64 x_3)])] ∧
  ∃ J_1 : Int → Sl → Int → Int → Heap → Prop, (((decide (200 < n1_1)) = true →
  callM P 158 #[(VP b_1 0)] h_1 fun rv_2 h_2 => ∃ x_8 : Sl, ∃ x_9 : Int, ∃ x_10 : Int, ∃ t15_1 : Int, rv_2 = (VI t15_1) ∧ Vars h_2 [(b_1, [(Sl.v x_8), (VI x_9), (Value.int .u64 x_10)])] ∧
  J_1 (w64 ((w64 (t9_1 * 256)) + t15_1)) x_8 x_9 x_10 h_2) ∧
  ((decide (200 < n1_1)) = false →
  J_1 t9_1 x_1 x_2 x_3 h_1)) ∧
  ∀ (x_4 : Int) (x_5 : Sl) (x_6 : Int) (x_7 : Int) (h_3 : Heap), J_1 x_4 x_5 x_6 x_7 h_3 → Vars h_3 [(b_1, [(Sl.v x_5), (VI x_6), (Value.int .u64 x_7)])] →
  n1_1 ≠ 0 ∧
  K (VI (Int.tmod x_4 n1_1)) h_3)
theorem v100 (b_1 : Nat) (c0_1 : Sl) (c0_2 : Int) (c0_3 : Int) (n1_1 : Int) (h : Heap) (K : Value → Heap → Prop) (hL : Vars h [(b_1, [(Sl.v c0_1), (VI c0_2), (Value.int .u64 c0_3)])]) (H : u100 Try.prog b_1 c0_1 c0_2 c0_3 n1_1 h K) : callM Try.prog 100 #[(VP b_1 0), (VI n1_1)] h K := by
  refine c100 (VP b_1 0) (VI n1_1) h K ?_
  unfold u100 at H
  unfold t100
  refine pop_leq .i64 n1_1 1 ?_
  refine condM_b (fun hb_1 => ?_) (fun hb_1 => ?_)
  · have H := H.1 hb_1
    exact H
  · have H := H.2 hb_1
    refine H.mono fun rv_1 h_1 H => ?_
    obtain ⟨x_1, x_2, x_3, t9_1, rfl, hL_1, H⟩ := H
    obtain ⟨J_1, H, HB_1⟩ := H
    refine ⟨fun (vs : List Value) (h' : Heap) => ∃ x_4 : Int, ∃ x_5 : Sl, ∃ x_6 : Int, ∃ x_7 : Int, vs = [(VI x_4)] ∧ J_1 x_4 x_5 x_6 x_7 h' ∧ Vars h' [(b_1, [(Sl.v x_5), (VI x_6), (Value.int .u64 x_7)])], ?_, ?_⟩
    · refine pop_gtr .i64 n1_1 200 ?_
      refine condM_b (fun hb_2 => ?_) (fun hb_2 => ?_)
      · have H := H.1 hb_2
        refine pop_mul .i64 t9_1 256 ?_
        refine H.mono fun rv_2 h_2 H => ?_
        obtain ⟨x_8, x_9, x_10, t15_1, rfl, hL_2, H⟩ := H
        refine pop_add .i64 (w64 (t9_1 * 256)) t15_1 ?_
        exact ⟨(w64 ((w64 (t9_1 * 256)) + t15_1)), x_8, x_9, x_10, rfl, H, hL_2⟩
      · have H := H.2 hb_2
        exact ⟨t9_1, x_1, x_2, x_3, rfl, H, hL_1⟩
    intro junk_1 tv_1 h_3
    rintro ⟨x_4, x_5, x_6, x_7, hv, hJ_1, hL_3⟩
    cases hv
    have H := HB_1 x_4 x_5 x_6 x_7 h_3 hJ_1 hL_3
    obtain ⟨hz_1, H⟩ := H
    refine pop_rem .i64 x_4 n1_1 hz_1 ?_
    exact H

/-! (*spec.l1Cur).among -/
def u101 (P : Program) (b_1 : Nat) (c0_1 : Sl) (c0_2 : Int) (c0_3 : Int) (list1_1 : Sl) (h : Heap) (K : Value → Heap → Prop) : Prop :=
  callM P 100 #[(VP b_1 0), (VI (list1_1.n : Int))] h fun rv_1 h_1 => ∃ x_1 : Sl, ∃ x_2 : Int, ∃ x_3 : Int, ∃ t9_1 : Int, rv_1 = (VI t9_1) ∧ Vars h_1 [(b_1, [(Sl.v x_1), (VI x_2), (Value.int .u64 x_3)])] ∧
  InB list1_1 t9_1 ∧
  ∃ t11_1 : Int, hcell h_1 (Sl.at list1_1 t9_1 1) = some (VI t11_1) ∧
  K (VI t11_1) h_1
theorem v101 (b_1 : Nat) (c0_1 : Sl) (c0_2 : Int) (c0_3 : Int) (list1_1 : Sl) (h : Heap) (K : Value → Heap → Prop) (hL : Vars h [(b_1, [(Sl.v c0_1), (VI c0_2), (Value.int .u64 c0_3)])]) (H : u101 Try.prog b_1 c0_1 c0_2 c0_3 list1_1 h K) : callM Try.prog 101 #[(VP b_1 0), (Sl.v list1_1)] h K := by
  refine c101 (VP b_1 0) (Sl.v list1_1) h K ?_
  unfold u101 at H
  unfold t101
  refine pop_len list1_1 _ _ sli25 ?_
  refine H.mono fun rv_1 h_1 H => ?_
  obtain ⟨x_1, x_2, x_3, t9_1, rfl, hL_1, H⟩ := H
  obtain ⟨hi_1, H⟩ := H
  refine pop_index sli25 siz3 .i64 list1_1 t9_1 hi_1 ?_
  obtain ⟨t11_1, hc_1, H⟩ := H
  refine rop_one one3 (VI t11_1) hc_1 ?_
  exact H

/-! slices.ContainsFunc[[]int,int] -/
def u102 (P : Program) (s0_1 : Sl) (f1_1 : Value) (h : Heap) (K : Value → Heap → Prop) : Prop :=
  callM P 159 #[(Sl.v s0_1), f1_1] h fun rv_1 h_1 => ∃ t7_1 : Int, rv_1 = (VI t7_1) ∧ Vars h_1 [] ∧
  K (VB (decide (0 ≤ t7_1))) h_1
theorem v102 (s0_1 : Sl) (f1_1 : Value) (h : Heap) (K : Value → Heap → Prop) (H : u102 Try.prog s0_1 f1_1 h K) : callM Try.prog 102 #[(Sl.v s0_1), f1_1] h K := by
  refine c102 (Sl.v s0_1) f1_1 h K ?_
  unfold u102 at H
  unfold t102
  have hL : Vars h [] := .nil
  refine H.mono fun rv_1 h_1 H => ?_
  obtain ⟨t7_1, rfl, hL_1, H⟩ := H
  refine pop_geq .i64 t7_1 0 ?_
  exact H

/-! spec.l1All -/
def u104 (P : Program) (l0_1 : Sl) (lo1_1 : Int) (hi2_1 : Int) (h : Heap) (K : Value → Heap → Prop) : Prop :=
  ∃ J_1 : Nat → Int → Heap → Prop, (∃ n0 : Nat, J_1 n0 0 h) ∧
  ∀ (n_1 : Nat) (t11_1 : Int) (h_1 : Heap), J_1 n_1 t11_1 h_1 → Vars h_1 [] →
  ((decide (t11_1 < (l0_1.n : Int))) = true →
  InB l0_1 t11_1 ∧
  ∃ t14_1 : Int, hcell h_1 (Sl.at l0_1 t11_1 1) = some (VI t14_1) ∧
  callM P 117 #[(VI t14_1), (VI lo1_1), (VI hi2_1)] h_1 fun rv_1 h_2 => ∃ t18_1 : Bool, rv_1 = (VB t18_1) ∧ Vars h_2 [] ∧
  ((!t18_1) = true →
  K (VB false) h_2) ∧
  ((!t18_1) = false →
  ∃ m : Nat, m < n_1 ∧ J_1 m (w64 (t11_1 + 1)) h_2)) ∧
  ((decide (t11_1 < (l0_1.n : Int))) = false →
  K (VB true) h_1)
theorem v104 (l0_1 : Sl) (lo1_1 : Int) (hi2_1 : Int) (h : Heap) (K : Value → Heap → Prop) (H : u104 Try.prog l0_1 lo1_1 hi2_1 h K) : callM Try.prog 104 #[(Sl.v l0_1), (VI lo1_1), (VI hi2_1)] h K := by
  refine c104 (Sl.v l0_1) (VI lo1_1) (VI hi2_1) h K ?_
  unfold u104 at H
  unfold t104
  have hL : Vars h [] := .nil
  refine pop_len l0_1 _ _ sli25 ?_
  obtain ⟨J_1, ⟨n_2, h0_1⟩, HB_1⟩ := H
  refine loop_intro (J := fun (n : Nat) (vs : List Value) (h' : Heap) => ∃ t11_1 : Int, vs = [(VI t11_1)] ∧ J_1 n t11_1 h' ∧ Vars h' []) n_2 ⟨0, rfl, h0_1, hL⟩ ?_
  intro I_1 mu_1 hI_1 junk_1 tv_1 h_1 hi_1
  obtain ⟨n_1, ⟨t11_1, hv, hJ_1, hL_1⟩, hn_1⟩ := hI_1 _ _ hi_1
  cases hv
  have H := HB_1 n_1 t11_1 h_1 hJ_1 hL_1
  refine pop_lss .i64 t11_1 (l0_1.n : Int) ?_
  refine condM_b (fun hb_1 => ?_) (fun hb_1 => ?_)
  · have H := H.1 hb_1
    obtain ⟨hi_2, H⟩ := H
    refine pop_index sli25 siz3 .i64 l0_1 t11_1 hi_2 ?_
    obtain ⟨t14_1, hc_1, H⟩ := H
    refine rop_one one3 (VI t14_1) hc_1 ?_
    refine H.mono fun rv_1 h_2 H => ?_
    obtain ⟨t18_1, rfl, hL_2, H⟩ := H
    refine pop_not t18_1 ?_
    refine condM_b (fun hb_2 => ?_) (fun hb_2 => ?_)
    · have H := H.1 hb_2
      exact H
    · have H := H.2 hb_2
      refine pop_add .i64 t11_1 1 ?_
      obtain ⟨m_1, hm_1, H⟩ := H
      exact hn_1 _ _ ⟨m_1, hm_1, (w64 (t11_1 + 1)), rfl, H, hL_2⟩
  · have H := H.2 hb_1
    exact H

/-! (*spec.l1Cur).place -/
def u106 (P : Program) (b_1 : Nat) (c0_1 : Sl) (c0_2 : Int) (c0_3 : Int) (g1_1 : Sl) (h : Heap) (K : Value → Heap → Prop) : Prop :=
  ((decide ((g1_1.n : Int) = 0)) = true →
  ∀ (b_2 : Nat) (h_1 : Heap), h.size ≤ b_2 → Fr (In []) h h_1 → Vars h_1 [(b_2, [(Sl.v g1_1)]), (b_1, [(Sl.v c0_1), (VI c0_2), (Value.int .u64 c0_3)])] →
  eop P (Instr.buildSlice 25 4 #[(0, (Value.int IntKind.i64 (-1))), (1, (Value.int IntKind.i64 0)), (2, (VI (g1_1.n : Int))), (3, (Value.int IntKind.i64 4611686018427387904))]) h_1 fun rv_5 h_6 => ∃ t17_2 : Sl, rv_5 = (Sl.v t17_2) ∧ Vars h_6 [(b_2, [(Sl.v g1_1)]), (b_1, [(Sl.v c0_1), (VI c0_2), (Value.int .u64 c0_3)])] ∧
  callM P 101 #[(VP b_1 0), (Sl.v t17_2)] h_6 fun rv_6 h_7 => ∃ x_10 : Sl, ∃ x_11 : Int, ∃ x_12 : Int, ∃ t18_2 : Int, rv_6 = (VI t18_2) ∧ Vars h_7 [(b_2, [(Sl.v g1_1)]), (b_1, [(Sl.v x_10), (VI x_11), (Value.int .u64 x_12)])] ∧
  K (VI t18_2) h_7) ∧
  ((decide ((g1_1.n : Int) = 0)) = false →
  ∀ (b_2 : Nat) (h_1 : Heap), h.size ≤ b_2 → Fr (In []) h h_1 → Vars h_1 [(b_2, [(Sl.v g1_1)]), (b_1, [(Sl.v c0_1), (VI c0_2), (Value.int .u64 c0_3)])] →
  callM P 99 #[(VP b_1 0), (VI 14)] h_1 fun rv_1 h_2 => ∃ x_1 : Sl, ∃ x_2 : Int, ∃ x_3 : Int, ∃ t11_1 : Bool, rv_1 = (VB t11_1) ∧ Vars h_2 [(b_2, [(Sl.v g1_1)]), (b_1, [(Sl.v x_1), (VI x_2), (Value.int .u64 x_3)])] ∧
  (t11_1 = true →
  eop P (Instr.buildSlice 25 4 #[(0, (Value.int IntKind.i64 (-1))), (1, (Value.int IntKind.i64 0)), (2, (VI (g1_1.n : Int))), (3, (Value.int IntKind.i64 4611686018427387904))]) h_2 fun rv_2 h_3 => ∃ t17_1 : Sl, rv_2 = (Sl.v t17_1) ∧ Vars h_3 [(b_2, [(Sl.v g1_1)]), (b_1, [(Sl.v x_1), (VI x_2), (Value.int .u64 x_3)])] ∧
  callM P 101 #[(VP b_1 0), (Sl.v t17_1)] h_3 fun rv_3 h_4 => ∃ x_4 : Sl, ∃ x_5 : Int, ∃ x_6 : Int, ∃ t18_1 : Int, rv_3 = (VI t18_1) ∧ Vars h_4 [(b_2, [(Sl.v g1_1)]), (b_1, [(Sl.v x_4), (VI x_5), (Value.int .u64 x_6)])] ∧
  K (VI t18_1) h_4) ∧
  (t11_1 = false →
  callM P 100 #[(VP b_1 0), (VI (g1_1.n : Int))] h_2 fun rv_4 h_5 => ∃ x_7 : Sl, ∃ x_8 : Int, ∃ x_9 : Int, ∃ t23_1 : Int, rv_4 = (VI t23_1) ∧ Vars h_5 [(b_2, [(Sl.v g1_1)]), (b_1, [(Sl.v x_7), (VI x_8), (Value.int .u64 x_9)])] ∧
  K (VI t23_1) h_5))
theorem v106 (b_1 : Nat) (c0_1 : Sl) (c0_2 : Int) (c0_3 : Int) (g1_1 : Sl) (h : Heap) (K : Value → Heap → Prop) (hL : Vars h [(b_1, [(Sl.v c0_1), (VI c0_2), (Value.int .u64 c0_3)])]) (H : u106 Try.prog b_1 c0_1 c0_2 c0_3 g1_1 h K) : callM Try.prog 106 #[(VP b_1 0), (Value.agg #[(Sl.v g1_1)])] h K := by
  refine c106 (VP b_1 0) (Value.agg #[(Sl.v g1_1)]) h K ?_
  unfold u106 at H
  unfold t106
  refine eop_box 32 (Value.agg #[(Sl.v g1_1)]) rfl hL (fun b_2 h_1 hb_1 hf_1 hL_1 => ?_)
  refine pop_field 0 fld32_0 b_2 0 ?_
  refine rop_loc one22 hL_1 0 rfl 0 (v := (Sl.v g1_1)) rfl ?_
  refine pop_len g1_1 _ _ sli22 ?_
  refine pop_ieq .i64 _ _ (g1_1.n : Int) 0 ?_
  refine guardM_sf (fun hb_2 => ?_) (fun hb_2 => ?_)
  · have H := H.2 hb_2
    refine guardM_y' hb_2 ?_
    have H := H b_2 h_1 (Nat.le_trans (Fr.size (Fr.r (In []) _)) hb_1) (Fr.no' (Fr.r (In []) _) hf_1) hL_1
    refine H.mono fun rv_1 h_2 H => ?_
    obtain ⟨x_1, x_2, x_3, t11_1, rfl, hL_2, H⟩ := H
    refine pop_pickf' hb_2 ?_
    refine condM_b (fun hb_3 => ?_) (fun hb_3 => ?_)
    · have H := H.1 hb_3
      refine pop_field 0 fld32_0 b_2 0 ?_
      refine rop_loc one22 hL_2 0 rfl 0 (v := (Sl.v g1_1)) rfl ?_
      refine pop_len g1_1 _ _ sli22 ?_
      refine H.mono fun rv_2 h_3 H => ?_
      obtain ⟨t17_1, rfl, hL_3, H⟩ := H
      refine H.mono fun rv_3 h_4 H => ?_
      obtain ⟨x_4, x_5, x_6, t18_1, rfl, hL_4, H⟩ := H
      exact H
    · have H := H.2 hb_3
      refine pop_field 0 fld32_0 b_2 0 ?_
      refine rop_loc one22 hL_2 0 rfl 0 (v := (Sl.v g1_1)) rfl ?_
      refine pop_len g1_1 _ _ sli22 ?_
      refine H.mono fun rv_4 h_5 H => ?_
      obtain ⟨x_7, x_8, x_9, t23_1, rfl, hL_5, H⟩ := H
      exact H
  · have H := H.1 hb_2
    refine guardM_n' hb_2 (by decide) ?_
    refine pop_pickt' hb_2 ?_
    refine condM_t ?_
    refine pop_field 0 fld32_0 b_2 0 ?_
    refine rop_loc one22 hL_1 0 rfl 0 (v := (Sl.v g1_1)) rfl ?_
    refine pop_len g1_1 _ _ sli22 ?_
    have H := H b_2 h_1 (Nat.le_trans (Fr.size (Fr.r (In []) _)) hb_1) (Fr.no' (Fr.r (In []) _) hf_1) hL_1
    refine H.mono fun rv_5 h_6 H => ?_
    obtain ⟨t17_2, rfl, hL_6, H⟩ := H
    refine H.mono fun rv_6 h_7 H => ?_
    obtain ⟨x_10, x_11, x_12, t18_2, rfl, hL_7, H⟩ := H
    exact H

/-! impl.has -/
def u107 (P : Program) (g0_1 : Sl) (places1_1 : Sl) (h : Heap) (K : Value → Heap → Prop) : Prop :=
  ∀ (b_1 : Nat) (h_1 : Heap), h.size ≤ b_1 → Fr (In []) h h_1 → Vars h_1 [(b_1, [(Sl.v g0_1)])] →
  callM P 88 #[(Value.agg #[(Sl.v g0_1)])] h_1 fun rv_1 h_2 => ∃ t6_1 : Bool, rv_1 = (VB t6_1) ∧ Vars h_2 [(b_1, [(Sl.v g0_1)])] ∧
  (t6_1 = true →
  callM P 102 #[(Sl.v places1_1), (Value.func (Fn.func 161) #[] #[(VP b_1 0)])] h_2 fun rv_2 h_3 => ∃ x_1 : Sl, ∃ t10_1 : Bool, rv_2 = (VB t10_1) ∧ Vars h_3 [(b_1, [(Sl.v x_1)])] ∧
  K (VB (!t10_1)) h_3) ∧
  (t6_1 = false →
  K (VB false) h_2)
theorem v107 (g0_1 : Sl) (places1_1 : Sl) (h : Heap) (K : Value → Heap → Prop) (H : u107 Try.prog g0_1 places1_1 h K) : callM Try.prog 107 #[(Value.agg #[(Sl.v g0_1)]), (Sl.v places1_1)] h K := by
  refine c107 (Value.agg #[(Sl.v g0_1)]) (Sl.v places1_1) h K ?_
  unfold u107 at H
  unfold t107
  have hL : Vars h [] := .nil
  refine eop_box 32 (Value.agg #[(Sl.v g0_1)]) rfl hL (fun b_1 h_1 hb_1 hf_1 hL_1 => ?_)
  refine rop_locA agg32 hL_1 0 rfl 0 (vs := [(Sl.v g0_1)]) rfl rfl ?_
  have H := H b_1 h_1 (Nat.le_trans (Fr.size (Fr.r (In []) _)) hb_1) (Fr.no' (Fr.r (In []) _) hf_1) hL_1
  refine H.mono fun rv_1 h_2 H => ?_
  obtain ⟨t6_1, rfl, hL_2, H⟩ := H
  refine guardM_st (fun hb_2 => ?_) (fun hb_2 => ?_)
  · have H := H.1 hb_2
    refine guardM_y' hb_2 ?_
    refine pop_func _ _ _ ?_
    refine guardM_y' hb_2 ?_
    refine H.mono fun rv_2 h_3 H => ?_
    obtain ⟨x_1, t10_1, rfl, hL_3, H⟩ := H
    refine guardM_y' hb_2 ?_
    refine pop_not t10_1 ?_
    refine pop_pickt' hb_2 ?_
    exact H
  · have H := H.2 hb_2
    refine guardM_n' hb_2 (by decide) ?_
    refine guardM_n' hb_2 (by decide) ?_
    refine guardM_n' hb_2 (by decide) ?_
    refine pop_pickf' hb_2 ?_
    exact H

/-! (*spec.l1Cur).graph -/
def u112 (P : Program) (b_1 : Nat) (c0_1 : Sl) (c0_2 : Int) (c0_3 : Int) (h : Heap) (K : Value → Heap → Prop) : Prop :=
  ∀ (b_2 : Nat) (h_1 : Heap), h.size ≤ b_2 → Fr (In []) h h_1 → Vars h_1 [(b_2, [(Sl.v nilSl)]), (b_1, [(Sl.v c0_1), (VI c0_2), (Value.int .u64 c0_3)])] →
  callM P 163 #[(VP b_1 0), (VI 6)] h_1 fun rv_1 h_2 => ∃ x_1 : Sl, ∃ x_2 : Int, ∃ x_3 : Int, ∃ t5_1 : Sl, rv_1 = (Value.agg #[(Sl.v t5_1)]) ∧ Vars h_2 [(b_2, [(Sl.v nilSl)]), (b_1, [(Sl.v x_1), (VI x_2), (Value.int .u64 x_3)])] ∧
  ∀ (b_3 : Nat) (h_4 : Heap), h_2.size ≤ b_3 → Fr (In []) h_2 h_4 → Vars h_4 [(b_3, [(Sl.v t5_1)]), (b_2, [(Sl.v nilSl)]), (b_1, [(Sl.v x_1), (VI x_2), (Value.int .u64 x_3)])] →
  callM P 100 #[(VP b_1 0), (VI 16)] h_4 fun rv_2 h_5 => ∃ x_4 : Sl, ∃ x_5 : Int, ∃ x_6 : Int, ∃ t7_1 : Int, rv_2 = (VI t7_1) ∧ Vars h_5 [(b_3, [(Sl.v t5_1)]), (b_2, [(Sl.v nilSl)]), (b_1, [(Sl.v x_4), (VI x_5), (Value.int .u64 x_6)])] ∧
  ((decide (t7_1 = 0)) = true →
  InB t5_1 0 ∧
  ∃ t15_1 : Sl, hcell h_5 (Sl.at t5_1 0 1) = some (Sl.v t15_1) ∧
  eop P (Instr.buildSlice 25 3 #[(0, (Value.int IntKind.i64 (-1))), (1, (VI (t5_1.n : Int))), (2, (Value.int IntKind.i64 4611686018427387904))]) h_5 fun rv_3 h_6 => ∃ t20_1 : Sl, rv_3 = (Sl.v t20_1) ∧ Vars h_6 [(b_3, [(Sl.v t5_1)]), (b_2, [(Sl.v nilSl)]), (b_1, [(Sl.v x_4), (VI x_5), (Value.int .u64 x_6)])] ∧
  hcell h_6 (Sl.at t5_1 0 1) = some (Sl.v t15_1) ∧
  callM P 101 #[(VP b_1 0), (Sl.v t20_1)] h_6 fun rv_4 h_7 => ∃ x_7 : Sl, ∃ x_8 : Int, ∃ x_9 : Int, ∃ t21_1 : Int, rv_4 = (VI t21_1) ∧ Vars h_7 [(b_3, [(Sl.v t5_1)]), (b_2, [(Sl.v nilSl)]), (b_1, [(Sl.v x_7), (VI x_8), (Value.int .u64 x_9)])] ∧
  hcell h_7 (Sl.at t5_1 0 1) = some (Sl.v t15_1) ∧
  eop P (Instr.buildSlice 25 1 #[(0, (VI t21_1))]) h_7 fun rv_5 h_8 => ∃ t22_1 : Sl, rv_5 = (Sl.v t22_1) ∧ Vars h_8 [(b_3, [(Sl.v t5_1)]), (b_2, [(Sl.v nilSl)]), (b_1, [(Sl.v x_7), (VI x_8), (Value.int .u64 x_9)])] ∧
  hcell h_8 (Sl.at t5_1 0 1) = some (Sl.v t15_1) ∧
  eop P (appS 25 25 25 (Sl.v t15_1) (Sl.v t22_1)) h_8 fun rv_6 h_9 => ∃ t23_1 : Sl, rv_6 = (Sl.v t23_1) ∧ Vars h_9 [(b_3, [(Sl.v t5_1)]), (b_2, [(Sl.v nilSl)]), (b_1, [(Sl.v x_7), (VI x_8), (Value.int .u64 x_9)])] ∧
  InB t5_1 0 ∧
  Writable h_9 (Sl.at t5_1 0 1) ∧ Vars (hset h_9 (Sl.at t5_1 0 1) (Sl.v t23_1)) [(b_3, [(Sl.v t5_1)]), (b_2, [(Sl.v nilSl)]), (b_1, [(Sl.v x_7), (VI x_8), (Value.int .u64 x_9)])] ∧
  ∀ h_10 : Heap, h_10 = hset h_9 (Sl.at t5_1 0 1) (Sl.v t23_1) → Vars h_10 [(b_3, [(Sl.v t5_1)]), (b_2, [(Sl.v nilSl)]), (b_1, [(Sl.v x_7), (VI x_8), (Value.int .u64 x_9)])] →
  ∀ (h_11 : Heap), Fr (In [b_2]) h_10 h_11 → Vars h_11 [(b_3, [(Sl.v t5_1)]), (b_2, [(Sl.v t5_1)]), (b_1, [(Sl.v x_7), (VI x_8), (Value.int .u64 x_9)])] →
  K (Value.agg #[(Sl.v t5_1)]) h_11) ∧
  ((decide (t7_1 = 0)) = false →
  ((decide (t7_1 = 1)) = true →
  callM P 100 #[(VP b_1 0), (VI 2)] h_5 fun rv_7 h_12 => ∃ x_10 : Sl, ∃ x_11 : Int, ∃ x_12 : Int, ∃ t30_1 : Int, rv_7 = (VI t30_1) ∧ Vars h_12 [(b_3, [(Sl.v t5_1)]), (b_2, [(Sl.v nilSl)]), (b_1, [(Sl.v x_10), (VI x_11), (Value.int .u64 x_12)])] ∧
  eop P (Instr.makeSlice 25 (VI (w64 (5 + t30_1))) (VI (w64 (5 + t30_1)))) h_12 fun rv_8 h_13 => ∃ t32_1 : Sl, rv_8 = (Sl.v t32_1) ∧ Vars h_13 [(b_3, [(Sl.v t5_1)]), (b_2, [(Sl.v nilSl)]), (b_1, [(Sl.v x_10), (VI x_11), (Value.int .u64 x_12)])] ∧
  InB t5_1 0 ∧
  Writable h_13 (Sl.at t5_1 0 1) ∧ Vars (hset h_13 (Sl.at t5_1 0 1) (Sl.v t32_1)) [(b_3, [(Sl.v t5_1)]), (b_2, [(Sl.v nilSl)]), (b_1, [(Sl.v x_10), (VI x_11), (Value.int .u64 x_12)])] ∧
  ∀ h_14 : Heap, h_14 = hset h_13 (Sl.at t5_1 0 1) (Sl.v t32_1) → Vars h_14 [(b_3, [(Sl.v t5_1)]), (b_2, [(Sl.v nilSl)]), (b_1, [(Sl.v x_10), (VI x_11), (Value.int .u64 x_12)])] →
  ∀ (h_15 : Heap), Fr (In [b_2]) h_14 h_15 → Vars h_15 [(b_3, [(Sl.v t5_1)]), (b_2, [(Sl.v t5_1)]), (b_1, [(Sl.v x_10), (VI x_11), (Value.int .u64 x_12)])] →
  K (Value.agg #[(Sl.v t5_1)]) h_15) ∧
  ((decide (t7_1 = 1)) = false →
  ((decide (t7_1 = 2)) = true →
  ∃ J_1 : Nat → Sl → Sl → Int → Int → Heap → Prop, (∃ n0 : Nat, J_1 n0 t5_1 x_4 x_5 x_6 h_5) ∧
  ∀ (n_1 : Nat) (x_13 : Sl) (x_14 : Sl) (x_15 : Int) (x_16 : Int) (h_16 : Heap), J_1 n_1 x_13 x_14 x_15 x_16 h_16 → Vars h_16 [(b_3, [(Sl.v x_13)]), (b_2, [(Sl.v nilSl)]), (b_1, [(Sl.v x_14), (VI x_15), (Value.int .u64 x_16)])] →
  callM P 100 #[(VP b_1 0), (VI 2)] h_16 fun rv_9 h_17 => ∃ x_17 : Sl, ∃ x_18 : Int, ∃ x_19 : Int, ∃ t40_1 : Int, rv_9 = (VI t40_1) ∧ Vars h_17 [(b_3, [(Sl.v x_13)]), (b_2, [(Sl.v nilSl)]), (b_1, [(Sl.v x_17), (VI x_18), (Value.int .u64 x_19)])] ∧
  ((decide ((x_13.n : Int) < (w64 (8 + t40_1)))) = true →
  eop P (Instr.buildSlice 25 1 #[(0, (Value.int IntKind.i64 0))]) h_17 fun rv_10 h_18 => ∃ t45_1 : Sl, rv_10 = (Sl.v t45_1) ∧ Vars h_18 [(b_3, [(Sl.v x_13)]), (b_2, [(Sl.v nilSl)]), (b_1, [(Sl.v x_17), (VI x_18), (Value.int .u64 x_19)])] ∧
  eop P (Instr.buildSlice 22 1 #[(0, (Sl.v t45_1))]) h_18 fun rv_11 h_19 => ∃ t46_1 : Sl, rv_11 = (Sl.v t46_1) ∧ Vars h_19 [(b_3, [(Sl.v x_13)]), (b_2, [(Sl.v nilSl)]), (b_1, [(Sl.v x_17), (VI x_18), (Value.int .u64 x_19)])] ∧
  eop P (appS 22 22 22 (Sl.v x_13) (Sl.v t46_1)) h_19 fun rv_12 h_20 => ∃ t47_1 : Sl, rv_12 = (Sl.v t47_1) ∧ Vars h_20 [(b_3, [(Sl.v x_13)]), (b_2, [(Sl.v nilSl)]), (b_1, [(Sl.v x_17), (VI x_18), (Value.int .u64 x_19)])] ∧
  ∀ (h_21 : Heap), Fr (In [b_3]) h_20 h_21 → Vars h_21 [(b_3, [(Sl.v t47_1)]), (b_2, [(Sl.v nilSl)]), (b_1, [(Sl.v x_17), (VI x_18), (Value.int .u64 x_19)])] →
  ∃ m : Nat, m < n_1 ∧ J_1 m t47_1 x_17 x_18 x_19 h_21) ∧
  ((decide ((x_13.n : Int) < (w64 (8 + t40_1)))) = false →
  ∀ (h_22 : Heap), Fr (In [b_2]) h_17 h_22 → Vars h_22 [(b_3, [(Sl.v x_13)]), (b_2, [(Sl.v x_13)]), (b_1, [(Sl.v x_17), (VI x_18), (Value.int .u64 x_19)])] →
  K (Value.agg #[(Sl.v x_13)]) h_22)) ∧
  ((decide (t7_1 = 2)) = false →
  ((decide (t7_1 = 3)) = true →
  ∀ (h_24 : Heap), Fr (In [b_2, b_3]) h_5 h_24 → Vars h_24 [(b_3, [(Sl.v nilSl)]), (b_2, [(Sl.v nilSl)]), (b_1, [(Sl.v x_4), (VI x_5), (Value.int .u64 x_6)])] →
  K (Value.agg #[(Sl.v nilSl)]) h_24) ∧
  ((decide (t7_1 = 3)) = false →
  ∀ (h_25 : Heap), Fr (In [b_2]) h_5 h_25 → Vars h_25 [(b_3, [(Sl.v t5_1)]), (b_2, [(Sl.v t5_1)]), (b_1, [(Sl.v x_4), (VI x_5), (Value.int .u64 x_6)])] →
  K (Value.agg #[(Sl.v t5_1)]) h_25))))
theorem v112 (b_1 : Nat) (c0_1 : Sl) (c0_2 : Int) (c0_3 : Int) (h : Heap) (K : Value → Heap → Prop) (hL : Vars h [(b_1, [(Sl.v c0_1), (VI c0_2), (Value.int .u64 c0_3)])]) (H : u112 Try.prog b_1 c0_1 c0_2 c0_3 h K) : callM Try.prog 112 #[(VP b_1 0)] h K := by
  refine c112 (VP b_1 0) h K ?_
  unfold u112 at H
  unfold t112
  refine eop_alloc 32 zer32 rfl hL (fun b_2 h_1 hb_1 hf_1 hL_1 => ?_)
  have H := H b_2 h_1 (Nat.le_trans (Fr.size (Fr.r (In []) _)) hb_1) (Fr.no' (Fr.r (In []) _) hf_1) hL_1
  refine H.mono fun rv_1 h_2 H => ?_
  obtain ⟨x_1, x_2, x_3, t5_1, rfl, hL_2, H⟩ := H
  refine eop_alloc 32 zer32 rfl hL_2 (fun b_3 h_3 hb_2 hf_2 hL_3 => ?_)
  refine uop_loc siz32 hL_3 0 rfl 0 [(Sl.v t5_1)] rfl rfl rfl (Nat.le_of_ble_eq_true rfl) (L' := [(b_3, [(Sl.v t5_1)]), (b_2, [(Sl.v nilSl)]), (b_1, [(Sl.v x_1), (VI x_2), (Value.int .u64 x_3)])]) rfl (fun h_4 hf_3 hL_4 => ?_)
  have H := H b_3 h_4 (Nat.le_trans (Fr.size (Fr.r (In []) _)) hb_2) (Fr.new (Fr.no' (Fr.r (In []) _) hf_2) (Nat.le_trans (Fr.size (Fr.r (In []) _)) hb_2) hf_3) hL_4
  refine H.mono fun rv_2 h_5 H => ?_
  obtain ⟨x_4, x_5, x_6, t7_1, rfl, hL_5, H⟩ := H
  refine pop_ieq .i64 _ _ t7_1 0 ?_
  refine condM_b (fun hb_3 => ?_) (fun hb_3 => ?_)
  · have H := H.1 hb_3
    refine pop_field 0 fld32_0 b_3 0 ?_
    refine rop_loc one22 hL_5 0 rfl 0 (v := (Sl.v t5_1)) rfl ?_
    refine pop_field 0 fld32_0 b_3 0 ?_
    refine rop_loc one22 hL_5 0 rfl 0 (v := (Sl.v t5_1)) rfl ?_
    obtain ⟨hi_1, H⟩ := H
    refine pop_index sli22 siz25 .i64 t5_1 0 hi_1 ?_
    obtain ⟨t15_1, hc_4, H⟩ := H
    refine rop_one one25 (Sl.v t15_1) hc_4 ?_
    refine pop_field 0 fld32_0 b_3 0 ?_
    refine rop_loc one22 hL_5 0 rfl 0 (v := (Sl.v t5_1)) rfl ?_
    refine pop_len t5_1 _ _ sli22 ?_
    refine H.mono fun rv_3 h_6 H => ?_
    obtain ⟨t20_1, rfl, hL_6, H⟩ := H
    refine ⟨?_, ?_⟩
    · exact still_loc one22 hL_6 0 rfl 0 (v := (Sl.v t5_1)) rfl
    refine ⟨?_, ?_⟩
    · exact still_one one25 H.1
    obtain ⟨hc_1, H⟩ := H
    refine ⟨?_, ?_⟩
    · exact still_loc one22 hL_6 0 rfl 0 (v := (Sl.v t5_1)) rfl
    refine ⟨?_, ?_⟩
    · exact still_loc one22 hL_6 0 rfl 0 (v := (Sl.v t5_1)) rfl
    refine H.mono fun rv_4 h_7 H => ?_
    obtain ⟨x_7, x_8, x_9, t21_1, rfl, hL_7, H⟩ := H
    refine ⟨?_, ?_⟩
    · exact still_loc one22 hL_7 0 rfl 0 (v := (Sl.v t5_1)) rfl
    refine ⟨?_, ?_⟩
    · exact still_one one25 H.1
    obtain ⟨hc_2, H⟩ := H
    refine ⟨?_, ?_⟩
    · exact still_loc one22 hL_7 0 rfl 0 (v := (Sl.v t5_1)) rfl
    refine ⟨?_, ?_⟩
    · exact still_loc one22 hL_7 0 rfl 0 (v := (Sl.v t5_1)) rfl
    refine H.mono fun rv_5 h_8 H => ?_
    obtain ⟨t22_1, rfl, hL_8, H⟩ := H
    refine ⟨?_, ?_⟩
    · exact still_loc one22 hL_8 0 rfl 0 (v := (Sl.v t5_1)) rfl
    refine ⟨?_, ?_⟩
    · exact still_one one25 H.1
    obtain ⟨hc_3, H⟩ := H
    refine ⟨?_, ?_⟩
    · exact still_loc one22 hL_8 0 rfl 0 (v := (Sl.v t5_1)) rfl
    refine ⟨?_, ?_⟩
    · exact still_loc one22 hL_8 0 rfl 0 (v := (Sl.v t5_1)) rfl
    refine H.mono fun rv_6 h_9 H => ?_
    obtain ⟨t23_1, rfl, hL_9, H⟩ := H
    refine ⟨?_, ?_⟩
    · exact still_loc one22 hL_9 0 rfl 0 (v := (Sl.v t5_1)) rfl
    refine ⟨?_, ?_⟩
    · exact still_loc one22 hL_9 0 rfl 0 (v := (Sl.v t5_1)) rfl
    refine ⟨?_, ?_⟩
    · exact still_loc one22 hL_9 0 rfl 0 (v := (Sl.v t5_1)) rfl
    obtain ⟨hi_2, H⟩ := H
    refine pop_index sli22 siz25 .i64 t5_1 0 hi_2 ?_
    obtain ⟨hw_1, hL_10, H⟩ := H
    refine uop_cell (v := (Sl.v t23_1)) siz25 hw_1 rfl (fun h_10 he_1 => ?_)
    rw [← he_1] at hL_10
    have H := H h_10 he_1 hL_10
    refine rop_locA agg32 hL_10 0 rfl 0 (vs := [(Sl.v t5_1)]) rfl rfl ?_
    refine uop_loc siz32 hL_10 1 rfl 0 [(Sl.v t5_1)] rfl rfl rfl (Nat.le_of_ble_eq_true rfl) (L' := [(b_3, [(Sl.v t5_1)]), (b_2, [(Sl.v t5_1)]), (b_1, [(Sl.v x_7), (VI x_8), (Value.int .u64 x_9)])]) rfl (fun h_11 hf_4 hL_11 => ?_)
    refine rop_locA agg32 hL_11 1 rfl 0 (vs := [(Sl.v t5_1)]) rfl rfl ?_
    have H := H  h_11  (Fr.old (Fr.r (In []) _) hf_4) hL_11
    exact H
  · have H := H.2 hb_3
    refine pop_ieq .i64 _ _ t7_1 1 ?_
    refine condM_b (fun hb_4 => ?_) (fun hb_4 => ?_)
    · have H := H.1 hb_4
      refine pop_field 0 fld32_0 b_3 0 ?_
      refine rop_loc one22 hL_5 0 rfl 0 (v := (Sl.v t5_1)) rfl ?_
      refine H.mono fun rv_7 h_12 H => ?_
      obtain ⟨x_10, x_11, x_12, t30_1, rfl, hL_12, H⟩ := H
      refine ⟨?_, ?_⟩
      · exact still_loc one22 hL_12 0 rfl 0 (v := (Sl.v t5_1)) rfl
      refine pop_add .i64 5 t30_1 ?_
      refine H.mono fun rv_8 h_13 H => ?_
      obtain ⟨t32_1, rfl, hL_13, H⟩ := H
      refine ⟨?_, ?_⟩
      · exact still_loc one22 hL_13 0 rfl 0 (v := (Sl.v t5_1)) rfl
      obtain ⟨hi_3, H⟩ := H
      refine pop_index sli22 siz25 .i64 t5_1 0 hi_3 ?_
      obtain ⟨hw_2, hL_14, H⟩ := H
      refine uop_cell (v := (Sl.v t32_1)) siz25 hw_2 rfl (fun h_14 he_2 => ?_)
      rw [← he_2] at hL_14
      have H := H h_14 he_2 hL_14
      refine rop_locA agg32 hL_14 0 rfl 0 (vs := [(Sl.v t5_1)]) rfl rfl ?_
      refine uop_loc siz32 hL_14 1 rfl 0 [(Sl.v t5_1)] rfl rfl rfl (Nat.le_of_ble_eq_true rfl) (L' := [(b_3, [(Sl.v t5_1)]), (b_2, [(Sl.v t5_1)]), (b_1, [(Sl.v x_10), (VI x_11), (Value.int .u64 x_12)])]) rfl (fun h_15 hf_5 hL_15 => ?_)
      refine rop_locA agg32 hL_15 1 rfl 0 (vs := [(Sl.v t5_1)]) rfl rfl ?_
      have H := H  h_15  (Fr.old (Fr.r (In []) _) hf_5) hL_15
      exact H
    · have H := H.2 hb_4
      refine pop_ieq .i64 _ _ t7_1 2 ?_
      refine condM_b (fun hb_5 => ?_) (fun hb_5 => ?_)
      · have H := H.1 hb_5
        obtain ⟨J_1, ⟨n_2, h0_1⟩, HB_1⟩ := H
        refine loop_intro (J := fun (n : Nat) (vs : List Value) (h' : Heap) => ∃ x_13 : Sl, ∃ x_14 : Sl, ∃ x_15 : Int, ∃ x_16 : Int, vs = [] ∧ J_1 n x_13 x_14 x_15 x_16 h' ∧ Vars h' [(b_3, [(Sl.v x_13)]), (b_2, [(Sl.v nilSl)]), (b_1, [(Sl.v x_14), (VI x_15), (Value.int .u64 x_16)])]) n_2 ⟨t5_1, x_4, x_5, x_6, rfl, h0_1, hL_5⟩ ?_
        intro I_1 mu_1 hI_1 junk_1  h_16 hi_4
        obtain ⟨n_1, ⟨x_13, x_14, x_15, x_16, hv, hJ_1, hL_16⟩, hn_1⟩ := hI_1 _ _ hi_4
        cases hv
        have H := HB_1 n_1 x_13 x_14 x_15 x_16 h_16 hJ_1 hL_16
        refine pop_field 0 fld32_0 b_3 0 ?_
        refine rop_loc one22 hL_16 0 rfl 0 (v := (Sl.v x_13)) rfl ?_
        refine pop_len x_13 _ _ sli22 ?_
        refine H.mono fun rv_9 h_17 H => ?_
        obtain ⟨x_17, x_18, x_19, t40_1, rfl, hL_17, H⟩ := H
        refine ⟨?_, ?_⟩
        · exact still_loc one22 hL_17 0 rfl 0 (v := (Sl.v x_13)) rfl
        refine pop_add .i64 8 t40_1 ?_
        refine pop_lss .i64 (x_13.n : Int) (w64 (8 + t40_1)) ?_
        refine condM_b (fun hb_6 => ?_) (fun hb_6 => ?_)
        · have H := H.1 hb_6
          refine pop_field 0 fld32_0 b_3 0 ?_
          refine rop_loc one22 hL_17 0 rfl 0 (v := (Sl.v x_13)) rfl ?_
          refine H.mono fun rv_10 h_18 H => ?_
          obtain ⟨t45_1, rfl, hL_18, H⟩ := H
          refine H.mono fun rv_11 h_19 H => ?_
          obtain ⟨t46_1, rfl, hL_19, H⟩ := H
          refine H.mono fun rv_12 h_20 H => ?_
          obtain ⟨t47_1, rfl, hL_20, H⟩ := H
          refine pop_field 0 fld32_0 b_3 0 ?_
          refine uop_loc siz22 hL_20 0 rfl 0 [(Sl.v t47_1)] rfl rfl rfl (Nat.le_of_ble_eq_true rfl) (L' := [(b_3, [(Sl.v t47_1)]), (b_2, [(Sl.v nilSl)]), (b_1, [(Sl.v x_17), (VI x_18), (Value.int .u64 x_19)])]) rfl (fun h_21 hf_6 hL_21 => ?_)
          have H := H  h_21  (Fr.old (Fr.r (In []) _) hf_6) hL_21
          obtain ⟨m_1, hm_1, H⟩ := H
          exact hn_1 _ _ ⟨m_1, hm_1, t47_1, x_17, x_18, x_19, rfl, H, hL_21⟩
        · have H := H.2 hb_6
          refine rop_locA agg32 hL_17 0 rfl 0 (vs := [(Sl.v x_13)]) rfl rfl ?_
          refine uop_loc siz32 hL_17 1 rfl 0 [(Sl.v x_13)] rfl rfl rfl (Nat.le_of_ble_eq_true rfl) (L' := [(b_3, [(Sl.v x_13)]), (b_2, [(Sl.v x_13)]), (b_1, [(Sl.v x_17), (VI x_18), (Value.int .u64 x_19)])]) rfl (fun h_22 hf_7 hL_22 => ?_)
          refine rop_locA agg32 hL_22 1 rfl 0 (vs := [(Sl.v x_13)]) rfl rfl ?_
          have H := H  h_22  (Fr.old (Fr.r (In []) _) hf_7) hL_22
          exact H
      · have H := H.2 hb_5
        refine pop_ieq .i64 _ _ t7_1 3 ?_
        refine condM_b (fun hb_7 => ?_) (fun hb_7 => ?_)
        · have H := H.1 hb_7
          refine pop.mk' (v := (Value.agg #[(Sl.v nilSl)])) (fun w => by kernel_rfl) ?_
          refine uop_loc siz32 hL_5 0 rfl 0 [(Sl.v nilSl)] rfl rfl rfl (Nat.le_of_ble_eq_true rfl) (L' := [(b_3, [(Sl.v nilSl)]), (b_2, [(Sl.v nilSl)]), (b_1, [(Sl.v x_4), (VI x_5), (Value.int .u64 x_6)])]) rfl (fun h_23 hf_8 hL_23 => ?_)
          refine rop_locA agg32 hL_23 0 rfl 0 (vs := [(Sl.v nilSl)]) rfl rfl ?_
          refine uop_loc siz32 hL_23 1 rfl 0 [(Sl.v nilSl)] rfl rfl rfl (Nat.le_of_ble_eq_true rfl) (L' := [(b_3, [(Sl.v nilSl)]), (b_2, [(Sl.v nilSl)]), (b_1, [(Sl.v x_4), (VI x_5), (Value.int .u64 x_6)])]) rfl (fun h_24 hf_9 hL_24 => ?_)
          refine rop_locA agg32 hL_24 1 rfl 0 (vs := [(Sl.v nilSl)]) rfl rfl ?_
          have H := H  h_24  (Fr.old (Fr.old (Fr.r (In []) _) hf_8) hf_9) hL_24
          exact H
        · have H := H.2 hb_7
          refine rop_locA agg32 hL_5 0 rfl 0 (vs := [(Sl.v t5_1)]) rfl rfl ?_
          refine uop_loc siz32 hL_5 1 rfl 0 [(Sl.v t5_1)] rfl rfl rfl (Nat.le_of_ble_eq_true rfl) (L' := [(b_3, [(Sl.v t5_1)]), (b_2, [(Sl.v t5_1)]), (b_1, [(Sl.v x_4), (VI x_5), (Value.int .u64 x_6)])]) rfl (fun h_25 hf_10 hL_25 => ?_)
          refine rop_locA agg32 hL_25 1 rfl 0 (vs := [(Sl.v t5_1)]) rfl rfl ?_
          have H := H  h_25  (Fr.old (Fr.r (In []) _) hf_10) hL_25
          exact H

/-! impl.in -/
def u113 (P : Program) (n0_1 : Int) (low1_1 : Int) (high2_1 : Int) (h : Heap) (K : Value → Heap → Prop) : Prop :=
  ((decide (low1_1 ≤ n0_1)) = true →
  K (VB (decide (n0_1 ≤ high2_1))) h) ∧
  ((decide (low1_1 ≤ n0_1)) = false →
  K (VB false) h)
theorem v113 (n0_1 : Int) (low1_1 : Int) (high2_1 : Int) (h : Heap) (K : Value → Heap → Prop) (H : u113 Try.prog n0_1 low1_1 high2_1 h K) : callM Try.prog 113 #[(VI n0_1), (VI low1_1), (VI high2_1)] h K := by
  refine c113 (VI n0_1) (VI low1_1) (VI high2_1) h K ?_
  unfold u113 at H
  unfold t113
  have hL : Vars h [] := .nil
  refine pop_leq .i64 low1_1 n0_1 ?_
  refine guardM_st (fun hb_1 => ?_) (fun hb_1 => ?_)
  · have H := H.1 hb_1
    refine guardM_y' hb_1 ?_
    refine guardM_y' hb_1 ?_
    refine pop_leq .i64 n0_1 high2_1 ?_
    refine pop_pickt' hb_1 ?_
    exact H
  · have H := H.2 hb_1
    refine guardM_n' hb_1 (by decide) ?_
    refine guardM_n' hb_1 (by decide) ?_
    refine pop_pickf' hb_1 ?_
    exact H

/-! (impl.Graph).copied -/
def u114 (P : Program) (g0_1 : Sl) (h : Heap) (K : Value → Heap → Prop) : Prop :=
  ∀ (b_1 : Nat) (b_2 : Nat) (b_3 : Nat) (h_4 : Heap), h.size ≤ b_1 → h.size ≤ b_2 → h.size ≤ b_3 → Fr (In []) h h_4 → Vars h_4 [(b_3, [(Sl.v nilSl)]), (b_2, [(Sl.v nilSl)]), (b_1, [(Sl.v g0_1)])] →
  ∃ J_1 : Nat → Int → Sl → Heap → Prop, (∃ n0 : Nat, J_1 n0 0 nilSl h_4) ∧
  ∀ (n_1 : Nat) (t10_1 : Int) (x_1 : Sl) (h_5 : Heap), J_1 n_1 t10_1 x_1 h_5 → Vars h_5 [(b_3, [(Sl.v x_1)]), (b_2, [(Sl.v nilSl)]), (b_1, [(Sl.v g0_1)])] →
  ((decide (t10_1 < (g0_1.n : Int))) = true →
  InB g0_1 t10_1 ∧
  ∃ t13_1 : Sl, hcell h_5 (Sl.at g0_1 t10_1 1) = some (Sl.v t13_1) ∧
  callM P 142 #[(Sl.v t13_1)] h_5 fun rv_1 h_6 => ∃ t17_1 : Sl, rv_1 = (Sl.v t17_1) ∧ Vars h_6 [(b_3, [(Sl.v x_1)]), (b_2, [(Sl.v nilSl)]), (b_1, [(Sl.v g0_1)])] ∧
  eop P (Instr.buildSlice 22 1 #[(0, (Sl.v t17_1))]) h_6 fun rv_2 h_7 => ∃ t18_1 : Sl, rv_2 = (Sl.v t18_1) ∧ Vars h_7 [(b_3, [(Sl.v x_1)]), (b_2, [(Sl.v nilSl)]), (b_1, [(Sl.v g0_1)])] ∧
  eop P (appS 22 22 22 (Sl.v x_1) (Sl.v t18_1)) h_7 fun rv_3 h_8 => ∃ t19_1 : Sl, rv_3 = (Sl.v t19_1) ∧ Vars h_8 [(b_3, [(Sl.v x_1)]), (b_2, [(Sl.v nilSl)]), (b_1, [(Sl.v g0_1)])] ∧
  ∀ (h_9 : Heap), Fr (In [b_3]) h_8 h_9 → Vars h_9 [(b_3, [(Sl.v t19_1)]), (b_2, [(Sl.v nilSl)]), (b_1, [(Sl.v g0_1)])] →
  ∃ m : Nat, m < n_1 ∧ J_1 m (w64 (t10_1 + 1)) t19_1 h_9) ∧
  ((decide (t10_1 < (g0_1.n : Int))) = false →
  ∀ (h_10 : Heap), Fr (In [b_2]) h_5 h_10 → Vars h_10 [(b_3, [(Sl.v x_1)]), (b_2, [(Sl.v x_1)]), (b_1, [(Sl.v g0_1)])] →
  K (Value.agg #[(Sl.v x_1)]) h_10)
theorem v114 (g0_1 : Sl) (h : Heap) (K : Value → Heap → Prop) (H : u114 Try.prog g0_1 h K) : callM Try.prog 114 #[(Value.agg #[(Sl.v g0_1)])] h K := by
  refine c114 (Value.agg #[(Sl.v g0_1)]) h K ?_
  unfold u114 at H
  unfold t114
  have hL : Vars h [] := .nil
  refine eop_box 32 (Value.agg #[(Sl.v g0_1)]) rfl hL (fun b_1 h_1 hb_1 hf_1 hL_1 => ?_)
  refine eop_alloc 32 zer32 rfl hL_1 (fun b_2 h_2 hb_2 hf_2 hL_2 => ?_)
  refine pop.mk' (v := (Value.agg #[(Sl.v nilSl)])) (fun w => by kernel_rfl) ?_
  refine eop_alloc 32 zer32 rfl hL_2 (fun b_3 h_3 hb_3 hf_3 hL_3 => ?_)
  refine uop_loc siz32 hL_3 0 rfl 0 [(Sl.v nilSl)] rfl rfl rfl (Nat.le_of_ble_eq_true rfl) (L' := [(b_3, [(Sl.v nilSl)]), (b_2, [(Sl.v nilSl)]), (b_1, [(Sl.v g0_1)])]) rfl (fun h_4 hf_4 hL_4 => ?_)
  refine pop_field 0 fld32_0 b_1 0 ?_
  refine rop_loc one22 hL_4 2 rfl 0 (v := (Sl.v g0_1)) rfl ?_
  refine pop_len g0_1 _ _ sli22 ?_
  have H := H b_1 b_2 b_3 h_4 (Nat.le_trans (Fr.size (Fr.r (In []) _)) hb_1) (Nat.le_trans (Fr.size (Fr.no' (Fr.r (In []) _) hf_1)) hb_2) (Nat.le_trans (Fr.size (Fr.no' (Fr.no' (Fr.r (In []) _) hf_1) hf_2)) hb_3) (Fr.new (Fr.no' (Fr.no' (Fr.no' (Fr.r (In []) _) hf_1) hf_2) hf_3) (Nat.le_trans (Fr.size (Fr.no' (Fr.no' (Fr.r (In []) _) hf_1) hf_2)) hb_3) hf_4) hL_4
  obtain ⟨J_1, ⟨n_2, h0_1⟩, HB_1⟩ := H
  refine loop_intro (J := fun (n : Nat) (vs : List Value) (h' : Heap) => ∃ t10_1 : Int, ∃ x_1 : Sl, vs = [(VI t10_1)] ∧ J_1 n t10_1 x_1 h' ∧ Vars h' [(b_3, [(Sl.v x_1)]), (b_2, [(Sl.v nilSl)]), (b_1, [(Sl.v g0_1)])]) n_2 ⟨0, nilSl, rfl, h0_1, hL_4⟩ ?_
  intro I_1 mu_1 hI_1 junk_1 tv_1 h_5 hi_1
  obtain ⟨n_1, ⟨t10_1, x_1, hv, hJ_1, hL_5⟩, hn_1⟩ := hI_1 _ _ hi_1
  cases hv
  have H := HB_1 n_1 t10_1 x_1 h_5 hJ_1 hL_5
  refine pop_lss .i64 t10_1 (g0_1.n : Int) ?_
  refine condM_b (fun hb_4 => ?_) (fun hb_4 => ?_)
  · have H := H.1 hb_4
    obtain ⟨hi_2, H⟩ := H
    refine pop_index sli22 siz25 .i64 g0_1 t10_1 hi_2 ?_
    obtain ⟨t13_1, hc_1, H⟩ := H
    refine rop_one one25 (Sl.v t13_1) hc_1 ?_
    refine pop_field 0 fld32_0 b_3 0 ?_
    refine rop_loc one22 hL_5 0 rfl 0 (v := (Sl.v x_1)) rfl ?_
    refine H.mono fun rv_1 h_6 H => ?_
    obtain ⟨t17_1, rfl, hL_6, H⟩ := H
    refine ⟨?_, ?_⟩
    · exact still_loc one22 hL_6 0 rfl 0 (v := (Sl.v x_1)) rfl
    refine H.mono fun rv_2 h_7 H => ?_
    obtain ⟨t18_1, rfl, hL_7, H⟩ := H
    refine ⟨?_, ?_⟩
    · exact still_loc one22 hL_7 0 rfl 0 (v := (Sl.v x_1)) rfl
    refine H.mono fun rv_3 h_8 H => ?_
    obtain ⟨t19_1, rfl, hL_8, H⟩ := H
    refine pop_field 0 fld32_0 b_3 0 ?_
    refine uop_loc siz22 hL_8 0 rfl 0 [(Sl.v t19_1)] rfl rfl rfl (Nat.le_of_ble_eq_true rfl) (L' := [(b_3, [(Sl.v t19_1)]), (b_2, [(Sl.v nilSl)]), (b_1, [(Sl.v g0_1)])]) rfl (fun h_9 hf_5 hL_9 => ?_)
    refine pop_add .i64 t10_1 1 ?_
    have H := H  h_9  (Fr.old (Fr.r (In []) _) hf_5) hL_9
    obtain ⟨m_1, hm_1, H⟩ := H
    exact hn_1 _ _ ⟨m_1, hm_1, (w64 (t10_1 + 1)), t19_1, rfl, H, hL_9⟩
  · have H := H.2 hb_4
    refine rop_locA agg32 hL_5 0 rfl 0 (vs := [(Sl.v x_1)]) rfl rfl ?_
    refine uop_loc siz32 hL_5 1 rfl 0 [(Sl.v x_1)] rfl rfl rfl (Nat.le_of_ble_eq_true rfl) (L' := [(b_3, [(Sl.v x_1)]), (b_2, [(Sl.v x_1)]), (b_1, [(Sl.v g0_1)])]) rfl (fun h_10 hf_6 hL_10 => ?_)
    refine rop_locA agg32 hL_10 1 rfl 0 (vs := [(Sl.v x_1)]) rfl rfl ?_
    have H := H  h_10  (Fr.old (Fr.r (In []) _) hf_6) hL_10
    exact H

/-! slices.Concat[[]int,int] -/
def u115 (P : Program) (slices0_1 : Sl) (h : Heap) (K : Value → Heap → Prop) : Prop :=
  ∃ J_1 : Nat → Int → Int → Heap → Prop, (∃ n0 : Nat, J_1 n0 0 0 h) ∧
  ∀ (n_1 : Nat) (size3_1 : Int) (t11_1 : Int) (h_1 : Heap), J_1 n_1 size3_1 t11_1 h_1 → Vars h_1 [] →
  ((decide (t11_1 < (slices0_1.n : Int))) = true →
  InB slices0_1 t11_1 ∧
  ∃ t14_1 : Sl, hcell h_1 (Sl.at slices0_1 t11_1 1) = some (Sl.v t14_1) ∧
  ((decide ((w64 (size3_1 + (t14_1.n : Int))) < 0)) = true →
  pop P (Instr.makeInterface 9 (Value.string { data := #[108, 101, 110, 32, 111, 117, 116, 32, 111, 102, 32, 114, 97, 110, 103, 101] })) fun rv_1 => ∃ t21_1 : Value, rv_1 = t21_1 ∧ 
  False) ∧
  ((decide ((w64 (size3_1 + (t14_1.n : Int))) < 0)) = false →
  ∃ m : Nat, m < n_1 ∧ J_1 m (w64 (size3_1 + (t14_1.n : Int))) (w64 (t11_1 + 1)) h_1)) ∧
  ((decide (t11_1 < (slices0_1.n : Int))) = false →
  callM P 164 #[(Sl.v nilSl), (VI size3_1)] h_1 fun rv_2 h_2 => ∃ t24_1 : Sl, rv_2 = (Sl.v t24_1) ∧ Vars h_2 [] ∧
  ∃ J_2 : Nat → Sl → Int → Heap → Prop, (∃ n0 : Nat, J_2 n0 t24_1 0 h_2) ∧
  ∀ (n_2 : Nat) (newslice6_1 : Sl) (t27_1 : Int) (h_3 : Heap), J_2 n_2 newslice6_1 t27_1 h_3 → Vars h_3 [] →
  ((decide (t27_1 < (slices0_1.n : Int))) = true →
  InB slices0_1 t27_1 ∧
  ∃ t30_1 : Sl, hcell h_3 (Sl.at slices0_1 t27_1 1) = some (Sl.v t30_1) ∧
  eop P (appS 25 25 25 (Sl.v newslice6_1) (Sl.v t30_1)) h_3 fun rv_3 h_4 => ∃ t33_1 : Sl, rv_3 = (Sl.v t33_1) ∧ Vars h_4 [] ∧
  ∃ m : Nat, m < n_2 ∧ J_2 m t33_1 (w64 (t27_1 + 1)) h_4) ∧
  ((decide (t27_1 < (slices0_1.n : Int))) = false →
  K (Sl.v newslice6_1) h_3))
theorem v115 (slices0_1 : Sl) (h : Heap) (K : Value → Heap → Prop) (H : u115 Try.prog slices0_1 h K) : callM Try.prog 115 #[(Sl.v slices0_1)] h K := by
  refine c115 (Sl.v slices0_1) h K ?_
  unfold u115 at H
  unfold t115
  have hL : Vars h [] := .nil
  refine pop_len slices0_1 _ _ sli22 ?_
  obtain ⟨J_1, ⟨n_4, h0_2⟩, HB_2⟩ := H
  refine loop_intro (J := fun (n : Nat) (vs : List Value) (h' : Heap) => ∃ size3_1 : Int, ∃ t11_1 : Int, vs = [(VI size3_1), (VI t11_1)] ∧ J_1 n size3_1 t11_1 h' ∧ Vars h' []) n_4 ⟨0, 0, rfl, h0_2, hL⟩ ?_
  intro I_2 mu_2 hI_2 junk_1 tv_3 tv_4 h_1 hi_1
  obtain ⟨n_1, ⟨size3_1, t11_1, hv, hJ_1, hL_1⟩, hn_1⟩ := hI_2 _ _ hi_1
  cases hv
  have H := HB_2 n_1 size3_1 t11_1 h_1 hJ_1 hL_1
  refine pop_lss .i64 t11_1 (slices0_1.n : Int) ?_
  refine condM_b (fun hb_1 => ?_) (fun hb_1 => ?_)
  · have H := H.1 hb_1
    obtain ⟨hi_2, H⟩ := H
    refine pop_index sli22 siz25 .i64 slices0_1 t11_1 hi_2 ?_
    obtain ⟨t14_1, hc_1, H⟩ := H
    refine rop_one one25 (Sl.v t14_1) hc_1 ?_
    refine pop_len t14_1 _ _ sli25 ?_
    refine pop_add .i64 size3_1 (t14_1.n : Int) ?_
    refine pop_lss .i64 (w64 (size3_1 + (t14_1.n : Int))) 0 ?_
    refine condM_b (fun hb_2 => ?_) (fun hb_2 => ?_)
    · have H := H.1 hb_2
      refine H.mono fun rv_1 H => ?_
      obtain ⟨t21_1, rfl, H⟩ := H
      exact H.elim
    · have H := H.2 hb_2
      refine pop_add .i64 t11_1 1 ?_
      obtain ⟨m_1, hm_1, H⟩ := H
      exact hn_1 _ _ ⟨m_1, hm_1, (w64 (size3_1 + (t14_1.n : Int))), (w64 (t11_1 + 1)), rfl, H, hL_1⟩
  · have H := H.2 hb_1
    refine H.mono fun rv_2 h_2 H => ?_
    obtain ⟨t24_1, rfl, hL_2, H⟩ := H
    refine pop_len slices0_1 _ _ sli22 ?_
    obtain ⟨J_2, ⟨n_3, h0_1⟩, HB_1⟩ := H
    refine loop_intro (J := fun (n : Nat) (vs : List Value) (h' : Heap) => ∃ newslice6_1 : Sl, ∃ t27_1 : Int, vs = [(Sl.v newslice6_1), (VI t27_1)] ∧ J_2 n newslice6_1 t27_1 h' ∧ Vars h' []) n_3 ⟨t24_1, 0, rfl, h0_1, hL_2⟩ ?_
    intro I_1 mu_1 hI_1 junk_2 tv_1 tv_2 h_3 hi_3
    obtain ⟨n_2, ⟨newslice6_1, t27_1, hv, hJ_2, hL_3⟩, hn_2⟩ := hI_1 _ _ hi_3
    cases hv
    have H := HB_1 n_2 newslice6_1 t27_1 h_3 hJ_2 hL_3
    refine pop_lss .i64 t27_1 (slices0_1.n : Int) ?_
    refine condM_b (fun hb_3 => ?_) (fun hb_3 => ?_)
    · have H := H.1 hb_3
      obtain ⟨hi_4, H⟩ := H
      refine pop_index sli22 siz25 .i64 slices0_1 t27_1 hi_4 ?_
      obtain ⟨t30_1, hc_2, H⟩ := H
      refine rop_one one25 (Sl.v t30_1) hc_2 ?_
      refine H.mono fun rv_3 h_4 H => ?_
      obtain ⟨t33_1, rfl, hL_4, H⟩ := H
      refine pop_add .i64 t27_1 1 ?_
      obtain ⟨m_2, hm_2, H⟩ := H
      exact hn_2 _ _ ⟨m_2, hm_2, t33_1, (w64 (t27_1 + 1)), rfl, H, hL_4⟩
    · have H := H.2 hb_3
      exact H

/-! spec.grPlace -/
def u116 (P : Program) (g0_1 : Sl) (p1_1 : Int) (h : Heap) (K : Value → Heap → Prop) : Prop :=
  ∀ (b_1 : Nat) (h_1 : Heap), h.size ≤ b_1 → Fr (In []) h h_1 → Vars h_1 [(b_1, [(Sl.v g0_1)])] →
  callM P 165 #[(Value.agg #[(Sl.v g0_1)])] h_1 fun rv_1 h_2 => ∃ t6_1 : Bool, rv_1 = (VB t6_1) ∧ Vars h_2 [(b_1, [(Sl.v g0_1)])] ∧
  (t6_1 = true →
  callM P 117 #[(VI p1_1), (VI 0), (VI (w64 ((g0_1.n : Int) - 1)))] h_2 fun rv_2 h_3 => ∃ t13_1 : Bool, rv_2 = (VB t13_1) ∧ Vars h_3 [(b_1, [(Sl.v g0_1)])] ∧
  K (VB t13_1) h_3) ∧
  (t6_1 = false →
  K (VB false) h_2)
theorem v116 (g0_1 : Sl) (p1_1 : Int) (h : Heap) (K : Value → Heap → Prop) (H : u116 Try.prog g0_1 p1_1 h K) : callM Try.prog 116 #[(Value.agg #[(Sl.v g0_1)]), (VI p1_1)] h K := by
  refine c116 (Value.agg #[(Sl.v g0_1)]) (VI p1_1) h K ?_
  unfold u116 at H
  unfold t116
  have hL : Vars h [] := .nil
  refine eop_box 32 (Value.agg #[(Sl.v g0_1)]) rfl hL (fun b_1 h_1 hb_1 hf_1 hL_1 => ?_)
  refine rop_locA agg32 hL_1 0 rfl 0 (vs := [(Sl.v g0_1)]) rfl rfl ?_
  have H := H b_1 h_1 (Nat.le_trans (Fr.size (Fr.r (In []) _)) hb_1) (Fr.no' (Fr.r (In []) _) hf_1) hL_1
  refine H.mono fun rv_1 h_2 H => ?_
  obtain ⟨t6_1, rfl, hL_2, H⟩ := H
  refine guardM_st (fun hb_2 => ?_) (fun hb_2 => ?_)
  · have H := H.1 hb_2
    refine guardM_y' hb_2 ?_
    refine pop_field 0 fld32_0 b_1 0 ?_
    refine guardM_y' hb_2 ?_
    refine rop_loc one22 hL_2 0 rfl 0 (v := (Sl.v g0_1)) rfl ?_
    refine guardM_y' hb_2 ?_
    refine pop_len g0_1 _ _ sli22 ?_
    refine guardM_y' hb_2 ?_
    refine pop_sub .i64 (g0_1.n : Int) 1 ?_
    refine guardM_y' hb_2 ?_
    refine H.mono fun rv_2 h_3 H => ?_
    obtain ⟨t13_1, rfl, hL_3, H⟩ := H
    refine pop_pickt' hb_2 ?_
    exact H
  · have H := H.2 hb_2
    refine guardM_n' hb_2 (by decide) ?_
    refine guardM_n' hb_2 (by decide) ?_
    refine guardM_n' hb_2 (by decide) ?_
    refine guardM_n' hb_2 (by decide) ?_
    refine guardM_n' hb_2 (by decide) ?_
    refine pop_pickf' hb_2 ?_
    exact H

/-! spec.l1In -/
def u117 (P : Program) (n0_1 : Int) (lo1_1 : Int) (hi2_1 : Int) (h : Heap) (K : Value → Heap → Prop) : Prop :=
  ((decide (lo1_1 ≤ n0_1)) = true →
  K (VB (decide (n0_1 ≤ hi2_1))) h) ∧
  ((decide (lo1_1 ≤ n0_1)) = false →
  K (VB false) h)
theorem v117 (n0_1 : Int) (lo1_1 : Int) (hi2_1 : Int) (h : Heap) (K : Value → Heap → Prop) (H : u117 Try.prog n0_1 lo1_1 hi2_1 h K) : callM Try.prog 117 #[(VI n0_1), (VI lo1_1), (VI hi2_1)] h K := by
  refine c117 (VI n0_1) (VI lo1_1) (VI hi2_1) h K ?_
  unfold u117 at H
  unfold t117
  have hL : Vars h [] := .nil
  refine pop_geq .i64 n0_1 lo1_1 ?_
  refine guardM_st (fun hb_1 => ?_) (fun hb_1 => ?_)
  · have H := H.1 hb_1
    refine guardM_y' hb_1 ?_
    refine guardM_y' hb_1 ?_
    refine pop_leq .i64 n0_1 hi2_1 ?_
    refine pop_pickt' hb_1 ?_
    exact H
  · have H := H.2 hb_1
    refine guardM_n' hb_1 (by decide) ?_
    refine guardM_n' hb_1 (by decide) ?_
    refine pop_pickf' hb_1 ?_
    exact H

/-! spec.grCopy -/
def u118 (P : Program) (g0_1 : Sl) (h : Heap) (K : Value → Heap → Prop) : Prop :=
  ∀ (b_1 : Nat) (b_2 : Nat) (b_3 : Nat) (h_4 : Heap), h.size ≤ b_1 → h.size ≤ b_2 → h.size ≤ b_3 → Fr (In []) h h_4 → Vars h_4 [(b_3, [(Sl.v nilSl)]), (b_2, [(Sl.v nilSl)]), (b_1, [(Sl.v g0_1)])] →
  ∃ J_1 : Nat → Int → Sl → Heap → Prop, (∃ n0 : Nat, J_1 n0 0 nilSl h_4) ∧
  ∀ (n_1 : Nat) (t10_1 : Int) (x_1 : Sl) (h_5 : Heap), J_1 n_1 t10_1 x_1 h_5 → Vars h_5 [(b_3, [(Sl.v x_1)]), (b_2, [(Sl.v nilSl)]), (b_1, [(Sl.v g0_1)])] →
  ((decide (t10_1 < (g0_1.n : Int))) = true →
  InB g0_1 t10_1 ∧
  ∃ t13_1 : Sl, hcell h_5 (Sl.at g0_1 t10_1 1) = some (Sl.v t13_1) ∧
  callM P 130 #[(Sl.v t13_1)] h_5 fun rv_1 h_6 => ∃ t17_1 : Sl, rv_1 = (Sl.v t17_1) ∧ Vars h_6 [(b_3, [(Sl.v x_1)]), (b_2, [(Sl.v nilSl)]), (b_1, [(Sl.v g0_1)])] ∧
  eop P (Instr.buildSlice 22 1 #[(0, (Sl.v t17_1))]) h_6 fun rv_2 h_7 => ∃ t18_1 : Sl, rv_2 = (Sl.v t18_1) ∧ Vars h_7 [(b_3, [(Sl.v x_1)]), (b_2, [(Sl.v nilSl)]), (b_1, [(Sl.v g0_1)])] ∧
  eop P (appS 22 22 22 (Sl.v x_1) (Sl.v t18_1)) h_7 fun rv_3 h_8 => ∃ t19_1 : Sl, rv_3 = (Sl.v t19_1) ∧ Vars h_8 [(b_3, [(Sl.v x_1)]), (b_2, [(Sl.v nilSl)]), (b_1, [(Sl.v g0_1)])] ∧
  ∀ (h_9 : Heap), Fr (In [b_3]) h_8 h_9 → Vars h_9 [(b_3, [(Sl.v t19_1)]), (b_2, [(Sl.v nilSl)]), (b_1, [(Sl.v g0_1)])] →
  ∃ m : Nat, m < n_1 ∧ J_1 m (w64 (t10_1 + 1)) t19_1 h_9) ∧
  ((decide (t10_1 < (g0_1.n : Int))) = false →
  ∀ (h_10 : Heap), Fr (In [b_2]) h_5 h_10 → Vars h_10 [(b_3, [(Sl.v x_1)]), (b_2, [(Sl.v x_1)]), (b_1, [(Sl.v g0_1)])] →
  K (Value.agg #[(Sl.v x_1)]) h_10)
theorem v118 (g0_1 : Sl) (h : Heap) (K : Value → Heap → Prop) (H : u118 Try.prog g0_1 h K) : callM Try.prog 118 #[(Value.agg #[(Sl.v g0_1)])] h K := by
  refine c118 (Value.agg #[(Sl.v g0_1)]) h K ?_
  unfold u118 at H
  unfold t118
  have hL : Vars h [] := .nil
  refine eop_box 32 (Value.agg #[(Sl.v g0_1)]) rfl hL (fun b_1 h_1 hb_1 hf_1 hL_1 => ?_)
  refine eop_alloc 32 zer32 rfl hL_1 (fun b_2 h_2 hb_2 hf_2 hL_2 => ?_)
  refine pop.mk' (v := (Value.agg #[(Sl.v nilSl)])) (fun w => by kernel_rfl) ?_
  refine eop_alloc 32 zer32 rfl hL_2 (fun b_3 h_3 hb_3 hf_3 hL_3 => ?_)
  refine uop_loc siz32 hL_3 0 rfl 0 [(Sl.v nilSl)] rfl rfl rfl (Nat.le_of_ble_eq_true rfl) (L' := [(b_3, [(Sl.v nilSl)]), (b_2, [(Sl.v nilSl)]), (b_1, [(Sl.v g0_1)])]) rfl (fun h_4 hf_4 hL_4 => ?_)
  refine pop_field 0 fld32_0 b_1 0 ?_
  refine rop_loc one22 hL_4 2 rfl 0 (v := (Sl.v g0_1)) rfl ?_
  refine pop_len g0_1 _ _ sli22 ?_
  have H := H b_1 b_2 b_3 h_4 (Nat.le_trans (Fr.size (Fr.r (In []) _)) hb_1) (Nat.le_trans (Fr.size (Fr.no' (Fr.r (In []) _) hf_1)) hb_2) (Nat.le_trans (Fr.size (Fr.no' (Fr.no' (Fr.r (In []) _) hf_1) hf_2)) hb_3) (Fr.new (Fr.no' (Fr.no' (Fr.no' (Fr.r (In []) _) hf_1) hf_2) hf_3) (Nat.le_trans (Fr.size (Fr.no' (Fr.no' (Fr.r (In []) _) hf_1) hf_2)) hb_3) hf_4) hL_4
  obtain ⟨J_1, ⟨n_2, h0_1⟩, HB_1⟩ := H
  refine loop_intro (J := fun (n : Nat) (vs : List Value) (h' : Heap) => ∃ t10_1 : Int, ∃ x_1 : Sl, vs = [(VI t10_1)] ∧ J_1 n t10_1 x_1 h' ∧ Vars h' [(b_3, [(Sl.v x_1)]), (b_2, [(Sl.v nilSl)]), (b_1, [(Sl.v g0_1)])]) n_2 ⟨0, nilSl, rfl, h0_1, hL_4⟩ ?_
  intro I_1 mu_1 hI_1 junk_1 tv_1 h_5 hi_1
  obtain ⟨n_1, ⟨t10_1, x_1, hv, hJ_1, hL_5⟩, hn_1⟩ := hI_1 _ _ hi_1
  cases hv
  have H := HB_1 n_1 t10_1 x_1 h_5 hJ_1 hL_5
  refine pop_lss .i64 t10_1 (g0_1.n : Int) ?_
  refine condM_b (fun hb_4 => ?_) (fun hb_4 => ?_)
  · have H := H.1 hb_4
    obtain ⟨hi_2, H⟩ := H
    refine pop_index sli22 siz25 .i64 g0_1 t10_1 hi_2 ?_
    obtain ⟨t13_1, hc_1, H⟩ := H
    refine rop_one one25 (Sl.v t13_1) hc_1 ?_
    refine pop_field 0 fld32_0 b_3 0 ?_
    refine rop_loc one22 hL_5 0 rfl 0 (v := (Sl.v x_1)) rfl ?_
    refine H.mono fun rv_1 h_6 H => ?_
    obtain ⟨t17_1, rfl, hL_6, H⟩ := H
    refine ⟨?_, ?_⟩
    · exact still_loc one22 hL_6 0 rfl 0 (v := (Sl.v x_1)) rfl
    refine H.mono fun rv_2 h_7 H => ?_
    obtain ⟨t18_1, rfl, hL_7, H⟩ := H
    refine ⟨?_, ?_⟩
    · exact still_loc one22 hL_7 0 rfl 0 (v := (Sl.v x_1)) rfl
    refine H.mono fun rv_3 h_8 H => ?_
    obtain ⟨t19_1, rfl, hL_8, H⟩ := H
    refine pop_field 0 fld32_0 b_3 0 ?_
    refine uop_loc siz22 hL_8 0 rfl 0 [(Sl.v t19_1)] rfl rfl rfl (Nat.le_of_ble_eq_true rfl) (L' := [(b_3, [(Sl.v t19_1)]), (b_2, [(Sl.v nilSl)]), (b_1, [(Sl.v g0_1)])]) rfl (fun h_9 hf_5 hL_9 => ?_)
    refine pop_add .i64 t10_1 1 ?_
    have H := H  h_9  (Fr.old (Fr.r (In []) _) hf_5) hL_9
    obtain ⟨m_1, hm_1, H⟩ := H
    exact hn_1 _ _ ⟨m_1, hm_1, (w64 (t10_1 + 1)), t19_1, rfl, H, hL_9⟩
  · have H := H.2 hb_4
    refine rop_locA agg32 hL_5 0 rfl 0 (vs := [(Sl.v x_1)]) rfl rfl ?_
    refine uop_loc siz32 hL_5 1 rfl 0 [(Sl.v x_1)] rfl rfl rfl (Nat.le_of_ble_eq_true rfl) (L' := [(b_3, [(Sl.v x_1)]), (b_2, [(Sl.v x_1)]), (b_1, [(Sl.v g0_1)])]) rfl (fun h_10 hf_6 hL_10 => ?_)
    refine rop_locA agg32 hL_10 1 rfl 0 (vs := [(Sl.v x_1)]) rfl rfl ?_
    have H := H  h_10  (Fr.old (Fr.r (In []) _) hf_6) hL_10
    exact H

/-! laws.wRows -/
def u119 (P : Program) (a0_1 : Sl) (b1_1 : Sl) (h : Heap) (K : Value → Heap → Prop) : Prop :=
  ((!decide ((a0_1.n : Int) = (b1_1.n : Int))) = true →
  K (VB false) h) ∧
  ((!decide ((a0_1.n : Int) = (b1_1.n : Int))) = false →
  ∃ J_1 : Nat → Int → Heap → Prop, (∃ n0 : Nat, J_1 n0 0 h) ∧
  ∀ (n_1 : Nat) (t13_1 : Int) (h_1 : Heap), J_1 n_1 t13_1 h_1 → Vars h_1 [] →
  ((decide (t13_1 < (a0_1.n : Int))) = true →
  InB a0_1 t13_1 ∧
  ∃ t19_1 : Sl, hcell h_1 (Sl.at a0_1 t13_1 1) = some (Sl.v t19_1) ∧
  InB b1_1 t13_1 ∧
  ∃ t23_1 : Sl, hcell h_1 (Sl.at b1_1 t13_1 1) = some (Sl.v t23_1) ∧
  callM P 166 #[(Sl.v t19_1), (Sl.v t23_1)] h_1 fun rv_1 h_2 => ∃ t24_1 : Bool, rv_1 = (VB t24_1) ∧ Vars h_2 [] ∧
  ((!t24_1) = true →
  K (VB false) h_2) ∧
  ((!t24_1) = false →
  ∃ m : Nat, m < n_1 ∧ J_1 m (w64 (t13_1 + 1)) h_2)) ∧
  ((decide (t13_1 < (a0_1.n : Int))) = false →
  K (VB true) h_1))
theorem v119 (a0_1 : Sl) (b1_1 : Sl) (h : Heap) (K : Value → Heap → Prop) (H : u119 Try.prog a0_1 b1_1 h K) : callM Try.prog 119 #[(Sl.v a0_1), (Sl.v b1_1)] h K := by
  refine c119 (Sl.v a0_1) (Sl.v b1_1) h K ?_
  unfold u119 at H
  unfold t119
  have hL : Vars h [] := .nil
  refine pop_len a0_1 _ _ sli22 ?_
  refine pop_len b1_1 _ _ sli22 ?_
  refine pop_ine .i64 _ _ (a0_1.n : Int) (b1_1.n : Int) ?_
  refine condM_b (fun hb_1 => ?_) (fun hb_1 => ?_)
  · have H := H.1 hb_1
    exact H
  · have H := H.2 hb_1
    refine pop_len a0_1 _ _ sli22 ?_
    obtain ⟨J_1, ⟨n_2, h0_1⟩, HB_1⟩ := H
    refine loop_intro (J := fun (n : Nat) (vs : List Value) (h' : Heap) => ∃ t13_1 : Int, vs = [(VI t13_1)] ∧ J_1 n t13_1 h' ∧ Vars h' []) n_2 ⟨0, rfl, h0_1, hL⟩ ?_
    intro I_1 mu_1 hI_1 junk_1 tv_1 h_1 hi_1
    obtain ⟨n_1, ⟨t13_1, hv, hJ_1, hL_1⟩, hn_1⟩ := hI_1 _ _ hi_1
    cases hv
    have H := HB_1 n_1 t13_1 h_1 hJ_1 hL_1
    refine pop_lss .i64 t13_1 (a0_1.n : Int) ?_
    refine condM_b (fun hb_2 => ?_) (fun hb_2 => ?_)
    · have H := H.1 hb_2
      obtain ⟨hi_2, H⟩ := H
      refine pop_index sli22 siz25 .i64 a0_1 t13_1 hi_2 ?_
      obtain ⟨t19_1, hc_2, H⟩ := H
      refine rop_one one25 (Sl.v t19_1) hc_2 ?_
      obtain ⟨hi_3, H⟩ := H
      refine pop_index sli22 siz25 .i64 b1_1 t13_1 hi_3 ?_
      obtain ⟨t23_1, hc_1, H⟩ := H
      refine rop_one one25 (Sl.v t23_1) hc_1 ?_
      refine H.mono fun rv_1 h_2 H => ?_
      obtain ⟨t24_1, rfl, hL_2, H⟩ := H
      refine pop_not t24_1 ?_
      refine condM_b (fun hb_3 => ?_) (fun hb_3 => ?_)
      · have H := H.1 hb_3
        exact H
      · have H := H.2 hb_3
        refine pop_add .i64 t13_1 1 ?_
        obtain ⟨m_1, hm_1, H⟩ := H
        exact hn_1 _ _ ⟨m_1, hm_1, (w64 (t13_1 + 1)), rfl, H, hL_2⟩
    · have H := H.2 hb_2
      exact H

/-! spec.DrawWayLength -/
def u120 (P : Program) (code0_1 : Sl) (h : Heap) (K : Value → Heap → Prop) : Prop :=
  ∀ (b_1 : Nat) (b_2 : Nat) (h_2 : Heap), h.size ≤ b_1 → h.size ≤ b_2 → Fr (In []) h h_2 → Vars h_2 [(b_2, [(Sl.v code0_1), (VI 0), (Value.int .u64 0)]), (b_1, [(Sl.v nilSl)])] →
  callM P 112 #[(VP b_2 0)] h_2 fun rv_1 h_3 => ∃ x_1 : Sl, ∃ x_2 : Int, ∃ x_3 : Int, ∃ t11_1 : Sl, rv_1 = (Value.agg #[(Sl.v t11_1)]) ∧ Vars h_3 [(b_2, [(Sl.v x_1), (VI x_2), (Value.int .u64 x_3)]), (b_1, [(Sl.v nilSl)])] ∧
  ∀ (b_3 : Nat) (h_5 : Heap), h_3.size ≤ b_3 → Fr (In []) h_3 h_5 → Vars h_5 [(b_3, [(Sl.v t11_1)]), (b_2, [(Sl.v x_1), (VI x_2), (Value.int .u64 x_3)]), (b_1, [(Sl.v nilSl)])] →
  callM P 106 #[(VP b_2 0), (Value.agg #[(Sl.v t11_1)])] h_5 fun rv_2 h_6 => ∃ x_4 : Sl, ∃ x_5 : Int, ∃ x_6 : Int, ∃ t15_1 : Int, rv_2 = (VI t15_1) ∧ Vars h_6 [(b_3, [(Sl.v t11_1)]), (b_2, [(Sl.v x_4), (VI x_5), (Value.int .u64 x_6)]), (b_1, [(Sl.v nilSl)])] ∧
  callM P 106 #[(VP b_2 0), (Value.agg #[(Sl.v t11_1)])] h_6 fun rv_3 h_7 => ∃ x_7 : Sl, ∃ x_8 : Int, ∃ x_9 : Int, ∃ t18_1 : Int, rv_3 = (VI t18_1) ∧ Vars h_7 [(b_3, [(Sl.v t11_1)]), (b_2, [(Sl.v x_7), (VI x_8), (Value.int .u64 x_9)]), (b_1, [(Sl.v nilSl)])] ∧
  ∀ (h_8 : Heap), Fr (In [b_1]) h_7 h_8 → Vars h_8 [(b_3, [(Sl.v t11_1)]), (b_2, [(Sl.v x_7), (VI x_8), (Value.int .u64 x_9)]), (b_1, [(Sl.v t11_1)])] →
  K (Value.tuple #[(Value.agg #[(Sl.v t11_1)]), (VI t15_1), (VI t18_1)]) h_8
theorem v120 (code0_1 : Sl) (h : Heap) (K : Value → Heap → Prop) (H : u120 Try.prog code0_1 h K) : callM Try.prog 120 #[(Sl.v code0_1)] h K := by
  refine c120 (Sl.v code0_1) h K ?_
  unfold u120 at H
  unfold t120
  have hL : Vars h [] := .nil
  refine eop_alloc 32 zer32 rfl hL (fun b_1 h_1 hb_1 hf_1 hL_1 => ?_)
  refine pop.mk' (v := (Value.agg #[(Sl.v code0_1), (VI 0), (Value.int .u64 0)])) (fun w => by kernel_rfl) ?_
  refine eop_box 109 (Value.agg #[(Sl.v code0_1), (VI 0), (Value.int .u64 0)]) rfl hL_1 (fun b_2 h_2 hb_2 hf_2 hL_2 => ?_)
  have H := H b_1 b_2 h_2 (Nat.le_trans (Fr.size (Fr.r (In []) _)) hb_1) (Nat.le_trans (Fr.size (Fr.no' (Fr.r (In []) _) hf_1)) hb_2) (Fr.no' (Fr.no' (Fr.r (In []) _) hf_1) hf_2) hL_2
  refine H.mono fun rv_1 h_3 H => ?_
  obtain ⟨x_1, x_2, x_3, t11_1, rfl, hL_3, H⟩ := H
  refine eop_alloc 32 zer32 rfl hL_3 (fun b_3 h_4 hb_3 hf_3 hL_4 => ?_)
  refine uop_loc siz32 hL_4 0 rfl 0 [(Sl.v t11_1)] rfl rfl rfl (Nat.le_of_ble_eq_true rfl) (L' := [(b_3, [(Sl.v t11_1)]), (b_2, [(Sl.v x_1), (VI x_2), (Value.int .u64 x_3)]), (b_1, [(Sl.v nilSl)])]) rfl (fun h_5 hf_4 hL_5 => ?_)
  refine rop_locA agg32 hL_5 0 rfl 0 (vs := [(Sl.v t11_1)]) rfl rfl ?_
  refine rop_locA agg32 hL_5 0 rfl 0 (vs := [(Sl.v t11_1)]) rfl rfl ?_
  refine rop_locA agg32 hL_5 0 rfl 0 (vs := [(Sl.v t11_1)]) rfl rfl ?_
  have H := H b_3 h_5 (Nat.le_trans (Fr.size (Fr.r (In []) _)) hb_3) (Fr.new (Fr.no' (Fr.r (In []) _) hf_3) (Nat.le_trans (Fr.size (Fr.r (In []) _)) hb_3) hf_4) hL_5
  refine H.mono fun rv_2 h_6 H => ?_
  obtain ⟨x_4, x_5, x_6, t15_1, rfl, hL_6, H⟩ := H
  refine ⟨?_, ?_⟩
  · exact still_locA agg32 hL_6 0 rfl 0 (vs := [(Sl.v t11_1)]) rfl rfl
  refine ⟨?_, ?_⟩
  · exact still_locA agg32 hL_6 0 rfl 0 (vs := [(Sl.v t11_1)]) rfl rfl
  refine H.mono fun rv_3 h_7 H => ?_
  obtain ⟨x_7, x_8, x_9, t18_1, rfl, hL_7, H⟩ := H
  refine ⟨?_, ?_⟩
  · exact still_locA agg32 hL_7 0 rfl 0 (vs := [(Sl.v t11_1)]) rfl rfl
  refine uop_loc siz32 hL_7 2 rfl 0 [(Sl.v t11_1)] rfl rfl rfl (Nat.le_of_ble_eq_true rfl) (L' := [(b_3, [(Sl.v t11_1)]), (b_2, [(Sl.v x_7), (VI x_8), (Value.int .u64 x_9)]), (b_1, [(Sl.v t11_1)])]) rfl (fun h_8 hf_5 hL_8 => ?_)
  refine rop_locA agg32 hL_8 2 rfl 0 (vs := [(Sl.v t11_1)]) rfl rfl ?_
  have H := H  h_8  (Fr.old (Fr.r (In []) _) hf_5) hL_8
  exact H

/-! impl.told -/
def u121 (P : Program) (g0_1 : Sl) (h : Heap) (K : Value → Heap → Prop) : Prop :=
  ∀ (b_1 : Nat) (b_2 : Nat) (h_2 : Heap), h.size ≤ b_1 → h.size ≤ b_2 → Fr (In []) h h_2 → Vars h_2 [(b_2, [(Sl.v nilSl)]), (b_1, [(Sl.v g0_1)])] →
  callM P 88 #[(Value.agg #[(Sl.v g0_1)])] h_2 fun rv_1 h_3 => ∃ t5_1 : Bool, rv_1 = (VB t5_1) ∧ Vars h_3 [(b_2, [(Sl.v nilSl)]), (b_1, [(Sl.v g0_1)])] ∧
  ((!t5_1) = true →
  ∀ (h_4 : Heap), Fr (In [b_2]) h_3 h_4 → Vars h_4 [(b_2, [(Sl.v nilSl)]), (b_1, [(Sl.v g0_1)])] →
  K (Value.tuple #[(Value.agg #[(Sl.v nilSl)]), (VB false)]) h_4) ∧
  ((!t5_1) = false →
  ∀ (h_5 : Heap), Fr (In [b_2]) h_3 h_5 → Vars h_5 [(b_2, [(Sl.v g0_1)]), (b_1, [(Sl.v g0_1)])] →
  K (Value.tuple #[(Value.agg #[(Sl.v g0_1)]), (VB true)]) h_5)
theorem v121 (g0_1 : Sl) (h : Heap) (K : Value → Heap → Prop) (H : u121 Try.prog g0_1 h K) : callM Try.prog 121 #[(Value.agg #[(Sl.v g0_1)])] h K := by
  refine c121 (Value.agg #[(Sl.v g0_1)]) h K ?_
  unfold u121 at H
  unfold t121
  have hL : Vars h [] := .nil
  refine eop_box 32 (Value.agg #[(Sl.v g0_1)]) rfl hL (fun b_1 h_1 hb_1 hf_1 hL_1 => ?_)
  refine eop_alloc 32 zer32 rfl hL_1 (fun b_2 h_2 hb_2 hf_2 hL_2 => ?_)
  refine rop_locA agg32 hL_2 1 rfl 0 (vs := [(Sl.v g0_1)]) rfl rfl ?_
  have H := H b_1 b_2 h_2 (Nat.le_trans (Fr.size (Fr.r (In []) _)) hb_1) (Nat.le_trans (Fr.size (Fr.no' (Fr.r (In []) _) hf_1)) hb_2) (Fr.no' (Fr.no' (Fr.r (In []) _) hf_1) hf_2) hL_2
  refine H.mono fun rv_1 h_3 H => ?_
  obtain ⟨t5_1, rfl, hL_3, H⟩ := H
  refine pop_not t5_1 ?_
  refine condM_b (fun hb_3 => ?_) (fun hb_3 => ?_)
  · have H := H.1 hb_3
    refine pop.mk' (v := (Value.agg #[(Sl.v nilSl)])) (fun w => by kernel_rfl) ?_
    refine uop_loc siz32 hL_3 0 rfl 0 [(Sl.v nilSl)] rfl rfl rfl (Nat.le_of_ble_eq_true rfl) (L' := [(b_2, [(Sl.v nilSl)]), (b_1, [(Sl.v g0_1)])]) rfl (fun h_4 hf_3 hL_4 => ?_)
    refine rop_locA agg32 hL_4 0 rfl 0 (vs := [(Sl.v nilSl)]) rfl rfl ?_
    have H := H  h_4  (Fr.old (Fr.r (In []) _) hf_3) hL_4
    exact H
  · have H := H.2 hb_3
    refine rop_locA agg32 hL_3 1 rfl 0 (vs := [(Sl.v g0_1)]) rfl rfl ?_
    refine uop_loc siz32 hL_3 0 rfl 0 [(Sl.v g0_1)] rfl rfl rfl (Nat.le_of_ble_eq_true rfl) (L' := [(b_2, [(Sl.v g0_1)]), (b_1, [(Sl.v g0_1)])]) rfl (fun h_5 hf_4 hL_5 => ?_)
    refine rop_locA agg32 hL_5 0 rfl 0 (vs := [(Sl.v g0_1)]) rfl rfl ?_
    have H := H  h_5  (Fr.old (Fr.r (In []) _) hf_4) hL_5
    exact H

/-! spec.grIf -/
def u122 (P : Program) (g0_1 : Sl) (h : Heap) (K : Value → Heap → Prop) : Prop :=
  ∀ (b_1 : Nat) (b_2 : Nat) (h_2 : Heap), h.size ≤ b_1 → h.size ≤ b_2 → Fr (In []) h h_2 → Vars h_2 [(b_2, [(Sl.v nilSl)]), (b_1, [(Sl.v g0_1)])] →
  callM P 165 #[(Value.agg #[(Sl.v g0_1)])] h_2 fun rv_1 h_3 => ∃ t5_1 : Bool, rv_1 = (VB t5_1) ∧ Vars h_3 [(b_2, [(Sl.v nilSl)]), (b_1, [(Sl.v g0_1)])] ∧
  ((!t5_1) = true →
  ∀ (h_4 : Heap), Fr (In [b_2]) h_3 h_4 → Vars h_4 [(b_2, [(Sl.v nilSl)]), (b_1, [(Sl.v g0_1)])] →
  K (Value.tuple #[(Value.agg #[(Sl.v nilSl)]), (VB false)]) h_4) ∧
  ((!t5_1) = false →
  ∀ (h_5 : Heap), Fr (In [b_2]) h_3 h_5 → Vars h_5 [(b_2, [(Sl.v g0_1)]), (b_1, [(Sl.v g0_1)])] →
  K (Value.tuple #[(Value.agg #[(Sl.v g0_1)]), (VB true)]) h_5)
theorem v122 (g0_1 : Sl) (h : Heap) (K : Value → Heap → Prop) (H : u122 Try.prog g0_1 h K) : callM Try.prog 122 #[(Value.agg #[(Sl.v g0_1)])] h K := by
  refine c122 (Value.agg #[(Sl.v g0_1)]) h K ?_
  unfold u122 at H
  unfold t122
  have hL : Vars h [] := .nil
  refine eop_box 32 (Value.agg #[(Sl.v g0_1)]) rfl hL (fun b_1 h_1 hb_1 hf_1 hL_1 => ?_)
  refine eop_alloc 32 zer32 rfl hL_1 (fun b_2 h_2 hb_2 hf_2 hL_2 => ?_)
  refine rop_locA agg32 hL_2 1 rfl 0 (vs := [(Sl.v g0_1)]) rfl rfl ?_
  have H := H b_1 b_2 h_2 (Nat.le_trans (Fr.size (Fr.r (In []) _)) hb_1) (Nat.le_trans (Fr.size (Fr.no' (Fr.r (In []) _) hf_1)) hb_2) (Fr.no' (Fr.no' (Fr.r (In []) _) hf_1) hf_2) hL_2
  refine H.mono fun rv_1 h_3 H => ?_
  obtain ⟨t5_1, rfl, hL_3, H⟩ := H
  refine pop_not t5_1 ?_
  refine condM_b (fun hb_3 => ?_) (fun hb_3 => ?_)
  · have H := H.1 hb_3
    refine pop.mk' (v := (Value.agg #[(Sl.v nilSl)])) (fun w => by kernel_rfl) ?_
    refine uop_loc siz32 hL_3 0 rfl 0 [(Sl.v nilSl)] rfl rfl rfl (Nat.le_of_ble_eq_true rfl) (L' := [(b_2, [(Sl.v nilSl)]), (b_1, [(Sl.v g0_1)])]) rfl (fun h_4 hf_3 hL_4 => ?_)
    refine rop_locA agg32 hL_4 0 rfl 0 (vs := [(Sl.v nilSl)]) rfl rfl ?_
    have H := H  h_4  (Fr.old (Fr.r (In []) _) hf_3) hL_4
    exact H
  · have H := H.2 hb_3
    refine rop_locA agg32 hL_3 1 rfl 0 (vs := [(Sl.v g0_1)]) rfl rfl ?_
    refine uop_loc siz32 hL_3 0 rfl 0 [(Sl.v g0_1)] rfl rfl rfl (Nat.le_of_ble_eq_true rfl) (L' := [(b_2, [(Sl.v g0_1)]), (b_1, [(Sl.v g0_1)])]) rfl (fun h_5 hf_4 hL_5 => ?_)
    refine rop_locA agg32 hL_5 0 rfl 0 (vs := [(Sl.v g0_1)]) rfl rfl ?_
    have H := H  h_5  (Fr.old (Fr.r (In []) _) hf_4) hL_5
    exact H

/-! (impl.Graph).entries -/
def u123 (P : Program) (g0_1 : Sl) (p1_1 : Int) (h : Heap) (K : Value → Heap → Prop) : Prop :=
  ∀ (b_1 : Nat) (h_1 : Heap), h.size ≤ b_1 → Fr (In []) h h_1 → Vars h_1 [(b_1, [(Sl.v g0_1)])] →
  callM P 115 #[(Sl.v g0_1)] h_1 fun rv_1 h_2 => ∃ t10_1 : Sl, rv_1 = (Sl.v t10_1) ∧ Vars h_2 [(b_1, [(Sl.v g0_1)])] ∧
  ∃ J_1 : Nat → Int → Int → Heap → Prop, (∃ n0 : Nat, J_1 n0 0 0 h_2) ∧
  ∀ (n_1 : Nat) (many5_1 : Int) (t12_1 : Int) (h_3 : Heap), J_1 n_1 many5_1 t12_1 h_3 → Vars h_3 [(b_1, [(Sl.v g0_1)])] →
  ((decide (t12_1 < (t10_1.n : Int))) = true →
  InB t10_1 t12_1 ∧
  ∃ t15_1 : Int, hcell h_3 (Sl.at t10_1 t12_1 1) = some (VI t15_1) ∧
  ((decide (t15_1 = p1_1)) = true →
  ∃ m : Nat, m < n_1 ∧ J_1 m (w64 (many5_1 + 1)) (w64 (t12_1 + 1)) h_3) ∧
  ((decide (t15_1 = p1_1)) = false →
  ∃ m : Nat, m < n_1 ∧ J_1 m many5_1 (w64 (t12_1 + 1)) h_3)) ∧
  ((decide (t12_1 < (t10_1.n : Int))) = false →
  K (VI many5_1) h_3)
theorem v123 (g0_1 : Sl) (p1_1 : Int) (h : Heap) (K : Value → Heap → Prop) (H : u123 Try.prog g0_1 p1_1 h K) : callM Try.prog 123 #[(Value.agg #[(Sl.v g0_1)]), (VI p1_1)] h K := by
  refine c123 (Value.agg #[(Sl.v g0_1)]) (VI p1_1) h K ?_
  unfold u123 at H
  unfold t123
  have hL : Vars h [] := .nil
  refine eop_box 32 (Value.agg #[(Sl.v g0_1)]) rfl hL (fun b_1 h_1 hb_1 hf_1 hL_1 => ?_)
  refine pop_field 0 fld32_0 b_1 0 ?_
  refine rop_loc one22 hL_1 0 rfl 0 (v := (Sl.v g0_1)) rfl ?_
  have H := H b_1 h_1 (Nat.le_trans (Fr.size (Fr.r (In []) _)) hb_1) (Fr.no' (Fr.r (In []) _) hf_1) hL_1
  refine H.mono fun rv_1 h_2 H => ?_
  obtain ⟨t10_1, rfl, hL_2, H⟩ := H
  refine pop_len t10_1 _ _ sli25 ?_
  obtain ⟨J_1, ⟨n_2, h0_1⟩, HB_1⟩ := H
  refine loop_intro (J := fun (n : Nat) (vs : List Value) (h' : Heap) => ∃ many5_1 : Int, ∃ t12_1 : Int, vs = [(VI many5_1), (VI t12_1)] ∧ J_1 n many5_1 t12_1 h' ∧ Vars h' [(b_1, [(Sl.v g0_1)])]) n_2 ⟨0, 0, rfl, h0_1, hL_2⟩ ?_
  intro I_1 mu_1 hI_1 junk_1 tv_1 tv_2 h_3 hi_1
  obtain ⟨n_1, ⟨many5_1, t12_1, hv, hJ_1, hL_3⟩, hn_1⟩ := hI_1 _ _ hi_1
  cases hv
  have H := HB_1 n_1 many5_1 t12_1 h_3 hJ_1 hL_3
  refine pop_lss .i64 t12_1 (t10_1.n : Int) ?_
  refine condM_b (fun hb_2 => ?_) (fun hb_2 => ?_)
  · have H := H.1 hb_2
    obtain ⟨hi_2, H⟩ := H
    refine pop_index sli25 siz3 .i64 t10_1 t12_1 hi_2 ?_
    obtain ⟨t15_1, hc_1, H⟩ := H
    refine rop_one one3 (VI t15_1) hc_1 ?_
    refine pop_ieq .i64 _ _ t15_1 p1_1 ?_
    refine condM_b (fun hb_3 => ?_) (fun hb_3 => ?_)
    · have H := H.1 hb_3
      refine pop_add .i64 many5_1 1 ?_
      refine pop_add .i64 t12_1 1 ?_
      obtain ⟨m_1, hm_1, H⟩ := H
      exact hn_1 _ _ ⟨m_1, hm_1, (w64 (many5_1 + 1)), (w64 (t12_1 + 1)), rfl, H, hL_3⟩
    · have H := H.2 hb_3
      refine pop_add .i64 t12_1 1 ?_
      obtain ⟨m_2, hm_2, H⟩ := H
      exact hn_1 _ _ ⟨m_2, hm_2, many5_1, (w64 (t12_1 + 1)), rfl, H, hL_3⟩
  · have H := H.2 hb_2
    exact H

/-! spec.grCycle -/
def u124 (P : Program) (n0_1 : Int) (both1_1 : Bool) (h : Heap) (K : Value → Heap → Prop) : Prop :=
  ∀ (b_1 : Nat) (b_2 : Nat) (h_3 : Heap), h.size ≤ b_1 → h.size ≤ b_2 → Fr (In []) h h_3 → Vars h_3 [(b_2, [(Sl.v nilSl)]), (b_1, [(Sl.v nilSl)])] →
  ∃ J_1 : Nat → Int → Sl → Heap → Prop, (∃ n0 : Nat, J_1 n0 0 nilSl h_3) ∧
  ∀ (n_1 : Nat) (p6_1 : Int) (x_1 : Sl) (h_4 : Heap), J_1 n_1 p6_1 x_1 h_4 → Vars h_4 [(b_2, [(Sl.v x_1)]), (b_1, [(Sl.v nilSl)])] →
  ((decide (p6_1 < n0_1)) = true →
  n0_1 ≠ 0 ∧
  eop P (Instr.buildSlice 25 1 #[(0, (VI (Int.tmod (w64 (p6_1 + 1)) n0_1)))]) h_4 fun rv_1 h_5 => ∃ t18_1 : Sl, rv_1 = (Sl.v t18_1) ∧ Vars h_5 [(b_2, [(Sl.v x_1)]), (b_1, [(Sl.v nilSl)])] ∧
  ∃ J_2 : Sl → Heap → Prop, ((both1_1 = true →
  n0_1 ≠ 0 ∧
  eop P (Instr.buildSlice 25 1 #[(0, (VI (Int.tmod (w64 ((w64 (p6_1 + n0_1)) - 1)) n0_1)))]) h_5 fun rv_2 h_6 => ∃ t27_1 : Sl, rv_2 = (Sl.v t27_1) ∧ Vars h_6 [(b_2, [(Sl.v x_1)]), (b_1, [(Sl.v nilSl)])] ∧
  eop P (appS 25 25 25 (Sl.v t18_1) (Sl.v t27_1)) h_6 fun rv_3 h_7 => ∃ t28_1 : Sl, rv_3 = (Sl.v t28_1) ∧ Vars h_7 [(b_2, [(Sl.v x_1)]), (b_1, [(Sl.v nilSl)])] ∧
  J_2 t28_1 h_7) ∧
  (both1_1 = false →
  J_2 t18_1 h_5)) ∧
  ∀ (x_2 : Sl) (h_8 : Heap), J_2 x_2 h_8 → Vars h_8 [(b_2, [(Sl.v x_1)]), (b_1, [(Sl.v nilSl)])] →
  eop P (Instr.buildSlice 22 1 #[(0, (Sl.v x_2))]) h_8 fun rv_4 h_9 => ∃ t32_1 : Sl, rv_4 = (Sl.v t32_1) ∧ Vars h_9 [(b_2, [(Sl.v x_1)]), (b_1, [(Sl.v nilSl)])] ∧
  eop P (appS 22 22 22 (Sl.v x_1) (Sl.v t32_1)) h_9 fun rv_5 h_10 => ∃ t33_1 : Sl, rv_5 = (Sl.v t33_1) ∧ Vars h_10 [(b_2, [(Sl.v x_1)]), (b_1, [(Sl.v nilSl)])] ∧
  ∀ (h_11 : Heap), Fr (In [b_2]) h_10 h_11 → Vars h_11 [(b_2, [(Sl.v t33_1)]), (b_1, [(Sl.v nilSl)])] →
  ∃ m : Nat, m < n_1 ∧ J_1 m (w64 (p6_1 + 1)) t33_1 h_11) ∧
  ((decide (p6_1 < n0_1)) = false →
  ∀ (h_12 : Heap), Fr (In [b_1]) h_4 h_12 → Vars h_12 [(b_2, [(Sl.v x_1)]), (b_1, [(Sl.v x_1)])] →
  K (Value.agg #[(Sl.v x_1)]) h_12)
theorem v124 (n0_1 : Int) (both1_1 : Bool) (h : Heap) (K : Value → Heap → Prop) (H : u124 Try.prog n0_1 both1_1 h K) : callM Try.prog 124 #[(VI n0_1), (VB both1_1)] h K := by
  refine c124 (VI n0_1) (VB both1_1) h K ?_
  unfold u124 at H
  unfold t124
  have hL : Vars h [] := .nil
  refine eop_alloc 32 zer32 rfl hL (fun b_1 h_1 hb_1 hf_1 hL_1 => ?_)
  refine pop.mk' (v := (Value.agg #[(Sl.v nilSl)])) (fun w => by kernel_rfl) ?_
  refine eop_alloc 32 zer32 rfl hL_1 (fun b_2 h_2 hb_2 hf_2 hL_2 => ?_)
  refine uop_loc siz32 hL_2 0 rfl 0 [(Sl.v nilSl)] rfl rfl rfl (Nat.le_of_ble_eq_true rfl) (L' := [(b_2, [(Sl.v nilSl)]), (b_1, [(Sl.v nilSl)])]) rfl (fun h_3 hf_3 hL_3 => ?_)
  have H := H b_1 b_2 h_3 (Nat.le_trans (Fr.size (Fr.r (In []) _)) hb_1) (Nat.le_trans (Fr.size (Fr.no' (Fr.r (In []) _) hf_1)) hb_2) (Fr.new (Fr.no' (Fr.no' (Fr.r (In []) _) hf_1) hf_2) (Nat.le_trans (Fr.size (Fr.no' (Fr.r (In []) _) hf_1)) hb_2) hf_3) hL_3
  obtain ⟨J_1, ⟨n_2, h0_1⟩, HB_2⟩ := H
  refine loop_intro (J := fun (n : Nat) (vs : List Value) (h' : Heap) => ∃ p6_1 : Int, ∃ x_1 : Sl, vs = [(VI p6_1)] ∧ J_1 n p6_1 x_1 h' ∧ Vars h' [(b_2, [(Sl.v x_1)]), (b_1, [(Sl.v nilSl)])]) n_2 ⟨0, nilSl, rfl, h0_1, hL_3⟩ ?_
  intro I_1 mu_1 hI_1 junk_1 tv_2 h_4 hi_1
  obtain ⟨n_1, ⟨p6_1, x_1, hv, hJ_1, hL_4⟩, hn_1⟩ := hI_1 _ _ hi_1
  cases hv
  have H := HB_2 n_1 p6_1 x_1 h_4 hJ_1 hL_4
  refine pop_lss .i64 p6_1 n0_1 ?_
  refine condM_b (fun hb_3 => ?_) (fun hb_3 => ?_)
  · have H := H.1 hb_3
    refine pop_add .i64 p6_1 1 ?_
    obtain ⟨hz_1, H⟩ := H
    refine pop_rem .i64 (w64 (p6_1 + 1)) n0_1 hz_1 ?_
    refine H.mono fun rv_1 h_5 H => ?_
    obtain ⟨t18_1, rfl, hL_5, H⟩ := H
    obtain ⟨J_2, H, HB_1⟩ := H
    refine ⟨fun (vs : List Value) (h' : Heap) => ∃ x_2 : Sl, vs = [(Sl.v x_2)] ∧ J_2 x_2 h' ∧ Vars h' [(b_2, [(Sl.v x_1)]), (b_1, [(Sl.v nilSl)])], ?_, ?_⟩
    · refine condM_b (fun hb_4 => ?_) (fun hb_4 => ?_)
      · have H := H.1 hb_4
        refine pop_add .i64 p6_1 n0_1 ?_
        refine pop_sub .i64 (w64 (p6_1 + n0_1)) 1 ?_
        obtain ⟨hz_2, H⟩ := H
        refine pop_rem .i64 (w64 ((w64 (p6_1 + n0_1)) - 1)) n0_1 hz_2 ?_
        refine H.mono fun rv_2 h_6 H => ?_
        obtain ⟨t27_1, rfl, hL_6, H⟩ := H
        refine H.mono fun rv_3 h_7 H => ?_
        obtain ⟨t28_1, rfl, hL_7, H⟩ := H
        exact ⟨t28_1, rfl, H, hL_7⟩
      · have H := H.2 hb_4
        exact ⟨t18_1, rfl, H, hL_5⟩
    intro junk_2 tv_1 h_8
    rintro ⟨x_2, hv, hJ_2, hL_8⟩
    cases hv
    have H := HB_1 x_2 h_8 hJ_2 hL_8
    refine pop_field 0 fld32_0 b_2 0 ?_
    refine rop_loc one22 hL_8 0 rfl 0 (v := (Sl.v x_1)) rfl ?_
    refine H.mono fun rv_4 h_9 H => ?_
    obtain ⟨t32_1, rfl, hL_9, H⟩ := H
    refine H.mono fun rv_5 h_10 H => ?_
    obtain ⟨t33_1, rfl, hL_10, H⟩ := H
    refine pop_field 0 fld32_0 b_2 0 ?_
    refine uop_loc siz22 hL_10 0 rfl 0 [(Sl.v t33_1)] rfl rfl rfl (Nat.le_of_ble_eq_true rfl) (L' := [(b_2, [(Sl.v t33_1)]), (b_1, [(Sl.v nilSl)])]) rfl (fun h_11 hf_4 hL_11 => ?_)
    refine pop_add .i64 p6_1 1 ?_
    have H := H  h_11  (Fr.old (Fr.r (In []) _) hf_4) hL_11
    obtain ⟨m_1, hm_1, H⟩ := H
    exact hn_1 _ _ ⟨m_1, hm_1, (w64 (p6_1 + 1)), t33_1, rfl, H, hL_11⟩
  · have H := H.2 hb_3
    refine rop_locA agg32 hL_4 0 rfl 0 (vs := [(Sl.v x_1)]) rfl rfl ?_
    refine uop_loc siz32 hL_4 1 rfl 0 [(Sl.v x_1)] rfl rfl rfl (Nat.le_of_ble_eq_true rfl) (L' := [(b_2, [(Sl.v x_1)]), (b_1, [(Sl.v x_1)])]) rfl (fun h_12 hf_5 hL_12 => ?_)
    refine rop_locA agg32 hL_12 1 rfl 0 (vs := [(Sl.v x_1)]) rfl rfl ?_
    have H := H  h_12  (Fr.old (Fr.r (In []) _) hf_5) hL_12
    exact H

/-! (impl.Graph).isStrong -/
def u125 (P : Program) (g0_1 : Sl) (h : Heap) (K : Value → Heap → Prop) : Prop :=
  ∀ (b_1 : Nat) (h_1 : Heap), h.size ≤ b_1 → Fr (In []) h h_1 → Vars h_1 [(b_1, [(Sl.v g0_1)])] →
  ∃ J_1 : Nat → Int → Heap → Prop, (∃ n0 : Nat, J_1 n0 0 h_1) ∧
  ∀ (n_1 : Nat) (t7_1 : Int) (h_2 : Heap), J_1 n_1 t7_1 h_2 → Vars h_2 [(b_1, [(Sl.v g0_1)])] →
  ((decide (t7_1 < (g0_1.n : Int))) = true →
  callM P 167 #[(Value.agg #[(Sl.v g0_1)]), (VI t7_1)] h_2 fun rv_1 h_3 => ∃ t12_1 : Sl, rv_1 = (Sl.v t12_1) ∧ Vars h_3 [(b_1, [(Sl.v g0_1)])] ∧
  ((!decide ((t12_1.n : Int) = (g0_1.n : Int))) = true →
  K (VB false) h_3) ∧
  ((!decide ((t12_1.n : Int) = (g0_1.n : Int))) = false →
  ∃ m : Nat, m < n_1 ∧ J_1 m (w64 (t7_1 + 1)) h_3)) ∧
  ((decide (t7_1 < (g0_1.n : Int))) = false →
  K (VB true) h_2)
theorem v125 (g0_1 : Sl) (h : Heap) (K : Value → Heap → Prop) (H : u125 Try.prog g0_1 h K) : callM Try.prog 125 #[(Value.agg #[(Sl.v g0_1)])] h K := by
  refine c125 (Value.agg #[(Sl.v g0_1)]) h K ?_
  unfold u125 at H
  unfold t125
  have hL : Vars h [] := .nil
  refine eop_box 32 (Value.agg #[(Sl.v g0_1)]) rfl hL (fun b_1 h_1 hb_1 hf_1 hL_1 => ?_)
  refine pop_field 0 fld32_0 b_1 0 ?_
  refine rop_loc one22 hL_1 0 rfl 0 (v := (Sl.v g0_1)) rfl ?_
  refine pop_len g0_1 _ _ sli22 ?_
  have H := H b_1 h_1 (Nat.le_trans (Fr.size (Fr.r (In []) _)) hb_1) (Fr.no' (Fr.r (In []) _) hf_1) hL_1
  obtain ⟨J_1, ⟨n_2, h0_1⟩, HB_1⟩ := H
  refine loop_intro (J := fun (n : Nat) (vs : List Value) (h' : Heap) => ∃ t7_1 : Int, vs = [(VI t7_1)] ∧ J_1 n t7_1 h' ∧ Vars h' [(b_1, [(Sl.v g0_1)])]) n_2 ⟨0, rfl, h0_1, hL_1⟩ ?_
  intro I_1 mu_1 hI_1 junk_1 tv_1 h_2 hi_1
  obtain ⟨n_1, ⟨t7_1, hv, hJ_1, hL_2⟩, hn_1⟩ := hI_1 _ _ hi_1
  cases hv
  have H := HB_1 n_1 t7_1 h_2 hJ_1 hL_2
  refine pop_lss .i64 t7_1 (g0_1.n : Int) ?_
  refine condM_b (fun hb_2 => ?_) (fun hb_2 => ?_)
  · have H := H.1 hb_2
    refine rop_locA agg32 hL_2 0 rfl 0 (vs := [(Sl.v g0_1)]) rfl rfl ?_
    refine pop_field 0 fld32_0 b_1 0 ?_
    refine rop_loc one22 hL_2 0 rfl 0 (v := (Sl.v g0_1)) rfl ?_
    refine pop_len g0_1 _ _ sli22 ?_
    refine H.mono fun rv_1 h_3 H => ?_
    obtain ⟨t12_1, rfl, hL_3, H⟩ := H
    refine ⟨?_, ?_⟩
    · exact still_loc one22 hL_3 0 rfl 0 (v := (Sl.v g0_1)) rfl
    refine pop_len t12_1 _ _ sli25 ?_
    refine pop_ine .i64 _ _ (t12_1.n : Int) (g0_1.n : Int) ?_
    refine condM_b (fun hb_3 => ?_) (fun hb_3 => ?_)
    · have H := H.1 hb_3
      exact H
    · have H := H.2 hb_3
      refine pop_add .i64 t7_1 1 ?_
      obtain ⟨m_1, hm_1, H⟩ := H
      exact hn_1 _ _ ⟨m_1, hm_1, (w64 (t7_1 + 1)), rfl, H, hL_3⟩
  · have H := H.2 hb_2
    exact H

/-! (impl.Graph).isBalanced -/
def u126 (P : Program) (g0_1 : Sl) (h : Heap) (K : Value → Heap → Prop) : Prop :=
  ∀ (b_1 : Nat) (h_1 : Heap), h.size ≤ b_1 → Fr (In []) h h_1 → Vars h_1 [(b_1, [(Sl.v g0_1)])] →
  ∃ J_1 : Nat → Int → Heap → Prop, (∃ n0 : Nat, J_1 n0 0 h_1) ∧
  ∀ (n_1 : Nat) (t8_1 : Int) (h_2 : Heap), J_1 n_1 t8_1 h_2 → Vars h_2 [(b_1, [(Sl.v g0_1)])] →
  ((decide (t8_1 < (g0_1.n : Int))) = true →
  InB g0_1 t8_1 ∧
  ∃ t12_1 : Sl, hcell h_2 (Sl.at g0_1 t8_1 1) = some (Sl.v t12_1) ∧
  callM P 123 #[(Value.agg #[(Sl.v g0_1)]), (VI t8_1)] h_2 fun rv_1 h_3 => ∃ t17_1 : Int, rv_1 = (VI t17_1) ∧ Vars h_3 [(b_1, [(Sl.v g0_1)])] ∧
  ((!decide ((t12_1.n : Int) = t17_1)) = true →
  K (VB false) h_3) ∧
  ((!decide ((t12_1.n : Int) = t17_1)) = false →
  ∃ m : Nat, m < n_1 ∧ J_1 m (w64 (t8_1 + 1)) h_3)) ∧
  ((decide (t8_1 < (g0_1.n : Int))) = false →
  K (VB true) h_2)
theorem v126 (g0_1 : Sl) (h : Heap) (K : Value → Heap → Prop) (H : u126 Try.prog g0_1 h K) : callM Try.prog 126 #[(Value.agg #[(Sl.v g0_1)])] h K := by
  refine c126 (Value.agg #[(Sl.v g0_1)]) h K ?_
  unfold u126 at H
  unfold t126
  have hL : Vars h [] := .nil
  refine eop_box 32 (Value.agg #[(Sl.v g0_1)]) rfl hL (fun b_1 h_1 hb_1 hf_1 hL_1 => ?_)
  refine pop_field 0 fld32_0 b_1 0 ?_
  refine rop_loc one22 hL_1 0 rfl 0 (v := (Sl.v g0_1)) rfl ?_
  refine pop_len g0_1 _ _ sli22 ?_
  have H := H b_1 h_1 (Nat.le_trans (Fr.size (Fr.r (In []) _)) hb_1) (Fr.no' (Fr.r (In []) _) hf_1) hL_1
  obtain ⟨J_1, ⟨n_2, h0_1⟩, HB_1⟩ := H
  refine loop_intro (J := fun (n : Nat) (vs : List Value) (h' : Heap) => ∃ t8_1 : Int, vs = [(VI t8_1)] ∧ J_1 n t8_1 h' ∧ Vars h' [(b_1, [(Sl.v g0_1)])]) n_2 ⟨0, rfl, h0_1, hL_1⟩ ?_
  intro I_1 mu_1 hI_1 junk_1 tv_1 h_2 hi_1
  obtain ⟨n_1, ⟨t8_1, hv, hJ_1, hL_2⟩, hn_1⟩ := hI_1 _ _ hi_1
  cases hv
  have H := HB_1 n_1 t8_1 h_2 hJ_1 hL_2
  refine pop_lss .i64 t8_1 (g0_1.n : Int) ?_
  refine condM_b (fun hb_2 => ?_) (fun hb_2 => ?_)
  · have H := H.1 hb_2
    obtain ⟨hi_2, H⟩ := H
    refine pop_index sli22 siz25 .i64 g0_1 t8_1 hi_2 ?_
    obtain ⟨t12_1, hc_1, H⟩ := H
    refine rop_one one25 (Sl.v t12_1) hc_1 ?_
    refine pop_len t12_1 _ _ sli25 ?_
    refine rop_locA agg32 hL_2 0 rfl 0 (vs := [(Sl.v g0_1)]) rfl rfl ?_
    refine H.mono fun rv_1 h_3 H => ?_
    obtain ⟨t17_1, rfl, hL_3, H⟩ := H
    refine pop_ine .i64 _ _ (t12_1.n : Int) t17_1 ?_
    refine condM_b (fun hb_3 => ?_) (fun hb_3 => ?_)
    · have H := H.1 hb_3
      exact H
    · have H := H.2 hb_3
      refine pop_add .i64 t8_1 1 ?_
      obtain ⟨m_1, hm_1, H⟩ := H
      exact hn_1 _ _ ⟨m_1, hm_1, (w64 (t8_1 + 1)), rfl, H, hL_3⟩
  · have H := H.2 hb_2
    exact H

/-! spec.l1Own -/
def u130 (P : Program) (l0_1 : Sl) (h : Heap) (K : Value → Heap → Prop) : Prop :=
  eop P (Instr.buildSlice 25 0 #[]) h fun rv_1 h_1 => ∃ t3_1 : Sl, rv_1 = (Sl.v t3_1) ∧ Vars h_1 [] ∧
  eop P (appS 25 25 25 (Sl.v t3_1) (Sl.v l0_1)) h_1 fun rv_2 h_2 => ∃ t5_1 : Sl, rv_2 = (Sl.v t5_1) ∧ Vars h_2 [] ∧
  K (Sl.v t5_1) h_2
theorem v130 (l0_1 : Sl) (h : Heap) (K : Value → Heap → Prop) (H : u130 Try.prog l0_1 h K) : callM Try.prog 130 #[(Sl.v l0_1)] h K := by
  refine c130 (Sl.v l0_1) h K ?_
  unfold u130 at H
  unfold t130
  have hL : Vars h [] := .nil
  refine H.mono fun rv_1 h_1 H => ?_
  obtain ⟨t3_1, rfl, hL_1, H⟩ := H
  refine H.mono fun rv_2 h_2 H => ?_
  obtain ⟨t5_1, rfl, hL_2, H⟩ := H
  exact H

/-! slices.Clone[[]int,int] -/
def u142 (P : Program) (s0_1 : Sl) (h : Heap) (K : Value → Heap → Prop) : Prop :=
  pop P (binE .eql 25 (.tmp 3) (.const (Value.slice none 0 0)) (Sl.v s0_1) (Value.slice none 0 0)) fun rv_1 => ∃ t4_1 : Bool, rv_1 = (VB t4_1) ∧ 
  (t4_1 = true →
  K (Sl.v nilSl) h) ∧
  (t4_1 = false →
  eop P (Instr.buildSlice 25 0 #[]) h fun rv_2 h_1 => ∃ t5_1 : Sl, rv_2 = (Sl.v t5_1) ∧ Vars h_1 [] ∧
  eop P (appS 25 25 25 (Sl.v t5_1) (Sl.v s0_1)) h_1 fun rv_3 h_2 => ∃ t7_1 : Sl, rv_3 = (Sl.v t7_1) ∧ Vars h_2 [] ∧
  K (Sl.v t7_1) h_2)
theorem v142 (s0_1 : Sl) (h : Heap) (K : Value → Heap → Prop) (H : u142 Try.prog s0_1 h K) : callM Try.prog 142 #[(Sl.v s0_1)] h K := by
  refine c142 (Sl.v s0_1) h K ?_
  unfold u142 at H
  unfold t142
  have hL : Vars h [] := .nil
  refine H.mono fun rv_1 H => ?_
  obtain ⟨t4_1, rfl, H⟩ := H
  refine condM_b (fun hb_1 => ?_) (fun hb_1 => ?_)
  · have H := H.1 hb_1
    exact H
  · have H := H.2 hb_1
    refine H.mono fun rv_2 h_1 H => ?_
    obtain ⟨t5_1, rfl, hL_1, H⟩ := H
    refine H.mono fun rv_3 h_2 H => ?_
    obtain ⟨t7_1, rfl, hL_2, H⟩ := H
    exact H

/-! impl.isGraph$1 -/
def u150 (P : Program) (q0_1 : Int) (b_1 : Nat) (t1_1 : Int) (h : Heap) (K : Value → Heap → Prop) : Prop :=
  callM P 113 #[(VI q0_1), (VI 0), (VI (w64 (t1_1 - 1)))] h fun rv_1 h_1 => ∃ t7_1 : Bool, rv_1 = (VB t7_1) ∧ Vars h_1 [(b_1, [(VI t1_1)])] ∧
  K (VB (!t7_1)) h_1
theorem v150 (q0_1 : Int) (b_1 : Nat) (t1_1 : Int) (h : Heap) (K : Value → Heap → Prop) (hL : Vars h [(b_1, [(VI t1_1)])]) (H : u150 Try.prog q0_1 b_1 t1_1 h K) : callM Try.prog 150 #[(VI q0_1), (VP b_1 0)] h K := by
  refine c150 (VI q0_1) (VP b_1 0) h K ?_
  unfold u150 at H
  unfold t150
  refine rop_loc one3 hL 0 rfl 0 (v := (VI t1_1)) rfl ?_
  refine pop_sub .i64 t1_1 1 ?_
  refine H.mono fun rv_1 h_1 H => ?_
  obtain ⟨t7_1, rfl, hL_1, H⟩ := H
  refine pop_not t7_1 ?_
  exact H

/-! (*spec.l1Cur).next -/
def u158 (P : Program) (b_1 : Nat) (c0_1 : Sl) (c0_2 : Int) (c0_3 : Int) (h : Heap) (K : Value → Heap → Prop) : Prop :=
  ∃ J_1 : Int → Heap → Prop, (((decide (c0_2 < (c0_1.n : Int))) = true →
  InB c0_1 c0_2 ∧
  ∃ t23_1 : Int, hcell h (Sl.at c0_1 c0_2 1) = some (Value.int .u8 t23_1) ∧
  rop P (convert 5 3 (Value.int .u8 t23_1)) h fun rv_1 => ∃ t24_1 : Int, rv_1 = (VI t24_1) ∧ 
  J_1 t24_1 h) ∧
  ((decide (c0_2 < (c0_1.n : Int))) = false →
  J_1 0 h)) ∧
  ∀ (x_1 : Int) (h_1 : Heap), J_1 x_1 h_1 → Vars h_1 [(b_1, [(Sl.v c0_1), (VI c0_2), (Value.int .u64 c0_3)])] →
  ∀ (h_2 : Heap), Fr (In [b_1]) h_1 h_2 → Vars h_2 [(b_1, [(Sl.v c0_1), (VI (w64 (c0_2 + 1))), (Value.int .u64 c0_3)])] →
  rop P (convert 3 107 (VI x_1)) h_2 fun rv_2 => ∃ t39_1 : Int, rv_2 = (Value.int .u64 t39_1) ∧ 
  ((decide ((w64 (c0_2 + 1)) ≤ (c0_1.n : Int))) = true →
  ∀ (h_3 : Heap), Fr (In [b_1]) h_2 h_3 → Vars h_3 [(b_1, [(Sl.v c0_1), (VI (w64 (c0_2 + 1))), (Value.int .u64 (IntKind.wrap .u64 ((IntKind.wrap .u64 ((IntKind.wrap .u64 (c0_3 * 6364136223846793005)) + t39_1)) + 1442695040888963407)))])] →
  K (VI x_1) h_3) ∧
  ((decide ((w64 (c0_2 + 1)) ≤ (c0_1.n : Int))) = false →
  pop P (binA .shr 107 (Value.int .u64 (IntKind.wrap .u64 ((IntKind.wrap .u64 ((IntKind.wrap .u64 (c0_3 * 6364136223846793005)) + t39_1)) + 1442695040888963407))) (Value.int IntKind.u64 40)) fun rv_3 => ∃ t59_1 : Int, rv_3 = (Value.int .u64 t59_1) ∧ 
  pop P (binA .and 107 (Value.int .u64 t59_1) (Value.int IntKind.u64 255)) fun rv_4 => ∃ t60_1 : Int, rv_4 = (Value.int .u64 t60_1) ∧ 
  ∀ (h_3 : Heap), Fr (In [b_1]) h_2 h_3 → Vars h_3 [(b_1, [(Sl.v c0_1), (VI (w64 (c0_2 + 1))), (Value.int .u64 (IntKind.wrap .u64 ((IntKind.wrap .u64 ((IntKind.wrap .u64 (c0_3 * 6364136223846793005)) + t39_1)) + 1442695040888963407)))])] →
  rop P (convert 107 3 (Value.int .u64 t60_1)) h_3 fun rv_5 => ∃ t61_1 : Int, rv_5 = (VI t61_1) ∧ 
  K (VI t61_1) h_3)
theorem v158 (b_1 : Nat) (c0_1 : Sl) (c0_2 : Int) (c0_3 : Int) (h : Heap) (K : Value → Heap → Prop) (hL : Vars h [(b_1, [(Sl.v c0_1), (VI c0_2), (Value.int .u64 c0_3)])]) (H : u158 Try.prog b_1 c0_1 c0_2 c0_3 h K) : callM Try.prog 158 #[(VP b_1 0)] h K := by
  refine c158 (VP b_1 0) h K ?_
  unfold u158 at H
  unfold t158
  obtain ⟨J_1, H, HB_1⟩ := H
  refine ⟨fun (vs : List Value) (h' : Heap) => ∃ x_1 : Int, vs = [(VI x_1)] ∧ J_1 x_1 h' ∧ Vars h' [(b_1, [(Sl.v c0_1), (VI c0_2), (Value.int .u64 c0_3)])], ?_, ?_⟩
  · refine pop_nil _ ?_
    refine pop_field 1 fld109_1 b_1 0 ?_
    refine rop_loc one3 hL 0 rfl 1 (v := (VI c0_2)) rfl ?_
    refine pop_nil _ ?_
    refine pop_field 0 fld109_0 b_1 0 ?_
    refine rop_loc one55 hL 0 rfl 0 (v := (Sl.v c0_1)) rfl ?_
    refine pop_len c0_1 _ _ sli55 ?_
    refine pop_lss .i64 c0_2 (c0_1.n : Int) ?_
    refine condM_b (fun hb_1 => ?_) (fun hb_1 => ?_)
    · have H := H.1 hb_1
      refine pop_nil _ ?_
      refine pop_field 0 fld109_0 b_1 0 ?_
      refine rop_loc one55 hL 0 rfl 0 (v := (Sl.v c0_1)) rfl ?_
      refine pop_nil _ ?_
      refine pop_field 1 fld109_1 b_1 0 ?_
      refine rop_loc one3 hL 0 rfl 1 (v := (VI c0_2)) rfl ?_
      obtain ⟨hi_1, H⟩ := H
      refine pop_index sli55 siz5 .i64 c0_1 c0_2 hi_1 ?_
      obtain ⟨t23_1, hc_1, H⟩ := H
      refine rop_one one5 (Value.int .u8 t23_1) hc_1 ?_
      refine H.mono fun rv_1 H => ?_
      obtain ⟨t24_1, rfl, H⟩ := H
      exact ⟨t24_1, rfl, H, hL⟩
    · have H := H.2 hb_1
      exact ⟨0, rfl, H, hL⟩
  intro junk_1 tv_1 h_1
  rintro ⟨x_1, hv, hJ_1, hL_1⟩
  cases hv
  have H := HB_1 x_1 h_1 hJ_1 hL_1
  refine pop_nil _ ?_
  refine pop_field 1 fld109_1 b_1 0 ?_
  refine rop_loc one3 hL_1 0 rfl 1 (v := (VI c0_2)) rfl ?_
  refine pop_add .i64 c0_2 1 ?_
  refine pop_nil _ ?_
  refine pop_field 1 fld109_1 b_1 0 ?_
  refine uop_loc siz3 hL_1 0 rfl 1 [(VI (w64 (c0_2 + 1)))] rfl rfl rfl (Nat.le_of_ble_eq_true rfl) (L' := [(b_1, [(Sl.v c0_1), (VI (w64 (c0_2 + 1))), (Value.int .u64 c0_3)])]) rfl (fun h_2 hf_1 hL_2 => ?_)
  refine pop_nil _ ?_
  refine pop_field 2 fld109_2 b_1 0 ?_
  refine rop_loc one107 hL_2 0 rfl 2 (v := (Value.int .u64 c0_3)) rfl ?_
  refine pop_mul .u64 c0_3 6364136223846793005 ?_
  have H := H  h_2  (Fr.old (Fr.r (In []) _) hf_1) hL_2
  refine H.mono fun rv_2 H => ?_
  obtain ⟨t39_1, rfl, H⟩ := H
  refine pop_add .u64 (IntKind.wrap .u64 (c0_3 * 6364136223846793005)) t39_1 ?_
  refine pop_add .u64 (IntKind.wrap .u64 ((IntKind.wrap .u64 (c0_3 * 6364136223846793005)) + t39_1)) 1442695040888963407 ?_
  refine pop_nil _ ?_
  refine pop_field 2 fld109_2 b_1 0 ?_
  refine uop_loc siz107 hL_2 0 rfl 2 [(Value.int .u64 (IntKind.wrap .u64 ((IntKind.wrap .u64 ((IntKind.wrap .u64 (c0_3 * 6364136223846793005)) + t39_1)) + 1442695040888963407)))] rfl rfl rfl (Nat.le_of_ble_eq_true rfl) (L' := [(b_1, [(Sl.v c0_1), (VI (w64 (c0_2 + 1))), (Value.int .u64 (IntKind.wrap .u64 ((IntKind.wrap .u64 ((IntKind.wrap .u64 (c0_3 * 6364136223846793005)) + t39_1)) + 1442695040888963407)))])]) rfl (fun h_3 hf_2 hL_3 => ?_)
  refine pop_nil _ ?_
  refine pop_field 1 fld109_1 b_1 0 ?_
  refine rop_loc one3 hL_3 0 rfl 1 (v := (VI (w64 (c0_2 + 1)))) rfl ?_
  refine pop_nil _ ?_
  refine pop_field 0 fld109_0 b_1 0 ?_
  refine rop_loc one55 hL_3 0 rfl 0 (v := (Sl.v c0_1)) rfl ?_
  refine pop_len c0_1 _ _ sli55 ?_
  refine pop_leq .i64 (w64 (c0_2 + 1)) (c0_1.n : Int) ?_
  refine condM_b (fun hb_2 => ?_) (fun hb_2 => ?_)
  · have H := H.1 hb_2
    have H := H  h_3  (Fr.old (Fr.r (In []) _) hf_2) hL_3
    exact H
  · have H := H.2 hb_2
    refine pop_nil _ ?_
    refine pop_field 2 fld109_2 b_1 0 ?_
    refine rop_loc one107 hL_3 0 rfl 2 (v := (Value.int .u64 (IntKind.wrap .u64 ((IntKind.wrap .u64 ((IntKind.wrap .u64 (c0_3 * 6364136223846793005)) + t39_1)) + 1442695040888963407)))) rfl ?_
    refine H.mono fun rv_3 H => ?_
    obtain ⟨t59_1, rfl, H⟩ := H
    refine H.mono fun rv_4 H => ?_
    obtain ⟨t60_1, rfl, H⟩ := H
    have H := H  h_3  (Fr.old (Fr.r (In []) _) hf_2) hL_3
    refine H.mono fun rv_5 H => ?_
    obtain ⟨t61_1, rfl, H⟩ := H
    exact H

/-! slices.IndexFunc[[]int,int] -/
def u159 (P : Program) (s0_1 : Sl) (f1_1 : Value) (h : Heap) (K : Value → Heap → Prop) : Prop :=
  ∃ J_1 : Nat → Int → Heap → Prop, (∃ n0 : Nat, J_1 n0 0 h) ∧
  ∀ (n_1 : Nat) (t8_1 : Int) (h_1 : Heap), J_1 n_1 t8_1 h_1 → Vars h_1 [] →
  ((decide (t8_1 < (s0_1.n : Int))) = true →
  InB s0_1 t8_1 ∧
  ∃ t15_1 : Int, hcell h_1 (Sl.at s0_1 t8_1 1) = some (VI t15_1) ∧
  callV P f1_1 [(VI t15_1)] h_1 fun rv_1 h_2 => ∃ t16_1 : Bool, rv_1 = (VB t16_1) ∧ Vars h_2 [] ∧
  (t16_1 = true →
  K (VI t8_1) h_2) ∧
  (t16_1 = false →
  ∃ m : Nat, m < n_1 ∧ J_1 m (w64 (t8_1 + 1)) h_2)) ∧
  ((decide (t8_1 < (s0_1.n : Int))) = false →
  K (VI (-1)) h_1)
theorem v159 (s0_1 : Sl) (f1_1 : Value) (h : Heap) (K : Value → Heap → Prop) (H : u159 Try.prog s0_1 f1_1 h K) : callM Try.prog 159 #[(Sl.v s0_1), f1_1] h K := by
  refine c159 (Sl.v s0_1) f1_1 h K ?_
  unfold u159 at H
  unfold t159
  have hL : Vars h [] := .nil
  refine pop_len s0_1 _ _ sli25 ?_
  obtain ⟨J_1, ⟨n_2, h0_1⟩, HB_1⟩ := H
  refine loop_intro (J := fun (n : Nat) (vs : List Value) (h' : Heap) => ∃ t8_1 : Int, vs = [(VI t8_1)] ∧ J_1 n t8_1 h' ∧ Vars h' []) n_2 ⟨0, rfl, h0_1, hL⟩ ?_
  intro I_1 mu_1 hI_1 junk_1 tv_1 h_1 hi_1
  obtain ⟨n_1, ⟨t8_1, hv, hJ_1, hL_1⟩, hn_1⟩ := hI_1 _ _ hi_1
  cases hv
  have H := HB_1 n_1 t8_1 h_1 hJ_1 hL_1
  refine pop_lss .i64 t8_1 (s0_1.n : Int) ?_
  refine condM_b (fun hb_1 => ?_) (fun hb_1 => ?_)
  · have H := H.1 hb_1
    obtain ⟨hi_2, H⟩ := H
    refine pop_index sli25 siz3 .i64 s0_1 t8_1 hi_2 ?_
    obtain ⟨t15_1, hc_1, H⟩ := H
    refine rop_one one3 (VI t15_1) hc_1 ?_
    refine H.mono fun rv_1 h_2 H => ?_
    obtain ⟨t16_1, rfl, hL_2, H⟩ := H
    refine condM_b (fun hb_2 => ?_) (fun hb_2 => ?_)
    · have H := H.1 hb_2
      exact H
    · have H := H.2 hb_2
      refine pop_add .i64 t8_1 1 ?_
      obtain ⟨m_1, hm_1, H⟩ := H
      exact hn_1 _ _ ⟨m_1, hm_1, (w64 (t8_1 + 1)), rfl, H, hL_2⟩
  · have H := H.2 hb_1
    exact H

/-! impl.has$1 -/
def u161 (P : Program) (p0_1 : Int) (b_1 : Nat) (t1_1 : Sl) (h : Heap) (K : Value → Heap → Prop) : Prop :=
  callM P 113 #[(VI p0_1), (VI 0), (VI (w64 ((t1_1.n : Int) - 1)))] h fun rv_1 h_1 => ∃ t9_1 : Bool, rv_1 = (VB t9_1) ∧ Vars h_1 [(b_1, [(Sl.v t1_1)])] ∧
  K (VB (!t9_1)) h_1
theorem v161 (p0_1 : Int) (b_1 : Nat) (t1_1 : Sl) (h : Heap) (K : Value → Heap → Prop) (hL : Vars h [(b_1, [(Sl.v t1_1)])]) (H : u161 Try.prog p0_1 b_1 t1_1 h K) : callM Try.prog 161 #[(VI p0_1), (VP b_1 0)] h K := by
  refine c161 (VI p0_1) (VP b_1 0) h K ?_
  unfold u161 at H
  unfold t161
  refine pop_field 0 fld32_0 b_1 0 ?_
  refine rop_loc one22 hL 0 rfl 0 (v := (Sl.v t1_1)) rfl ?_
  refine pop_len t1_1 _ _ sli22 ?_
  refine pop_sub .i64 (t1_1.n : Int) 1 ?_
  refine H.mono fun rv_1 h_1 H => ?_
  obtain ⟨t9_1, rfl, hL_1, H⟩ := H
  refine pop_not t9_1 ?_
  exact H

/-! (*spec.l1Cur).sureGraph -/
def u163 (P : Program) (b_1 : Nat) (c0_1 : Sl) (c0_2 : Int) (c0_3 : Int) (most1_1 : Int) (h : Heap) (K : Value → Heap → Prop) : Prop :=
  ∀ (b_2 : Nat) (h_1 : Heap), h.size ≤ b_2 → Fr (In []) h h_1 → Vars h_1 [(b_2, [(Sl.v nilSl)]), (b_1, [(Sl.v c0_1), (VI c0_2), (Value.int .u64 c0_3)])] →
  callM P 100 #[(VP b_1 0), (VI most1_1)] h_1 fun rv_1 h_2 => ∃ x_1 : Sl, ∃ x_2 : Int, ∃ x_3 : Int, ∃ t13_1 : Int, rv_1 = (VI t13_1) ∧ Vars h_2 [(b_2, [(Sl.v nilSl)]), (b_1, [(Sl.v x_1), (VI x_2), (Value.int .u64 x_3)])] ∧
  callM P 99 #[(VP b_1 0), (VI 4)] h_2 fun rv_2 h_3 => ∃ x_4 : Sl, ∃ x_5 : Int, ∃ x_6 : Int, ∃ t16_1 : Bool, rv_2 = (VB t16_1) ∧ Vars h_3 [(b_2, [(Sl.v nilSl)]), (b_1, [(Sl.v x_4), (VI x_5), (Value.int .u64 x_6)])] ∧
  (t16_1 = true →
  callM P 99 #[(VP b_1 0), (VI 2)] h_3 fun rv_3 h_4 => ∃ x_7 : Sl, ∃ x_8 : Int, ∃ x_9 : Int, ∃ t19_1 : Bool, rv_3 = (VB t19_1) ∧ Vars h_4 [(b_2, [(Sl.v nilSl)]), (b_1, [(Sl.v x_7), (VI x_8), (Value.int .u64 x_9)])] ∧
  callM P 124 #[(VI (w64 (1 + t13_1))), (VB t19_1)] h_4 fun rv_4 h_5 => ∃ t20_1 : Sl, rv_4 = (Value.agg #[(Sl.v t20_1)]) ∧ Vars h_5 [(b_2, [(Sl.v nilSl)]), (b_1, [(Sl.v x_7), (VI x_8), (Value.int .u64 x_9)])] ∧
  ∀ (h_6 : Heap), Fr (In [b_2]) h_5 h_6 → Vars h_6 [(b_2, [(Sl.v t20_1)]), (b_1, [(Sl.v x_7), (VI x_8), (Value.int .u64 x_9)])] →
  K (Value.agg #[(Sl.v t20_1)]) h_6) ∧
  (t16_1 = false →
  ∀ (b_3 : Nat) (h_8 : Heap), h_3.size ≤ b_3 → Fr (In []) h_3 h_8 → Vars h_8 [(b_3, [(Sl.v nilSl)]), (b_2, [(Sl.v nilSl)]), (b_1, [(Sl.v x_4), (VI x_5), (Value.int .u64 x_6)])] →
  ∃ J_1 : Nat → Int → Sl → Sl → Int → Int → Heap → Prop, (∃ n0 : Nat, J_1 n0 0 nilSl x_4 x_5 x_6 h_8) ∧
  ∀ (n_1 : Nat) (p7_1 : Int) (x_10 : Sl) (x_11 : Sl) (x_12 : Int) (x_13 : Int) (h_9 : Heap), J_1 n_1 p7_1 x_10 x_11 x_12 x_13 h_9 → Vars h_9 [(b_3, [(Sl.v x_10)]), (b_2, [(Sl.v nilSl)]), (b_1, [(Sl.v x_11), (VI x_12), (Value.int .u64 x_13)])] →
  ((decide (p7_1 < (w64 (1 + t13_1)))) = true →
  callM P 100 #[(VP b_1 0), (VI 3)] h_9 fun rv_5 h_10 => ∃ x_14 : Sl, ∃ x_15 : Int, ∃ x_16 : Int, ∃ t28_1 : Int, rv_5 = (VI t28_1) ∧ Vars h_10 [(b_3, [(Sl.v x_10)]), (b_2, [(Sl.v nilSl)]), (b_1, [(Sl.v x_14), (VI x_15), (Value.int .u64 x_16)])] ∧
  ∃ J_2 : Nat → Sl → Int → Sl → Int → Int → Heap → Prop, (∃ n0 : Nat, J_2 n0 nilSl (w64 (1 + t28_1)) x_14 x_15 x_16 h_10) ∧
  ∀ (n_2 : Nat) (list8_1 : Sl) (k9_1 : Int) (x_17 : Sl) (x_18 : Int) (x_19 : Int) (h_11 : Heap), J_2 n_2 list8_1 k9_1 x_17 x_18 x_19 h_11 → Vars h_11 [(b_3, [(Sl.v x_10)]), (b_2, [(Sl.v nilSl)]), (b_1, [(Sl.v x_17), (VI x_18), (Value.int .u64 x_19)])] →
  ((decide (0 < k9_1)) = true →
  callM P 100 #[(VP b_1 0), (VI (w64 (1 + t13_1)))] h_11 fun rv_6 h_12 => ∃ x_20 : Sl, ∃ x_21 : Int, ∃ x_22 : Int, ∃ t37_1 : Int, rv_6 = (VI t37_1) ∧ Vars h_12 [(b_3, [(Sl.v x_10)]), (b_2, [(Sl.v nilSl)]), (b_1, [(Sl.v x_20), (VI x_21), (Value.int .u64 x_22)])] ∧
  eop P (Instr.buildSlice 25 1 #[(0, (VI t37_1))]) h_12 fun rv_7 h_13 => ∃ t38_1 : Sl, rv_7 = (Sl.v t38_1) ∧ Vars h_13 [(b_3, [(Sl.v x_10)]), (b_2, [(Sl.v nilSl)]), (b_1, [(Sl.v x_20), (VI x_21), (Value.int .u64 x_22)])] ∧
  eop P (appS 25 25 25 (Sl.v list8_1) (Sl.v t38_1)) h_13 fun rv_8 h_14 => ∃ t39_1 : Sl, rv_8 = (Sl.v t39_1) ∧ Vars h_14 [(b_3, [(Sl.v x_10)]), (b_2, [(Sl.v nilSl)]), (b_1, [(Sl.v x_20), (VI x_21), (Value.int .u64 x_22)])] ∧
  ∃ m : Nat, m < n_2 ∧ J_2 m t39_1 (w64 (k9_1 - 1)) x_20 x_21 x_22 h_14) ∧
  ((decide (0 < k9_1)) = false →
  ∃ J_3 : Sl → Sl → Int → Int → Heap → Prop, (callM P 99 #[(VP b_1 0), (VI 8)] h_11 fun rv_9 h_15 => ∃ x_27 : Sl, ∃ x_28 : Int, ∃ x_29 : Int, ∃ t41_1 : Bool, rv_9 = (VB t41_1) ∧ Vars h_15 [(b_3, [(Sl.v x_10)]), (b_2, [(Sl.v nilSl)]), (b_1, [(Sl.v x_27), (VI x_28), (Value.int .u64 x_29)])] ∧
  (t41_1 = true →
  J_3 nilSl x_27 x_28 x_29 h_15) ∧
  (t41_1 = false →
  J_3 list8_1 x_27 x_28 x_29 h_15)) ∧
  ∀ (x_23 : Sl) (x_24 : Sl) (x_25 : Int) (x_26 : Int) (h_16 : Heap), J_3 x_23 x_24 x_25 x_26 h_16 → Vars h_16 [(b_3, [(Sl.v x_10)]), (b_2, [(Sl.v nilSl)]), (b_1, [(Sl.v x_24), (VI x_25), (Value.int .u64 x_26)])] →
  eop P (Instr.buildSlice 22 1 #[(0, (Sl.v x_23))]) h_16 fun rv_10 h_17 => ∃ t45_1 : Sl, rv_10 = (Sl.v t45_1) ∧ Vars h_17 [(b_3, [(Sl.v x_10)]), (b_2, [(Sl.v nilSl)]), (b_1, [(Sl.v x_24), (VI x_25), (Value.int .u64 x_26)])] ∧
  eop P (appS 22 22 22 (Sl.v x_10) (Sl.v t45_1)) h_17 fun rv_11 h_18 => ∃ t46_1 : Sl, rv_11 = (Sl.v t46_1) ∧ Vars h_18 [(b_3, [(Sl.v x_10)]), (b_2, [(Sl.v nilSl)]), (b_1, [(Sl.v x_24), (VI x_25), (Value.int .u64 x_26)])] ∧
  ∀ (h_19 : Heap), Fr (In [b_3]) h_18 h_19 → Vars h_19 [(b_3, [(Sl.v t46_1)]), (b_2, [(Sl.v nilSl)]), (b_1, [(Sl.v x_24), (VI x_25), (Value.int .u64 x_26)])] →
  ∃ m : Nat, m < n_1 ∧ J_1 m (w64 (p7_1 + 1)) t46_1 x_24 x_25 x_26 h_19)) ∧
  ((decide (p7_1 < (w64 (1 + t13_1)))) = false →
  callM P 99 #[(VP b_1 0), (VI 2)] h_9 fun rv_12 h_20 => ∃ x_30 : Sl, ∃ x_31 : Int, ∃ x_32 : Int, ∃ t49_1 : Bool, rv_12 = (VB t49_1) ∧ Vars h_20 [(b_3, [(Sl.v x_10)]), (b_2, [(Sl.v nilSl)]), (b_1, [(Sl.v x_30), (VI x_31), (Value.int .u64 x_32)])] ∧
  (t49_1 = true →
  ∃ J_4 : Nat → Int → Heap → Prop, (∃ n0 : Nat, J_4 n0 0 h_20) ∧
  ∀ (n_4 : Nat) (t53_1 : Int) (h_21 : Heap), J_4 n_4 t53_1 h_21 → Vars h_21 [(b_3, [(Sl.v x_10)]), (b_2, [(Sl.v nilSl)]), (b_1, [(Sl.v x_30), (VI x_31), (Value.int .u64 x_32)])] →
  ((decide (t53_1 < (x_10.n : Int))) = true →
  InB x_10 t53_1 ∧
  ∃ t63_1 : Sl, hcell h_21 (Sl.at x_10 t53_1 1) = some (Sl.v t63_1) ∧
  (w64 (1 + t13_1)) ≠ 0 ∧
  eop P (Instr.buildSlice 25 1 #[(0, (VI (Int.tmod (w64 (t53_1 + 1)) (w64 (1 + t13_1)))))]) h_21 fun rv_13 h_22 => ∃ t68_1 : Sl, rv_13 = (Sl.v t68_1) ∧ Vars h_22 [(b_3, [(Sl.v x_10)]), (b_2, [(Sl.v nilSl)]), (b_1, [(Sl.v x_30), (VI x_31), (Value.int .u64 x_32)])] ∧
  hcell h_22 (Sl.at x_10 t53_1 1) = some (Sl.v t63_1) ∧
  eop P (appS 25 25 25 (Sl.v t63_1) (Sl.v t68_1)) h_22 fun rv_14 h_23 => ∃ t69_1 : Sl, rv_14 = (Sl.v t69_1) ∧ Vars h_23 [(b_3, [(Sl.v x_10)]), (b_2, [(Sl.v nilSl)]), (b_1, [(Sl.v x_30), (VI x_31), (Value.int .u64 x_32)])] ∧
  InB x_10 t53_1 ∧
  Writable h_23 (Sl.at x_10 t53_1 1) ∧ Vars (hset h_23 (Sl.at x_10 t53_1 1) (Sl.v t69_1)) [(b_3, [(Sl.v x_10)]), (b_2, [(Sl.v nilSl)]), (b_1, [(Sl.v x_30), (VI x_31), (Value.int .u64 x_32)])] ∧
  ∀ h_24 : Heap, h_24 = hset h_23 (Sl.at x_10 t53_1 1) (Sl.v t69_1) → Vars h_24 [(b_3, [(Sl.v x_10)]), (b_2, [(Sl.v nilSl)]), (b_1, [(Sl.v x_30), (VI x_31), (Value.int .u64 x_32)])] →
  ∃ m : Nat, m < n_4 ∧ J_4 m (w64 (t53_1 + 1)) h_24) ∧
  ((decide (t53_1 < (x_10.n : Int))) = false →
  ∀ (h_25 : Heap), Fr (In [b_2]) h_21 h_25 → Vars h_25 [(b_3, [(Sl.v x_10)]), (b_2, [(Sl.v x_10)]), (b_1, [(Sl.v x_30), (VI x_31), (Value.int .u64 x_32)])] →
  K (Value.agg #[(Sl.v x_10)]) h_25)) ∧
  (t49_1 = false →
  ∀ (h_26 : Heap), Fr (In [b_2]) h_20 h_26 → Vars h_26 [(b_3, [(Sl.v x_10)]), (b_2, [(Sl.v x_10)]), (b_1, [(Sl.v x_30), (VI x_31), (Value.int .u64 x_32)])] →
  K (Value.agg #[(Sl.v x_10)]) h_26)))
theorem v163 (b_1 : Nat) (c0_1 : Sl) (c0_2 : Int) (c0_3 : Int) (most1_1 : Int) (h : Heap) (K : Value → Heap → Prop) (hL : Vars h [(b_1, [(Sl.v c0_1), (VI c0_2), (Value.int .u64 c0_3)])]) (H : u163 Try.prog b_1 c0_1 c0_2 c0_3 most1_1 h K) : callM Try.prog 163 #[(VP b_1 0), (VI most1_1)] h K := by
  refine c163 (VP b_1 0) (VI most1_1) h K ?_
  unfold u163 at H
  unfold t163
  refine eop_alloc 32 zer32 rfl hL (fun b_2 h_1 hb_1 hf_1 hL_1 => ?_)
  have H := H b_2 h_1 (Nat.le_trans (Fr.size (Fr.r (In []) _)) hb_1) (Fr.no' (Fr.r (In []) _) hf_1) hL_1
  refine H.mono fun rv_1 h_2 H => ?_
  obtain ⟨x_1, x_2, x_3, t13_1, rfl, hL_2, H⟩ := H
  refine pop_add .i64 1 t13_1 ?_
  refine H.mono fun rv_2 h_3 H => ?_
  obtain ⟨x_4, x_5, x_6, t16_1, rfl, hL_3, H⟩ := H
  refine condM_b (fun hb_2 => ?_) (fun hb_2 => ?_)
  · have H := H.1 hb_2
    refine H.mono fun rv_3 h_4 H => ?_
    obtain ⟨x_7, x_8, x_9, t19_1, rfl, hL_4, H⟩ := H
    refine H.mono fun rv_4 h_5 H => ?_
    obtain ⟨t20_1, rfl, hL_5, H⟩ := H
    refine uop_loc siz32 hL_5 0 rfl 0 [(Sl.v t20_1)] rfl rfl rfl (Nat.le_of_ble_eq_true rfl) (L' := [(b_2, [(Sl.v t20_1)]), (b_1, [(Sl.v x_7), (VI x_8), (Value.int .u64 x_9)])]) rfl (fun h_6 hf_2 hL_6 => ?_)
    refine rop_locA agg32 hL_6 0 rfl 0 (vs := [(Sl.v t20_1)]) rfl rfl ?_
    have H := H  h_6  (Fr.old (Fr.r (In []) _) hf_2) hL_6
    exact H
  · have H := H.2 hb_2
    refine pop.mk' (v := (Value.agg #[(Sl.v nilSl)])) (fun w => by kernel_rfl) ?_
    refine eop_alloc 32 zer32 rfl hL_3 (fun b_3 h_7 hb_3 hf_3 hL_7 => ?_)
    refine uop_loc siz32 hL_7 0 rfl 0 [(Sl.v nilSl)] rfl rfl rfl (Nat.le_of_ble_eq_true rfl) (L' := [(b_3, [(Sl.v nilSl)]), (b_2, [(Sl.v nilSl)]), (b_1, [(Sl.v x_4), (VI x_5), (Value.int .u64 x_6)])]) rfl (fun h_8 hf_4 hL_8 => ?_)
    have H := H b_3 h_8 (Nat.le_trans (Fr.size (Fr.r (In []) _)) hb_3) (Fr.new (Fr.no' (Fr.r (In []) _) hf_3) (Nat.le_trans (Fr.size (Fr.r (In []) _)) hb_3) hf_4) hL_8
    obtain ⟨J_1, ⟨n_6, h0_3⟩, HB_4⟩ := H
    refine loop_intro (J := fun (n : Nat) (vs : List Value) (h' : Heap) => ∃ p7_1 : Int, ∃ x_10 : Sl, ∃ x_11 : Sl, ∃ x_12 : Int, ∃ x_13 : Int, vs = [(VI p7_1)] ∧ J_1 n p7_1 x_10 x_11 x_12 x_13 h' ∧ Vars h' [(b_3, [(Sl.v x_10)]), (b_2, [(Sl.v nilSl)]), (b_1, [(Sl.v x_11), (VI x_12), (Value.int .u64 x_13)])]) n_6 ⟨0, nilSl, x_4, x_5, x_6, rfl, h0_3, hL_8⟩ ?_
    intro I_3 mu_3 hI_3 junk_1 tv_5 h_9 hi_1
    obtain ⟨n_1, ⟨p7_1, x_10, x_11, x_12, x_13, hv, hJ_1, hL_9⟩, hn_1⟩ := hI_3 _ _ hi_1
    cases hv
    have H := HB_4 n_1 p7_1 x_10 x_11 x_12 x_13 h_9 hJ_1 hL_9
    refine pop_lss .i64 p7_1 (w64 (1 + t13_1)) ?_
    refine condM_b (fun hb_4 => ?_) (fun hb_4 => ?_)
    · have H := H.1 hb_4
      refine H.mono fun rv_5 h_10 H => ?_
      obtain ⟨x_14, x_15, x_16, t28_1, rfl, hL_10, H⟩ := H
      refine pop_add .i64 1 t28_1 ?_
      obtain ⟨J_2, ⟨n_3, h0_1⟩, HB_2⟩ := H
      refine loop_intro (J := fun (n : Nat) (vs : List Value) (h' : Heap) => ∃ list8_1 : Sl, ∃ k9_1 : Int, ∃ x_17 : Sl, ∃ x_18 : Int, ∃ x_19 : Int, vs = [(Sl.v list8_1), (VI k9_1)] ∧ J_2 n list8_1 k9_1 x_17 x_18 x_19 h' ∧ Vars h' [(b_3, [(Sl.v x_10)]), (b_2, [(Sl.v nilSl)]), (b_1, [(Sl.v x_17), (VI x_18), (Value.int .u64 x_19)])]) n_3 ⟨nilSl, (w64 (1 + t28_1)), x_14, x_15, x_16, rfl, h0_1, hL_10⟩ ?_
      intro I_1 mu_1 hI_1 junk_2 tv_2 tv_3 h_11 hi_2
      obtain ⟨n_2, ⟨list8_1, k9_1, x_17, x_18, x_19, hv, hJ_2, hL_11⟩, hn_2⟩ := hI_1 _ _ hi_2
      cases hv
      have H := HB_2 n_2 list8_1 k9_1 x_17 x_18 x_19 h_11 hJ_2 hL_11
      refine pop_gtr .i64 k9_1 0 ?_
      refine condM_b (fun hb_5 => ?_) (fun hb_5 => ?_)
      · have H := H.1 hb_5
        refine H.mono fun rv_6 h_12 H => ?_
        obtain ⟨x_20, x_21, x_22, t37_1, rfl, hL_12, H⟩ := H
        refine H.mono fun rv_7 h_13 H => ?_
        obtain ⟨t38_1, rfl, hL_13, H⟩ := H
        refine H.mono fun rv_8 h_14 H => ?_
        obtain ⟨t39_1, rfl, hL_14, H⟩ := H
        refine pop_sub .i64 k9_1 1 ?_
        obtain ⟨m_1, hm_1, H⟩ := H
        exact hn_2 _ _ ⟨m_1, hm_1, t39_1, (w64 (k9_1 - 1)), x_20, x_21, x_22, rfl, H, hL_14⟩
      · have H := H.2 hb_5
        obtain ⟨J_3, H, HB_1⟩ := H
        refine ⟨fun (vs : List Value) (h' : Heap) => ∃ x_23 : Sl, ∃ x_24 : Sl, ∃ x_25 : Int, ∃ x_26 : Int, vs = [(Sl.v x_23)] ∧ J_3 x_23 x_24 x_25 x_26 h' ∧ Vars h' [(b_3, [(Sl.v x_10)]), (b_2, [(Sl.v nilSl)]), (b_1, [(Sl.v x_24), (VI x_25), (Value.int .u64 x_26)])], ?_, ?_⟩
        · refine H.mono fun rv_9 h_15 H => ?_
          obtain ⟨x_27, x_28, x_29, t41_1, rfl, hL_15, H⟩ := H
          refine condM_b (fun hb_6 => ?_) (fun hb_6 => ?_)
          · have H := H.1 hb_6
            exact ⟨nilSl, x_27, x_28, x_29, rfl, H, hL_15⟩
          · have H := H.2 hb_6
            exact ⟨list8_1, x_27, x_28, x_29, rfl, H, hL_15⟩
        intro junk_3 tv_1 h_16
        rintro ⟨x_23, x_24, x_25, x_26, hv, hJ_3, hL_16⟩
        cases hv
        have H := HB_1 x_23 x_24 x_25 x_26 h_16 hJ_3 hL_16
        refine pop_field 0 fld32_0 b_3 0 ?_
        refine rop_loc one22 hL_16 0 rfl 0 (v := (Sl.v x_10)) rfl ?_
        refine H.mono fun rv_10 h_17 H => ?_
        obtain ⟨t45_1, rfl, hL_17, H⟩ := H
        refine H.mono fun rv_11 h_18 H => ?_
        obtain ⟨t46_1, rfl, hL_18, H⟩ := H
        refine pop_field 0 fld32_0 b_3 0 ?_
        refine uop_loc siz22 hL_18 0 rfl 0 [(Sl.v t46_1)] rfl rfl rfl (Nat.le_of_ble_eq_true rfl) (L' := [(b_3, [(Sl.v t46_1)]), (b_2, [(Sl.v nilSl)]), (b_1, [(Sl.v x_24), (VI x_25), (Value.int .u64 x_26)])]) rfl (fun h_19 hf_5 hL_19 => ?_)
        refine pop_add .i64 p7_1 1 ?_
        have H := H  h_19  (Fr.old (Fr.r (In []) _) hf_5) hL_19
        obtain ⟨m_2, hm_2, H⟩ := H
        exact hn_1 _ _ ⟨m_2, hm_2, (w64 (p7_1 + 1)), t46_1, x_24, x_25, x_26, rfl, H, hL_19⟩
    · have H := H.2 hb_4
      refine H.mono fun rv_12 h_20 H => ?_
      obtain ⟨x_30, x_31, x_32, t49_1, rfl, hL_20, H⟩ := H
      refine condM_b (fun hb_7 => ?_) (fun hb_7 => ?_)
      · have H := H.1 hb_7
        refine pop_field 0 fld32_0 b_3 0 ?_
        refine rop_loc one22 hL_20 0 rfl 0 (v := (Sl.v x_10)) rfl ?_
        refine pop_len x_10 _ _ sli22 ?_
        obtain ⟨J_4, ⟨n_5, h0_2⟩, HB_3⟩ := H
        refine loop_intro (J := fun (n : Nat) (vs : List Value) (h' : Heap) => ∃ t53_1 : Int, vs = [(VI t53_1)] ∧ J_4 n t53_1 h' ∧ Vars h' [(b_3, [(Sl.v x_10)]), (b_2, [(Sl.v nilSl)]), (b_1, [(Sl.v x_30), (VI x_31), (Value.int .u64 x_32)])]) n_5 ⟨0, rfl, h0_2, hL_20⟩ ?_
        intro I_2 mu_2 hI_2 junk_4 tv_4 h_21 hi_3
        obtain ⟨n_4, ⟨t53_1, hv, hJ_4, hL_21⟩, hn_3⟩ := hI_2 _ _ hi_3
        cases hv
        have H := HB_3 n_4 t53_1 h_21 hJ_4 hL_21
        refine pop_lss .i64 t53_1 (x_10.n : Int) ?_
        refine condM_b (fun hb_8 => ?_) (fun hb_8 => ?_)
        · have H := H.1 hb_8
          refine pop_field 0 fld32_0 b_3 0 ?_
          refine rop_loc one22 hL_21 0 rfl 0 (v := (Sl.v x_10)) rfl ?_
          refine pop_field 0 fld32_0 b_3 0 ?_
          refine rop_loc one22 hL_21 0 rfl 0 (v := (Sl.v x_10)) rfl ?_
          obtain ⟨hi_4, H⟩ := H
          refine pop_index sli22 siz25 .i64 x_10 t53_1 hi_4 ?_
          obtain ⟨t63_1, hc_2, H⟩ := H
          refine rop_one one25 (Sl.v t63_1) hc_2 ?_
          refine pop_add .i64 t53_1 1 ?_
          obtain ⟨hz_1, H⟩ := H
          refine pop_rem .i64 (w64 (t53_1 + 1)) (w64 (1 + t13_1)) hz_1 ?_
          refine H.mono fun rv_13 h_22 H => ?_
          obtain ⟨t68_1, rfl, hL_22, H⟩ := H
          refine ⟨?_, ?_⟩
          · exact still_one one25 H.1
          obtain ⟨hc_1, H⟩ := H
          refine ⟨?_, ?_⟩
          · exact still_loc one22 hL_22 0 rfl 0 (v := (Sl.v x_10)) rfl
          refine ⟨?_, ?_⟩
          · exact still_loc one22 hL_22 0 rfl 0 (v := (Sl.v x_10)) rfl
          refine H.mono fun rv_14 h_23 H => ?_
          obtain ⟨t69_1, rfl, hL_23, H⟩ := H
          refine ⟨?_, ?_⟩
          · exact still_loc one22 hL_23 0 rfl 0 (v := (Sl.v x_10)) rfl
          refine ⟨?_, ?_⟩
          · exact still_loc one22 hL_23 0 rfl 0 (v := (Sl.v x_10)) rfl
          obtain ⟨hi_5, H⟩ := H
          refine pop_index sli22 siz25 .i64 x_10 t53_1 hi_5 ?_
          obtain ⟨hw_1, hL_24, H⟩ := H
          refine uop_cell (v := (Sl.v t69_1)) siz25 hw_1 rfl (fun h_24 he_1 => ?_)
          rw [← he_1] at hL_24
          have H := H h_24 he_1 hL_24
          refine pop_add .i64 t53_1 1 ?_
          obtain ⟨m_3, hm_3, H⟩ := H
          exact hn_3 _ _ ⟨m_3, hm_3, (w64 (t53_1 + 1)), rfl, H, hL_24⟩
        · have H := H.2 hb_8
          refine rop_locA agg32 hL_21 0 rfl 0 (vs := [(Sl.v x_10)]) rfl rfl ?_
          refine uop_loc siz32 hL_21 1 rfl 0 [(Sl.v x_10)] rfl rfl rfl (Nat.le_of_ble_eq_true rfl) (L' := [(b_3, [(Sl.v x_10)]), (b_2, [(Sl.v x_10)]), (b_1, [(Sl.v x_30), (VI x_31), (Value.int .u64 x_32)])]) rfl (fun h_25 hf_6 hL_25 => ?_)
          refine rop_locA agg32 hL_25 1 rfl 0 (vs := [(Sl.v x_10)]) rfl rfl ?_
          have H := H  h_25  (Fr.old (Fr.r (In []) _) hf_6) hL_25
          exact H
      · have H := H.2 hb_7
        refine rop_locA agg32 hL_20 0 rfl 0 (vs := [(Sl.v x_10)]) rfl rfl ?_
        refine uop_loc siz32 hL_20 1 rfl 0 [(Sl.v x_10)] rfl rfl rfl (Nat.le_of_ble_eq_true rfl) (L' := [(b_3, [(Sl.v x_10)]), (b_2, [(Sl.v x_10)]), (b_1, [(Sl.v x_30), (VI x_31), (Value.int .u64 x_32)])]) rfl (fun h_26 hf_7 hL_26 => ?_)
        refine rop_locA agg32 hL_26 1 rfl 0 (vs := [(Sl.v x_10)]) rfl rfl ?_
        have H := H  h_26  (Fr.old (Fr.r (In []) _) hf_7) hL_26
        exact H

/-! slices.Grow[[]int,int] -/
def u164 (P : Program) (s0_1 : Sl) (n1_1 : Int) (h : Heap) (K : Value → Heap → Prop) : Prop :=
  ∃ J_1 : Heap → Prop, (((decide (n1_1 < 0)) = true →
  pop P (Instr.makeInterface 9 (Value.string { data := #[99, 97, 110, 110, 111, 116, 32, 98, 101, 32, 110, 101, 103, 97, 116, 105, 118, 101] })) fun rv_1 => ∃ t7_1 : Value, rv_1 = t7_1 ∧ 
  False) ∧
  ((decide (n1_1 < 0)) = false →
  J_1  h)) ∧
  ∀ (h_1 : Heap), J_1  h_1 → Vars h_1 [] →
  pop P (Builtin.cap_ #[25] 3 #[(Sl.v s0_1)]) fun rv_2 => ∃ t10_1 : Int, rv_2 = (VI t10_1) ∧ 
  ((decide (0 < (w64 (n1_1 - (w64 (t10_1 - (s0_1.n : Int))))))) = true →
  pop P (Builtin.cap_ #[25] 3 #[(Sl.v s0_1)]) fun rv_3 => ∃ t19_1 : Int, rv_3 = (VI t19_1) ∧ 
  pop P (Instr.sliceAt 25 (Sl.v s0_1) none (some (VI t19_1)) none) fun rv_4 => ∃ t20_1 : Sl, rv_4 = (Sl.v t20_1) ∧ 
  eop P (appS 25 3 25 (Sl.v t20_1) (VI (w64 (n1_1 - (w64 (t10_1 - (s0_1.n : Int))))))) h_1 fun rv_5 h_2 => ∃ t22_1 : Sl, rv_5 = (Sl.v t22_1) ∧ Vars h_2 [] ∧
  pop P (Instr.sliceAt 25 (Sl.v t22_1) none (some (VI (s0_1.n : Int))) none) fun rv_6 => ∃ t25_1 : Sl, rv_6 = (Sl.v t25_1) ∧ 
  K (Sl.v t25_1) h_2) ∧
  ((decide (0 < (w64 (n1_1 - (w64 (t10_1 - (s0_1.n : Int))))))) = false →
  K (Sl.v s0_1) h_1)
theorem v164 (s0_1 : Sl) (n1_1 : Int) (h : Heap) (K : Value → Heap → Prop) (H : u164 Try.prog s0_1 n1_1 h K) : callM Try.prog 164 #[(Sl.v s0_1), (VI n1_1)] h K := by
  refine c164 (Sl.v s0_1) (VI n1_1) h K ?_
  unfold u164 at H
  unfold t164
  have hL : Vars h [] := .nil
  obtain ⟨J_1, H, HB_1⟩ := H
  refine ⟨fun (vs : List Value) (h' : Heap) => vs = [] ∧ J_1  h' ∧ Vars h' [], ?_, ?_⟩
  · refine pop_lss .i64 n1_1 0 ?_
    refine condM_b (fun hb_1 => ?_) (fun hb_1 => ?_)
    · have H := H.1 hb_1
      refine H.mono fun rv_1 H => ?_
      obtain ⟨t7_1, rfl, H⟩ := H
      exact H.elim
    · have H := H.2 hb_1
      exact ⟨rfl, H, hL⟩
  intro junk_1  h_1
  rintro ⟨hv, hJ_1, hL_1⟩
  have H := HB_1  h_1 hJ_1 hL_1
  refine H.mono fun rv_2 H => ?_
  obtain ⟨t10_1, rfl, H⟩ := H
  refine pop_len s0_1 _ _ sli25 ?_
  refine pop_sub .i64 t10_1 (s0_1.n : Int) ?_
  refine pop_sub .i64 n1_1 (w64 (t10_1 - (s0_1.n : Int))) ?_
  refine pop_gtr .i64 (w64 (n1_1 - (w64 (t10_1 - (s0_1.n : Int))))) 0 ?_
  refine condM_b (fun hb_2 => ?_) (fun hb_2 => ?_)
  · have H := H.1 hb_2
    refine H.mono fun rv_3 H => ?_
    obtain ⟨t19_1, rfl, H⟩ := H
    refine H.mono fun rv_4 H => ?_
    obtain ⟨t20_1, rfl, H⟩ := H
    refine H.mono fun rv_5 h_2 H => ?_
    obtain ⟨t22_1, rfl, hL_2, H⟩ := H
    refine pop_len s0_1 _ _ sli25 ?_
    refine H.mono fun rv_6 H => ?_
    obtain ⟨t25_1, rfl, H⟩ := H
    exact H
  · have H := H.2 hb_2
    exact H

/-! spec.grGood -/
def u165 (P : Program) (g0_1 : Sl) (h : Heap) (K : Value → Heap → Prop) : Prop :=
  ∀ (b_1 : Nat) (h_1 : Heap), h.size ≤ b_1 → Fr (In []) h h_1 → Vars h_1 [(b_1, [(Sl.v g0_1)])] →
  callM P 117 #[(VI (g0_1.n : Int)), (VI 1), (VI 8)] h_1 fun rv_1 h_2 => ∃ t10_1 : Bool, rv_1 = (VB t10_1) ∧ Vars h_2 [(b_1, [(Sl.v g0_1)])] ∧
  ((!t10_1) = true →
  K (VB false) h_2) ∧
  ((!t10_1) = false →
  ∃ J_1 : Nat → Int → Heap → Prop, (∃ n0 : Nat, J_1 n0 0 h_2) ∧
  ∀ (n_1 : Nat) (t15_1 : Int) (h_3 : Heap), J_1 n_1 t15_1 h_3 → Vars h_3 [(b_1, [(Sl.v g0_1)])] →
  ((decide (t15_1 < (g0_1.n : Int))) = true →
  InB g0_1 t15_1 ∧
  ∃ t18_1 : Sl, hcell h_3 (Sl.at g0_1 t15_1 1) = some (Sl.v t18_1) ∧
  ((decide (5 < (t18_1.n : Int))) = true →
  K (VB false) h_3) ∧
  ((decide (5 < (t18_1.n : Int))) = false →
  callM P 104 #[(Sl.v t18_1), (VI 0), (VI (w64 ((g0_1.n : Int) - 1)))] h_3 fun rv_2 h_4 => ∃ t26_1 : Bool, rv_2 = (VB t26_1) ∧ Vars h_4 [(b_1, [(Sl.v g0_1)])] ∧
  ((!t26_1) = true →
  K (VB false) h_4) ∧
  ((!t26_1) = false →
  ∃ m : Nat, m < n_1 ∧ J_1 m (w64 (t15_1 + 1)) h_4))) ∧
  ((decide (t15_1 < (g0_1.n : Int))) = false →
  K (VB true) h_3))
theorem v165 (g0_1 : Sl) (h : Heap) (K : Value → Heap → Prop) (H : u165 Try.prog g0_1 h K) : callM Try.prog 165 #[(Value.agg #[(Sl.v g0_1)])] h K := by
  refine c165 (Value.agg #[(Sl.v g0_1)]) h K ?_
  unfold u165 at H
  unfold t165
  have hL : Vars h [] := .nil
  refine eop_box 32 (Value.agg #[(Sl.v g0_1)]) rfl hL (fun b_1 h_1 hb_1 hf_1 hL_1 => ?_)
  refine pop_field 0 fld32_0 b_1 0 ?_
  refine rop_loc one22 hL_1 0 rfl 0 (v := (Sl.v g0_1)) rfl ?_
  refine pop_len g0_1 _ _ sli22 ?_
  have H := H b_1 h_1 (Nat.le_trans (Fr.size (Fr.r (In []) _)) hb_1) (Fr.no' (Fr.r (In []) _) hf_1) hL_1
  refine H.mono fun rv_1 h_2 H => ?_
  obtain ⟨t10_1, rfl, hL_2, H⟩ := H
  refine pop_not t10_1 ?_
  refine condM_b (fun hb_2 => ?_) (fun hb_2 => ?_)
  · have H := H.1 hb_2
    exact H
  · have H := H.2 hb_2
    refine pop_field 0 fld32_0 b_1 0 ?_
    refine rop_loc one22 hL_2 0 rfl 0 (v := (Sl.v g0_1)) rfl ?_
    refine pop_len g0_1 _ _ sli22 ?_
    obtain ⟨J_1, ⟨n_2, h0_1⟩, HB_1⟩ := H
    refine loop_intro (J := fun (n : Nat) (vs : List Value) (h' : Heap) => ∃ t15_1 : Int, vs = [(VI t15_1)] ∧ J_1 n t15_1 h' ∧ Vars h' [(b_1, [(Sl.v g0_1)])]) n_2 ⟨0, rfl, h0_1, hL_2⟩ ?_
    intro I_1 mu_1 hI_1 junk_1 tv_1 h_3 hi_1
    obtain ⟨n_1, ⟨t15_1, hv, hJ_1, hL_3⟩, hn_1⟩ := hI_1 _ _ hi_1
    cases hv
    have H := HB_1 n_1 t15_1 h_3 hJ_1 hL_3
    refine pop_lss .i64 t15_1 (g0_1.n : Int) ?_
    refine condM_b (fun hb_3 => ?_) (fun hb_3 => ?_)
    · have H := H.1 hb_3
      obtain ⟨hi_2, H⟩ := H
      refine pop_index sli22 siz25 .i64 g0_1 t15_1 hi_2 ?_
      obtain ⟨t18_1, hc_1, H⟩ := H
      refine rop_one one25 (Sl.v t18_1) hc_1 ?_
      refine pop_len t18_1 _ _ sli25 ?_
      refine pop_gtr .i64 (t18_1.n : Int) 5 ?_
      refine guardM_sf (fun hb_4 => ?_) (fun hb_4 => ?_)
      · have H := H.2 hb_4
        refine guardM_y' hb_4 ?_
        refine guardM_y' hb_4 ?_
        refine pop_sub .i64 (g0_1.n : Int) 1 ?_
        refine guardM_y' hb_4 ?_
        refine H.mono fun rv_2 h_4 H => ?_
        obtain ⟨t26_1, rfl, hL_4, H⟩ := H
        refine guardM_y' hb_4 ?_
        refine pop_not t26_1 ?_
        refine pop_pickf' hb_4 ?_
        refine condM_b (fun hb_5 => ?_) (fun hb_5 => ?_)
        · have H := H.1 hb_5
          exact H
        · have H := H.2 hb_5
          refine pop_add .i64 t15_1 1 ?_
          obtain ⟨m_1, hm_1, H⟩ := H
          exact hn_1 _ _ ⟨m_1, hm_1, (w64 (t15_1 + 1)), rfl, H, hL_4⟩
      · have H := H.1 hb_4
        refine guardM_n' hb_4 (by decide) ?_
        refine guardM_n' hb_4 (by decide) ?_
        refine guardM_n' hb_4 (by decide) ?_
        refine guardM_n' hb_4 (by decide) ?_
        refine pop_pickt' hb_4 ?_
        refine condM_t ?_
        exact H
    · have H := H.2 hb_3
      exact H

/-! laws.wSame -/
def u166 (P : Program) (a0_1 : Sl) (b1_1 : Sl) (h : Heap) (K : Value → Heap → Prop) : Prop :=
  ((!decide ((a0_1.n : Int) = (b1_1.n : Int))) = true →
  K (VB false) h) ∧
  ((!decide ((a0_1.n : Int) = (b1_1.n : Int))) = false →
  ∃ J_1 : Nat → Int → Heap → Prop, (∃ n0 : Nat, J_1 n0 0 h) ∧
  ∀ (n_1 : Nat) (t13_1 : Int) (h_1 : Heap), J_1 n_1 t13_1 h_1 → Vars h_1 [] →
  ((decide (t13_1 < (a0_1.n : Int))) = true →
  InB a0_1 t13_1 ∧
  ∃ t19_1 : Int, hcell h_1 (Sl.at a0_1 t13_1 1) = some (VI t19_1) ∧
  InB b1_1 t13_1 ∧
  ∃ t23_1 : Int, hcell h_1 (Sl.at b1_1 t13_1 1) = some (VI t23_1) ∧
  ((!decide (t19_1 = t23_1)) = true →
  K (VB false) h_1) ∧
  ((!decide (t19_1 = t23_1)) = false →
  ∃ m : Nat, m < n_1 ∧ J_1 m (w64 (t13_1 + 1)) h_1)) ∧
  ((decide (t13_1 < (a0_1.n : Int))) = false →
  K (VB true) h_1))
theorem v166 (a0_1 : Sl) (b1_1 : Sl) (h : Heap) (K : Value → Heap → Prop) (H : u166 Try.prog a0_1 b1_1 h K) : callM Try.prog 166 #[(Sl.v a0_1), (Sl.v b1_1)] h K := by
  refine c166 (Sl.v a0_1) (Sl.v b1_1) h K ?_
  unfold u166 at H
  unfold t166
  have hL : Vars h [] := .nil
  refine pop_len a0_1 _ _ sli25 ?_
  refine pop_len b1_1 _ _ sli25 ?_
  refine pop_ine .i64 _ _ (a0_1.n : Int) (b1_1.n : Int) ?_
  refine condM_b (fun hb_1 => ?_) (fun hb_1 => ?_)
  · have H := H.1 hb_1
    exact H
  · have H := H.2 hb_1
    refine pop_len a0_1 _ _ sli25 ?_
    obtain ⟨J_1, ⟨n_2, h0_1⟩, HB_1⟩ := H
    refine loop_intro (J := fun (n : Nat) (vs : List Value) (h' : Heap) => ∃ t13_1 : Int, vs = [(VI t13_1)] ∧ J_1 n t13_1 h' ∧ Vars h' []) n_2 ⟨0, rfl, h0_1, hL⟩ ?_
    intro I_1 mu_1 hI_1 junk_1 tv_1 h_1 hi_1
    obtain ⟨n_1, ⟨t13_1, hv, hJ_1, hL_1⟩, hn_1⟩ := hI_1 _ _ hi_1
    cases hv
    have H := HB_1 n_1 t13_1 h_1 hJ_1 hL_1
    refine pop_lss .i64 t13_1 (a0_1.n : Int) ?_
    refine condM_b (fun hb_2 => ?_) (fun hb_2 => ?_)
    · have H := H.1 hb_2
      obtain ⟨hi_2, H⟩ := H
      refine pop_index sli25 siz3 .i64 a0_1 t13_1 hi_2 ?_
      obtain ⟨t19_1, hc_2, H⟩ := H
      refine rop_one one3 (VI t19_1) hc_2 ?_
      obtain ⟨hi_3, H⟩ := H
      refine pop_index sli25 siz3 .i64 b1_1 t13_1 hi_3 ?_
      obtain ⟨t23_1, hc_1, H⟩ := H
      refine rop_one one3 (VI t23_1) hc_1 ?_
      refine pop_ine .i64 _ _ t19_1 t23_1 ?_
      refine condM_b (fun hb_3 => ?_) (fun hb_3 => ?_)
      · have H := H.1 hb_3
        exact H
      · have H := H.2 hb_3
        refine pop_add .i64 t13_1 1 ?_
        obtain ⟨m_1, hm_1, H⟩ := H
        exact hn_1 _ _ ⟨m_1, hm_1, (w64 (t13_1 + 1)), rfl, H, hL_1⟩
    · have H := H.2 hb_2
      exact H

/-! (impl.Graph).reach -/
def u167 (P : Program) (g0_1 : Sl) (p1_1 : Int) (h : Heap) (K : Value → Heap → Prop) : Prop :=
  ∀ (b_1 : Nat) (h_1 : Heap), h.size ≤ b_1 → Fr (In []) h h_1 → Vars h_1 [(b_1, [(Sl.v g0_1)])] →
  eop P (Instr.buildSlice 25 0 #[]) h_1 fun rv_1 h_2 => ∃ t8_1 : Sl, rv_1 = (Sl.v t8_1) ∧ Vars h_2 [(b_1, [(Sl.v g0_1)])] ∧
  callM P 187 #[(Value.agg #[(Sl.v g0_1)]), (VI p1_1)] h_2 fun rv_2 h_3 => ∃ t11_1 : Sl, rv_2 = (Sl.v t11_1) ∧ Vars h_3 [(b_1, [(Sl.v g0_1)])] ∧
  ∃ J_1 : Nat → Sl → Int → Heap → Prop, (∃ n0 : Nat, J_1 n0 t8_1 0 h_3) ∧
  ∀ (n_1 : Nat) (out5_1 : Sl) (t13_1 : Int) (h_4 : Heap), J_1 n_1 out5_1 t13_1 h_4 → Vars h_4 [(b_1, [(Sl.v g0_1)])] →
  ((decide (t13_1 < (t11_1.n : Int))) = true →
  InB t11_1 t13_1 ∧
  ∃ t17_1 : Int, hcell h_4 (Sl.at t11_1 t13_1 1) = some (VI t17_1) ∧
  ((decide (0 ≤ t17_1)) = true →
  eop P (Instr.buildSlice 25 1 #[(0, (VI t13_1))]) h_4 fun rv_3 h_5 => ∃ t22_1 : Sl, rv_3 = (Sl.v t22_1) ∧ Vars h_5 [(b_1, [(Sl.v g0_1)])] ∧
  eop P (appS 25 25 25 (Sl.v out5_1) (Sl.v t22_1)) h_5 fun rv_4 h_6 => ∃ t23_1 : Sl, rv_4 = (Sl.v t23_1) ∧ Vars h_6 [(b_1, [(Sl.v g0_1)])] ∧
  ∃ m : Nat, m < n_1 ∧ J_1 m t23_1 (w64 (t13_1 + 1)) h_6) ∧
  ((decide (0 ≤ t17_1)) = false →
  ∃ m : Nat, m < n_1 ∧ J_1 m out5_1 (w64 (t13_1 + 1)) h_4)) ∧
  ((decide (t13_1 < (t11_1.n : Int))) = false →
  K (Sl.v out5_1) h_4)
theorem v167 (g0_1 : Sl) (p1_1 : Int) (h : Heap) (K : Value → Heap → Prop) (H : u167 Try.prog g0_1 p1_1 h K) : callM Try.prog 167 #[(Value.agg #[(Sl.v g0_1)]), (VI p1_1)] h K := by
  refine c167 (Value.agg #[(Sl.v g0_1)]) (VI p1_1) h K ?_
  unfold u167 at H
  unfold t167
  have hL : Vars h [] := .nil
  refine eop_box 32 (Value.agg #[(Sl.v g0_1)]) rfl hL (fun b_1 h_1 hb_1 hf_1 hL_1 => ?_)
  have H := H b_1 h_1 (Nat.le_trans (Fr.size (Fr.r (In []) _)) hb_1) (Fr.no' (Fr.r (In []) _) hf_1) hL_1
  refine H.mono fun rv_1 h_2 H => ?_
  obtain ⟨t8_1, rfl, hL_2, H⟩ := H
  refine rop_locA agg32 hL_2 0 rfl 0 (vs := [(Sl.v g0_1)]) rfl rfl ?_
  refine H.mono fun rv_2 h_3 H => ?_
  obtain ⟨t11_1, rfl, hL_3, H⟩ := H
  refine pop_len t11_1 _ _ sli25 ?_
  obtain ⟨J_1, ⟨n_2, h0_1⟩, HB_1⟩ := H
  refine loop_intro (J := fun (n : Nat) (vs : List Value) (h' : Heap) => ∃ out5_1 : Sl, ∃ t13_1 : Int, vs = [(Sl.v out5_1), (VI t13_1)] ∧ J_1 n out5_1 t13_1 h' ∧ Vars h' [(b_1, [(Sl.v g0_1)])]) n_2 ⟨t8_1, 0, rfl, h0_1, hL_3⟩ ?_
  intro I_1 mu_1 hI_1 junk_1 tv_1 tv_2 h_4 hi_1
  obtain ⟨n_1, ⟨out5_1, t13_1, hv, hJ_1, hL_4⟩, hn_1⟩ := hI_1 _ _ hi_1
  cases hv
  have H := HB_1 n_1 out5_1 t13_1 h_4 hJ_1 hL_4
  refine pop_lss .i64 t13_1 (t11_1.n : Int) ?_
  refine condM_b (fun hb_2 => ?_) (fun hb_2 => ?_)
  · have H := H.1 hb_2
    obtain ⟨hi_2, H⟩ := H
    refine pop_index sli25 siz3 .i64 t11_1 t13_1 hi_2 ?_
    obtain ⟨t17_1, hc_1, H⟩ := H
    refine rop_one one3 (VI t17_1) hc_1 ?_
    refine pop_geq .i64 t17_1 0 ?_
    refine condM_b (fun hb_3 => ?_) (fun hb_3 => ?_)
    · have H := H.1 hb_3
      refine H.mono fun rv_3 h_5 H => ?_
      obtain ⟨t22_1, rfl, hL_5, H⟩ := H
      refine H.mono fun rv_4 h_6 H => ?_
      obtain ⟨t23_1, rfl, hL_6, H⟩ := H
      refine pop_add .i64 t13_1 1 ?_
      obtain ⟨m_1, hm_1, H⟩ := H
      exact hn_1 _ _ ⟨m_1, hm_1, t23_1, (w64 (t13_1 + 1)), rfl, H, hL_6⟩
    · have H := H.2 hb_3
      refine pop_add .i64 t13_1 1 ?_
      obtain ⟨m_2, hm_2, H⟩ := H
      exact hn_1 _ _ ⟨m_2, hm_2, out5_1, (w64 (t13_1 + 1)), rfl, H, hL_4⟩
  · have H := H.2 hb_2
    exact H

/-! (impl.Graph).lengths -/
def u187 (P : Program) (g0_1 : Sl) (p1_1 : Int) (h : Heap) (K : Value → Heap → Prop) : Prop :=
  ∀ (b_1 : Nat) (h_1 : Heap), h.size ≤ b_1 → Fr (In []) h h_1 → Vars h_1 [(b_1, [(Sl.v g0_1)])] →
  eop P (Instr.buildSlice 25 1 #[(0, (Value.int IntKind.i64 (-1)))]) h_1 fun rv_1 h_2 => ∃ t9_1 : Sl, rv_1 = (Sl.v t9_1) ∧ Vars h_2 [(b_1, [(Sl.v g0_1)])] ∧
  callM P 197 #[(Sl.v t9_1), (VI (g0_1.n : Int))] h_2 fun rv_2 h_3 => ∃ t13_1 : Sl, rv_2 = (Sl.v t13_1) ∧ Vars h_3 [(b_1, [(Sl.v g0_1)])] ∧
  InB t13_1 p1_1 ∧
  Writable h_3 (Sl.at t13_1 p1_1 1) ∧ Vars (hset h_3 (Sl.at t13_1 p1_1 1) (VI 0)) [(b_1, [(Sl.v g0_1)])] ∧
  ∀ h_4 : Heap, h_4 = hset h_3 (Sl.at t13_1 p1_1 1) (VI 0) → Vars h_4 [(b_1, [(Sl.v g0_1)])] →
  eop P (Instr.buildSlice 25 1 #[(0, (VI p1_1))]) h_4 fun rv_3 h_5 => ∃ t18_1 : Sl, rv_3 = (Sl.v t18_1) ∧ Vars h_5 [(b_1, [(Sl.v g0_1)])] ∧
  ∃ J_1 : Nat → Sl → Heap → Prop, (∃ n0 : Nat, J_1 n0 t18_1 h_5) ∧
  ∀ (n_1 : Nat) (list6_1 : Sl) (h_6 : Heap), J_1 n_1 list6_1 h_6 → Vars h_6 [(b_1, [(Sl.v g0_1)])] →
  ((decide (0 < (list6_1.n : Int))) = true →
  InB list6_1 0 ∧
  ∃ t28_1 : Int, hcell h_6 (Sl.at list6_1 0 1) = some (VI t28_1) ∧
  InB g0_1 t28_1 ∧
  ∃ t30_1 : Sl, hcell h_6 (Sl.at g0_1 t28_1 1) = some (Sl.v t30_1) ∧
  ∃ J_2 : Nat → Sl → Int → Heap → Prop, (∃ n0 : Nat, J_2 n0 list6_1 0 h_6) ∧
  ∀ (n_2 : Nat) (list6_2 : Sl) (t32_1 : Int) (h_7 : Heap), J_2 n_2 list6_2 t32_1 h_7 → Vars h_7 [(b_1, [(Sl.v g0_1)])] →
  ((decide (t32_1 < (t30_1.n : Int))) = true →
  InB t30_1 t32_1 ∧
  ∃ t35_1 : Int, hcell h_7 (Sl.at t30_1 t32_1 1) = some (VI t35_1) ∧
  InB t13_1 t35_1 ∧
  ∃ t39_1 : Int, hcell h_7 (Sl.at t13_1 t35_1 1) = some (VI t39_1) ∧
  ((decide (t39_1 < 0)) = true →
  InB list6_2 0 ∧
  ∃ t46_1 : Int, hcell h_7 (Sl.at list6_2 0 1) = some (VI t46_1) ∧
  InB t13_1 t46_1 ∧
  ∃ t48_1 : Int, hcell h_7 (Sl.at t13_1 t46_1 1) = some (VI t48_1) ∧
  InB t13_1 t35_1 ∧
  Writable h_7 (Sl.at t13_1 t35_1 1) ∧ Vars (hset h_7 (Sl.at t13_1 t35_1 1) (VI (w64 (t48_1 + 1)))) [(b_1, [(Sl.v g0_1)])] ∧
  ∀ h_8 : Heap, h_8 = hset h_7 (Sl.at t13_1 t35_1 1) (VI (w64 (t48_1 + 1))) → Vars h_8 [(b_1, [(Sl.v g0_1)])] →
  eop P (Instr.buildSlice 25 1 #[(0, (VI t35_1))]) h_8 fun rv_4 h_9 => ∃ t53_1 : Sl, rv_4 = (Sl.v t53_1) ∧ Vars h_9 [(b_1, [(Sl.v g0_1)])] ∧
  eop P (appS 25 25 25 (Sl.v list6_2) (Sl.v t53_1)) h_9 fun rv_5 h_10 => ∃ t54_1 : Sl, rv_5 = (Sl.v t54_1) ∧ Vars h_10 [(b_1, [(Sl.v g0_1)])] ∧
  ∃ m : Nat, m < n_2 ∧ J_2 m t54_1 (w64 (t32_1 + 1)) h_10) ∧
  ((decide (t39_1 < 0)) = false →
  ∃ m : Nat, m < n_2 ∧ J_2 m list6_2 (w64 (t32_1 + 1)) h_7)) ∧
  ((decide (t32_1 < (t30_1.n : Int))) = false →
  pop P (Instr.sliceAt 25 (Sl.v list6_2) (some (Value.int IntKind.i64 1)) none none) fun rv_6 => ∃ t23_1 : Sl, rv_6 = (Sl.v t23_1) ∧ 
  ∃ m : Nat, m < n_1 ∧ J_1 m t23_1 h_7)) ∧
  ((decide (0 < (list6_1.n : Int))) = false →
  K (Sl.v t13_1) h_6)
theorem v187 (g0_1 : Sl) (p1_1 : Int) (h : Heap) (K : Value → Heap → Prop) (H : u187 Try.prog g0_1 p1_1 h K) : callM Try.prog 187 #[(Value.agg #[(Sl.v g0_1)]), (VI p1_1)] h K := by
  refine c187 (Value.agg #[(Sl.v g0_1)]) (VI p1_1) h K ?_
  unfold u187 at H
  unfold t187
  have hL : Vars h [] := .nil
  refine eop_box 32 (Value.agg #[(Sl.v g0_1)]) rfl hL (fun b_1 h_1 hb_1 hf_1 hL_1 => ?_)
  have H := H b_1 h_1 (Nat.le_trans (Fr.size (Fr.r (In []) _)) hb_1) (Fr.no' (Fr.r (In []) _) hf_1) hL_1
  refine H.mono fun rv_1 h_2 H => ?_
  obtain ⟨t9_1, rfl, hL_2, H⟩ := H
  refine pop_field 0 fld32_0 b_1 0 ?_
  refine rop_loc one22 hL_2 0 rfl 0 (v := (Sl.v g0_1)) rfl ?_
  refine pop_len g0_1 _ _ sli22 ?_
  refine H.mono fun rv_2 h_3 H => ?_
  obtain ⟨t13_1, rfl, hL_3, H⟩ := H
  obtain ⟨hi_1, H⟩ := H
  refine pop_index sli25 siz3 .i64 t13_1 p1_1 hi_1 ?_
  obtain ⟨hw_1, hL_4, H⟩ := H
  refine uop_cell (v := (VI 0)) siz3 hw_1 rfl (fun h_4 he_1 => ?_)
  rw [← he_1] at hL_4
  have H := H h_4 he_1 hL_4
  refine H.mono fun rv_3 h_5 H => ?_
  obtain ⟨t18_1, rfl, hL_5, H⟩ := H
  obtain ⟨J_1, ⟨n_4, h0_2⟩, HB_2⟩ := H
  refine loop_intro (J := fun (n : Nat) (vs : List Value) (h' : Heap) => ∃ list6_1 : Sl, vs = [(Sl.v list6_1)] ∧ J_1 n list6_1 h' ∧ Vars h' [(b_1, [(Sl.v g0_1)])]) n_4 ⟨t18_1, rfl, h0_2, hL_5⟩ ?_
  intro I_2 mu_2 hI_2 junk_1 tv_3 h_6 hi_2
  obtain ⟨n_1, ⟨list6_1, hv, hJ_1, hL_6⟩, hn_1⟩ := hI_2 _ _ hi_2
  cases hv
  have H := HB_2 n_1 list6_1 h_6 hJ_1 hL_6
  refine pop_len list6_1 _ _ sli25 ?_
  refine pop_gtr .i64 (list6_1.n : Int) 0 ?_
  refine condM_b (fun hb_2 => ?_) (fun hb_2 => ?_)
  · have H := H.1 hb_2
    refine pop_field 0 fld32_0 b_1 0 ?_
    refine rop_loc one22 hL_6 0 rfl 0 (v := (Sl.v g0_1)) rfl ?_
    obtain ⟨hi_3, H⟩ := H
    refine pop_index sli25 siz3 .i64 list6_1 0 hi_3 ?_
    obtain ⟨t28_1, hc_6, H⟩ := H
    refine rop_one one3 (VI t28_1) hc_6 ?_
    obtain ⟨hi_4, H⟩ := H
    refine pop_index sli22 siz25 .i64 g0_1 t28_1 hi_4 ?_
    obtain ⟨t30_1, hc_5, H⟩ := H
    refine rop_one one25 (Sl.v t30_1) hc_5 ?_
    refine pop_len t30_1 _ _ sli25 ?_
    obtain ⟨J_2, ⟨n_3, h0_1⟩, HB_1⟩ := H
    refine loop_intro (J := fun (n : Nat) (vs : List Value) (h' : Heap) => ∃ list6_2 : Sl, ∃ t32_1 : Int, vs = [(Sl.v list6_2), (VI t32_1)] ∧ J_2 n list6_2 t32_1 h' ∧ Vars h' [(b_1, [(Sl.v g0_1)])]) n_3 ⟨list6_1, 0, rfl, h0_1, hL_6⟩ ?_
    intro I_1 mu_1 hI_1 junk_2 tv_1 tv_2 h_7 hi_5
    obtain ⟨n_2, ⟨list6_2, t32_1, hv, hJ_2, hL_7⟩, hn_2⟩ := hI_1 _ _ hi_5
    cases hv
    have H := HB_1 n_2 list6_2 t32_1 h_7 hJ_2 hL_7
    refine pop_lss .i64 t32_1 (t30_1.n : Int) ?_
    refine condM_b (fun hb_3 => ?_) (fun hb_3 => ?_)
    · have H := H.1 hb_3
      obtain ⟨hi_6, H⟩ := H
      refine pop_index sli25 siz3 .i64 t30_1 t32_1 hi_6 ?_
      obtain ⟨t35_1, hc_4, H⟩ := H
      refine rop_one one3 (VI t35_1) hc_4 ?_
      obtain ⟨hi_7, H⟩ := H
      refine pop_index sli25 siz3 .i64 t13_1 t35_1 hi_7 ?_
      obtain ⟨t39_1, hc_3, H⟩ := H
      refine rop_one one3 (VI t39_1) hc_3 ?_
      refine pop_lss .i64 t39_1 0 ?_
      refine condM_b (fun hb_4 => ?_) (fun hb_4 => ?_)
      · have H := H.1 hb_4
        obtain ⟨hi_8, H⟩ := H
        refine pop_index sli25 siz3 .i64 list6_2 0 hi_8 ?_
        obtain ⟨t46_1, hc_2, H⟩ := H
        refine rop_one one3 (VI t46_1) hc_2 ?_
        obtain ⟨hi_9, H⟩ := H
        refine pop_index sli25 siz3 .i64 t13_1 t46_1 hi_9 ?_
        obtain ⟨t48_1, hc_1, H⟩ := H
        refine rop_one one3 (VI t48_1) hc_1 ?_
        refine pop_add .i64 t48_1 1 ?_
        obtain ⟨hi_10, H⟩ := H
        refine pop_index sli25 siz3 .i64 t13_1 t35_1 hi_10 ?_
        obtain ⟨hw_2, hL_8, H⟩ := H
        refine uop_cell (v := (VI (w64 (t48_1 + 1)))) siz3 hw_2 rfl (fun h_8 he_2 => ?_)
        rw [← he_2] at hL_8
        have H := H h_8 he_2 hL_8
        refine H.mono fun rv_4 h_9 H => ?_
        obtain ⟨t53_1, rfl, hL_9, H⟩ := H
        refine H.mono fun rv_5 h_10 H => ?_
        obtain ⟨t54_1, rfl, hL_10, H⟩ := H
        refine pop_add .i64 t32_1 1 ?_
        obtain ⟨m_1, hm_1, H⟩ := H
        exact hn_2 _ _ ⟨m_1, hm_1, t54_1, (w64 (t32_1 + 1)), rfl, H, hL_10⟩
      · have H := H.2 hb_4
        refine pop_add .i64 t32_1 1 ?_
        obtain ⟨m_2, hm_2, H⟩ := H
        exact hn_2 _ _ ⟨m_2, hm_2, list6_2, (w64 (t32_1 + 1)), rfl, H, hL_7⟩
    · have H := H.2 hb_3
      refine H.mono fun rv_6 H => ?_
      obtain ⟨t23_1, rfl, H⟩ := H
      obtain ⟨m_3, hm_3, H⟩ := H
      exact hn_1 _ _ ⟨m_3, hm_3, t23_1, rfl, H, hL_7⟩
  · have H := H.2 hb_2
    exact H

/-! slices.Repeat[[]int,int] -/
def u197 (P : Program) (x0_1 : Sl) (count1_1 : Int) (h : Heap) (K : Value → Heap → Prop) : Prop :=
  ∃ J_1 : Heap → Prop, (((decide (count1_1 < 0)) = true →
  pop P (Instr.makeInterface 9 (Value.string { data := #[99, 97, 110, 110, 111, 116, 32, 98, 101, 32, 110, 101, 103, 97, 116, 105, 118, 101] })) fun rv_1 => ∃ t11_1 : Value, rv_1 = t11_1 ∧ 
  False) ∧
  ((decide (count1_1 < 0)) = false →
  J_1  h)) ∧
  ∀ (h_1 : Heap), J_1  h_1 → Vars h_1 [] →
  rop P (convert 3 170 (VI (x0_1.n : Int))) h_1 fun rv_2 => ∃ t15_1 : Int, rv_2 = (Value.int .u64 t15_1) ∧ 
  rop P (convert 3 170 (VI count1_1)) h_1 fun rv_3 => ∃ t17_1 : Int, rv_3 = (Value.int .u64 t17_1) ∧ 
  callM P 211 #[(Value.int .u64 t15_1), (Value.int .u64 t17_1)] h_1 fun rv_4 h_2 => ∃ t18_1 : Int, ∃ t18_2 : Int, rv_4 = (Value.tuple #[(Value.int .u64 t18_1), (Value.int .u64 t18_2)]) ∧ Vars h_2 [] ∧
  ∃ J_2 : Heap → Prop, (((decide (0 < t18_1)) = true →
  pop P (Instr.makeInterface 9 (Value.string { data := #[116, 104, 101, 32, 114, 101, 115, 117, 108, 116, 32, 111, 102, 32, 40, 108, 101, 110, 40, 120, 41, 32, 42, 32, 99, 111, 117, 110, 116, 41, 32, 111, 118, 101, 114, 102, 108, 111, 119, 115] })) fun rv_6 => ∃ t27_2 : Value, rv_6 = t27_2 ∧ 
  False) ∧
  ((decide (0 < t18_1)) = false →
  ((decide (9223372036854775807 < t18_2)) = true →
  pop P (Instr.makeInterface 9 (Value.string { data := #[116, 104, 101, 32, 114, 101, 115, 117, 108, 116, 32, 111, 102, 32, 40, 108, 101, 110, 40, 120, 41, 32, 42, 32, 99, 111, 117, 110, 116, 41, 32, 111, 118, 101, 114, 102, 108, 111, 119, 115] })) fun rv_5 => ∃ t27_1 : Value, rv_5 = t27_1 ∧ 
  False) ∧
  ((decide (9223372036854775807 < t18_2)) = false →
  J_2  h_2))) ∧
  ∀ (h_3 : Heap), J_2  h_3 → Vars h_3 [] →
  rop P (convert 170 3 (Value.int .u64 t18_2)) h_3 fun rv_7 => ∃ t29_1 : Int, rv_7 = (VI t29_1) ∧ 
  eop P (Instr.makeSlice 25 (VI t29_1) (VI t29_1)) h_3 fun rv_8 h_4 => ∃ t30_1 : Sl, rv_8 = (Sl.v t30_1) ∧ Vars h_4 [] ∧
  eop P (Builtin.copy_ #[25, 25] 3 #[(Sl.v t30_1), (Sl.v x0_1)]) h_4 fun rv_9 h_5 => ∃ t33_1 : Int, rv_9 = (VI t33_1) ∧ Vars h_5 [] ∧
  ∃ J_3 : Nat → Int → Heap → Prop, (∃ n0 : Nat, J_3 n0 t33_1 h_5) ∧
  ∀ (n_1 : Nat) (n8_1 : Int) (h_6 : Heap), J_3 n_1 n8_1 h_6 → Vars h_6 [] →
  ((decide (n8_1 < (t30_1.n : Int))) = true →
  pop P (Instr.sliceAt 25 (Sl.v t30_1) (some (VI n8_1)) none none) fun rv_10 => ∃ t41_1 : Sl, rv_10 = (Sl.v t41_1) ∧ 
  pop P (Instr.sliceAt 25 (Sl.v t30_1) none (some (VI n8_1)) none) fun rv_11 => ∃ t44_1 : Sl, rv_11 = (Sl.v t44_1) ∧ 
  eop P (Builtin.copy_ #[25, 25] 3 #[(Sl.v t41_1), (Sl.v t44_1)]) h_6 fun rv_12 h_7 => ∃ t45_1 : Int, rv_12 = (VI t45_1) ∧ Vars h_7 [] ∧
  ∃ m : Nat, m < n_1 ∧ J_3 m (w64 (n8_1 + t45_1)) h_7) ∧
  ((decide (n8_1 < (t30_1.n : Int))) = false →
  K (Sl.v t30_1) h_6)
theorem v197 (x0_1 : Sl) (count1_1 : Int) (h : Heap) (K : Value → Heap → Prop) (H : u197 Try.prog x0_1 count1_1 h K) : callM Try.prog 197 #[(Sl.v x0_1), (VI count1_1)] h K := by
  refine c197 (Sl.v x0_1) (VI count1_1) h K ?_
  unfold u197 at H
  unfold t197
  have hL : Vars h [] := .nil
  obtain ⟨J_1, H, HB_3⟩ := H
  refine ⟨fun (vs : List Value) (h' : Heap) => vs = [] ∧ J_1  h' ∧ Vars h' [], ?_, ?_⟩
  · refine pop_lss .i64 count1_1 0 ?_
    refine condM_b (fun hb_1 => ?_) (fun hb_1 => ?_)
    · have H := H.1 hb_1
      refine H.mono fun rv_1 H => ?_
      obtain ⟨t11_1, rfl, H⟩ := H
      exact H.elim
    · have H := H.2 hb_1
      exact ⟨rfl, H, hL⟩
  intro junk_1  h_1
  rintro ⟨hv, hJ_1, hL_1⟩
  have H := HB_3  h_1 hJ_1 hL_1
  refine pop_len x0_1 _ _ sli25 ?_
  refine H.mono fun rv_2 H => ?_
  obtain ⟨t15_1, rfl, H⟩ := H
  refine H.mono fun rv_3 H => ?_
  obtain ⟨t17_1, rfl, H⟩ := H
  refine H.mono fun rv_4 h_2 H => ?_
  obtain ⟨t18_1, t18_2, rfl, hL_2, H⟩ := H
  refine pop_ext (v := (Value.int .u64 t18_1)) rfl ?_
  refine pop_ext (v := (Value.int .u64 t18_2)) rfl ?_
  obtain ⟨J_2, H, HB_2⟩ := H
  refine ⟨fun (vs : List Value) (h' : Heap) => vs = [] ∧ J_2  h' ∧ Vars h' [], ?_, ?_⟩
  · refine pop_gtr .u64 t18_1 0 ?_
    refine guardM_sf (fun hb_2 => ?_) (fun hb_2 => ?_)
    · have H := H.2 hb_2
      refine guardM_y' hb_2 ?_
      refine pop_gtr .u64 t18_2 9223372036854775807 ?_
      refine pop_pickf' hb_2 ?_
      refine condM_b (fun hb_3 => ?_) (fun hb_3 => ?_)
      · have H := H.1 hb_3
        refine H.mono fun rv_5 H => ?_
        obtain ⟨t27_1, rfl, H⟩ := H
        exact H.elim
      · have H := H.2 hb_3
        exact ⟨rfl, H, hL_2⟩
    · have H := H.1 hb_2
      refine guardM_n' hb_2 (by decide) ?_
      refine pop_pickt' hb_2 ?_
      refine condM_t ?_
      refine H.mono fun rv_6 H => ?_
      obtain ⟨t27_2, rfl, H⟩ := H
      exact H.elim
  intro junk_2  h_3
  rintro ⟨hv, hJ_2, hL_3⟩
  have H := HB_2  h_3 hJ_2 hL_3
  refine H.mono fun rv_7 H => ?_
  obtain ⟨t29_1, rfl, H⟩ := H
  refine H.mono fun rv_8 h_4 H => ?_
  obtain ⟨t30_1, rfl, hL_4, H⟩ := H
  refine H.mono fun rv_9 h_5 H => ?_
  obtain ⟨t33_1, rfl, hL_5, H⟩ := H
  obtain ⟨J_3, ⟨n_2, h0_1⟩, HB_1⟩ := H
  refine loop_intro (J := fun (n : Nat) (vs : List Value) (h' : Heap) => ∃ n8_1 : Int, vs = [(VI n8_1)] ∧ J_3 n n8_1 h' ∧ Vars h' []) n_2 ⟨t33_1, rfl, h0_1, hL_5⟩ ?_
  intro I_1 mu_1 hI_1 junk_3 tv_1 h_6 hi_1
  obtain ⟨n_1, ⟨n8_1, hv, hJ_3, hL_6⟩, hn_1⟩ := hI_1 _ _ hi_1
  cases hv
  have H := HB_1 n_1 n8_1 h_6 hJ_3 hL_6
  refine pop_len t30_1 _ _ sli25 ?_
  refine pop_lss .i64 n8_1 (t30_1.n : Int) ?_
  refine condM_b (fun hb_4 => ?_) (fun hb_4 => ?_)
  · have H := H.1 hb_4
    refine H.mono fun rv_10 H => ?_
    obtain ⟨t41_1, rfl, H⟩ := H
    refine H.mono fun rv_11 H => ?_
    obtain ⟨t44_1, rfl, H⟩ := H
    refine H.mono fun rv_12 h_7 H => ?_
    obtain ⟨t45_1, rfl, hL_7, H⟩ := H
    refine pop_add .i64 n8_1 t45_1 ?_
    obtain ⟨m_1, hm_1, H⟩ := H
    exact hn_1 _ _ ⟨m_1, hm_1, (w64 (n8_1 + t45_1)), rfl, H, hL_7⟩
  · have H := H.2 hb_4
    exact H

/-! math/bits.Mul -/
def u211 (P : Program) (x0_1 : Int) (y1_1 : Int) (h : Heap) (K : Value → Heap → Prop) : Prop :=
  callM P 219 #[(Value.int .u64 x0_1), (Value.int .u64 y1_1)] h fun rv_1 h_1 => ∃ t25_1 : Int, ∃ t25_2 : Int, rv_1 = (Value.tuple #[(Value.int .u64 t25_1), (Value.int .u64 t25_2)]) ∧ Vars h_1 [] ∧
  K (Value.tuple #[(Value.int .u64 t25_1), (Value.int .u64 t25_2)]) h_1
theorem v211 (x0_1 : Int) (y1_1 : Int) (h : Heap) (K : Value → Heap → Prop) (H : u211 Try.prog x0_1 y1_1 h K) : callM Try.prog 211 #[(Value.int .u64 x0_1), (Value.int .u64 y1_1)] h K := by
  refine c211 (Value.int .u64 x0_1) (Value.int .u64 y1_1) h K ?_
  unfold u211 at H
  unfold t211
  have hL : Vars h [] := .nil
  refine condM_f ?_
  refine H.mono fun rv_1 h_1 H => ?_
  obtain ⟨t25_1, t25_2, rfl, hL_1, H⟩ := H
  refine pop_ext (v := (Value.int .u64 t25_1)) rfl ?_
  refine pop_ext (v := (Value.int .u64 t25_2)) rfl ?_
  exact H

/-! math/bits.Mul32 -/
def u218 (P : Program) (x0_1 : Int) (y1_1 : Int) (h : Heap) (K : Value → Heap → Prop) : Prop :=
  rop P (convert 184 107 (Value.int .u32 x0_1)) h fun rv_1 => ∃ t8_1 : Int, rv_1 = (Value.int .u64 t8_1) ∧ 
  rop P (convert 184 107 (Value.int .u32 y1_1)) h fun rv_2 => ∃ t10_1 : Int, rv_2 = (Value.int .u64 t10_1) ∧ 
  pop P (binA .shr 107 (Value.int .u64 (IntKind.wrap .u64 (t8_1 * t10_1))) (Value.int IntKind.u64 32)) fun rv_3 => ∃ t13_1 : Int, rv_3 = (Value.int .u64 t13_1) ∧ 
  rop P (convert 107 184 (Value.int .u64 t13_1)) h fun rv_4 => ∃ t14_1 : Int, rv_4 = (Value.int .u32 t14_1) ∧ 
  rop P (convert 107 184 (Value.int .u64 (IntKind.wrap .u64 (t8_1 * t10_1)))) h fun rv_5 => ∃ t16_1 : Int, rv_5 = (Value.int .u32 t16_1) ∧ 
  K (Value.tuple #[(Value.int .u32 t14_1), (Value.int .u32 t16_1)]) h
theorem v218 (x0_1 : Int) (y1_1 : Int) (h : Heap) (K : Value → Heap → Prop) (H : u218 Try.prog x0_1 y1_1 h K) : callM Try.prog 218 #[(Value.int .u32 x0_1), (Value.int .u32 y1_1)] h K := by
  refine c218 (Value.int .u32 x0_1) (Value.int .u32 y1_1) h K ?_
  unfold u218 at H
  unfold t218
  have hL : Vars h [] := .nil
  refine H.mono fun rv_1 H => ?_
  obtain ⟨t8_1, rfl, H⟩ := H
  refine H.mono fun rv_2 H => ?_
  obtain ⟨t10_1, rfl, H⟩ := H
  refine pop_mul .u64 t8_1 t10_1 ?_
  refine H.mono fun rv_3 H => ?_
  obtain ⟨t13_1, rfl, H⟩ := H
  refine H.mono fun rv_4 H => ?_
  obtain ⟨t14_1, rfl, H⟩ := H
  refine H.mono fun rv_5 H => ?_
  obtain ⟨t16_1, rfl, H⟩ := H
  exact H

/-! math/bits.Mul64 -/
def u219 (P : Program) (x0_1 : Int) (y1_1 : Int) (h : Heap) (K : Value → Heap → Prop) : Prop :=
  pop P (binA .and 107 (Value.int .u64 x0_1) (Value.int IntKind.u64 4294967295)) fun rv_1 => ∃ t15_1 : Int, rv_1 = (Value.int .u64 t15_1) ∧ 
  pop P (binA .shr 107 (Value.int .u64 x0_1) (Value.int IntKind.u64 32)) fun rv_2 => ∃ t17_1 : Int, rv_2 = (Value.int .u64 t17_1) ∧ 
  pop P (binA .and 107 (Value.int .u64 y1_1) (Value.int IntKind.u64 4294967295)) fun rv_3 => ∃ t19_1 : Int, rv_3 = (Value.int .u64 t19_1) ∧ 
  pop P (binA .shr 107 (Value.int .u64 y1_1) (Value.int IntKind.u64 32)) fun rv_4 => ∃ t21_1 : Int, rv_4 = (Value.int .u64 t21_1) ∧ 
  pop P (binA .shr 107 (Value.int .u64 (IntKind.wrap .u64 (t15_1 * t19_1))) (Value.int IntKind.u64 32)) fun rv_5 => ∃ t29_1 : Int, rv_5 = (Value.int .u64 t29_1) ∧ 
  pop P (binA .and 107 (Value.int .u64 (IntKind.wrap .u64 ((IntKind.wrap .u64 (t17_1 * t19_1)) + t29_1))) (Value.int IntKind.u64 4294967295)) fun rv_6 => ∃ t32_1 : Int, rv_6 = (Value.int .u64 t32_1) ∧ 
  pop P (binA .shr 107 (Value.int .u64 (IntKind.wrap .u64 ((IntKind.wrap .u64 (t17_1 * t19_1)) + t29_1))) (Value.int IntKind.u64 32)) fun rv_7 => ∃ t34_1 : Int, rv_7 = (Value.int .u64 t34_1) ∧ 
  pop P (binA .shr 107 (Value.int .u64 (IntKind.wrap .u64 (t32_1 + (IntKind.wrap .u64 (t15_1 * t21_1))))) (Value.int IntKind.u64 32)) fun rv_8 => ∃ t46_1 : Int, rv_8 = (Value.int .u64 t46_1) ∧ 
  K (Value.tuple #[(Value.int .u64 (IntKind.wrap .u64 ((IntKind.wrap .u64 ((IntKind.wrap .u64 (t17_1 * t21_1)) + t34_1)) + t46_1))), (Value.int .u64 (IntKind.wrap .u64 (x0_1 * y1_1)))]) h
theorem v219 (x0_1 : Int) (y1_1 : Int) (h : Heap) (K : Value → Heap → Prop) (H : u219 Try.prog x0_1 y1_1 h K) : callM Try.prog 219 #[(Value.int .u64 x0_1), (Value.int .u64 y1_1)] h K := by
  refine c219 (Value.int .u64 x0_1) (Value.int .u64 y1_1) h K ?_
  unfold u219 at H
  unfold t219
  have hL : Vars h [] := .nil
  refine H.mono fun rv_1 H => ?_
  obtain ⟨t15_1, rfl, H⟩ := H
  refine H.mono fun rv_2 H => ?_
  obtain ⟨t17_1, rfl, H⟩ := H
  refine H.mono fun rv_3 H => ?_
  obtain ⟨t19_1, rfl, H⟩ := H
  refine H.mono fun rv_4 H => ?_
  obtain ⟨t21_1, rfl, H⟩ := H
  refine pop_mul .u64 t15_1 t19_1 ?_
  refine pop_mul .u64 t17_1 t19_1 ?_
  refine H.mono fun rv_5 H => ?_
  obtain ⟨t29_1, rfl, H⟩ := H
  refine pop_add .u64 (IntKind.wrap .u64 (t17_1 * t19_1)) t29_1 ?_
  refine H.mono fun rv_6 H => ?_
  obtain ⟨t32_1, rfl, H⟩ := H
  refine H.mono fun rv_7 H => ?_
  obtain ⟨t34_1, rfl, H⟩ := H
  refine pop_mul .u64 t15_1 t21_1 ?_
  refine pop_add .u64 t32_1 (IntKind.wrap .u64 (t15_1 * t21_1)) ?_
  refine pop_mul .u64 t17_1 t21_1 ?_
  refine pop_add .u64 (IntKind.wrap .u64 (t17_1 * t21_1)) t34_1 ?_
  refine H.mono fun rv_8 H => ?_
  obtain ⟨t46_1, rfl, H⟩ := H
  refine pop_add .u64 (IntKind.wrap .u64 ((IntKind.wrap .u64 (t17_1 * t21_1)) + t34_1)) t46_1 ?_
  refine pop_mul .u64 x0_1 y1_1 ?_
  exact H

end Go.Proofs.Ytbhnecochpehdaa
