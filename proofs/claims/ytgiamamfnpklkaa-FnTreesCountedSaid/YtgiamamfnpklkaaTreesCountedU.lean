/-
  The same over typed data. Written by a program.
-/
import Derived.Test.YtgiamamfnpklkaaTreesCountedT
import Derived.Test.YtgiamamfnpklkaaM2
set_option linter.unusedVariables false
set_option linter.unusedSimpArgs false
set_option maxRecDepth 100000
set_option maxHeartbeats 16000000
namespace Go.Proofs.Ytgiamamfnpklkaa
open Go Go.Mx
theorem agg114 : aggC Try.prog 114 = some 2 := by kernel_rfl
theorem agg26 : aggC Try.prog 26 = some 1 := by kernel_rfl
theorem boo4 : Try.prog.underlying 4 = some .bool := by kernel_rfl
theorem fld114_0 : fieldC Try.prog 114 0 = some 0 := by kernel_rfl
theorem fld114_1 : fieldC Try.prog 114 1 = some 1 := by kernel_rfl
theorem fld126_0 : fieldC Try.prog 126 0 = some 0 := by kernel_rfl
theorem fld126_1 : fieldC Try.prog 126 1 = some 1 := by kernel_rfl
theorem fld126_2 : fieldC Try.prog 126 2 = some 2 := by kernel_rfl
theorem fld126_3 : fieldC Try.prog 126 3 = some 3 := by kernel_rfl
theorem fld126_4 : fieldC Try.prog 126 4 = some 4 := by kernel_rfl
theorem fld26_0 : fieldC Try.prog 26 0 = some 0 := by kernel_rfl
theorem fld69_0 : fieldC Try.prog 69 0 = some 0 := by kernel_rfl
theorem fld69_1 : fieldC Try.prog 69 1 = some 1 := by kernel_rfl
theorem fld69_2 : fieldC Try.prog 69 2 = some 2 := by kernel_rfl
theorem one22 : oneC Try.prog 22 = true := by kernel_rfl
theorem one24 : oneC Try.prog 24 = true := by kernel_rfl
theorem one3 : oneC Try.prog 3 = true := by kernel_rfl
theorem one37 : oneC Try.prog 37 = true := by kernel_rfl
theorem one5 : oneC Try.prog 5 = true := by kernel_rfl
theorem one67 : oneC Try.prog 67 = true := by kernel_rfl
theorem siz114 : sizeC Try.prog 114 = some 2 := by kernel_rfl
theorem siz24 : sizeC Try.prog 24 = some 1 := by kernel_rfl
theorem siz26 : sizeC Try.prog 26 = some 1 := by kernel_rfl
theorem siz3 : sizeC Try.prog 3 = some 1 := by kernel_rfl
theorem siz37 : sizeC Try.prog 37 = some 1 := by kernel_rfl
theorem siz5 : sizeC Try.prog 5 = some 1 := by kernel_rfl
theorem siz67 : sizeC Try.prog 67 = some 1 := by kernel_rfl
theorem sli22 : Try.prog.underlying 22 = some (.slice 5) := by kernel_rfl
theorem sli24 : Try.prog.underlying 24 = some (.slice 37) := by kernel_rfl
theorem sli37 : Try.prog.underlying 37 = some (.slice 3) := by kernel_rfl
theorem zer114 : zeroC Try.prog 114 = some (Value.agg #[(Sl.v nilSl), (VI 0)]) := by kernel_rfl
theorem zer24 : zeroC Try.prog 24 = some (Sl.v nilSl) := by kernel_rfl
theorem zer26 : zeroC Try.prog 26 = some (Value.agg #[(Sl.v nilSl)]) := by kernel_rfl
theorem zer3 : zeroC Try.prog 3 = some (VI 0) := by kernel_rfl
/-! laws.FnTreesCounted -/
def u5 (P : Program) (code0_1 : Sl) (more1_1 : Sl) (h : Heap) (K : Value → Heap → Prop) : Prop :=
  callM P 6 #[(Sl.v code0_1), (Sl.v more1_1)] h fun rv_1 h_1 => ∃ t54_1 : Bool, rv_1 = (VB t54_1) ∧ Vars h_1 [] ∧
  (t54_1 = true →
  K (VB true) h_1) ∧
  (t54_1 = false →
  callM P 37 #[(Sl.v code0_1)] h_1 fun rv_2 h_2 => ∃ t57_1 : Sl, ∃ t57_2 : Int, rv_2 = (Value.tuple #[(Value.agg #[(Sl.v t57_1)]), (VI t57_2)]) ∧ Vars h_2 [] ∧
  ∀ (b_1 : Nat) (h_4 : Heap), h_2.size ≤ b_1 → Fr (In []) h_2 h_4 → Vars h_4 [(b_1, [(Sl.v t57_1)])] →
  callM P 38 #[(Value.agg #[(Sl.v t57_1)]), (VI t57_2)] h_4 fun rv_3 h_5 => ∃ t63_1 : Sl, ∃ t63_2 : Bool, rv_3 = (Value.tuple #[(Sl.v t63_1), (VB t63_2)]) ∧ Vars h_5 [(b_1, [(Sl.v t57_1)])] ∧
  callM P 39 #[(Value.agg #[(Sl.v t57_1)]), (VI t57_2)] h_5 fun rv_4 h_6 => ∃ t69_1 : Sl, ∃ t69_2 : Bool, rv_4 = (Value.tuple #[(Sl.v t69_1), (VB t69_2)]) ∧ Vars h_6 [(b_1, [(Sl.v t57_1)])] ∧
  callM P 40 #[(Value.agg #[(Sl.v t57_1)]), (VI t57_2)] h_6 fun rv_5 h_7 => ∃ t75_1 : Int, ∃ t75_2 : Bool, rv_5 = (Value.tuple #[(VI t75_1), (VB t75_2)]) ∧ Vars h_7 [(b_1, [(Sl.v t57_1)])] ∧
  callM P 41 #[(Value.agg #[(Sl.v t57_1)]), (VI t57_2)] h_7 fun rv_6 h_8 => ∃ t81_1 : Int, ∃ t81_2 : Bool, rv_6 = (Value.tuple #[(VI t81_1), (VB t81_2)]) ∧ Vars h_8 [(b_1, [(Sl.v t57_1)])] ∧
  callM P 42 #[(Value.agg #[(Sl.v t57_1)]), (VI t57_2)] h_8 fun rv_7 h_9 => ∃ t87_1 : Sl, ∃ t87_2 : Bool, rv_7 = (Value.tuple #[(Sl.v t87_1), (VB t87_2)]) ∧ Vars h_9 [(b_1, [(Sl.v t57_1)])] ∧
  callM P 43 #[(Value.agg #[(Sl.v t57_1)]), (VI t57_2)] h_9 fun rv_8 h_10 => ∃ t93_1 : Sl, ∃ t93_2 : Bool, rv_8 = (Value.tuple #[(Sl.v t93_1), (VB t93_2)]) ∧ Vars h_10 [(b_1, [(Sl.v t57_1)])] ∧
  callM P 44 #[(Value.agg #[(Sl.v t57_1)]), (VI t57_2)] h_10 fun rv_9 h_11 => ∃ t99_1 : Sl, ∃ t99_2 : Bool, rv_9 = (Value.tuple #[(Sl.v t99_1), (VB t99_2)]) ∧ Vars h_11 [(b_1, [(Sl.v t57_1)])] ∧
  callM P 45 #[(Value.agg #[(Sl.v t57_1)]), (VI t57_2)] h_11 fun rv_10 h_12 => ∃ t105_1 : Sl, ∃ t105_2 : Bool, rv_10 = (Value.tuple #[(Sl.v t105_1), (VB t105_2)]) ∧ Vars h_12 [(b_1, [(Sl.v t57_1)])] ∧
  ((!(t63_2 == t69_2)) = true →
  K (VB false) h_12) ∧
  ((!(t63_2 == t69_2)) = false →
  callM P 46 #[(Sl.v t63_1), (Sl.v t69_1)] h_12 fun rv_11 h_13 => ∃ t114_1 : Bool, rv_11 = (VB t114_1) ∧ Vars h_13 [(b_1, [(Sl.v t57_1)])] ∧
  ((!t114_1) = true →
  K (VB false) h_13) ∧
  ((!t114_1) = false →
  ((!(t75_2 == t81_2)) = true →
  K (VB false) h_13) ∧
  ((!(t75_2 == t81_2)) = false →
  ((!decide (t75_1 = t81_1)) = true →
  K (VB false) h_13) ∧
  ((!decide (t75_1 = t81_1)) = false →
  ((!(t87_2 == t93_2)) = true →
  K (VB false) h_13) ∧
  ((!(t87_2 == t93_2)) = false →
  callM P 46 #[(Sl.v t87_1), (Sl.v t93_1)] h_13 fun rv_12 h_14 => ∃ t135_1 : Bool, rv_12 = (VB t135_1) ∧ Vars h_14 [(b_1, [(Sl.v t57_1)])] ∧
  ((!t135_1) = true →
  K (VB false) h_14) ∧
  ((!t135_1) = false →
  ((!(t99_2 == t105_2)) = true →
  K (VB false) h_14) ∧
  ((!(t99_2 == t105_2)) = false →
  callM P 32 #[(Sl.v t99_1), (Sl.v t105_1)] h_14 fun rv_13 h_15 => ∃ t146_1 : Bool, rv_13 = (VB t146_1) ∧ Vars h_15 [(b_1, [(Sl.v t57_1)])] ∧
  ((!t146_1) = true →
  K (VB false) h_15) ∧
  ((!t146_1) = false →
  ((!(t87_2 == t75_2)) = true →
  K (VB false) h_15) ∧
  ((!(t87_2 == t75_2)) = false →
  (t63_2 = true →
  ((!t75_2) = true →
  K (VB false) h_15) ∧
  ((!t75_2) = false →
  ∃ J_1 : Heap → Prop, ((t75_2 = true →
  callM P 47 #[(Sl.v t87_1)] h_15 fun rv_14 h_16 => ∃ t164_1 : Int, ∃ t164_2 : Bool, rv_14 = (Value.tuple #[(VI t164_1), (VB t164_2)]) ∧ Vars h_16 [(b_1, [(Sl.v t57_1)])] ∧
  callM P 48 #[(Value.agg #[(Sl.v t57_1)]), (VI t57_2)] h_16 fun rv_15 h_17 => ∃ t170_1 : Bool, ∃ t170_2 : Bool, rv_15 = (Value.tuple #[(VB t170_1), (VB t170_2)]) ∧ Vars h_17 [(b_1, [(Sl.v t57_1)])] ∧
  ((!t164_2) = true →
  K (VB false) h_17) ∧
  ((!t164_2) = false →
  ((!decide (t164_1 = t75_1)) = true →
  K (VB false) h_17) ∧
  ((!decide (t164_1 = t75_1)) = false →
  ((decide (t75_1 < 0)) = true →
  K (VB false) h_17) ∧
  ((decide (t75_1 < 0)) = false →
  ((!t170_2) = true →
  K (VB false) h_17) ∧
  ((!t170_2) = false →
  ((!(t170_1 == (decide (0 < t75_1)))) = true →
  K (VB false) h_17) ∧
  ((!(t170_1 == (decide (0 < t75_1)))) = false →
  ((!(t99_2 == t170_1)) = true →
  K (VB false) h_17) ∧
  ((!(t99_2 == t170_1)) = false →
  ((!(t63_2 == (decide (t75_1 ≤ 300)))) = true →
  K (VB false) h_17) ∧
  ((!(t63_2 == (decide (t75_1 ≤ 300)))) = false →
  J_1  h_17)))))))) ∧
  (t75_2 = false →
  J_1  h_15)) ∧
  ∀ (h_18 : Heap), J_1  h_18 → Vars h_18 [(b_1, [(Sl.v t57_1)])] →
  ∃ J_2 : Heap → Prop, (∃ J_3 : Nat → Int → Heap → Prop, (∃ n0 : Nat, J_3 n0 0 h_18) ∧
  ∀ (n_1 : Nat) (t208_1 : Int) (h_19 : Heap), J_3 n_1 t208_1 h_19 → Vars h_19 [(b_1, [(Sl.v t57_1)])] →
  ((decide (t208_1 < (t63_1.n : Int))) = true →
  InB t63_1 t208_1 ∧
  ∃ t212_1 : Sl, hcell h_19 (Sl.at t63_1 t208_1 1) = some (Sl.v t212_1) ∧
  callM P 49 #[(Value.agg #[(Sl.v t57_1)]), (VI t57_2), (Sl.v t212_1)] h_19 fun rv_16 h_20 => ∃ t217_1 : Bool, ∃ t217_2 : Bool, rv_16 = (Value.tuple #[(VB t217_1), (VB t217_2)]) ∧ Vars h_20 [(b_1, [(Sl.v t57_1)])] ∧
  ((!t217_2) = true →
  K (VB false) h_20) ∧
  ((!t217_2) = false →
  ((!t217_1) = true →
  K (VB false) h_20) ∧
  ((!t217_1) = false →
  ((decide (0 < t208_1)) = true →
  InB t63_1 (w64 (t208_1 - 1)) ∧
  ∃ t234_1 : Sl, hcell h_20 (Sl.at t63_1 (w64 (t208_1 - 1)) 1) = some (Sl.v t234_1) ∧
  callM P 50 #[(Sl.v t234_1), (Sl.v t212_1)] h_20 fun rv_17 h_21 => ∃ t236_1 : Bool, rv_17 = (VB t236_1) ∧ Vars h_21 [(b_1, [(Sl.v t57_1)])] ∧
  ((!t236_1) = true →
  K (VB false) h_21) ∧
  ((!t236_1) = false →
  ∃ m : Nat, m < n_1 ∧ J_3 m (w64 (t208_1 + 1)) h_21)) ∧
  ((decide (0 < t208_1)) = false →
  ∃ m : Nat, m < n_1 ∧ J_3 m (w64 (t208_1 + 1)) h_20)))) ∧
  ((decide (t208_1 < (t63_1.n : Int))) = false →
  ((!decide ((t63_1.n : Int) = t75_1)) = true →
  K (VB false) h_19) ∧
  ((!decide ((t63_1.n : Int) = t75_1)) = false →
  (t99_2 = true →
  InB t63_1 0 ∧
  ∃ t251_1 : Sl, hcell h_19 (Sl.at t63_1 0 1) = some (Sl.v t251_1) ∧
  callM P 32 #[(Sl.v t99_1), (Sl.v t251_1)] h_19 fun rv_18 h_22 => ∃ t252_1 : Bool, rv_18 = (VB t252_1) ∧ Vars h_22 [(b_1, [(Sl.v t57_1)])] ∧
  ((!t252_1) = true →
  K (VB false) h_22) ∧
  ((!t252_1) = false →
  J_2  h_22)) ∧
  (t99_2 = false →
  J_2  h_19)))) ∧
  ∀ (h_23 : Heap), J_2  h_23 → Vars h_23 [(b_1, [(Sl.v t57_1)])] →
  callM P 51 #[(Sl.v more1_1)] h_23 fun rv_19 h_24 => ∃ t258_1 : Sl, ∃ t258_2 : Int, ∃ t258_3 : Sl, rv_19 = (Value.tuple #[(Value.agg #[(Sl.v t258_1)]), (VI t258_2), (Sl.v t258_3)]) ∧ Vars h_24 [(b_1, [(Sl.v t57_1)])] ∧
  ∀ (b_2 : Nat) (h_26 : Heap), h_24.size ≤ b_2 → Fr (In []) h_24 h_26 → Vars h_26 [(b_2, [(Sl.v t258_1)]), (b_1, [(Sl.v t57_1)])] →
  callM P 49 #[(Value.agg #[(Sl.v t258_1)]), (VI t258_2), (Sl.v t258_3)] h_26 fun rv_20 h_27 => ∃ t266_1 : Bool, ∃ t266_2 : Bool, rv_20 = (Value.tuple #[(VB t266_1), (VB t266_2)]) ∧ Vars h_27 [(b_2, [(Sl.v t258_1)]), (b_1, [(Sl.v t57_1)])] ∧
  callM P 52 #[(Value.agg #[(Sl.v t258_1)]), (VI t258_2), (Sl.v t258_3)] h_27 fun rv_21 h_28 => ∃ t273_1 : Bool, ∃ t273_2 : Bool, rv_21 = (Value.tuple #[(VB t273_1), (VB t273_2)]) ∧ Vars h_28 [(b_2, [(Sl.v t258_1)]), (b_1, [(Sl.v t57_1)])] ∧
  callM P 53 #[(Value.agg #[(Sl.v t258_1)]), (VI t258_2), (Sl.v t258_3)] h_28 fun rv_22 h_29 => ∃ t280_1 : Sl, ∃ t280_2 : Bool, rv_22 = (Value.tuple #[(Sl.v t280_1), (VB t280_2)]) ∧ Vars h_29 [(b_2, [(Sl.v t258_1)]), (b_1, [(Sl.v t57_1)])] ∧
  callM P 54 #[(Value.agg #[(Sl.v t258_1)]), (VI t258_2), (Sl.v t258_3)] h_29 fun rv_23 h_30 => ∃ t287_1 : Sl, ∃ t287_2 : Bool, rv_23 = (Value.tuple #[(Sl.v t287_1), (VB t287_2)]) ∧ Vars h_30 [(b_2, [(Sl.v t258_1)]), (b_1, [(Sl.v t57_1)])] ∧
  ((!(t266_2 == t273_2)) = true →
  K (VB false) h_30) ∧
  ((!(t266_2 == t273_2)) = false →
  ((!(t266_1 == t273_1)) = true →
  K (VB false) h_30) ∧
  ((!(t266_1 == t273_1)) = false →
  ((!(t280_2 == t287_2)) = true →
  K (VB false) h_30) ∧
  ((!(t280_2 == t287_2)) = false →
  callM P 32 #[(Sl.v t280_1), (Sl.v t287_1)] h_30 fun rv_24 h_31 => ∃ t306_1 : Bool, rv_24 = (VB t306_1) ∧ Vars h_31 [(b_2, [(Sl.v t258_1)]), (b_1, [(Sl.v t57_1)])] ∧
  ((!t306_1) = true →
  K (VB false) h_31) ∧
  ((!t306_1) = false →
  (t266_2 = true →
  ((!(t280_2 == t266_1)) = true →
  K (VB false) h_31) ∧
  ((!(t280_2 == t266_1)) = false →
  ∃ J_4 : Heap → Prop, ((t280_2 = true →
  ∃ J_5 : Nat → Int → Heap → Prop, (∃ n0 : Nat, J_5 n0 0 h_31) ∧
  ∀ (n_3 : Nat) (t320_1 : Int) (h_32 : Heap), J_5 n_3 t320_1 h_32 → Vars h_32 [(b_2, [(Sl.v t258_1)]), (b_1, [(Sl.v t57_1)])] →
  ((decide (t320_1 < (t280_1.n : Int))) = true →
  InB t280_1 t320_1 ∧
  ∃ t324_1 : Int, hcell h_32 (Sl.at t280_1 t320_1 1) = some (VI t324_1) ∧
  ((!((decide (t324_1 = 0)) == (decide (t320_1 = t258_2)))) = true →
  K (VB false) h_32) ∧
  ((!((decide (t324_1 = 0)) == (decide (t320_1 = t258_2)))) = false →
  ((decide (0 < t324_1)) = true →
  InB t258_1 t320_1 ∧
  ∃ t340_1 : Sl, hcell h_32 (Sl.at t258_1 t320_1 1) = some (Sl.v t340_1) ∧
  InB t258_3 t320_1 ∧
  ∃ t344_1 : Int, hcell h_32 (Sl.at t258_3 t320_1 1) = some (VI t344_1) ∧
  InB t340_1 t344_1 ∧
  ∃ t346_1 : Int, hcell h_32 (Sl.at t340_1 t344_1 1) = some (VI t346_1) ∧
  InB t280_1 t346_1 ∧
  ∃ t348_1 : Int, hcell h_32 (Sl.at t280_1 t346_1 1) = some (VI t348_1) ∧
  ((!decide (t348_1 = (w64 (t324_1 - 1)))) = true →
  K (VB false) h_32) ∧
  ((!decide (t348_1 = (w64 (t324_1 - 1)))) = false →
  ∃ m : Nat, m < n_3 ∧ J_5 m (w64 (t320_1 + 1)) h_32)) ∧
  ((decide (0 < t324_1)) = false →
  ∃ m : Nat, m < n_3 ∧ J_5 m (w64 (t320_1 + 1)) h_32))) ∧
  ((decide (t320_1 < (t280_1.n : Int))) = false →
  J_4  h_32)) ∧
  (t280_2 = false →
  J_4  h_31)) ∧
  ∀ (h_33 : Heap), J_4  h_33 → Vars h_33 [(b_2, [(Sl.v t258_1)]), (b_1, [(Sl.v t57_1)])] →
  callM P 55 #[(Sl.v more1_1)] h_33 fun rv_25 h_34 => ∃ t356_1 : Sl, rv_25 = (Sl.v t356_1) ∧ Vars h_34 [(b_2, [(Sl.v t258_1)]), (b_1, [(Sl.v t57_1)])] ∧
  callM P 47 #[(Sl.v t356_1)] h_34 fun rv_26 h_35 => ∃ t359_1 : Int, ∃ t359_2 : Bool, rv_26 = (Value.tuple #[(VI t359_1), (VB t359_2)]) ∧ Vars h_35 [(b_2, [(Sl.v t258_1)]), (b_1, [(Sl.v t57_1)])] ∧
  callM P 56 #[(Sl.v t356_1)] h_35 fun rv_27 h_36 => ∃ t364_1 : Int, ∃ t364_2 : Bool, rv_27 = (Value.tuple #[(VI t364_1), (VB t364_2)]) ∧ Vars h_36 [(b_2, [(Sl.v t258_1)]), (b_1, [(Sl.v t57_1)])] ∧
  ((!(t359_2 == t364_2)) = true →
  K (VB false) h_36) ∧
  ((!(t359_2 == t364_2)) = false →
  ((!decide (t359_1 = t364_1)) = true →
  K (VB false) h_36) ∧
  ((!decide (t359_1 = t364_1)) = false →
  (t359_2 = true →
  ((decide (2 ≤ (t356_1.n : Int))) = true →
  InB t356_1 1 ∧
  ∃ t383_1 : Sl, hcell h_36 (Sl.at t356_1 1 1) = some (Sl.v t383_1) ∧
  InB t356_1 0 ∧
  ∃ t386_1 : Sl, hcell h_36 (Sl.at t356_1 0 1) = some (Sl.v t386_1) ∧
  pop P (Instr.sliceAt 24 (Sl.v t356_1) (some (Value.int IntKind.i64 2)) none none) fun rv_28 => ∃ t389_1 : Sl, rv_28 = (Sl.v t389_1) ∧ 
  eop P (Instr.buildSlice 24 2 #[(0, (Sl.v t383_1)), (1, (Sl.v t386_1))]) h_36 fun rv_29 h_37 => ∃ t387_1 : Sl, rv_29 = (Sl.v t387_1) ∧ Vars h_37 [(b_2, [(Sl.v t258_1)]), (b_1, [(Sl.v t57_1)])] ∧
  eop P (appS 24 24 24 (Sl.v t387_1) (Sl.v t389_1)) h_37 fun rv_30 h_38 => ∃ t390_1 : Sl, rv_30 = (Sl.v t390_1) ∧ Vars h_38 [(b_2, [(Sl.v t258_1)]), (b_1, [(Sl.v t57_1)])] ∧
  callM P 47 #[(Sl.v t390_1)] h_38 fun rv_31 h_39 => ∃ t393_1 : Int, ∃ t393_2 : Bool, rv_31 = (Value.tuple #[(VI t393_1), (VB t393_2)]) ∧ Vars h_39 [(b_2, [(Sl.v t258_1)]), (b_1, [(Sl.v t57_1)])] ∧
  (t393_2 = true →
  K (VB (decide (t393_1 = (w64 (0 - t359_1))))) h_39) ∧
  (t393_2 = false →
  K (VB false) h_39)) ∧
  ((decide (2 ≤ (t356_1.n : Int))) = false →
  K (VB true) h_36)) ∧
  (t359_2 = false →
  K (VB true) h_36))))) ∧
  (t266_2 = false →
  ((!(t280_2 == false)) = true →
  K (VB false) h_31) ∧
  ((!(t280_2 == false)) = false →
  ∃ J_6 : Heap → Prop, ((t280_2 = true →
  ∃ J_7 : Nat → Int → Heap → Prop, (∃ n0 : Nat, J_7 n0 0 h_31) ∧
  ∀ (n_5 : Nat) (t320_2 : Int) (h_40 : Heap), J_7 n_5 t320_2 h_40 → Vars h_40 [(b_2, [(Sl.v t258_1)]), (b_1, [(Sl.v t57_1)])] →
  ((decide (t320_2 < (t280_1.n : Int))) = true →
  InB t280_1 t320_2 ∧
  ∃ t324_2 : Int, hcell h_40 (Sl.at t280_1 t320_2 1) = some (VI t324_2) ∧
  ((!((decide (t324_2 = 0)) == (decide (t320_2 = t258_2)))) = true →
  K (VB false) h_40) ∧
  ((!((decide (t324_2 = 0)) == (decide (t320_2 = t258_2)))) = false →
  ((decide (0 < t324_2)) = true →
  InB t258_1 t320_2 ∧
  ∃ t340_2 : Sl, hcell h_40 (Sl.at t258_1 t320_2 1) = some (Sl.v t340_2) ∧
  InB t258_3 t320_2 ∧
  ∃ t344_2 : Int, hcell h_40 (Sl.at t258_3 t320_2 1) = some (VI t344_2) ∧
  InB t340_2 t344_2 ∧
  ∃ t346_2 : Int, hcell h_40 (Sl.at t340_2 t344_2 1) = some (VI t346_2) ∧
  InB t280_1 t346_2 ∧
  ∃ t348_2 : Int, hcell h_40 (Sl.at t280_1 t346_2 1) = some (VI t348_2) ∧
  ((!decide (t348_2 = (w64 (t324_2 - 1)))) = true →
  K (VB false) h_40) ∧
  ((!decide (t348_2 = (w64 (t324_2 - 1)))) = false →
  ∃ m : Nat, m < n_5 ∧ J_7 m (w64 (t320_2 + 1)) h_40)) ∧
  ((decide (0 < t324_2)) = false →
  ∃ m : Nat, m < n_5 ∧ J_7 m (w64 (t320_2 + 1)) h_40))) ∧
  ((decide (t320_2 < (t280_1.n : Int))) = false →
  J_6  h_40)) ∧
  (t280_2 = false →
  J_6  h_31)) ∧
  ∀ (h_41 : Heap), J_6  h_41 → Vars h_41 [(b_2, [(Sl.v t258_1)]), (b_1, [(Sl.v t57_1)])] →
  callM P 55 #[(Sl.v more1_1)] h_41 fun rv_32 h_42 => ∃ t356_2 : Sl, rv_32 = (Sl.v t356_2) ∧ Vars h_42 [(b_2, [(Sl.v t258_1)]), (b_1, [(Sl.v t57_1)])] ∧
  callM P 47 #[(Sl.v t356_2)] h_42 fun rv_33 h_43 => ∃ t359_3 : Int, ∃ t359_4 : Bool, rv_33 = (Value.tuple #[(VI t359_3), (VB t359_4)]) ∧ Vars h_43 [(b_2, [(Sl.v t258_1)]), (b_1, [(Sl.v t57_1)])] ∧
  callM P 56 #[(Sl.v t356_2)] h_43 fun rv_34 h_44 => ∃ t364_3 : Int, ∃ t364_4 : Bool, rv_34 = (Value.tuple #[(VI t364_3), (VB t364_4)]) ∧ Vars h_44 [(b_2, [(Sl.v t258_1)]), (b_1, [(Sl.v t57_1)])] ∧
  ((!(t359_4 == t364_4)) = true →
  K (VB false) h_44) ∧
  ((!(t359_4 == t364_4)) = false →
  ((!decide (t359_3 = t364_3)) = true →
  K (VB false) h_44) ∧
  ((!decide (t359_3 = t364_3)) = false →
  (t359_4 = true →
  ((decide (2 ≤ (t356_2.n : Int))) = true →
  InB t356_2 1 ∧
  ∃ t383_2 : Sl, hcell h_44 (Sl.at t356_2 1 1) = some (Sl.v t383_2) ∧
  InB t356_2 0 ∧
  ∃ t386_2 : Sl, hcell h_44 (Sl.at t356_2 0 1) = some (Sl.v t386_2) ∧
  pop P (Instr.sliceAt 24 (Sl.v t356_2) (some (Value.int IntKind.i64 2)) none none) fun rv_35 => ∃ t389_2 : Sl, rv_35 = (Sl.v t389_2) ∧ 
  eop P (Instr.buildSlice 24 2 #[(0, (Sl.v t383_2)), (1, (Sl.v t386_2))]) h_44 fun rv_36 h_45 => ∃ t387_2 : Sl, rv_36 = (Sl.v t387_2) ∧ Vars h_45 [(b_2, [(Sl.v t258_1)]), (b_1, [(Sl.v t57_1)])] ∧
  eop P (appS 24 24 24 (Sl.v t387_2) (Sl.v t389_2)) h_45 fun rv_37 h_46 => ∃ t390_2 : Sl, rv_37 = (Sl.v t390_2) ∧ Vars h_46 [(b_2, [(Sl.v t258_1)]), (b_1, [(Sl.v t57_1)])] ∧
  callM P 47 #[(Sl.v t390_2)] h_46 fun rv_38 h_47 => ∃ t393_3 : Int, ∃ t393_4 : Bool, rv_38 = (Value.tuple #[(VI t393_3), (VB t393_4)]) ∧ Vars h_47 [(b_2, [(Sl.v t258_1)]), (b_1, [(Sl.v t57_1)])] ∧
  (t393_4 = true →
  K (VB (decide (t393_3 = (w64 (0 - t359_3))))) h_47) ∧
  (t393_4 = false →
  K (VB false) h_47)) ∧
  ((decide (2 ≤ (t356_2.n : Int))) = false →
  K (VB true) h_44)) ∧
  (t359_4 = false →
  K (VB true) h_44))))))))))) ∧
  (t63_2 = false →
  ∃ J_8 : Heap → Prop, ((t75_2 = true →
  callM P 47 #[(Sl.v t87_1)] h_15 fun rv_39 h_48 => ∃ t164_3 : Int, ∃ t164_4 : Bool, rv_39 = (Value.tuple #[(VI t164_3), (VB t164_4)]) ∧ Vars h_48 [(b_1, [(Sl.v t57_1)])] ∧
  callM P 48 #[(Value.agg #[(Sl.v t57_1)]), (VI t57_2)] h_48 fun rv_40 h_49 => ∃ t170_3 : Bool, ∃ t170_4 : Bool, rv_40 = (Value.tuple #[(VB t170_3), (VB t170_4)]) ∧ Vars h_49 [(b_1, [(Sl.v t57_1)])] ∧
  ((!t164_4) = true →
  K (VB false) h_49) ∧
  ((!t164_4) = false →
  ((!decide (t164_3 = t75_1)) = true →
  K (VB false) h_49) ∧
  ((!decide (t164_3 = t75_1)) = false →
  ((decide (t75_1 < 0)) = true →
  K (VB false) h_49) ∧
  ((decide (t75_1 < 0)) = false →
  ((!t170_4) = true →
  K (VB false) h_49) ∧
  ((!t170_4) = false →
  ((!(t170_3 == (decide (0 < t75_1)))) = true →
  K (VB false) h_49) ∧
  ((!(t170_3 == (decide (0 < t75_1)))) = false →
  ((!(t99_2 == t170_3)) = true →
  K (VB false) h_49) ∧
  ((!(t99_2 == t170_3)) = false →
  ((!(t63_2 == (decide (t75_1 ≤ 300)))) = true →
  K (VB false) h_49) ∧
  ((!(t63_2 == (decide (t75_1 ≤ 300)))) = false →
  J_8  h_49)))))))) ∧
  (t75_2 = false →
  J_8  h_15)) ∧
  ∀ (h_50 : Heap), J_8  h_50 → Vars h_50 [(b_1, [(Sl.v t57_1)])] →
  ∃ J_9 : Heap → Prop, (J_9  h_50) ∧
  ∀ (h_51 : Heap), J_9  h_51 → Vars h_51 [(b_1, [(Sl.v t57_1)])] →
  callM P 51 #[(Sl.v more1_1)] h_51 fun rv_41 h_52 => ∃ t258_4 : Sl, ∃ t258_5 : Int, ∃ t258_6 : Sl, rv_41 = (Value.tuple #[(Value.agg #[(Sl.v t258_4)]), (VI t258_5), (Sl.v t258_6)]) ∧ Vars h_52 [(b_1, [(Sl.v t57_1)])] ∧
  ∀ (b_3 : Nat) (h_54 : Heap), h_52.size ≤ b_3 → Fr (In []) h_52 h_54 → Vars h_54 [(b_3, [(Sl.v t258_4)]), (b_1, [(Sl.v t57_1)])] →
  callM P 49 #[(Value.agg #[(Sl.v t258_4)]), (VI t258_5), (Sl.v t258_6)] h_54 fun rv_42 h_55 => ∃ t266_3 : Bool, ∃ t266_4 : Bool, rv_42 = (Value.tuple #[(VB t266_3), (VB t266_4)]) ∧ Vars h_55 [(b_3, [(Sl.v t258_4)]), (b_1, [(Sl.v t57_1)])] ∧
  callM P 52 #[(Value.agg #[(Sl.v t258_4)]), (VI t258_5), (Sl.v t258_6)] h_55 fun rv_43 h_56 => ∃ t273_3 : Bool, ∃ t273_4 : Bool, rv_43 = (Value.tuple #[(VB t273_3), (VB t273_4)]) ∧ Vars h_56 [(b_3, [(Sl.v t258_4)]), (b_1, [(Sl.v t57_1)])] ∧
  callM P 53 #[(Value.agg #[(Sl.v t258_4)]), (VI t258_5), (Sl.v t258_6)] h_56 fun rv_44 h_57 => ∃ t280_3 : Sl, ∃ t280_4 : Bool, rv_44 = (Value.tuple #[(Sl.v t280_3), (VB t280_4)]) ∧ Vars h_57 [(b_3, [(Sl.v t258_4)]), (b_1, [(Sl.v t57_1)])] ∧
  callM P 54 #[(Value.agg #[(Sl.v t258_4)]), (VI t258_5), (Sl.v t258_6)] h_57 fun rv_45 h_58 => ∃ t287_3 : Sl, ∃ t287_4 : Bool, rv_45 = (Value.tuple #[(Sl.v t287_3), (VB t287_4)]) ∧ Vars h_58 [(b_3, [(Sl.v t258_4)]), (b_1, [(Sl.v t57_1)])] ∧
  ((!(t266_4 == t273_4)) = true →
  K (VB false) h_58) ∧
  ((!(t266_4 == t273_4)) = false →
  ((!(t266_3 == t273_3)) = true →
  K (VB false) h_58) ∧
  ((!(t266_3 == t273_3)) = false →
  ((!(t280_4 == t287_4)) = true →
  K (VB false) h_58) ∧
  ((!(t280_4 == t287_4)) = false →
  callM P 32 #[(Sl.v t280_3), (Sl.v t287_3)] h_58 fun rv_46 h_59 => ∃ t306_2 : Bool, rv_46 = (VB t306_2) ∧ Vars h_59 [(b_3, [(Sl.v t258_4)]), (b_1, [(Sl.v t57_1)])] ∧
  ((!t306_2) = true →
  K (VB false) h_59) ∧
  ((!t306_2) = false →
  (t266_4 = true →
  ((!(t280_4 == t266_3)) = true →
  K (VB false) h_59) ∧
  ((!(t280_4 == t266_3)) = false →
  ∃ J_10 : Heap → Prop, ((t280_4 = true →
  ∃ J_11 : Nat → Int → Heap → Prop, (∃ n0 : Nat, J_11 n0 0 h_59) ∧
  ∀ (n_7 : Nat) (t320_3 : Int) (h_60 : Heap), J_11 n_7 t320_3 h_60 → Vars h_60 [(b_3, [(Sl.v t258_4)]), (b_1, [(Sl.v t57_1)])] →
  ((decide (t320_3 < (t280_3.n : Int))) = true →
  InB t280_3 t320_3 ∧
  ∃ t324_3 : Int, hcell h_60 (Sl.at t280_3 t320_3 1) = some (VI t324_3) ∧
  ((!((decide (t324_3 = 0)) == (decide (t320_3 = t258_5)))) = true →
  K (VB false) h_60) ∧
  ((!((decide (t324_3 = 0)) == (decide (t320_3 = t258_5)))) = false →
  ((decide (0 < t324_3)) = true →
  InB t258_4 t320_3 ∧
  ∃ t340_3 : Sl, hcell h_60 (Sl.at t258_4 t320_3 1) = some (Sl.v t340_3) ∧
  InB t258_6 t320_3 ∧
  ∃ t344_3 : Int, hcell h_60 (Sl.at t258_6 t320_3 1) = some (VI t344_3) ∧
  InB t340_3 t344_3 ∧
  ∃ t346_3 : Int, hcell h_60 (Sl.at t340_3 t344_3 1) = some (VI t346_3) ∧
  InB t280_3 t346_3 ∧
  ∃ t348_3 : Int, hcell h_60 (Sl.at t280_3 t346_3 1) = some (VI t348_3) ∧
  ((!decide (t348_3 = (w64 (t324_3 - 1)))) = true →
  K (VB false) h_60) ∧
  ((!decide (t348_3 = (w64 (t324_3 - 1)))) = false →
  ∃ m : Nat, m < n_7 ∧ J_11 m (w64 (t320_3 + 1)) h_60)) ∧
  ((decide (0 < t324_3)) = false →
  ∃ m : Nat, m < n_7 ∧ J_11 m (w64 (t320_3 + 1)) h_60))) ∧
  ((decide (t320_3 < (t280_3.n : Int))) = false →
  J_10  h_60)) ∧
  (t280_4 = false →
  J_10  h_59)) ∧
  ∀ (h_61 : Heap), J_10  h_61 → Vars h_61 [(b_3, [(Sl.v t258_4)]), (b_1, [(Sl.v t57_1)])] →
  callM P 55 #[(Sl.v more1_1)] h_61 fun rv_47 h_62 => ∃ t356_3 : Sl, rv_47 = (Sl.v t356_3) ∧ Vars h_62 [(b_3, [(Sl.v t258_4)]), (b_1, [(Sl.v t57_1)])] ∧
  callM P 47 #[(Sl.v t356_3)] h_62 fun rv_48 h_63 => ∃ t359_5 : Int, ∃ t359_6 : Bool, rv_48 = (Value.tuple #[(VI t359_5), (VB t359_6)]) ∧ Vars h_63 [(b_3, [(Sl.v t258_4)]), (b_1, [(Sl.v t57_1)])] ∧
  callM P 56 #[(Sl.v t356_3)] h_63 fun rv_49 h_64 => ∃ t364_5 : Int, ∃ t364_6 : Bool, rv_49 = (Value.tuple #[(VI t364_5), (VB t364_6)]) ∧ Vars h_64 [(b_3, [(Sl.v t258_4)]), (b_1, [(Sl.v t57_1)])] ∧
  ((!(t359_6 == t364_6)) = true →
  K (VB false) h_64) ∧
  ((!(t359_6 == t364_6)) = false →
  ((!decide (t359_5 = t364_5)) = true →
  K (VB false) h_64) ∧
  ((!decide (t359_5 = t364_5)) = false →
  (t359_6 = true →
  ((decide (2 ≤ (t356_3.n : Int))) = true →
  InB t356_3 1 ∧
  ∃ t383_3 : Sl, hcell h_64 (Sl.at t356_3 1 1) = some (Sl.v t383_3) ∧
  InB t356_3 0 ∧
  ∃ t386_3 : Sl, hcell h_64 (Sl.at t356_3 0 1) = some (Sl.v t386_3) ∧
  pop P (Instr.sliceAt 24 (Sl.v t356_3) (some (Value.int IntKind.i64 2)) none none) fun rv_50 => ∃ t389_3 : Sl, rv_50 = (Sl.v t389_3) ∧ 
  eop P (Instr.buildSlice 24 2 #[(0, (Sl.v t383_3)), (1, (Sl.v t386_3))]) h_64 fun rv_51 h_65 => ∃ t387_3 : Sl, rv_51 = (Sl.v t387_3) ∧ Vars h_65 [(b_3, [(Sl.v t258_4)]), (b_1, [(Sl.v t57_1)])] ∧
  eop P (appS 24 24 24 (Sl.v t387_3) (Sl.v t389_3)) h_65 fun rv_52 h_66 => ∃ t390_3 : Sl, rv_52 = (Sl.v t390_3) ∧ Vars h_66 [(b_3, [(Sl.v t258_4)]), (b_1, [(Sl.v t57_1)])] ∧
  callM P 47 #[(Sl.v t390_3)] h_66 fun rv_53 h_67 => ∃ t393_5 : Int, ∃ t393_6 : Bool, rv_53 = (Value.tuple #[(VI t393_5), (VB t393_6)]) ∧ Vars h_67 [(b_3, [(Sl.v t258_4)]), (b_1, [(Sl.v t57_1)])] ∧
  (t393_6 = true →
  K (VB (decide (t393_5 = (w64 (0 - t359_5))))) h_67) ∧
  (t393_6 = false →
  K (VB false) h_67)) ∧
  ((decide (2 ≤ (t356_3.n : Int))) = false →
  K (VB true) h_64)) ∧
  (t359_6 = false →
  K (VB true) h_64))))) ∧
  (t266_4 = false →
  ((!(t280_4 == false)) = true →
  K (VB false) h_59) ∧
  ((!(t280_4 == false)) = false →
  ∃ J_12 : Heap → Prop, ((t280_4 = true →
  ∃ J_13 : Nat → Int → Heap → Prop, (∃ n0 : Nat, J_13 n0 0 h_59) ∧
  ∀ (n_9 : Nat) (t320_4 : Int) (h_68 : Heap), J_13 n_9 t320_4 h_68 → Vars h_68 [(b_3, [(Sl.v t258_4)]), (b_1, [(Sl.v t57_1)])] →
  ((decide (t320_4 < (t280_3.n : Int))) = true →
  InB t280_3 t320_4 ∧
  ∃ t324_4 : Int, hcell h_68 (Sl.at t280_3 t320_4 1) = some (VI t324_4) ∧
  ((!((decide (t324_4 = 0)) == (decide (t320_4 = t258_5)))) = true →
  K (VB false) h_68) ∧
  ((!((decide (t324_4 = 0)) == (decide (t320_4 = t258_5)))) = false →
  ((decide (0 < t324_4)) = true →
  InB t258_4 t320_4 ∧
  ∃ t340_4 : Sl, hcell h_68 (Sl.at t258_4 t320_4 1) = some (Sl.v t340_4) ∧
  InB t258_6 t320_4 ∧
  ∃ t344_4 : Int, hcell h_68 (Sl.at t258_6 t320_4 1) = some (VI t344_4) ∧
  InB t340_4 t344_4 ∧
  ∃ t346_4 : Int, hcell h_68 (Sl.at t340_4 t344_4 1) = some (VI t346_4) ∧
  InB t280_3 t346_4 ∧
  ∃ t348_4 : Int, hcell h_68 (Sl.at t280_3 t346_4 1) = some (VI t348_4) ∧
  ((!decide (t348_4 = (w64 (t324_4 - 1)))) = true →
  K (VB false) h_68) ∧
  ((!decide (t348_4 = (w64 (t324_4 - 1)))) = false →
  ∃ m : Nat, m < n_9 ∧ J_13 m (w64 (t320_4 + 1)) h_68)) ∧
  ((decide (0 < t324_4)) = false →
  ∃ m : Nat, m < n_9 ∧ J_13 m (w64 (t320_4 + 1)) h_68))) ∧
  ((decide (t320_4 < (t280_3.n : Int))) = false →
  J_12  h_68)) ∧
  (t280_4 = false →
  J_12  h_59)) ∧
  ∀ (h_69 : Heap), J_12  h_69 → Vars h_69 [(b_3, [(Sl.v t258_4)]), (b_1, [(Sl.v t57_1)])] →
  callM P 55 #[(Sl.v more1_1)] h_69 fun rv_54 h_70 => ∃ t356_4 : Sl, rv_54 = (Sl.v t356_4) ∧ Vars h_70 [(b_3, [(Sl.v t258_4)]), (b_1, [(Sl.v t57_1)])] ∧
  callM P 47 #[(Sl.v t356_4)] h_70 fun rv_55 h_71 => ∃ t359_7 : Int, ∃ t359_8 : Bool, rv_55 = (Value.tuple #[(VI t359_7), (VB t359_8)]) ∧ Vars h_71 [(b_3, [(Sl.v t258_4)]), (b_1, [(Sl.v t57_1)])] ∧
  callM P 56 #[(Sl.v t356_4)] h_71 fun rv_56 h_72 => ∃ t364_7 : Int, ∃ t364_8 : Bool, rv_56 = (Value.tuple #[(VI t364_7), (VB t364_8)]) ∧ Vars h_72 [(b_3, [(Sl.v t258_4)]), (b_1, [(Sl.v t57_1)])] ∧
  ((!(t359_8 == t364_8)) = true →
  K (VB false) h_72) ∧
  ((!(t359_8 == t364_8)) = false →
  ((!decide (t359_7 = t364_7)) = true →
  K (VB false) h_72) ∧
  ((!decide (t359_7 = t364_7)) = false →
  (t359_8 = true →
  ((decide (2 ≤ (t356_4.n : Int))) = true →
  InB t356_4 1 ∧
  ∃ t383_4 : Sl, hcell h_72 (Sl.at t356_4 1 1) = some (Sl.v t383_4) ∧
  InB t356_4 0 ∧
  ∃ t386_4 : Sl, hcell h_72 (Sl.at t356_4 0 1) = some (Sl.v t386_4) ∧
  pop P (Instr.sliceAt 24 (Sl.v t356_4) (some (Value.int IntKind.i64 2)) none none) fun rv_57 => ∃ t389_4 : Sl, rv_57 = (Sl.v t389_4) ∧ 
  eop P (Instr.buildSlice 24 2 #[(0, (Sl.v t383_4)), (1, (Sl.v t386_4))]) h_72 fun rv_58 h_73 => ∃ t387_4 : Sl, rv_58 = (Sl.v t387_4) ∧ Vars h_73 [(b_3, [(Sl.v t258_4)]), (b_1, [(Sl.v t57_1)])] ∧
  eop P (appS 24 24 24 (Sl.v t387_4) (Sl.v t389_4)) h_73 fun rv_59 h_74 => ∃ t390_4 : Sl, rv_59 = (Sl.v t390_4) ∧ Vars h_74 [(b_3, [(Sl.v t258_4)]), (b_1, [(Sl.v t57_1)])] ∧
  callM P 47 #[(Sl.v t390_4)] h_74 fun rv_60 h_75 => ∃ t393_7 : Int, ∃ t393_8 : Bool, rv_60 = (Value.tuple #[(VI t393_7), (VB t393_8)]) ∧ Vars h_75 [(b_3, [(Sl.v t258_4)]), (b_1, [(Sl.v t57_1)])] ∧
  (t393_8 = true →
  K (VB (decide (t393_7 = (w64 (0 - t359_7))))) h_75) ∧
  (t393_8 = false →
  K (VB false) h_75)) ∧
  ((decide (2 ≤ (t356_4.n : Int))) = false →
  K (VB true) h_72)) ∧
  (t359_8 = false →
  K (VB true) h_72))))))))))))))))))))
theorem v5 (code0_1 : Sl) (more1_1 : Sl) (h : Heap) (K : Value → Heap → Prop) (H : u5 Try.prog code0_1 more1_1 h K) : callM Try.prog 5 #[(Sl.v code0_1), (Sl.v more1_1)] h K := by
  refine c5 (Sl.v code0_1) (Sl.v more1_1) h K ?_
  unfold u5 at H
  unfold t5
  have hL : Vars h [] := .nil
  refine H.mono fun rv_1 h_1 H => ?_
  obtain ⟨t54_1, rfl, hL_1, H⟩ := H
  refine condM_b (fun hb_1 => ?_) (fun hb_1 => ?_)
  ·have H := H.1 hb_1
   exact H
  have H := H.2 hb_1
  refine H.mono fun rv_2 h_2 H => ?_
  obtain ⟨t57_1, t57_2, rfl, hL_2, H⟩ := H
  refine pop_ext (v := (Value.agg #[(Sl.v t57_1)])) rfl ?_
  refine pop_ext (v := (VI t57_2)) rfl ?_
  refine eop_alloc 26 zer26 rfl hL_2 (fun b_1 h_3 hb_2 hf_1 hL_3 => ?_)
  refine uop_loc siz26 hL_3 0 rfl 0 [(Sl.v t57_1)] rfl rfl rfl (Nat.le_of_ble_eq_true rfl) (L' := [(b_1, [(Sl.v t57_1)])]) rfl (fun h_4 hf_2 hL_4 => ?_)
  refine rop_locA agg26 hL_4 0 rfl 0 (vs := [(Sl.v t57_1)]) rfl rfl ?_
  have H := H b_1 h_4 (Nat.le_trans (Fr.size (Fr.r (In []) _)) hb_2) (Fr.new (Fr.no' (Fr.r (In []) _) hf_1) (Nat.le_trans (Fr.size (Fr.r (In []) _)) hb_2) hf_2) hL_4
  refine H.mono fun rv_3 h_5 H => ?_
  obtain ⟨t63_1, t63_2, rfl, hL_5, H⟩ := H
  refine pop_ext (v := (Sl.v t63_1)) rfl ?_
  refine pop_ext (v := (VB t63_2)) rfl ?_
  refine rop_locA agg26 hL_5 0 rfl 0 (vs := [(Sl.v t57_1)]) rfl rfl ?_
  refine H.mono fun rv_4 h_6 H => ?_
  obtain ⟨t69_1, t69_2, rfl, hL_6, H⟩ := H
  refine pop_ext (v := (Sl.v t69_1)) rfl ?_
  refine pop_ext (v := (VB t69_2)) rfl ?_
  refine rop_locA agg26 hL_6 0 rfl 0 (vs := [(Sl.v t57_1)]) rfl rfl ?_
  refine H.mono fun rv_5 h_7 H => ?_
  obtain ⟨t75_1, t75_2, rfl, hL_7, H⟩ := H
  refine pop_ext (v := (VI t75_1)) rfl ?_
  refine pop_ext (v := (VB t75_2)) rfl ?_
  refine rop_locA agg26 hL_7 0 rfl 0 (vs := [(Sl.v t57_1)]) rfl rfl ?_
  refine H.mono fun rv_6 h_8 H => ?_
  obtain ⟨t81_1, t81_2, rfl, hL_8, H⟩ := H
  refine pop_ext (v := (VI t81_1)) rfl ?_
  refine pop_ext (v := (VB t81_2)) rfl ?_
  refine rop_locA agg26 hL_8 0 rfl 0 (vs := [(Sl.v t57_1)]) rfl rfl ?_
  refine H.mono fun rv_7 h_9 H => ?_
  obtain ⟨t87_1, t87_2, rfl, hL_9, H⟩ := H
  refine pop_ext (v := (Sl.v t87_1)) rfl ?_
  refine pop_ext (v := (VB t87_2)) rfl ?_
  refine rop_locA agg26 hL_9 0 rfl 0 (vs := [(Sl.v t57_1)]) rfl rfl ?_
  refine H.mono fun rv_8 h_10 H => ?_
  obtain ⟨t93_1, t93_2, rfl, hL_10, H⟩ := H
  refine pop_ext (v := (Sl.v t93_1)) rfl ?_
  refine pop_ext (v := (VB t93_2)) rfl ?_
  refine rop_locA agg26 hL_10 0 rfl 0 (vs := [(Sl.v t57_1)]) rfl rfl ?_
  refine H.mono fun rv_9 h_11 H => ?_
  obtain ⟨t99_1, t99_2, rfl, hL_11, H⟩ := H
  refine pop_ext (v := (Sl.v t99_1)) rfl ?_
  refine pop_ext (v := (VB t99_2)) rfl ?_
  refine rop_locA agg26 hL_11 0 rfl 0 (vs := [(Sl.v t57_1)]) rfl rfl ?_
  refine H.mono fun rv_10 h_12 H => ?_
  obtain ⟨t105_1, t105_2, rfl, hL_12, H⟩ := H
  refine pop_ext (v := (Sl.v t105_1)) rfl ?_
  refine pop_ext (v := (VB t105_2)) rfl ?_
  refine pop_bne boo4 _ _ t63_2 t69_2 ?_
  refine guardM_sf (fun hb_3 => ?_) (fun hb_3 => ?_)
  rotate_left
  ·have H := H.1 hb_3
   refine guardM_n' hb_3 (by decide) ?_
   refine guardM_n' hb_3 (by decide) ?_
   refine guardM_n' hb_3 (by decide) ?_
   refine pop_pickt' hb_3 ?_
   refine guardM_n (by decide) ?_
   refine guardM_n (by decide) ?_
   refine guardM_n (by decide) ?_
   refine pop_pickt _ _ ?_
   refine guardM_n (by decide) ?_
   refine guardM_n (by decide) ?_
   refine guardM_n (by decide) ?_
   refine pop_pickt _ _ ?_
   refine guardM_n (by decide) ?_
   refine guardM_n (by decide) ?_
   refine guardM_n (by decide) ?_
   refine pop_pickt _ _ ?_
   refine guardM_n (by decide) ?_
   refine guardM_n (by decide) ?_
   refine guardM_n (by decide) ?_
   refine guardM_n (by decide) ?_
   refine pop_pickt _ _ ?_
   refine guardM_n (by decide) ?_
   refine guardM_n (by decide) ?_
   refine guardM_n (by decide) ?_
   refine pop_pickt _ _ ?_
   refine guardM_n (by decide) ?_
   refine guardM_n (by decide) ?_
   refine guardM_n (by decide) ?_
   refine guardM_n (by decide) ?_
   refine pop_pickt _ _ ?_
   refine guardM_n (by decide) ?_
   refine guardM_n (by decide) ?_
   refine guardM_n (by decide) ?_
   refine pop_pickt _ _ ?_
   refine guardM_n (by decide) ?_
   refine guardM_n (by decide) ?_
   refine guardM_n (by decide) ?_
   refine guardM_n (by decide) ?_
   refine guardM_n (by decide) ?_
   refine pop_pickt _ _ ?_
   refine condM_t ?_
   exact H
  have H := H.2 hb_3
  refine guardM_y' hb_3 ?_
  refine guardM_y' hb_3 ?_
  refine H.mono fun rv_11 h_13 H => ?_
  obtain ⟨t114_1, rfl, hL_13, H⟩ := H
  refine guardM_y' hb_3 ?_
  refine pop_not t114_1 ?_
  refine pop_pickf' hb_3 ?_
  refine guardM_sf (fun hb_4 => ?_) (fun hb_4 => ?_)
  rotate_left
  ·have H := H.1 hb_4
   refine guardM_n' hb_4 (by decide) ?_
   refine guardM_n' hb_4 (by decide) ?_
   refine pop_pickt' hb_4 ?_
   refine guardM_n (by decide) ?_
   refine guardM_n (by decide) ?_
   refine guardM_n (by decide) ?_
   refine pop_pickt _ _ ?_
   refine guardM_n (by decide) ?_
   refine guardM_n (by decide) ?_
   refine guardM_n (by decide) ?_
   refine pop_pickt _ _ ?_
   refine guardM_n (by decide) ?_
   refine guardM_n (by decide) ?_
   refine guardM_n (by decide) ?_
   refine guardM_n (by decide) ?_
   refine pop_pickt _ _ ?_
   refine guardM_n (by decide) ?_
   refine guardM_n (by decide) ?_
   refine guardM_n (by decide) ?_
   refine pop_pickt _ _ ?_
   refine guardM_n (by decide) ?_
   refine guardM_n (by decide) ?_
   refine guardM_n (by decide) ?_
   refine guardM_n (by decide) ?_
   refine pop_pickt _ _ ?_
   refine guardM_n (by decide) ?_
   refine guardM_n (by decide) ?_
   refine guardM_n (by decide) ?_
   refine pop_pickt _ _ ?_
   refine guardM_n (by decide) ?_
   refine guardM_n (by decide) ?_
   refine guardM_n (by decide) ?_
   refine guardM_n (by decide) ?_
   refine guardM_n (by decide) ?_
   refine pop_pickt _ _ ?_
   refine condM_t ?_
   exact H
  have H := H.2 hb_4
  refine guardM_y' hb_4 ?_
  refine guardM_y' hb_4 ?_
  refine pop_bne boo4 _ _ t75_2 t81_2 ?_
  refine pop_pickf' hb_4 ?_
  refine guardM_sf (fun hb_5 => ?_) (fun hb_5 => ?_)
  rotate_left
  ·have H := H.1 hb_5
   refine guardM_n' hb_5 (by decide) ?_
   refine guardM_n' hb_5 (by decide) ?_
   refine pop_pickt' hb_5 ?_
   refine guardM_n (by decide) ?_
   refine guardM_n (by decide) ?_
   refine guardM_n (by decide) ?_
   refine pop_pickt _ _ ?_
   refine guardM_n (by decide) ?_
   refine guardM_n (by decide) ?_
   refine guardM_n (by decide) ?_
   refine guardM_n (by decide) ?_
   refine pop_pickt _ _ ?_
   refine guardM_n (by decide) ?_
   refine guardM_n (by decide) ?_
   refine guardM_n (by decide) ?_
   refine pop_pickt _ _ ?_
   refine guardM_n (by decide) ?_
   refine guardM_n (by decide) ?_
   refine guardM_n (by decide) ?_
   refine guardM_n (by decide) ?_
   refine pop_pickt _ _ ?_
   refine guardM_n (by decide) ?_
   refine guardM_n (by decide) ?_
   refine guardM_n (by decide) ?_
   refine pop_pickt _ _ ?_
   refine guardM_n (by decide) ?_
   refine guardM_n (by decide) ?_
   refine guardM_n (by decide) ?_
   refine guardM_n (by decide) ?_
   refine guardM_n (by decide) ?_
   refine pop_pickt _ _ ?_
   refine condM_t ?_
   exact H
  have H := H.2 hb_5
  refine guardM_y' hb_5 ?_
  refine guardM_y' hb_5 ?_
  refine pop_ine .i64 _ _ t75_1 t81_1 ?_
  refine pop_pickf' hb_5 ?_
  refine guardM_sf (fun hb_6 => ?_) (fun hb_6 => ?_)
  rotate_left
  ·have H := H.1 hb_6
   refine guardM_n' hb_6 (by decide) ?_
   refine guardM_n' hb_6 (by decide) ?_
   refine pop_pickt' hb_6 ?_
   refine guardM_n (by decide) ?_
   refine guardM_n (by decide) ?_
   refine guardM_n (by decide) ?_
   refine guardM_n (by decide) ?_
   refine pop_pickt _ _ ?_
   refine guardM_n (by decide) ?_
   refine guardM_n (by decide) ?_
   refine guardM_n (by decide) ?_
   refine pop_pickt _ _ ?_
   refine guardM_n (by decide) ?_
   refine guardM_n (by decide) ?_
   refine guardM_n (by decide) ?_
   refine guardM_n (by decide) ?_
   refine pop_pickt _ _ ?_
   refine guardM_n (by decide) ?_
   refine guardM_n (by decide) ?_
   refine guardM_n (by decide) ?_
   refine pop_pickt _ _ ?_
   refine guardM_n (by decide) ?_
   refine guardM_n (by decide) ?_
   refine guardM_n (by decide) ?_
   refine guardM_n (by decide) ?_
   refine guardM_n (by decide) ?_
   refine pop_pickt _ _ ?_
   refine condM_t ?_
   exact H
  have H := H.2 hb_6
  refine guardM_y' hb_6 ?_
  refine guardM_y' hb_6 ?_
  refine pop_bne boo4 _ _ t87_2 t93_2 ?_
  refine pop_pickf' hb_6 ?_
  refine guardM_sf (fun hb_7 => ?_) (fun hb_7 => ?_)
  rotate_left
  ·have H := H.1 hb_7
   refine guardM_n' hb_7 (by decide) ?_
   refine guardM_n' hb_7 (by decide) ?_
   refine guardM_n' hb_7 (by decide) ?_
   refine pop_pickt' hb_7 ?_
   refine guardM_n (by decide) ?_
   refine guardM_n (by decide) ?_
   refine guardM_n (by decide) ?_
   refine pop_pickt _ _ ?_
   refine guardM_n (by decide) ?_
   refine guardM_n (by decide) ?_
   refine guardM_n (by decide) ?_
   refine guardM_n (by decide) ?_
   refine pop_pickt _ _ ?_
   refine guardM_n (by decide) ?_
   refine guardM_n (by decide) ?_
   refine guardM_n (by decide) ?_
   refine pop_pickt _ _ ?_
   refine guardM_n (by decide) ?_
   refine guardM_n (by decide) ?_
   refine guardM_n (by decide) ?_
   refine guardM_n (by decide) ?_
   refine guardM_n (by decide) ?_
   refine pop_pickt _ _ ?_
   refine condM_t ?_
   exact H
  have H := H.2 hb_7
  refine guardM_y' hb_7 ?_
  refine guardM_y' hb_7 ?_
  refine H.mono fun rv_12 h_14 H => ?_
  obtain ⟨t135_1, rfl, hL_14, H⟩ := H
  refine guardM_y' hb_7 ?_
  refine pop_not t135_1 ?_
  refine pop_pickf' hb_7 ?_
  refine guardM_sf (fun hb_8 => ?_) (fun hb_8 => ?_)
  rotate_left
  ·have H := H.1 hb_8
   refine guardM_n' hb_8 (by decide) ?_
   refine guardM_n' hb_8 (by decide) ?_
   refine pop_pickt' hb_8 ?_
   refine guardM_n (by decide) ?_
   refine guardM_n (by decide) ?_
   refine guardM_n (by decide) ?_
   refine guardM_n (by decide) ?_
   refine pop_pickt _ _ ?_
   refine guardM_n (by decide) ?_
   refine guardM_n (by decide) ?_
   refine guardM_n (by decide) ?_
   refine pop_pickt _ _ ?_
   refine guardM_n (by decide) ?_
   refine guardM_n (by decide) ?_
   refine guardM_n (by decide) ?_
   refine guardM_n (by decide) ?_
   refine guardM_n (by decide) ?_
   refine pop_pickt _ _ ?_
   refine condM_t ?_
   exact H
  have H := H.2 hb_8
  refine guardM_y' hb_8 ?_
  refine guardM_y' hb_8 ?_
  refine pop_bne boo4 _ _ t99_2 t105_2 ?_
  refine pop_pickf' hb_8 ?_
  refine guardM_sf (fun hb_9 => ?_) (fun hb_9 => ?_)
  rotate_left
  ·have H := H.1 hb_9
   refine guardM_n' hb_9 (by decide) ?_
   refine guardM_n' hb_9 (by decide) ?_
   refine guardM_n' hb_9 (by decide) ?_
   refine pop_pickt' hb_9 ?_
   refine guardM_n (by decide) ?_
   refine guardM_n (by decide) ?_
   refine guardM_n (by decide) ?_
   refine pop_pickt _ _ ?_
   refine guardM_n (by decide) ?_
   refine guardM_n (by decide) ?_
   refine guardM_n (by decide) ?_
   refine guardM_n (by decide) ?_
   refine guardM_n (by decide) ?_
   refine pop_pickt _ _ ?_
   refine condM_t ?_
   exact H
  have H := H.2 hb_9
  refine guardM_y' hb_9 ?_
  refine guardM_y' hb_9 ?_
  refine H.mono fun rv_13 h_15 H => ?_
  obtain ⟨t146_1, rfl, hL_15, H⟩ := H
  refine guardM_y' hb_9 ?_
  refine pop_not t146_1 ?_
  refine pop_pickf' hb_9 ?_
  refine guardM_sf (fun hb_10 => ?_) (fun hb_10 => ?_)
  rotate_left
  ·have H := H.1 hb_10
   refine guardM_n' hb_10 (by decide) ?_
   refine guardM_n' hb_10 (by decide) ?_
   refine pop_pickt' hb_10 ?_
   refine guardM_n (by decide) ?_
   refine guardM_n (by decide) ?_
   refine guardM_n (by decide) ?_
   refine guardM_n (by decide) ?_
   refine guardM_n (by decide) ?_
   refine pop_pickt _ _ ?_
   refine condM_t ?_
   exact H
  have H := H.2 hb_10
  refine guardM_y' hb_10 ?_
  refine guardM_y' hb_10 ?_
  refine pop_bne boo4 _ _ t87_2 t75_2 ?_
  refine pop_pickf' hb_10 ?_
  refine guardM_sf (fun hb_11 => ?_) (fun hb_11 => ?_)
  rotate_left
  ·have H := H.1 hb_11
   refine guardM_n' hb_11 (by decide) ?_
   refine guardM_n (by decide) ?_
   refine guardM_n (by decide) ?_
   refine guardM_n' hb_11 (by decide) ?_
   refine pop_pickt' hb_11 ?_
   refine condM_t ?_
   exact H
  have H := H.2 hb_11
  refine guardM_y' hb_11 ?_
  refine guardM_st (fun hb_12 => ?_) (fun hb_12 => ?_)
  rotate_left
  ·have H := H.2 hb_12
   refine guardM_n' hb_12 (by decide) ?_
   refine guardM_y' hb_11 ?_
   refine pop_pickf' hb_12 ?_
   refine pop_pickf' hb_11 ?_
   refine condM_f ?_
   obtain ⟨J_8, H, HB_13⟩ := H
   refine ⟨fun (vs : List Value) (h' : Heap) => vs = [] ∧ J_8  h' ∧ Vars h' [(b_1, [(Sl.v t57_1)])], ?_, ?_⟩
   ·refine condM_b (fun hb_58 => ?_) (fun hb_58 => ?_)
    rotate_left
    ·have H := H.2 hb_58
     exact ⟨rfl, H, hL_15⟩
    have H := H.1 hb_58
    refine H.mono fun rv_39 h_48 H => ?_
    obtain ⟨t164_3, t164_4, rfl, hL_48, H⟩ := H
    refine pop_ext (v := (VI t164_3)) rfl ?_
    refine pop_ext (v := (VB t164_4)) rfl ?_
    refine rop_locA agg26 hL_48 0 rfl 0 (vs := [(Sl.v t57_1)]) rfl rfl ?_
    refine H.mono fun rv_40 h_49 H => ?_
    obtain ⟨t170_3, t170_4, rfl, hL_49, H⟩ := H
    refine pop_ext (v := (VB t170_3)) rfl ?_
    refine pop_ext (v := (VB t170_4)) rfl ?_
    refine pop_not t164_4 ?_
    refine guardM_sf (fun hb_59 => ?_) (fun hb_59 => ?_)
    rotate_left
    ·have H := H.1 hb_59
     refine guardM_n' hb_59 (by decide) ?_
     refine guardM_n' hb_59 (by decide) ?_
     refine pop_pickt' hb_59 ?_
     refine guardM_n (by decide) ?_
     refine guardM_n (by decide) ?_
     refine pop_pickt _ _ ?_
     refine guardM_n (by decide) ?_
     refine guardM_n (by decide) ?_
     refine pop_pickt _ _ ?_
     refine guardM_n (by decide) ?_
     refine guardM_n (by decide) ?_
     refine guardM_n (by decide) ?_
     refine guardM_n (by decide) ?_
     refine pop_pickt _ _ ?_
     refine guardM_n (by decide) ?_
     refine guardM_n (by decide) ?_
     refine guardM_n (by decide) ?_
     refine pop_pickt _ _ ?_
     refine guardM_n (by decide) ?_
     refine guardM_n (by decide) ?_
     refine guardM_n (by decide) ?_
     refine guardM_n (by decide) ?_
     refine pop_pickt _ _ ?_
     refine condM_t ?_
     exact H
    have H := H.2 hb_59
    refine guardM_y' hb_59 ?_
    refine guardM_y' hb_59 ?_
    refine pop_ine .i64 _ _ t164_3 t75_1 ?_
    refine pop_pickf' hb_59 ?_
    refine guardM_sf (fun hb_60 => ?_) (fun hb_60 => ?_)
    rotate_left
    ·have H := H.1 hb_60
     refine guardM_n' hb_60 (by decide) ?_
     refine pop_pickt' hb_60 ?_
     refine guardM_n (by decide) ?_
     refine guardM_n (by decide) ?_
     refine pop_pickt _ _ ?_
     refine guardM_n (by decide) ?_
     refine guardM_n (by decide) ?_
     refine guardM_n (by decide) ?_
     refine guardM_n (by decide) ?_
     refine pop_pickt _ _ ?_
     refine guardM_n (by decide) ?_
     refine guardM_n (by decide) ?_
     refine guardM_n (by decide) ?_
     refine pop_pickt _ _ ?_
     refine guardM_n (by decide) ?_
     refine guardM_n (by decide) ?_
     refine guardM_n (by decide) ?_
     refine guardM_n (by decide) ?_
     refine pop_pickt _ _ ?_
     refine condM_t ?_
     exact H
    have H := H.2 hb_60
    refine guardM_y' hb_60 ?_
    refine pop_lss .i64 t75_1 0 ?_
    refine pop_pickf' hb_60 ?_
    refine guardM_sf (fun hb_61 => ?_) (fun hb_61 => ?_)
    rotate_left
    ·have H := H.1 hb_61
     refine guardM_n' hb_61 (by decide) ?_
     refine pop_pickt' hb_61 ?_
     refine guardM_n (by decide) ?_
     refine guardM_n (by decide) ?_
     refine guardM_n (by decide) ?_
     refine guardM_n (by decide) ?_
     refine pop_pickt _ _ ?_
     refine guardM_n (by decide) ?_
     refine guardM_n (by decide) ?_
     refine guardM_n (by decide) ?_
     refine pop_pickt _ _ ?_
     refine guardM_n (by decide) ?_
     refine guardM_n (by decide) ?_
     refine guardM_n (by decide) ?_
     refine guardM_n (by decide) ?_
     refine pop_pickt _ _ ?_
     refine condM_t ?_
     exact H
    have H := H.2 hb_61
    refine guardM_y' hb_61 ?_
    refine pop_not t170_4 ?_
    refine pop_pickf' hb_61 ?_
    refine guardM_sf (fun hb_62 => ?_) (fun hb_62 => ?_)
    rotate_left
    ·have H := H.1 hb_62
     refine guardM_n' hb_62 (by decide) ?_
     refine guardM_n' hb_62 (by decide) ?_
     refine guardM_n' hb_62 (by decide) ?_
     refine pop_pickt' hb_62 ?_
     refine guardM_n (by decide) ?_
     refine guardM_n (by decide) ?_
     refine guardM_n (by decide) ?_
     refine pop_pickt _ _ ?_
     refine guardM_n (by decide) ?_
     refine guardM_n (by decide) ?_
     refine guardM_n (by decide) ?_
     refine guardM_n (by decide) ?_
     refine pop_pickt _ _ ?_
     refine condM_t ?_
     exact H
    have H := H.2 hb_62
    refine guardM_y' hb_62 ?_
    refine guardM_y' hb_62 ?_
    refine pop_gtr .i64 t75_1 0 ?_
    refine guardM_y' hb_62 ?_
    refine pop_bne boo4 _ _ t170_3 (decide (0 < t75_1)) ?_
    refine pop_pickf' hb_62 ?_
    refine guardM_sf (fun hb_63 => ?_) (fun hb_63 => ?_)
    rotate_left
    ·have H := H.1 hb_63
     refine guardM_n' hb_63 (by decide) ?_
     refine guardM_n' hb_63 (by decide) ?_
     refine pop_pickt' hb_63 ?_
     refine guardM_n (by decide) ?_
     refine guardM_n (by decide) ?_
     refine guardM_n (by decide) ?_
     refine guardM_n (by decide) ?_
     refine pop_pickt _ _ ?_
     refine condM_t ?_
     exact H
    have H := H.2 hb_63
    refine guardM_y' hb_63 ?_
    refine guardM_y' hb_63 ?_
    refine pop_bne boo4 _ _ t99_2 t170_3 ?_
    refine pop_pickf' hb_63 ?_
    refine guardM_sf (fun hb_64 => ?_) (fun hb_64 => ?_)
    rotate_left
    ·have H := H.1 hb_64
     refine guardM_n' hb_64 (by decide) ?_
     refine guardM_n' hb_64 (by decide) ?_
     refine guardM_n' hb_64 (by decide) ?_
     refine pop_pickt' hb_64 ?_
     refine condM_t ?_
     exact H
    have H := H.2 hb_64
    refine guardM_y' hb_64 ?_
    refine guardM_y' hb_64 ?_
    refine pop_leq .i64 t75_1 300 ?_
    refine guardM_y' hb_64 ?_
    refine pop_bne boo4 _ _ t63_2 (decide (t75_1 ≤ 300)) ?_
    refine pop_pickf' hb_64 ?_
    refine condM_b (fun hb_65 => ?_) (fun hb_65 => ?_)
    ·have H := H.1 hb_65
     exact H
    have H := H.2 hb_65
    exact ⟨rfl, H, hL_49⟩
   intro junk_8  h_50
   rintro ⟨hv, hJ_8, hL_50⟩
   have H := HB_13  h_50 hJ_8 hL_50
   obtain ⟨J_9, H, HB_12⟩ := H
   refine ⟨fun (vs : List Value) (h' : Heap) => vs = [] ∧ J_9  h' ∧ Vars h' [(b_1, [(Sl.v t57_1)])], ?_, ?_⟩
   ·refine condM_f' hb_12 ?_
    exact ⟨rfl, H, hL_50⟩
   intro junk_9  h_51
   rintro ⟨hv, hJ_9, hL_51⟩
   have H := HB_12  h_51 hJ_9 hL_51
   refine H.mono fun rv_41 h_52 H => ?_
   obtain ⟨t258_4, t258_5, t258_6, rfl, hL_52, H⟩ := H
   refine pop_ext (v := (Value.agg #[(Sl.v t258_4)])) rfl ?_
   refine pop_ext (v := (VI t258_5)) rfl ?_
   refine pop_ext (v := (Sl.v t258_6)) rfl ?_
   refine eop_alloc 26 zer26 rfl hL_52 (fun b_3 h_53 hb_66 hf_5 hL_53 => ?_)
   refine uop_loc siz26 hL_53 0 rfl 0 [(Sl.v t258_4)] rfl rfl rfl (Nat.le_of_ble_eq_true rfl) (L' := [(b_3, [(Sl.v t258_4)]), (b_1, [(Sl.v t57_1)])]) rfl (fun h_54 hf_6 hL_54 => ?_)
   refine rop_locA agg26 hL_54 0 rfl 0 (vs := [(Sl.v t258_4)]) rfl rfl ?_
   have H := H b_3 h_54 (Nat.le_trans (Fr.size (Fr.r (In []) _)) hb_66) (Fr.new (Fr.no' (Fr.r (In []) _) hf_5) (Nat.le_trans (Fr.size (Fr.r (In []) _)) hb_66) hf_6) hL_54
   refine H.mono fun rv_42 h_55 H => ?_
   obtain ⟨t266_3, t266_4, rfl, hL_55, H⟩ := H
   refine pop_ext (v := (VB t266_3)) rfl ?_
   refine pop_ext (v := (VB t266_4)) rfl ?_
   refine rop_locA agg26 hL_55 0 rfl 0 (vs := [(Sl.v t258_4)]) rfl rfl ?_
   refine H.mono fun rv_43 h_56 H => ?_
   obtain ⟨t273_3, t273_4, rfl, hL_56, H⟩ := H
   refine pop_ext (v := (VB t273_3)) rfl ?_
   refine pop_ext (v := (VB t273_4)) rfl ?_
   refine rop_locA agg26 hL_56 0 rfl 0 (vs := [(Sl.v t258_4)]) rfl rfl ?_
   refine H.mono fun rv_44 h_57 H => ?_
   obtain ⟨t280_3, t280_4, rfl, hL_57, H⟩ := H
   refine pop_ext (v := (Sl.v t280_3)) rfl ?_
   refine pop_ext (v := (VB t280_4)) rfl ?_
   refine rop_locA agg26 hL_57 0 rfl 0 (vs := [(Sl.v t258_4)]) rfl rfl ?_
   refine H.mono fun rv_45 h_58 H => ?_
   obtain ⟨t287_3, t287_4, rfl, hL_58, H⟩ := H
   refine pop_ext (v := (Sl.v t287_3)) rfl ?_
   refine pop_ext (v := (VB t287_4)) rfl ?_
   refine pop_bne boo4 _ _ t266_4 t273_4 ?_
   refine guardM_sf (fun hb_67 => ?_) (fun hb_67 => ?_)
   rotate_left
   ·have H := H.1 hb_67
    refine guardM_n' hb_67 (by decide) ?_
    refine guardM_n' hb_67 (by decide) ?_
    refine pop_pickt' hb_67 ?_
    refine guardM_n (by decide) ?_
    refine guardM_n (by decide) ?_
    refine guardM_n (by decide) ?_
    refine pop_pickt _ _ ?_
    refine guardM_n (by decide) ?_
    refine guardM_n (by decide) ?_
    refine guardM_n (by decide) ?_
    refine guardM_n (by decide) ?_
    refine pop_pickt _ _ ?_
    refine guardM_n (by decide) ?_
    refine guardM_n (by decide) ?_
    refine guardM_n (by decide) ?_
    refine guardM_n (by decide) ?_
    refine guardM_n (by decide) ?_
    refine guardM_n (by decide) ?_
    refine pop_pickt _ _ ?_
    refine condM_t ?_
    exact H
   have H := H.2 hb_67
   refine guardM_y' hb_67 ?_
   refine guardM_y' hb_67 ?_
   refine pop_bne boo4 _ _ t266_3 t273_3 ?_
   refine pop_pickf' hb_67 ?_
   refine guardM_sf (fun hb_68 => ?_) (fun hb_68 => ?_)
   rotate_left
   ·have H := H.1 hb_68
    refine guardM_n' hb_68 (by decide) ?_
    refine guardM_n' hb_68 (by decide) ?_
    refine pop_pickt' hb_68 ?_
    refine guardM_n (by decide) ?_
    refine guardM_n (by decide) ?_
    refine guardM_n (by decide) ?_
    refine guardM_n (by decide) ?_
    refine pop_pickt _ _ ?_
    refine guardM_n (by decide) ?_
    refine guardM_n (by decide) ?_
    refine guardM_n (by decide) ?_
    refine guardM_n (by decide) ?_
    refine guardM_n (by decide) ?_
    refine guardM_n (by decide) ?_
    refine pop_pickt _ _ ?_
    refine condM_t ?_
    exact H
   have H := H.2 hb_68
   refine guardM_y' hb_68 ?_
   refine guardM_y' hb_68 ?_
   refine pop_bne boo4 _ _ t280_4 t287_4 ?_
   refine pop_pickf' hb_68 ?_
   refine guardM_sf (fun hb_69 => ?_) (fun hb_69 => ?_)
   rotate_left
   ·have H := H.1 hb_69
    refine guardM_n' hb_69 (by decide) ?_
    refine guardM_n' hb_69 (by decide) ?_
    refine guardM_n' hb_69 (by decide) ?_
    refine pop_pickt' hb_69 ?_
    refine guardM_n (by decide) ?_
    refine guardM_n (by decide) ?_
    refine guardM_n (by decide) ?_
    refine guardM_n (by decide) ?_
    refine guardM_n (by decide) ?_
    refine guardM_n (by decide) ?_
    refine pop_pickt _ _ ?_
    refine condM_t ?_
    exact H
   have H := H.2 hb_69
   refine guardM_y' hb_69 ?_
   refine guardM_y' hb_69 ?_
   refine H.mono fun rv_46 h_59 H => ?_
   obtain ⟨t306_2, rfl, hL_59, H⟩ := H
   refine guardM_y' hb_69 ?_
   refine pop_not t306_2 ?_
   refine pop_pickf' hb_69 ?_
   refine guardM_sf (fun hb_70 => ?_) (fun hb_70 => ?_)
   rotate_left
   ·have H := H.1 hb_70
    refine guardM_n' hb_70 (by decide) ?_
    refine guardM_n' hb_70 (by decide) ?_
    refine guardM_n (by decide) ?_
    refine guardM_n' hb_70 (by decide) ?_
    refine guardM_n' hb_70 (by decide) ?_
    refine pop_pickt' hb_70 ?_
    refine condM_t ?_
    exact H
   have H := H.2 hb_70
   refine guardM_y' hb_70 ?_
   refine guardM_y' hb_70 ?_
   refine guardM_st (fun hb_71 => ?_) (fun hb_71 => ?_)
   ·have H := H.1 hb_71
    refine guardM_y' hb_70 ?_
    refine pop_pickt' hb_71 ?_
    refine guardM_y' hb_70 ?_
    refine pop_bne boo4 _ _ t280_4 t266_3 ?_
    refine pop_pickf' hb_70 ?_
    refine condM_b (fun hb_72 => ?_) (fun hb_72 => ?_)
    ·have H := H.1 hb_72
     exact H
    have H := H.2 hb_72
    obtain ⟨J_10, H, HB_9⟩ := H
    refine ⟨fun (vs : List Value) (h' : Heap) => vs = [] ∧ J_10  h' ∧ Vars h' [(b_3, [(Sl.v t258_4)]), (b_1, [(Sl.v t57_1)])], ?_, ?_⟩
    ·refine condM_b (fun hb_73 => ?_) (fun hb_73 => ?_)
     rotate_left
     ·have H := H.2 hb_73
      exact ⟨rfl, H, hL_59⟩
     have H := H.1 hb_73
     refine pop_len t280_3 _ _ sli37 ?_
     obtain ⟨J_11, ⟨n_8, h0_4⟩, HB_8⟩ := H
     refine loop_intro (J := fun (n : Nat) (vs : List Value) (h' : Heap) => ∃ t320_3 : Int, vs = [(VI t320_3)] ∧ J_11 n t320_3 h' ∧ Vars h' [(b_3, [(Sl.v t258_4)]), (b_1, [(Sl.v t57_1)])]) n_8 ⟨0, rfl, h0_4, hL_59⟩ ?_
     intro I_4 mu_4 hI_4 junk_10 tv_4 h_60 hi_21
     obtain ⟨n_7, ⟨t320_3, hv, hJ_10, hL_60⟩, hn_4⟩ := hI_4 _ _ hi_21
     cases hv
     have H := HB_8 n_7 t320_3 h_60 hJ_10 hL_60
     refine pop_lss .i64 t320_3 (t280_3.n : Int) ?_
     refine condM_b (fun hb_74 => ?_) (fun hb_74 => ?_)
     rotate_left
     ·have H := H.2 hb_74
      exact ⟨rfl, H, hL_60⟩
     have H := H.1 hb_74
     obtain ⟨hi_22, H⟩ := H
     refine pop_index sli37 siz3 .i64 t280_3 t320_3 hi_22 ?_
     obtain ⟨t324_3, hc_22, H⟩ := H
     refine rop_one one3 (VI t324_3) hc_22 ?_
     refine pop_ieq .i64 _ _ t324_3 0 ?_
     refine pop_ieq .i64 _ _ t320_3 t258_5 ?_
     refine pop_bne boo4 _ _ (decide (t324_3 = 0)) (decide (t320_3 = t258_5)) ?_
     refine guardM_sf (fun hb_75 => ?_) (fun hb_75 => ?_)
     rotate_left
     ·have H := H.1 hb_75
      refine guardM_n' hb_75 (by decide) ?_
      refine guardM_n' hb_75 (by decide) ?_
      refine guardM_n (by decide) ?_
      refine guardM_n (by decide) ?_
      refine guardM_n (by decide) ?_
      refine guardM_n (by decide) ?_
      refine guardM_n (by decide) ?_
      refine guardM_n (by decide) ?_
      refine guardM_n (by decide) ?_
      refine guardM_n (by decide) ?_
      refine guardM_n (by decide) ?_
      refine guardM_n (by decide) ?_
      refine guardM_n (by decide) ?_
      refine guardM_n (by decide) ?_
      refine guardM_n (by decide) ?_
      refine guardM_n (by decide) ?_
      refine guardM_n (by decide) ?_
      refine guardM_n (by decide) ?_
      refine guardM_n (by decide) ?_
      refine guardM_n' hb_75 (by decide) ?_
      refine pop_pickt' hb_75 ?_
      refine condM_t ?_
      exact H
     have H := H.2 hb_75
     refine guardM_y' hb_75 ?_
     refine pop_gtr .i64 t324_3 0 ?_
     refine guardM_y' hb_75 ?_
     refine guardM_st (fun hb_76 => ?_) (fun hb_76 => ?_)
     rotate_left
     ·have H := H.2 hb_76
      refine guardM_n' hb_76 (by decide) ?_
      refine guardM_n' hb_76 (by decide) ?_
      refine guardM_n' hb_76 (by decide) ?_
      refine guardM_n' hb_76 (by decide) ?_
      refine guardM_n' hb_76 (by decide) ?_
      refine guardM_n' hb_76 (by decide) ?_
      refine guardM_n' hb_76 (by decide) ?_
      refine guardM_n' hb_76 (by decide) ?_
      refine guardM_n' hb_76 (by decide) ?_
      refine guardM_n' hb_76 (by decide) ?_
      refine guardM_n' hb_76 (by decide) ?_
      refine guardM_n' hb_76 (by decide) ?_
      refine guardM_n' hb_76 (by decide) ?_
      refine guardM_n' hb_76 (by decide) ?_
      refine guardM_n' hb_76 (by decide) ?_
      refine guardM_n' hb_76 (by decide) ?_
      refine guardM_y' hb_75 ?_
      refine pop_pickf' hb_76 ?_
      refine pop_pickf' hb_75 ?_
      refine condM_f ?_
      refine pop_add .i64 t320_3 1 ?_
      obtain ⟨m_8, hm_8, H⟩ := H
      exact hn_4 _ _ ⟨m_8, hm_8, (w64 (t320_3 + 1)), rfl, H, hL_60⟩
     have H := H.1 hb_76
     refine guardM_y' hb_76 ?_
     refine pop_field 0 fld26_0 b_3 0 ?_
     refine guardM_y' hb_76 ?_
     refine rop_loc one24 hL_60 0 rfl 0 (v := (Sl.v t258_4)) rfl ?_
     refine guardM_y' hb_76 ?_
     refine guardM_y' hb_76 ?_
     obtain ⟨hi_23, H⟩ := H
     refine pop_index sli24 siz37 .i64 t258_4 t320_3 hi_23 ?_
     refine guardM_y' hb_76 ?_
     obtain ⟨t340_3, hc_21, H⟩ := H
     refine rop_one one37 (Sl.v t340_3) hc_21 ?_
     refine guardM_y' hb_76 ?_
     refine guardM_y' hb_76 ?_
     refine guardM_y' hb_76 ?_
     obtain ⟨hi_24, H⟩ := H
     refine pop_index sli37 siz3 .i64 t258_6 t320_3 hi_24 ?_
     refine guardM_y' hb_76 ?_
     obtain ⟨t344_3, hc_20, H⟩ := H
     refine rop_one one3 (VI t344_3) hc_20 ?_
     refine guardM_y' hb_76 ?_
     obtain ⟨hi_25, H⟩ := H
     refine pop_index sli37 siz3 .i64 t340_3 t344_3 hi_25 ?_
     refine guardM_y' hb_76 ?_
     obtain ⟨t346_3, hc_19, H⟩ := H
     refine rop_one one3 (VI t346_3) hc_19 ?_
     refine guardM_y' hb_76 ?_
     obtain ⟨hi_26, H⟩ := H
     refine pop_index sli37 siz3 .i64 t280_3 t346_3 hi_26 ?_
     refine guardM_y' hb_76 ?_
     obtain ⟨t348_3, hc_18, H⟩ := H
     refine rop_one one3 (VI t348_3) hc_18 ?_
     refine guardM_y' hb_76 ?_
     refine guardM_y' hb_76 ?_
     refine pop_sub .i64 t324_3 1 ?_
     refine guardM_y' hb_76 ?_
     refine pop_ine .i64 _ _ t348_3 (w64 (t324_3 - 1)) ?_
     refine guardM_y' hb_75 ?_
     refine pop_pickt' hb_76 ?_
     refine pop_pickf' hb_75 ?_
     refine condM_b (fun hb_77 => ?_) (fun hb_77 => ?_)
     ·have H := H.1 hb_77
      exact H
     have H := H.2 hb_77
     refine pop_add .i64 t320_3 1 ?_
     obtain ⟨m_7, hm_7, H⟩ := H
     exact hn_4 _ _ ⟨m_7, hm_7, (w64 (t320_3 + 1)), rfl, H, hL_60⟩
    intro junk_11  h_61
    rintro ⟨hv, hJ_11, hL_61⟩
    have H := HB_9  h_61 hJ_11 hL_61
    refine H.mono fun rv_47 h_62 H => ?_
    obtain ⟨t356_3, rfl, hL_62, H⟩ := H
    refine H.mono fun rv_48 h_63 H => ?_
    obtain ⟨t359_5, t359_6, rfl, hL_63, H⟩ := H
    refine pop_ext (v := (VI t359_5)) rfl ?_
    refine pop_ext (v := (VB t359_6)) rfl ?_
    refine H.mono fun rv_49 h_64 H => ?_
    obtain ⟨t364_5, t364_6, rfl, hL_64, H⟩ := H
    refine pop_ext (v := (VI t364_5)) rfl ?_
    refine pop_ext (v := (VB t364_6)) rfl ?_
    refine pop_bne boo4 _ _ t359_6 t364_6 ?_
    refine guardM_sf (fun hb_78 => ?_) (fun hb_78 => ?_)
    rotate_left
    ·have H := H.1 hb_78
     refine guardM_n' hb_78 (by decide) ?_
     refine guardM_n' hb_78 (by decide) ?_
     refine pop_pickt' hb_78 ?_
     refine condM_t ?_
     exact H
    have H := H.2 hb_78
    refine guardM_y' hb_78 ?_
    refine guardM_y' hb_78 ?_
    refine pop_ine .i64 _ _ t359_5 t364_5 ?_
    refine pop_pickf' hb_78 ?_
    refine condM_b (fun hb_79 => ?_) (fun hb_79 => ?_)
    ·have H := H.1 hb_79
     exact H
    have H := H.2 hb_79
    refine guardM_st (fun hb_80 => ?_) (fun hb_80 => ?_)
    rotate_left
    ·have H := H.2 hb_80
     refine guardM_n' hb_80 (by decide) ?_
     refine guardM_n' hb_80 (by decide) ?_
     refine pop_pickf' hb_80 ?_
     refine condM_f ?_
     exact H
    have H := H.1 hb_80
    refine guardM_y' hb_80 ?_
    refine pop_len t356_3 _ _ sli24 ?_
    refine guardM_y' hb_80 ?_
    refine pop_geq .i64 (t356_3.n : Int) 2 ?_
    refine pop_pickt' hb_80 ?_
    refine condM_b (fun hb_81 => ?_) (fun hb_81 => ?_)
    rotate_left
    ·have H := H.2 hb_81
     exact H
    have H := H.1 hb_81
    obtain ⟨hi_27, H⟩ := H
    refine pop_index sli24 siz37 .i64 t356_3 1 hi_27 ?_
    obtain ⟨t383_3, hc_24, H⟩ := H
    refine rop_one one37 (Sl.v t383_3) hc_24 ?_
    obtain ⟨hi_28, H⟩ := H
    refine pop_index sli24 siz37 .i64 t356_3 0 hi_28 ?_
    obtain ⟨t386_3, hc_23, H⟩ := H
    refine rop_one one37 (Sl.v t386_3) hc_23 ?_
    refine H.mono fun rv_50 H => ?_
    obtain ⟨t389_3, rfl, H⟩ := H
    refine H.mono fun rv_51 h_65 H => ?_
    obtain ⟨t387_3, rfl, hL_65, H⟩ := H
    refine H.mono fun rv_52 h_66 H => ?_
    obtain ⟨t390_3, rfl, hL_66, H⟩ := H
    refine H.mono fun rv_53 h_67 H => ?_
    obtain ⟨t393_5, t393_6, rfl, hL_67, H⟩ := H
    refine pop_ext (v := (VI t393_5)) rfl ?_
    refine pop_ext (v := (VB t393_6)) rfl ?_
    refine guardM_st (fun hb_82 => ?_) (fun hb_82 => ?_)
    rotate_left
    ·have H := H.2 hb_82
     refine guardM_n' hb_82 (by decide) ?_
     refine guardM_n' hb_82 (by decide) ?_
     refine guardM_n' hb_82 (by decide) ?_
     refine pop_pickf' hb_82 ?_
     exact H
    have H := H.1 hb_82
    refine guardM_y' hb_82 ?_
    refine guardM_y' hb_82 ?_
    refine pop_neg .i64 t359_5 ?_
    refine guardM_y' hb_82 ?_
    refine pop_ieq .i64 _ _ t393_5 (w64 (0 - t359_5)) ?_
    refine pop_pickt' hb_82 ?_
    exact H
   have H := H.2 hb_71
   refine guardM_y' hb_70 ?_
   refine pop_pickf' hb_71 ?_
   refine guardM_y' hb_70 ?_
   refine pop_bne boo4 _ _ t280_4 false ?_
   refine pop_pickf' hb_70 ?_
   refine condM_b (fun hb_83 => ?_) (fun hb_83 => ?_)
   ·have H := H.1 hb_83
    exact H
   have H := H.2 hb_83
   obtain ⟨J_12, H, HB_11⟩ := H
   refine ⟨fun (vs : List Value) (h' : Heap) => vs = [] ∧ J_12  h' ∧ Vars h' [(b_3, [(Sl.v t258_4)]), (b_1, [(Sl.v t57_1)])], ?_, ?_⟩
   ·refine condM_b (fun hb_84 => ?_) (fun hb_84 => ?_)
    rotate_left
    ·have H := H.2 hb_84
     exact ⟨rfl, H, hL_59⟩
    have H := H.1 hb_84
    refine pop_len t280_3 _ _ sli37 ?_
    obtain ⟨J_13, ⟨n_10, h0_5⟩, HB_10⟩ := H
    refine loop_intro (J := fun (n : Nat) (vs : List Value) (h' : Heap) => ∃ t320_4 : Int, vs = [(VI t320_4)] ∧ J_13 n t320_4 h' ∧ Vars h' [(b_3, [(Sl.v t258_4)]), (b_1, [(Sl.v t57_1)])]) n_10 ⟨0, rfl, h0_5, hL_59⟩ ?_
    intro I_5 mu_5 hI_5 junk_12 tv_5 h_68 hi_29
    obtain ⟨n_9, ⟨t320_4, hv, hJ_12, hL_68⟩, hn_5⟩ := hI_5 _ _ hi_29
    cases hv
    have H := HB_10 n_9 t320_4 h_68 hJ_12 hL_68
    refine pop_lss .i64 t320_4 (t280_3.n : Int) ?_
    refine condM_b (fun hb_85 => ?_) (fun hb_85 => ?_)
    rotate_left
    ·have H := H.2 hb_85
     exact ⟨rfl, H, hL_68⟩
    have H := H.1 hb_85
    obtain ⟨hi_30, H⟩ := H
    refine pop_index sli37 siz3 .i64 t280_3 t320_4 hi_30 ?_
    obtain ⟨t324_4, hc_29, H⟩ := H
    refine rop_one one3 (VI t324_4) hc_29 ?_
    refine pop_ieq .i64 _ _ t324_4 0 ?_
    refine pop_ieq .i64 _ _ t320_4 t258_5 ?_
    refine pop_bne boo4 _ _ (decide (t324_4 = 0)) (decide (t320_4 = t258_5)) ?_
    refine guardM_sf (fun hb_86 => ?_) (fun hb_86 => ?_)
    rotate_left
    ·have H := H.1 hb_86
     refine guardM_n' hb_86 (by decide) ?_
     refine guardM_n' hb_86 (by decide) ?_
     refine guardM_n (by decide) ?_
     refine guardM_n (by decide) ?_
     refine guardM_n (by decide) ?_
     refine guardM_n (by decide) ?_
     refine guardM_n (by decide) ?_
     refine guardM_n (by decide) ?_
     refine guardM_n (by decide) ?_
     refine guardM_n (by decide) ?_
     refine guardM_n (by decide) ?_
     refine guardM_n (by decide) ?_
     refine guardM_n (by decide) ?_
     refine guardM_n (by decide) ?_
     refine guardM_n (by decide) ?_
     refine guardM_n (by decide) ?_
     refine guardM_n (by decide) ?_
     refine guardM_n (by decide) ?_
     refine guardM_n (by decide) ?_
     refine guardM_n' hb_86 (by decide) ?_
     refine pop_pickt' hb_86 ?_
     refine condM_t ?_
     exact H
    have H := H.2 hb_86
    refine guardM_y' hb_86 ?_
    refine pop_gtr .i64 t324_4 0 ?_
    refine guardM_y' hb_86 ?_
    refine guardM_st (fun hb_87 => ?_) (fun hb_87 => ?_)
    rotate_left
    ·have H := H.2 hb_87
     refine guardM_n' hb_87 (by decide) ?_
     refine guardM_n' hb_87 (by decide) ?_
     refine guardM_n' hb_87 (by decide) ?_
     refine guardM_n' hb_87 (by decide) ?_
     refine guardM_n' hb_87 (by decide) ?_
     refine guardM_n' hb_87 (by decide) ?_
     refine guardM_n' hb_87 (by decide) ?_
     refine guardM_n' hb_87 (by decide) ?_
     refine guardM_n' hb_87 (by decide) ?_
     refine guardM_n' hb_87 (by decide) ?_
     refine guardM_n' hb_87 (by decide) ?_
     refine guardM_n' hb_87 (by decide) ?_
     refine guardM_n' hb_87 (by decide) ?_
     refine guardM_n' hb_87 (by decide) ?_
     refine guardM_n' hb_87 (by decide) ?_
     refine guardM_n' hb_87 (by decide) ?_
     refine guardM_y' hb_86 ?_
     refine pop_pickf' hb_87 ?_
     refine pop_pickf' hb_86 ?_
     refine condM_f ?_
     refine pop_add .i64 t320_4 1 ?_
     obtain ⟨m_10, hm_10, H⟩ := H
     exact hn_5 _ _ ⟨m_10, hm_10, (w64 (t320_4 + 1)), rfl, H, hL_68⟩
    have H := H.1 hb_87
    refine guardM_y' hb_87 ?_
    refine pop_field 0 fld26_0 b_3 0 ?_
    refine guardM_y' hb_87 ?_
    refine rop_loc one24 hL_68 0 rfl 0 (v := (Sl.v t258_4)) rfl ?_
    refine guardM_y' hb_87 ?_
    refine guardM_y' hb_87 ?_
    obtain ⟨hi_31, H⟩ := H
    refine pop_index sli24 siz37 .i64 t258_4 t320_4 hi_31 ?_
    refine guardM_y' hb_87 ?_
    obtain ⟨t340_4, hc_28, H⟩ := H
    refine rop_one one37 (Sl.v t340_4) hc_28 ?_
    refine guardM_y' hb_87 ?_
    refine guardM_y' hb_87 ?_
    refine guardM_y' hb_87 ?_
    obtain ⟨hi_32, H⟩ := H
    refine pop_index sli37 siz3 .i64 t258_6 t320_4 hi_32 ?_
    refine guardM_y' hb_87 ?_
    obtain ⟨t344_4, hc_27, H⟩ := H
    refine rop_one one3 (VI t344_4) hc_27 ?_
    refine guardM_y' hb_87 ?_
    obtain ⟨hi_33, H⟩ := H
    refine pop_index sli37 siz3 .i64 t340_4 t344_4 hi_33 ?_
    refine guardM_y' hb_87 ?_
    obtain ⟨t346_4, hc_26, H⟩ := H
    refine rop_one one3 (VI t346_4) hc_26 ?_
    refine guardM_y' hb_87 ?_
    obtain ⟨hi_34, H⟩ := H
    refine pop_index sli37 siz3 .i64 t280_3 t346_4 hi_34 ?_
    refine guardM_y' hb_87 ?_
    obtain ⟨t348_4, hc_25, H⟩ := H
    refine rop_one one3 (VI t348_4) hc_25 ?_
    refine guardM_y' hb_87 ?_
    refine guardM_y' hb_87 ?_
    refine pop_sub .i64 t324_4 1 ?_
    refine guardM_y' hb_87 ?_
    refine pop_ine .i64 _ _ t348_4 (w64 (t324_4 - 1)) ?_
    refine guardM_y' hb_86 ?_
    refine pop_pickt' hb_87 ?_
    refine pop_pickf' hb_86 ?_
    refine condM_b (fun hb_88 => ?_) (fun hb_88 => ?_)
    ·have H := H.1 hb_88
     exact H
    have H := H.2 hb_88
    refine pop_add .i64 t320_4 1 ?_
    obtain ⟨m_9, hm_9, H⟩ := H
    exact hn_5 _ _ ⟨m_9, hm_9, (w64 (t320_4 + 1)), rfl, H, hL_68⟩
   intro junk_13  h_69
   rintro ⟨hv, hJ_13, hL_69⟩
   have H := HB_11  h_69 hJ_13 hL_69
   refine H.mono fun rv_54 h_70 H => ?_
   obtain ⟨t356_4, rfl, hL_70, H⟩ := H
   refine H.mono fun rv_55 h_71 H => ?_
   obtain ⟨t359_7, t359_8, rfl, hL_71, H⟩ := H
   refine pop_ext (v := (VI t359_7)) rfl ?_
   refine pop_ext (v := (VB t359_8)) rfl ?_
   refine H.mono fun rv_56 h_72 H => ?_
   obtain ⟨t364_7, t364_8, rfl, hL_72, H⟩ := H
   refine pop_ext (v := (VI t364_7)) rfl ?_
   refine pop_ext (v := (VB t364_8)) rfl ?_
   refine pop_bne boo4 _ _ t359_8 t364_8 ?_
   refine guardM_sf (fun hb_89 => ?_) (fun hb_89 => ?_)
   rotate_left
   ·have H := H.1 hb_89
    refine guardM_n' hb_89 (by decide) ?_
    refine guardM_n' hb_89 (by decide) ?_
    refine pop_pickt' hb_89 ?_
    refine condM_t ?_
    exact H
   have H := H.2 hb_89
   refine guardM_y' hb_89 ?_
   refine guardM_y' hb_89 ?_
   refine pop_ine .i64 _ _ t359_7 t364_7 ?_
   refine pop_pickf' hb_89 ?_
   refine condM_b (fun hb_90 => ?_) (fun hb_90 => ?_)
   ·have H := H.1 hb_90
    exact H
   have H := H.2 hb_90
   refine guardM_st (fun hb_91 => ?_) (fun hb_91 => ?_)
   rotate_left
   ·have H := H.2 hb_91
    refine guardM_n' hb_91 (by decide) ?_
    refine guardM_n' hb_91 (by decide) ?_
    refine pop_pickf' hb_91 ?_
    refine condM_f ?_
    exact H
   have H := H.1 hb_91
   refine guardM_y' hb_91 ?_
   refine pop_len t356_4 _ _ sli24 ?_
   refine guardM_y' hb_91 ?_
   refine pop_geq .i64 (t356_4.n : Int) 2 ?_
   refine pop_pickt' hb_91 ?_
   refine condM_b (fun hb_92 => ?_) (fun hb_92 => ?_)
   rotate_left
   ·have H := H.2 hb_92
    exact H
   have H := H.1 hb_92
   obtain ⟨hi_35, H⟩ := H
   refine pop_index sli24 siz37 .i64 t356_4 1 hi_35 ?_
   obtain ⟨t383_4, hc_31, H⟩ := H
   refine rop_one one37 (Sl.v t383_4) hc_31 ?_
   obtain ⟨hi_36, H⟩ := H
   refine pop_index sli24 siz37 .i64 t356_4 0 hi_36 ?_
   obtain ⟨t386_4, hc_30, H⟩ := H
   refine rop_one one37 (Sl.v t386_4) hc_30 ?_
   refine H.mono fun rv_57 H => ?_
   obtain ⟨t389_4, rfl, H⟩ := H
   refine H.mono fun rv_58 h_73 H => ?_
   obtain ⟨t387_4, rfl, hL_73, H⟩ := H
   refine H.mono fun rv_59 h_74 H => ?_
   obtain ⟨t390_4, rfl, hL_74, H⟩ := H
   refine H.mono fun rv_60 h_75 H => ?_
   obtain ⟨t393_7, t393_8, rfl, hL_75, H⟩ := H
   refine pop_ext (v := (VI t393_7)) rfl ?_
   refine pop_ext (v := (VB t393_8)) rfl ?_
   refine guardM_st (fun hb_93 => ?_) (fun hb_93 => ?_)
   rotate_left
   ·have H := H.2 hb_93
    refine guardM_n' hb_93 (by decide) ?_
    refine guardM_n' hb_93 (by decide) ?_
    refine guardM_n' hb_93 (by decide) ?_
    refine pop_pickf' hb_93 ?_
    exact H
   have H := H.1 hb_93
   refine guardM_y' hb_93 ?_
   refine guardM_y' hb_93 ?_
   refine pop_neg .i64 t359_7 ?_
   refine guardM_y' hb_93 ?_
   refine pop_ieq .i64 _ _ t393_7 (w64 (0 - t359_7)) ?_
   refine pop_pickt' hb_93 ?_
   exact H
  have H := H.1 hb_12
  refine guardM_y' hb_12 ?_
  refine pop_not t75_2 ?_
  refine guardM_y' hb_11 ?_
  refine pop_pickt' hb_12 ?_
  refine pop_pickf' hb_11 ?_
  refine condM_b (fun hb_13 => ?_) (fun hb_13 => ?_)
  ·have H := H.1 hb_13
   exact H
  have H := H.2 hb_13
  obtain ⟨J_1, H, HB_7⟩ := H
  refine ⟨fun (vs : List Value) (h' : Heap) => vs = [] ∧ J_1  h' ∧ Vars h' [(b_1, [(Sl.v t57_1)])], ?_, ?_⟩
  ·refine condM_b (fun hb_14 => ?_) (fun hb_14 => ?_)
   rotate_left
   ·have H := H.2 hb_14
    exact ⟨rfl, H, hL_15⟩
   have H := H.1 hb_14
   refine H.mono fun rv_14 h_16 H => ?_
   obtain ⟨t164_1, t164_2, rfl, hL_16, H⟩ := H
   refine pop_ext (v := (VI t164_1)) rfl ?_
   refine pop_ext (v := (VB t164_2)) rfl ?_
   refine rop_locA agg26 hL_16 0 rfl 0 (vs := [(Sl.v t57_1)]) rfl rfl ?_
   refine H.mono fun rv_15 h_17 H => ?_
   obtain ⟨t170_1, t170_2, rfl, hL_17, H⟩ := H
   refine pop_ext (v := (VB t170_1)) rfl ?_
   refine pop_ext (v := (VB t170_2)) rfl ?_
   refine pop_not t164_2 ?_
   refine guardM_sf (fun hb_15 => ?_) (fun hb_15 => ?_)
   rotate_left
   ·have H := H.1 hb_15
    refine guardM_n' hb_15 (by decide) ?_
    refine guardM_n' hb_15 (by decide) ?_
    refine pop_pickt' hb_15 ?_
    refine guardM_n (by decide) ?_
    refine guardM_n (by decide) ?_
    refine pop_pickt _ _ ?_
    refine guardM_n (by decide) ?_
    refine guardM_n (by decide) ?_
    refine pop_pickt _ _ ?_
    refine guardM_n (by decide) ?_
    refine guardM_n (by decide) ?_
    refine guardM_n (by decide) ?_
    refine guardM_n (by decide) ?_
    refine pop_pickt _ _ ?_
    refine guardM_n (by decide) ?_
    refine guardM_n (by decide) ?_
    refine guardM_n (by decide) ?_
    refine pop_pickt _ _ ?_
    refine guardM_n (by decide) ?_
    refine guardM_n (by decide) ?_
    refine guardM_n (by decide) ?_
    refine guardM_n (by decide) ?_
    refine pop_pickt _ _ ?_
    refine condM_t ?_
    exact H
   have H := H.2 hb_15
   refine guardM_y' hb_15 ?_
   refine guardM_y' hb_15 ?_
   refine pop_ine .i64 _ _ t164_1 t75_1 ?_
   refine pop_pickf' hb_15 ?_
   refine guardM_sf (fun hb_16 => ?_) (fun hb_16 => ?_)
   rotate_left
   ·have H := H.1 hb_16
    refine guardM_n' hb_16 (by decide) ?_
    refine pop_pickt' hb_16 ?_
    refine guardM_n (by decide) ?_
    refine guardM_n (by decide) ?_
    refine pop_pickt _ _ ?_
    refine guardM_n (by decide) ?_
    refine guardM_n (by decide) ?_
    refine guardM_n (by decide) ?_
    refine guardM_n (by decide) ?_
    refine pop_pickt _ _ ?_
    refine guardM_n (by decide) ?_
    refine guardM_n (by decide) ?_
    refine guardM_n (by decide) ?_
    refine pop_pickt _ _ ?_
    refine guardM_n (by decide) ?_
    refine guardM_n (by decide) ?_
    refine guardM_n (by decide) ?_
    refine guardM_n (by decide) ?_
    refine pop_pickt _ _ ?_
    refine condM_t ?_
    exact H
   have H := H.2 hb_16
   refine guardM_y' hb_16 ?_
   refine pop_lss .i64 t75_1 0 ?_
   refine pop_pickf' hb_16 ?_
   refine guardM_sf (fun hb_17 => ?_) (fun hb_17 => ?_)
   rotate_left
   ·have H := H.1 hb_17
    refine guardM_n' hb_17 (by decide) ?_
    refine pop_pickt' hb_17 ?_
    refine guardM_n (by decide) ?_
    refine guardM_n (by decide) ?_
    refine guardM_n (by decide) ?_
    refine guardM_n (by decide) ?_
    refine pop_pickt _ _ ?_
    refine guardM_n (by decide) ?_
    refine guardM_n (by decide) ?_
    refine guardM_n (by decide) ?_
    refine pop_pickt _ _ ?_
    refine guardM_n (by decide) ?_
    refine guardM_n (by decide) ?_
    refine guardM_n (by decide) ?_
    refine guardM_n (by decide) ?_
    refine pop_pickt _ _ ?_
    refine condM_t ?_
    exact H
   have H := H.2 hb_17
   refine guardM_y' hb_17 ?_
   refine pop_not t170_2 ?_
   refine pop_pickf' hb_17 ?_
   refine guardM_sf (fun hb_18 => ?_) (fun hb_18 => ?_)
   rotate_left
   ·have H := H.1 hb_18
    refine guardM_n' hb_18 (by decide) ?_
    refine guardM_n' hb_18 (by decide) ?_
    refine guardM_n' hb_18 (by decide) ?_
    refine pop_pickt' hb_18 ?_
    refine guardM_n (by decide) ?_
    refine guardM_n (by decide) ?_
    refine guardM_n (by decide) ?_
    refine pop_pickt _ _ ?_
    refine guardM_n (by decide) ?_
    refine guardM_n (by decide) ?_
    refine guardM_n (by decide) ?_
    refine guardM_n (by decide) ?_
    refine pop_pickt _ _ ?_
    refine condM_t ?_
    exact H
   have H := H.2 hb_18
   refine guardM_y' hb_18 ?_
   refine guardM_y' hb_18 ?_
   refine pop_gtr .i64 t75_1 0 ?_
   refine guardM_y' hb_18 ?_
   refine pop_bne boo4 _ _ t170_1 (decide (0 < t75_1)) ?_
   refine pop_pickf' hb_18 ?_
   refine guardM_sf (fun hb_19 => ?_) (fun hb_19 => ?_)
   rotate_left
   ·have H := H.1 hb_19
    refine guardM_n' hb_19 (by decide) ?_
    refine guardM_n' hb_19 (by decide) ?_
    refine pop_pickt' hb_19 ?_
    refine guardM_n (by decide) ?_
    refine guardM_n (by decide) ?_
    refine guardM_n (by decide) ?_
    refine guardM_n (by decide) ?_
    refine pop_pickt _ _ ?_
    refine condM_t ?_
    exact H
   have H := H.2 hb_19
   refine guardM_y' hb_19 ?_
   refine guardM_y' hb_19 ?_
   refine pop_bne boo4 _ _ t99_2 t170_1 ?_
   refine pop_pickf' hb_19 ?_
   refine guardM_sf (fun hb_20 => ?_) (fun hb_20 => ?_)
   rotate_left
   ·have H := H.1 hb_20
    refine guardM_n' hb_20 (by decide) ?_
    refine guardM_n' hb_20 (by decide) ?_
    refine guardM_n' hb_20 (by decide) ?_
    refine pop_pickt' hb_20 ?_
    refine condM_t ?_
    exact H
   have H := H.2 hb_20
   refine guardM_y' hb_20 ?_
   refine guardM_y' hb_20 ?_
   refine pop_leq .i64 t75_1 300 ?_
   refine guardM_y' hb_20 ?_
   refine pop_bne boo4 _ _ t63_2 (decide (t75_1 ≤ 300)) ?_
   refine pop_pickf' hb_20 ?_
   refine condM_b (fun hb_21 => ?_) (fun hb_21 => ?_)
   ·have H := H.1 hb_21
    exact H
   have H := H.2 hb_21
   exact ⟨rfl, H, hL_17⟩
  intro junk_1  h_18
  rintro ⟨hv, hJ_1, hL_18⟩
  have H := HB_7  h_18 hJ_1 hL_18
  obtain ⟨J_2, H, HB_6⟩ := H
  refine ⟨fun (vs : List Value) (h' : Heap) => vs = [] ∧ J_2  h' ∧ Vars h' [(b_1, [(Sl.v t57_1)])], ?_, ?_⟩
  ·refine condM_t' hb_12 ?_
   refine pop_len t63_1 _ _ sli24 ?_
   obtain ⟨J_3, ⟨n_2, h0_1⟩, HB_1⟩ := H
   refine loop_intro (J := fun (n : Nat) (vs : List Value) (h' : Heap) => ∃ t208_1 : Int, vs = [(VI t208_1)] ∧ J_3 n t208_1 h' ∧ Vars h' [(b_1, [(Sl.v t57_1)])]) n_2 ⟨0, rfl, h0_1, hL_18⟩ ?_
   intro I_1 mu_1 hI_1 junk_2 tv_1 h_19 hi_1
   obtain ⟨n_1, ⟨t208_1, hv, hJ_2, hL_19⟩, hn_1⟩ := hI_1 _ _ hi_1
   cases hv
   have H := HB_1 n_1 t208_1 h_19 hJ_2 hL_19
   refine pop_lss .i64 t208_1 (t63_1.n : Int) ?_
   refine condM_b (fun hb_22 => ?_) (fun hb_22 => ?_)
   rotate_left
   ·have H := H.2 hb_22
    refine pop_len t63_1 _ _ sli24 ?_
    refine pop_ine .i64 _ _ (t63_1.n : Int) t75_1 ?_
    refine guardM_sf (fun hb_27 => ?_) (fun hb_27 => ?_)
    rotate_left
    ·have H := H.1 hb_27
     refine guardM_n' hb_27 (by decide) ?_
     refine guardM_n (by decide) ?_
     refine guardM_n (by decide) ?_
     refine guardM_n (by decide) ?_
     refine guardM_n (by decide) ?_
     refine guardM_n (by decide) ?_
     refine guardM_n (by decide) ?_
     refine guardM_n' hb_27 (by decide) ?_
     refine pop_pickt' hb_27 ?_
     refine condM_t ?_
     exact H
    have H := H.2 hb_27
    refine guardM_y' hb_27 ?_
    refine guardM_st (fun hb_28 => ?_) (fun hb_28 => ?_)
    rotate_left
    ·have H := H.2 hb_28
     refine guardM_n' hb_28 (by decide) ?_
     refine guardM_n' hb_28 (by decide) ?_
     refine guardM_n' hb_28 (by decide) ?_
     refine guardM_n' hb_28 (by decide) ?_
     refine guardM_n' hb_28 (by decide) ?_
     refine guardM_y' hb_27 ?_
     refine pop_pickf' hb_28 ?_
     refine pop_pickf' hb_27 ?_
     refine condM_f ?_
     exact ⟨rfl, H, hL_19⟩
    have H := H.1 hb_28
    refine guardM_y' hb_28 ?_
    refine guardM_y' hb_28 ?_
    obtain ⟨hi_4, H⟩ := H
    refine pop_index sli24 siz37 .i64 t63_1 0 hi_4 ?_
    refine guardM_y' hb_28 ?_
    obtain ⟨t251_1, hc_3, H⟩ := H
    refine rop_one one37 (Sl.v t251_1) hc_3 ?_
    refine guardM_y' hb_28 ?_
    refine H.mono fun rv_18 h_22 H => ?_
    obtain ⟨t252_1, rfl, hL_22, H⟩ := H
    refine guardM_y' hb_28 ?_
    refine pop_not t252_1 ?_
    refine guardM_y' hb_27 ?_
    refine pop_pickt' hb_28 ?_
    refine pop_pickf' hb_27 ?_
    refine condM_b (fun hb_29 => ?_) (fun hb_29 => ?_)
    ·have H := H.1 hb_29
     exact H
    have H := H.2 hb_29
    exact ⟨rfl, H, hL_22⟩
   have H := H.1 hb_22
   obtain ⟨hi_2, H⟩ := H
   refine pop_index sli24 siz37 .i64 t63_1 t208_1 hi_2 ?_
   obtain ⟨t212_1, hc_2, H⟩ := H
   refine rop_one one37 (Sl.v t212_1) hc_2 ?_
   refine rop_locA agg26 hL_19 0 rfl 0 (vs := [(Sl.v t57_1)]) rfl rfl ?_
   refine H.mono fun rv_16 h_20 H => ?_
   obtain ⟨t217_1, t217_2, rfl, hL_20, H⟩ := H
   refine pop_ext (v := (VB t217_1)) rfl ?_
   refine pop_ext (v := (VB t217_2)) rfl ?_
   refine pop_not t217_2 ?_
   refine guardM_sf (fun hb_23 => ?_) (fun hb_23 => ?_)
   rotate_left
   ·have H := H.1 hb_23
    refine guardM_n' hb_23 (by decide) ?_
    refine pop_pickt' hb_23 ?_
    refine guardM_n (by decide) ?_
    refine guardM_n (by decide) ?_
    refine guardM_n (by decide) ?_
    refine guardM_n (by decide) ?_
    refine guardM_n (by decide) ?_
    refine guardM_n (by decide) ?_
    refine guardM_n (by decide) ?_
    refine guardM_n (by decide) ?_
    refine guardM_n (by decide) ?_
    refine guardM_n (by decide) ?_
    refine guardM_n (by decide) ?_
    refine guardM_n (by decide) ?_
    refine pop_pickt _ _ ?_
    refine condM_t ?_
    exact H
   have H := H.2 hb_23
   refine guardM_y' hb_23 ?_
   refine pop_not t217_1 ?_
   refine pop_pickf' hb_23 ?_
   refine guardM_sf (fun hb_24 => ?_) (fun hb_24 => ?_)
   rotate_left
   ·have H := H.1 hb_24
    refine guardM_n' hb_24 (by decide) ?_
    refine guardM_n' hb_24 (by decide) ?_
    refine guardM_n (by decide) ?_
    refine guardM_n (by decide) ?_
    refine guardM_n (by decide) ?_
    refine guardM_n (by decide) ?_
    refine guardM_n (by decide) ?_
    refine guardM_n (by decide) ?_
    refine guardM_n (by decide) ?_
    refine guardM_n (by decide) ?_
    refine guardM_n' hb_24 (by decide) ?_
    refine pop_pickt' hb_24 ?_
    refine condM_t ?_
    exact H
   have H := H.2 hb_24
   refine guardM_y' hb_24 ?_
   refine pop_gtr .i64 t208_1 0 ?_
   refine guardM_y' hb_24 ?_
   refine guardM_st (fun hb_25 => ?_) (fun hb_25 => ?_)
   rotate_left
   ·have H := H.2 hb_25
    refine guardM_n' hb_25 (by decide) ?_
    refine guardM_n' hb_25 (by decide) ?_
    refine guardM_n' hb_25 (by decide) ?_
    refine guardM_n' hb_25 (by decide) ?_
    refine guardM_n' hb_25 (by decide) ?_
    refine guardM_n' hb_25 (by decide) ?_
    refine guardM_n' hb_25 (by decide) ?_
    refine guardM_y' hb_24 ?_
    refine pop_pickf' hb_25 ?_
    refine pop_pickf' hb_24 ?_
    refine condM_f ?_
    refine pop_add .i64 t208_1 1 ?_
    obtain ⟨m_2, hm_2, H⟩ := H
    exact hn_1 _ _ ⟨m_2, hm_2, (w64 (t208_1 + 1)), rfl, H, hL_20⟩
   have H := H.1 hb_25
   refine guardM_y' hb_25 ?_
   refine guardM_y' hb_25 ?_
   refine pop_sub .i64 t208_1 1 ?_
   refine guardM_y' hb_25 ?_
   obtain ⟨hi_3, H⟩ := H
   refine pop_index sli24 siz37 .i64 t63_1 (w64 (t208_1 - 1)) hi_3 ?_
   refine guardM_y' hb_25 ?_
   obtain ⟨t234_1, hc_1, H⟩ := H
   refine rop_one one37 (Sl.v t234_1) hc_1 ?_
   refine guardM_y' hb_25 ?_
   refine guardM_y' hb_25 ?_
   refine H.mono fun rv_17 h_21 H => ?_
   obtain ⟨t236_1, rfl, hL_21, H⟩ := H
   refine guardM_y' hb_25 ?_
   refine pop_not t236_1 ?_
   refine guardM_y' hb_24 ?_
   refine pop_pickt' hb_25 ?_
   refine pop_pickf' hb_24 ?_
   refine condM_b (fun hb_26 => ?_) (fun hb_26 => ?_)
   ·have H := H.1 hb_26
    exact H
   have H := H.2 hb_26
   refine pop_add .i64 t208_1 1 ?_
   obtain ⟨m_1, hm_1, H⟩ := H
   exact hn_1 _ _ ⟨m_1, hm_1, (w64 (t208_1 + 1)), rfl, H, hL_21⟩
  intro junk_3  h_23
  rintro ⟨hv, hJ_3, hL_23⟩
  have H := HB_6  h_23 hJ_3 hL_23
  refine H.mono fun rv_19 h_24 H => ?_
  obtain ⟨t258_1, t258_2, t258_3, rfl, hL_24, H⟩ := H
  refine pop_ext (v := (Value.agg #[(Sl.v t258_1)])) rfl ?_
  refine pop_ext (v := (VI t258_2)) rfl ?_
  refine pop_ext (v := (Sl.v t258_3)) rfl ?_
  refine eop_alloc 26 zer26 rfl hL_24 (fun b_2 h_25 hb_30 hf_3 hL_25 => ?_)
  refine uop_loc siz26 hL_25 0 rfl 0 [(Sl.v t258_1)] rfl rfl rfl (Nat.le_of_ble_eq_true rfl) (L' := [(b_2, [(Sl.v t258_1)]), (b_1, [(Sl.v t57_1)])]) rfl (fun h_26 hf_4 hL_26 => ?_)
  refine rop_locA agg26 hL_26 0 rfl 0 (vs := [(Sl.v t258_1)]) rfl rfl ?_
  have H := H b_2 h_26 (Nat.le_trans (Fr.size (Fr.r (In []) _)) hb_30) (Fr.new (Fr.no' (Fr.r (In []) _) hf_3) (Nat.le_trans (Fr.size (Fr.r (In []) _)) hb_30) hf_4) hL_26
  refine H.mono fun rv_20 h_27 H => ?_
  obtain ⟨t266_1, t266_2, rfl, hL_27, H⟩ := H
  refine pop_ext (v := (VB t266_1)) rfl ?_
  refine pop_ext (v := (VB t266_2)) rfl ?_
  refine rop_locA agg26 hL_27 0 rfl 0 (vs := [(Sl.v t258_1)]) rfl rfl ?_
  refine H.mono fun rv_21 h_28 H => ?_
  obtain ⟨t273_1, t273_2, rfl, hL_28, H⟩ := H
  refine pop_ext (v := (VB t273_1)) rfl ?_
  refine pop_ext (v := (VB t273_2)) rfl ?_
  refine rop_locA agg26 hL_28 0 rfl 0 (vs := [(Sl.v t258_1)]) rfl rfl ?_
  refine H.mono fun rv_22 h_29 H => ?_
  obtain ⟨t280_1, t280_2, rfl, hL_29, H⟩ := H
  refine pop_ext (v := (Sl.v t280_1)) rfl ?_
  refine pop_ext (v := (VB t280_2)) rfl ?_
  refine rop_locA agg26 hL_29 0 rfl 0 (vs := [(Sl.v t258_1)]) rfl rfl ?_
  refine H.mono fun rv_23 h_30 H => ?_
  obtain ⟨t287_1, t287_2, rfl, hL_30, H⟩ := H
  refine pop_ext (v := (Sl.v t287_1)) rfl ?_
  refine pop_ext (v := (VB t287_2)) rfl ?_
  refine pop_bne boo4 _ _ t266_2 t273_2 ?_
  refine guardM_sf (fun hb_31 => ?_) (fun hb_31 => ?_)
  rotate_left
  ·have H := H.1 hb_31
   refine guardM_n' hb_31 (by decide) ?_
   refine guardM_n' hb_31 (by decide) ?_
   refine pop_pickt' hb_31 ?_
   refine guardM_n (by decide) ?_
   refine guardM_n (by decide) ?_
   refine guardM_n (by decide) ?_
   refine pop_pickt _ _ ?_
   refine guardM_n (by decide) ?_
   refine guardM_n (by decide) ?_
   refine guardM_n (by decide) ?_
   refine guardM_n (by decide) ?_
   refine pop_pickt _ _ ?_
   refine guardM_n (by decide) ?_
   refine guardM_n (by decide) ?_
   refine guardM_n (by decide) ?_
   refine guardM_n (by decide) ?_
   refine guardM_n (by decide) ?_
   refine guardM_n (by decide) ?_
   refine pop_pickt _ _ ?_
   refine condM_t ?_
   exact H
  have H := H.2 hb_31
  refine guardM_y' hb_31 ?_
  refine guardM_y' hb_31 ?_
  refine pop_bne boo4 _ _ t266_1 t273_1 ?_
  refine pop_pickf' hb_31 ?_
  refine guardM_sf (fun hb_32 => ?_) (fun hb_32 => ?_)
  rotate_left
  ·have H := H.1 hb_32
   refine guardM_n' hb_32 (by decide) ?_
   refine guardM_n' hb_32 (by decide) ?_
   refine pop_pickt' hb_32 ?_
   refine guardM_n (by decide) ?_
   refine guardM_n (by decide) ?_
   refine guardM_n (by decide) ?_
   refine guardM_n (by decide) ?_
   refine pop_pickt _ _ ?_
   refine guardM_n (by decide) ?_
   refine guardM_n (by decide) ?_
   refine guardM_n (by decide) ?_
   refine guardM_n (by decide) ?_
   refine guardM_n (by decide) ?_
   refine guardM_n (by decide) ?_
   refine pop_pickt _ _ ?_
   refine condM_t ?_
   exact H
  have H := H.2 hb_32
  refine guardM_y' hb_32 ?_
  refine guardM_y' hb_32 ?_
  refine pop_bne boo4 _ _ t280_2 t287_2 ?_
  refine pop_pickf' hb_32 ?_
  refine guardM_sf (fun hb_33 => ?_) (fun hb_33 => ?_)
  rotate_left
  ·have H := H.1 hb_33
   refine guardM_n' hb_33 (by decide) ?_
   refine guardM_n' hb_33 (by decide) ?_
   refine guardM_n' hb_33 (by decide) ?_
   refine pop_pickt' hb_33 ?_
   refine guardM_n (by decide) ?_
   refine guardM_n (by decide) ?_
   refine guardM_n (by decide) ?_
   refine guardM_n (by decide) ?_
   refine guardM_n (by decide) ?_
   refine guardM_n (by decide) ?_
   refine pop_pickt _ _ ?_
   refine condM_t ?_
   exact H
  have H := H.2 hb_33
  refine guardM_y' hb_33 ?_
  refine guardM_y' hb_33 ?_
  refine H.mono fun rv_24 h_31 H => ?_
  obtain ⟨t306_1, rfl, hL_31, H⟩ := H
  refine guardM_y' hb_33 ?_
  refine pop_not t306_1 ?_
  refine pop_pickf' hb_33 ?_
  refine guardM_sf (fun hb_34 => ?_) (fun hb_34 => ?_)
  rotate_left
  ·have H := H.1 hb_34
   refine guardM_n' hb_34 (by decide) ?_
   refine guardM_n' hb_34 (by decide) ?_
   refine guardM_n (by decide) ?_
   refine guardM_n' hb_34 (by decide) ?_
   refine guardM_n' hb_34 (by decide) ?_
   refine pop_pickt' hb_34 ?_
   refine condM_t ?_
   exact H
  have H := H.2 hb_34
  refine guardM_y' hb_34 ?_
  refine guardM_y' hb_34 ?_
  refine guardM_st (fun hb_35 => ?_) (fun hb_35 => ?_)
  ·have H := H.1 hb_35
   refine guardM_y' hb_34 ?_
   refine pop_pickt' hb_35 ?_
   refine guardM_y' hb_34 ?_
   refine pop_bne boo4 _ _ t280_2 t266_1 ?_
   refine pop_pickf' hb_34 ?_
   refine condM_b (fun hb_36 => ?_) (fun hb_36 => ?_)
   ·have H := H.1 hb_36
    exact H
   have H := H.2 hb_36
   obtain ⟨J_4, H, HB_3⟩ := H
   refine ⟨fun (vs : List Value) (h' : Heap) => vs = [] ∧ J_4  h' ∧ Vars h' [(b_2, [(Sl.v t258_1)]), (b_1, [(Sl.v t57_1)])], ?_, ?_⟩
   ·refine condM_b (fun hb_37 => ?_) (fun hb_37 => ?_)
    rotate_left
    ·have H := H.2 hb_37
     exact ⟨rfl, H, hL_31⟩
    have H := H.1 hb_37
    refine pop_len t280_1 _ _ sli37 ?_
    obtain ⟨J_5, ⟨n_4, h0_2⟩, HB_2⟩ := H
    refine loop_intro (J := fun (n : Nat) (vs : List Value) (h' : Heap) => ∃ t320_1 : Int, vs = [(VI t320_1)] ∧ J_5 n t320_1 h' ∧ Vars h' [(b_2, [(Sl.v t258_1)]), (b_1, [(Sl.v t57_1)])]) n_4 ⟨0, rfl, h0_2, hL_31⟩ ?_
    intro I_2 mu_2 hI_2 junk_4 tv_2 h_32 hi_5
    obtain ⟨n_3, ⟨t320_1, hv, hJ_4, hL_32⟩, hn_2⟩ := hI_2 _ _ hi_5
    cases hv
    have H := HB_2 n_3 t320_1 h_32 hJ_4 hL_32
    refine pop_lss .i64 t320_1 (t280_1.n : Int) ?_
    refine condM_b (fun hb_38 => ?_) (fun hb_38 => ?_)
    rotate_left
    ·have H := H.2 hb_38
     exact ⟨rfl, H, hL_32⟩
    have H := H.1 hb_38
    obtain ⟨hi_6, H⟩ := H
    refine pop_index sli37 siz3 .i64 t280_1 t320_1 hi_6 ?_
    obtain ⟨t324_1, hc_8, H⟩ := H
    refine rop_one one3 (VI t324_1) hc_8 ?_
    refine pop_ieq .i64 _ _ t324_1 0 ?_
    refine pop_ieq .i64 _ _ t320_1 t258_2 ?_
    refine pop_bne boo4 _ _ (decide (t324_1 = 0)) (decide (t320_1 = t258_2)) ?_
    refine guardM_sf (fun hb_39 => ?_) (fun hb_39 => ?_)
    rotate_left
    ·have H := H.1 hb_39
     refine guardM_n' hb_39 (by decide) ?_
     refine guardM_n' hb_39 (by decide) ?_
     refine guardM_n (by decide) ?_
     refine guardM_n (by decide) ?_
     refine guardM_n (by decide) ?_
     refine guardM_n (by decide) ?_
     refine guardM_n (by decide) ?_
     refine guardM_n (by decide) ?_
     refine guardM_n (by decide) ?_
     refine guardM_n (by decide) ?_
     refine guardM_n (by decide) ?_
     refine guardM_n (by decide) ?_
     refine guardM_n (by decide) ?_
     refine guardM_n (by decide) ?_
     refine guardM_n (by decide) ?_
     refine guardM_n (by decide) ?_
     refine guardM_n (by decide) ?_
     refine guardM_n (by decide) ?_
     refine guardM_n (by decide) ?_
     refine guardM_n' hb_39 (by decide) ?_
     refine pop_pickt' hb_39 ?_
     refine condM_t ?_
     exact H
    have H := H.2 hb_39
    refine guardM_y' hb_39 ?_
    refine pop_gtr .i64 t324_1 0 ?_
    refine guardM_y' hb_39 ?_
    refine guardM_st (fun hb_40 => ?_) (fun hb_40 => ?_)
    rotate_left
    ·have H := H.2 hb_40
     refine guardM_n' hb_40 (by decide) ?_
     refine guardM_n' hb_40 (by decide) ?_
     refine guardM_n' hb_40 (by decide) ?_
     refine guardM_n' hb_40 (by decide) ?_
     refine guardM_n' hb_40 (by decide) ?_
     refine guardM_n' hb_40 (by decide) ?_
     refine guardM_n' hb_40 (by decide) ?_
     refine guardM_n' hb_40 (by decide) ?_
     refine guardM_n' hb_40 (by decide) ?_
     refine guardM_n' hb_40 (by decide) ?_
     refine guardM_n' hb_40 (by decide) ?_
     refine guardM_n' hb_40 (by decide) ?_
     refine guardM_n' hb_40 (by decide) ?_
     refine guardM_n' hb_40 (by decide) ?_
     refine guardM_n' hb_40 (by decide) ?_
     refine guardM_n' hb_40 (by decide) ?_
     refine guardM_y' hb_39 ?_
     refine pop_pickf' hb_40 ?_
     refine pop_pickf' hb_39 ?_
     refine condM_f ?_
     refine pop_add .i64 t320_1 1 ?_
     obtain ⟨m_4, hm_4, H⟩ := H
     exact hn_2 _ _ ⟨m_4, hm_4, (w64 (t320_1 + 1)), rfl, H, hL_32⟩
    have H := H.1 hb_40
    refine guardM_y' hb_40 ?_
    refine pop_field 0 fld26_0 b_2 0 ?_
    refine guardM_y' hb_40 ?_
    refine rop_loc one24 hL_32 0 rfl 0 (v := (Sl.v t258_1)) rfl ?_
    refine guardM_y' hb_40 ?_
    refine guardM_y' hb_40 ?_
    obtain ⟨hi_7, H⟩ := H
    refine pop_index sli24 siz37 .i64 t258_1 t320_1 hi_7 ?_
    refine guardM_y' hb_40 ?_
    obtain ⟨t340_1, hc_7, H⟩ := H
    refine rop_one one37 (Sl.v t340_1) hc_7 ?_
    refine guardM_y' hb_40 ?_
    refine guardM_y' hb_40 ?_
    refine guardM_y' hb_40 ?_
    obtain ⟨hi_8, H⟩ := H
    refine pop_index sli37 siz3 .i64 t258_3 t320_1 hi_8 ?_
    refine guardM_y' hb_40 ?_
    obtain ⟨t344_1, hc_6, H⟩ := H
    refine rop_one one3 (VI t344_1) hc_6 ?_
    refine guardM_y' hb_40 ?_
    obtain ⟨hi_9, H⟩ := H
    refine pop_index sli37 siz3 .i64 t340_1 t344_1 hi_9 ?_
    refine guardM_y' hb_40 ?_
    obtain ⟨t346_1, hc_5, H⟩ := H
    refine rop_one one3 (VI t346_1) hc_5 ?_
    refine guardM_y' hb_40 ?_
    obtain ⟨hi_10, H⟩ := H
    refine pop_index sli37 siz3 .i64 t280_1 t346_1 hi_10 ?_
    refine guardM_y' hb_40 ?_
    obtain ⟨t348_1, hc_4, H⟩ := H
    refine rop_one one3 (VI t348_1) hc_4 ?_
    refine guardM_y' hb_40 ?_
    refine guardM_y' hb_40 ?_
    refine pop_sub .i64 t324_1 1 ?_
    refine guardM_y' hb_40 ?_
    refine pop_ine .i64 _ _ t348_1 (w64 (t324_1 - 1)) ?_
    refine guardM_y' hb_39 ?_
    refine pop_pickt' hb_40 ?_
    refine pop_pickf' hb_39 ?_
    refine condM_b (fun hb_41 => ?_) (fun hb_41 => ?_)
    ·have H := H.1 hb_41
     exact H
    have H := H.2 hb_41
    refine pop_add .i64 t320_1 1 ?_
    obtain ⟨m_3, hm_3, H⟩ := H
    exact hn_2 _ _ ⟨m_3, hm_3, (w64 (t320_1 + 1)), rfl, H, hL_32⟩
   intro junk_5  h_33
   rintro ⟨hv, hJ_5, hL_33⟩
   have H := HB_3  h_33 hJ_5 hL_33
   refine H.mono fun rv_25 h_34 H => ?_
   obtain ⟨t356_1, rfl, hL_34, H⟩ := H
   refine H.mono fun rv_26 h_35 H => ?_
   obtain ⟨t359_1, t359_2, rfl, hL_35, H⟩ := H
   refine pop_ext (v := (VI t359_1)) rfl ?_
   refine pop_ext (v := (VB t359_2)) rfl ?_
   refine H.mono fun rv_27 h_36 H => ?_
   obtain ⟨t364_1, t364_2, rfl, hL_36, H⟩ := H
   refine pop_ext (v := (VI t364_1)) rfl ?_
   refine pop_ext (v := (VB t364_2)) rfl ?_
   refine pop_bne boo4 _ _ t359_2 t364_2 ?_
   refine guardM_sf (fun hb_42 => ?_) (fun hb_42 => ?_)
   rotate_left
   ·have H := H.1 hb_42
    refine guardM_n' hb_42 (by decide) ?_
    refine guardM_n' hb_42 (by decide) ?_
    refine pop_pickt' hb_42 ?_
    refine condM_t ?_
    exact H
   have H := H.2 hb_42
   refine guardM_y' hb_42 ?_
   refine guardM_y' hb_42 ?_
   refine pop_ine .i64 _ _ t359_1 t364_1 ?_
   refine pop_pickf' hb_42 ?_
   refine condM_b (fun hb_43 => ?_) (fun hb_43 => ?_)
   ·have H := H.1 hb_43
    exact H
   have H := H.2 hb_43
   refine guardM_st (fun hb_44 => ?_) (fun hb_44 => ?_)
   rotate_left
   ·have H := H.2 hb_44
    refine guardM_n' hb_44 (by decide) ?_
    refine guardM_n' hb_44 (by decide) ?_
    refine pop_pickf' hb_44 ?_
    refine condM_f ?_
    exact H
   have H := H.1 hb_44
   refine guardM_y' hb_44 ?_
   refine pop_len t356_1 _ _ sli24 ?_
   refine guardM_y' hb_44 ?_
   refine pop_geq .i64 (t356_1.n : Int) 2 ?_
   refine pop_pickt' hb_44 ?_
   refine condM_b (fun hb_45 => ?_) (fun hb_45 => ?_)
   rotate_left
   ·have H := H.2 hb_45
    exact H
   have H := H.1 hb_45
   obtain ⟨hi_11, H⟩ := H
   refine pop_index sli24 siz37 .i64 t356_1 1 hi_11 ?_
   obtain ⟨t383_1, hc_10, H⟩ := H
   refine rop_one one37 (Sl.v t383_1) hc_10 ?_
   obtain ⟨hi_12, H⟩ := H
   refine pop_index sli24 siz37 .i64 t356_1 0 hi_12 ?_
   obtain ⟨t386_1, hc_9, H⟩ := H
   refine rop_one one37 (Sl.v t386_1) hc_9 ?_
   refine H.mono fun rv_28 H => ?_
   obtain ⟨t389_1, rfl, H⟩ := H
   refine H.mono fun rv_29 h_37 H => ?_
   obtain ⟨t387_1, rfl, hL_37, H⟩ := H
   refine H.mono fun rv_30 h_38 H => ?_
   obtain ⟨t390_1, rfl, hL_38, H⟩ := H
   refine H.mono fun rv_31 h_39 H => ?_
   obtain ⟨t393_1, t393_2, rfl, hL_39, H⟩ := H
   refine pop_ext (v := (VI t393_1)) rfl ?_
   refine pop_ext (v := (VB t393_2)) rfl ?_
   refine guardM_st (fun hb_46 => ?_) (fun hb_46 => ?_)
   rotate_left
   ·have H := H.2 hb_46
    refine guardM_n' hb_46 (by decide) ?_
    refine guardM_n' hb_46 (by decide) ?_
    refine guardM_n' hb_46 (by decide) ?_
    refine pop_pickf' hb_46 ?_
    exact H
   have H := H.1 hb_46
   refine guardM_y' hb_46 ?_
   refine guardM_y' hb_46 ?_
   refine pop_neg .i64 t359_1 ?_
   refine guardM_y' hb_46 ?_
   refine pop_ieq .i64 _ _ t393_1 (w64 (0 - t359_1)) ?_
   refine pop_pickt' hb_46 ?_
   exact H
  have H := H.2 hb_35
  refine guardM_y' hb_34 ?_
  refine pop_pickf' hb_35 ?_
  refine guardM_y' hb_34 ?_
  refine pop_bne boo4 _ _ t280_2 false ?_
  refine pop_pickf' hb_34 ?_
  refine condM_b (fun hb_47 => ?_) (fun hb_47 => ?_)
  ·have H := H.1 hb_47
   exact H
  have H := H.2 hb_47
  obtain ⟨J_6, H, HB_5⟩ := H
  refine ⟨fun (vs : List Value) (h' : Heap) => vs = [] ∧ J_6  h' ∧ Vars h' [(b_2, [(Sl.v t258_1)]), (b_1, [(Sl.v t57_1)])], ?_, ?_⟩
  ·refine condM_b (fun hb_48 => ?_) (fun hb_48 => ?_)
   rotate_left
   ·have H := H.2 hb_48
    exact ⟨rfl, H, hL_31⟩
   have H := H.1 hb_48
   refine pop_len t280_1 _ _ sli37 ?_
   obtain ⟨J_7, ⟨n_6, h0_3⟩, HB_4⟩ := H
   refine loop_intro (J := fun (n : Nat) (vs : List Value) (h' : Heap) => ∃ t320_2 : Int, vs = [(VI t320_2)] ∧ J_7 n t320_2 h' ∧ Vars h' [(b_2, [(Sl.v t258_1)]), (b_1, [(Sl.v t57_1)])]) n_6 ⟨0, rfl, h0_3, hL_31⟩ ?_
   intro I_3 mu_3 hI_3 junk_6 tv_3 h_40 hi_13
   obtain ⟨n_5, ⟨t320_2, hv, hJ_6, hL_40⟩, hn_3⟩ := hI_3 _ _ hi_13
   cases hv
   have H := HB_4 n_5 t320_2 h_40 hJ_6 hL_40
   refine pop_lss .i64 t320_2 (t280_1.n : Int) ?_
   refine condM_b (fun hb_49 => ?_) (fun hb_49 => ?_)
   rotate_left
   ·have H := H.2 hb_49
    exact ⟨rfl, H, hL_40⟩
   have H := H.1 hb_49
   obtain ⟨hi_14, H⟩ := H
   refine pop_index sli37 siz3 .i64 t280_1 t320_2 hi_14 ?_
   obtain ⟨t324_2, hc_15, H⟩ := H
   refine rop_one one3 (VI t324_2) hc_15 ?_
   refine pop_ieq .i64 _ _ t324_2 0 ?_
   refine pop_ieq .i64 _ _ t320_2 t258_2 ?_
   refine pop_bne boo4 _ _ (decide (t324_2 = 0)) (decide (t320_2 = t258_2)) ?_
   refine guardM_sf (fun hb_50 => ?_) (fun hb_50 => ?_)
   rotate_left
   ·have H := H.1 hb_50
    refine guardM_n' hb_50 (by decide) ?_
    refine guardM_n' hb_50 (by decide) ?_
    refine guardM_n (by decide) ?_
    refine guardM_n (by decide) ?_
    refine guardM_n (by decide) ?_
    refine guardM_n (by decide) ?_
    refine guardM_n (by decide) ?_
    refine guardM_n (by decide) ?_
    refine guardM_n (by decide) ?_
    refine guardM_n (by decide) ?_
    refine guardM_n (by decide) ?_
    refine guardM_n (by decide) ?_
    refine guardM_n (by decide) ?_
    refine guardM_n (by decide) ?_
    refine guardM_n (by decide) ?_
    refine guardM_n (by decide) ?_
    refine guardM_n (by decide) ?_
    refine guardM_n (by decide) ?_
    refine guardM_n (by decide) ?_
    refine guardM_n' hb_50 (by decide) ?_
    refine pop_pickt' hb_50 ?_
    refine condM_t ?_
    exact H
   have H := H.2 hb_50
   refine guardM_y' hb_50 ?_
   refine pop_gtr .i64 t324_2 0 ?_
   refine guardM_y' hb_50 ?_
   refine guardM_st (fun hb_51 => ?_) (fun hb_51 => ?_)
   rotate_left
   ·have H := H.2 hb_51
    refine guardM_n' hb_51 (by decide) ?_
    refine guardM_n' hb_51 (by decide) ?_
    refine guardM_n' hb_51 (by decide) ?_
    refine guardM_n' hb_51 (by decide) ?_
    refine guardM_n' hb_51 (by decide) ?_
    refine guardM_n' hb_51 (by decide) ?_
    refine guardM_n' hb_51 (by decide) ?_
    refine guardM_n' hb_51 (by decide) ?_
    refine guardM_n' hb_51 (by decide) ?_
    refine guardM_n' hb_51 (by decide) ?_
    refine guardM_n' hb_51 (by decide) ?_
    refine guardM_n' hb_51 (by decide) ?_
    refine guardM_n' hb_51 (by decide) ?_
    refine guardM_n' hb_51 (by decide) ?_
    refine guardM_n' hb_51 (by decide) ?_
    refine guardM_n' hb_51 (by decide) ?_
    refine guardM_y' hb_50 ?_
    refine pop_pickf' hb_51 ?_
    refine pop_pickf' hb_50 ?_
    refine condM_f ?_
    refine pop_add .i64 t320_2 1 ?_
    obtain ⟨m_6, hm_6, H⟩ := H
    exact hn_3 _ _ ⟨m_6, hm_6, (w64 (t320_2 + 1)), rfl, H, hL_40⟩
   have H := H.1 hb_51
   refine guardM_y' hb_51 ?_
   refine pop_field 0 fld26_0 b_2 0 ?_
   refine guardM_y' hb_51 ?_
   refine rop_loc one24 hL_40 0 rfl 0 (v := (Sl.v t258_1)) rfl ?_
   refine guardM_y' hb_51 ?_
   refine guardM_y' hb_51 ?_
   obtain ⟨hi_15, H⟩ := H
   refine pop_index sli24 siz37 .i64 t258_1 t320_2 hi_15 ?_
   refine guardM_y' hb_51 ?_
   obtain ⟨t340_2, hc_14, H⟩ := H
   refine rop_one one37 (Sl.v t340_2) hc_14 ?_
   refine guardM_y' hb_51 ?_
   refine guardM_y' hb_51 ?_
   refine guardM_y' hb_51 ?_
   obtain ⟨hi_16, H⟩ := H
   refine pop_index sli37 siz3 .i64 t258_3 t320_2 hi_16 ?_
   refine guardM_y' hb_51 ?_
   obtain ⟨t344_2, hc_13, H⟩ := H
   refine rop_one one3 (VI t344_2) hc_13 ?_
   refine guardM_y' hb_51 ?_
   obtain ⟨hi_17, H⟩ := H
   refine pop_index sli37 siz3 .i64 t340_2 t344_2 hi_17 ?_
   refine guardM_y' hb_51 ?_
   obtain ⟨t346_2, hc_12, H⟩ := H
   refine rop_one one3 (VI t346_2) hc_12 ?_
   refine guardM_y' hb_51 ?_
   obtain ⟨hi_18, H⟩ := H
   refine pop_index sli37 siz3 .i64 t280_1 t346_2 hi_18 ?_
   refine guardM_y' hb_51 ?_
   obtain ⟨t348_2, hc_11, H⟩ := H
   refine rop_one one3 (VI t348_2) hc_11 ?_
   refine guardM_y' hb_51 ?_
   refine guardM_y' hb_51 ?_
   refine pop_sub .i64 t324_2 1 ?_
   refine guardM_y' hb_51 ?_
   refine pop_ine .i64 _ _ t348_2 (w64 (t324_2 - 1)) ?_
   refine guardM_y' hb_50 ?_
   refine pop_pickt' hb_51 ?_
   refine pop_pickf' hb_50 ?_
   refine condM_b (fun hb_52 => ?_) (fun hb_52 => ?_)
   ·have H := H.1 hb_52
    exact H
   have H := H.2 hb_52
   refine pop_add .i64 t320_2 1 ?_
   obtain ⟨m_5, hm_5, H⟩ := H
   exact hn_3 _ _ ⟨m_5, hm_5, (w64 (t320_2 + 1)), rfl, H, hL_40⟩
  intro junk_7  h_41
  rintro ⟨hv, hJ_7, hL_41⟩
  have H := HB_5  h_41 hJ_7 hL_41
  refine H.mono fun rv_32 h_42 H => ?_
  obtain ⟨t356_2, rfl, hL_42, H⟩ := H
  refine H.mono fun rv_33 h_43 H => ?_
  obtain ⟨t359_3, t359_4, rfl, hL_43, H⟩ := H
  refine pop_ext (v := (VI t359_3)) rfl ?_
  refine pop_ext (v := (VB t359_4)) rfl ?_
  refine H.mono fun rv_34 h_44 H => ?_
  obtain ⟨t364_3, t364_4, rfl, hL_44, H⟩ := H
  refine pop_ext (v := (VI t364_3)) rfl ?_
  refine pop_ext (v := (VB t364_4)) rfl ?_
  refine pop_bne boo4 _ _ t359_4 t364_4 ?_
  refine guardM_sf (fun hb_53 => ?_) (fun hb_53 => ?_)
  rotate_left
  ·have H := H.1 hb_53
   refine guardM_n' hb_53 (by decide) ?_
   refine guardM_n' hb_53 (by decide) ?_
   refine pop_pickt' hb_53 ?_
   refine condM_t ?_
   exact H
  have H := H.2 hb_53
  refine guardM_y' hb_53 ?_
  refine guardM_y' hb_53 ?_
  refine pop_ine .i64 _ _ t359_3 t364_3 ?_
  refine pop_pickf' hb_53 ?_
  refine condM_b (fun hb_54 => ?_) (fun hb_54 => ?_)
  ·have H := H.1 hb_54
   exact H
  have H := H.2 hb_54
  refine guardM_st (fun hb_55 => ?_) (fun hb_55 => ?_)
  rotate_left
  ·have H := H.2 hb_55
   refine guardM_n' hb_55 (by decide) ?_
   refine guardM_n' hb_55 (by decide) ?_
   refine pop_pickf' hb_55 ?_
   refine condM_f ?_
   exact H
  have H := H.1 hb_55
  refine guardM_y' hb_55 ?_
  refine pop_len t356_2 _ _ sli24 ?_
  refine guardM_y' hb_55 ?_
  refine pop_geq .i64 (t356_2.n : Int) 2 ?_
  refine pop_pickt' hb_55 ?_
  refine condM_b (fun hb_56 => ?_) (fun hb_56 => ?_)
  rotate_left
  ·have H := H.2 hb_56
   exact H
  have H := H.1 hb_56
  obtain ⟨hi_19, H⟩ := H
  refine pop_index sli24 siz37 .i64 t356_2 1 hi_19 ?_
  obtain ⟨t383_2, hc_17, H⟩ := H
  refine rop_one one37 (Sl.v t383_2) hc_17 ?_
  obtain ⟨hi_20, H⟩ := H
  refine pop_index sli24 siz37 .i64 t356_2 0 hi_20 ?_
  obtain ⟨t386_2, hc_16, H⟩ := H
  refine rop_one one37 (Sl.v t386_2) hc_16 ?_
  refine H.mono fun rv_35 H => ?_
  obtain ⟨t389_2, rfl, H⟩ := H
  refine H.mono fun rv_36 h_45 H => ?_
  obtain ⟨t387_2, rfl, hL_45, H⟩ := H
  refine H.mono fun rv_37 h_46 H => ?_
  obtain ⟨t390_2, rfl, hL_46, H⟩ := H
  refine H.mono fun rv_38 h_47 H => ?_
  obtain ⟨t393_3, t393_4, rfl, hL_47, H⟩ := H
  refine pop_ext (v := (VI t393_3)) rfl ?_
  refine pop_ext (v := (VB t393_4)) rfl ?_
  refine guardM_st (fun hb_57 => ?_) (fun hb_57 => ?_)
  rotate_left
  ·have H := H.2 hb_57
   refine guardM_n' hb_57 (by decide) ?_
   refine guardM_n' hb_57 (by decide) ?_
   refine guardM_n' hb_57 (by decide) ?_
   refine pop_pickf' hb_57 ?_
   exact H
  have H := H.1 hb_57
  refine guardM_y' hb_57 ?_
  refine guardM_y' hb_57 ?_
  refine pop_neg .i64 t359_3 ?_
  refine guardM_y' hb_57 ?_
  refine pop_ieq .i64 _ _ t393_3 (w64 (0 - t359_3)) ?_
  refine pop_pickt' hb_57 ?_
  exact H

/-! laws.big -/
def u6 (P : Program) (code0_1 : Sl) (more1_1 : Sl) (h : Heap) (K : Value → Heap → Prop) : Prop :=
  ((decide (1048576 < (code0_1.n : Int))) = true →
  K (VB true) h) ∧
  ((decide (1048576 < (code0_1.n : Int))) = false →
  K (VB (decide ((w64 (1048576 - (code0_1.n : Int))) < (more1_1.n : Int)))) h)
theorem v6 (code0_1 : Sl) (more1_1 : Sl) (h : Heap) (K : Value → Heap → Prop) (H : u6 Try.prog code0_1 more1_1 h K) : callM Try.prog 6 #[(Sl.v code0_1), (Sl.v more1_1)] h K := by
  refine c6 (Sl.v code0_1) (Sl.v more1_1) h K ?_
  unfold u6 at H
  unfold t6
  have hL : Vars h [] := .nil
  refine pop_len code0_1 _ _ sli22 ?_
  refine pop_gtr .i64 (code0_1.n : Int) 1048576 ?_
  refine guardM_sf (fun hb_1 => ?_) (fun hb_1 => ?_)
  rotate_left
  ·have H := H.1 hb_1
   refine guardM_n' hb_1 (by decide) ?_
   refine guardM_n' hb_1 (by decide) ?_
   refine guardM_n' hb_1 (by decide) ?_
   refine guardM_n' hb_1 (by decide) ?_
   refine guardM_n' hb_1 (by decide) ?_
   refine pop_pickt' hb_1 ?_
   exact H
  have H := H.2 hb_1
  refine guardM_y' hb_1 ?_
  refine pop_len more1_1 _ _ sli22 ?_
  refine guardM_y' hb_1 ?_
  refine guardM_y' hb_1 ?_
  refine pop_len code0_1 _ _ sli22 ?_
  refine guardM_y' hb_1 ?_
  refine pop_sub .i64 1048576 (code0_1.n : Int) ?_
  refine guardM_y' hb_1 ?_
  refine pop_gtr .i64 (more1_1.n : Int) (w64 (1048576 - (code0_1.n : Int))) ?_
  refine pop_pickf' hb_1 ?_
  exact H

/-! laws.wSame -/
def u32 (P : Program) (a0_1 : Sl) (b1_1 : Sl) (h : Heap) (K : Value → Heap → Prop) : Prop :=
  ((!decide ((a0_1.n : Int) = (b1_1.n : Int))) = true →
  K (VB false) h) ∧
  ((!decide ((a0_1.n : Int) = (b1_1.n : Int))) = false →
  ∃ J_1 : Nat → Int → Heap → Prop, (∃ n0 : Nat, J_1 n0 0 h) ∧
  ∀ (n_1 : Nat) (t13_1 : Int) (h_1 : Heap), J_1 n_1 t13_1 h_1 → Vars h_1 [] →
  ((decide (t13_1 < (a0_1.n : Int))) = true →
  InB a0_1 t13_1 ∧
  ∃ t19_1 : Int, hcell h_1 (Sl.at a0_1 t13_1 1) = some (VI t19_1) ∧
  InB b1_1 t13_1 ∧
  ∃ t23_1 : Int, hcell h_1 (Sl.at b1_1 t13_1 1) = some (VI t23_1) ∧
  ((!decide (t19_1 = t23_1)) = true →
  K (VB false) h_1) ∧
  ((!decide (t19_1 = t23_1)) = false →
  ∃ m : Nat, m < n_1 ∧ J_1 m (w64 (t13_1 + 1)) h_1)) ∧
  ((decide (t13_1 < (a0_1.n : Int))) = false →
  K (VB true) h_1))
theorem v32 (a0_1 : Sl) (b1_1 : Sl) (h : Heap) (K : Value → Heap → Prop) (H : u32 Try.prog a0_1 b1_1 h K) : callM Try.prog 32 #[(Sl.v a0_1), (Sl.v b1_1)] h K := by
  refine c32 (Sl.v a0_1) (Sl.v b1_1) h K ?_
  unfold u32 at H
  unfold t32
  have hL : Vars h [] := .nil
  refine pop_len a0_1 _ _ sli37 ?_
  refine pop_len b1_1 _ _ sli37 ?_
  refine pop_ine .i64 _ _ (a0_1.n : Int) (b1_1.n : Int) ?_
  refine condM_b (fun hb_1 => ?_) (fun hb_1 => ?_)
  ·have H := H.1 hb_1
   exact H
  have H := H.2 hb_1
  refine pop_len a0_1 _ _ sli37 ?_
  obtain ⟨J_1, ⟨n_2, h0_1⟩, HB_1⟩ := H
  refine loop_intro (J := fun (n : Nat) (vs : List Value) (h' : Heap) => ∃ t13_1 : Int, vs = [(VI t13_1)] ∧ J_1 n t13_1 h' ∧ Vars h' []) n_2 ⟨0, rfl, h0_1, hL⟩ ?_
  intro I_1 mu_1 hI_1 junk_1 tv_1 h_1 hi_1
  obtain ⟨n_1, ⟨t13_1, hv, hJ_1, hL_1⟩, hn_1⟩ := hI_1 _ _ hi_1
  cases hv
  have H := HB_1 n_1 t13_1 h_1 hJ_1 hL_1
  refine pop_lss .i64 t13_1 (a0_1.n : Int) ?_
  refine condM_b (fun hb_2 => ?_) (fun hb_2 => ?_)
  rotate_left
  ·have H := H.2 hb_2
   exact H
  have H := H.1 hb_2
  obtain ⟨hi_2, H⟩ := H
  refine pop_index sli37 siz3 .i64 a0_1 t13_1 hi_2 ?_
  obtain ⟨t19_1, hc_2, H⟩ := H
  refine rop_one one3 (VI t19_1) hc_2 ?_
  obtain ⟨hi_3, H⟩ := H
  refine pop_index sli37 siz3 .i64 b1_1 t13_1 hi_3 ?_
  obtain ⟨t23_1, hc_1, H⟩ := H
  refine rop_one one3 (VI t23_1) hc_1 ?_
  refine pop_ine .i64 _ _ t19_1 t23_1 ?_
  refine condM_b (fun hb_3 => ?_) (fun hb_3 => ?_)
  ·have H := H.1 hb_3
   exact H
  have H := H.2 hb_3
  refine pop_add .i64 t13_1 1 ?_
  obtain ⟨m_1, hm_1, H⟩ := H
  exact hn_1 _ _ ⟨m_1, hm_1, (w64 (t13_1 + 1)), rfl, H, hL_1⟩

/-! spec.DrawAllTrees -/
def u37 (P : Program) (code0_1 : Sl) (h : Heap) (K : Value → Heap → Prop) : Prop :=
  ∀ (b_1 : Nat) (h_1 : Heap), h.size ≤ b_1 → Fr (In []) h h_1 → Vars h_1 [(b_1, [(Sl.v nilSl)])] →
  callM P 87 #[(Sl.v code0_1)] h_1 fun rv_1 h_2 => ∃ t5_1 : Sl, ∃ t5_2 : Int, rv_1 = (Value.tuple #[(Value.agg #[(Sl.v t5_1)]), (VI t5_2)]) ∧ Vars h_2 [(b_1, [(Sl.v nilSl)])] ∧
  ∀ (h_3 : Heap), Fr (In [b_1]) h_2 h_3 → Vars h_3 [(b_1, [(Sl.v t5_1)])] →
  K (Value.tuple #[(Value.agg #[(Sl.v t5_1)]), (VI t5_2)]) h_3
theorem v37 (code0_1 : Sl) (h : Heap) (K : Value → Heap → Prop) (H : u37 Try.prog code0_1 h K) : callM Try.prog 37 #[(Sl.v code0_1)] h K := by
  refine c37 (Sl.v code0_1) h K ?_
  unfold u37 at H
  unfold t37
  have hL : Vars h [] := .nil
  refine eop_alloc 26 zer26 rfl hL (fun b_1 h_1 hb_1 hf_1 hL_1 => ?_)
  have H := H b_1 h_1 (Nat.le_trans (Fr.size (Fr.r (In []) _)) hb_1) (Fr.no' (Fr.r (In []) _) hf_1) hL_1
  refine H.mono fun rv_1 h_2 H => ?_
  obtain ⟨t5_1, t5_2, rfl, hL_2, H⟩ := H
  refine pop_ext (v := (Value.agg #[(Sl.v t5_1)])) rfl ?_
  refine pop_ext (v := (VI t5_2)) rfl ?_
  refine uop_loc siz26 hL_2 0 rfl 0 [(Sl.v t5_1)] rfl rfl rfl (Nat.le_of_ble_eq_true rfl) (L' := [(b_1, [(Sl.v t5_1)])]) rfl (fun h_3 hf_2 hL_3 => ?_)
  refine rop_locA agg26 hL_3 0 rfl 0 (vs := [(Sl.v t5_1)]) rfl rfl ?_
  have H := H  h_3  (Fr.old (Fr.r (In []) _) hf_2) hL_3
  exact H

/-! impl.AllTrees -/
def u38 (P : Program) (g0_1 : Sl) (sink1_1 : Int) (h : Heap) (K : Value → Heap → Prop) : Prop :=
  ∀ (b_1 : Nat) (h_1 : Heap), h.size ≤ b_1 → Fr (In []) h h_1 → Vars h_1 [(b_1, [(Sl.v g0_1)])] →
  eop P (Instr.buildSlice 37 1 #[(0, (VI sink1_1))]) h_1 fun rv_1 h_2 => ∃ t8_1 : Sl, rv_1 = (Sl.v t8_1) ∧ Vars h_2 [(b_1, [(Sl.v g0_1)])] ∧
  callM P 63 #[(Value.agg #[(Sl.v g0_1)]), (Sl.v t8_1)] h_2 fun rv_2 h_3 => ∃ t9_1 : Bool, rv_2 = (VB t9_1) ∧ Vars h_3 [(b_1, [(Sl.v g0_1)])] ∧
  ((!t9_1) = true →
  K (Value.tuple #[(Sl.v nilSl), (VB false)]) h_3) ∧
  ((!t9_1) = false →
  callM P 89 #[(Value.agg #[(Sl.v g0_1)]), (VI sink1_1)] h_3 fun rv_3 h_4 => ∃ t14_1 : Sl, rv_3 = (Sl.v t14_1) ∧ Vars h_4 [(b_1, [(Sl.v g0_1)])] ∧
  callM P 88 #[(Sl.v t14_1)] h_4 fun rv_4 h_5 => ∃ t15_1 : Int, rv_4 = (VI t15_1) ∧ Vars h_5 [(b_1, [(Sl.v g0_1)])] ∧
  ((decide (300 < t15_1)) = true →
  K (Value.tuple #[(Sl.v nilSl), (VB false)]) h_5) ∧
  ((decide (300 < t15_1)) = false →
  callM P 90 #[(Value.agg #[(Sl.v g0_1)]), (VI sink1_1), (VI 301)] h_5 fun rv_5 h_6 => ∃ t20_1 : Sl, rv_5 = (Sl.v t20_1) ∧ Vars h_6 [(b_1, [(Sl.v g0_1)])] ∧
  K (Value.tuple #[(Sl.v t20_1), (VB true)]) h_6))
theorem v38 (g0_1 : Sl) (sink1_1 : Int) (h : Heap) (K : Value → Heap → Prop) (H : u38 Try.prog g0_1 sink1_1 h K) : callM Try.prog 38 #[(Value.agg #[(Sl.v g0_1)]), (VI sink1_1)] h K := by
  refine c38 (Value.agg #[(Sl.v g0_1)]) (VI sink1_1) h K ?_
  unfold u38 at H
  unfold t38
  have hL : Vars h [] := .nil
  refine eop_box 26 (Value.agg #[(Sl.v g0_1)]) rfl hL (fun b_1 h_1 hb_1 hf_1 hL_1 => ?_)
  refine rop_locA agg26 hL_1 0 rfl 0 (vs := [(Sl.v g0_1)]) rfl rfl ?_
  have H := H b_1 h_1 (Nat.le_trans (Fr.size (Fr.r (In []) _)) hb_1) (Fr.no' (Fr.r (In []) _) hf_1) hL_1
  refine H.mono fun rv_1 h_2 H => ?_
  obtain ⟨t8_1, rfl, hL_2, H⟩ := H
  refine H.mono fun rv_2 h_3 H => ?_
  obtain ⟨t9_1, rfl, hL_3, H⟩ := H
  refine pop_not t9_1 ?_
  refine guardM_sf (fun hb_2 => ?_) (fun hb_2 => ?_)
  rotate_left
  ·have H := H.1 hb_2
   refine guardM_n' hb_2 (by decide) ?_
   refine guardM_n' hb_2 (by decide) ?_
   refine guardM_n' hb_2 (by decide) ?_
   refine guardM_n' hb_2 (by decide) ?_
   refine pop_pickt' hb_2 ?_
   refine condM_t ?_
   exact H
  have H := H.2 hb_2
  refine rop_locA agg26 hL_3 0 rfl 0 (vs := [(Sl.v g0_1)]) rfl rfl ?_
  refine guardM_y' hb_2 ?_
  refine guardM_y' hb_2 ?_
  refine H.mono fun rv_3 h_4 H => ?_
  obtain ⟨t14_1, rfl, hL_4, H⟩ := H
  refine guardM_y' hb_2 ?_
  refine H.mono fun rv_4 h_5 H => ?_
  obtain ⟨t15_1, rfl, hL_5, H⟩ := H
  refine guardM_y' hb_2 ?_
  refine pop_gtr .i64 t15_1 300 ?_
  refine pop_pickf' hb_2 ?_
  refine condM_b (fun hb_3 => ?_) (fun hb_3 => ?_)
  ·have H := H.1 hb_3
   exact H
  have H := H.2 hb_3
  refine rop_locA agg26 hL_5 0 rfl 0 (vs := [(Sl.v g0_1)]) rfl rfl ?_
  refine H.mono fun rv_5 h_6 H => ?_
  obtain ⟨t20_1, rfl, hL_6, H⟩ := H
  exact H

/-! spec.AllTrees -/
def u39 (P : Program) (g0_1 : Sl) (sink1_1 : Int) (h : Heap) (K : Value → Heap → Prop) : Prop :=
  ∀ (b_1 : Nat) (h_1 : Heap), h.size ≤ b_1 → Fr (In []) h h_1 → Vars h_1 [(b_1, [(Sl.v g0_1)])] →
  callM P 72 #[(Value.agg #[(Sl.v g0_1)]), (VI sink1_1)] h_1 fun rv_1 h_2 => ∃ t8_1 : Bool, rv_1 = (VB t8_1) ∧ Vars h_2 [(b_1, [(Sl.v g0_1)])] ∧
  ((!t8_1) = true →
  K (Value.tuple #[(Sl.v nilSl), (VB false)]) h_2) ∧
  ((!t8_1) = false →
  callM P 92 #[(Value.agg #[(Sl.v g0_1)]), (VI sink1_1)] h_2 fun rv_2 h_3 => ∃ t13_1 : Sl, rv_2 = (Sl.v t13_1) ∧ Vars h_3 [(b_1, [(Sl.v g0_1)])] ∧
  callM P 91 #[(Sl.v t13_1)] h_3 fun rv_3 h_4 => ∃ t14_1 : Int, rv_3 = (VI t14_1) ∧ Vars h_4 [(b_1, [(Sl.v g0_1)])] ∧
  ((decide (300 < t14_1)) = true →
  K (Value.tuple #[(Sl.v nilSl), (VB false)]) h_4) ∧
  ((decide (300 < t14_1)) = false →
  callM P 93 #[(Value.agg #[(Sl.v g0_1)]), (VI sink1_1), (VI 300)] h_4 fun rv_4 h_5 => ∃ t19_1 : Sl, rv_4 = (Sl.v t19_1) ∧ Vars h_5 [(b_1, [(Sl.v g0_1)])] ∧
  K (Value.tuple #[(Sl.v t19_1), (VB true)]) h_5))
theorem v39 (g0_1 : Sl) (sink1_1 : Int) (h : Heap) (K : Value → Heap → Prop) (H : u39 Try.prog g0_1 sink1_1 h K) : callM Try.prog 39 #[(Value.agg #[(Sl.v g0_1)]), (VI sink1_1)] h K := by
  refine c39 (Value.agg #[(Sl.v g0_1)]) (VI sink1_1) h K ?_
  unfold u39 at H
  unfold t39
  have hL : Vars h [] := .nil
  refine eop_box 26 (Value.agg #[(Sl.v g0_1)]) rfl hL (fun b_1 h_1 hb_1 hf_1 hL_1 => ?_)
  refine rop_locA agg26 hL_1 0 rfl 0 (vs := [(Sl.v g0_1)]) rfl rfl ?_
  have H := H b_1 h_1 (Nat.le_trans (Fr.size (Fr.r (In []) _)) hb_1) (Fr.no' (Fr.r (In []) _) hf_1) hL_1
  refine H.mono fun rv_1 h_2 H => ?_
  obtain ⟨t8_1, rfl, hL_2, H⟩ := H
  refine pop_not t8_1 ?_
  refine guardM_sf (fun hb_2 => ?_) (fun hb_2 => ?_)
  rotate_left
  ·have H := H.1 hb_2
   refine guardM_n' hb_2 (by decide) ?_
   refine guardM_n' hb_2 (by decide) ?_
   refine guardM_n' hb_2 (by decide) ?_
   refine guardM_n' hb_2 (by decide) ?_
   refine pop_pickt' hb_2 ?_
   refine condM_t ?_
   exact H
  have H := H.2 hb_2
  refine rop_locA agg26 hL_2 0 rfl 0 (vs := [(Sl.v g0_1)]) rfl rfl ?_
  refine guardM_y' hb_2 ?_
  refine guardM_y' hb_2 ?_
  refine H.mono fun rv_2 h_3 H => ?_
  obtain ⟨t13_1, rfl, hL_3, H⟩ := H
  refine guardM_y' hb_2 ?_
  refine H.mono fun rv_3 h_4 H => ?_
  obtain ⟨t14_1, rfl, hL_4, H⟩ := H
  refine guardM_y' hb_2 ?_
  refine pop_gtr .i64 t14_1 300 ?_
  refine pop_pickf' hb_2 ?_
  refine condM_b (fun hb_3 => ?_) (fun hb_3 => ?_)
  ·have H := H.1 hb_3
   exact H
  have H := H.2 hb_3
  refine rop_locA agg26 hL_4 0 rfl 0 (vs := [(Sl.v g0_1)]) rfl rfl ?_
  refine H.mono fun rv_4 h_5 H => ?_
  obtain ⟨t19_1, rfl, hL_5, H⟩ := H
  exact H

/-! impl.CountTrees -/
def u40 (P : Program) (g0_1 : Sl) (sink1_1 : Int) (h : Heap) (K : Value → Heap → Prop) : Prop :=
  ∀ (b_1 : Nat) (h_1 : Heap), h.size ≤ b_1 → Fr (In []) h h_1 → Vars h_1 [(b_1, [(Sl.v g0_1)])] →
  eop P (Instr.buildSlice 37 1 #[(0, (VI sink1_1))]) h_1 fun rv_1 h_2 => ∃ t8_1 : Sl, rv_1 = (Sl.v t8_1) ∧ Vars h_2 [(b_1, [(Sl.v g0_1)])] ∧
  callM P 63 #[(Value.agg #[(Sl.v g0_1)]), (Sl.v t8_1)] h_2 fun rv_2 h_3 => ∃ t9_1 : Bool, rv_2 = (VB t9_1) ∧ Vars h_3 [(b_1, [(Sl.v g0_1)])] ∧
  ((!t9_1) = true →
  K (Value.tuple #[(VI 0), (VB false)]) h_3) ∧
  ((!t9_1) = false →
  callM P 89 #[(Value.agg #[(Sl.v g0_1)]), (VI sink1_1)] h_3 fun rv_3 h_4 => ∃ t13_1 : Sl, rv_3 = (Sl.v t13_1) ∧ Vars h_4 [(b_1, [(Sl.v g0_1)])] ∧
  callM P 88 #[(Sl.v t13_1)] h_4 fun rv_4 h_5 => ∃ t14_1 : Int, rv_4 = (VI t14_1) ∧ Vars h_5 [(b_1, [(Sl.v g0_1)])] ∧
  K (Value.tuple #[(VI t14_1), (VB true)]) h_5)
theorem v40 (g0_1 : Sl) (sink1_1 : Int) (h : Heap) (K : Value → Heap → Prop) (H : u40 Try.prog g0_1 sink1_1 h K) : callM Try.prog 40 #[(Value.agg #[(Sl.v g0_1)]), (VI sink1_1)] h K := by
  refine c40 (Value.agg #[(Sl.v g0_1)]) (VI sink1_1) h K ?_
  unfold u40 at H
  unfold t40
  have hL : Vars h [] := .nil
  refine eop_box 26 (Value.agg #[(Sl.v g0_1)]) rfl hL (fun b_1 h_1 hb_1 hf_1 hL_1 => ?_)
  refine rop_locA agg26 hL_1 0 rfl 0 (vs := [(Sl.v g0_1)]) rfl rfl ?_
  have H := H b_1 h_1 (Nat.le_trans (Fr.size (Fr.r (In []) _)) hb_1) (Fr.no' (Fr.r (In []) _) hf_1) hL_1
  refine H.mono fun rv_1 h_2 H => ?_
  obtain ⟨t8_1, rfl, hL_2, H⟩ := H
  refine H.mono fun rv_2 h_3 H => ?_
  obtain ⟨t9_1, rfl, hL_3, H⟩ := H
  refine pop_not t9_1 ?_
  refine condM_b (fun hb_2 => ?_) (fun hb_2 => ?_)
  ·have H := H.1 hb_2
   exact H
  have H := H.2 hb_2
  refine rop_locA agg26 hL_3 0 rfl 0 (vs := [(Sl.v g0_1)]) rfl rfl ?_
  refine H.mono fun rv_3 h_4 H => ?_
  obtain ⟨t13_1, rfl, hL_4, H⟩ := H
  refine H.mono fun rv_4 h_5 H => ?_
  obtain ⟨t14_1, rfl, hL_5, H⟩ := H
  exact H

/-! spec.CountTrees -/
def u41 (P : Program) (g0_1 : Sl) (sink1_1 : Int) (h : Heap) (K : Value → Heap → Prop) : Prop :=
  ∀ (b_1 : Nat) (h_1 : Heap), h.size ≤ b_1 → Fr (In []) h h_1 → Vars h_1 [(b_1, [(Sl.v g0_1)])] →
  callM P 72 #[(Value.agg #[(Sl.v g0_1)]), (VI sink1_1)] h_1 fun rv_1 h_2 => ∃ t8_1 : Bool, rv_1 = (VB t8_1) ∧ Vars h_2 [(b_1, [(Sl.v g0_1)])] ∧
  ((!t8_1) = true →
  K (Value.tuple #[(VI 0), (VB false)]) h_2) ∧
  ((!t8_1) = false →
  callM P 92 #[(Value.agg #[(Sl.v g0_1)]), (VI sink1_1)] h_2 fun rv_2 h_3 => ∃ t12_1 : Sl, rv_2 = (Sl.v t12_1) ∧ Vars h_3 [(b_1, [(Sl.v g0_1)])] ∧
  callM P 91 #[(Sl.v t12_1)] h_3 fun rv_3 h_4 => ∃ t13_1 : Int, rv_3 = (VI t13_1) ∧ Vars h_4 [(b_1, [(Sl.v g0_1)])] ∧
  K (Value.tuple #[(VI t13_1), (VB true)]) h_4)
theorem v41 (g0_1 : Sl) (sink1_1 : Int) (h : Heap) (K : Value → Heap → Prop) (H : u41 Try.prog g0_1 sink1_1 h K) : callM Try.prog 41 #[(Value.agg #[(Sl.v g0_1)]), (VI sink1_1)] h K := by
  refine c41 (Value.agg #[(Sl.v g0_1)]) (VI sink1_1) h K ?_
  unfold u41 at H
  unfold t41
  have hL : Vars h [] := .nil
  refine eop_box 26 (Value.agg #[(Sl.v g0_1)]) rfl hL (fun b_1 h_1 hb_1 hf_1 hL_1 => ?_)
  refine rop_locA agg26 hL_1 0 rfl 0 (vs := [(Sl.v g0_1)]) rfl rfl ?_
  have H := H b_1 h_1 (Nat.le_trans (Fr.size (Fr.r (In []) _)) hb_1) (Fr.no' (Fr.r (In []) _) hf_1) hL_1
  refine H.mono fun rv_1 h_2 H => ?_
  obtain ⟨t8_1, rfl, hL_2, H⟩ := H
  refine pop_not t8_1 ?_
  refine condM_b (fun hb_2 => ?_) (fun hb_2 => ?_)
  ·have H := H.1 hb_2
   exact H
  have H := H.2 hb_2
  refine rop_locA agg26 hL_2 0 rfl 0 (vs := [(Sl.v g0_1)]) rfl rfl ?_
  refine H.mono fun rv_2 h_3 H => ?_
  obtain ⟨t12_1, rfl, hL_3, H⟩ := H
  refine H.mono fun rv_3 h_4 H => ?_
  obtain ⟨t13_1, rfl, hL_4, H⟩ := H
  exact H

/-! impl.LaplaceOf -/
def u42 (P : Program) (g0_1 : Sl) (sink1_1 : Int) (h : Heap) (K : Value → Heap → Prop) : Prop :=
  ∀ (b_1 : Nat) (h_1 : Heap), h.size ≤ b_1 → Fr (In []) h h_1 → Vars h_1 [(b_1, [(Sl.v g0_1)])] →
  eop P (Instr.buildSlice 37 1 #[(0, (VI sink1_1))]) h_1 fun rv_1 h_2 => ∃ t8_1 : Sl, rv_1 = (Sl.v t8_1) ∧ Vars h_2 [(b_1, [(Sl.v g0_1)])] ∧
  callM P 63 #[(Value.agg #[(Sl.v g0_1)]), (Sl.v t8_1)] h_2 fun rv_2 h_3 => ∃ t9_1 : Bool, rv_2 = (VB t9_1) ∧ Vars h_3 [(b_1, [(Sl.v g0_1)])] ∧
  ((!t9_1) = true →
  K (Value.tuple #[(Sl.v nilSl), (VB false)]) h_3) ∧
  ((!t9_1) = false →
  callM P 89 #[(Value.agg #[(Sl.v g0_1)]), (VI sink1_1)] h_3 fun rv_3 h_4 => ∃ t13_1 : Sl, rv_3 = (Sl.v t13_1) ∧ Vars h_4 [(b_1, [(Sl.v g0_1)])] ∧
  K (Value.tuple #[(Sl.v t13_1), (VB true)]) h_4)
theorem v42 (g0_1 : Sl) (sink1_1 : Int) (h : Heap) (K : Value → Heap → Prop) (H : u42 Try.prog g0_1 sink1_1 h K) : callM Try.prog 42 #[(Value.agg #[(Sl.v g0_1)]), (VI sink1_1)] h K := by
  refine c42 (Value.agg #[(Sl.v g0_1)]) (VI sink1_1) h K ?_
  unfold u42 at H
  unfold t42
  have hL : Vars h [] := .nil
  refine eop_box 26 (Value.agg #[(Sl.v g0_1)]) rfl hL (fun b_1 h_1 hb_1 hf_1 hL_1 => ?_)
  refine rop_locA agg26 hL_1 0 rfl 0 (vs := [(Sl.v g0_1)]) rfl rfl ?_
  have H := H b_1 h_1 (Nat.le_trans (Fr.size (Fr.r (In []) _)) hb_1) (Fr.no' (Fr.r (In []) _) hf_1) hL_1
  refine H.mono fun rv_1 h_2 H => ?_
  obtain ⟨t8_1, rfl, hL_2, H⟩ := H
  refine H.mono fun rv_2 h_3 H => ?_
  obtain ⟨t9_1, rfl, hL_3, H⟩ := H
  refine pop_not t9_1 ?_
  refine condM_b (fun hb_2 => ?_) (fun hb_2 => ?_)
  ·have H := H.1 hb_2
   exact H
  have H := H.2 hb_2
  refine rop_locA agg26 hL_3 0 rfl 0 (vs := [(Sl.v g0_1)]) rfl rfl ?_
  refine H.mono fun rv_3 h_4 H => ?_
  obtain ⟨t13_1, rfl, hL_4, H⟩ := H
  exact H

/-! spec.LaplaceOf -/
def u43 (P : Program) (g0_1 : Sl) (sink1_1 : Int) (h : Heap) (K : Value → Heap → Prop) : Prop :=
  ∀ (b_1 : Nat) (h_1 : Heap), h.size ≤ b_1 → Fr (In []) h h_1 → Vars h_1 [(b_1, [(Sl.v g0_1)])] →
  callM P 72 #[(Value.agg #[(Sl.v g0_1)]), (VI sink1_1)] h_1 fun rv_1 h_2 => ∃ t8_1 : Bool, rv_1 = (VB t8_1) ∧ Vars h_2 [(b_1, [(Sl.v g0_1)])] ∧
  ((!t8_1) = true →
  K (Value.tuple #[(Sl.v nilSl), (VB false)]) h_2) ∧
  ((!t8_1) = false →
  callM P 92 #[(Value.agg #[(Sl.v g0_1)]), (VI sink1_1)] h_2 fun rv_2 h_3 => ∃ t12_1 : Sl, rv_2 = (Sl.v t12_1) ∧ Vars h_3 [(b_1, [(Sl.v g0_1)])] ∧
  K (Value.tuple #[(Sl.v t12_1), (VB true)]) h_3)
theorem v43 (g0_1 : Sl) (sink1_1 : Int) (h : Heap) (K : Value → Heap → Prop) (H : u43 Try.prog g0_1 sink1_1 h K) : callM Try.prog 43 #[(Value.agg #[(Sl.v g0_1)]), (VI sink1_1)] h K := by
  refine c43 (Value.agg #[(Sl.v g0_1)]) (VI sink1_1) h K ?_
  unfold u43 at H
  unfold t43
  have hL : Vars h [] := .nil
  refine eop_box 26 (Value.agg #[(Sl.v g0_1)]) rfl hL (fun b_1 h_1 hb_1 hf_1 hL_1 => ?_)
  refine rop_locA agg26 hL_1 0 rfl 0 (vs := [(Sl.v g0_1)]) rfl rfl ?_
  have H := H b_1 h_1 (Nat.le_trans (Fr.size (Fr.r (In []) _)) hb_1) (Fr.no' (Fr.r (In []) _) hf_1) hL_1
  refine H.mono fun rv_1 h_2 H => ?_
  obtain ⟨t8_1, rfl, hL_2, H⟩ := H
  refine pop_not t8_1 ?_
  refine condM_b (fun hb_2 => ?_) (fun hb_2 => ?_)
  ·have H := H.1 hb_2
   exact H
  have H := H.2 hb_2
  refine rop_locA agg26 hL_2 0 rfl 0 (vs := [(Sl.v g0_1)]) rfl rfl ?_
  refine H.mono fun rv_2 h_3 H => ?_
  obtain ⟨t12_1, rfl, hL_3, H⟩ := H
  exact H

/-! impl.FirstTree -/
def u44 (P : Program) (g0_1 : Sl) (sink1_1 : Int) (h : Heap) (K : Value → Heap → Prop) : Prop :=
  ∀ (b_1 : Nat) (h_1 : Heap), h.size ≤ b_1 → Fr (In []) h h_1 → Vars h_1 [(b_1, [(Sl.v g0_1)])] →
  callM P 94 #[(Value.agg #[(Sl.v g0_1)]), (VI sink1_1)] h_1 fun rv_1 h_2 => ∃ t8_1 : Bool, rv_1 = (VB t8_1) ∧ Vars h_2 [(b_1, [(Sl.v g0_1)])] ∧
  ((!t8_1) = true →
  K (Value.tuple #[(Sl.v nilSl), (VB false)]) h_2) ∧
  ((!t8_1) = false →
  callM P 90 #[(Value.agg #[(Sl.v g0_1)]), (VI sink1_1), (VI 1)] h_2 fun rv_2 h_3 => ∃ t12_1 : Sl, rv_2 = (Sl.v t12_1) ∧ Vars h_3 [(b_1, [(Sl.v g0_1)])] ∧
  InB t12_1 0 ∧
  ∃ t14_1 : Sl, hcell h_3 (Sl.at t12_1 0 1) = some (Sl.v t14_1) ∧
  K (Value.tuple #[(Sl.v t14_1), (VB true)]) h_3)
theorem v44 (g0_1 : Sl) (sink1_1 : Int) (h : Heap) (K : Value → Heap → Prop) (H : u44 Try.prog g0_1 sink1_1 h K) : callM Try.prog 44 #[(Value.agg #[(Sl.v g0_1)]), (VI sink1_1)] h K := by
  refine c44 (Value.agg #[(Sl.v g0_1)]) (VI sink1_1) h K ?_
  unfold u44 at H
  unfold t44
  have hL : Vars h [] := .nil
  refine eop_box 26 (Value.agg #[(Sl.v g0_1)]) rfl hL (fun b_1 h_1 hb_1 hf_1 hL_1 => ?_)
  refine rop_locA agg26 hL_1 0 rfl 0 (vs := [(Sl.v g0_1)]) rfl rfl ?_
  have H := H b_1 h_1 (Nat.le_trans (Fr.size (Fr.r (In []) _)) hb_1) (Fr.no' (Fr.r (In []) _) hf_1) hL_1
  refine H.mono fun rv_1 h_2 H => ?_
  obtain ⟨t8_1, rfl, hL_2, H⟩ := H
  refine pop_not t8_1 ?_
  refine condM_b (fun hb_2 => ?_) (fun hb_2 => ?_)
  ·have H := H.1 hb_2
   exact H
  have H := H.2 hb_2
  refine rop_locA agg26 hL_2 0 rfl 0 (vs := [(Sl.v g0_1)]) rfl rfl ?_
  refine H.mono fun rv_2 h_3 H => ?_
  obtain ⟨t12_1, rfl, hL_3, H⟩ := H
  obtain ⟨hi_1, H⟩ := H
  refine pop_index sli24 siz37 .i64 t12_1 0 hi_1 ?_
  obtain ⟨t14_1, hc_1, H⟩ := H
  refine rop_one one37 (Sl.v t14_1) hc_1 ?_
  exact H

/-! spec.FirstTree -/
def u45 (P : Program) (g0_1 : Sl) (sink1_1 : Int) (h : Heap) (K : Value → Heap → Prop) : Prop :=
  ∀ (b_1 : Nat) (h_1 : Heap), h.size ≤ b_1 → Fr (In []) h h_1 → Vars h_1 [(b_1, [(Sl.v g0_1)])] →
  callM P 72 #[(Value.agg #[(Sl.v g0_1)]), (VI sink1_1)] h_1 fun rv_1 h_2 => ∃ t8_1 : Bool, rv_1 = (VB t8_1) ∧ Vars h_2 [(b_1, [(Sl.v g0_1)])] ∧
  ((!t8_1) = true →
  K (Value.tuple #[(Sl.v nilSl), (VB false)]) h_2) ∧
  ((!t8_1) = false →
  callM P 95 #[(Value.agg #[(Sl.v g0_1)]), (VI sink1_1)] h_2 fun rv_2 h_3 => ∃ t13_1 : Bool, rv_2 = (VB t13_1) ∧ Vars h_3 [(b_1, [(Sl.v g0_1)])] ∧
  ((!t13_1) = true →
  K (Value.tuple #[(Sl.v nilSl), (VB false)]) h_3) ∧
  ((!t13_1) = false →
  callM P 93 #[(Value.agg #[(Sl.v g0_1)]), (VI sink1_1), (VI 0)] h_3 fun rv_3 h_4 => ∃ t18_1 : Sl, rv_3 = (Sl.v t18_1) ∧ Vars h_4 [(b_1, [(Sl.v g0_1)])] ∧
  InB t18_1 0 ∧
  ∃ t20_1 : Sl, hcell h_4 (Sl.at t18_1 0 1) = some (Sl.v t20_1) ∧
  K (Value.tuple #[(Sl.v t20_1), (VB true)]) h_4))
theorem v45 (g0_1 : Sl) (sink1_1 : Int) (h : Heap) (K : Value → Heap → Prop) (H : u45 Try.prog g0_1 sink1_1 h K) : callM Try.prog 45 #[(Value.agg #[(Sl.v g0_1)]), (VI sink1_1)] h K := by
  refine c45 (Value.agg #[(Sl.v g0_1)]) (VI sink1_1) h K ?_
  unfold u45 at H
  unfold t45
  have hL : Vars h [] := .nil
  refine eop_box 26 (Value.agg #[(Sl.v g0_1)]) rfl hL (fun b_1 h_1 hb_1 hf_1 hL_1 => ?_)
  refine rop_locA agg26 hL_1 0 rfl 0 (vs := [(Sl.v g0_1)]) rfl rfl ?_
  have H := H b_1 h_1 (Nat.le_trans (Fr.size (Fr.r (In []) _)) hb_1) (Fr.no' (Fr.r (In []) _) hf_1) hL_1
  refine H.mono fun rv_1 h_2 H => ?_
  obtain ⟨t8_1, rfl, hL_2, H⟩ := H
  refine pop_not t8_1 ?_
  refine guardM_sf (fun hb_2 => ?_) (fun hb_2 => ?_)
  rotate_left
  ·have H := H.1 hb_2
   refine guardM_n' hb_2 (by decide) ?_
   refine guardM_n' hb_2 (by decide) ?_
   refine guardM_n' hb_2 (by decide) ?_
   refine pop_pickt' hb_2 ?_
   refine condM_t ?_
   exact H
  have H := H.2 hb_2
  refine rop_locA agg26 hL_2 0 rfl 0 (vs := [(Sl.v g0_1)]) rfl rfl ?_
  refine guardM_y' hb_2 ?_
  refine guardM_y' hb_2 ?_
  refine H.mono fun rv_2 h_3 H => ?_
  obtain ⟨t13_1, rfl, hL_3, H⟩ := H
  refine guardM_y' hb_2 ?_
  refine pop_not t13_1 ?_
  refine pop_pickf' hb_2 ?_
  refine condM_b (fun hb_3 => ?_) (fun hb_3 => ?_)
  ·have H := H.1 hb_3
   exact H
  have H := H.2 hb_3
  refine rop_locA agg26 hL_3 0 rfl 0 (vs := [(Sl.v g0_1)]) rfl rfl ?_
  refine H.mono fun rv_3 h_4 H => ?_
  obtain ⟨t18_1, rfl, hL_4, H⟩ := H
  obtain ⟨hi_1, H⟩ := H
  refine pop_index sli24 siz37 .i64 t18_1 0 hi_1 ?_
  obtain ⟨t20_1, hc_1, H⟩ := H
  refine rop_one one37 (Sl.v t20_1) hc_1 ?_
  exact H

/-! laws.wRows -/
def u46 (P : Program) (a0_1 : Sl) (b1_1 : Sl) (h : Heap) (K : Value → Heap → Prop) : Prop :=
  ((!decide ((a0_1.n : Int) = (b1_1.n : Int))) = true →
  K (VB false) h) ∧
  ((!decide ((a0_1.n : Int) = (b1_1.n : Int))) = false →
  ∃ J_1 : Nat → Int → Heap → Prop, (∃ n0 : Nat, J_1 n0 0 h) ∧
  ∀ (n_1 : Nat) (t13_1 : Int) (h_1 : Heap), J_1 n_1 t13_1 h_1 → Vars h_1 [] →
  ((decide (t13_1 < (a0_1.n : Int))) = true →
  InB a0_1 t13_1 ∧
  ∃ t19_1 : Sl, hcell h_1 (Sl.at a0_1 t13_1 1) = some (Sl.v t19_1) ∧
  InB b1_1 t13_1 ∧
  ∃ t23_1 : Sl, hcell h_1 (Sl.at b1_1 t13_1 1) = some (Sl.v t23_1) ∧
  callM P 32 #[(Sl.v t19_1), (Sl.v t23_1)] h_1 fun rv_1 h_2 => ∃ t24_1 : Bool, rv_1 = (VB t24_1) ∧ Vars h_2 [] ∧
  ((!t24_1) = true →
  K (VB false) h_2) ∧
  ((!t24_1) = false →
  ∃ m : Nat, m < n_1 ∧ J_1 m (w64 (t13_1 + 1)) h_2)) ∧
  ((decide (t13_1 < (a0_1.n : Int))) = false →
  K (VB true) h_1))
theorem v46 (a0_1 : Sl) (b1_1 : Sl) (h : Heap) (K : Value → Heap → Prop) (H : u46 Try.prog a0_1 b1_1 h K) : callM Try.prog 46 #[(Sl.v a0_1), (Sl.v b1_1)] h K := by
  refine c46 (Sl.v a0_1) (Sl.v b1_1) h K ?_
  unfold u46 at H
  unfold t46
  have hL : Vars h [] := .nil
  refine pop_len a0_1 _ _ sli24 ?_
  refine pop_len b1_1 _ _ sli24 ?_
  refine pop_ine .i64 _ _ (a0_1.n : Int) (b1_1.n : Int) ?_
  refine condM_b (fun hb_1 => ?_) (fun hb_1 => ?_)
  ·have H := H.1 hb_1
   exact H
  have H := H.2 hb_1
  refine pop_len a0_1 _ _ sli24 ?_
  obtain ⟨J_1, ⟨n_2, h0_1⟩, HB_1⟩ := H
  refine loop_intro (J := fun (n : Nat) (vs : List Value) (h' : Heap) => ∃ t13_1 : Int, vs = [(VI t13_1)] ∧ J_1 n t13_1 h' ∧ Vars h' []) n_2 ⟨0, rfl, h0_1, hL⟩ ?_
  intro I_1 mu_1 hI_1 junk_1 tv_1 h_1 hi_1
  obtain ⟨n_1, ⟨t13_1, hv, hJ_1, hL_1⟩, hn_1⟩ := hI_1 _ _ hi_1
  cases hv
  have H := HB_1 n_1 t13_1 h_1 hJ_1 hL_1
  refine pop_lss .i64 t13_1 (a0_1.n : Int) ?_
  refine condM_b (fun hb_2 => ?_) (fun hb_2 => ?_)
  rotate_left
  ·have H := H.2 hb_2
   exact H
  have H := H.1 hb_2
  obtain ⟨hi_2, H⟩ := H
  refine pop_index sli24 siz37 .i64 a0_1 t13_1 hi_2 ?_
  obtain ⟨t19_1, hc_2, H⟩ := H
  refine rop_one one37 (Sl.v t19_1) hc_2 ?_
  obtain ⟨hi_3, H⟩ := H
  refine pop_index sli24 siz37 .i64 b1_1 t13_1 hi_3 ?_
  obtain ⟨t23_1, hc_1, H⟩ := H
  refine rop_one one37 (Sl.v t23_1) hc_1 ?_
  refine H.mono fun rv_1 h_2 H => ?_
  obtain ⟨t24_1, rfl, hL_2, H⟩ := H
  refine pop_not t24_1 ?_
  refine condM_b (fun hb_3 => ?_) (fun hb_3 => ?_)
  ·have H := H.1 hb_3
   exact H
  have H := H.2 hb_3
  refine pop_add .i64 t13_1 1 ?_
  obtain ⟨m_1, hm_1, H⟩ := H
  exact hn_1 _ _ ⟨m_1, hm_1, (w64 (t13_1 + 1)), rfl, H, hL_2⟩

/-! impl.DeterminantOf -/
def u47 (P : Program) (m0_1 : Sl) (h : Heap) (K : Value → Heap → Prop) : Prop :=
  ((decide (7 < (m0_1.n : Int))) = true →
  K (Value.tuple #[(VI 0), (VB false)]) h) ∧
  ((decide (7 < (m0_1.n : Int))) = false →
  ∃ J_1 : Nat → Int → Heap → Prop, (∃ n0 : Nat, J_1 n0 0 h) ∧
  ∀ (n_1 : Nat) (t11_1 : Int) (h_1 : Heap), J_1 n_1 t11_1 h_1 → Vars h_1 [] →
  ((decide (t11_1 < (m0_1.n : Int))) = true →
  InB m0_1 t11_1 ∧
  ∃ t14_1 : Sl, hcell h_1 (Sl.at m0_1 t11_1 1) = some (Sl.v t14_1) ∧
  ((!decide ((t14_1.n : Int) = (m0_1.n : Int))) = true →
  K (Value.tuple #[(VI 0), (VB false)]) h_1) ∧
  ((!decide ((t14_1.n : Int) = (m0_1.n : Int))) = false →
  callM P 96 #[(Sl.v t14_1), (Value.func (.func 97) #[] #[])] h_1 fun rv_1 h_2 => ∃ t22_1 : Bool, rv_1 = (VB t22_1) ∧ Vars h_2 [] ∧
  (t22_1 = true →
  K (Value.tuple #[(VI 0), (VB false)]) h_2) ∧
  (t22_1 = false →
  ∃ m : Nat, m < n_1 ∧ J_1 m (w64 (t11_1 + 1)) h_2))) ∧
  ((decide (t11_1 < (m0_1.n : Int))) = false →
  callM P 88 #[(Sl.v m0_1)] h_1 fun rv_2 h_3 => ∃ t26_1 : Int, rv_2 = (VI t26_1) ∧ Vars h_3 [] ∧
  K (Value.tuple #[(VI t26_1), (VB true)]) h_3))
theorem v47 (m0_1 : Sl) (h : Heap) (K : Value → Heap → Prop) (H : u47 Try.prog m0_1 h K) : callM Try.prog 47 #[(Sl.v m0_1)] h K := by
  refine c47 (Sl.v m0_1) h K ?_
  unfold u47 at H
  unfold t47
  have hL : Vars h [] := .nil
  refine pop_len m0_1 _ _ sli24 ?_
  refine pop_gtr .i64 (m0_1.n : Int) 7 ?_
  refine condM_b (fun hb_1 => ?_) (fun hb_1 => ?_)
  ·have H := H.1 hb_1
   exact H
  have H := H.2 hb_1
  refine pop_len m0_1 _ _ sli24 ?_
  obtain ⟨J_1, ⟨n_2, h0_1⟩, HB_1⟩ := H
  refine loop_intro (J := fun (n : Nat) (vs : List Value) (h' : Heap) => ∃ t11_1 : Int, vs = [(VI t11_1)] ∧ J_1 n t11_1 h' ∧ Vars h' []) n_2 ⟨0, rfl, h0_1, hL⟩ ?_
  intro I_1 mu_1 hI_1 junk_1 tv_1 h_1 hi_1
  obtain ⟨n_1, ⟨t11_1, hv, hJ_1, hL_1⟩, hn_1⟩ := hI_1 _ _ hi_1
  cases hv
  have H := HB_1 n_1 t11_1 h_1 hJ_1 hL_1
  refine pop_lss .i64 t11_1 (m0_1.n : Int) ?_
  refine condM_b (fun hb_2 => ?_) (fun hb_2 => ?_)
  rotate_left
  ·have H := H.2 hb_2
   refine H.mono fun rv_2 h_3 H => ?_
   obtain ⟨t26_1, rfl, hL_3, H⟩ := H
   exact H
  have H := H.1 hb_2
  obtain ⟨hi_2, H⟩ := H
  refine pop_index sli24 siz37 .i64 m0_1 t11_1 hi_2 ?_
  obtain ⟨t14_1, hc_1, H⟩ := H
  refine rop_one one37 (Sl.v t14_1) hc_1 ?_
  refine pop_len t14_1 _ _ sli37 ?_
  refine pop_len m0_1 _ _ sli24 ?_
  refine pop_ine .i64 _ _ (t14_1.n : Int) (m0_1.n : Int) ?_
  refine guardM_sf (fun hb_3 => ?_) (fun hb_3 => ?_)
  rotate_left
  ·have H := H.1 hb_3
   refine guardM_n' hb_3 (by decide) ?_
   refine pop_pickt' hb_3 ?_
   refine condM_t ?_
   exact H
  have H := H.2 hb_3
  refine guardM_y' hb_3 ?_
  refine H.mono fun rv_1 h_2 H => ?_
  obtain ⟨t22_1, rfl, hL_2, H⟩ := H
  refine pop_pickf' hb_3 ?_
  refine condM_b (fun hb_4 => ?_) (fun hb_4 => ?_)
  ·have H := H.1 hb_4
   exact H
  have H := H.2 hb_4
  refine pop_add .i64 t11_1 1 ?_
  obtain ⟨m_1, hm_1, H⟩ := H
  exact hn_1 _ _ ⟨m_1, hm_1, (w64 (t11_1 + 1)), rfl, H, hL_2⟩

/-! impl.LeadsTo -/
def u48 (P : Program) (g0_1 : Sl) (p1_1 : Int) (h : Heap) (K : Value → Heap → Prop) : Prop :=
  ∀ (b_1 : Nat) (h_1 : Heap), h.size ≤ b_1 → Fr (In []) h h_1 → Vars h_1 [(b_1, [(Sl.v g0_1)])] →
  eop P (Instr.buildSlice 37 1 #[(0, (VI p1_1))]) h_1 fun rv_1 h_2 => ∃ t8_1 : Sl, rv_1 = (Sl.v t8_1) ∧ Vars h_2 [(b_1, [(Sl.v g0_1)])] ∧
  callM P 63 #[(Value.agg #[(Sl.v g0_1)]), (Sl.v t8_1)] h_2 fun rv_2 h_3 => ∃ t9_1 : Bool, rv_2 = (VB t9_1) ∧ Vars h_3 [(b_1, [(Sl.v g0_1)])] ∧
  ((!t9_1) = true →
  K (Value.tuple #[(VB false), (VB false)]) h_3) ∧
  ((!t9_1) = false →
  callM P 98 #[(Value.agg #[(Sl.v g0_1)]), (VI p1_1)] h_3 fun rv_3 h_4 => ∃ t13_1 : Bool, rv_3 = (VB t13_1) ∧ Vars h_4 [(b_1, [(Sl.v g0_1)])] ∧
  K (Value.tuple #[(VB t13_1), (VB true)]) h_4)
theorem v48 (g0_1 : Sl) (p1_1 : Int) (h : Heap) (K : Value → Heap → Prop) (H : u48 Try.prog g0_1 p1_1 h K) : callM Try.prog 48 #[(Value.agg #[(Sl.v g0_1)]), (VI p1_1)] h K := by
  refine c48 (Value.agg #[(Sl.v g0_1)]) (VI p1_1) h K ?_
  unfold u48 at H
  unfold t48
  have hL : Vars h [] := .nil
  refine eop_box 26 (Value.agg #[(Sl.v g0_1)]) rfl hL (fun b_1 h_1 hb_1 hf_1 hL_1 => ?_)
  refine rop_locA agg26 hL_1 0 rfl 0 (vs := [(Sl.v g0_1)]) rfl rfl ?_
  have H := H b_1 h_1 (Nat.le_trans (Fr.size (Fr.r (In []) _)) hb_1) (Fr.no' (Fr.r (In []) _) hf_1) hL_1
  refine H.mono fun rv_1 h_2 H => ?_
  obtain ⟨t8_1, rfl, hL_2, H⟩ := H
  refine H.mono fun rv_2 h_3 H => ?_
  obtain ⟨t9_1, rfl, hL_3, H⟩ := H
  refine pop_not t9_1 ?_
  refine condM_b (fun hb_2 => ?_) (fun hb_2 => ?_)
  ·have H := H.1 hb_2
   exact H
  have H := H.2 hb_2
  refine rop_locA agg26 hL_3 0 rfl 0 (vs := [(Sl.v g0_1)]) rfl rfl ?_
  refine H.mono fun rv_3 h_4 H => ?_
  obtain ⟨t13_1, rfl, hL_4, H⟩ := H
  exact H

/-! impl.IsTree -/
def u49 (P : Program) (g0_1 : Sl) (sink1_1 : Int) (rotors2_1 : Sl) (h : Heap) (K : Value → Heap → Prop) : Prop :=
  ∀ (b_1 : Nat) (h_1 : Heap), h.size ≤ b_1 → Fr (In []) h h_1 → Vars h_1 [(b_1, [(Sl.v g0_1)])] →
  callM P 99 #[(Value.agg #[(Sl.v g0_1)]), (VI sink1_1), (Sl.v rotors2_1)] h_1 fun rv_1 h_2 => ∃ t11_1 : Bool, rv_1 = (VB t11_1) ∧ Vars h_2 [(b_1, [(Sl.v g0_1)])] ∧
  ((!t11_1) = true →
  K (Value.tuple #[(VB false), (VB false)]) h_2) ∧
  ((!t11_1) = false →
  callM P 100 #[(Value.agg #[(Sl.v g0_1)]), (VI sink1_1), (Sl.v rotors2_1)] h_2 fun rv_2 h_3 => ∃ t16_1 : Bool, rv_2 = (VB t16_1) ∧ Vars h_3 [(b_1, [(Sl.v g0_1)])] ∧
  K (Value.tuple #[(VB t16_1), (VB true)]) h_3)
theorem v49 (g0_1 : Sl) (sink1_1 : Int) (rotors2_1 : Sl) (h : Heap) (K : Value → Heap → Prop) (H : u49 Try.prog g0_1 sink1_1 rotors2_1 h K) : callM Try.prog 49 #[(Value.agg #[(Sl.v g0_1)]), (VI sink1_1), (Sl.v rotors2_1)] h K := by
  refine c49 (Value.agg #[(Sl.v g0_1)]) (VI sink1_1) (Sl.v rotors2_1) h K ?_
  unfold u49 at H
  unfold t49
  have hL : Vars h [] := .nil
  refine eop_box 26 (Value.agg #[(Sl.v g0_1)]) rfl hL (fun b_1 h_1 hb_1 hf_1 hL_1 => ?_)
  refine rop_locA agg26 hL_1 0 rfl 0 (vs := [(Sl.v g0_1)]) rfl rfl ?_
  have H := H b_1 h_1 (Nat.le_trans (Fr.size (Fr.r (In []) _)) hb_1) (Fr.no' (Fr.r (In []) _) hf_1) hL_1
  refine H.mono fun rv_1 h_2 H => ?_
  obtain ⟨t11_1, rfl, hL_2, H⟩ := H
  refine pop_not t11_1 ?_
  refine condM_b (fun hb_2 => ?_) (fun hb_2 => ?_)
  ·have H := H.1 hb_2
   exact H
  have H := H.2 hb_2
  refine rop_locA agg26 hL_2 0 rfl 0 (vs := [(Sl.v g0_1)]) rfl rfl ?_
  refine H.mono fun rv_2 h_3 H => ?_
  obtain ⟨t16_1, rfl, hL_3, H⟩ := H
  exact H

/-! laws.wLess -/
def u50 (P : Program) (a0_1 : Sl) (b1_1 : Sl) (h : Heap) (K : Value → Heap → Prop) : Prop :=
  ∃ J_1 : Nat → Int → Heap → Prop, (∃ n0 : Nat, J_1 n0 0 h) ∧
  ∀ (n_1 : Nat) (t8_1 : Int) (h_1 : Heap), J_1 n_1 t8_1 h_1 → Vars h_1 [] →
  ((decide (t8_1 < (a0_1.n : Int))) = true →
  InB a0_1 t8_1 ∧
  ∃ t14_1 : Int, hcell h_1 (Sl.at a0_1 t8_1 1) = some (VI t14_1) ∧
  InB b1_1 t8_1 ∧
  ∃ t18_1 : Int, hcell h_1 (Sl.at b1_1 t8_1 1) = some (VI t18_1) ∧
  ((!decide (t14_1 = t18_1)) = true →
  InB a0_1 t8_1 ∧
  ∃ t23_1 : Int, hcell h_1 (Sl.at a0_1 t8_1 1) = some (VI t23_1) ∧
  InB b1_1 t8_1 ∧
  ∃ t27_1 : Int, hcell h_1 (Sl.at b1_1 t8_1 1) = some (VI t27_1) ∧
  K (VB (decide (t23_1 < t27_1))) h_1) ∧
  ((!decide (t14_1 = t18_1)) = false →
  ∃ m : Nat, m < n_1 ∧ J_1 m (w64 (t8_1 + 1)) h_1)) ∧
  ((decide (t8_1 < (a0_1.n : Int))) = false →
  K (VB false) h_1)
theorem v50 (a0_1 : Sl) (b1_1 : Sl) (h : Heap) (K : Value → Heap → Prop) (H : u50 Try.prog a0_1 b1_1 h K) : callM Try.prog 50 #[(Sl.v a0_1), (Sl.v b1_1)] h K := by
  refine c50 (Sl.v a0_1) (Sl.v b1_1) h K ?_
  unfold u50 at H
  unfold t50
  have hL : Vars h [] := .nil
  refine pop_len a0_1 _ _ sli37 ?_
  obtain ⟨J_1, ⟨n_2, h0_1⟩, HB_1⟩ := H
  refine loop_intro (J := fun (n : Nat) (vs : List Value) (h' : Heap) => ∃ t8_1 : Int, vs = [(VI t8_1)] ∧ J_1 n t8_1 h' ∧ Vars h' []) n_2 ⟨0, rfl, h0_1, hL⟩ ?_
  intro I_1 mu_1 hI_1 junk_1 tv_1 h_1 hi_1
  obtain ⟨n_1, ⟨t8_1, hv, hJ_1, hL_1⟩, hn_1⟩ := hI_1 _ _ hi_1
  cases hv
  have H := HB_1 n_1 t8_1 h_1 hJ_1 hL_1
  refine pop_lss .i64 t8_1 (a0_1.n : Int) ?_
  refine condM_b (fun hb_1 => ?_) (fun hb_1 => ?_)
  rotate_left
  ·have H := H.2 hb_1
   exact H
  have H := H.1 hb_1
  obtain ⟨hi_2, H⟩ := H
  refine pop_index sli37 siz3 .i64 a0_1 t8_1 hi_2 ?_
  obtain ⟨t14_1, hc_4, H⟩ := H
  refine rop_one one3 (VI t14_1) hc_4 ?_
  obtain ⟨hi_3, H⟩ := H
  refine pop_index sli37 siz3 .i64 b1_1 t8_1 hi_3 ?_
  obtain ⟨t18_1, hc_3, H⟩ := H
  refine rop_one one3 (VI t18_1) hc_3 ?_
  refine pop_ine .i64 _ _ t14_1 t18_1 ?_
  refine condM_b (fun hb_2 => ?_) (fun hb_2 => ?_)
  rotate_left
  ·have H := H.2 hb_2
   refine pop_add .i64 t8_1 1 ?_
   obtain ⟨m_1, hm_1, H⟩ := H
   exact hn_1 _ _ ⟨m_1, hm_1, (w64 (t8_1 + 1)), rfl, H, hL_1⟩
  have H := H.1 hb_2
  obtain ⟨hi_4, H⟩ := H
  refine pop_index sli37 siz3 .i64 a0_1 t8_1 hi_4 ?_
  obtain ⟨t23_1, hc_2, H⟩ := H
  refine rop_one one3 (VI t23_1) hc_2 ?_
  obtain ⟨hi_5, H⟩ := H
  refine pop_index sli37 siz3 .i64 b1_1 t8_1 hi_5 ?_
  obtain ⟨t27_1, hc_1, H⟩ := H
  refine rop_one one3 (VI t27_1) hc_1 ?_
  refine pop_lss .i64 t23_1 t27_1 ?_
  exact H

/-! spec.DrawIsTree -/
def u51 (P : Program) (code0_1 : Sl) (h : Heap) (K : Value → Heap → Prop) : Prop :=
  ∀ (b_1 : Nat) (b_2 : Nat) (h_2 : Heap), h.size ≤ b_1 → h.size ≤ b_2 → Fr (In []) h h_2 → Vars h_2 [(b_2, [(Sl.v code0_1), (VI 0), (Value.int .u64 0)]), (b_1, [(Sl.v nilSl)])] →
  callM P 101 #[(VP b_2 0)] h_2 fun rv_1 h_3 => ∃ x_1 : Sl, ∃ x_2 : Int, ∃ x_3 : Int, ∃ t10_1 : Sl, ∃ t10_2 : Int, ∃ t10_3 : Sl, rv_1 = (Value.tuple #[(Value.agg #[(Sl.v t10_1)]), (VI t10_2), (Sl.v t10_3)]) ∧ Vars h_3 [(b_2, [(Sl.v x_1), (VI x_2), (Value.int .u64 x_3)]), (b_1, [(Sl.v nilSl)])] ∧
  ∀ (h_4 : Heap), Fr (In [b_1]) h_3 h_4 → Vars h_4 [(b_2, [(Sl.v x_1), (VI x_2), (Value.int .u64 x_3)]), (b_1, [(Sl.v t10_1)])] →
  K (Value.tuple #[(Value.agg #[(Sl.v t10_1)]), (VI t10_2), (Sl.v t10_3)]) h_4
theorem v51 (code0_1 : Sl) (h : Heap) (K : Value → Heap → Prop) (H : u51 Try.prog code0_1 h K) : callM Try.prog 51 #[(Sl.v code0_1)] h K := by
  refine c51 (Sl.v code0_1) h K ?_
  unfold u51 at H
  unfold t51
  have hL : Vars h [] := .nil
  refine eop_alloc 26 zer26 rfl hL (fun b_1 h_1 hb_1 hf_1 hL_1 => ?_)
  refine pop.mk' (v := (Value.agg #[(Sl.v code0_1), (VI 0), (Value.int .u64 0)])) (fun w => by kernel_rfl) ?_
  refine eop_box 69 (Value.agg #[(Sl.v code0_1), (VI 0), (Value.int .u64 0)]) rfl hL_1 (fun b_2 h_2 hb_2 hf_2 hL_2 => ?_)
  have H := H b_1 b_2 h_2 (Nat.le_trans (Fr.size (Fr.r (In []) _)) hb_1) (Nat.le_trans (Fr.size (Fr.no' (Fr.r (In []) _) hf_1)) hb_2) (Fr.no' (Fr.no' (Fr.r (In []) _) hf_1) hf_2) hL_2
  refine H.mono fun rv_1 h_3 H => ?_
  obtain ⟨x_1, x_2, x_3, t10_1, t10_2, t10_3, rfl, hL_3, H⟩ := H
  refine pop_ext (v := (Value.agg #[(Sl.v t10_1)])) rfl ?_
  refine pop_ext (v := (VI t10_2)) rfl ?_
  refine pop_ext (v := (Sl.v t10_3)) rfl ?_
  refine uop_loc siz26 hL_3 1 rfl 0 [(Sl.v t10_1)] rfl rfl rfl (Nat.le_of_ble_eq_true rfl) (L' := [(b_2, [(Sl.v x_1), (VI x_2), (Value.int .u64 x_3)]), (b_1, [(Sl.v t10_1)])]) rfl (fun h_4 hf_3 hL_4 => ?_)
  refine rop_locA agg26 hL_4 1 rfl 0 (vs := [(Sl.v t10_1)]) rfl rfl ?_
  have H := H  h_4  (Fr.old (Fr.r (In []) _) hf_3) hL_4
  exact H

/-! spec.IsTree -/
def u52 (P : Program) (g0_1 : Sl) (sink1_1 : Int) (rotors2_1 : Sl) (h : Heap) (K : Value → Heap → Prop) : Prop :=
  ∀ (b_1 : Nat) (h_1 : Heap), h.size ≤ b_1 → Fr (In []) h h_1 → Vars h_1 [(b_1, [(Sl.v g0_1)])] →
  callM P 102 #[(Value.agg #[(Sl.v g0_1)]), (VI sink1_1), (Sl.v rotors2_1)] h_1 fun rv_1 h_2 => ∃ t11_1 : Bool, rv_1 = (VB t11_1) ∧ Vars h_2 [(b_1, [(Sl.v g0_1)])] ∧
  ((!t11_1) = true →
  K (Value.tuple #[(VB false), (VB false)]) h_2) ∧
  ((!t11_1) = false →
  callM P 103 #[(Value.agg #[(Sl.v g0_1)]), (VI sink1_1), (Sl.v rotors2_1)] h_2 fun rv_2 h_3 => ∃ t16_1 : Bool, rv_2 = (VB t16_1) ∧ Vars h_3 [(b_1, [(Sl.v g0_1)])] ∧
  K (Value.tuple #[(VB t16_1), (VB true)]) h_3)
theorem v52 (g0_1 : Sl) (sink1_1 : Int) (rotors2_1 : Sl) (h : Heap) (K : Value → Heap → Prop) (H : u52 Try.prog g0_1 sink1_1 rotors2_1 h K) : callM Try.prog 52 #[(Value.agg #[(Sl.v g0_1)]), (VI sink1_1), (Sl.v rotors2_1)] h K := by
  refine c52 (Value.agg #[(Sl.v g0_1)]) (VI sink1_1) (Sl.v rotors2_1) h K ?_
  unfold u52 at H
  unfold t52
  have hL : Vars h [] := .nil
  refine eop_box 26 (Value.agg #[(Sl.v g0_1)]) rfl hL (fun b_1 h_1 hb_1 hf_1 hL_1 => ?_)
  refine rop_locA agg26 hL_1 0 rfl 0 (vs := [(Sl.v g0_1)]) rfl rfl ?_
  have H := H b_1 h_1 (Nat.le_trans (Fr.size (Fr.r (In []) _)) hb_1) (Fr.no' (Fr.r (In []) _) hf_1) hL_1
  refine H.mono fun rv_1 h_2 H => ?_
  obtain ⟨t11_1, rfl, hL_2, H⟩ := H
  refine pop_not t11_1 ?_
  refine condM_b (fun hb_2 => ?_) (fun hb_2 => ?_)
  ·have H := H.1 hb_2
   exact H
  have H := H.2 hb_2
  refine rop_locA agg26 hL_2 0 rfl 0 (vs := [(Sl.v g0_1)]) rfl rfl ?_
  refine H.mono fun rv_2 h_3 H => ?_
  obtain ⟨t16_1, rfl, hL_3, H⟩ := H
  exact H

/-! impl.TreeWays -/
def u53 (P : Program) (g0_1 : Sl) (sink1_1 : Int) (rotors2_1 : Sl) (h : Heap) (K : Value → Heap → Prop) : Prop :=
  ∀ (b_1 : Nat) (h_1 : Heap), h.size ≤ b_1 → Fr (In []) h h_1 → Vars h_1 [(b_1, [(Sl.v g0_1)])] →
  callM P 99 #[(Value.agg #[(Sl.v g0_1)]), (VI sink1_1), (Sl.v rotors2_1)] h_1 fun rv_1 h_2 => ∃ t11_1 : Bool, rv_1 = (VB t11_1) ∧ Vars h_2 [(b_1, [(Sl.v g0_1)])] ∧
  ((!t11_1) = true →
  K (Value.tuple #[(Sl.v nilSl), (VB false)]) h_2) ∧
  ((!t11_1) = false →
  callM P 104 #[(Value.agg #[(Sl.v g0_1)]), (VI sink1_1), (Sl.v rotors2_1)] h_2 fun rv_2 h_3 => ∃ t16_1 : Sl, ∃ t16_2 : Bool, rv_2 = (Value.tuple #[(Sl.v t16_1), (VB t16_2)]) ∧ Vars h_3 [(b_1, [(Sl.v g0_1)])] ∧
  K (Value.tuple #[(Sl.v t16_1), (VB t16_2)]) h_3)
theorem v53 (g0_1 : Sl) (sink1_1 : Int) (rotors2_1 : Sl) (h : Heap) (K : Value → Heap → Prop) (H : u53 Try.prog g0_1 sink1_1 rotors2_1 h K) : callM Try.prog 53 #[(Value.agg #[(Sl.v g0_1)]), (VI sink1_1), (Sl.v rotors2_1)] h K := by
  refine c53 (Value.agg #[(Sl.v g0_1)]) (VI sink1_1) (Sl.v rotors2_1) h K ?_
  unfold u53 at H
  unfold t53
  have hL : Vars h [] := .nil
  refine eop_box 26 (Value.agg #[(Sl.v g0_1)]) rfl hL (fun b_1 h_1 hb_1 hf_1 hL_1 => ?_)
  refine rop_locA agg26 hL_1 0 rfl 0 (vs := [(Sl.v g0_1)]) rfl rfl ?_
  have H := H b_1 h_1 (Nat.le_trans (Fr.size (Fr.r (In []) _)) hb_1) (Fr.no' (Fr.r (In []) _) hf_1) hL_1
  refine H.mono fun rv_1 h_2 H => ?_
  obtain ⟨t11_1, rfl, hL_2, H⟩ := H
  refine pop_not t11_1 ?_
  refine condM_b (fun hb_2 => ?_) (fun hb_2 => ?_)
  ·have H := H.1 hb_2
   exact H
  have H := H.2 hb_2
  refine rop_locA agg26 hL_2 0 rfl 0 (vs := [(Sl.v g0_1)]) rfl rfl ?_
  refine H.mono fun rv_2 h_3 H => ?_
  obtain ⟨t16_1, t16_2, rfl, hL_3, H⟩ := H
  refine pop_ext (v := (Sl.v t16_1)) rfl ?_
  refine pop_ext (v := (VB t16_2)) rfl ?_
  exact H

/-! spec.TreeWays -/
def u54 (P : Program) (g0_1 : Sl) (sink1_1 : Int) (rotors2_1 : Sl) (h : Heap) (K : Value → Heap → Prop) : Prop :=
  ∀ (b_1 : Nat) (h_1 : Heap), h.size ≤ b_1 → Fr (In []) h h_1 → Vars h_1 [(b_1, [(Sl.v g0_1)])] →
  callM P 102 #[(Value.agg #[(Sl.v g0_1)]), (VI sink1_1), (Sl.v rotors2_1)] h_1 fun rv_1 h_2 => ∃ t13_1 : Bool, rv_1 = (VB t13_1) ∧ Vars h_2 [(b_1, [(Sl.v g0_1)])] ∧
  ((!t13_1) = true →
  K (Value.tuple #[(Sl.v nilSl), (VB false)]) h_2) ∧
  ((!t13_1) = false →
  callM P 103 #[(Value.agg #[(Sl.v g0_1)]), (VI sink1_1), (Sl.v rotors2_1)] h_2 fun rv_2 h_3 => ∃ t19_1 : Bool, rv_2 = (VB t19_1) ∧ Vars h_3 [(b_1, [(Sl.v g0_1)])] ∧
  ((!t19_1) = true →
  K (Value.tuple #[(Sl.v nilSl), (VB false)]) h_3) ∧
  ((!t19_1) = false →
  ∃ J_1 : Nat → Sl → Int → Heap → Prop, (∃ n0 : Nat, J_1 n0 nilSl 0 h_3) ∧
  ∀ (n_1 : Nat) (out8_1 : Sl) (t25_1 : Int) (h_4 : Heap), J_1 n_1 out8_1 t25_1 h_4 → Vars h_4 [(b_1, [(Sl.v g0_1)])] →
  ((decide (t25_1 < (g0_1.n : Int))) = true →
  callM P 105 #[(Value.agg #[(Sl.v g0_1)]), (VI sink1_1), (Sl.v rotors2_1), (VI t25_1)] h_4 fun rv_3 h_5 => ∃ t33_1 : Int, rv_3 = (VI t33_1) ∧ Vars h_5 [(b_1, [(Sl.v g0_1)])] ∧
  eop P (Instr.buildSlice 37 1 #[(0, (VI t33_1))]) h_5 fun rv_4 h_6 => ∃ t34_1 : Sl, rv_4 = (Sl.v t34_1) ∧ Vars h_6 [(b_1, [(Sl.v g0_1)])] ∧
  eop P (appS 37 37 37 (Sl.v out8_1) (Sl.v t34_1)) h_6 fun rv_5 h_7 => ∃ t35_1 : Sl, rv_5 = (Sl.v t35_1) ∧ Vars h_7 [(b_1, [(Sl.v g0_1)])] ∧
  ∃ m : Nat, m < n_1 ∧ J_1 m t35_1 (w64 (t25_1 + 1)) h_7) ∧
  ((decide (t25_1 < (g0_1.n : Int))) = false →
  K (Value.tuple #[(Sl.v out8_1), (VB true)]) h_4)))
theorem v54 (g0_1 : Sl) (sink1_1 : Int) (rotors2_1 : Sl) (h : Heap) (K : Value → Heap → Prop) (H : u54 Try.prog g0_1 sink1_1 rotors2_1 h K) : callM Try.prog 54 #[(Value.agg #[(Sl.v g0_1)]), (VI sink1_1), (Sl.v rotors2_1)] h K := by
  refine c54 (Value.agg #[(Sl.v g0_1)]) (VI sink1_1) (Sl.v rotors2_1) h K ?_
  unfold u54 at H
  unfold t54
  have hL : Vars h [] := .nil
  refine eop_box 26 (Value.agg #[(Sl.v g0_1)]) rfl hL (fun b_1 h_1 hb_1 hf_1 hL_1 => ?_)
  refine rop_locA agg26 hL_1 0 rfl 0 (vs := [(Sl.v g0_1)]) rfl rfl ?_
  have H := H b_1 h_1 (Nat.le_trans (Fr.size (Fr.r (In []) _)) hb_1) (Fr.no' (Fr.r (In []) _) hf_1) hL_1
  refine H.mono fun rv_1 h_2 H => ?_
  obtain ⟨t13_1, rfl, hL_2, H⟩ := H
  refine pop_not t13_1 ?_
  refine guardM_sf (fun hb_2 => ?_) (fun hb_2 => ?_)
  rotate_left
  ·have H := H.1 hb_2
   refine guardM_n' hb_2 (by decide) ?_
   refine guardM_n' hb_2 (by decide) ?_
   refine guardM_n' hb_2 (by decide) ?_
   refine guardM_n' hb_2 (by decide) ?_
   refine pop_pickt' hb_2 ?_
   refine condM_t ?_
   exact H
  have H := H.2 hb_2
  refine rop_locA agg26 hL_2 0 rfl 0 (vs := [(Sl.v g0_1)]) rfl rfl ?_
  refine guardM_y' hb_2 ?_
  refine guardM_y' hb_2 ?_
  refine guardM_y' hb_2 ?_
  refine H.mono fun rv_2 h_3 H => ?_
  obtain ⟨t19_1, rfl, hL_3, H⟩ := H
  refine guardM_y' hb_2 ?_
  refine pop_not t19_1 ?_
  refine pop_pickf' hb_2 ?_
  refine condM_b (fun hb_3 => ?_) (fun hb_3 => ?_)
  ·have H := H.1 hb_3
   exact H
  have H := H.2 hb_3
  refine pop_field 0 fld26_0 b_1 0 ?_
  refine rop_loc one24 hL_3 0 rfl 0 (v := (Sl.v g0_1)) rfl ?_
  refine pop_len g0_1 _ _ sli24 ?_
  obtain ⟨J_1, ⟨n_2, h0_1⟩, HB_1⟩ := H
  refine loop_intro (J := fun (n : Nat) (vs : List Value) (h' : Heap) => ∃ out8_1 : Sl, ∃ t25_1 : Int, vs = [(Sl.v out8_1), (VI t25_1)] ∧ J_1 n out8_1 t25_1 h' ∧ Vars h' [(b_1, [(Sl.v g0_1)])]) n_2 ⟨nilSl, 0, rfl, h0_1, hL_3⟩ ?_
  intro I_1 mu_1 hI_1 junk_1 tv_1 tv_2 h_4 hi_1
  obtain ⟨n_1, ⟨out8_1, t25_1, hv, hJ_1, hL_4⟩, hn_1⟩ := hI_1 _ _ hi_1
  cases hv
  have H := HB_1 n_1 out8_1 t25_1 h_4 hJ_1 hL_4
  refine pop_lss .i64 t25_1 (g0_1.n : Int) ?_
  refine condM_b (fun hb_4 => ?_) (fun hb_4 => ?_)
  rotate_left
  ·have H := H.2 hb_4
   exact H
  have H := H.1 hb_4
  refine rop_locA agg26 hL_4 0 rfl 0 (vs := [(Sl.v g0_1)]) rfl rfl ?_
  refine H.mono fun rv_3 h_5 H => ?_
  obtain ⟨t33_1, rfl, hL_5, H⟩ := H
  refine H.mono fun rv_4 h_6 H => ?_
  obtain ⟨t34_1, rfl, hL_6, H⟩ := H
  refine H.mono fun rv_5 h_7 H => ?_
  obtain ⟨t35_1, rfl, hL_7, H⟩ := H
  refine pop_add .i64 t25_1 1 ?_
  obtain ⟨m_1, hm_1, H⟩ := H
  exact hn_1 _ _ ⟨m_1, hm_1, t35_1, (w64 (t25_1 + 1)), rfl, H, hL_7⟩

/-! spec.DrawDeterminantOf -/
def u55 (P : Program) (code0_1 : Sl) (h : Heap) (K : Value → Heap → Prop) : Prop :=
  ∀ (b_1 : Nat) (h_1 : Heap), h.size ≤ b_1 → Fr (In []) h h_1 → Vars h_1 [(b_1, [(Sl.v code0_1), (VI 0), (Value.int .u64 0)])] →
  callM P 70 #[(VP b_1 0), (VI 5)] h_1 fun rv_1 h_2 => ∃ x_1 : Sl, ∃ x_2 : Int, ∃ x_3 : Int, ∃ t14_1 : Int, rv_1 = (VI t14_1) ∧ Vars h_2 [(b_1, [(Sl.v x_1), (VI x_2), (Value.int .u64 x_3)])] ∧
  ∃ J_1 : Int → Sl → Int → Int → Heap → Prop, (callM P 106 #[(VP b_1 0), (VI 8)] h_2 fun rv_2 h_3 => ∃ x_8 : Sl, ∃ x_9 : Int, ∃ x_10 : Int, ∃ t16_1 : Bool, rv_2 = (VB t16_1) ∧ Vars h_3 [(b_1, [(Sl.v x_8), (VI x_9), (Value.int .u64 x_10)])] ∧
  (t16_1 = true →
  callM P 70 #[(VP b_1 0), (VI 2)] h_3 fun rv_3 h_4 => ∃ x_11 : Sl, ∃ x_12 : Int, ∃ x_13 : Int, ∃ t18_1 : Int, rv_3 = (VI t18_1) ∧ Vars h_4 [(b_1, [(Sl.v x_11), (VI x_12), (Value.int .u64 x_13)])] ∧
  J_1 (w64 (7 + t18_1)) x_11 x_12 x_13 h_4) ∧
  (t16_1 = false →
  J_1 t14_1 x_8 x_9 x_10 h_3)) ∧
  ∀ (x_4 : Int) (x_5 : Sl) (x_6 : Int) (x_7 : Int) (h_5 : Heap), J_1 x_4 x_5 x_6 x_7 h_5 → Vars h_5 [(b_1, [(Sl.v x_5), (VI x_6), (Value.int .u64 x_7)])] →
  eop P (Instr.makeSlice 24 (VI x_4) (VI x_4)) h_5 fun rv_4 h_6 => ∃ t21_1 : Sl, rv_4 = (Sl.v t21_1) ∧ Vars h_6 [(b_1, [(Sl.v x_5), (VI x_6), (Value.int .u64 x_7)])] ∧
  ∃ J_2 : Nat → Int → Sl → Int → Int → Heap → Prop, (∃ n0 : Nat, J_2 n0 0 x_5 x_6 x_7 h_6) ∧
  ∀ (n_1 : Nat) (t24_1 : Int) (x_14 : Sl) (x_15 : Int) (x_16 : Int) (h_7 : Heap), J_2 n_1 t24_1 x_14 x_15 x_16 h_7 → Vars h_7 [(b_1, [(Sl.v x_14), (VI x_15), (Value.int .u64 x_16)])] →
  ((decide (t24_1 < (t21_1.n : Int))) = true →
  eop P (Instr.makeSlice 37 (VI x_4) (VI x_4)) h_7 fun rv_5 h_8 => ∃ t30_1 : Sl, rv_5 = (Sl.v t30_1) ∧ Vars h_8 [(b_1, [(Sl.v x_14), (VI x_15), (Value.int .u64 x_16)])] ∧
  InB t21_1 t24_1 ∧
  Writable h_8 (Sl.at t21_1 t24_1 1) ∧ Vars (hset h_8 (Sl.at t21_1 t24_1 1) (Sl.v t30_1)) [(b_1, [(Sl.v x_14), (VI x_15), (Value.int .u64 x_16)])] ∧
  ∀ h_9 : Heap, h_9 = hset h_8 (Sl.at t21_1 t24_1 1) (Sl.v t30_1) → Vars h_9 [(b_1, [(Sl.v x_14), (VI x_15), (Value.int .u64 x_16)])] →
  InB t21_1 t24_1 ∧
  ∃ t35_1 : Sl, hcell h_9 (Sl.at t21_1 t24_1 1) = some (Sl.v t35_1) ∧
  ∃ J_3 : Nat → Int → Sl → Int → Int → Heap → Prop, (∃ n0 : Nat, J_3 n0 0 x_14 x_15 x_16 h_9) ∧
  ∀ (n_2 : Nat) (t37_1 : Int) (x_17 : Sl) (x_18 : Int) (x_19 : Int) (h_10 : Heap), J_3 n_2 t37_1 x_17 x_18 x_19 h_10 → Vars h_10 [(b_1, [(Sl.v x_17), (VI x_18), (Value.int .u64 x_19)])] →
  ((decide (t37_1 < (t35_1.n : Int))) = true →
  InB t21_1 t24_1 ∧
  ∃ t43_1 : Sl, hcell h_10 (Sl.at t21_1 t24_1 1) = some (Sl.v t43_1) ∧
  callM P 70 #[(VP b_1 0), (VI 9)] h_10 fun rv_6 h_11 => ∃ x_20 : Sl, ∃ x_21 : Int, ∃ x_22 : Int, ∃ t47_1 : Int, rv_6 = (VI t47_1) ∧ Vars h_11 [(b_1, [(Sl.v x_20), (VI x_21), (Value.int .u64 x_22)])] ∧
  InB t43_1 t37_1 ∧
  Writable h_11 (Sl.at t43_1 t37_1 1) ∧ Vars (hset h_11 (Sl.at t43_1 t37_1 1) (VI (w64 (t47_1 - 4)))) [(b_1, [(Sl.v x_20), (VI x_21), (Value.int .u64 x_22)])] ∧
  ∀ h_12 : Heap, h_12 = hset h_11 (Sl.at t43_1 t37_1 1) (VI (w64 (t47_1 - 4))) → Vars h_12 [(b_1, [(Sl.v x_20), (VI x_21), (Value.int .u64 x_22)])] →
  ∃ m : Nat, m < n_2 ∧ J_3 m (w64 (t37_1 + 1)) x_20 x_21 x_22 h_12) ∧
  ((decide (t37_1 < (t35_1.n : Int))) = false →
  ∃ m : Nat, m < n_1 ∧ J_2 m (w64 (t24_1 + 1)) x_17 x_18 x_19 h_10)) ∧
  ((decide (t24_1 < (t21_1.n : Int))) = false →
  ∃ J_4 : Sl → Int → Int → Heap → Prop, (((decide (0 < x_4)) = true →
  callM P 106 #[(VP b_1 0), (VI 8)] h_7 fun rv_7 h_13 => ∃ x_26 : Sl, ∃ x_27 : Int, ∃ x_28 : Int, ∃ t56_1 : Bool, rv_7 = (VB t56_1) ∧ Vars h_13 [(b_1, [(Sl.v x_26), (VI x_27), (Value.int .u64 x_28)])] ∧
  (t56_1 = true →
  InB t21_1 0 ∧
  ∃ t60_1 : Sl, hcell h_13 (Sl.at t21_1 0 1) = some (Sl.v t60_1) ∧
  eop P (Instr.buildSlice 37 5 #[(0, (Value.int IntKind.i64 10)), (1, (Value.int IntKind.i64 11)), (2, (Value.int IntKind.i64 (-10))), (3, (Value.int IntKind.i64 (-11))), (4, (Value.int IntKind.i64 4611686018427387904))]) h_13 fun rv_8 h_14 => ∃ t63_1 : Sl, rv_8 = (Sl.v t63_1) ∧ Vars h_14 [(b_1, [(Sl.v x_26), (VI x_27), (Value.int .u64 x_28)])] ∧
  callM P 107 #[(VP b_1 0), (Sl.v t63_1)] h_14 fun rv_9 h_15 => ∃ x_29 : Sl, ∃ x_30 : Int, ∃ x_31 : Int, ∃ t64_1 : Int, rv_9 = (VI t64_1) ∧ Vars h_15 [(b_1, [(Sl.v x_29), (VI x_30), (Value.int .u64 x_31)])] ∧
  InB t60_1 0 ∧
  Writable h_15 (Sl.at t60_1 0 1) ∧ Vars (hset h_15 (Sl.at t60_1 0 1) (VI t64_1)) [(b_1, [(Sl.v x_29), (VI x_30), (Value.int .u64 x_31)])] ∧
  ∀ h_16 : Heap, h_16 = hset h_15 (Sl.at t60_1 0 1) (VI t64_1) → Vars h_16 [(b_1, [(Sl.v x_29), (VI x_30), (Value.int .u64 x_31)])] →
  J_4 x_29 x_30 x_31 h_16) ∧
  (t56_1 = false →
  J_4 x_26 x_27 x_28 h_13)) ∧
  ((decide (0 < x_4)) = false →
  J_4 x_14 x_15 x_16 h_7)) ∧
  ∀ (x_23 : Sl) (x_24 : Int) (x_25 : Int) (h_17 : Heap), J_4 x_23 x_24 x_25 h_17 → Vars h_17 [(b_1, [(Sl.v x_23), (VI x_24), (Value.int .u64 x_25)])] →
  ((decide (1 < x_4)) = true →
  callM P 106 #[(VP b_1 0), (VI 12)] h_17 fun rv_10 h_18 => ∃ x_32 : Sl, ∃ x_33 : Int, ∃ x_34 : Int, ∃ t70_1 : Bool, rv_10 = (VB t70_1) ∧ Vars h_18 [(b_1, [(Sl.v x_32), (VI x_33), (Value.int .u64 x_34)])] ∧
  (t70_1 = true →
  InB t21_1 0 ∧
  ∃ t75_1 : Sl, hcell h_18 (Sl.at t21_1 0 1) = some (Sl.v t75_1) ∧
  pop P (Instr.sliceAt 37 (Sl.v t75_1) (some (Value.int IntKind.i64 1)) none none) fun rv_11 => ∃ t76_1 : Sl, rv_11 = (Sl.v t76_1) ∧ 
  InB t21_1 0 ∧
  Writable h_18 (Sl.at t21_1 0 1) ∧ Vars (hset h_18 (Sl.at t21_1 0 1) (Sl.v t76_1)) [(b_1, [(Sl.v x_32), (VI x_33), (Value.int .u64 x_34)])] ∧
  ∀ h_19 : Heap, h_19 = hset h_18 (Sl.at t21_1 0 1) (Sl.v t76_1) → Vars h_19 [(b_1, [(Sl.v x_32), (VI x_33), (Value.int .u64 x_34)])] →
  K (Sl.v t21_1) h_19) ∧
  (t70_1 = false →
  K (Sl.v t21_1) h_18)) ∧
  ((decide (1 < x_4)) = false →
  K (Sl.v t21_1) h_17))
theorem v55 (code0_1 : Sl) (h : Heap) (K : Value → Heap → Prop) (H : u55 Try.prog code0_1 h K) : callM Try.prog 55 #[(Sl.v code0_1)] h K := by
  refine c55 (Sl.v code0_1) h K ?_
  unfold u55 at H
  unfold t55
  have hL : Vars h [] := .nil
  refine pop.mk' (v := (Value.agg #[(Sl.v code0_1), (VI 0), (Value.int .u64 0)])) (fun w => by kernel_rfl) ?_
  refine eop_box 69 (Value.agg #[(Sl.v code0_1), (VI 0), (Value.int .u64 0)]) rfl hL (fun b_1 h_1 hb_1 hf_1 hL_1 => ?_)
  have H := H b_1 h_1 (Nat.le_trans (Fr.size (Fr.r (In []) _)) hb_1) (Fr.no' (Fr.r (In []) _) hf_1) hL_1
  refine H.mono fun rv_1 h_2 H => ?_
  obtain ⟨x_1, x_2, x_3, t14_1, rfl, hL_2, H⟩ := H
  obtain ⟨J_1, H, HB_4⟩ := H
  refine ⟨fun (vs : List Value) (h' : Heap) => ∃ x_4 : Int, ∃ x_5 : Sl, ∃ x_6 : Int, ∃ x_7 : Int, vs = [(VI x_4)] ∧ J_1 x_4 x_5 x_6 x_7 h' ∧ Vars h' [(b_1, [(Sl.v x_5), (VI x_6), (Value.int .u64 x_7)])], ?_, ?_⟩
  ·refine H.mono fun rv_2 h_3 H => ?_
   obtain ⟨x_8, x_9, x_10, t16_1, rfl, hL_3, H⟩ := H
   refine condM_b (fun hb_2 => ?_) (fun hb_2 => ?_)
   rotate_left
   ·have H := H.2 hb_2
    exact ⟨t14_1, x_8, x_9, x_10, rfl, H, hL_3⟩
   have H := H.1 hb_2
   refine H.mono fun rv_3 h_4 H => ?_
   obtain ⟨x_11, x_12, x_13, t18_1, rfl, hL_4, H⟩ := H
   refine pop_add .i64 7 t18_1 ?_
   exact ⟨(w64 (7 + t18_1)), x_11, x_12, x_13, rfl, H, hL_4⟩
  intro junk_1 tv_1 h_5
  rintro ⟨x_4, x_5, x_6, x_7, hv, hJ_1, hL_5⟩
  cases hv
  have H := HB_4 x_4 x_5 x_6 x_7 h_5 hJ_1 hL_5
  refine H.mono fun rv_4 h_6 H => ?_
  obtain ⟨t21_1, rfl, hL_6, H⟩ := H
  refine pop_len t21_1 _ _ sli24 ?_
  obtain ⟨J_2, ⟨n_4, h0_2⟩, HB_3⟩ := H
  refine loop_intro (J := fun (n : Nat) (vs : List Value) (h' : Heap) => ∃ t24_1 : Int, ∃ x_14 : Sl, ∃ x_15 : Int, ∃ x_16 : Int, vs = [(VI t24_1)] ∧ J_2 n t24_1 x_14 x_15 x_16 h' ∧ Vars h' [(b_1, [(Sl.v x_14), (VI x_15), (Value.int .u64 x_16)])]) n_4 ⟨0, x_5, x_6, x_7, rfl, h0_2, hL_6⟩ ?_
  intro I_2 mu_2 hI_2 junk_2 tv_3 h_7 hi_1
  obtain ⟨n_1, ⟨t24_1, x_14, x_15, x_16, hv, hJ_2, hL_7⟩, hn_1⟩ := hI_2 _ _ hi_1
  cases hv
  have H := HB_3 n_1 t24_1 x_14 x_15 x_16 h_7 hJ_2 hL_7
  refine pop_lss .i64 t24_1 (t21_1.n : Int) ?_
  refine condM_b (fun hb_3 => ?_) (fun hb_3 => ?_)
  ·have H := H.1 hb_3
   refine H.mono fun rv_5 h_8 H => ?_
   obtain ⟨t30_1, rfl, hL_8, H⟩ := H
   obtain ⟨hi_2, H⟩ := H
   refine pop_index sli24 siz37 .i64 t21_1 t24_1 hi_2 ?_
   obtain ⟨hw_1, hL_9, H⟩ := H
   refine uop_cell (v := (Sl.v t30_1)) siz37 hw_1 rfl (fun h_9 he_1 => ?_)
   rw [← he_1] at hL_9
   have H := H h_9 he_1 hL_9
   obtain ⟨hi_3, H⟩ := H
   refine pop_index sli24 siz37 .i64 t21_1 t24_1 hi_3 ?_
   obtain ⟨t35_1, hc_2, H⟩ := H
   refine rop_one one37 (Sl.v t35_1) hc_2 ?_
   refine pop_len t35_1 _ _ sli37 ?_
   obtain ⟨J_3, ⟨n_3, h0_1⟩, HB_1⟩ := H
   refine loop_intro (J := fun (n : Nat) (vs : List Value) (h' : Heap) => ∃ t37_1 : Int, ∃ x_17 : Sl, ∃ x_18 : Int, ∃ x_19 : Int, vs = [(VI t37_1)] ∧ J_3 n t37_1 x_17 x_18 x_19 h' ∧ Vars h' [(b_1, [(Sl.v x_17), (VI x_18), (Value.int .u64 x_19)])]) n_3 ⟨0, x_14, x_15, x_16, rfl, h0_1, hL_9⟩ ?_
   intro I_1 mu_1 hI_1 junk_3 tv_2 h_10 hi_4
   obtain ⟨n_2, ⟨t37_1, x_17, x_18, x_19, hv, hJ_3, hL_10⟩, hn_2⟩ := hI_1 _ _ hi_4
   cases hv
   have H := HB_1 n_2 t37_1 x_17 x_18 x_19 h_10 hJ_3 hL_10
   refine pop_lss .i64 t37_1 (t35_1.n : Int) ?_
   refine condM_b (fun hb_4 => ?_) (fun hb_4 => ?_)
   rotate_left
   ·have H := H.2 hb_4
    refine pop_add .i64 t24_1 1 ?_
    obtain ⟨m_2, hm_2, H⟩ := H
    exact hn_1 _ _ ⟨m_2, hm_2, (w64 (t24_1 + 1)), x_17, x_18, x_19, rfl, H, hL_10⟩
   have H := H.1 hb_4
   obtain ⟨hi_5, H⟩ := H
   refine pop_index sli24 siz37 .i64 t21_1 t24_1 hi_5 ?_
   obtain ⟨t43_1, hc_1, H⟩ := H
   refine rop_one one37 (Sl.v t43_1) hc_1 ?_
   refine H.mono fun rv_6 h_11 H => ?_
   obtain ⟨x_20, x_21, x_22, t47_1, rfl, hL_11, H⟩ := H
   refine pop_sub .i64 t47_1 4 ?_
   obtain ⟨hi_6, H⟩ := H
   refine pop_index sli37 siz3 .i64 t43_1 t37_1 hi_6 ?_
   obtain ⟨hw_2, hL_12, H⟩ := H
   refine uop_cell (v := (VI (w64 (t47_1 - 4)))) siz3 hw_2 rfl (fun h_12 he_2 => ?_)
   rw [← he_2] at hL_12
   have H := H h_12 he_2 hL_12
   refine pop_add .i64 t37_1 1 ?_
   obtain ⟨m_1, hm_1, H⟩ := H
   exact hn_2 _ _ ⟨m_1, hm_1, (w64 (t37_1 + 1)), x_20, x_21, x_22, rfl, H, hL_12⟩
  have H := H.2 hb_3
  obtain ⟨J_4, H, HB_2⟩ := H
  refine ⟨fun (vs : List Value) (h' : Heap) => ∃ x_23 : Sl, ∃ x_24 : Int, ∃ x_25 : Int, vs = [] ∧ J_4 x_23 x_24 x_25 h' ∧ Vars h' [(b_1, [(Sl.v x_23), (VI x_24), (Value.int .u64 x_25)])], ?_, ?_⟩
  ·refine pop_gtr .i64 x_4 0 ?_
   refine guardM_st (fun hb_5 => ?_) (fun hb_5 => ?_)
   rotate_left
   ·have H := H.2 hb_5
    refine guardM_n' hb_5 (by decide) ?_
    refine pop_pickf' hb_5 ?_
    refine condM_f ?_
    exact ⟨x_14, x_15, x_16, rfl, H, hL_7⟩
   have H := H.1 hb_5
   refine guardM_y' hb_5 ?_
   refine H.mono fun rv_7 h_13 H => ?_
   obtain ⟨x_26, x_27, x_28, t56_1, rfl, hL_13, H⟩ := H
   refine pop_pickt' hb_5 ?_
   refine condM_b (fun hb_6 => ?_) (fun hb_6 => ?_)
   rotate_left
   ·have H := H.2 hb_6
    exact ⟨x_26, x_27, x_28, rfl, H, hL_13⟩
   have H := H.1 hb_6
   obtain ⟨hi_7, H⟩ := H
   refine pop_index sli24 siz37 .i64 t21_1 0 hi_7 ?_
   obtain ⟨t60_1, hc_3, H⟩ := H
   refine rop_one one37 (Sl.v t60_1) hc_3 ?_
   refine H.mono fun rv_8 h_14 H => ?_
   obtain ⟨t63_1, rfl, hL_14, H⟩ := H
   refine H.mono fun rv_9 h_15 H => ?_
   obtain ⟨x_29, x_30, x_31, t64_1, rfl, hL_15, H⟩ := H
   obtain ⟨hi_8, H⟩ := H
   refine pop_index sli37 siz3 .i64 t60_1 0 hi_8 ?_
   obtain ⟨hw_3, hL_16, H⟩ := H
   refine uop_cell (v := (VI t64_1)) siz3 hw_3 rfl (fun h_16 he_3 => ?_)
   rw [← he_3] at hL_16
   have H := H h_16 he_3 hL_16
   exact ⟨x_29, x_30, x_31, rfl, H, hL_16⟩
  intro junk_4  h_17
  rintro ⟨x_23, x_24, x_25, hv, hJ_4, hL_17⟩
  have H := HB_2 x_23 x_24 x_25 h_17 hJ_4 hL_17
  refine pop_gtr .i64 x_4 1 ?_
  refine guardM_st (fun hb_7 => ?_) (fun hb_7 => ?_)
  rotate_left
  ·have H := H.2 hb_7
   refine guardM_n' hb_7 (by decide) ?_
   refine pop_pickf' hb_7 ?_
   refine condM_f ?_
   exact H
  have H := H.1 hb_7
  refine guardM_y' hb_7 ?_
  refine H.mono fun rv_10 h_18 H => ?_
  obtain ⟨x_32, x_33, x_34, t70_1, rfl, hL_18, H⟩ := H
  refine pop_pickt' hb_7 ?_
  refine condM_b (fun hb_8 => ?_) (fun hb_8 => ?_)
  rotate_left
  ·have H := H.2 hb_8
   exact H
  have H := H.1 hb_8
  obtain ⟨hi_9, H⟩ := H
  refine pop_index sli24 siz37 .i64 t21_1 0 hi_9 ?_
  obtain ⟨t75_1, hc_4, H⟩ := H
  refine rop_one one37 (Sl.v t75_1) hc_4 ?_
  refine H.mono fun rv_11 H => ?_
  obtain ⟨t76_1, rfl, H⟩ := H
  obtain ⟨hi_10, H⟩ := H
  refine pop_index sli24 siz37 .i64 t21_1 0 hi_10 ?_
  obtain ⟨hw_4, hL_19, H⟩ := H
  refine uop_cell (v := (Sl.v t76_1)) siz37 hw_4 rfl (fun h_19 he_4 => ?_)
  rw [← he_4] at hL_19
  have H := H h_19 he_4 hL_19
  exact H

/-! spec.DeterminantOf -/
def u56 (P : Program) (m0_1 : Sl) (h : Heap) (K : Value → Heap → Prop) : Prop :=
  ((decide (7 < (m0_1.n : Int))) = true →
  K (Value.tuple #[(VI 0), (VB false)]) h) ∧
  ((decide (7 < (m0_1.n : Int))) = false →
  ∃ J_1 : Nat → Int → Heap → Prop, (∃ n0 : Nat, J_1 n0 0 h) ∧
  ∀ (n_1 : Nat) (t11_1 : Int) (h_1 : Heap), J_1 n_1 t11_1 h_1 → Vars h_1 [] →
  ((decide (t11_1 < (m0_1.n : Int))) = true →
  InB m0_1 t11_1 ∧
  ∃ t14_1 : Sl, hcell h_1 (Sl.at m0_1 t11_1 1) = some (Sl.v t14_1) ∧
  ((!decide ((t14_1.n : Int) = (m0_1.n : Int))) = true →
  K (Value.tuple #[(VI 0), (VB false)]) h_1) ∧
  ((!decide ((t14_1.n : Int) = (m0_1.n : Int))) = false →
  callM P 108 #[(Sl.v t14_1), (VI (-10)), (VI 10)] h_1 fun rv_1 h_2 => ∃ t22_1 : Bool, rv_1 = (VB t22_1) ∧ Vars h_2 [] ∧
  ((!t22_1) = true →
  K (Value.tuple #[(VI 0), (VB false)]) h_2) ∧
  ((!t22_1) = false →
  ∃ m : Nat, m < n_1 ∧ J_1 m (w64 (t11_1 + 1)) h_2))) ∧
  ((decide (t11_1 < (m0_1.n : Int))) = false →
  callM P 91 #[(Sl.v m0_1)] h_1 fun rv_2 h_3 => ∃ t27_1 : Int, rv_2 = (VI t27_1) ∧ Vars h_3 [] ∧
  K (Value.tuple #[(VI t27_1), (VB true)]) h_3))
theorem v56 (m0_1 : Sl) (h : Heap) (K : Value → Heap → Prop) (H : u56 Try.prog m0_1 h K) : callM Try.prog 56 #[(Sl.v m0_1)] h K := by
  refine c56 (Sl.v m0_1) h K ?_
  unfold u56 at H
  unfold t56
  have hL : Vars h [] := .nil
  refine pop_len m0_1 _ _ sli24 ?_
  refine pop_gtr .i64 (m0_1.n : Int) 7 ?_
  refine condM_b (fun hb_1 => ?_) (fun hb_1 => ?_)
  ·have H := H.1 hb_1
   exact H
  have H := H.2 hb_1
  refine pop_len m0_1 _ _ sli24 ?_
  obtain ⟨J_1, ⟨n_2, h0_1⟩, HB_1⟩ := H
  refine loop_intro (J := fun (n : Nat) (vs : List Value) (h' : Heap) => ∃ t11_1 : Int, vs = [(VI t11_1)] ∧ J_1 n t11_1 h' ∧ Vars h' []) n_2 ⟨0, rfl, h0_1, hL⟩ ?_
  intro I_1 mu_1 hI_1 junk_1 tv_1 h_1 hi_1
  obtain ⟨n_1, ⟨t11_1, hv, hJ_1, hL_1⟩, hn_1⟩ := hI_1 _ _ hi_1
  cases hv
  have H := HB_1 n_1 t11_1 h_1 hJ_1 hL_1
  refine pop_lss .i64 t11_1 (m0_1.n : Int) ?_
  refine condM_b (fun hb_2 => ?_) (fun hb_2 => ?_)
  rotate_left
  ·have H := H.2 hb_2
   refine H.mono fun rv_2 h_3 H => ?_
   obtain ⟨t27_1, rfl, hL_3, H⟩ := H
   exact H
  have H := H.1 hb_2
  obtain ⟨hi_2, H⟩ := H
  refine pop_index sli24 siz37 .i64 m0_1 t11_1 hi_2 ?_
  obtain ⟨t14_1, hc_1, H⟩ := H
  refine rop_one one37 (Sl.v t14_1) hc_1 ?_
  refine pop_len t14_1 _ _ sli37 ?_
  refine pop_len m0_1 _ _ sli24 ?_
  refine pop_ine .i64 _ _ (t14_1.n : Int) (m0_1.n : Int) ?_
  refine guardM_sf (fun hb_3 => ?_) (fun hb_3 => ?_)
  rotate_left
  ·have H := H.1 hb_3
   refine guardM_n' hb_3 (by decide) ?_
   refine guardM_n' hb_3 (by decide) ?_
   refine pop_pickt' hb_3 ?_
   refine condM_t ?_
   exact H
  have H := H.2 hb_3
  refine guardM_y' hb_3 ?_
  refine H.mono fun rv_1 h_2 H => ?_
  obtain ⟨t22_1, rfl, hL_2, H⟩ := H
  refine guardM_y' hb_3 ?_
  refine pop_not t22_1 ?_
  refine pop_pickf' hb_3 ?_
  refine condM_b (fun hb_4 => ?_) (fun hb_4 => ?_)
  ·have H := H.1 hb_4
   exact H
  have H := H.2 hb_4
  refine pop_add .i64 t11_1 1 ?_
  obtain ⟨m_1, hm_1, H⟩ := H
  exact hn_1 _ _ ⟨m_1, hm_1, (w64 (t11_1 + 1)), rfl, H, hL_2⟩

/-! impl.has -/
def u63 (P : Program) (g0_1 : Sl) (places1_1 : Sl) (h : Heap) (K : Value → Heap → Prop) : Prop :=
  ∀ (b_1 : Nat) (h_1 : Heap), h.size ≤ b_1 → Fr (In []) h h_1 → Vars h_1 [(b_1, [(Sl.v g0_1)])] →
  callM P 113 #[(Value.agg #[(Sl.v g0_1)])] h_1 fun rv_1 h_2 => ∃ t6_1 : Bool, rv_1 = (VB t6_1) ∧ Vars h_2 [(b_1, [(Sl.v g0_1)])] ∧
  (t6_1 = true →
  callM P 96 #[(Sl.v places1_1), (Value.func (Fn.func 114) #[] #[(VP b_1 0)])] h_2 fun rv_2 h_3 => ∃ x_1 : Sl, ∃ t10_1 : Bool, rv_2 = (VB t10_1) ∧ Vars h_3 [(b_1, [(Sl.v x_1)])] ∧
  K (VB (!t10_1)) h_3) ∧
  (t6_1 = false →
  K (VB false) h_2)
theorem v63 (g0_1 : Sl) (places1_1 : Sl) (h : Heap) (K : Value → Heap → Prop) (H : u63 Try.prog g0_1 places1_1 h K) : callM Try.prog 63 #[(Value.agg #[(Sl.v g0_1)]), (Sl.v places1_1)] h K := by
  refine c63 (Value.agg #[(Sl.v g0_1)]) (Sl.v places1_1) h K ?_
  unfold u63 at H
  unfold t63
  have hL : Vars h [] := .nil
  refine eop_box 26 (Value.agg #[(Sl.v g0_1)]) rfl hL (fun b_1 h_1 hb_1 hf_1 hL_1 => ?_)
  refine rop_locA agg26 hL_1 0 rfl 0 (vs := [(Sl.v g0_1)]) rfl rfl ?_
  have H := H b_1 h_1 (Nat.le_trans (Fr.size (Fr.r (In []) _)) hb_1) (Fr.no' (Fr.r (In []) _) hf_1) hL_1
  refine H.mono fun rv_1 h_2 H => ?_
  obtain ⟨t6_1, rfl, hL_2, H⟩ := H
  refine guardM_st (fun hb_2 => ?_) (fun hb_2 => ?_)
  rotate_left
  ·have H := H.2 hb_2
   refine guardM_n' hb_2 (by decide) ?_
   refine guardM_n' hb_2 (by decide) ?_
   refine guardM_n' hb_2 (by decide) ?_
   refine pop_pickf' hb_2 ?_
   exact H
  have H := H.1 hb_2
  refine guardM_y' hb_2 ?_
  refine pop_func _ _ _ ?_
  refine guardM_y' hb_2 ?_
  refine H.mono fun rv_2 h_3 H => ?_
  obtain ⟨x_1, t10_1, rfl, hL_3, H⟩ := H
  refine guardM_y' hb_2 ?_
  refine pop_not t10_1 ?_
  refine pop_pickt' hb_2 ?_
  exact H

/-! (*spec.l1Cur).graph -/
def u68 (P : Program) (b_1 : Nat) (c0_1 : Sl) (c0_2 : Int) (c0_3 : Int) (h : Heap) (K : Value → Heap → Prop) : Prop :=
  ∀ (b_2 : Nat) (h_1 : Heap), h.size ≤ b_2 → Fr (In []) h h_1 → Vars h_1 [(b_2, [(Sl.v nilSl)]), (b_1, [(Sl.v c0_1), (VI c0_2), (Value.int .u64 c0_3)])] →
  callM P 118 #[(VP b_1 0), (VI 6)] h_1 fun rv_1 h_2 => ∃ x_1 : Sl, ∃ x_2 : Int, ∃ x_3 : Int, ∃ t5_1 : Sl, rv_1 = (Value.agg #[(Sl.v t5_1)]) ∧ Vars h_2 [(b_2, [(Sl.v nilSl)]), (b_1, [(Sl.v x_1), (VI x_2), (Value.int .u64 x_3)])] ∧
  ∀ (b_3 : Nat) (h_4 : Heap), h_2.size ≤ b_3 → Fr (In []) h_2 h_4 → Vars h_4 [(b_3, [(Sl.v t5_1)]), (b_2, [(Sl.v nilSl)]), (b_1, [(Sl.v x_1), (VI x_2), (Value.int .u64 x_3)])] →
  callM P 70 #[(VP b_1 0), (VI 16)] h_4 fun rv_2 h_5 => ∃ x_4 : Sl, ∃ x_5 : Int, ∃ x_6 : Int, ∃ t7_1 : Int, rv_2 = (VI t7_1) ∧ Vars h_5 [(b_3, [(Sl.v t5_1)]), (b_2, [(Sl.v nilSl)]), (b_1, [(Sl.v x_4), (VI x_5), (Value.int .u64 x_6)])] ∧
  ((decide (t7_1 = 0)) = true →
  InB t5_1 0 ∧
  ∃ t15_1 : Sl, hcell h_5 (Sl.at t5_1 0 1) = some (Sl.v t15_1) ∧
  eop P (Instr.buildSlice 37 3 #[(0, (Value.int IntKind.i64 (-1))), (1, (VI (t5_1.n : Int))), (2, (Value.int IntKind.i64 4611686018427387904))]) h_5 fun rv_3 h_6 => ∃ t20_1 : Sl, rv_3 = (Sl.v t20_1) ∧ Vars h_6 [(b_3, [(Sl.v t5_1)]), (b_2, [(Sl.v nilSl)]), (b_1, [(Sl.v x_4), (VI x_5), (Value.int .u64 x_6)])] ∧
  hcell h_6 (Sl.at t5_1 0 1) = some (Sl.v t15_1) ∧
  callM P 107 #[(VP b_1 0), (Sl.v t20_1)] h_6 fun rv_4 h_7 => ∃ x_7 : Sl, ∃ x_8 : Int, ∃ x_9 : Int, ∃ t21_1 : Int, rv_4 = (VI t21_1) ∧ Vars h_7 [(b_3, [(Sl.v t5_1)]), (b_2, [(Sl.v nilSl)]), (b_1, [(Sl.v x_7), (VI x_8), (Value.int .u64 x_9)])] ∧
  hcell h_7 (Sl.at t5_1 0 1) = some (Sl.v t15_1) ∧
  eop P (Instr.buildSlice 37 1 #[(0, (VI t21_1))]) h_7 fun rv_5 h_8 => ∃ t22_1 : Sl, rv_5 = (Sl.v t22_1) ∧ Vars h_8 [(b_3, [(Sl.v t5_1)]), (b_2, [(Sl.v nilSl)]), (b_1, [(Sl.v x_7), (VI x_8), (Value.int .u64 x_9)])] ∧
  hcell h_8 (Sl.at t5_1 0 1) = some (Sl.v t15_1) ∧
  eop P (appS 37 37 37 (Sl.v t15_1) (Sl.v t22_1)) h_8 fun rv_6 h_9 => ∃ t23_1 : Sl, rv_6 = (Sl.v t23_1) ∧ Vars h_9 [(b_3, [(Sl.v t5_1)]), (b_2, [(Sl.v nilSl)]), (b_1, [(Sl.v x_7), (VI x_8), (Value.int .u64 x_9)])] ∧
  InB t5_1 0 ∧
  Writable h_9 (Sl.at t5_1 0 1) ∧ Vars (hset h_9 (Sl.at t5_1 0 1) (Sl.v t23_1)) [(b_3, [(Sl.v t5_1)]), (b_2, [(Sl.v nilSl)]), (b_1, [(Sl.v x_7), (VI x_8), (Value.int .u64 x_9)])] ∧
  ∀ h_10 : Heap, h_10 = hset h_9 (Sl.at t5_1 0 1) (Sl.v t23_1) → Vars h_10 [(b_3, [(Sl.v t5_1)]), (b_2, [(Sl.v nilSl)]), (b_1, [(Sl.v x_7), (VI x_8), (Value.int .u64 x_9)])] →
  ∀ (h_11 : Heap), Fr (In [b_2]) h_10 h_11 → Vars h_11 [(b_3, [(Sl.v t5_1)]), (b_2, [(Sl.v t5_1)]), (b_1, [(Sl.v x_7), (VI x_8), (Value.int .u64 x_9)])] →
  K (Value.agg #[(Sl.v t5_1)]) h_11) ∧
  ((decide (t7_1 = 0)) = false →
  ((decide (t7_1 = 1)) = true →
  callM P 70 #[(VP b_1 0), (VI 2)] h_5 fun rv_7 h_12 => ∃ x_10 : Sl, ∃ x_11 : Int, ∃ x_12 : Int, ∃ t30_1 : Int, rv_7 = (VI t30_1) ∧ Vars h_12 [(b_3, [(Sl.v t5_1)]), (b_2, [(Sl.v nilSl)]), (b_1, [(Sl.v x_10), (VI x_11), (Value.int .u64 x_12)])] ∧
  eop P (Instr.makeSlice 37 (VI (w64 (5 + t30_1))) (VI (w64 (5 + t30_1)))) h_12 fun rv_8 h_13 => ∃ t32_1 : Sl, rv_8 = (Sl.v t32_1) ∧ Vars h_13 [(b_3, [(Sl.v t5_1)]), (b_2, [(Sl.v nilSl)]), (b_1, [(Sl.v x_10), (VI x_11), (Value.int .u64 x_12)])] ∧
  InB t5_1 0 ∧
  Writable h_13 (Sl.at t5_1 0 1) ∧ Vars (hset h_13 (Sl.at t5_1 0 1) (Sl.v t32_1)) [(b_3, [(Sl.v t5_1)]), (b_2, [(Sl.v nilSl)]), (b_1, [(Sl.v x_10), (VI x_11), (Value.int .u64 x_12)])] ∧
  ∀ h_14 : Heap, h_14 = hset h_13 (Sl.at t5_1 0 1) (Sl.v t32_1) → Vars h_14 [(b_3, [(Sl.v t5_1)]), (b_2, [(Sl.v nilSl)]), (b_1, [(Sl.v x_10), (VI x_11), (Value.int .u64 x_12)])] →
  ∀ (h_15 : Heap), Fr (In [b_2]) h_14 h_15 → Vars h_15 [(b_3, [(Sl.v t5_1)]), (b_2, [(Sl.v t5_1)]), (b_1, [(Sl.v x_10), (VI x_11), (Value.int .u64 x_12)])] →
  K (Value.agg #[(Sl.v t5_1)]) h_15) ∧
  ((decide (t7_1 = 1)) = false →
  ((decide (t7_1 = 2)) = true →
  ∃ J_1 : Nat → Sl → Sl → Int → Int → Heap → Prop, (∃ n0 : Nat, J_1 n0 t5_1 x_4 x_5 x_6 h_5) ∧
  ∀ (n_1 : Nat) (x_13 : Sl) (x_14 : Sl) (x_15 : Int) (x_16 : Int) (h_16 : Heap), J_1 n_1 x_13 x_14 x_15 x_16 h_16 → Vars h_16 [(b_3, [(Sl.v x_13)]), (b_2, [(Sl.v nilSl)]), (b_1, [(Sl.v x_14), (VI x_15), (Value.int .u64 x_16)])] →
  callM P 70 #[(VP b_1 0), (VI 2)] h_16 fun rv_9 h_17 => ∃ x_17 : Sl, ∃ x_18 : Int, ∃ x_19 : Int, ∃ t40_1 : Int, rv_9 = (VI t40_1) ∧ Vars h_17 [(b_3, [(Sl.v x_13)]), (b_2, [(Sl.v nilSl)]), (b_1, [(Sl.v x_17), (VI x_18), (Value.int .u64 x_19)])] ∧
  ((decide ((x_13.n : Int) < (w64 (8 + t40_1)))) = true →
  eop P (Instr.buildSlice 37 1 #[(0, (Value.int IntKind.i64 0))]) h_17 fun rv_10 h_18 => ∃ t45_1 : Sl, rv_10 = (Sl.v t45_1) ∧ Vars h_18 [(b_3, [(Sl.v x_13)]), (b_2, [(Sl.v nilSl)]), (b_1, [(Sl.v x_17), (VI x_18), (Value.int .u64 x_19)])] ∧
  eop P (Instr.buildSlice 24 1 #[(0, (Sl.v t45_1))]) h_18 fun rv_11 h_19 => ∃ t46_1 : Sl, rv_11 = (Sl.v t46_1) ∧ Vars h_19 [(b_3, [(Sl.v x_13)]), (b_2, [(Sl.v nilSl)]), (b_1, [(Sl.v x_17), (VI x_18), (Value.int .u64 x_19)])] ∧
  eop P (appS 24 24 24 (Sl.v x_13) (Sl.v t46_1)) h_19 fun rv_12 h_20 => ∃ t47_1 : Sl, rv_12 = (Sl.v t47_1) ∧ Vars h_20 [(b_3, [(Sl.v x_13)]), (b_2, [(Sl.v nilSl)]), (b_1, [(Sl.v x_17), (VI x_18), (Value.int .u64 x_19)])] ∧
  ∀ (h_21 : Heap), Fr (In [b_3]) h_20 h_21 → Vars h_21 [(b_3, [(Sl.v t47_1)]), (b_2, [(Sl.v nilSl)]), (b_1, [(Sl.v x_17), (VI x_18), (Value.int .u64 x_19)])] →
  ∃ m : Nat, m < n_1 ∧ J_1 m t47_1 x_17 x_18 x_19 h_21) ∧
  ((decide ((x_13.n : Int) < (w64 (8 + t40_1)))) = false →
  ∀ (h_22 : Heap), Fr (In [b_2]) h_17 h_22 → Vars h_22 [(b_3, [(Sl.v x_13)]), (b_2, [(Sl.v x_13)]), (b_1, [(Sl.v x_17), (VI x_18), (Value.int .u64 x_19)])] →
  K (Value.agg #[(Sl.v x_13)]) h_22)) ∧
  ((decide (t7_1 = 2)) = false →
  ((decide (t7_1 = 3)) = true →
  ∀ (h_24 : Heap), Fr (In [b_2, b_3]) h_5 h_24 → Vars h_24 [(b_3, [(Sl.v nilSl)]), (b_2, [(Sl.v nilSl)]), (b_1, [(Sl.v x_4), (VI x_5), (Value.int .u64 x_6)])] →
  K (Value.agg #[(Sl.v nilSl)]) h_24) ∧
  ((decide (t7_1 = 3)) = false →
  ∀ (h_25 : Heap), Fr (In [b_2]) h_5 h_25 → Vars h_25 [(b_3, [(Sl.v t5_1)]), (b_2, [(Sl.v t5_1)]), (b_1, [(Sl.v x_4), (VI x_5), (Value.int .u64 x_6)])] →
  K (Value.agg #[(Sl.v t5_1)]) h_25))))
theorem v68 (b_1 : Nat) (c0_1 : Sl) (c0_2 : Int) (c0_3 : Int) (h : Heap) (K : Value → Heap → Prop) (hL : Vars h [(b_1, [(Sl.v c0_1), (VI c0_2), (Value.int .u64 c0_3)])]) (H : u68 Try.prog b_1 c0_1 c0_2 c0_3 h K) : callM Try.prog 68 #[(VP b_1 0)] h K := by
  refine c68 (VP b_1 0) h K ?_
  unfold u68 at H
  unfold t68
  refine eop_alloc 26 zer26 rfl hL (fun b_2 h_1 hb_1 hf_1 hL_1 => ?_)
  have H := H b_2 h_1 (Nat.le_trans (Fr.size (Fr.r (In []) _)) hb_1) (Fr.no' (Fr.r (In []) _) hf_1) hL_1
  refine H.mono fun rv_1 h_2 H => ?_
  obtain ⟨x_1, x_2, x_3, t5_1, rfl, hL_2, H⟩ := H
  refine eop_alloc 26 zer26 rfl hL_2 (fun b_3 h_3 hb_2 hf_2 hL_3 => ?_)
  refine uop_loc siz26 hL_3 0 rfl 0 [(Sl.v t5_1)] rfl rfl rfl (Nat.le_of_ble_eq_true rfl) (L' := [(b_3, [(Sl.v t5_1)]), (b_2, [(Sl.v nilSl)]), (b_1, [(Sl.v x_1), (VI x_2), (Value.int .u64 x_3)])]) rfl (fun h_4 hf_3 hL_4 => ?_)
  have H := H b_3 h_4 (Nat.le_trans (Fr.size (Fr.r (In []) _)) hb_2) (Fr.new (Fr.no' (Fr.r (In []) _) hf_2) (Nat.le_trans (Fr.size (Fr.r (In []) _)) hb_2) hf_3) hL_4
  refine H.mono fun rv_2 h_5 H => ?_
  obtain ⟨x_4, x_5, x_6, t7_1, rfl, hL_5, H⟩ := H
  refine pop_ieq .i64 _ _ t7_1 0 ?_
  refine condM_b (fun hb_3 => ?_) (fun hb_3 => ?_)
  ·have H := H.1 hb_3
   refine pop_field 0 fld26_0 b_3 0 ?_
   refine rop_loc one24 hL_5 0 rfl 0 (v := (Sl.v t5_1)) rfl ?_
   refine pop_field 0 fld26_0 b_3 0 ?_
   refine rop_loc one24 hL_5 0 rfl 0 (v := (Sl.v t5_1)) rfl ?_
   obtain ⟨hi_1, H⟩ := H
   refine pop_index sli24 siz37 .i64 t5_1 0 hi_1 ?_
   obtain ⟨t15_1, hc_4, H⟩ := H
   refine rop_one one37 (Sl.v t15_1) hc_4 ?_
   refine pop_field 0 fld26_0 b_3 0 ?_
   refine rop_loc one24 hL_5 0 rfl 0 (v := (Sl.v t5_1)) rfl ?_
   refine pop_len t5_1 _ _ sli24 ?_
   refine H.mono fun rv_3 h_6 H => ?_
   obtain ⟨t20_1, rfl, hL_6, H⟩ := H
   refine ⟨?_, ?_⟩
   ·exact still_loc one24 hL_6 0 rfl 0 (v := (Sl.v t5_1)) rfl
   refine ⟨?_, ?_⟩
   ·exact still_one one37 H.1
   obtain ⟨hc_1, H⟩ := H
   refine ⟨?_, ?_⟩
   ·exact still_loc one24 hL_6 0 rfl 0 (v := (Sl.v t5_1)) rfl
   refine ⟨?_, ?_⟩
   ·exact still_loc one24 hL_6 0 rfl 0 (v := (Sl.v t5_1)) rfl
   refine H.mono fun rv_4 h_7 H => ?_
   obtain ⟨x_7, x_8, x_9, t21_1, rfl, hL_7, H⟩ := H
   refine ⟨?_, ?_⟩
   ·exact still_loc one24 hL_7 0 rfl 0 (v := (Sl.v t5_1)) rfl
   refine ⟨?_, ?_⟩
   ·exact still_one one37 H.1
   obtain ⟨hc_2, H⟩ := H
   refine ⟨?_, ?_⟩
   ·exact still_loc one24 hL_7 0 rfl 0 (v := (Sl.v t5_1)) rfl
   refine ⟨?_, ?_⟩
   ·exact still_loc one24 hL_7 0 rfl 0 (v := (Sl.v t5_1)) rfl
   refine H.mono fun rv_5 h_8 H => ?_
   obtain ⟨t22_1, rfl, hL_8, H⟩ := H
   refine ⟨?_, ?_⟩
   ·exact still_loc one24 hL_8 0 rfl 0 (v := (Sl.v t5_1)) rfl
   refine ⟨?_, ?_⟩
   ·exact still_one one37 H.1
   obtain ⟨hc_3, H⟩ := H
   refine ⟨?_, ?_⟩
   ·exact still_loc one24 hL_8 0 rfl 0 (v := (Sl.v t5_1)) rfl
   refine ⟨?_, ?_⟩
   ·exact still_loc one24 hL_8 0 rfl 0 (v := (Sl.v t5_1)) rfl
   refine H.mono fun rv_6 h_9 H => ?_
   obtain ⟨t23_1, rfl, hL_9, H⟩ := H
   refine ⟨?_, ?_⟩
   ·exact still_loc one24 hL_9 0 rfl 0 (v := (Sl.v t5_1)) rfl
   refine ⟨?_, ?_⟩
   ·exact still_loc one24 hL_9 0 rfl 0 (v := (Sl.v t5_1)) rfl
   refine ⟨?_, ?_⟩
   ·exact still_loc one24 hL_9 0 rfl 0 (v := (Sl.v t5_1)) rfl
   obtain ⟨hi_2, H⟩ := H
   refine pop_index sli24 siz37 .i64 t5_1 0 hi_2 ?_
   obtain ⟨hw_1, hL_10, H⟩ := H
   refine uop_cell (v := (Sl.v t23_1)) siz37 hw_1 rfl (fun h_10 he_1 => ?_)
   rw [← he_1] at hL_10
   have H := H h_10 he_1 hL_10
   refine rop_locA agg26 hL_10 0 rfl 0 (vs := [(Sl.v t5_1)]) rfl rfl ?_
   refine uop_loc siz26 hL_10 1 rfl 0 [(Sl.v t5_1)] rfl rfl rfl (Nat.le_of_ble_eq_true rfl) (L' := [(b_3, [(Sl.v t5_1)]), (b_2, [(Sl.v t5_1)]), (b_1, [(Sl.v x_7), (VI x_8), (Value.int .u64 x_9)])]) rfl (fun h_11 hf_4 hL_11 => ?_)
   refine rop_locA agg26 hL_11 1 rfl 0 (vs := [(Sl.v t5_1)]) rfl rfl ?_
   have H := H  h_11  (Fr.old (Fr.r (In []) _) hf_4) hL_11
   exact H
  have H := H.2 hb_3
  refine pop_ieq .i64 _ _ t7_1 1 ?_
  refine condM_b (fun hb_4 => ?_) (fun hb_4 => ?_)
  ·have H := H.1 hb_4
   refine pop_field 0 fld26_0 b_3 0 ?_
   refine rop_loc one24 hL_5 0 rfl 0 (v := (Sl.v t5_1)) rfl ?_
   refine H.mono fun rv_7 h_12 H => ?_
   obtain ⟨x_10, x_11, x_12, t30_1, rfl, hL_12, H⟩ := H
   refine ⟨?_, ?_⟩
   ·exact still_loc one24 hL_12 0 rfl 0 (v := (Sl.v t5_1)) rfl
   refine pop_add .i64 5 t30_1 ?_
   refine H.mono fun rv_8 h_13 H => ?_
   obtain ⟨t32_1, rfl, hL_13, H⟩ := H
   refine ⟨?_, ?_⟩
   ·exact still_loc one24 hL_13 0 rfl 0 (v := (Sl.v t5_1)) rfl
   obtain ⟨hi_3, H⟩ := H
   refine pop_index sli24 siz37 .i64 t5_1 0 hi_3 ?_
   obtain ⟨hw_2, hL_14, H⟩ := H
   refine uop_cell (v := (Sl.v t32_1)) siz37 hw_2 rfl (fun h_14 he_2 => ?_)
   rw [← he_2] at hL_14
   have H := H h_14 he_2 hL_14
   refine rop_locA agg26 hL_14 0 rfl 0 (vs := [(Sl.v t5_1)]) rfl rfl ?_
   refine uop_loc siz26 hL_14 1 rfl 0 [(Sl.v t5_1)] rfl rfl rfl (Nat.le_of_ble_eq_true rfl) (L' := [(b_3, [(Sl.v t5_1)]), (b_2, [(Sl.v t5_1)]), (b_1, [(Sl.v x_10), (VI x_11), (Value.int .u64 x_12)])]) rfl (fun h_15 hf_5 hL_15 => ?_)
   refine rop_locA agg26 hL_15 1 rfl 0 (vs := [(Sl.v t5_1)]) rfl rfl ?_
   have H := H  h_15  (Fr.old (Fr.r (In []) _) hf_5) hL_15
   exact H
  have H := H.2 hb_4
  refine pop_ieq .i64 _ _ t7_1 2 ?_
  refine condM_b (fun hb_5 => ?_) (fun hb_5 => ?_)
  rotate_left
  ·have H := H.2 hb_5
   refine pop_ieq .i64 _ _ t7_1 3 ?_
   refine condM_b (fun hb_7 => ?_) (fun hb_7 => ?_)
   rotate_left
   ·have H := H.2 hb_7
    refine rop_locA agg26 hL_5 0 rfl 0 (vs := [(Sl.v t5_1)]) rfl rfl ?_
    refine uop_loc siz26 hL_5 1 rfl 0 [(Sl.v t5_1)] rfl rfl rfl (Nat.le_of_ble_eq_true rfl) (L' := [(b_3, [(Sl.v t5_1)]), (b_2, [(Sl.v t5_1)]), (b_1, [(Sl.v x_4), (VI x_5), (Value.int .u64 x_6)])]) rfl (fun h_25 hf_10 hL_25 => ?_)
    refine rop_locA agg26 hL_25 1 rfl 0 (vs := [(Sl.v t5_1)]) rfl rfl ?_
    have H := H  h_25  (Fr.old (Fr.r (In []) _) hf_10) hL_25
    exact H
   have H := H.1 hb_7
   refine pop.mk' (v := (Value.agg #[(Sl.v nilSl)])) (fun w => by kernel_rfl) ?_
   refine uop_loc siz26 hL_5 0 rfl 0 [(Sl.v nilSl)] rfl rfl rfl (Nat.le_of_ble_eq_true rfl) (L' := [(b_3, [(Sl.v nilSl)]), (b_2, [(Sl.v nilSl)]), (b_1, [(Sl.v x_4), (VI x_5), (Value.int .u64 x_6)])]) rfl (fun h_23 hf_8 hL_23 => ?_)
   refine rop_locA agg26 hL_23 0 rfl 0 (vs := [(Sl.v nilSl)]) rfl rfl ?_
   refine uop_loc siz26 hL_23 1 rfl 0 [(Sl.v nilSl)] rfl rfl rfl (Nat.le_of_ble_eq_true rfl) (L' := [(b_3, [(Sl.v nilSl)]), (b_2, [(Sl.v nilSl)]), (b_1, [(Sl.v x_4), (VI x_5), (Value.int .u64 x_6)])]) rfl (fun h_24 hf_9 hL_24 => ?_)
   refine rop_locA agg26 hL_24 1 rfl 0 (vs := [(Sl.v nilSl)]) rfl rfl ?_
   have H := H  h_24  (Fr.old (Fr.old (Fr.r (In []) _) hf_8) hf_9) hL_24
   exact H
  have H := H.1 hb_5
  obtain ⟨J_1, ⟨n_2, h0_1⟩, HB_1⟩ := H
  refine loop_intro (J := fun (n : Nat) (vs : List Value) (h' : Heap) => ∃ x_13 : Sl, ∃ x_14 : Sl, ∃ x_15 : Int, ∃ x_16 : Int, vs = [] ∧ J_1 n x_13 x_14 x_15 x_16 h' ∧ Vars h' [(b_3, [(Sl.v x_13)]), (b_2, [(Sl.v nilSl)]), (b_1, [(Sl.v x_14), (VI x_15), (Value.int .u64 x_16)])]) n_2 ⟨t5_1, x_4, x_5, x_6, rfl, h0_1, hL_5⟩ ?_
  intro I_1 mu_1 hI_1 junk_1  h_16 hi_4
  obtain ⟨n_1, ⟨x_13, x_14, x_15, x_16, hv, hJ_1, hL_16⟩, hn_1⟩ := hI_1 _ _ hi_4
  cases hv
  have H := HB_1 n_1 x_13 x_14 x_15 x_16 h_16 hJ_1 hL_16
  refine pop_field 0 fld26_0 b_3 0 ?_
  refine rop_loc one24 hL_16 0 rfl 0 (v := (Sl.v x_13)) rfl ?_
  refine pop_len x_13 _ _ sli24 ?_
  refine H.mono fun rv_9 h_17 H => ?_
  obtain ⟨x_17, x_18, x_19, t40_1, rfl, hL_17, H⟩ := H
  refine ⟨?_, ?_⟩
  ·exact still_loc one24 hL_17 0 rfl 0 (v := (Sl.v x_13)) rfl
  refine pop_add .i64 8 t40_1 ?_
  refine pop_lss .i64 (x_13.n : Int) (w64 (8 + t40_1)) ?_
  refine condM_b (fun hb_6 => ?_) (fun hb_6 => ?_)
  rotate_left
  ·have H := H.2 hb_6
   refine rop_locA agg26 hL_17 0 rfl 0 (vs := [(Sl.v x_13)]) rfl rfl ?_
   refine uop_loc siz26 hL_17 1 rfl 0 [(Sl.v x_13)] rfl rfl rfl (Nat.le_of_ble_eq_true rfl) (L' := [(b_3, [(Sl.v x_13)]), (b_2, [(Sl.v x_13)]), (b_1, [(Sl.v x_17), (VI x_18), (Value.int .u64 x_19)])]) rfl (fun h_22 hf_7 hL_22 => ?_)
   refine rop_locA agg26 hL_22 1 rfl 0 (vs := [(Sl.v x_13)]) rfl rfl ?_
   have H := H  h_22  (Fr.old (Fr.r (In []) _) hf_7) hL_22
   exact H
  have H := H.1 hb_6
  refine pop_field 0 fld26_0 b_3 0 ?_
  refine rop_loc one24 hL_17 0 rfl 0 (v := (Sl.v x_13)) rfl ?_
  refine H.mono fun rv_10 h_18 H => ?_
  obtain ⟨t45_1, rfl, hL_18, H⟩ := H
  refine H.mono fun rv_11 h_19 H => ?_
  obtain ⟨t46_1, rfl, hL_19, H⟩ := H
  refine H.mono fun rv_12 h_20 H => ?_
  obtain ⟨t47_1, rfl, hL_20, H⟩ := H
  refine pop_field 0 fld26_0 b_3 0 ?_
  refine uop_loc siz24 hL_20 0 rfl 0 [(Sl.v t47_1)] rfl rfl rfl (Nat.le_of_ble_eq_true rfl) (L' := [(b_3, [(Sl.v t47_1)]), (b_2, [(Sl.v nilSl)]), (b_1, [(Sl.v x_17), (VI x_18), (Value.int .u64 x_19)])]) rfl (fun h_21 hf_6 hL_21 => ?_)
  have H := H  h_21  (Fr.old (Fr.r (In []) _) hf_6) hL_21
  obtain ⟨m_1, hm_1, H⟩ := H
  exact hn_1 _ _ ⟨m_1, hm_1, t47_1, x_17, x_18, x_19, rfl, H, hL_21⟩

/-! (*spec.l1Cur).place -/
def u69 (P : Program) (b_1 : Nat) (c0_1 : Sl) (c0_2 : Int) (c0_3 : Int) (g1_1 : Sl) (h : Heap) (K : Value → Heap → Prop) : Prop :=
  ((decide ((g1_1.n : Int) = 0)) = true →
  ∀ (b_2 : Nat) (h_1 : Heap), h.size ≤ b_2 → Fr (In []) h h_1 → Vars h_1 [(b_2, [(Sl.v g1_1)]), (b_1, [(Sl.v c0_1), (VI c0_2), (Value.int .u64 c0_3)])] →
  eop P (Instr.buildSlice 37 4 #[(0, (Value.int IntKind.i64 (-1))), (1, (Value.int IntKind.i64 0)), (2, (VI (g1_1.n : Int))), (3, (Value.int IntKind.i64 4611686018427387904))]) h_1 fun rv_5 h_6 => ∃ t17_2 : Sl, rv_5 = (Sl.v t17_2) ∧ Vars h_6 [(b_2, [(Sl.v g1_1)]), (b_1, [(Sl.v c0_1), (VI c0_2), (Value.int .u64 c0_3)])] ∧
  callM P 107 #[(VP b_1 0), (Sl.v t17_2)] h_6 fun rv_6 h_7 => ∃ x_10 : Sl, ∃ x_11 : Int, ∃ x_12 : Int, ∃ t18_2 : Int, rv_6 = (VI t18_2) ∧ Vars h_7 [(b_2, [(Sl.v g1_1)]), (b_1, [(Sl.v x_10), (VI x_11), (Value.int .u64 x_12)])] ∧
  K (VI t18_2) h_7) ∧
  ((decide ((g1_1.n : Int) = 0)) = false →
  ∀ (b_2 : Nat) (h_1 : Heap), h.size ≤ b_2 → Fr (In []) h h_1 → Vars h_1 [(b_2, [(Sl.v g1_1)]), (b_1, [(Sl.v c0_1), (VI c0_2), (Value.int .u64 c0_3)])] →
  callM P 106 #[(VP b_1 0), (VI 14)] h_1 fun rv_1 h_2 => ∃ x_1 : Sl, ∃ x_2 : Int, ∃ x_3 : Int, ∃ t11_1 : Bool, rv_1 = (VB t11_1) ∧ Vars h_2 [(b_2, [(Sl.v g1_1)]), (b_1, [(Sl.v x_1), (VI x_2), (Value.int .u64 x_3)])] ∧
  (t11_1 = true →
  eop P (Instr.buildSlice 37 4 #[(0, (Value.int IntKind.i64 (-1))), (1, (Value.int IntKind.i64 0)), (2, (VI (g1_1.n : Int))), (3, (Value.int IntKind.i64 4611686018427387904))]) h_2 fun rv_2 h_3 => ∃ t17_1 : Sl, rv_2 = (Sl.v t17_1) ∧ Vars h_3 [(b_2, [(Sl.v g1_1)]), (b_1, [(Sl.v x_1), (VI x_2), (Value.int .u64 x_3)])] ∧
  callM P 107 #[(VP b_1 0), (Sl.v t17_1)] h_3 fun rv_3 h_4 => ∃ x_4 : Sl, ∃ x_5 : Int, ∃ x_6 : Int, ∃ t18_1 : Int, rv_3 = (VI t18_1) ∧ Vars h_4 [(b_2, [(Sl.v g1_1)]), (b_1, [(Sl.v x_4), (VI x_5), (Value.int .u64 x_6)])] ∧
  K (VI t18_1) h_4) ∧
  (t11_1 = false →
  callM P 70 #[(VP b_1 0), (VI (g1_1.n : Int))] h_2 fun rv_4 h_5 => ∃ x_7 : Sl, ∃ x_8 : Int, ∃ x_9 : Int, ∃ t23_1 : Int, rv_4 = (VI t23_1) ∧ Vars h_5 [(b_2, [(Sl.v g1_1)]), (b_1, [(Sl.v x_7), (VI x_8), (Value.int .u64 x_9)])] ∧
  K (VI t23_1) h_5))
theorem v69 (b_1 : Nat) (c0_1 : Sl) (c0_2 : Int) (c0_3 : Int) (g1_1 : Sl) (h : Heap) (K : Value → Heap → Prop) (hL : Vars h [(b_1, [(Sl.v c0_1), (VI c0_2), (Value.int .u64 c0_3)])]) (H : u69 Try.prog b_1 c0_1 c0_2 c0_3 g1_1 h K) : callM Try.prog 69 #[(VP b_1 0), (Value.agg #[(Sl.v g1_1)])] h K := by
  refine c69 (VP b_1 0) (Value.agg #[(Sl.v g1_1)]) h K ?_
  unfold u69 at H
  unfold t69
  refine eop_box 26 (Value.agg #[(Sl.v g1_1)]) rfl hL (fun b_2 h_1 hb_1 hf_1 hL_1 => ?_)
  refine pop_field 0 fld26_0 b_2 0 ?_
  refine rop_loc one24 hL_1 0 rfl 0 (v := (Sl.v g1_1)) rfl ?_
  refine pop_len g1_1 _ _ sli24 ?_
  refine pop_ieq .i64 _ _ (g1_1.n : Int) 0 ?_
  refine guardM_sf (fun hb_2 => ?_) (fun hb_2 => ?_)
  rotate_left
  ·have H := H.1 hb_2
   refine guardM_n' hb_2 (by decide) ?_
   refine pop_pickt' hb_2 ?_
   refine condM_t ?_
   refine pop_field 0 fld26_0 b_2 0 ?_
   refine rop_loc one24 hL_1 0 rfl 0 (v := (Sl.v g1_1)) rfl ?_
   refine pop_len g1_1 _ _ sli24 ?_
   have H := H b_2 h_1 (Nat.le_trans (Fr.size (Fr.r (In []) _)) hb_1) (Fr.no' (Fr.r (In []) _) hf_1) hL_1
   refine H.mono fun rv_5 h_6 H => ?_
   obtain ⟨t17_2, rfl, hL_6, H⟩ := H
   refine H.mono fun rv_6 h_7 H => ?_
   obtain ⟨x_10, x_11, x_12, t18_2, rfl, hL_7, H⟩ := H
   exact H
  have H := H.2 hb_2
  refine guardM_y' hb_2 ?_
  have H := H b_2 h_1 (Nat.le_trans (Fr.size (Fr.r (In []) _)) hb_1) (Fr.no' (Fr.r (In []) _) hf_1) hL_1
  refine H.mono fun rv_1 h_2 H => ?_
  obtain ⟨x_1, x_2, x_3, t11_1, rfl, hL_2, H⟩ := H
  refine pop_pickf' hb_2 ?_
  refine condM_b (fun hb_3 => ?_) (fun hb_3 => ?_)
  rotate_left
  ·have H := H.2 hb_3
   refine pop_field 0 fld26_0 b_2 0 ?_
   refine rop_loc one24 hL_2 0 rfl 0 (v := (Sl.v g1_1)) rfl ?_
   refine pop_len g1_1 _ _ sli24 ?_
   refine H.mono fun rv_4 h_5 H => ?_
   obtain ⟨x_7, x_8, x_9, t23_1, rfl, hL_5, H⟩ := H
   exact H
  have H := H.1 hb_3
  refine pop_field 0 fld26_0 b_2 0 ?_
  refine rop_loc one24 hL_2 0 rfl 0 (v := (Sl.v g1_1)) rfl ?_
  refine pop_len g1_1 _ _ sli24 ?_
  refine H.mono fun rv_2 h_3 H => ?_
  obtain ⟨t17_1, rfl, hL_3, H⟩ := H
  refine H.mono fun rv_3 h_4 H => ?_
  obtain ⟨x_4, x_5, x_6, t18_1, rfl, hL_4, H⟩ := H
  exact H

/-! (*spec.l1Cur).pick -/
def u70 (P : Program) (b_1 : Nat) (c0_1 : Sl) (c0_2 : Int) (c0_3 : Int) (n1_1 : Int) (h : Heap) (K : Value → Heap → Prop) : Prop :=
  ((decide (n1_1 ≤ 1)) = true →
  K (VI 0) h) ∧
  ((decide (n1_1 ≤ 1)) = false →
  callM P 119 #[(VP b_1 0)] h fun rv_1 h_1 => ∃ x_1 : Sl, ∃ x_2 : Int, ∃ x_3 : Int, ∃ t9_1 : Int, rv_1 = (VI t9_1) ∧ Vars h_1 [(b_1, [(Sl.v x_1), (VI x_2), (Value.int .u64 x_3)])] ∧
  ∃ J_1 : Int → Sl → Int → Int → Heap → Prop, (((decide (200 < n1_1)) = true →
  callM P 119 #[(VP b_1 0)] h_1 fun rv_2 h_2 => ∃ x_8 : Sl, ∃ x_9 : Int, ∃ x_10 : Int, ∃ t15_1 : Int, rv_2 = (VI t15_1) ∧ Vars h_2 [(b_1, [(Sl.v x_8), (VI x_9), (Value.int .u64 x_10)])] ∧
  J_1 (w64 ((w64 (t9_1 * 256)) + t15_1)) x_8 x_9 x_10 h_2) ∧
  ((decide (200 < n1_1)) = false →
  J_1 t9_1 x_1 x_2 x_3 h_1)) ∧
  ∀ (x_4 : Int) (x_5 : Sl) (x_6 : Int) (x_7 : Int) (h_3 : Heap), J_1 x_4 x_5 x_6 x_7 h_3 → Vars h_3 [(b_1, [(Sl.v x_5), (VI x_6), (Value.int .u64 x_7)])] →
  n1_1 ≠ 0 ∧
  K (VI (Int.tmod x_4 n1_1)) h_3)
theorem v70 (b_1 : Nat) (c0_1 : Sl) (c0_2 : Int) (c0_3 : Int) (n1_1 : Int) (h : Heap) (K : Value → Heap → Prop) (hL : Vars h [(b_1, [(Sl.v c0_1), (VI c0_2), (Value.int .u64 c0_3)])]) (H : u70 Try.prog b_1 c0_1 c0_2 c0_3 n1_1 h K) : callM Try.prog 70 #[(VP b_1 0), (VI n1_1)] h K := by
  refine c70 (VP b_1 0) (VI n1_1) h K ?_
  unfold u70 at H
  unfold t70
  refine pop_leq .i64 n1_1 1 ?_
  refine condM_b (fun hb_1 => ?_) (fun hb_1 => ?_)
  ·have H := H.1 hb_1
   exact H
  have H := H.2 hb_1
  refine H.mono fun rv_1 h_1 H => ?_
  obtain ⟨x_1, x_2, x_3, t9_1, rfl, hL_1, H⟩ := H
  obtain ⟨J_1, H, HB_1⟩ := H
  refine ⟨fun (vs : List Value) (h' : Heap) => ∃ x_4 : Int, ∃ x_5 : Sl, ∃ x_6 : Int, ∃ x_7 : Int, vs = [(VI x_4)] ∧ J_1 x_4 x_5 x_6 x_7 h' ∧ Vars h' [(b_1, [(Sl.v x_5), (VI x_6), (Value.int .u64 x_7)])], ?_, ?_⟩
  ·refine pop_gtr .i64 n1_1 200 ?_
   refine condM_b (fun hb_2 => ?_) (fun hb_2 => ?_)
   rotate_left
   ·have H := H.2 hb_2
    exact ⟨t9_1, x_1, x_2, x_3, rfl, H, hL_1⟩
   have H := H.1 hb_2
   refine pop_mul .i64 t9_1 256 ?_
   refine H.mono fun rv_2 h_2 H => ?_
   obtain ⟨x_8, x_9, x_10, t15_1, rfl, hL_2, H⟩ := H
   refine pop_add .i64 (w64 (t9_1 * 256)) t15_1 ?_
   exact ⟨(w64 ((w64 (t9_1 * 256)) + t15_1)), x_8, x_9, x_10, rfl, H, hL_2⟩
  intro junk_1 tv_1 h_3
  rintro ⟨x_4, x_5, x_6, x_7, hv, hJ_1, hL_3⟩
  cases hv
  have H := HB_1 x_4 x_5 x_6 x_7 h_3 hJ_1 hL_3
  obtain ⟨hz_1, H⟩ := H
  refine pop_rem .i64 x_4 n1_1 hz_1 ?_
  exact H

/-! impl.in -/
def u71 (P : Program) (n0_1 : Int) (low1_1 : Int) (high2_1 : Int) (h : Heap) (K : Value → Heap → Prop) : Prop :=
  ((decide (low1_1 ≤ n0_1)) = true →
  K (VB (decide (n0_1 ≤ high2_1))) h) ∧
  ((decide (low1_1 ≤ n0_1)) = false →
  K (VB false) h)
theorem v71 (n0_1 : Int) (low1_1 : Int) (high2_1 : Int) (h : Heap) (K : Value → Heap → Prop) (H : u71 Try.prog n0_1 low1_1 high2_1 h K) : callM Try.prog 71 #[(VI n0_1), (VI low1_1), (VI high2_1)] h K := by
  refine c71 (VI n0_1) (VI low1_1) (VI high2_1) h K ?_
  unfold u71 at H
  unfold t71
  have hL : Vars h [] := .nil
  refine pop_leq .i64 low1_1 n0_1 ?_
  refine guardM_st (fun hb_1 => ?_) (fun hb_1 => ?_)
  rotate_left
  ·have H := H.2 hb_1
   refine guardM_n' hb_1 (by decide) ?_
   refine guardM_n' hb_1 (by decide) ?_
   refine pop_pickf' hb_1 ?_
   exact H
  have H := H.1 hb_1
  refine guardM_y' hb_1 ?_
  refine guardM_y' hb_1 ?_
  refine pop_leq .i64 n0_1 high2_1 ?_
  refine pop_pickt' hb_1 ?_
  exact H

/-! spec.grPlace -/
def u72 (P : Program) (g0_1 : Sl) (p1_1 : Int) (h : Heap) (K : Value → Heap → Prop) : Prop :=
  ∀ (b_1 : Nat) (h_1 : Heap), h.size ≤ b_1 → Fr (In []) h h_1 → Vars h_1 [(b_1, [(Sl.v g0_1)])] →
  callM P 120 #[(Value.agg #[(Sl.v g0_1)])] h_1 fun rv_1 h_2 => ∃ t6_1 : Bool, rv_1 = (VB t6_1) ∧ Vars h_2 [(b_1, [(Sl.v g0_1)])] ∧
  (t6_1 = true →
  callM P 73 #[(VI p1_1), (VI 0), (VI (w64 ((g0_1.n : Int) - 1)))] h_2 fun rv_2 h_3 => ∃ t13_1 : Bool, rv_2 = (VB t13_1) ∧ Vars h_3 [(b_1, [(Sl.v g0_1)])] ∧
  K (VB t13_1) h_3) ∧
  (t6_1 = false →
  K (VB false) h_2)
theorem v72 (g0_1 : Sl) (p1_1 : Int) (h : Heap) (K : Value → Heap → Prop) (H : u72 Try.prog g0_1 p1_1 h K) : callM Try.prog 72 #[(Value.agg #[(Sl.v g0_1)]), (VI p1_1)] h K := by
  refine c72 (Value.agg #[(Sl.v g0_1)]) (VI p1_1) h K ?_
  unfold u72 at H
  unfold t72
  have hL : Vars h [] := .nil
  refine eop_box 26 (Value.agg #[(Sl.v g0_1)]) rfl hL (fun b_1 h_1 hb_1 hf_1 hL_1 => ?_)
  refine rop_locA agg26 hL_1 0 rfl 0 (vs := [(Sl.v g0_1)]) rfl rfl ?_
  have H := H b_1 h_1 (Nat.le_trans (Fr.size (Fr.r (In []) _)) hb_1) (Fr.no' (Fr.r (In []) _) hf_1) hL_1
  refine H.mono fun rv_1 h_2 H => ?_
  obtain ⟨t6_1, rfl, hL_2, H⟩ := H
  refine guardM_st (fun hb_2 => ?_) (fun hb_2 => ?_)
  rotate_left
  ·have H := H.2 hb_2
   refine guardM_n' hb_2 (by decide) ?_
   refine guardM_n' hb_2 (by decide) ?_
   refine guardM_n' hb_2 (by decide) ?_
   refine guardM_n' hb_2 (by decide) ?_
   refine guardM_n' hb_2 (by decide) ?_
   refine pop_pickf' hb_2 ?_
   exact H
  have H := H.1 hb_2
  refine guardM_y' hb_2 ?_
  refine pop_field 0 fld26_0 b_1 0 ?_
  refine guardM_y' hb_2 ?_
  refine rop_loc one24 hL_2 0 rfl 0 (v := (Sl.v g0_1)) rfl ?_
  refine guardM_y' hb_2 ?_
  refine pop_len g0_1 _ _ sli24 ?_
  refine guardM_y' hb_2 ?_
  refine pop_sub .i64 (g0_1.n : Int) 1 ?_
  refine guardM_y' hb_2 ?_
  refine H.mono fun rv_2 h_3 H => ?_
  obtain ⟨t13_1, rfl, hL_3, H⟩ := H
  refine pop_pickt' hb_2 ?_
  exact H

/-! spec.l1In -/
def u73 (P : Program) (n0_1 : Int) (lo1_1 : Int) (hi2_1 : Int) (h : Heap) (K : Value → Heap → Prop) : Prop :=
  ((decide (lo1_1 ≤ n0_1)) = true →
  K (VB (decide (n0_1 ≤ hi2_1))) h) ∧
  ((decide (lo1_1 ≤ n0_1)) = false →
  K (VB false) h)
theorem v73 (n0_1 : Int) (lo1_1 : Int) (hi2_1 : Int) (h : Heap) (K : Value → Heap → Prop) (H : u73 Try.prog n0_1 lo1_1 hi2_1 h K) : callM Try.prog 73 #[(VI n0_1), (VI lo1_1), (VI hi2_1)] h K := by
  refine c73 (VI n0_1) (VI lo1_1) (VI hi2_1) h K ?_
  unfold u73 at H
  unfold t73
  have hL : Vars h [] := .nil
  refine pop_geq .i64 n0_1 lo1_1 ?_
  refine guardM_st (fun hb_1 => ?_) (fun hb_1 => ?_)
  rotate_left
  ·have H := H.2 hb_1
   refine guardM_n' hb_1 (by decide) ?_
   refine guardM_n' hb_1 (by decide) ?_
   refine pop_pickf' hb_1 ?_
   exact H
  have H := H.1 hb_1
  refine guardM_y' hb_1 ?_
  refine guardM_y' hb_1 ?_
  refine pop_leq .i64 n0_1 hi2_1 ?_
  refine pop_pickt' hb_1 ?_
  exact H

/-! spec.DrawCountTrees -/
def u87 (P : Program) (code0_1 : Sl) (h : Heap) (K : Value → Heap → Prop) : Prop :=
  ∀ (b_1 : Nat) (b_2 : Nat) (h_2 : Heap), h.size ≤ b_1 → h.size ≤ b_2 → Fr (In []) h h_2 → Vars h_2 [(b_2, [(Sl.v code0_1), (VI 0), (Value.int .u64 0)]), (b_1, [(Sl.v nilSl)])] →
  callM P 127 #[(VP b_2 0)] h_2 fun rv_1 h_3 => ∃ x_1 : Sl, ∃ x_2 : Int, ∃ x_3 : Int, ∃ t9_1 : Sl, ∃ t9_2 : Int, rv_1 = (Value.tuple #[(Value.agg #[(Sl.v t9_1)]), (VI t9_2)]) ∧ Vars h_3 [(b_2, [(Sl.v x_1), (VI x_2), (Value.int .u64 x_3)]), (b_1, [(Sl.v nilSl)])] ∧
  ∀ (h_4 : Heap), Fr (In [b_1]) h_3 h_4 → Vars h_4 [(b_2, [(Sl.v x_1), (VI x_2), (Value.int .u64 x_3)]), (b_1, [(Sl.v t9_1)])] →
  K (Value.tuple #[(Value.agg #[(Sl.v t9_1)]), (VI t9_2)]) h_4
theorem v87 (code0_1 : Sl) (h : Heap) (K : Value → Heap → Prop) (H : u87 Try.prog code0_1 h K) : callM Try.prog 87 #[(Sl.v code0_1)] h K := by
  refine c87 (Sl.v code0_1) h K ?_
  unfold u87 at H
  unfold t87
  have hL : Vars h [] := .nil
  refine eop_alloc 26 zer26 rfl hL (fun b_1 h_1 hb_1 hf_1 hL_1 => ?_)
  refine pop.mk' (v := (Value.agg #[(Sl.v code0_1), (VI 0), (Value.int .u64 0)])) (fun w => by kernel_rfl) ?_
  refine eop_box 69 (Value.agg #[(Sl.v code0_1), (VI 0), (Value.int .u64 0)]) rfl hL_1 (fun b_2 h_2 hb_2 hf_2 hL_2 => ?_)
  have H := H b_1 b_2 h_2 (Nat.le_trans (Fr.size (Fr.r (In []) _)) hb_1) (Nat.le_trans (Fr.size (Fr.no' (Fr.r (In []) _) hf_1)) hb_2) (Fr.no' (Fr.no' (Fr.r (In []) _) hf_1) hf_2) hL_2
  refine H.mono fun rv_1 h_3 H => ?_
  obtain ⟨x_1, x_2, x_3, t9_1, t9_2, rfl, hL_3, H⟩ := H
  refine pop_ext (v := (Value.agg #[(Sl.v t9_1)])) rfl ?_
  refine pop_ext (v := (VI t9_2)) rfl ?_
  refine uop_loc siz26 hL_3 1 rfl 0 [(Sl.v t9_1)] rfl rfl rfl (Nat.le_of_ble_eq_true rfl) (L' := [(b_2, [(Sl.v x_1), (VI x_2), (Value.int .u64 x_3)]), (b_1, [(Sl.v t9_1)])]) rfl (fun h_4 hf_3 hL_4 => ?_)
  refine rop_locA agg26 hL_4 1 rfl 0 (vs := [(Sl.v t9_1)]) rfl rfl ?_
  have H := H  h_4  (Fr.old (Fr.r (In []) _) hf_3) hL_4
  exact H

/-! impl.determinant -/
def u88 (P : Program) (m0_1 : Sl) (h : Heap) (K : Value → Heap → Prop) : Prop :=
  eop P (Instr.buildSlice 24 0 #[]) h fun rv_1 h_1 => ∃ t15_1 : Sl, rv_1 = (Sl.v t15_1) ∧ Vars h_1 [] ∧
  ∃ J_1 : Nat → Sl → Int → Heap → Prop, (∃ n0 : Nat, J_1 n0 t15_1 0 h_1) ∧
  ∀ (n_1 : Nat) (a6_1 : Sl) (t18_1 : Int) (h_2 : Heap), J_1 n_1 a6_1 t18_1 h_2 → Vars h_2 [] →
  ((decide (t18_1 < (m0_1.n : Int))) = true →
  InB m0_1 t18_1 ∧
  ∃ t21_1 : Sl, hcell h_2 (Sl.at m0_1 t18_1 1) = some (Sl.v t21_1) ∧
  callM P 117 #[(Sl.v t21_1)] h_2 fun rv_2 h_3 => ∃ t24_1 : Sl, rv_2 = (Sl.v t24_1) ∧ Vars h_3 [] ∧
  eop P (Instr.buildSlice 24 1 #[(0, (Sl.v t24_1))]) h_3 fun rv_3 h_4 => ∃ t25_1 : Sl, rv_3 = (Sl.v t25_1) ∧ Vars h_4 [] ∧
  eop P (appS 24 24 24 (Sl.v a6_1) (Sl.v t25_1)) h_4 fun rv_4 h_5 => ∃ t26_1 : Sl, rv_4 = (Sl.v t26_1) ∧ Vars h_5 [] ∧
  ∃ m : Nat, m < n_1 ∧ J_1 m t26_1 (w64 (t18_1 + 1)) h_5) ∧
  ((decide (t18_1 < (m0_1.n : Int))) = false →
  ∃ J_2 : Nat → Int → Int → Int → Heap → Prop, (∃ n0 : Nat, J_2 n0 1 1 0 h_2) ∧
  ∀ (n_2 : Nat) (sign4_1 : Int) (last5_1 : Int) (t29_1 : Int) (h_6 : Heap), J_2 n_2 sign4_1 last5_1 t29_1 h_6 → Vars h_6 [] →
  ((decide (t29_1 < (m0_1.n : Int))) = true →
  ∃ J_3 : Nat → Int → Heap → Prop, (∃ n0 : Nat, J_3 n0 t29_1 h_6) ∧
  ∀ (n_3 : Nat) (pivot10_1 : Int) (h_7 : Heap), J_3 n_3 pivot10_1 h_7 → Vars h_7 [] →
  ((decide (pivot10_1 < (m0_1.n : Int))) = true →
  InB a6_1 pivot10_1 ∧
  ∃ t40_1 : Sl, hcell h_7 (Sl.at a6_1 pivot10_1 1) = some (Sl.v t40_1) ∧
  InB t40_1 t29_1 ∧
  ∃ t43_1 : Int, hcell h_7 (Sl.at t40_1 t29_1 1) = some (VI t43_1) ∧
  ((decide (t43_1 = 0)) = true →
  ∃ m : Nat, m < n_3 ∧ J_3 m (w64 (pivot10_1 + 1)) h_7) ∧
  ((decide (t43_1 = 0)) = false →
  ((decide (pivot10_1 = (m0_1.n : Int))) = true →
  K (VI 0) h_7) ∧
  ((decide (pivot10_1 = (m0_1.n : Int))) = false →
  ∃ J_4 : Int → Heap → Prop, (((!decide (pivot10_1 = t29_1)) = true →
  InB a6_1 t29_1 ∧
  ∃ t61_1 : Sl, hcell h_7 (Sl.at a6_1 t29_1 1) = some (Sl.v t61_1) ∧
  InB a6_1 pivot10_1 ∧
  ∃ t65_1 : Sl, hcell h_7 (Sl.at a6_1 pivot10_1 1) = some (Sl.v t65_1) ∧
  InB a6_1 pivot10_1 ∧
  Writable h_7 (Sl.at a6_1 pivot10_1 1) ∧ Vars (hset h_7 (Sl.at a6_1 pivot10_1 1) (Sl.v t61_1)) [] ∧
  ∀ h_8 : Heap, h_8 = hset h_7 (Sl.at a6_1 pivot10_1 1) (Sl.v t61_1) → Vars h_8 [] →
  InB a6_1 t29_1 ∧
  Writable h_8 (Sl.at a6_1 t29_1 1) ∧ Vars (hset h_8 (Sl.at a6_1 t29_1 1) (Sl.v t65_1)) [] ∧
  ∀ h_9 : Heap, h_9 = hset h_8 (Sl.at a6_1 t29_1 1) (Sl.v t65_1) → Vars h_9 [] →
  J_4 (w64 (0 - sign4_1)) h_9) ∧
  ((!decide (pivot10_1 = t29_1)) = false →
  J_4 sign4_1 h_7)) ∧
  ∀ (x_1 : Int) (h_10 : Heap), J_4 x_1 h_10 → Vars h_10 [] →
  ∃ J_5 : Nat → Int → Heap → Prop, (∃ n0 : Nat, J_5 n0 (w64 (t29_1 + 1)) h_10) ∧
  ∀ (n_4 : Nat) (i11_1 : Int) (h_11 : Heap), J_5 n_4 i11_1 h_11 → Vars h_11 [] →
  ((decide (i11_1 < (m0_1.n : Int))) = true →
  ∃ J_6 : Nat → Int → Heap → Prop, (∃ n0 : Nat, J_6 n0 (w64 (t29_1 + 1)) h_11) ∧
  ∀ (n_5 : Nat) (j12_1 : Int) (h_12 : Heap), J_6 n_5 j12_1 h_12 → Vars h_12 [] →
  ((decide (j12_1 < (m0_1.n : Int))) = true →
  InB a6_1 i11_1 ∧
  ∃ t87_1 : Sl, hcell h_12 (Sl.at a6_1 i11_1 1) = some (Sl.v t87_1) ∧
  InB a6_1 i11_1 ∧
  ∃ t92_1 : Sl, hcell h_12 (Sl.at a6_1 i11_1 1) = some (Sl.v t92_1) ∧
  InB t92_1 j12_1 ∧
  ∃ t95_1 : Int, hcell h_12 (Sl.at t92_1 j12_1 1) = some (VI t95_1) ∧
  InB a6_1 t29_1 ∧
  ∃ t99_1 : Sl, hcell h_12 (Sl.at a6_1 t29_1 1) = some (Sl.v t99_1) ∧
  InB t99_1 t29_1 ∧
  ∃ t102_1 : Int, hcell h_12 (Sl.at t99_1 t29_1 1) = some (VI t102_1) ∧
  InB a6_1 i11_1 ∧
  ∃ t107_1 : Sl, hcell h_12 (Sl.at a6_1 i11_1 1) = some (Sl.v t107_1) ∧
  InB t107_1 t29_1 ∧
  ∃ t110_1 : Int, hcell h_12 (Sl.at t107_1 t29_1 1) = some (VI t110_1) ∧
  InB a6_1 t29_1 ∧
  ∃ t114_1 : Sl, hcell h_12 (Sl.at a6_1 t29_1 1) = some (Sl.v t114_1) ∧
  InB t114_1 j12_1 ∧
  ∃ t117_1 : Int, hcell h_12 (Sl.at t114_1 j12_1 1) = some (VI t117_1) ∧
  last5_1 ≠ 0 ∧
  InB t87_1 j12_1 ∧
  Writable h_12 (Sl.at t87_1 j12_1 1) ∧ Vars (hset h_12 (Sl.at t87_1 j12_1 1) (VI (w64 (Int.tdiv (w64 ((w64 (t95_1 * t102_1)) - (w64 (t110_1 * t117_1)))) last5_1)))) [] ∧
  ∀ h_13 : Heap, h_13 = hset h_12 (Sl.at t87_1 j12_1 1) (VI (w64 (Int.tdiv (w64 ((w64 (t95_1 * t102_1)) - (w64 (t110_1 * t117_1)))) last5_1))) → Vars h_13 [] →
  ∃ m : Nat, m < n_5 ∧ J_6 m (w64 (j12_1 + 1)) h_13) ∧
  ((decide (j12_1 < (m0_1.n : Int))) = false →
  ∃ m : Nat, m < n_4 ∧ J_5 m (w64 (i11_1 + 1)) h_12)) ∧
  ((decide (i11_1 < (m0_1.n : Int))) = false →
  InB a6_1 t29_1 ∧
  ∃ t126_1 : Sl, hcell h_11 (Sl.at a6_1 t29_1 1) = some (Sl.v t126_1) ∧
  InB t126_1 t29_1 ∧
  ∃ t129_1 : Int, hcell h_11 (Sl.at t126_1 t29_1 1) = some (VI t129_1) ∧
  ∃ m : Nat, m < n_2 ∧ J_2 m x_1 t129_1 (w64 (t29_1 + 1)) h_11)))) ∧
  ((decide (pivot10_1 < (m0_1.n : Int))) = false →
  ((decide (pivot10_1 = (m0_1.n : Int))) = true →
  K (VI 0) h_7) ∧
  ((decide (pivot10_1 = (m0_1.n : Int))) = false →
  ∃ J_7 : Int → Heap → Prop, (((!decide (pivot10_1 = t29_1)) = true →
  InB a6_1 t29_1 ∧
  ∃ t61_2 : Sl, hcell h_7 (Sl.at a6_1 t29_1 1) = some (Sl.v t61_2) ∧
  InB a6_1 pivot10_1 ∧
  ∃ t65_2 : Sl, hcell h_7 (Sl.at a6_1 pivot10_1 1) = some (Sl.v t65_2) ∧
  InB a6_1 pivot10_1 ∧
  Writable h_7 (Sl.at a6_1 pivot10_1 1) ∧ Vars (hset h_7 (Sl.at a6_1 pivot10_1 1) (Sl.v t61_2)) [] ∧
  ∀ h_14 : Heap, h_14 = hset h_7 (Sl.at a6_1 pivot10_1 1) (Sl.v t61_2) → Vars h_14 [] →
  InB a6_1 t29_1 ∧
  Writable h_14 (Sl.at a6_1 t29_1 1) ∧ Vars (hset h_14 (Sl.at a6_1 t29_1 1) (Sl.v t65_2)) [] ∧
  ∀ h_15 : Heap, h_15 = hset h_14 (Sl.at a6_1 t29_1 1) (Sl.v t65_2) → Vars h_15 [] →
  J_7 (w64 (0 - sign4_1)) h_15) ∧
  ((!decide (pivot10_1 = t29_1)) = false →
  J_7 sign4_1 h_7)) ∧
  ∀ (x_2 : Int) (h_16 : Heap), J_7 x_2 h_16 → Vars h_16 [] →
  ∃ J_8 : Nat → Int → Heap → Prop, (∃ n0 : Nat, J_8 n0 (w64 (t29_1 + 1)) h_16) ∧
  ∀ (n_8 : Nat) (i11_2 : Int) (h_17 : Heap), J_8 n_8 i11_2 h_17 → Vars h_17 [] →
  ((decide (i11_2 < (m0_1.n : Int))) = true →
  ∃ J_9 : Nat → Int → Heap → Prop, (∃ n0 : Nat, J_9 n0 (w64 (t29_1 + 1)) h_17) ∧
  ∀ (n_9 : Nat) (j12_2 : Int) (h_18 : Heap), J_9 n_9 j12_2 h_18 → Vars h_18 [] →
  ((decide (j12_2 < (m0_1.n : Int))) = true →
  InB a6_1 i11_2 ∧
  ∃ t87_2 : Sl, hcell h_18 (Sl.at a6_1 i11_2 1) = some (Sl.v t87_2) ∧
  InB a6_1 i11_2 ∧
  ∃ t92_2 : Sl, hcell h_18 (Sl.at a6_1 i11_2 1) = some (Sl.v t92_2) ∧
  InB t92_2 j12_2 ∧
  ∃ t95_2 : Int, hcell h_18 (Sl.at t92_2 j12_2 1) = some (VI t95_2) ∧
  InB a6_1 t29_1 ∧
  ∃ t99_2 : Sl, hcell h_18 (Sl.at a6_1 t29_1 1) = some (Sl.v t99_2) ∧
  InB t99_2 t29_1 ∧
  ∃ t102_2 : Int, hcell h_18 (Sl.at t99_2 t29_1 1) = some (VI t102_2) ∧
  InB a6_1 i11_2 ∧
  ∃ t107_2 : Sl, hcell h_18 (Sl.at a6_1 i11_2 1) = some (Sl.v t107_2) ∧
  InB t107_2 t29_1 ∧
  ∃ t110_2 : Int, hcell h_18 (Sl.at t107_2 t29_1 1) = some (VI t110_2) ∧
  InB a6_1 t29_1 ∧
  ∃ t114_2 : Sl, hcell h_18 (Sl.at a6_1 t29_1 1) = some (Sl.v t114_2) ∧
  InB t114_2 j12_2 ∧
  ∃ t117_2 : Int, hcell h_18 (Sl.at t114_2 j12_2 1) = some (VI t117_2) ∧
  last5_1 ≠ 0 ∧
  InB t87_2 j12_2 ∧
  Writable h_18 (Sl.at t87_2 j12_2 1) ∧ Vars (hset h_18 (Sl.at t87_2 j12_2 1) (VI (w64 (Int.tdiv (w64 ((w64 (t95_2 * t102_2)) - (w64 (t110_2 * t117_2)))) last5_1)))) [] ∧
  ∀ h_19 : Heap, h_19 = hset h_18 (Sl.at t87_2 j12_2 1) (VI (w64 (Int.tdiv (w64 ((w64 (t95_2 * t102_2)) - (w64 (t110_2 * t117_2)))) last5_1))) → Vars h_19 [] →
  ∃ m : Nat, m < n_9 ∧ J_9 m (w64 (j12_2 + 1)) h_19) ∧
  ((decide (j12_2 < (m0_1.n : Int))) = false →
  ∃ m : Nat, m < n_8 ∧ J_8 m (w64 (i11_2 + 1)) h_18)) ∧
  ((decide (i11_2 < (m0_1.n : Int))) = false →
  InB a6_1 t29_1 ∧
  ∃ t126_2 : Sl, hcell h_17 (Sl.at a6_1 t29_1 1) = some (Sl.v t126_2) ∧
  InB t126_2 t29_1 ∧
  ∃ t129_2 : Int, hcell h_17 (Sl.at t126_2 t29_1 1) = some (VI t129_2) ∧
  ∃ m : Nat, m < n_2 ∧ J_2 m x_2 t129_2 (w64 (t29_1 + 1)) h_17)))) ∧
  ((decide (t29_1 < (m0_1.n : Int))) = false →
  K (VI (w64 (sign4_1 * last5_1))) h_6))
theorem v88 (m0_1 : Sl) (h : Heap) (K : Value → Heap → Prop) (H : u88 Try.prog m0_1 h K) : callM Try.prog 88 #[(Sl.v m0_1)] h K := by
  refine c88 (Sl.v m0_1) h K ?_
  unfold u88 at H
  unfold t88
  have hL : Vars h [] := .nil
  refine pop_len m0_1 _ _ sli24 ?_
  refine H.mono fun rv_1 h_1 H => ?_
  obtain ⟨t15_1, rfl, hL_1, H⟩ := H
  refine pop_len m0_1 _ _ sli24 ?_
  obtain ⟨J_1, ⟨n_14, h0_7⟩, HB_9⟩ := H
  refine loop_intro (J := fun (n : Nat) (vs : List Value) (h' : Heap) => ∃ a6_1 : Sl, ∃ t18_1 : Int, vs = [(Sl.v a6_1), (VI t18_1)] ∧ J_1 n a6_1 t18_1 h' ∧ Vars h' []) n_14 ⟨t15_1, 0, rfl, h0_7, hL_1⟩ ?_
  intro I_7 mu_7 hI_7 junk_1 tv_11 tv_12 h_2 hi_1
  obtain ⟨n_1, ⟨a6_1, t18_1, hv, hJ_1, hL_2⟩, hn_1⟩ := hI_7 _ _ hi_1
  cases hv
  have H := HB_9 n_1 a6_1 t18_1 h_2 hJ_1 hL_2
  refine pop_lss .i64 t18_1 (m0_1.n : Int) ?_
  refine condM_b (fun hb_1 => ?_) (fun hb_1 => ?_)
  ·have H := H.1 hb_1
   obtain ⟨hi_2, H⟩ := H
   refine pop_index sli24 siz37 .i64 m0_1 t18_1 hi_2 ?_
   obtain ⟨t21_1, hc_1, H⟩ := H
   refine rop_one one37 (Sl.v t21_1) hc_1 ?_
   refine H.mono fun rv_2 h_3 H => ?_
   obtain ⟨t24_1, rfl, hL_3, H⟩ := H
   refine H.mono fun rv_3 h_4 H => ?_
   obtain ⟨t25_1, rfl, hL_4, H⟩ := H
   refine H.mono fun rv_4 h_5 H => ?_
   obtain ⟨t26_1, rfl, hL_5, H⟩ := H
   refine pop_add .i64 t18_1 1 ?_
   obtain ⟨m_1, hm_1, H⟩ := H
   exact hn_1 _ _ ⟨m_1, hm_1, t26_1, (w64 (t18_1 + 1)), rfl, H, hL_5⟩
  have H := H.2 hb_1
  obtain ⟨J_2, ⟨n_13, h0_6⟩, HB_8⟩ := H
  refine loop_intro (J := fun (n : Nat) (vs : List Value) (h' : Heap) => ∃ sign4_1 : Int, ∃ last5_1 : Int, ∃ t29_1 : Int, vs = [(VI sign4_1), (VI last5_1), (VI t29_1)] ∧ J_2 n sign4_1 last5_1 t29_1 h' ∧ Vars h' []) n_13 ⟨1, 1, 0, rfl, h0_6, hL_2⟩ ?_
  intro I_6 mu_6 hI_6 junk_2 tv_8 tv_9 tv_10 h_6 hi_3
  obtain ⟨n_2, ⟨sign4_1, last5_1, t29_1, hv, hJ_2, hL_6⟩, hn_2⟩ := hI_6 _ _ hi_3
  cases hv
  have H := HB_8 n_2 sign4_1 last5_1 t29_1 h_6 hJ_2 hL_6
  refine pop_lss .i64 t29_1 (m0_1.n : Int) ?_
  refine condM_b (fun hb_2 => ?_) (fun hb_2 => ?_)
  rotate_left
  ·have H := H.2 hb_2
   refine pop_mul .i64 sign4_1 last5_1 ?_
   exact H
  have H := H.1 hb_2
  obtain ⟨J_3, ⟨n_12, h0_5⟩, HB_7⟩ := H
  refine loop_intro (J := fun (n : Nat) (vs : List Value) (h' : Heap) => ∃ pivot10_1 : Int, vs = [(VI pivot10_1)] ∧ J_3 n pivot10_1 h' ∧ Vars h' []) n_12 ⟨t29_1, rfl, h0_5, hL_6⟩ ?_
  intro I_5 mu_5 hI_5 junk_3 tv_7 h_7 hi_4
  obtain ⟨n_3, ⟨pivot10_1, hv, hJ_3, hL_7⟩, hn_3⟩ := hI_5 _ _ hi_4
  cases hv
  have H := HB_7 n_3 pivot10_1 h_7 hJ_3 hL_7
  refine pop_lss .i64 pivot10_1 (m0_1.n : Int) ?_
  refine guardM_st (fun hb_3 => ?_) (fun hb_3 => ?_)
  rotate_left
  ·have H := H.2 hb_3
   refine guardM_n' hb_3 (by decide) ?_
   refine guardM_n' hb_3 (by decide) ?_
   refine guardM_n' hb_3 (by decide) ?_
   refine guardM_n' hb_3 (by decide) ?_
   refine guardM_n' hb_3 (by decide) ?_
   refine guardM_n' hb_3 (by decide) ?_
   refine guardM_n' hb_3 (by decide) ?_
   refine pop_pickf' hb_3 ?_
   refine condM_f ?_
   refine pop_ieq .i64 _ _ pivot10_1 (m0_1.n : Int) ?_
   refine condM_b (fun hb_9 => ?_) (fun hb_9 => ?_)
   ·have H := H.1 hb_9
    exact H
   have H := H.2 hb_9
   obtain ⟨J_7, H, HB_6⟩ := H
   refine ⟨fun (vs : List Value) (h' : Heap) => ∃ x_2 : Int, vs = [(VI x_2)] ∧ J_7 x_2 h' ∧ Vars h' [], ?_, ?_⟩
   ·refine pop_ine .i64 _ _ pivot10_1 t29_1 ?_
    refine condM_b (fun hb_10 => ?_) (fun hb_10 => ?_)
    rotate_left
    ·have H := H.2 hb_10
     exact ⟨sign4_1, rfl, H, hL_7⟩
    have H := H.1 hb_10
    obtain ⟨hi_25, H⟩ := H
    refine pop_index sli24 siz37 .i64 a6_1 t29_1 hi_25 ?_
    obtain ⟨t61_2, hc_18, H⟩ := H
    refine rop_one one37 (Sl.v t61_2) hc_18 ?_
    obtain ⟨hi_26, H⟩ := H
    refine pop_index sli24 siz37 .i64 a6_1 pivot10_1 hi_26 ?_
    obtain ⟨t65_2, hc_17, H⟩ := H
    refine rop_one one37 (Sl.v t65_2) hc_17 ?_
    obtain ⟨hi_27, H⟩ := H
    refine pop_index sli24 siz37 .i64 a6_1 pivot10_1 hi_27 ?_
    obtain ⟨hw_4, hL_14, H⟩ := H
    refine uop_cell (v := (Sl.v t61_2)) siz37 hw_4 rfl (fun h_14 he_4 => ?_)
    rw [← he_4] at hL_14
    have H := H h_14 he_4 hL_14
    obtain ⟨hi_28, H⟩ := H
    refine pop_index sli24 siz37 .i64 a6_1 t29_1 hi_28 ?_
    obtain ⟨hw_5, hL_15, H⟩ := H
    refine uop_cell (v := (Sl.v t65_2)) siz37 hw_5 rfl (fun h_15 he_5 => ?_)
    rw [← he_5] at hL_15
    have H := H h_15 he_5 hL_15
    refine pop_neg .i64 sign4_1 ?_
    exact ⟨(w64 (0 - sign4_1)), rfl, H, hL_15⟩
   intro junk_7 tv_4 h_16
   rintro ⟨x_2, hv, hJ_7, hL_16⟩
   cases hv
   have H := HB_6 x_2 h_16 hJ_7 hL_16
   refine pop_add .i64 t29_1 1 ?_
   obtain ⟨J_8, ⟨n_11, h0_4⟩, HB_5⟩ := H
   refine loop_intro (J := fun (n : Nat) (vs : List Value) (h' : Heap) => ∃ i11_2 : Int, vs = [(VI i11_2)] ∧ J_8 n i11_2 h' ∧ Vars h' []) n_11 ⟨(w64 (t29_1 + 1)), rfl, h0_4, hL_16⟩ ?_
   intro I_4 mu_4 hI_4 junk_8 tv_6 h_17 hi_29
   obtain ⟨n_8, ⟨i11_2, hv, hJ_8, hL_17⟩, hn_6⟩ := hI_4 _ _ hi_29
   cases hv
   have H := HB_5 n_8 i11_2 h_17 hJ_8 hL_17
   refine pop_lss .i64 i11_2 (m0_1.n : Int) ?_
   refine condM_b (fun hb_11 => ?_) (fun hb_11 => ?_)
   rotate_left
   ·have H := H.2 hb_11
    obtain ⟨hi_41, H⟩ := H
    refine pop_index sli24 siz37 .i64 a6_1 t29_1 hi_41 ?_
    obtain ⟨t126_2, hc_29, H⟩ := H
    refine rop_one one37 (Sl.v t126_2) hc_29 ?_
    obtain ⟨hi_42, H⟩ := H
    refine pop_index sli37 siz3 .i64 t126_2 t29_1 hi_42 ?_
    obtain ⟨t129_2, hc_28, H⟩ := H
    refine rop_one one3 (VI t129_2) hc_28 ?_
    refine pop_add .i64 t29_1 1 ?_
    obtain ⟨m_8, hm_8, H⟩ := H
    exact hn_2 _ _ ⟨m_8, hm_8, x_2, t129_2, (w64 (t29_1 + 1)), rfl, H, hL_17⟩
   have H := H.1 hb_11
   refine pop_add .i64 t29_1 1 ?_
   obtain ⟨J_9, ⟨n_10, h0_3⟩, HB_4⟩ := H
   refine loop_intro (J := fun (n : Nat) (vs : List Value) (h' : Heap) => ∃ j12_2 : Int, vs = [(VI j12_2)] ∧ J_9 n j12_2 h' ∧ Vars h' []) n_10 ⟨(w64 (t29_1 + 1)), rfl, h0_3, hL_17⟩ ?_
   intro I_3 mu_3 hI_3 junk_9 tv_5 h_18 hi_30
   obtain ⟨n_9, ⟨j12_2, hv, hJ_9, hL_18⟩, hn_7⟩ := hI_3 _ _ hi_30
   cases hv
   have H := HB_4 n_9 j12_2 h_18 hJ_9 hL_18
   refine pop_lss .i64 j12_2 (m0_1.n : Int) ?_
   refine condM_b (fun hb_12 => ?_) (fun hb_12 => ?_)
   rotate_left
   ·have H := H.2 hb_12
    refine pop_add .i64 i11_2 1 ?_
    obtain ⟨m_7, hm_7, H⟩ := H
    exact hn_6 _ _ ⟨m_7, hm_7, (w64 (i11_2 + 1)), rfl, H, hL_18⟩
   have H := H.1 hb_12
   obtain ⟨hi_31, H⟩ := H
   refine pop_index sli24 siz37 .i64 a6_1 i11_2 hi_31 ?_
   obtain ⟨t87_2, hc_27, H⟩ := H
   refine rop_one one37 (Sl.v t87_2) hc_27 ?_
   obtain ⟨hi_32, H⟩ := H
   refine pop_index sli24 siz37 .i64 a6_1 i11_2 hi_32 ?_
   obtain ⟨t92_2, hc_26, H⟩ := H
   refine rop_one one37 (Sl.v t92_2) hc_26 ?_
   obtain ⟨hi_33, H⟩ := H
   refine pop_index sli37 siz3 .i64 t92_2 j12_2 hi_33 ?_
   obtain ⟨t95_2, hc_25, H⟩ := H
   refine rop_one one3 (VI t95_2) hc_25 ?_
   obtain ⟨hi_34, H⟩ := H
   refine pop_index sli24 siz37 .i64 a6_1 t29_1 hi_34 ?_
   obtain ⟨t99_2, hc_24, H⟩ := H
   refine rop_one one37 (Sl.v t99_2) hc_24 ?_
   obtain ⟨hi_35, H⟩ := H
   refine pop_index sli37 siz3 .i64 t99_2 t29_1 hi_35 ?_
   obtain ⟨t102_2, hc_23, H⟩ := H
   refine rop_one one3 (VI t102_2) hc_23 ?_
   refine pop_mul .i64 t95_2 t102_2 ?_
   obtain ⟨hi_36, H⟩ := H
   refine pop_index sli24 siz37 .i64 a6_1 i11_2 hi_36 ?_
   obtain ⟨t107_2, hc_22, H⟩ := H
   refine rop_one one37 (Sl.v t107_2) hc_22 ?_
   obtain ⟨hi_37, H⟩ := H
   refine pop_index sli37 siz3 .i64 t107_2 t29_1 hi_37 ?_
   obtain ⟨t110_2, hc_21, H⟩ := H
   refine rop_one one3 (VI t110_2) hc_21 ?_
   obtain ⟨hi_38, H⟩ := H
   refine pop_index sli24 siz37 .i64 a6_1 t29_1 hi_38 ?_
   obtain ⟨t114_2, hc_20, H⟩ := H
   refine rop_one one37 (Sl.v t114_2) hc_20 ?_
   obtain ⟨hi_39, H⟩ := H
   refine pop_index sli37 siz3 .i64 t114_2 j12_2 hi_39 ?_
   obtain ⟨t117_2, hc_19, H⟩ := H
   refine rop_one one3 (VI t117_2) hc_19 ?_
   refine pop_mul .i64 t110_2 t117_2 ?_
   refine pop_sub .i64 (w64 (t95_2 * t102_2)) (w64 (t110_2 * t117_2)) ?_
   obtain ⟨hz_2, H⟩ := H
   refine pop_quo .i64 (w64 ((w64 (t95_2 * t102_2)) - (w64 (t110_2 * t117_2)))) last5_1 hz_2 ?_
   obtain ⟨hi_40, H⟩ := H
   refine pop_index sli37 siz3 .i64 t87_2 j12_2 hi_40 ?_
   obtain ⟨hw_6, hL_19, H⟩ := H
   refine uop_cell (v := (VI (w64 (Int.tdiv (w64 ((w64 (t95_2 * t102_2)) - (w64 (t110_2 * t117_2)))) last5_1)))) siz3 hw_6 rfl (fun h_19 he_6 => ?_)
   rw [← he_6] at hL_19
   have H := H h_19 he_6 hL_19
   refine pop_add .i64 j12_2 1 ?_
   obtain ⟨m_6, hm_6, H⟩ := H
   exact hn_7 _ _ ⟨m_6, hm_6, (w64 (j12_2 + 1)), rfl, H, hL_19⟩
  have H := H.1 hb_3
  refine guardM_y' hb_3 ?_
  refine guardM_y' hb_3 ?_
  obtain ⟨hi_5, H⟩ := H
  refine pop_index sli24 siz37 .i64 a6_1 pivot10_1 hi_5 ?_
  refine guardM_y' hb_3 ?_
  obtain ⟨t40_1, hc_16, H⟩ := H
  refine rop_one one37 (Sl.v t40_1) hc_16 ?_
  refine guardM_y' hb_3 ?_
  refine guardM_y' hb_3 ?_
  obtain ⟨hi_6, H⟩ := H
  refine pop_index sli37 siz3 .i64 t40_1 t29_1 hi_6 ?_
  refine guardM_y' hb_3 ?_
  obtain ⟨t43_1, hc_15, H⟩ := H
  refine rop_one one3 (VI t43_1) hc_15 ?_
  refine guardM_y' hb_3 ?_
  refine pop_ieq .i64 _ _ t43_1 0 ?_
  refine pop_pickt' hb_3 ?_
  refine condM_b (fun hb_4 => ?_) (fun hb_4 => ?_)
  ·have H := H.1 hb_4
   refine pop_add .i64 pivot10_1 1 ?_
   obtain ⟨m_2, hm_2, H⟩ := H
   exact hn_3 _ _ ⟨m_2, hm_2, (w64 (pivot10_1 + 1)), rfl, H, hL_7⟩
  have H := H.2 hb_4
  refine pop_ieq .i64 _ _ pivot10_1 (m0_1.n : Int) ?_
  refine condM_b (fun hb_5 => ?_) (fun hb_5 => ?_)
  ·have H := H.1 hb_5
   exact H
  have H := H.2 hb_5
  obtain ⟨J_4, H, HB_3⟩ := H
  refine ⟨fun (vs : List Value) (h' : Heap) => ∃ x_1 : Int, vs = [(VI x_1)] ∧ J_4 x_1 h' ∧ Vars h' [], ?_, ?_⟩
  ·refine pop_ine .i64 _ _ pivot10_1 t29_1 ?_
   refine condM_b (fun hb_6 => ?_) (fun hb_6 => ?_)
   rotate_left
   ·have H := H.2 hb_6
    exact ⟨sign4_1, rfl, H, hL_7⟩
   have H := H.1 hb_6
   obtain ⟨hi_7, H⟩ := H
   refine pop_index sli24 siz37 .i64 a6_1 t29_1 hi_7 ?_
   obtain ⟨t61_1, hc_3, H⟩ := H
   refine rop_one one37 (Sl.v t61_1) hc_3 ?_
   obtain ⟨hi_8, H⟩ := H
   refine pop_index sli24 siz37 .i64 a6_1 pivot10_1 hi_8 ?_
   obtain ⟨t65_1, hc_2, H⟩ := H
   refine rop_one one37 (Sl.v t65_1) hc_2 ?_
   obtain ⟨hi_9, H⟩ := H
   refine pop_index sli24 siz37 .i64 a6_1 pivot10_1 hi_9 ?_
   obtain ⟨hw_1, hL_8, H⟩ := H
   refine uop_cell (v := (Sl.v t61_1)) siz37 hw_1 rfl (fun h_8 he_1 => ?_)
   rw [← he_1] at hL_8
   have H := H h_8 he_1 hL_8
   obtain ⟨hi_10, H⟩ := H
   refine pop_index sli24 siz37 .i64 a6_1 t29_1 hi_10 ?_
   obtain ⟨hw_2, hL_9, H⟩ := H
   refine uop_cell (v := (Sl.v t65_1)) siz37 hw_2 rfl (fun h_9 he_2 => ?_)
   rw [← he_2] at hL_9
   have H := H h_9 he_2 hL_9
   refine pop_neg .i64 sign4_1 ?_
   exact ⟨(w64 (0 - sign4_1)), rfl, H, hL_9⟩
  intro junk_4 tv_1 h_10
  rintro ⟨x_1, hv, hJ_4, hL_10⟩
  cases hv
  have H := HB_3 x_1 h_10 hJ_4 hL_10
  refine pop_add .i64 t29_1 1 ?_
  obtain ⟨J_5, ⟨n_7, h0_2⟩, HB_2⟩ := H
  refine loop_intro (J := fun (n : Nat) (vs : List Value) (h' : Heap) => ∃ i11_1 : Int, vs = [(VI i11_1)] ∧ J_5 n i11_1 h' ∧ Vars h' []) n_7 ⟨(w64 (t29_1 + 1)), rfl, h0_2, hL_10⟩ ?_
  intro I_2 mu_2 hI_2 junk_5 tv_3 h_11 hi_11
  obtain ⟨n_4, ⟨i11_1, hv, hJ_5, hL_11⟩, hn_4⟩ := hI_2 _ _ hi_11
  cases hv
  have H := HB_2 n_4 i11_1 h_11 hJ_5 hL_11
  refine pop_lss .i64 i11_1 (m0_1.n : Int) ?_
  refine condM_b (fun hb_7 => ?_) (fun hb_7 => ?_)
  rotate_left
  ·have H := H.2 hb_7
   obtain ⟨hi_23, H⟩ := H
   refine pop_index sli24 siz37 .i64 a6_1 t29_1 hi_23 ?_
   obtain ⟨t126_1, hc_14, H⟩ := H
   refine rop_one one37 (Sl.v t126_1) hc_14 ?_
   obtain ⟨hi_24, H⟩ := H
   refine pop_index sli37 siz3 .i64 t126_1 t29_1 hi_24 ?_
   obtain ⟨t129_1, hc_13, H⟩ := H
   refine rop_one one3 (VI t129_1) hc_13 ?_
   refine pop_add .i64 t29_1 1 ?_
   obtain ⟨m_5, hm_5, H⟩ := H
   exact hn_2 _ _ ⟨m_5, hm_5, x_1, t129_1, (w64 (t29_1 + 1)), rfl, H, hL_11⟩
  have H := H.1 hb_7
  refine pop_add .i64 t29_1 1 ?_
  obtain ⟨J_6, ⟨n_6, h0_1⟩, HB_1⟩ := H
  refine loop_intro (J := fun (n : Nat) (vs : List Value) (h' : Heap) => ∃ j12_1 : Int, vs = [(VI j12_1)] ∧ J_6 n j12_1 h' ∧ Vars h' []) n_6 ⟨(w64 (t29_1 + 1)), rfl, h0_1, hL_11⟩ ?_
  intro I_1 mu_1 hI_1 junk_6 tv_2 h_12 hi_12
  obtain ⟨n_5, ⟨j12_1, hv, hJ_6, hL_12⟩, hn_5⟩ := hI_1 _ _ hi_12
  cases hv
  have H := HB_1 n_5 j12_1 h_12 hJ_6 hL_12
  refine pop_lss .i64 j12_1 (m0_1.n : Int) ?_
  refine condM_b (fun hb_8 => ?_) (fun hb_8 => ?_)
  rotate_left
  ·have H := H.2 hb_8
   refine pop_add .i64 i11_1 1 ?_
   obtain ⟨m_4, hm_4, H⟩ := H
   exact hn_4 _ _ ⟨m_4, hm_4, (w64 (i11_1 + 1)), rfl, H, hL_12⟩
  have H := H.1 hb_8
  obtain ⟨hi_13, H⟩ := H
  refine pop_index sli24 siz37 .i64 a6_1 i11_1 hi_13 ?_
  obtain ⟨t87_1, hc_12, H⟩ := H
  refine rop_one one37 (Sl.v t87_1) hc_12 ?_
  obtain ⟨hi_14, H⟩ := H
  refine pop_index sli24 siz37 .i64 a6_1 i11_1 hi_14 ?_
  obtain ⟨t92_1, hc_11, H⟩ := H
  refine rop_one one37 (Sl.v t92_1) hc_11 ?_
  obtain ⟨hi_15, H⟩ := H
  refine pop_index sli37 siz3 .i64 t92_1 j12_1 hi_15 ?_
  obtain ⟨t95_1, hc_10, H⟩ := H
  refine rop_one one3 (VI t95_1) hc_10 ?_
  obtain ⟨hi_16, H⟩ := H
  refine pop_index sli24 siz37 .i64 a6_1 t29_1 hi_16 ?_
  obtain ⟨t99_1, hc_9, H⟩ := H
  refine rop_one one37 (Sl.v t99_1) hc_9 ?_
  obtain ⟨hi_17, H⟩ := H
  refine pop_index sli37 siz3 .i64 t99_1 t29_1 hi_17 ?_
  obtain ⟨t102_1, hc_8, H⟩ := H
  refine rop_one one3 (VI t102_1) hc_8 ?_
  refine pop_mul .i64 t95_1 t102_1 ?_
  obtain ⟨hi_18, H⟩ := H
  refine pop_index sli24 siz37 .i64 a6_1 i11_1 hi_18 ?_
  obtain ⟨t107_1, hc_7, H⟩ := H
  refine rop_one one37 (Sl.v t107_1) hc_7 ?_
  obtain ⟨hi_19, H⟩ := H
  refine pop_index sli37 siz3 .i64 t107_1 t29_1 hi_19 ?_
  obtain ⟨t110_1, hc_6, H⟩ := H
  refine rop_one one3 (VI t110_1) hc_6 ?_
  obtain ⟨hi_20, H⟩ := H
  refine pop_index sli24 siz37 .i64 a6_1 t29_1 hi_20 ?_
  obtain ⟨t114_1, hc_5, H⟩ := H
  refine rop_one one37 (Sl.v t114_1) hc_5 ?_
  obtain ⟨hi_21, H⟩ := H
  refine pop_index sli37 siz3 .i64 t114_1 j12_1 hi_21 ?_
  obtain ⟨t117_1, hc_4, H⟩ := H
  refine rop_one one3 (VI t117_1) hc_4 ?_
  refine pop_mul .i64 t110_1 t117_1 ?_
  refine pop_sub .i64 (w64 (t95_1 * t102_1)) (w64 (t110_1 * t117_1)) ?_
  obtain ⟨hz_1, H⟩ := H
  refine pop_quo .i64 (w64 ((w64 (t95_1 * t102_1)) - (w64 (t110_1 * t117_1)))) last5_1 hz_1 ?_
  obtain ⟨hi_22, H⟩ := H
  refine pop_index sli37 siz3 .i64 t87_1 j12_1 hi_22 ?_
  obtain ⟨hw_3, hL_13, H⟩ := H
  refine uop_cell (v := (VI (w64 (Int.tdiv (w64 ((w64 (t95_1 * t102_1)) - (w64 (t110_1 * t117_1)))) last5_1)))) siz3 hw_3 rfl (fun h_13 he_3 => ?_)
  rw [← he_3] at hL_13
  have H := H h_13 he_3 hL_13
  refine pop_add .i64 j12_1 1 ?_
  obtain ⟨m_3, hm_3, H⟩ := H
  exact hn_5 _ _ ⟨m_3, hm_3, (w64 (j12_1 + 1)), rfl, H, hL_13⟩

/-! impl.laplace -/
def u89 (P : Program) (g0_1 : Sl) (sink1_1 : Int) (h : Heap) (K : Value → Heap → Prop) : Prop :=
  ∀ (b_1 : Nat) (h_1 : Heap), h.size ≤ b_1 → Fr (In []) h h_1 → Vars h_1 [(b_1, [(Sl.v g0_1)])] →
  eop P (Instr.buildSlice 24 0 #[]) h_1 fun rv_1 h_2 => ∃ t11_1 : Sl, rv_1 = (Sl.v t11_1) ∧ Vars h_2 [(b_1, [(Sl.v g0_1)])] ∧
  ∃ J_1 : Nat → Sl → Int → Heap → Prop, (∃ n0 : Nat, J_1 n0 t11_1 0 h_2) ∧
  ∀ (n_1 : Nat) (out5_1 : Sl) (t15_1 : Int) (h_3 : Heap), J_1 n_1 out5_1 t15_1 h_3 → Vars h_3 [(b_1, [(Sl.v g0_1)])] →
  ((decide (t15_1 < (g0_1.n : Int))) = true →
  InB g0_1 t15_1 ∧
  ∃ t19_1 : Sl, hcell h_3 (Sl.at g0_1 t15_1 1) = some (Sl.v t19_1) ∧
  ((decide (t15_1 = sink1_1)) = true →
  ∃ m : Nat, m < n_1 ∧ J_1 m out5_1 (w64 (t15_1 + 1)) h_3) ∧
  ((decide (t15_1 = sink1_1)) = false →
  eop P (Instr.makeSlice 37 (VI (g0_1.n : Int)) (VI (g0_1.n : Int))) h_3 fun rv_2 h_4 => ∃ t26_1 : Sl, rv_2 = (Sl.v t26_1) ∧ Vars h_4 [(b_1, [(Sl.v g0_1)])] ∧
  InB t26_1 t15_1 ∧
  Writable h_4 (Sl.at t26_1 t15_1 1) ∧ Vars (hset h_4 (Sl.at t26_1 t15_1 1) (VI (t19_1.n : Int))) [(b_1, [(Sl.v g0_1)])] ∧
  ∀ h_5 : Heap, h_5 = hset h_4 (Sl.at t26_1 t15_1 1) (VI (t19_1.n : Int)) → Vars h_5 [(b_1, [(Sl.v g0_1)])] →
  ∃ J_2 : Nat → Int → Heap → Prop, (∃ n0 : Nat, J_2 n0 0 h_5) ∧
  ∀ (n_2 : Nat) (t34_1 : Int) (h_6 : Heap), J_2 n_2 t34_1 h_6 → Vars h_6 [(b_1, [(Sl.v g0_1)])] →
  ((decide (t34_1 < (t19_1.n : Int))) = true →
  InB t19_1 t34_1 ∧
  ∃ t37_1 : Int, hcell h_6 (Sl.at t19_1 t34_1 1) = some (VI t37_1) ∧
  InB t26_1 t37_1 ∧
  ∃ t41_1 : Int, hcell h_6 (Sl.at t26_1 t37_1 1) = some (VI t41_1) ∧
  InB t26_1 t37_1 ∧
  Writable h_6 (Sl.at t26_1 t37_1 1) ∧ Vars (hset h_6 (Sl.at t26_1 t37_1 1) (VI (w64 (t41_1 - 1)))) [(b_1, [(Sl.v g0_1)])] ∧
  ∀ h_7 : Heap, h_7 = hset h_6 (Sl.at t26_1 t37_1 1) (VI (w64 (t41_1 - 1))) → Vars h_7 [(b_1, [(Sl.v g0_1)])] →
  ∃ m : Nat, m < n_2 ∧ J_2 m (w64 (t34_1 + 1)) h_7) ∧
  ((decide (t34_1 < (t19_1.n : Int))) = false →
  callM P 128 #[(Sl.v t26_1), (VI sink1_1), (VI (w64 (sink1_1 + 1)))] h_6 fun rv_3 h_8 => ∃ t50_1 : Sl, rv_3 = (Sl.v t50_1) ∧ Vars h_8 [(b_1, [(Sl.v g0_1)])] ∧
  eop P (Instr.buildSlice 24 1 #[(0, (Sl.v t50_1))]) h_8 fun rv_4 h_9 => ∃ t51_1 : Sl, rv_4 = (Sl.v t51_1) ∧ Vars h_9 [(b_1, [(Sl.v g0_1)])] ∧
  eop P (appS 24 24 24 (Sl.v out5_1) (Sl.v t51_1)) h_9 fun rv_5 h_10 => ∃ t52_1 : Sl, rv_5 = (Sl.v t52_1) ∧ Vars h_10 [(b_1, [(Sl.v g0_1)])] ∧
  ∃ m : Nat, m < n_1 ∧ J_1 m t52_1 (w64 (t15_1 + 1)) h_10))) ∧
  ((decide (t15_1 < (g0_1.n : Int))) = false →
  K (Sl.v out5_1) h_3)
theorem v89 (g0_1 : Sl) (sink1_1 : Int) (h : Heap) (K : Value → Heap → Prop) (H : u89 Try.prog g0_1 sink1_1 h K) : callM Try.prog 89 #[(Value.agg #[(Sl.v g0_1)]), (VI sink1_1)] h K := by
  refine c89 (Value.agg #[(Sl.v g0_1)]) (VI sink1_1) h K ?_
  unfold u89 at H
  unfold t89
  have hL : Vars h [] := .nil
  refine eop_box 26 (Value.agg #[(Sl.v g0_1)]) rfl hL (fun b_1 h_1 hb_1 hf_1 hL_1 => ?_)
  have H := H b_1 h_1 (Nat.le_trans (Fr.size (Fr.r (In []) _)) hb_1) (Fr.no' (Fr.r (In []) _) hf_1) hL_1
  refine H.mono fun rv_1 h_2 H => ?_
  obtain ⟨t11_1, rfl, hL_2, H⟩ := H
  refine pop_field 0 fld26_0 b_1 0 ?_
  refine rop_loc one24 hL_2 0 rfl 0 (v := (Sl.v g0_1)) rfl ?_
  refine pop_len g0_1 _ _ sli24 ?_
  obtain ⟨J_1, ⟨n_4, h0_2⟩, HB_2⟩ := H
  refine loop_intro (J := fun (n : Nat) (vs : List Value) (h' : Heap) => ∃ out5_1 : Sl, ∃ t15_1 : Int, vs = [(Sl.v out5_1), (VI t15_1)] ∧ J_1 n out5_1 t15_1 h' ∧ Vars h' [(b_1, [(Sl.v g0_1)])]) n_4 ⟨t11_1, 0, rfl, h0_2, hL_2⟩ ?_
  intro I_2 mu_2 hI_2 junk_1 tv_2 tv_3 h_3 hi_1
  obtain ⟨n_1, ⟨out5_1, t15_1, hv, hJ_1, hL_3⟩, hn_1⟩ := hI_2 _ _ hi_1
  cases hv
  have H := HB_2 n_1 out5_1 t15_1 h_3 hJ_1 hL_3
  refine pop_lss .i64 t15_1 (g0_1.n : Int) ?_
  refine condM_b (fun hb_2 => ?_) (fun hb_2 => ?_)
  rotate_left
  ·have H := H.2 hb_2
   exact H
  have H := H.1 hb_2
  obtain ⟨hi_2, H⟩ := H
  refine pop_index sli24 siz37 .i64 g0_1 t15_1 hi_2 ?_
  obtain ⟨t19_1, hc_3, H⟩ := H
  refine rop_one one37 (Sl.v t19_1) hc_3 ?_
  refine pop_ieq .i64 _ _ t15_1 sink1_1 ?_
  refine condM_b (fun hb_3 => ?_) (fun hb_3 => ?_)
  ·have H := H.1 hb_3
   refine pop_add .i64 t15_1 1 ?_
   obtain ⟨m_1, hm_1, H⟩ := H
   exact hn_1 _ _ ⟨m_1, hm_1, out5_1, (w64 (t15_1 + 1)), rfl, H, hL_3⟩
  have H := H.2 hb_3
  refine pop_field 0 fld26_0 b_1 0 ?_
  refine rop_loc one24 hL_3 0 rfl 0 (v := (Sl.v g0_1)) rfl ?_
  refine pop_len g0_1 _ _ sli24 ?_
  refine H.mono fun rv_2 h_4 H => ?_
  obtain ⟨t26_1, rfl, hL_4, H⟩ := H
  refine pop_len t19_1 _ _ sli37 ?_
  obtain ⟨hi_3, H⟩ := H
  refine pop_index sli37 siz3 .i64 t26_1 t15_1 hi_3 ?_
  obtain ⟨hw_1, hL_5, H⟩ := H
  refine uop_cell (v := (VI (t19_1.n : Int))) siz3 hw_1 rfl (fun h_5 he_1 => ?_)
  rw [← he_1] at hL_5
  have H := H h_5 he_1 hL_5
  refine pop_len t19_1 _ _ sli37 ?_
  obtain ⟨J_2, ⟨n_3, h0_1⟩, HB_1⟩ := H
  refine loop_intro (J := fun (n : Nat) (vs : List Value) (h' : Heap) => ∃ t34_1 : Int, vs = [(VI t34_1)] ∧ J_2 n t34_1 h' ∧ Vars h' [(b_1, [(Sl.v g0_1)])]) n_3 ⟨0, rfl, h0_1, hL_5⟩ ?_
  intro I_1 mu_1 hI_1 junk_2 tv_1 h_6 hi_4
  obtain ⟨n_2, ⟨t34_1, hv, hJ_2, hL_6⟩, hn_2⟩ := hI_1 _ _ hi_4
  cases hv
  have H := HB_1 n_2 t34_1 h_6 hJ_2 hL_6
  refine pop_lss .i64 t34_1 (t19_1.n : Int) ?_
  refine condM_b (fun hb_4 => ?_) (fun hb_4 => ?_)
  rotate_left
  ·have H := H.2 hb_4
   refine pop_add .i64 sink1_1 1 ?_
   refine H.mono fun rv_3 h_8 H => ?_
   obtain ⟨t50_1, rfl, hL_8, H⟩ := H
   refine H.mono fun rv_4 h_9 H => ?_
   obtain ⟨t51_1, rfl, hL_9, H⟩ := H
   refine H.mono fun rv_5 h_10 H => ?_
   obtain ⟨t52_1, rfl, hL_10, H⟩ := H
   refine pop_add .i64 t15_1 1 ?_
   obtain ⟨m_3, hm_3, H⟩ := H
   exact hn_1 _ _ ⟨m_3, hm_3, t52_1, (w64 (t15_1 + 1)), rfl, H, hL_10⟩
  have H := H.1 hb_4
  obtain ⟨hi_5, H⟩ := H
  refine pop_index sli37 siz3 .i64 t19_1 t34_1 hi_5 ?_
  obtain ⟨t37_1, hc_2, H⟩ := H
  refine rop_one one3 (VI t37_1) hc_2 ?_
  obtain ⟨hi_6, H⟩ := H
  refine pop_index sli37 siz3 .i64 t26_1 t37_1 hi_6 ?_
  obtain ⟨t41_1, hc_1, H⟩ := H
  refine rop_one one3 (VI t41_1) hc_1 ?_
  refine pop_sub .i64 t41_1 1 ?_
  obtain ⟨hi_7, H⟩ := H
  refine pop_index sli37 siz3 .i64 t26_1 t37_1 hi_7 ?_
  obtain ⟨hw_2, hL_7, H⟩ := H
  refine uop_cell (v := (VI (w64 (t41_1 - 1)))) siz3 hw_2 rfl (fun h_7 he_2 => ?_)
  rw [← he_2] at hL_7
  have H := H h_7 he_2 hL_7
  refine pop_add .i64 t34_1 1 ?_
  obtain ⟨m_2, hm_2, H⟩ := H
  exact hn_2 _ _ ⟨m_2, hm_2, (w64 (t34_1 + 1)), rfl, H, hL_7⟩

/-! impl.allTrees -/
def u90 (P : Program) (g0_1 : Sl) (sink1_1 : Int) (most2_1 : Int) (h : Heap) (K : Value → Heap → Prop) : Prop :=
  ∀ (b_1 : Nat) (b_2 : Nat) (b_3 : Nat) (h_3 : Heap), h.size ≤ b_1 → h.size ≤ b_2 → h.size ≤ b_3 → Fr (In []) h h_3 → Vars h_3 [(b_3, [(VI most2_1)]), (b_2, [(VI sink1_1)]), (b_1, [(Sl.v g0_1)])] →
  eop P (Instr.buildSlice 24 0 #[]) h_3 fun rv_1 h_4 => ∃ t8_1 : Sl, rv_1 = (Sl.v t8_1) ∧ Vars h_4 [(b_3, [(VI most2_1)]), (b_2, [(VI sink1_1)]), (b_1, [(Sl.v g0_1)])] ∧
  ∀ (b_4 : Nat) (h_6 : Heap), h_4.size ≤ b_4 → Fr (In []) h_4 h_6 → Vars h_6 [(b_4, [(Sl.v t8_1)]), (b_3, [(VI most2_1)]), (b_2, [(VI sink1_1)]), (b_1, [(Sl.v g0_1)])] →
  callM P 129 #[(Value.agg #[(Sl.v g0_1)]), (VI sink1_1), (Value.func (Fn.func 130) #[] #[(VP b_1 0), (VP b_2 0), (VP b_4 0), (VP b_3 0)])] h_6 fun rv_2 h_7 => ∃ x_1 : Sl, ∃ x_2 : Int, ∃ x_3 : Int, ∃ x_4 : Sl, Vars h_7 [(b_4, [(Sl.v x_1)]), (b_3, [(VI x_2)]), (b_2, [(VI x_3)]), (b_1, [(Sl.v x_4)])] ∧
  K (Sl.v x_1) h_7
theorem v90 (g0_1 : Sl) (sink1_1 : Int) (most2_1 : Int) (h : Heap) (K : Value → Heap → Prop) (H : u90 Try.prog g0_1 sink1_1 most2_1 h K) : callM Try.prog 90 #[(Value.agg #[(Sl.v g0_1)]), (VI sink1_1), (VI most2_1)] h K := by
  refine c90 (Value.agg #[(Sl.v g0_1)]) (VI sink1_1) (VI most2_1) h K ?_
  unfold u90 at H
  unfold t90
  have hL : Vars h [] := .nil
  refine eop_box 26 (Value.agg #[(Sl.v g0_1)]) rfl hL (fun b_1 h_1 hb_1 hf_1 hL_1 => ?_)
  refine eop_box 3 (VI sink1_1) rfl hL_1 (fun b_2 h_2 hb_2 hf_2 hL_2 => ?_)
  refine eop_box 3 (VI most2_1) rfl hL_2 (fun b_3 h_3 hb_3 hf_3 hL_3 => ?_)
  have H := H b_1 b_2 b_3 h_3 (Nat.le_trans (Fr.size (Fr.r (In []) _)) hb_1) (Nat.le_trans (Fr.size (Fr.no' (Fr.r (In []) _) hf_1)) hb_2) (Nat.le_trans (Fr.size (Fr.no' (Fr.no' (Fr.r (In []) _) hf_1) hf_2)) hb_3) (Fr.no' (Fr.no' (Fr.no' (Fr.r (In []) _) hf_1) hf_2) hf_3) hL_3
  refine H.mono fun rv_1 h_4 H => ?_
  obtain ⟨t8_1, rfl, hL_4, H⟩ := H
  refine eop_alloc 24 zer24 rfl hL_4 (fun b_4 h_5 hb_4 hf_4 hL_5 => ?_)
  refine uop_loc siz24 hL_5 0 rfl 0 [(Sl.v t8_1)] rfl rfl rfl (Nat.le_of_ble_eq_true rfl) (L' := [(b_4, [(Sl.v t8_1)]), (b_3, [(VI most2_1)]), (b_2, [(VI sink1_1)]), (b_1, [(Sl.v g0_1)])]) rfl (fun h_6 hf_5 hL_6 => ?_)
  refine rop_locA agg26 hL_6 3 rfl 0 (vs := [(Sl.v g0_1)]) rfl rfl ?_
  refine rop_loc one3 hL_6 2 rfl 0 (v := (VI sink1_1)) rfl ?_
  refine pop_func _ _ _ ?_
  have H := H b_4 h_6 (Nat.le_trans (Fr.size (Fr.r (In []) _)) hb_4) (Fr.new (Fr.no' (Fr.r (In []) _) hf_4) (Nat.le_trans (Fr.size (Fr.r (In []) _)) hb_4) hf_5) hL_6
  refine H.mono fun rv_2 h_7 H => ?_
  obtain ⟨x_1, x_2, x_3, x_4, hL_7, H⟩ := H
  refine rop_loc one24 hL_7 0 rfl 0 (v := (Sl.v x_1)) rfl ?_
  exact H

/-! spec.trDet -/
def u91 (P : Program) (m0_1 : Sl) (h : Heap) (K : Value → Heap → Prop) : Prop :=
  ((decide ((m0_1.n : Int) = 0)) = true →
  K (VI 1) h) ∧
  ((decide ((m0_1.n : Int) = 0)) = false →
  InB m0_1 0 ∧
  ∃ t15_1 : Sl, hcell h (Sl.at m0_1 0 1) = some (Sl.v t15_1) ∧
  ∃ J_1 : Nat → Int → Int → Int → Heap → Prop, (∃ n0 : Nat, J_1 n0 0 1 0 h) ∧
  ∀ (n_1 : Nat) (sum3_1 : Int) (sign4_1 : Int) (t17_1 : Int) (h_1 : Heap), J_1 n_1 sum3_1 sign4_1 t17_1 h_1 → Vars h_1 [] →
  ((decide (t17_1 < (t15_1.n : Int))) = true →
  InB t15_1 t17_1 ∧
  ∃ t21_1 : Int, hcell h_1 (Sl.at t15_1 t17_1 1) = some (VI t21_1) ∧
  ∃ J_2 : Int → Heap → Prop, (((!decide (t21_1 = 0)) = true →
  pop P (Instr.sliceAt 24 (Sl.v m0_1) (some (Value.int IntKind.i64 1)) none none) fun rv_1 => ∃ t25_1 : Sl, rv_1 = (Sl.v t25_1) ∧ 
  ∃ J_3 : Nat → Sl → Int → Heap → Prop, (∃ n0 : Nat, J_3 n0 nilSl 0 h_1) ∧
  ∀ (n_2 : Nat) (rest7_1 : Sl) (t27_1 : Int) (h_2 : Heap), J_3 n_2 rest7_1 t27_1 h_2 → Vars h_2 [] →
  ((decide (t27_1 < (t25_1.n : Int))) = true →
  InB t25_1 t27_1 ∧
  ∃ t30_1 : Sl, hcell h_2 (Sl.at t25_1 t27_1 1) = some (Sl.v t30_1) ∧
  pop P (Instr.sliceAt 37 (Sl.v t30_1) none (some (VI t17_1)) none) fun rv_2 => ∃ t34_1 : Sl, rv_2 = (Sl.v t34_1) ∧ 
  pop P (Instr.sliceAt 37 (Sl.v t30_1) (some (VI (w64 (t17_1 + 1)))) none none) fun rv_3 => ∃ t39_1 : Sl, rv_3 = (Sl.v t39_1) ∧ 
  callM P 121 #[(Sl.v t34_1)] h_2 fun rv_4 h_3 => ∃ t35_1 : Sl, rv_4 = (Sl.v t35_1) ∧ Vars h_3 [] ∧
  eop P (appS 37 37 37 (Sl.v t35_1) (Sl.v t39_1)) h_3 fun rv_5 h_4 => ∃ t40_1 : Sl, rv_5 = (Sl.v t40_1) ∧ Vars h_4 [] ∧
  eop P (Instr.buildSlice 24 1 #[(0, (Sl.v t40_1))]) h_4 fun rv_6 h_5 => ∃ t41_1 : Sl, rv_6 = (Sl.v t41_1) ∧ Vars h_5 [] ∧
  eop P (appS 24 24 24 (Sl.v rest7_1) (Sl.v t41_1)) h_5 fun rv_7 h_6 => ∃ t42_1 : Sl, rv_7 = (Sl.v t42_1) ∧ Vars h_6 [] ∧
  ∃ m : Nat, m < n_2 ∧ J_3 m t42_1 (w64 (t27_1 + 1)) h_6) ∧
  ((decide (t27_1 < (t25_1.n : Int))) = false →
  callM P 91 #[(Sl.v rest7_1)] h_2 fun rv_8 h_7 => ∃ t49_1 : Int, rv_8 = (VI t49_1) ∧ Vars h_7 [] ∧
  J_2 (w64 (sum3_1 + (w64 ((w64 (sign4_1 * t21_1)) * t49_1)))) h_7)) ∧
  ((!decide (t21_1 = 0)) = false →
  J_2 sum3_1 h_1)) ∧
  ∀ (x_1 : Int) (h_8 : Heap), J_2 x_1 h_8 → Vars h_8 [] →
  ∃ m : Nat, m < n_1 ∧ J_1 m x_1 (w64 (0 - sign4_1)) (w64 (t17_1 + 1)) h_8) ∧
  ((decide (t17_1 < (t15_1.n : Int))) = false →
  K (VI sum3_1) h_1))
theorem v91 (m0_1 : Sl) (h : Heap) (K : Value → Heap → Prop) (H : u91 Try.prog m0_1 h K) : callM Try.prog 91 #[(Sl.v m0_1)] h K := by
  refine c91 (Sl.v m0_1) h K ?_
  unfold u91 at H
  unfold t91
  have hL : Vars h [] := .nil
  refine pop_len m0_1 _ _ sli24 ?_
  refine pop_ieq .i64 _ _ (m0_1.n : Int) 0 ?_
  refine condM_b (fun hb_1 => ?_) (fun hb_1 => ?_)
  ·have H := H.1 hb_1
   exact H
  have H := H.2 hb_1
  obtain ⟨hi_1, H⟩ := H
  refine pop_index sli24 siz37 .i64 m0_1 0 hi_1 ?_
  obtain ⟨t15_1, hc_3, H⟩ := H
  refine rop_one one37 (Sl.v t15_1) hc_3 ?_
  refine pop_len t15_1 _ _ sli37 ?_
  obtain ⟨J_1, ⟨n_4, h0_2⟩, HB_3⟩ := H
  refine loop_intro (J := fun (n : Nat) (vs : List Value) (h' : Heap) => ∃ sum3_1 : Int, ∃ sign4_1 : Int, ∃ t17_1 : Int, vs = [(VI sum3_1), (VI sign4_1), (VI t17_1)] ∧ J_1 n sum3_1 sign4_1 t17_1 h' ∧ Vars h' []) n_4 ⟨0, 1, 0, rfl, h0_2, hL⟩ ?_
  intro I_2 mu_2 hI_2 junk_1 tv_4 tv_5 tv_6 h_1 hi_2
  obtain ⟨n_1, ⟨sum3_1, sign4_1, t17_1, hv, hJ_1, hL_1⟩, hn_1⟩ := hI_2 _ _ hi_2
  cases hv
  have H := HB_3 n_1 sum3_1 sign4_1 t17_1 h_1 hJ_1 hL_1
  refine pop_lss .i64 t17_1 (t15_1.n : Int) ?_
  refine condM_b (fun hb_2 => ?_) (fun hb_2 => ?_)
  rotate_left
  ·have H := H.2 hb_2
   exact H
  have H := H.1 hb_2
  obtain ⟨hi_3, H⟩ := H
  refine pop_index sli37 siz3 .i64 t15_1 t17_1 hi_3 ?_
  obtain ⟨t21_1, hc_2, H⟩ := H
  refine rop_one one3 (VI t21_1) hc_2 ?_
  obtain ⟨J_2, H, HB_2⟩ := H
  refine ⟨fun (vs : List Value) (h' : Heap) => ∃ x_1 : Int, vs = [(VI x_1)] ∧ J_2 x_1 h' ∧ Vars h' [], ?_, ?_⟩
  ·refine pop_ine .i64 _ _ t21_1 0 ?_
   refine condM_b (fun hb_3 => ?_) (fun hb_3 => ?_)
   rotate_left
   ·have H := H.2 hb_3
    exact ⟨sum3_1, rfl, H, hL_1⟩
   have H := H.1 hb_3
   refine H.mono fun rv_1 H => ?_
   obtain ⟨t25_1, rfl, H⟩ := H
   refine pop_len t25_1 _ _ sli24 ?_
   obtain ⟨J_3, ⟨n_3, h0_1⟩, HB_1⟩ := H
   refine loop_intro (J := fun (n : Nat) (vs : List Value) (h' : Heap) => ∃ rest7_1 : Sl, ∃ t27_1 : Int, vs = [(Sl.v rest7_1), (VI t27_1)] ∧ J_3 n rest7_1 t27_1 h' ∧ Vars h' []) n_3 ⟨nilSl, 0, rfl, h0_1, hL_1⟩ ?_
   intro I_1 mu_1 hI_1 junk_2 tv_1 tv_2 h_2 hi_4
   obtain ⟨n_2, ⟨rest7_1, t27_1, hv, hJ_2, hL_2⟩, hn_2⟩ := hI_1 _ _ hi_4
   cases hv
   have H := HB_1 n_2 rest7_1 t27_1 h_2 hJ_2 hL_2
   refine pop_lss .i64 t27_1 (t25_1.n : Int) ?_
   refine condM_b (fun hb_4 => ?_) (fun hb_4 => ?_)
   rotate_left
   ·have H := H.2 hb_4
    refine pop_mul .i64 sign4_1 t21_1 ?_
    refine H.mono fun rv_8 h_7 H => ?_
    obtain ⟨t49_1, rfl, hL_7, H⟩ := H
    refine pop_mul .i64 (w64 (sign4_1 * t21_1)) t49_1 ?_
    refine pop_add .i64 sum3_1 (w64 ((w64 (sign4_1 * t21_1)) * t49_1)) ?_
    exact ⟨(w64 (sum3_1 + (w64 ((w64 (sign4_1 * t21_1)) * t49_1)))), rfl, H, hL_7⟩
   have H := H.1 hb_4
   obtain ⟨hi_5, H⟩ := H
   refine pop_index sli24 siz37 .i64 t25_1 t27_1 hi_5 ?_
   obtain ⟨t30_1, hc_1, H⟩ := H
   refine rop_one one37 (Sl.v t30_1) hc_1 ?_
   refine H.mono fun rv_2 H => ?_
   obtain ⟨t34_1, rfl, H⟩ := H
   refine pop_add .i64 t17_1 1 ?_
   refine H.mono fun rv_3 H => ?_
   obtain ⟨t39_1, rfl, H⟩ := H
   refine H.mono fun rv_4 h_3 H => ?_
   obtain ⟨t35_1, rfl, hL_3, H⟩ := H
   refine H.mono fun rv_5 h_4 H => ?_
   obtain ⟨t40_1, rfl, hL_4, H⟩ := H
   refine H.mono fun rv_6 h_5 H => ?_
   obtain ⟨t41_1, rfl, hL_5, H⟩ := H
   refine H.mono fun rv_7 h_6 H => ?_
   obtain ⟨t42_1, rfl, hL_6, H⟩ := H
   refine pop_add .i64 t27_1 1 ?_
   obtain ⟨m_1, hm_1, H⟩ := H
   exact hn_2 _ _ ⟨m_1, hm_1, t42_1, (w64 (t27_1 + 1)), rfl, H, hL_6⟩
  intro junk_3 tv_3 h_8
  rintro ⟨x_1, hv, hJ_3, hL_8⟩
  cases hv
  have H := HB_2 x_1 h_8 hJ_3 hL_8
  refine pop_neg .i64 sign4_1 ?_
  refine pop_add .i64 t17_1 1 ?_
  obtain ⟨m_2, hm_2, H⟩ := H
  exact hn_1 _ _ ⟨m_2, hm_2, x_1, (w64 (0 - sign4_1)), (w64 (t17_1 + 1)), rfl, H, hL_8⟩

/-! spec.trLaplace -/
def u92 (P : Program) (g0_1 : Sl) (sink1_1 : Int) (h : Heap) (K : Value → Heap → Prop) : Prop :=
  ∀ (b_1 : Nat) (h_1 : Heap), h.size ≤ b_1 → Fr (In []) h h_1 → Vars h_1 [(b_1, [(Sl.v g0_1)])] →
  ∃ J_1 : Nat → Sl → Int → Heap → Prop, (∃ n0 : Nat, J_1 n0 nilSl 0 h_1) ∧
  ∀ (n_1 : Nat) (out5_1 : Sl) (t14_1 : Int) (h_2 : Heap), J_1 n_1 out5_1 t14_1 h_2 → Vars h_2 [(b_1, [(Sl.v g0_1)])] →
  ((decide (t14_1 < (g0_1.n : Int))) = true →
  InB g0_1 t14_1 ∧
  ∃ t18_1 : Sl, hcell h_2 (Sl.at g0_1 t14_1 1) = some (Sl.v t18_1) ∧
  ((decide (t14_1 = sink1_1)) = true →
  ∃ m : Nat, m < n_1 ∧ J_1 m out5_1 (w64 (t14_1 + 1)) h_2) ∧
  ((decide (t14_1 = sink1_1)) = false →
  eop P (Instr.makeSlice 37 (VI (g0_1.n : Int)) (VI (g0_1.n : Int))) h_2 fun rv_1 h_3 => ∃ t25_1 : Sl, rv_1 = (Sl.v t25_1) ∧ Vars h_3 [(b_1, [(Sl.v g0_1)])] ∧
  InB t25_1 t14_1 ∧
  Writable h_3 (Sl.at t25_1 t14_1 1) ∧ Vars (hset h_3 (Sl.at t25_1 t14_1 1) (VI (t18_1.n : Int))) [(b_1, [(Sl.v g0_1)])] ∧
  ∀ h_4 : Heap, h_4 = hset h_3 (Sl.at t25_1 t14_1 1) (VI (t18_1.n : Int)) → Vars h_4 [(b_1, [(Sl.v g0_1)])] →
  ∃ J_2 : Nat → Int → Heap → Prop, (∃ n0 : Nat, J_2 n0 0 h_4) ∧
  ∀ (n_2 : Nat) (t33_1 : Int) (h_5 : Heap), J_2 n_2 t33_1 h_5 → Vars h_5 [(b_1, [(Sl.v g0_1)])] →
  ((decide (t33_1 < (t18_1.n : Int))) = true →
  InB t18_1 t33_1 ∧
  ∃ t36_1 : Int, hcell h_5 (Sl.at t18_1 t33_1 1) = some (VI t36_1) ∧
  InB t25_1 t36_1 ∧
  ∃ t40_1 : Int, hcell h_5 (Sl.at t25_1 t36_1 1) = some (VI t40_1) ∧
  InB t25_1 t36_1 ∧
  Writable h_5 (Sl.at t25_1 t36_1 1) ∧ Vars (hset h_5 (Sl.at t25_1 t36_1 1) (VI (w64 (t40_1 - 1)))) [(b_1, [(Sl.v g0_1)])] ∧
  ∀ h_6 : Heap, h_6 = hset h_5 (Sl.at t25_1 t36_1 1) (VI (w64 (t40_1 - 1))) → Vars h_6 [(b_1, [(Sl.v g0_1)])] →
  ∃ m : Nat, m < n_2 ∧ J_2 m (w64 (t33_1 + 1)) h_6) ∧
  ((decide (t33_1 < (t18_1.n : Int))) = false →
  pop P (Instr.sliceAt 37 (Sl.v t25_1) none (some (VI sink1_1)) none) fun rv_2 => ∃ t47_1 : Sl, rv_2 = (Sl.v t47_1) ∧ 
  pop P (Instr.sliceAt 37 (Sl.v t25_1) (some (VI (w64 (sink1_1 + 1)))) none none) fun rv_3 => ∃ t52_1 : Sl, rv_3 = (Sl.v t52_1) ∧ 
  callM P 121 #[(Sl.v t47_1)] h_5 fun rv_4 h_7 => ∃ t48_1 : Sl, rv_4 = (Sl.v t48_1) ∧ Vars h_7 [(b_1, [(Sl.v g0_1)])] ∧
  eop P (appS 37 37 37 (Sl.v t48_1) (Sl.v t52_1)) h_7 fun rv_5 h_8 => ∃ t53_1 : Sl, rv_5 = (Sl.v t53_1) ∧ Vars h_8 [(b_1, [(Sl.v g0_1)])] ∧
  eop P (Instr.buildSlice 24 1 #[(0, (Sl.v t53_1))]) h_8 fun rv_6 h_9 => ∃ t54_1 : Sl, rv_6 = (Sl.v t54_1) ∧ Vars h_9 [(b_1, [(Sl.v g0_1)])] ∧
  eop P (appS 24 24 24 (Sl.v out5_1) (Sl.v t54_1)) h_9 fun rv_7 h_10 => ∃ t55_1 : Sl, rv_7 = (Sl.v t55_1) ∧ Vars h_10 [(b_1, [(Sl.v g0_1)])] ∧
  ∃ m : Nat, m < n_1 ∧ J_1 m t55_1 (w64 (t14_1 + 1)) h_10))) ∧
  ((decide (t14_1 < (g0_1.n : Int))) = false →
  K (Sl.v out5_1) h_2)
end Go.Proofs.Ytgiamamfnpklkaa
