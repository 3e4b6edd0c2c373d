/-
  What each function that the law 'FnTreesCounted' comes to does: the contracts.
-/
import Derived.Test.YtgiamamfnpklkaaTreesCountedK1
set_option linter.unusedVariables false
set_option linter.unusedSimpArgs false
namespace Go.Proofs.Ytgiamamfnpklkaa
open Go Go.Mx
def w5_1 (P : Program) (t87_1 : Sl) (h_15 : Heap) (b_1 : Nat) (t57_1 : Sl) (t57_2 : Int) (t75_1 : Int) (t99_2 : Bool) (t63_2 : Bool) (J_1 : Heap → Prop) (K : Value → Heap → Prop) : Prop :=
  callM P 47 #[(Sl.v t87_1)] h_15 fun rv_14 h_16 => ∃ t164_1 : Int, ∃ t164_2 : Bool, rv_14 = (Value.tuple #[(VI t164_1), (VB t164_2)]) ∧ Vars h_16 [(b_1, [(Sl.v t57_1)])] ∧
  callM P 48 #[(Value.agg #[(Sl.v t57_1)]), (VI t57_2)] h_16 fun rv_15 h_17 => ∃ t170_1 : Bool, ∃ t170_2 : Bool, rv_15 = (Value.tuple #[(VB t170_1), (VB t170_2)]) ∧ Vars h_17 [(b_1, [(Sl.v t57_1)])] ∧
  ((!t164_2) = true →
  K (VB false) h_17) ∧
  ((!t164_2) = false →
  ((!decide (t164_1 = t75_1)) = true →
  K (VB false) h_17) ∧
  ((!decide (t164_1 = t75_1)) = false →
  ((decide (t75_1 < 0)) = true →
  K (VB false) h_17) ∧
  ((decide (t75_1 < 0)) = false →
  ((!t170_2) = true →
  K (VB false) h_17) ∧
  ((!t170_2) = false →
  ((!(t170_1 == (decide (0 < t75_1)))) = true →
  K (VB false) h_17) ∧
  ((!(t170_1 == (decide (0 < t75_1)))) = false →
  ((!(t99_2 == t170_1)) = true →
  K (VB false) h_17) ∧
  ((!(t99_2 == t170_1)) = false →
  ((!(t63_2 == (decide (t75_1 ≤ 300)))) = true →
  K (VB false) h_17) ∧
  ((!(t63_2 == (decide (t75_1 ≤ 300)))) = false →
  J_1  h_17)))))))
def w5_3 (P : Program) (t280_2 : Bool) (h_31 : Heap) (b_2 : Nat) (t258_1 : Sl) (b_1 : Nat) (t57_1 : Sl) (t280_1 : Sl) (t258_2 : Int) (t258_3 : Sl) (more1_1 : Sl) (K : Value → Heap → Prop) : Prop :=
  ∃ J_4 : Heap → Prop, ((t280_2 = true →
  ∃ J_5 : Nat → Int → Heap → Prop, (∃ n0 : Nat, J_5 n0 0 h_31) ∧
  ∀ (n_3 : Nat) (t320_1 : Int) (h_32 : Heap), J_5 n_3 t320_1 h_32 → Vars h_32 [(b_2, [(Sl.v t258_1)]), (b_1, [(Sl.v t57_1)])] →
  ((decide (t320_1 < (t280_1.n : Int))) = true →
  InB t280_1 t320_1 ∧
  ∃ t324_1 : Int, hcell h_32 (Sl.at t280_1 t320_1 1) = some (VI t324_1) ∧
  ((!((decide (t324_1 = 0)) == (decide (t320_1 = t258_2)))) = true →
  K (VB false) h_32) ∧
  ((!((decide (t324_1 = 0)) == (decide (t320_1 = t258_2)))) = false →
  ((decide (0 < t324_1)) = true →
  InB t258_1 t320_1 ∧
  ∃ t340_1 : Sl, hcell h_32 (Sl.at t258_1 t320_1 1) = some (Sl.v t340_1) ∧
  InB t258_3 t320_1 ∧
  ∃ t344_1 : Int, hcell h_32 (Sl.at t258_3 t320_1 1) = some (VI t344_1) ∧
  InB t340_1 t344_1 ∧
  ∃ t346_1 : Int, hcell h_32 (Sl.at t340_1 t344_1 1) = some (VI t346_1) ∧
  InB t280_1 t346_1 ∧
  ∃ t348_1 : Int, hcell h_32 (Sl.at t280_1 t346_1 1) = some (VI t348_1) ∧
  ((!decide (t348_1 = (w64 (t324_1 - 1)))) = true →
  K (VB false) h_32) ∧
  ((!decide (t348_1 = (w64 (t324_1 - 1)))) = false →
  ∃ m : Nat, m < n_3 ∧ J_5 m (w64 (t320_1 + 1)) h_32)) ∧
  ((decide (0 < t324_1)) = false →
  ∃ m : Nat, m < n_3 ∧ J_5 m (w64 (t320_1 + 1)) h_32))) ∧
  ((decide (t320_1 < (t280_1.n : Int))) = false →
  J_4  h_32)) ∧
  (t280_2 = false →
  J_4  h_31)) ∧
  ∀ (h_33 : Heap), J_4  h_33 → Vars h_33 [(b_2, [(Sl.v t258_1)]), (b_1, [(Sl.v t57_1)])] →
  callM P 55 #[(Sl.v more1_1)] h_33 fun rv_25 h_34 => ∃ t356_1 : Sl, rv_25 = (Sl.v t356_1) ∧ Vars h_34 [(b_2, [(Sl.v t258_1)]), (b_1, [(Sl.v t57_1)])] ∧
  callM P 47 #[(Sl.v t356_1)] h_34 fun rv_26 h_35 => ∃ t359_1 : Int, ∃ t359_2 : Bool, rv_26 = (Value.tuple #[(VI t359_1), (VB t359_2)]) ∧ Vars h_35 [(b_2, [(Sl.v t258_1)]), (b_1, [(Sl.v t57_1)])] ∧
  callM P 56 #[(Sl.v t356_1)] h_35 fun rv_27 h_36 => ∃ t364_1 : Int, ∃ t364_2 : Bool, rv_27 = (Value.tuple #[(VI t364_1), (VB t364_2)]) ∧ Vars h_36 [(b_2, [(Sl.v t258_1)]), (b_1, [(Sl.v t57_1)])] ∧
  ((!(t359_2 == t364_2)) = true →
  K (VB false) h_36) ∧
  ((!(t359_2 == t364_2)) = false →
  ((!decide (t359_1 = t364_1)) = true →
  K (VB false) h_36) ∧
  ((!decide (t359_1 = t364_1)) = false →
  (t359_2 = true →
  ((decide (2 ≤ (t356_1.n : Int))) = true →
  InB t356_1 1 ∧
  ∃ t383_1 : Sl, hcell h_36 (Sl.at t356_1 1 1) = some (Sl.v t383_1) ∧
  InB t356_1 0 ∧
  ∃ t386_1 : Sl, hcell h_36 (Sl.at t356_1 0 1) = some (Sl.v t386_1) ∧
  pop P (Instr.sliceAt 24 (Sl.v t356_1) (some (Value.int IntKind.i64 2)) none none) fun rv_28 => ∃ t389_1 : Sl, rv_28 = (Sl.v t389_1) ∧
  eop P (Instr.buildSlice 24 2 #[(0, (Sl.v t383_1)), (1, (Sl.v t386_1))]) h_36 fun rv_29 h_37 => ∃ t387_1 : Sl, rv_29 = (Sl.v t387_1) ∧ Vars h_37 [(b_2, [(Sl.v t258_1)]), (b_1, [(Sl.v t57_1)])] ∧
  eop P (appS 24 24 24 (Sl.v t387_1) (Sl.v t389_1)) h_37 fun rv_30 h_38 => ∃ t390_1 : Sl, rv_30 = (Sl.v t390_1) ∧ Vars h_38 [(b_2, [(Sl.v t258_1)]), (b_1, [(Sl.v t57_1)])] ∧
  callM P 47 #[(Sl.v t390_1)] h_38 fun rv_31 h_39 => ∃ t393_1 : Int, ∃ t393_2 : Bool, rv_31 = (Value.tuple #[(VI t393_1), (VB t393_2)]) ∧ Vars h_39 [(b_2, [(Sl.v t258_1)]), (b_1, [(Sl.v t57_1)])] ∧
  (t393_2 = true →
  K (VB (decide (t393_1 = (w64 (0 - t359_1))))) h_39) ∧
  (t393_2 = false →
  K (VB false) h_39)) ∧
  ((decide (2 ≤ (t356_1.n : Int))) = false →
  K (VB true) h_36)) ∧
  (t359_2 = false →
  K (VB true) h_36)))
def w5_2 (P : Program) (J_2 : Heap → Prop) (b_1 : Nat) (t57_1 : Sl) (more1_1 : Sl) (K : Value → Heap → Prop) : Prop :=
  ∀ (h_23 : Heap), J_2  h_23 → Vars h_23 [(b_1, [(Sl.v t57_1)])] →
  callM P 51 #[(Sl.v more1_1)] h_23 fun rv_19 h_24 => ∃ t258_1 : Sl, ∃ t258_2 : Int, ∃ t258_3 : Sl, rv_19 = (Value.tuple #[(Value.agg #[(Sl.v t258_1)]), (VI t258_2), (Sl.v t258_3)]) ∧ Vars h_24 [(b_1, [(Sl.v t57_1)])] ∧
  ∀ (b_2 : Nat) (h_26 : Heap), h_24.size ≤ b_2 → Fr (In []) h_24 h_26 → Vars h_26 [(b_2, [(Sl.v t258_1)]), (b_1, [(Sl.v t57_1)])] →
  callM P 49 #[(Value.agg #[(Sl.v t258_1)]), (VI t258_2), (Sl.v t258_3)] h_26 fun rv_20 h_27 => ∃ t266_1 : Bool, ∃ t266_2 : Bool, rv_20 = (Value.tuple #[(VB t266_1), (VB t266_2)]) ∧ Vars h_27 [(b_2, [(Sl.v t258_1)]), (b_1, [(Sl.v t57_1)])] ∧
  callM P 52 #[(Value.agg #[(Sl.v t258_1)]), (VI t258_2), (Sl.v t258_3)] h_27 fun rv_21 h_28 => ∃ t273_1 : Bool, ∃ t273_2 : Bool, rv_21 = (Value.tuple #[(VB t273_1), (VB t273_2)]) ∧ Vars h_28 [(b_2, [(Sl.v t258_1)]), (b_1, [(Sl.v t57_1)])] ∧
  callM P 53 #[(Value.agg #[(Sl.v t258_1)]), (VI t258_2), (Sl.v t258_3)] h_28 fun rv_22 h_29 => ∃ t280_1 : Sl, ∃ t280_2 : Bool, rv_22 = (Value.tuple #[(Sl.v t280_1), (VB t280_2)]) ∧ Vars h_29 [(b_2, [(Sl.v t258_1)]), (b_1, [(Sl.v t57_1)])] ∧
  callM P 54 #[(Value.agg #[(Sl.v t258_1)]), (VI t258_2), (Sl.v t258_3)] h_29 fun rv_23 h_30 => ∃ t287_1 : Sl, ∃ t287_2 : Bool, rv_23 = (Value.tuple #[(Sl.v t287_1), (VB t287_2)]) ∧ Vars h_30 [(b_2, [(Sl.v t258_1)]), (b_1, [(Sl.v t57_1)])] ∧
  ((!(t266_2 == t273_2)) = true →
  K (VB false) h_30) ∧
  ((!(t266_2 == t273_2)) = false →
  ((!(t266_1 == t273_1)) = true →
  K (VB false) h_30) ∧
  ((!(t266_1 == t273_1)) = false →
  ((!(t280_2 == t287_2)) = true →
  K (VB false) h_30) ∧
  ((!(t280_2 == t287_2)) = false →
  callM P 32 #[(Sl.v t280_1), (Sl.v t287_1)] h_30 fun rv_24 h_31 => ∃ t306_1 : Bool, rv_24 = (VB t306_1) ∧ Vars h_31 [(b_2, [(Sl.v t258_1)]), (b_1, [(Sl.v t57_1)])] ∧
  ((!t306_1) = true →
  K (VB false) h_31) ∧
  ((!t306_1) = false →
  (t266_2 = true →
  ((!(t280_2 == t266_1)) = true →
  K (VB false) h_31) ∧
  ((!(t280_2 == t266_1)) = false →
  w5_3 P t280_2 h_31 b_2 t258_1 b_1 t57_1 t280_1 t258_2 t258_3 more1_1 K)) ∧
  (t266_2 = false →
  ((!(t280_2 == false)) = true →
  K (VB false) h_31) ∧
  ((!(t280_2 == false)) = false →
  w5_3 P t280_2 h_31 b_2 t258_1 b_1 t57_1 t280_1 t258_2 t258_3 more1_1 K))))))
def w5 (P : Program) (code0_1 : Sl) (more1_1 : Sl) (h : Heap) (K : Value → Heap → Prop) : Prop :=
  callM P 6 #[(Sl.v code0_1), (Sl.v more1_1)] h fun rv_1 h_1 => ∃ t54_1 : Bool, rv_1 = (VB t54_1) ∧ Vars h_1 [] ∧
  (t54_1 = true →
  K (VB true) h_1) ∧
  (t54_1 = false →
  callM P 37 #[(Sl.v code0_1)] h_1 fun rv_2 h_2 => ∃ t57_1 : Sl, ∃ t57_2 : Int, rv_2 = (Value.tuple #[(Value.agg #[(Sl.v t57_1)]), (VI t57_2)]) ∧ Vars h_2 [] ∧
  ∀ (b_1 : Nat) (h_4 : Heap), h_2.size ≤ b_1 → Fr (In []) h_2 h_4 → Vars h_4 [(b_1, [(Sl.v t57_1)])] →
  callM P 38 #[(Value.agg #[(Sl.v t57_1)]), (VI t57_2)] h_4 fun rv_3 h_5 => ∃ t63_1 : Sl, ∃ t63_2 : Bool, rv_3 = (Value.tuple #[(Sl.v t63_1), (VB t63_2)]) ∧ Vars h_5 [(b_1, [(Sl.v t57_1)])] ∧
  callM P 39 #[(Value.agg #[(Sl.v t57_1)]), (VI t57_2)] h_5 fun rv_4 h_6 => ∃ t69_1 : Sl, ∃ t69_2 : Bool, rv_4 = (Value.tuple #[(Sl.v t69_1), (VB t69_2)]) ∧ Vars h_6 [(b_1, [(Sl.v t57_1)])] ∧
  callM P 40 #[(Value.agg #[(Sl.v t57_1)]), (VI t57_2)] h_6 fun rv_5 h_7 => ∃ t75_1 : Int, ∃ t75_2 : Bool, rv_5 = (Value.tuple #[(VI t75_1), (VB t75_2)]) ∧ Vars h_7 [(b_1, [(Sl.v t57_1)])] ∧
  callM P 41 #[(Value.agg #[(Sl.v t57_1)]), (VI t57_2)] h_7 fun rv_6 h_8 => ∃ t81_1 : Int, ∃ t81_2 : Bool, rv_6 = (Value.tuple #[(VI t81_1), (VB t81_2)]) ∧ Vars h_8 [(b_1, [(Sl.v t57_1)])] ∧
  callM P 42 #[(Value.agg #[(Sl.v t57_1)]), (VI t57_2)] h_8 fun rv_7 h_9 => ∃ t87_1 : Sl, ∃ t87_2 : Bool, rv_7 = (Value.tuple #[(Sl.v t87_1), (VB t87_2)]) ∧ Vars h_9 [(b_1, [(Sl.v t57_1)])] ∧
  callM P 43 #[(Value.agg #[(Sl.v t57_1)]), (VI t57_2)] h_9 fun rv_8 h_10 => ∃ t93_1 : Sl, ∃ t93_2 : Bool, rv_8 = (Value.tuple #[(Sl.v t93_1), (VB t93_2)]) ∧ Vars h_10 [(b_1, [(Sl.v t57_1)])] ∧
  callM P 44 #[(Value.agg #[(Sl.v t57_1)]), (VI t57_2)] h_10 fun rv_9 h_11 => ∃ t99_1 : Sl, ∃ t99_2 : Bool, rv_9 = (Value.tuple #[(Sl.v t99_1), (VB t99_2)]) ∧ Vars h_11 [(b_1, [(Sl.v t57_1)])] ∧
  callM P 45 #[(Value.agg #[(Sl.v t57_1)]), (VI t57_2)] h_11 fun rv_10 h_12 => ∃ t105_1 : Sl, ∃ t105_2 : Bool, rv_10 = (Value.tuple #[(Sl.v t105_1), (VB t105_2)]) ∧ Vars h_12 [(b_1, [(Sl.v t57_1)])] ∧
  ((!(t63_2 == t69_2)) = true →
  K (VB false) h_12) ∧
  ((!(t63_2 == t69_2)) = false →
  callM P 46 #[(Sl.v t63_1), (Sl.v t69_1)] h_12 fun rv_11 h_13 => ∃ t114_1 : Bool, rv_11 = (VB t114_1) ∧ Vars h_13 [(b_1, [(Sl.v t57_1)])] ∧
  ((!t114_1) = true →
  K (VB false) h_13) ∧
  ((!t114_1) = false →
  ((!(t75_2 == t81_2)) = true →
  K (VB false) h_13) ∧
  ((!(t75_2 == t81_2)) = false →
  ((!decide (t75_1 = t81_1)) = true →
  K (VB false) h_13) ∧
  ((!decide (t75_1 = t81_1)) = false →
  ((!(t87_2 == t93_2)) = true →
  K (VB false) h_13) ∧
  ((!(t87_2 == t93_2)) = false →
  callM P 46 #[(Sl.v t87_1), (Sl.v t93_1)] h_13 fun rv_12 h_14 => ∃ t135_1 : Bool, rv_12 = (VB t135_1) ∧ Vars h_14 [(b_1, [(Sl.v t57_1)])] ∧
  ((!t135_1) = true →
  K (VB false) h_14) ∧
  ((!t135_1) = false →
  ((!(t99_2 == t105_2)) = true →
  K (VB false) h_14) ∧
  ((!(t99_2 == t105_2)) = false →
  callM P 32 #[(Sl.v t99_1), (Sl.v t105_1)] h_14 fun rv_13 h_15 => ∃ t146_1 : Bool, rv_13 = (VB t146_1) ∧ Vars h_15 [(b_1, [(Sl.v t57_1)])] ∧
  ((!t146_1) = true →
  K (VB false) h_15) ∧
  ((!t146_1) = false →
  ((!(t87_2 == t75_2)) = true →
  K (VB false) h_15) ∧
  ((!(t87_2 == t75_2)) = false →
  (t63_2 = true →
  ((!t75_2) = true →
  K (VB false) h_15) ∧
  ((!t75_2) = false →
  ∃ J_1 : Heap → Prop, ((t75_2 = true →
  w5_1 P t87_1 h_15 b_1 t57_1 t57_2 t75_1 t99_2 t63_2 J_1 K) ∧
  (t75_2 = false →
  J_1  h_15)) ∧
  ∀ (h_18 : Heap), J_1  h_18 → Vars h_18 [(b_1, [(Sl.v t57_1)])] →
  ∃ J_2 : Heap → Prop, (∃ J_3 : Nat → Int → Heap → Prop, (∃ n0 : Nat, J_3 n0 0 h_18) ∧
  ∀ (n_1 : Nat) (t208_1 : Int) (h_19 : Heap), J_3 n_1 t208_1 h_19 → Vars h_19 [(b_1, [(Sl.v t57_1)])] →
  ((decide (t208_1 < (t63_1.n : Int))) = true →
  InB t63_1 t208_1 ∧
  ∃ t212_1 : Sl, hcell h_19 (Sl.at t63_1 t208_1 1) = some (Sl.v t212_1) ∧
  callM P 49 #[(Value.agg #[(Sl.v t57_1)]), (VI t57_2), (Sl.v t212_1)] h_19 fun rv_16 h_20 => ∃ t217_1 : Bool, ∃ t217_2 : Bool, rv_16 = (Value.tuple #[(VB t217_1), (VB t217_2)]) ∧ Vars h_20 [(b_1, [(Sl.v t57_1)])] ∧
  ((!t217_2) = true →
  K (VB false) h_20) ∧
  ((!t217_2) = false →
  ((!t217_1) = true →
  K (VB false) h_20) ∧
  ((!t217_1) = false →
  ((decide (0 < t208_1)) = true →
  InB t63_1 (w64 (t208_1 - 1)) ∧
  ∃ t234_1 : Sl, hcell h_20 (Sl.at t63_1 (w64 (t208_1 - 1)) 1) = some (Sl.v t234_1) ∧
  callM P 50 #[(Sl.v t234_1), (Sl.v t212_1)] h_20 fun rv_17 h_21 => ∃ t236_1 : Bool, rv_17 = (VB t236_1) ∧ Vars h_21 [(b_1, [(Sl.v t57_1)])] ∧
  ((!t236_1) = true →
  K (VB false) h_21) ∧
  ((!t236_1) = false →
  ∃ m : Nat, m < n_1 ∧ J_3 m (w64 (t208_1 + 1)) h_21)) ∧
  ((decide (0 < t208_1)) = false →
  ∃ m : Nat, m < n_1 ∧ J_3 m (w64 (t208_1 + 1)) h_20)))) ∧
  ((decide (t208_1 < (t63_1.n : Int))) = false →
  ((!decide ((t63_1.n : Int) = t75_1)) = true →
  K (VB false) h_19) ∧
  ((!decide ((t63_1.n : Int) = t75_1)) = false →
  (t99_2 = true →
  InB t63_1 0 ∧
  ∃ t251_1 : Sl, hcell h_19 (Sl.at t63_1 0 1) = some (Sl.v t251_1) ∧
  callM P 32 #[(Sl.v t99_1), (Sl.v t251_1)] h_19 fun rv_18 h_22 => ∃ t252_1 : Bool, rv_18 = (VB t252_1) ∧ Vars h_22 [(b_1, [(Sl.v t57_1)])] ∧
  ((!t252_1) = true →
  K (VB false) h_22) ∧
  ((!t252_1) = false →
  J_2  h_22)) ∧
  (t99_2 = false →
  J_2  h_19)))) ∧
  w5_2 P J_2 b_1 t57_1 more1_1 K)) ∧
  (t63_2 = false →
  ∃ J_8 : Heap → Prop, ((t75_2 = true →
  w5_1 P t87_1 h_15 b_1 t57_1 t57_2 t75_1 t99_2 t63_2 J_8 K) ∧
  (t75_2 = false →
  J_8  h_15)) ∧
  ∀ (h_50 : Heap), J_8  h_50 → Vars h_50 [(b_1, [(Sl.v t57_1)])] →
  ∃ J_9 : Heap → Prop, (J_9  h_50) ∧
  w5_2 P J_9 b_1 t57_1 more1_1 K)))))))))))
theorem x5 (code0_1 : Sl) (more1_1 : Sl) (h : Heap) (K : Value → Heap → Prop) (H : w5 Try.prog code0_1 more1_1 h K) : callM Try.prog 5 #[(Sl.v code0_1), (Sl.v more1_1)] h K := v5 code0_1 more1_1 h K H

theorem cntP_t {g : List (List Int)} {s : Int} (e : plB g s = true) : cntP g s = (treesN g s, true) := by unfold cntP; rw [if_pos e]
theorem lapP_t {g : List (List Int)} {s : Int} (e : plB g s = true) : lapP g s = (lapL g s, true) := by unfold lapP; rw [if_pos e]
theorem lap_cnt (g : List (List Int)) (s : Int) : (lapP g s).2 = (cntP g s).2 := by
  unfold lapP cntP
  split <;> rfl
theorem cnt_2 (g : List (List Int)) (s : Int) : (cntP g s).2 = plB g s := by
  unfold cntP
  split
  · rename_i h; exact h.symm
  · rename_i h; rw [Bool.not_eq_true] at h; exact h.symm
theorem fir_2 {g : List (List Int)} {s : Int} (e : plB g s = true) : (firP g s).2 = leadB g s := by
  unfold firP
  rw [e, Bool.true_and]
  split
  · rename_i h; exact h.symm
  · rename_i h; rw [Bool.not_eq_true] at h; exact h.symm
theorem all_2 {g : List (List Int)} {s : Int} (e : plB g s = true) : (allP g s).2 = decide (treesN g s ≤ 300) := by
  unfold allP
  rw [if_pos e]
  split
  · rename_i h; rw [decide_eq_true h]
  · rename_i h; rw [decide_eq_false h]
theorem all_t {g : List (List Int)} {s : Int} (h : (allP g s).2 = true) : plB g s = true ∧ (allP g s).1 = treesL g s := by
  unfold allP at h ⊢
  split at h
  · rename_i e
    split at h
    · rename_i h2
      rw [if_pos e, if_pos h2]
      exact ⟨e, rfl⟩
    · cases h
  · cases h
theorem lead_pos {g : List (List Int)} {s : Int} (e : plB g s = true) : leadB g s = decide (0 < treesN g s) := by
  obtain ⟨hg, s0, s1⟩ := plB_o e
  have ht := treesN_eq hg s0 s1
  have hl := lead_tree hg s0 s1
  by_cases hx : leadB g s = true
  · have := List.length_pos_iff.2 (hl.1 hx)
    rw [hx, decide_eq_true (by omega)]
  · have h0 : treesL g s = [] := Classical.byContradiction fun h => hx (hl.2 h)
    rw [h0, List.length_nil] at ht
    rw [Bool.not_eq_true] at hx
    rw [hx, decide_eq_false (by omega)]
theorem det_lapL {g : List (List Int)} {s : Int} (e : plB g s = true) : detP (lapL g s) = (treesN g s, true) := by
  obtain ⟨hg, s0, s1⟩ := plB_o e
  have gl := graph_len hg
  obtain ⟨ll, Q⟩ := lap_sq s0 s1
  have Sm := lap_small hg s0 s1
  unfold detP
  rw [if_pos]
  · rw [ll]; rfl
  · rw [decide_eq_true (by omega), Bool.true_and, List.all_eq_true]
    intro r hr
    obtain ⟨i, hi, rfl⟩ := List.mem_iff_getElem.1 hr
    have rl := Q.row i hi
    rw [decide_eq_true (by omega), Bool.true_and, List.all_eq_true]
    intro x hx
    obtain ⟨j, hj, rfl⟩ := List.mem_iff_getElem.1 hx
    have := Sm i j (by omega) (by omega)
    rw [matL_get hi hj] at this
    exact inR_iff.2 (by omega)
theorem tree_each {g : List (List Int)} {s : Int} (e : plB g s = true) {t : List Int} (h : t ∈ treesL g s) : isTreeP g s t = (true, true) ∧ t.length = g.length := by
  obtain ⟨hg, s0, s1⟩ := plB_o e
  have h2 := List.mem_filter.1 h
  have W := rot_ok (a := 0) hg (Int.le_refl _) (by omega) h2.1
  have hw : walkB g t 0 = true := walk_to4 W.1
  refine ⟨?_, (mem_allRot.1 h2.1).1⟩
  unfold isTreeP
  rw [if_pos]
  · rw [show treeB g t s = true from h2.2]
  · unfold sinkrB
    rw [show (graphB g && inR 0 ((g.length : Int) - 1) s) = true from e, hw, decide_eq_true (W.2 s0)]
    rfl
theorem detP_len {m : List (List Int)} (h : (detP m).2 = true) : m.length ≤ 7 := by
  unfold detP at h
  split at h
  · rename_i hc
    exact of_decide_eq_true (Bool.and_eq_true_iff.1 hc).1
  · cases h
theorem det_turn {x0 x1 : List Int} {l : List (List Int)} (h : (detP (x0 :: x1 :: l)).2 = true) : detP (x1 :: x0 :: l) = (-(detP (x0 :: x1 :: l)).1, true) ∧ -50400000000 ≤ (detP (x0 :: x1 :: l)).1 ∧ (detP (x0 :: x1 :: l)).1 ≤ 50400000000 := by
  unfold detP at h
  split at h
  · rename_i hc
    have e1 : detP (x0 :: x1 :: l) = (det (x0 :: x1 :: l).length (matL (x0 :: x1 :: l)), true) := by unfold detP; rw [if_pos hc]
    obtain ⟨h7, ha⟩ := Bool.and_eq_true_iff.1 hc
    have h7 := of_decide_eq_true h7
    obtain ⟨Q, Sm⟩ := detP_sq ha
    have hb := abs_le (Nat.le_trans (det_bound Sm) (Nat.le_trans (dbN_le h7) (show dbN 7 ≤ 50400000000 by rw [dbN7]; exact Nat.le_refl _)))
    have ha' : (x1 :: x0 :: l).all (fun r => decide (r.length = (x1 :: x0 :: l).length) && r.all (inR (-10) 10)) = true := by
      simp only [List.all_cons, List.length_cons] at ha ⊢
      have hh : ∀ a b c : Bool, (a && (b && c)) = (b && (a && c)) := by decide
      rw [← ha]
      exact hh _ _ _
    have e2 : detP (x1 :: x0 :: l) = (det (x1 :: x0 :: l).length (matL (x1 :: x0 :: l)), true) := by
      unfold detP
      rw [ha', decide_eq_true (by simpa using h7)]
      rfl
    have hm : matL (x1 :: x0 :: l) = fun i => matL (x0 :: x1 :: l) (swA 0 1 i) := by
      have := swL_mat (rows := x0 :: x1 :: l) (i := 0) (j := 1) (by simp) (by simp)
      rw [← this]
      rfl
    rw [e1, e2, hm]
    refine ⟨?_, hb⟩
    have := det_swap01 l.length (matL (x0 :: x1 :: l))
    exact congrArg (fun z => (z, true)) this
  · cases h

theorem head_get {l : List (List Int)} (h : 0 < l.length) : l.headD [] = l[0] := by
  cases l with
  | nil => simp at h
  | cons a l => rfl
theorem sl_plain : ∀ ss : List Sl, (ss.map Sl.v).all plainV = true
  | [] => rfl
  | s :: ss => by rw [List.map_cons, List.all_cons, sl_plain ss]; rfl

theorem tc_a {X : Heap} {S S2 : Nat → Prop} {g m : Sl} {gs : List (List Int)} {s : Int} (G : RdR S X g gs) (M : RdR S2 X m (lapP gs s).1) (e : plB gs s = true) (J : Heap → Prop) {K : Value → Heap → Prop} (HJ : ∀ h', Fr No X h' → J h') {b1 : Nat} (hL : Vars X [(b1, [g.v])]) : w5_1 Try.prog m X b1 g s (cntP gs s).1 (firP gs s).2 (allP gs s).2 J K := by
  unfold w5_1
  rw [lapP_t e] at M
  obtain ⟨hg, s0, s1⟩ := plB_o e
  have hn := treesN_eq hg s0 s1
  refine k_DeterminantOf M _ fun h16 f16 => ⟨_, _, rfl, hL.of_no f16, ?_⟩
  refine k_LeadsTo (G.no f16) s _ fun h17 f17 => ⟨_, _, rfl, (hL.of_no f16).of_no f17, ?_⟩
  rw [det_lapL e, cntP_t e, fir_2 e, all_2 e, show (graphB gs && inR 0 ((gs.length : Int) - 1) s) = true from e, lead_pos e]
  exact ⟨fun e => by simp at e, fun _ => ⟨fun e => by simp at e, fun _ => ⟨fun e => by simp only [decide_eq_true_eq] at e; omega, fun _ => ⟨fun e => by simp at e, fun _ => ⟨fun e => by simp at e, fun _ => ⟨fun e => by simp at e, fun _ => ⟨fun e => by simp at e, fun _ => HJ _ (f16.no_trans f17)⟩⟩⟩⟩⟩⟩⟩
theorem tc_c {X : Heap} {S S' S2 S3 : Nat → Prop} {t w a g mo : Sl} {gs : List (List Int)} {rs : List Int} {s : Int} {vs : List Value} (G : RdR S X t gs) (H : RdI S' X w rs) (A : RdI S2 X a (wayP gs s rs).1) (C : RdV S3 X 1 mo vs) (B : ∀ v, v ∈ vs → ∃ m : Int, v = Value.int .u8 m ∧ 0 ≤ m ∧ m ≤ 255) {K : Value → Heap → Prop} (HK : ∀ h', Fr No X h' → K (VB true) h') {b2 b1 : Nat} (hL : Vars X [(b2, [t.v]), (b1, [g.v])]) : w5_3 Try.prog (wayP gs s rs).2 X b2 t b1 g a s w mo K := by
  unfold w5_3
  refine ⟨fun h' => Fr No X h', ⟨fun e => ?_, fun _ => Fr.refl _ _⟩, fun h33 F33 hL33 => ?_⟩
  · obtain ⟨_, W, wl, wh⟩ := wayP_t e
    have s0 : 0 ≤ s := W.lo
    have gl := graph_len W.graph
    have rl : rs.length = gs.length := W.len
    generalize (wayP gs s rs).1 = l at A wl wh
    refine ⟨fun n i h' => 0 ≤ i ∧ i + n = (l.length : Int) ∧ Fr No X h', ⟨l.length, by omega, by omega, Fr.refl _ _⟩, ?_⟩
    rintro n i h32 ⟨i0, i1, f32⟩ hL32
    have A32 := A.no f32
    have G32 := G.no f32
    have H32 := H.no f32
    refine ⟨fun e2 => ?_, fun _ => f32⟩
    have hi := A32.lt e2
    obtain ⟨m, em, hm⟩ := wh i.toNat (by omega)
    rw [Int.toNat_of_nonneg i0] at hm
    have hc := A32.get i0 hi
    rw [em] at hc
    obtain ⟨m', ml, mh⟩ := reach_low W i0 (by omega) s0 hm.1
    have hmm : m ≤ m' := Nat.le_of_not_lt fun hh => hm.2 m' hh mh
    have next : ∃ m2 : Nat, m2 < n ∧ (0 ≤ w64 (i + 1) ∧ w64 (i + 1) + m2 = (l.length : Int) ∧ Fr No X h32) := by
      rw [A32.succ i0 hi]
      exact ⟨n - 1, by omega, by omega, by omega, f32⟩
    refine ⟨A32.inb i0 hi, _, hc, fun e3 => ?_, fun _ => ⟨fun e4 => ?_, fun _ => next⟩⟩
    · have hd : decide ((m : Int) = 0) = decide (i = s) := by
        by_cases hx : i = s
        · rw [decide_eq_true hx]
          refine decide_eq_true ?_
          cases m with
          | zero => rfl
          | succ k => exact absurd (show itx gs rs i 0 = s from hx) (hm.2 0 (by omega))
        · rw [decide_eq_false hx]
          refine decide_eq_false fun h0 => hx ?_
          have : m = 0 := by omega
          rw [this] at hm
          exact hm.1
      rw [hd] at e3
      simp at e3
    · simp only [decide_eq_true_eq] at e4
      obtain ⟨k, rfl⟩ : ∃ k, m = k + 1 := ⟨m - 1, by omega⟩
      have hn := hit_next hm
      have q0 : 0 ≤ nx gs rs i := by
        by_cases hx : nx gs rs i < 0
        · have := itx_neg_mono (g := gs) (rs := rs) (p := nx gs rs i) (k := 0) (m := k) hx (Nat.zero_le _)
          have := hn.1
          omega
        · omega
      have q1 : nx gs rs i < (gs.length : Int) := (nx_lt W (by omega)).2
      obtain ⟨sp, cp, rp⟩ := G32.get i0 (by omega)
      have hz : (gs[i.toNat]'(by omega)).length ≠ 0 := fun hz => by
        rw [nx_none i0 (by omega) hz] at q0
        omega
      obtain ⟨hr', hmx, r0, en⟩ := nx_some W i0 (by omega) hz
      have cq := rp.get r0 (by omega)
      rw [← en] at cq
      obtain ⟨m2, em2, hm2⟩ := wh (nx gs rs i).toNat (by omega)
      rw [Int.toNat_of_nonneg q0] at hm2
      have e9 := hit_uni hm2 hn
      subst e9
      have c2 := A32.get q0 (by omega)
      rw [em2] at c2
      refine ⟨G32.inb i0 (by omega), sp, cp, H32.inb i0 (by omega), _, H32.get i0 (by omega), rp.inb r0 (by omega), _, cq, A32.inb q0 (by omega), _, c2, fun e5 => ?_, fun _ => next⟩
      exfalso
      have e5 := not_t e5
      simp only [decide_eq_false_iff_not] at e5
      rw [w64_eq _ (by omega) (by omega)] at e5
      omega
  refine k_DrawDeterminantOf (C.no F33) B _ fun d ms h34 D34 f34 => ⟨d, rfl, hL33.of_no f34, ?_⟩
  refine k_DeterminantOf D34 _ fun h35 f35 => ⟨_, _, rfl, (hL33.of_no f34).of_no f35, ?_⟩
  refine k_spec_DeterminantOf (D34.no f35) _ fun h36 f36 => ⟨_, _, rfl, ((hL33.of_no f34).of_no f35).of_no f36, fun e => by simp at e, fun _ => ⟨fun e => by simp at e, fun _ => ?_⟩⟩
  have F36 := F33.no_trans (f34.no_trans (f35.no_trans f36))
  have hL36 := ((hL33.of_no f34).of_no f35).of_no f36
  refine ⟨fun e => ⟨fun e2 => ?_, fun _ => HK h36 F36⟩, fun _ => HK h36 F36⟩
  simp only [decide_eq_true_eq] at e2
  have D36 := ((D34.no f35).no f36).low
  have dn := D36.len
  match ms, dn, D36, e with
  | [], dn, D36, e => simp at dn; omega
  | [_], dn, D36, e => simp at dn; omega
  | x0 :: x1 :: l, dn, D36, e =>
    obtain ⟨et, eb1, eb2⟩ := det_turn e
    have h7 := detP_len e
    have hcn : (d.cut 1 2 d.n d.c).n = d.n - 2 := rfl
    have dn' : d.n = l.length + 2 := dn
    have h7' : l.length + 2 ≤ 7 := h7
    obtain ⟨s1, c1, r1⟩ := D36.get (i := 1) (by omega) (by simp; omega)
    obtain ⟨s0, c0, r0⟩ := D36.get (i := 0) (by omega) (by simp; omega)
    refine ⟨D36.inb (by omega) (by simp; omega), s1, c1, D36.inb (by omega) (by simp; omega), s0, c0, pop_cut_l rIss .i64 (by omega) (by omega) ⟨_, rfl, ?_⟩⟩
    obtain ⟨ss, e1, DV, DR⟩ := D36.out
    have ssl : ss.length = l.length + 2 := by simpa using e1
    refine eop_lit rIss (fun k => h36.size ≤ k) (fun _ h => h) 2 (by omega) [s1.v, s0.v] rfl rfl fun u h37 n37 c37 o37 f37 m37 _ => ⟨u, rfl, hL36.of_no f37, ?_⟩
    have z37 := f37.size
    have dc := RdV.cut DV (l := 2) (m := d.n) (by omega) (Nat.le_refl _)
    have hcut : ((ss.map Sl.v).drop (2 * 1)).take ((d.n - 2) * 1) = (ss.drop 2).map Sl.v := by
      rw [List.map_drop, Nat.mul_one, Nat.mul_one, List.take_of_length_le (by simp; omega)]
    rw [hcut] at dc
    refine eop_append rIss o37 (fun k hk => by omega) (dc.no f37) (sl_plain _) (by rw [hcn]; have := o37.rd.len; simp only [List.length_cons, List.length_nil] at this; omega) fun y h38 n38 o38 f38 d38 => ⟨y, rfl, (hL36.of_no f37).fr f38 (fun q hq hk => by
      have hk1 := (Ow.foot o37 hk).1
      simp only [List.mem_cons, List.not_mem_nil, or_false] at hq
      have l2 := hL36.head.lt
      have l1 := hL36.tail.head.lt
      rcases hq with rfl | rfl <;> (try simp only at hk1) <;> omega), ?_⟩
    have z38 := f38.size
    have f3638 : Fr No h36 h38 := f37.fresh f38 fun k hk => (Ow.foot o37 hk).1
    have Y : RdR (fun _ => True) h38 y (x1 :: x0 :: l) := by
      refine ⟨s1 :: s0 :: ss.drop 2, by simp; omega, ?_, fun i a b => ?_⟩
      · have := (Ow.rdF o38 : RdV _ h38 1 y _)
        exact RdV.mono this fun _ _ => trivial
      · match i, a, b with
        | 0, a, b => exact (RdI.no r1 f3638).mono fun _ _ => trivial
        | 1, a, b => exact (RdI.no r0 f3638).mono fun _ _ => trivial
        | i + 2, a, b =>
          have := DR (i + 2) (by simp at a; omega) (by simpa using b)
          simp only [List.getElem_cons_succ] at this ⊢
          rw [List.getElem_drop]
          have e9 : ss[2 + i]'(by simp at a; omega) = ss[i + 2]'(by simp at a; omega) := by congr 1; omega
          rw [e9]
          exact (RdI.no this f3638).mono fun _ _ => trivial
    refine k_DeterminantOf Y _ fun h39 f39 => ⟨_, _, rfl, (((hL36.of_no f37).fr f38 (fun q hq hk => by
      have hk1 := (Ow.foot o37 hk).1
      simp only [List.mem_cons, List.not_mem_nil, or_false] at hq
      have l2 := hL36.head.lt
      have l1 := hL36.tail.head.lt
      rcases hq with rfl | rfl <;> (try simp only at hk1) <;> omega)).of_no f39), fun _ => ?_, fun e3 => ?_⟩
    · rw [et, w64_eq _ (by omega) (by omega), decide_eq_true (by simp)]
      exact HK h39 (F36.no_trans (f3638.no_trans f39))
    · rw [et] at e3
      cases e3
theorem way_is (g : List (List Int)) (s : Int) (rs : List Int) : (wayP g s rs).2 = (isTreeP g s rs).1 := by
  unfold wayP isTreeP
  split <;> rfl
theorem is_no {g : List (List Int)} {s : Int} {rs : List Int} (h : (isTreeP g s rs).2 = false) : (isTreeP g s rs).1 = false := by
  unfold isTreeP at h ⊢
  split at h
  · cases h
  · rename_i hh; rw [if_neg hh]
theorem tc_b {X : Heap} {S3 : Nat → Prop} {g mo : Sl} {vs : List Value} (C : RdV S3 X 1 mo vs) (B : ∀ v, v ∈ vs → ∃ m : Int, v = Value.int .u8 m ∧ 0 ≤ m ∧ m ≤ 255) {K : Value → Heap → Prop} (HK : ∀ h', Fr No X h' → K (VB true) h') (J : Heap → Prop) (hJ : ∀ h', J h' → Fr No X h') (b1 : Nat) : w5_2 Try.prog J b1 g mo K := by
  unfold w5_2
  intro h23 j23 hL23
  have F23 := hJ h23 j23
  refine k_DrawIsTree (C.no F23) B _ fun t w gs rs s h24 G24 R24 f24 => ⟨t, s, w, rfl, hL23.of_no f24, fun b2 h26 hb2 f26 hL26 => ?_⟩
  have f26 := f26.in_nil
  have G26 := G24.no f26
  have R26 := R24.no f26
  have F26 := F23.no_trans (f24.no_trans f26)
  refine k_IsTree G26 R26 s _ fun h27 f27 => ⟨_, _, rfl, hL26.of_no f27, ?_⟩
  refine k_spec_IsTree (G26.no f27) (R26.no f27) s _ fun h28 f28 => ⟨_, _, rfl, (hL26.of_no f27).of_no f28, ?_⟩
  have f2628 := f27.no_trans f28
  refine k_TreeWays (G26.no f2628) (R26.no f2628) s _ fun a h29 o29 f29 => ⟨a, _, rfl, ((hL26.of_no f27).of_no f28).of_no f29, ?_⟩
  have f2629 := f2628.no_trans f29
  refine k_spec_TreeWays (G26.no f2629) (R26.no f2629) s _ fun a2 h30 o30 f30 => ⟨a2, _, rfl, (((hL26.of_no f27).of_no f28).of_no f29).of_no f30, fun e => by simp at e, fun _ => ⟨fun e => by simp at e, fun _ => ⟨fun e => by simp at e, fun _ => ?_⟩⟩⟩
  have hL30 := (((hL26.of_no f27).of_no f28).of_no f29).of_no f30
  have f2630 := f2629.no_trans f30
  have ra : RdI (Iv h28.size h29.size) h30 a (wayP gs s rs).1 := (Ow.rdF o29 : RdI _ h29 a _).no f30
  have rb : RdI (Iv h29.size h30.size) h30 a2 (wayP gs s rs).1 := Ow.rdF o30
  have F30 := F26.no_trans f2630
  refine k_wSame ra rb _ ⟨_, rfl, hL30, fun e => by simp at e, fun _ => ?_⟩
  have tl := tc_c (K := K) (G26.no f2630) (R26.no f2630) ra (C.no F30) B (fun h' f => HK h' (F30.no_trans f)) hL30
  refine ⟨fun e => ⟨fun e2 => ?_, fun _ => tl⟩, fun e => ⟨fun e2 => ?_, fun _ => tl⟩⟩
  · rw [way_is] at e2; simp at e2
  · rw [way_is, is_no e] at e2; simp at e2
set_option maxHeartbeats 4000000 in
theorem k_lawTreesCounted {h : Heap} {S0 S1 : Nat → Prop} {s0 s1 : Sl} {x0 x1 : List Value} (G0 : RdV S0 h 1 s0 x0) (B0 : ∀ v, v ∈ x0 → ∃ m : Int, v = Value.int .u8 m ∧ 0 ≤ m ∧ m ≤ 255) (G1 : RdV S1 h 1 s1 x1) (B1 : ∀ v, v ∈ x1 → ∃ m : Int, v = Value.int .u8 m ∧ 0 ≤ m ∧ m ≤ 255) : Ret Try.prog 5 #[s0.v, s1.v] h (VB true) := by
  intro K HK
  refine x5 s0 s1 h K ?_
  unfold w5
  refine k_big s0 s1 h _ fun b0 => ⟨b0, rfl, .nil, fun _ => HK h (Fr.refl _ _), fun _ => ?_⟩
  refine k_DrawAllTrees G0 B0 _ fun t gs p h2 G2 f2 => ⟨t, p, rfl, .nil, fun b1 h4 _ f4 hL4 => ?_⟩
  have f4 := f4.in_nil
  have F4 := f2.no_trans f4
  have G4 := G2.no f4
  refine k_AllTrees G4 p _ fun a5 h5 o5 f5 => ⟨a5, _, rfl, hL4.of_no f5, ?_⟩
  refine k_spec_AllTrees (G4.no f5) p _ fun a6 h6 o6 f6 => ⟨a6, _, rfl, (hL4.of_no f5).of_no f6, ?_⟩
  have f46 := f5.no_trans f6
  have hL6 := (hL4.of_no f5).of_no f6
  refine k_CountTrees (G4.no f46) p _ fun h7 f7 => ⟨_, _, rfl, hL6.of_no f7, ?_⟩
  have f47 := f46.no_trans f7
  refine k_spec_CountTrees (G4.no f47) p _ fun h8 f8 => ⟨_, _, rfl, (hL6.of_no f7).of_no f8, ?_⟩
  have f48 := f47.no_trans f8
  have hL8 := (hL6.of_no f7).of_no f8
  refine k_LaplaceOf (G4.no f48) p _ fun a9 h9 o9 f9 => ⟨a9, _, rfl, hL8.of_no f9, ?_⟩
  have f49 := f48.no_trans f9
  refine k_spec_LaplaceOf (G4.no f49) p _ fun a10 h10 o10 f10 => ⟨a10, _, rfl, (hL8.of_no f9).of_no f10, ?_⟩
  have f410 := f49.no_trans f10
  have hL10 := (hL8.of_no f9).of_no f10
  refine k_FirstTree (G4.no f410) p _ fun a11 h11 r11 f11 => ⟨a11, _, rfl, hL10.of_no f11, ?_⟩
  have f411 := f410.no_trans f11
  refine k_spec_FirstTree (G4.no f411) p _ fun a12 h12 r12 f12 => ⟨a12, _, rfl, (hL10.of_no f11).of_no f12, fun e => by simp at e, fun _ => ?_⟩
  have f412 := f411.no_trans f12
  have hL12 := (hL10.of_no f11).of_no f12
  have G12 := G4.no f412
  have F12 := F4.no_trans f412
  have q5 : RdR (Iv h4.size h5.size) h12 a5 (allP gs p).1 := (OwR.rdI o5).no (f6.no_trans (f7.no_trans (f8.no_trans (f9.no_trans (f10.no_trans (f11.no_trans f12))))))
  have q6 : RdR (Iv h5.size h6.size) h12 a6 (allP gs p).1 := (OwR.rdI o6).no (f7.no_trans (f8.no_trans (f9.no_trans (f10.no_trans (f11.no_trans f12)))))
  have q9 : RdR (Iv h8.size h9.size) h12 a9 (lapP gs p).1 := (OwR.rdI o9).no (f10.no_trans (f11.no_trans f12))
  have q10 : RdR (Iv h9.size h10.size) h12 a10 (lapP gs p).1 := (OwR.rdI o10).no (f11.no_trans f12)
  have q11 := r11.no f12
  refine k_wRows q5 q6 rfl _ ⟨_, rfl, hL12, fun e => by simp at e, fun _ => ⟨fun e => by simp at e, fun _ => ⟨fun e => by simp at e, fun _ => ⟨fun e => by simp at e, fun _ => ?_⟩⟩⟩⟩
  refine k_wRows q9 q10 rfl _ ⟨_, rfl, hL12, fun e => by simp at e, fun _ => ⟨fun e => by simp at e, fun _ => ?_⟩⟩
  refine k_wSame q11 r12 _ ⟨_, rfl, hL12, fun e => by simp at e, fun _ => ⟨fun e => ?_, fun _ => ?_⟩⟩
  · rw [lap_cnt] at e; simp at e
  have tb := fun (J : Heap → Prop) (hJ : ∀ h', J h' → Fr No h12 h') => tc_b (g := t) (K := K) (G1.no F12) B1 (fun h' f => HK h' (F12.no_trans f)) J hJ b1
  refine ⟨fun e1 => ?_, fun e1 => ?_⟩
  · obtain ⟨ep, ea⟩ := all_t e1
    obtain ⟨hg, p0, p1⟩ := plB_o ep
    refine ⟨fun e => (by rw [cnt_2, ep] at e; cases e), fun _ => ⟨fun h' => Fr No h12 h', ⟨fun _ => tc_a G12 q9 ep _ (fun h' f => f) hL12, fun _ => Fr.refl _ _⟩, fun h18 F18 hL18 => ?_⟩⟩
    refine ⟨fun h' => Fr No h12 h', ?_, tb _ fun h' f => f⟩
    rw [ea] at q5
    have q18 := q5.no F18
    have cn : (cntP gs p).1 = ((treesL gs p).length : Int) := by rw [cntP_t ep]; exact treesN_eq hg p0 p1
    have nn := q18.len
    have tb5 : (treesL gs p).length < 9223372036854775808 := by
      have h3 := all_2 ep
      rw [e1] at h3
      have := of_decide_eq_true h3.symm
      have := treesN_eq hg p0 p1
      omega
    refine ⟨fun n i h' => 0 ≤ i ∧ i + n = ((treesL gs p).length : Int) ∧ Fr No h18 h', ⟨(treesL gs p).length, by omega, by omega, Fr.refl _ _⟩, ?_⟩
    rintro n i h19 ⟨i0, i1, f19⟩ hL19
    have q19 := q18.no f19
    refine ⟨fun e2 => ?_, fun e2 => ⟨fun e3 => ?_, fun _ => ⟨fun e3 => ?_, fun _ => F18.no_trans f19⟩⟩⟩
    · simp only [decide_eq_true_eq] at e2
      have hi : i < ((treesL gs p).length : Int) := by omega
      obtain ⟨si, ci, ri⟩ := q19.get i0 hi
      have hmem := List.getElem_mem (show i.toNat < (treesL gs p).length by omega)
      obtain ⟨ti, tl⟩ := tree_each ep hmem
      refine ⟨q19.inb i0 hi, si, ci, k_IsTree (G12.no (F18.no_trans f19)) ri p _ fun h20 f20 => ⟨_, _, rfl, hL19.of_no f20, ?_⟩⟩
      rw [ti]
      have next : ∀ h21, Fr No h20 h21 → ∃ m2 : Nat, m2 < n ∧ (0 ≤ w64 (i + 1) ∧ w64 (i + 1) + m2 = ((treesL gs p).length : Int) ∧ Fr No h18 h21) := fun h21 f21 => by
        rw [w64_eq _ (by omega) (by omega)]
        exact ⟨n - 1, by omega, by omega, by omega, f19.no_trans (f20.no_trans f21)⟩
      refine ⟨fun e => by simp at e, fun _ => ⟨fun e => by simp at e, fun _ => ⟨fun e => ?_, fun _ => next h20 (Fr.refl _ _)⟩⟩⟩
      simp only [decide_eq_true_eq] at e
      have ew : w64 (i - 1) = i - 1 := w64_eq _ (by omega) (by omega)
      rw [ew]
      have q20 := q19.no f20
      obtain ⟨sj, cj, rj⟩ := q20.get (i := i - 1) (by omega) (by omega)
      have hmem2 := List.getElem_mem (show (i - 1).toNat < (treesL gs p).length by omega)
      have hlt : ltL ((treesL gs p)[(i - 1).toNat]'(by omega)) ((treesL gs p)[i.toNat]'(by omega)) = true := List.pairwise_iff_getElem.1 (trees_sorted gs p) (i - 1).toNat i.toNat (by omega) (by omega) (by omega)
      refine ⟨q20.inb (by omega) (by omega), sj, cj, k_wLess rj (ri.no f20) (by rw [tl, (tree_each ep hmem2).2]) _ ⟨_, rfl, hL19.of_no f20, fun e6 => ?_, fun _ => next h20 (Fr.refl _ _)⟩⟩
      rw [hlt] at e6; simp at e6
    · have e3 := not_t e3
      simp only [decide_eq_false_iff_not] at e3
      omega
    · rw [fir_2 ep] at e3
      have hne := (lead_tree hg p0 p1).1 e3
      have hl := List.length_pos_iff.2 hne
      obtain ⟨si, ci, ri⟩ := q19.get (i := 0) (by omega) (by omega)
      have ef : (firP gs p).1 = (treesL gs p)[0] := by
        unfold firP
        rw [ep, e3]
        simp only [Bool.and_self, if_true]
        exact head_get hl
      refine ⟨q19.inb (by omega) (by omega), si, ci, k_wSame (q11.no (F18.no_trans f19)) ri _ ⟨_, rfl, hL19, fun e => ?_, fun _ => F18.no_trans f19⟩⟩
      have e := not_t e
      simp only [decide_eq_false_iff_not] at e
      exact absurd ef e
  · refine ⟨fun h' => Fr No h12 h', ⟨fun e => tc_a G12 q9 (by rw [cnt_2] at e; exact e) _ (fun h' f => f) hL12, fun _ => Fr.refl _ _⟩, fun h50 F50 hL50 => ⟨fun h' => Fr No h12 h', F50, tb _ fun h' f => f⟩⟩
end Go.Proofs.Ytgiamamfnpklkaa
