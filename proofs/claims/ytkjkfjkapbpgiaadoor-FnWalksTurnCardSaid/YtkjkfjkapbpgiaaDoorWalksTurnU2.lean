import Derived.Test.YtkjkfjkapbpgiaaDoorWalksTurnU1
import Derived.Test.YtkjkfjkapbpgiaaDoorWalksTurnT
import Derived.Test.YtkjkfjkapbpgiaaDoorM2
set_option linter.unusedVariables false
set_option linter.unusedSimpArgs false
set_option maxRecDepth 100000
set_option maxHeartbeats 16000000
namespace Go.Proofs.YtkjkfjkapbpgiaaDoor
open Go Go.Mx
def u74 (P : Program) (g0_1 : Sl) (w1_1 : Sl) (w1_2 : Int) (n2_1 : Int) (h : Heap) (K : Value → Heap → Prop) : Prop :=
  ∀ (b_1 : Nat) (b_2 : Nat) (b_3 : Nat) (h_3 : Heap), h.size ≤ b_1 → h.size ≤ b_2 → h.size ≤ b_3 → Fr (In []) h h_3 → Vars h_3 [(b_3, [(Sl.v nilSl), (VI 0), (Sl.v nilSl), (Sl.v nilSl), (Sl.v nilSl)]), (b_2, [(Sl.v w1_1), (VI w1_2)]), (b_1, [(Sl.v g0_1)])] →
  ∃ J_1 : Nat → Sl → Int → Sl → Sl → Sl → Heap → Prop, ((eop P (Instr.buildSlice 34 1 #[(0, (VI w1_2))]) h_3 fun rv_1 h_4 => ∃ t17_1 : Sl, rv_1 = (Sl.v t17_1) ∧ Vars h_4 [(b_3, [(Sl.v nilSl), (VI 0), (Sl.v nilSl), (Sl.v nilSl), (Sl.v nilSl)]), (b_2, [(Sl.v w1_1), (VI w1_2)]), (b_1, [(Sl.v g0_1)])] ∧
  (eop P (Instr.makeSlice 34 (VI (g0_1.n : Int)) (VI (g0_1.n : Int))) h_4 fun rv_2 h_5 => ∃ t21_1 : Sl, rv_2 = (Sl.v t21_1) ∧ Vars h_5 [(b_3, [(Sl.v nilSl), (VI 0), (Sl.v nilSl), (Sl.v nilSl), (Sl.v nilSl)]), (b_2, [(Sl.v w1_1), (VI w1_2)]), (b_1, [(Sl.v g0_1)])] ∧
  ∀ (b_5 : Nat) (h_6 : Heap), h_5.size ≤ b_5 → Fr (In []) h_5 h_6 → Vars h_6 [(b_5, [(Sl.v nilSl), (VI 0), (Sl.v nilSl), (Sl.v nilSl), (Sl.v nilSl)]), (b_3, [(Sl.v nilSl), (VI 0), (Sl.v nilSl), (Sl.v nilSl), (Sl.v nilSl)]), (b_2, [(Sl.v w1_1), (VI w1_2)]), (b_1, [(Sl.v g0_1)])] →
  ∀ (h_7 : Heap), Fr (In [b_5]) h_6 h_7 → Vars h_7 [(b_5, [(Sl.v w1_1), (VI w1_2), (Sl.v t17_1), (Sl.v t21_1), (Sl.v nilSl)]), (b_3, [(Sl.v nilSl), (VI 0), (Sl.v nilSl), (Sl.v nilSl), (Sl.v nilSl)]), (b_2, [(Sl.v w1_1), (VI w1_2)]), (b_1, [(Sl.v g0_1)])] →
  J_1 b_5 w1_1 w1_2 t17_1 t21_1 nilSl h_7) ∧
  (∀ (b_6 : Nat) (h_8 : Heap), h_4.size ≤ b_6 → Fr (In []) h_4 h_8 → Vars h_8 [(b_6, [(Sl.v nilSl), (VI 0), (Sl.v nilSl), (Sl.v nilSl), (Sl.v nilSl)]), (b_3, [(Sl.v nilSl), (VI 0), (Sl.v nilSl), (Sl.v nilSl), (Sl.v nilSl)]), (b_2, [(Sl.v w1_1), (VI w1_2)]), (b_1, [(Sl.v g0_1)])] →
  eop P (Instr.makeSlice 34 (VI (g0_1.n : Int)) (VI (g0_1.n : Int))) h_8 fun rv_3 h_9 => ∃ t21_2 : Sl, rv_3 = (Sl.v t21_2) ∧ Vars h_9 [(b_6, [(Sl.v nilSl), (VI 0), (Sl.v nilSl), (Sl.v nilSl), (Sl.v nilSl)]), (b_3, [(Sl.v nilSl), (VI 0), (Sl.v nilSl), (Sl.v nilSl), (Sl.v nilSl)]), (b_2, [(Sl.v w1_1), (VI w1_2)]), (b_1, [(Sl.v g0_1)])] ∧
  ∀ (h_10 : Heap), Fr (In [b_6]) h_9 h_10 → Vars h_10 [(b_6, [(Sl.v w1_1), (VI w1_2), (Sl.v t17_1), (Sl.v t21_2), (Sl.v nilSl)]), (b_3, [(Sl.v nilSl), (VI 0), (Sl.v nilSl), (Sl.v nilSl), (Sl.v nilSl)]), (b_2, [(Sl.v w1_1), (VI w1_2)]), (b_1, [(Sl.v g0_1)])] →
  J_1 b_6 w1_1 w1_2 t17_1 t21_2 nilSl h_10)) ∧
  (eop P (Instr.makeSlice 34 (VI (g0_1.n : Int)) (VI (g0_1.n : Int))) h_3 fun rv_4 h_11 => ∃ t21_3 : Sl, rv_4 = (Sl.v t21_3) ∧ Vars h_11 [(b_3, [(Sl.v nilSl), (VI 0), (Sl.v nilSl), (Sl.v nilSl), (Sl.v nilSl)]), (b_2, [(Sl.v w1_1), (VI w1_2)]), (b_1, [(Sl.v g0_1)])] ∧
  (eop P (Instr.buildSlice 34 1 #[(0, (VI w1_2))]) h_11 fun rv_5 h_12 => ∃ t17_2 : Sl, rv_5 = (Sl.v t17_2) ∧ Vars h_12 [(b_3, [(Sl.v nilSl), (VI 0), (Sl.v nilSl), (Sl.v nilSl), (Sl.v nilSl)]), (b_2, [(Sl.v w1_1), (VI w1_2)]), (b_1, [(Sl.v g0_1)])] ∧
  ∀ (b_7 : Nat) (h_13 : Heap), h_12.size ≤ b_7 → Fr (In []) h_12 h_13 → Vars h_13 [(b_7, [(Sl.v nilSl), (VI 0), (Sl.v nilSl), (Sl.v nilSl), (Sl.v nilSl)]), (b_3, [(Sl.v nilSl), (VI 0), (Sl.v nilSl), (Sl.v nilSl), (Sl.v nilSl)]), (b_2, [(Sl.v w1_1), (VI w1_2)]), (b_1, [(Sl.v g0_1)])] →
  ∀ (h_14 : Heap), Fr (In [b_7]) h_13 h_14 → Vars h_14 [(b_7, [(Sl.v w1_1), (VI w1_2), (Sl.v t17_2), (Sl.v t21_3), (Sl.v nilSl)]), (b_3, [(Sl.v nilSl), (VI 0), (Sl.v nilSl), (Sl.v nilSl), (Sl.v nilSl)]), (b_2, [(Sl.v w1_1), (VI w1_2)]), (b_1, [(Sl.v g0_1)])] →
  J_1 b_7 w1_1 w1_2 t17_2 t21_3 nilSl h_14) ∧
  (∀ (b_8 : Nat) (h_15 : Heap), h_11.size ≤ b_8 → Fr (In []) h_11 h_15 → Vars h_15 [(b_8, [(Sl.v nilSl), (VI 0), (Sl.v nilSl), (Sl.v nilSl), (Sl.v nilSl)]), (b_3, [(Sl.v nilSl), (VI 0), (Sl.v nilSl), (Sl.v nilSl), (Sl.v nilSl)]), (b_2, [(Sl.v w1_1), (VI w1_2)]), (b_1, [(Sl.v g0_1)])] →
  eop P (Instr.buildSlice 34 1 #[(0, (VI w1_2))]) h_15 fun rv_6 h_16 => ∃ t17_3 : Sl, rv_6 = (Sl.v t17_3) ∧ Vars h_16 [(b_8, [(Sl.v nilSl), (VI 0), (Sl.v nilSl), (Sl.v nilSl), (Sl.v nilSl)]), (b_3, [(Sl.v nilSl), (VI 0), (Sl.v nilSl), (Sl.v nilSl), (Sl.v nilSl)]), (b_2, [(Sl.v w1_1), (VI w1_2)]), (b_1, [(Sl.v g0_1)])] ∧
  ∀ (h_17 : Heap), Fr (In [b_8]) h_16 h_17 → Vars h_17 [(b_8, [(Sl.v w1_1), (VI w1_2), (Sl.v t17_3), (Sl.v t21_3), (Sl.v nilSl)]), (b_3, [(Sl.v nilSl), (VI 0), (Sl.v nilSl), (Sl.v nilSl), (Sl.v nilSl)]), (b_2, [(Sl.v w1_1), (VI w1_2)]), (b_1, [(Sl.v g0_1)])] →
  J_1 b_8 w1_1 w1_2 t17_3 t21_3 nilSl h_17)) ∧
  (∀ (b_9 : Nat) (h_18 : Heap), h_3.size ≤ b_9 → Fr (In []) h_3 h_18 → Vars h_18 [(b_9, [(Sl.v nilSl), (VI 0), (Sl.v nilSl), (Sl.v nilSl), (Sl.v nilSl)]), (b_3, [(Sl.v nilSl), (VI 0), (Sl.v nilSl), (Sl.v nilSl), (Sl.v nilSl)]), (b_2, [(Sl.v w1_1), (VI w1_2)]), (b_1, [(Sl.v g0_1)])] →
  (eop P (Instr.buildSlice 34 1 #[(0, (VI w1_2))]) h_18 fun rv_7 h_19 => ∃ t17_4 : Sl, rv_7 = (Sl.v t17_4) ∧ Vars h_19 [(b_9, [(Sl.v nilSl), (VI 0), (Sl.v nilSl), (Sl.v nilSl), (Sl.v nilSl)]), (b_3, [(Sl.v nilSl), (VI 0), (Sl.v nilSl), (Sl.v nilSl), (Sl.v nilSl)]), (b_2, [(Sl.v w1_1), (VI w1_2)]), (b_1, [(Sl.v g0_1)])] ∧
  eop P (Instr.makeSlice 34 (VI (g0_1.n : Int)) (VI (g0_1.n : Int))) h_19 fun rv_8 h_20 => ∃ t21_4 : Sl, rv_8 = (Sl.v t21_4) ∧ Vars h_20 [(b_9, [(Sl.v nilSl), (VI 0), (Sl.v nilSl), (Sl.v nilSl), (Sl.v nilSl)]), (b_3, [(Sl.v nilSl), (VI 0), (Sl.v nilSl), (Sl.v nilSl), (Sl.v nilSl)]), (b_2, [(Sl.v w1_1), (VI w1_2)]), (b_1, [(Sl.v g0_1)])] ∧
  ∀ (h_21 : Heap), Fr (In [b_9]) h_20 h_21 → Vars h_21 [(b_9, [(Sl.v w1_1), (VI w1_2), (Sl.v t17_4), (Sl.v t21_4), (Sl.v nilSl)]), (b_3, [(Sl.v nilSl), (VI 0), (Sl.v nilSl), (Sl.v nilSl), (Sl.v nilSl)]), (b_2, [(Sl.v w1_1), (VI w1_2)]), (b_1, [(Sl.v g0_1)])] →
  J_1 b_9 w1_1 w1_2 t17_4 t21_4 nilSl h_21) ∧
  (eop P (Instr.makeSlice 34 (VI (g0_1.n : Int)) (VI (g0_1.n : Int))) h_18 fun rv_9 h_22 => ∃ t21_5 : Sl, rv_9 = (Sl.v t21_5) ∧ Vars h_22 [(b_9, [(Sl.v nilSl), (VI 0), (Sl.v nilSl), (Sl.v nilSl), (Sl.v nilSl)]), (b_3, [(Sl.v nilSl), (VI 0), (Sl.v nilSl), (Sl.v nilSl), (Sl.v nilSl)]), (b_2, [(Sl.v w1_1), (VI w1_2)]), (b_1, [(Sl.v g0_1)])] ∧
  eop P (Instr.buildSlice 34 1 #[(0, (VI w1_2))]) h_22 fun rv_10 h_23 => ∃ t17_5 : Sl, rv_10 = (Sl.v t17_5) ∧ Vars h_23 [(b_9, [(Sl.v nilSl), (VI 0), (Sl.v nilSl), (Sl.v nilSl), (Sl.v nilSl)]), (b_3, [(Sl.v nilSl), (VI 0), (Sl.v nilSl), (Sl.v nilSl), (Sl.v nilSl)]), (b_2, [(Sl.v w1_1), (VI w1_2)]), (b_1, [(Sl.v g0_1)])] ∧
  ∀ (h_24 : Heap), Fr (In [b_9]) h_23 h_24 → Vars h_24 [(b_9, [(Sl.v w1_1), (VI w1_2), (Sl.v t17_5), (Sl.v t21_5), (Sl.v nilSl)]), (b_3, [(Sl.v nilSl), (VI 0), (Sl.v nilSl), (Sl.v nilSl), (Sl.v nilSl)]), (b_2, [(Sl.v w1_1), (VI w1_2)]), (b_1, [(Sl.v g0_1)])] →
  J_1 b_9 w1_1 w1_2 t17_5 t21_5 nilSl h_24))) ∧
  ∀ (b_4 : Nat) (x_1 : Sl) (x_2 : Int) (x_3 : Sl) (x_4 : Sl) (x_5 : Sl) (h_25 : Heap), J_1 b_4 x_1 x_2 x_3 x_4 x_5 h_25 → Vars h_25 [(b_4, [(Sl.v x_1), (VI x_2), (Sl.v x_3), (Sl.v x_4), (Sl.v x_5)]), (b_3, [(Sl.v nilSl), (VI 0), (Sl.v nilSl), (Sl.v nilSl), (Sl.v nilSl)]), (b_2, [(Sl.v w1_1), (VI w1_2)]), (b_1, [(Sl.v g0_1)])] →
  ∃ J_2 : Nat → Int → Sl → Int → Sl → Sl → Sl → Heap → Prop, (∃ n0 : Nat, J_2 n0 0 x_1 x_2 x_3 x_4 x_5 h_25) ∧
  ∀ (n_1 : Nat) (t26_1 : Int) (x_6 : Sl) (x_7 : Int) (x_8 : Sl) (x_9 : Sl) (x_10 : Sl) (h_26 : Heap), J_2 n_1 t26_1 x_6 x_7 x_8 x_9 x_10 h_26 → Vars h_26 [(b_4, [(Sl.v x_6), (VI x_7), (Sl.v x_8), (Sl.v x_9), (Sl.v x_10)]), (b_3, [(Sl.v nilSl), (VI 0), (Sl.v nilSl), (Sl.v nilSl), (Sl.v nilSl)]), (b_2, [(Sl.v w1_1), (VI w1_2)]), (b_1, [(Sl.v g0_1)])] →
  ((decide (t26_1 < (g0_1.n : Int))) = true →
  InB g0_1 t26_1 ∧
  ∃ t29_1 : Sl, hcell h_26 (Sl.at g0_1 t26_1 1) = some (Sl.v t29_1) ∧
  eop P (Instr.makeSlice 34 (VI (t29_1.n : Int)) (VI (t29_1.n : Int))) h_26 fun rv_11 h_27 => ∃ t34_1 : Sl, rv_11 = (Sl.v t34_1) ∧ Vars h_27 [(b_4, [(Sl.v x_6), (VI x_7), (Sl.v x_8), (Sl.v x_9), (Sl.v x_10)]), (b_3, [(Sl.v nilSl), (VI 0), (Sl.v nilSl), (Sl.v nilSl), (Sl.v nilSl)]), (b_2, [(Sl.v w1_1), (VI w1_2)]), (b_1, [(Sl.v g0_1)])] ∧
  eop P (Instr.buildSlice 22 1 #[(0, (Sl.v t34_1))]) h_27 fun rv_12 h_28 => ∃ t35_1 : Sl, rv_12 = (Sl.v t35_1) ∧ Vars h_28 [(b_4, [(Sl.v x_6), (VI x_7), (Sl.v x_8), (Sl.v x_9), (Sl.v x_10)]), (b_3, [(Sl.v nilSl), (VI 0), (Sl.v nilSl), (Sl.v nilSl), (Sl.v nilSl)]), (b_2, [(Sl.v w1_1), (VI w1_2)]), (b_1, [(Sl.v g0_1)])] ∧
  eop P (appS 22 22 22 (Sl.v x_10) (Sl.v t35_1)) h_28 fun rv_13 h_29 => ∃ t36_1 : Sl, rv_13 = (Sl.v t36_1) ∧ Vars h_29 [(b_4, [(Sl.v x_6), (VI x_7), (Sl.v x_8), (Sl.v x_9), (Sl.v x_10)]), (b_3, [(Sl.v nilSl), (VI 0), (Sl.v nilSl), (Sl.v nilSl), (Sl.v nilSl)]), (b_2, [(Sl.v w1_1), (VI w1_2)]), (b_1, [(Sl.v g0_1)])] ∧
  ∀ (h_30 : Heap), Fr (In [b_4]) h_29 h_30 → Vars h_30 [(b_4, [(Sl.v x_6), (VI x_7), (Sl.v x_8), (Sl.v x_9), (Sl.v t36_1)]), (b_3, [(Sl.v nilSl), (VI 0), (Sl.v nilSl), (Sl.v nilSl), (Sl.v nilSl)]), (b_2, [(Sl.v w1_1), (VI w1_2)]), (b_1, [(Sl.v g0_1)])] →
  ∃ m : Nat, m < n_1 ∧ J_2 m (w64 (t26_1 + 1)) x_6 x_7 x_8 x_9 t36_1 h_30) ∧
  ((decide (t26_1 < (g0_1.n : Int))) = false →
  ∃ J_3 : Nat → Int → Sl → Int → Sl → Sl → Sl → Heap → Prop, (∃ n0 : Nat, J_3 n0 n2_1 x_6 x_7 x_8 x_9 x_10 h_26) ∧
  ∀ (n_2 : Nat) (n2_2 : Int) (x_11 : Sl) (x_12 : Int) (x_13 : Sl) (x_14 : Sl) (x_15 : Sl) (h_31 : Heap), J_3 n_2 n2_2 x_11 x_12 x_13 x_14 x_15 h_31 → Vars h_31 [(b_4, [(Sl.v x_11), (VI x_12), (Sl.v x_13), (Sl.v x_14), (Sl.v x_15)]), (b_3, [(Sl.v nilSl), (VI 0), (Sl.v nilSl), (Sl.v nilSl), (Sl.v nilSl)]), (b_2, [(Sl.v w1_1), (VI w1_2)]), (b_1, [(Sl.v g0_1)])] →
  ((decide (0 < n2_2)) = true →
  callM P 80 #[(Value.agg #[(Sl.v g0_1)]), (Value.agg #[(Sl.v x_11), (VI x_12)])] h_31 fun rv_14 h_32 => ∃ t47_1 : Sl, ∃ t47_2 : Int, ∃ t47_3 : Bool, rv_14 = (Value.tuple #[(Value.agg #[(Sl.v t47_1), (VI t47_2)]), (VB t47_3)]) ∧ Vars h_32 [(b_4, [(Sl.v x_11), (VI x_12), (Sl.v x_13), (Sl.v x_14), (Sl.v x_15)]), (b_3, [(Sl.v nilSl), (VI 0), (Sl.v nilSl), (Sl.v nilSl), (Sl.v nilSl)]), (b_2, [(Sl.v w1_1), (VI w1_2)]), (b_1, [(Sl.v g0_1)])] ∧
  ((!t47_3) = true →
  ∀ (b_10 : Nat) (h_35 : Heap), h_32.size ≤ b_10 → Fr (In [b_3]) h_32 h_35 → Vars h_35 [(b_10, [(Sl.v t47_1), (VI t47_2)]), (b_4, [(Sl.v x_11), (VI x_12), (Sl.v x_13), (Sl.v x_14), (Sl.v x_15)]), (b_3, [(Sl.v nilSl), (VI 0), (Sl.v nilSl), (Sl.v nilSl), (Sl.v nilSl)]), (b_2, [(Sl.v w1_1), (VI w1_2)]), (b_1, [(Sl.v g0_1)])] →
  K (Value.tuple #[(Value.agg #[(Sl.v nilSl), (VI 0), (Sl.v nilSl), (Sl.v nilSl), (Sl.v nilSl)]), (VB false)]) h_35) ∧
  ((!t47_3) = false →
  InB x_15 x_12 ∧
  ∀ (b_10 : Nat) (h_34 : Heap), h_32.size ≤ b_10 → Fr (In []) h_32 h_34 → Vars h_34 [(b_10, [(Sl.v t47_1), (VI t47_2)]), (b_4, [(Sl.v x_11), (VI x_12), (Sl.v x_13), (Sl.v x_14), (Sl.v x_15)]), (b_3, [(Sl.v nilSl), (VI 0), (Sl.v nilSl), (Sl.v nilSl), (Sl.v nilSl)]), (b_2, [(Sl.v w1_1), (VI w1_2)]), (b_1, [(Sl.v g0_1)])] →
  ∃ t59_1 : Sl, hcell h_34 (Sl.at x_15 x_12 1) = some (Sl.v t59_1) ∧
  InB t47_1 x_12 ∧
  ∃ t67_1 : Int, hcell h_34 (Sl.at t47_1 x_12 1) = some (VI t67_1) ∧
  InB t59_1 t67_1 ∧
  ∃ t69_1 : Int, hcell h_34 (Sl.at t59_1 t67_1 1) = some (VI t69_1) ∧
  InB t59_1 t67_1 ∧
  Writable h_34 (Sl.at t59_1 t67_1 1) ∧ Vars (hset h_34 (Sl.at t59_1 t67_1 1) (VI (w64 (t69_1 + 1)))) [(b_10, [(Sl.v t47_1), (VI t47_2)]), (b_4, [(Sl.v x_11), (VI x_12), (Sl.v x_13), (Sl.v x_14), (Sl.v x_15)]), (b_3, [(Sl.v nilSl), (VI 0), (Sl.v nilSl), (Sl.v nilSl), (Sl.v nilSl)]), (b_2, [(Sl.v w1_1), (VI w1_2)]), (b_1, [(Sl.v g0_1)])] ∧
  ∀ h_36 : Heap, h_36 = hset h_34 (Sl.at t59_1 t67_1 1) (VI (w64 (t69_1 + 1))) → Vars h_36 [(b_10, [(Sl.v t47_1), (VI t47_2)]), (b_4, [(Sl.v x_11), (VI x_12), (Sl.v x_13), (Sl.v x_14), (Sl.v x_15)]), (b_3, [(Sl.v nilSl), (VI 0), (Sl.v nilSl), (Sl.v nilSl), (Sl.v nilSl)]), (b_2, [(Sl.v w1_1), (VI w1_2)]), (b_1, [(Sl.v g0_1)])] →
  InB x_14 t47_2 ∧
  ∃ t77_1 : Int, hcell h_36 (Sl.at x_14 t47_2 1) = some (VI t77_1) ∧
  InB x_14 t47_2 ∧
  Writable h_36 (Sl.at x_14 t47_2 1) ∧ Vars (hset h_36 (Sl.at x_14 t47_2 1) (VI (w64 (t77_1 + 1)))) [(b_10, [(Sl.v t47_1), (VI t47_2)]), (b_4, [(Sl.v x_11), (VI x_12), (Sl.v x_13), (Sl.v x_14), (Sl.v x_15)]), (b_3, [(Sl.v nilSl), (VI 0), (Sl.v nilSl), (Sl.v nilSl), (Sl.v nilSl)]), (b_2, [(Sl.v w1_1), (VI w1_2)]), (b_1, [(Sl.v g0_1)])] ∧
  ∀ h_37 : Heap, h_37 = hset h_36 (Sl.at x_14 t47_2 1) (VI (w64 (t77_1 + 1))) → Vars h_37 [(b_10, [(Sl.v t47_1), (VI t47_2)]), (b_4, [(Sl.v x_11), (VI x_12), (Sl.v x_13), (Sl.v x_14), (Sl.v x_15)]), (b_3, [(Sl.v nilSl), (VI 0), (Sl.v nilSl), (Sl.v nilSl), (Sl.v nilSl)]), (b_2, [(Sl.v w1_1), (VI w1_2)]), (b_1, [(Sl.v g0_1)])] →
  eop P (Instr.buildSlice 34 1 #[(0, (VI t47_2))]) h_37 fun rv_15 h_38 => ∃ t84_1 : Sl, rv_15 = (Sl.v t84_1) ∧ Vars h_38 [(b_10, [(Sl.v t47_1), (VI t47_2)]), (b_4, [(Sl.v x_11), (VI x_12), (Sl.v x_13), (Sl.v x_14), (Sl.v x_15)]), (b_3, [(Sl.v nilSl), (VI 0), (Sl.v nilSl), (Sl.v nilSl), (Sl.v nilSl)]), (b_2, [(Sl.v w1_1), (VI w1_2)]), (b_1, [(Sl.v g0_1)])] ∧
  eop P (appS 34 34 34 (Sl.v x_13) (Sl.v t84_1)) h_38 fun rv_16 h_39 => ∃ t85_1 : Sl, rv_16 = (Sl.v t85_1) ∧ Vars h_39 [(b_10, [(Sl.v t47_1), (VI t47_2)]), (b_4, [(Sl.v x_11), (VI x_12), (Sl.v x_13), (Sl.v x_14), (Sl.v x_15)]), (b_3, [(Sl.v nilSl), (VI 0), (Sl.v nilSl), (Sl.v nilSl), (Sl.v nilSl)]), (b_2, [(Sl.v w1_1), (VI w1_2)]), (b_1, [(Sl.v g0_1)])] ∧
  ∀ (h_41 : Heap), Fr (In [b_4, b_4]) h_39 h_41 → Vars h_41 [(b_10, [(Sl.v t47_1), (VI t47_2)]), (b_4, [(Sl.v t47_1), (VI t47_2), (Sl.v t85_1), (Sl.v x_14), (Sl.v x_15)]), (b_3, [(Sl.v nilSl), (VI 0), (Sl.v nilSl), (Sl.v nilSl), (Sl.v nilSl)]), (b_2, [(Sl.v w1_1), (VI w1_2)]), (b_1, [(Sl.v g0_1)])] →
  ∃ m : Nat, m < n_2 ∧ J_3 m (w64 (n2_2 - 1)) t47_1 t47_2 t85_1 x_14 x_15 h_41)) ∧
  ((decide (0 < n2_2)) = false →
  ∀ (h_42 : Heap), Fr (In [b_3]) h_31 h_42 → Vars h_42 [(b_4, [(Sl.v x_11), (VI x_12), (Sl.v x_13), (Sl.v x_14), (Sl.v x_15)]), (b_3, [(Sl.v x_11), (VI x_12), (Sl.v x_13), (Sl.v x_14), (Sl.v x_15)]), (b_2, [(Sl.v w1_1), (VI w1_2)]), (b_1, [(Sl.v g0_1)])] →
  K (Value.tuple #[(Value.agg #[(Sl.v x_11), (VI x_12), (Sl.v x_13), (Sl.v x_14), (Sl.v x_15)]), (VB true)]) h_42))
theorem v74 (g0_1 : Sl) (w1_1 : Sl) (w1_2 : Int) (n2_1 : Int) (h : Heap) (K : Value → Heap → Prop) (H : u74 Tryd.prog g0_1 w1_1 w1_2 n2_1 h K) : callM Tryd.prog 74 #[(Value.agg #[(Sl.v g0_1)]), (Value.agg #[(Sl.v w1_1), (VI w1_2)]), (VI n2_1)] h K := by
  refine c74 (Value.agg #[(Sl.v g0_1)]) (Value.agg #[(Sl.v w1_1), (VI w1_2)]) (VI n2_1) h K ?_
  unfold u74 at H
  unfold t74
  have hL : Vars h [] := .nil
  refine eop_box 41 (Value.agg #[(Sl.v g0_1)]) rfl hL (fun b_1 h_1 hb_1 hf_1 hL_1 => ?_)
  refine eop_box 43 (Value.agg #[(Sl.v w1_1), (VI w1_2)]) rfl hL_1 (fun b_2 h_2 hb_2 hf_2 hL_2 => ?_)
  refine eop_alloc 96 zer96 rfl hL_2 (fun b_3 h_3 hb_3 hf_3 hL_3 => ?_)
  have H := H b_1 b_2 b_3 h_3 (Nat.le_trans (Fr.size (Fr.r (In []) _)) hb_1) (Nat.le_trans (Fr.size (Fr.no' (Fr.r (In []) _) hf_1)) hb_2) (Nat.le_trans (Fr.size (Fr.no' (Fr.no' (Fr.r (In []) _) hf_1) hf_2)) hb_3) (Fr.no' (Fr.no' (Fr.no' (Fr.r (In []) _) hf_1) hf_2) hf_3) hL_3
  obtain ⟨J_1, H, HB_3⟩ := H
  refine ⟨fun (vs : List Value) (h' : Heap) => ∃ b_4 : Nat, ∃ x_1 : Sl, ∃ x_2 : Int, ∃ x_3 : Sl, ∃ x_4 : Sl, ∃ x_5 : Sl, vs = [(VP b_4 0)] ∧ J_1 b_4 x_1 x_2 x_3 x_4 x_5 h' ∧ Vars h' [(b_4, [(Sl.v x_1), (VI x_2), (Sl.v x_3), (Sl.v x_4), (Sl.v x_5)]), (b_3, [(Sl.v nilSl), (VI 0), (Sl.v nilSl), (Sl.v nilSl), (Sl.v nilSl)]), (b_2, [(Sl.v w1_1), (VI w1_2)]), (b_1, [(Sl.v g0_1)])], ?_, ?_⟩
  ·refine rop_locA agg43 hL_3 1 rfl 0 (vs := [(Sl.v w1_1), (VI w1_2)]) rfl rfl ?_
   refine pop_field 1 fld43_1 b_2 0 ?_
   refine rop_loc one3 hL_3 1 rfl 1 (v := (VI w1_2)) rfl ?_
   refine pop_field 0 fld41_0 b_1 0 ?_
   refine rop_loc one22 hL_3 2 rfl 0 (v := (Sl.v g0_1)) rfl ?_
   refine pop_len g0_1 _ _ sli22 ?_
   refine ⟨?_, ?_, ?_⟩
   ·have H := H.1
    refine H.mono fun rv_1 h_4 H => ?_
    obtain ⟨t17_1, rfl, hL_4, H⟩ := H
    refine ⟨?_, ?_⟩
    ·exact still_loc one22 hL_4 2 rfl 0 (v := (Sl.v g0_1)) rfl
    refine ⟨?_, ?_⟩
    ·exact still_locA agg43 hL_4 1 rfl 0 (vs := [(Sl.v w1_1), (VI w1_2)]) rfl rfl
    refine ⟨?_, ?_⟩
    ·have H := H.1
     refine H.mono fun rv_2 h_5 H => ?_
     obtain ⟨t21_1, rfl, hL_5, H⟩ := H
     refine ⟨?_, ?_⟩
     ·exact still_loc one22 hL_5 2 rfl 0 (v := (Sl.v g0_1)) rfl
     refine ⟨?_, ?_⟩
     ·exact still_locA agg43 hL_5 1 rfl 0 (vs := [(Sl.v w1_1), (VI w1_2)]) rfl rfl
     refine pop.mk' (v := (Value.agg #[(Sl.v w1_1), (VI w1_2), (Sl.v t17_1), (Sl.v t21_1), (Sl.v nilSl)])) (fun w => by kernel_rfl) ?_
     refine eop_alloc 96 zer96 rfl hL_5 (fun b_5 h_6 hb_4 hf_4 hL_6 => ?_)
     have H := H b_5 h_6 (Nat.le_trans (Fr.size (Fr.r (In []) _)) hb_4) (Fr.no' (Fr.r (In []) _) hf_4) hL_6
     refine ⟨?_, ?_⟩
     ·exact still_loc one22 hL_6 3 rfl 0 (v := (Sl.v g0_1)) rfl
     refine ⟨?_, ?_⟩
     ·exact still_locA agg43 hL_6 2 rfl 0 (vs := [(Sl.v w1_1), (VI w1_2)]) rfl rfl
     refine uop_loc siz96 hL_6 0 rfl 0 [(Sl.v w1_1), (VI w1_2), (Sl.v t17_1), (Sl.v t21_1), (Sl.v nilSl)] rfl rfl rfl (Nat.le_of_ble_eq_true rfl) (L' := [(b_5, [(Sl.v w1_1), (VI w1_2), (Sl.v t17_1), (Sl.v t21_1), (Sl.v nilSl)]), (b_3, [(Sl.v nilSl), (VI 0), (Sl.v nilSl), (Sl.v nilSl), (Sl.v nilSl)]), (b_2, [(Sl.v w1_1), (VI w1_2)]), (b_1, [(Sl.v g0_1)])]) rfl (fun h_7 hf_5 hL_7 => ?_)
     have H := H  h_7  (Fr.old (Fr.r (In []) _) hf_5) hL_7
     exact ⟨b_5, w1_1, w1_2, t17_1, t21_1, nilSl, rfl, H, hL_7⟩
    have H := H.2
    refine eop_alloc 96 zer96 rfl hL_4 (fun b_6 h_8 hb_5 hf_6 hL_8 => ?_)
    have H := H b_6 h_8 (Nat.le_trans (Fr.size (Fr.r (In []) _)) hb_5) (Fr.no' (Fr.r (In []) _) hf_6) hL_8
    refine ⟨?_, ?_⟩
    ·exact still_loc one22 hL_8 3 rfl 0 (v := (Sl.v g0_1)) rfl
    refine ⟨?_, ?_⟩
    ·exact still_locA agg43 hL_8 2 rfl 0 (vs := [(Sl.v w1_1), (VI w1_2)]) rfl rfl
    refine H.mono fun rv_3 h_9 H => ?_
    obtain ⟨t21_2, rfl, hL_9, H⟩ := H
    refine ⟨?_, ?_⟩
    ·exact still_loc one22 hL_9 3 rfl 0 (v := (Sl.v g0_1)) rfl
    refine ⟨?_, ?_⟩
    ·exact still_locA agg43 hL_9 2 rfl 0 (vs := [(Sl.v w1_1), (VI w1_2)]) rfl rfl
    refine pop.mk' (v := (Value.agg #[(Sl.v w1_1), (VI w1_2), (Sl.v t17_1), (Sl.v t21_2), (Sl.v nilSl)])) (fun w => by kernel_rfl) ?_
    refine uop_loc siz96 hL_9 0 rfl 0 [(Sl.v w1_1), (VI w1_2), (Sl.v t17_1), (Sl.v t21_2), (Sl.v nilSl)] rfl rfl rfl (Nat.le_of_ble_eq_true rfl) (L' := [(b_6, [(Sl.v w1_1), (VI w1_2), (Sl.v t17_1), (Sl.v t21_2), (Sl.v nilSl)]), (b_3, [(Sl.v nilSl), (VI 0), (Sl.v nilSl), (Sl.v nilSl), (Sl.v nilSl)]), (b_2, [(Sl.v w1_1), (VI w1_2)]), (b_1, [(Sl.v g0_1)])]) rfl (fun h_10 hf_7 hL_10 => ?_)
    have H := H  h_10  (Fr.old (Fr.r (In []) _) hf_7) hL_10
    exact ⟨b_6, w1_1, w1_2, t17_1, t21_2, nilSl, rfl, H, hL_10⟩
   ·have H := H.2.1
    refine H.mono fun rv_4 h_11 H => ?_
    obtain ⟨t21_3, rfl, hL_11, H⟩ := H
    refine ⟨?_, ?_⟩
    ·exact still_loc one22 hL_11 2 rfl 0 (v := (Sl.v g0_1)) rfl
    refine ⟨?_, ?_⟩
    ·exact still_loc one3 hL_11 1 rfl 1 (v := (VI w1_2)) rfl
    refine ⟨?_, ?_⟩
    ·exact still_locA agg43 hL_11 1 rfl 0 (vs := [(Sl.v w1_1), (VI w1_2)]) rfl rfl
    refine ⟨?_, ?_⟩
    ·have H := H.1
     refine H.mono fun rv_5 h_12 H => ?_
     obtain ⟨t17_2, rfl, hL_12, H⟩ := H
     refine ⟨?_, ?_⟩
     ·exact still_loc one22 hL_12 2 rfl 0 (v := (Sl.v g0_1)) rfl
     refine ⟨?_, ?_⟩
     ·exact still_locA agg43 hL_12 1 rfl 0 (vs := [(Sl.v w1_1), (VI w1_2)]) rfl rfl
     refine pop.mk' (v := (Value.agg #[(Sl.v w1_1), (VI w1_2), (Sl.v t17_2), (Sl.v t21_3), (Sl.v nilSl)])) (fun w => by kernel_rfl) ?_
     refine eop_alloc 96 zer96 rfl hL_12 (fun b_7 h_13 hb_6 hf_8 hL_13 => ?_)
     have H := H b_7 h_13 (Nat.le_trans (Fr.size (Fr.r (In []) _)) hb_6) (Fr.no' (Fr.r (In []) _) hf_8) hL_13
     refine ⟨?_, ?_⟩
     ·exact still_loc one22 hL_13 3 rfl 0 (v := (Sl.v g0_1)) rfl
     refine ⟨?_, ?_⟩
     ·exact still_locA agg43 hL_13 2 rfl 0 (vs := [(Sl.v w1_1), (VI w1_2)]) rfl rfl
     refine uop_loc siz96 hL_13 0 rfl 0 [(Sl.v w1_1), (VI w1_2), (Sl.v t17_2), (Sl.v t21_3), (Sl.v nilSl)] rfl rfl rfl (Nat.le_of_ble_eq_true rfl) (L' := [(b_7, [(Sl.v w1_1), (VI w1_2), (Sl.v t17_2), (Sl.v t21_3), (Sl.v nilSl)]), (b_3, [(Sl.v nilSl), (VI 0), (Sl.v nilSl), (Sl.v nilSl), (Sl.v nilSl)]), (b_2, [(Sl.v w1_1), (VI w1_2)]), (b_1, [(Sl.v g0_1)])]) rfl (fun h_14 hf_9 hL_14 => ?_)
     have H := H  h_14  (Fr.old (Fr.r (In []) _) hf_9) hL_14
     exact ⟨b_7, w1_1, w1_2, t17_2, t21_3, nilSl, rfl, H, hL_14⟩
    have H := H.2
    refine eop_alloc 96 zer96 rfl hL_11 (fun b_8 h_15 hb_7 hf_10 hL_15 => ?_)
    have H := H b_8 h_15 (Nat.le_trans (Fr.size (Fr.r (In []) _)) hb_7) (Fr.no' (Fr.r (In []) _) hf_10) hL_15
    refine ⟨?_, ?_⟩
    ·exact still_loc one22 hL_15 3 rfl 0 (v := (Sl.v g0_1)) rfl
    refine ⟨?_, ?_⟩
    ·exact still_loc one3 hL_15 2 rfl 1 (v := (VI w1_2)) rfl
    refine ⟨?_, ?_⟩
    ·exact still_locA agg43 hL_15 2 rfl 0 (vs := [(Sl.v w1_1), (VI w1_2)]) rfl rfl
    refine H.mono fun rv_6 h_16 H => ?_
    obtain ⟨t17_3, rfl, hL_16, H⟩ := H
    refine ⟨?_, ?_⟩
    ·exact still_loc one22 hL_16 3 rfl 0 (v := (Sl.v g0_1)) rfl
    refine ⟨?_, ?_⟩
    ·exact still_locA agg43 hL_16 2 rfl 0 (vs := [(Sl.v w1_1), (VI w1_2)]) rfl rfl
    refine pop.mk' (v := (Value.agg #[(Sl.v w1_1), (VI w1_2), (Sl.v t17_3), (Sl.v t21_3), (Sl.v nilSl)])) (fun w => by kernel_rfl) ?_
    refine uop_loc siz96 hL_16 0 rfl 0 [(Sl.v w1_1), (VI w1_2), (Sl.v t17_3), (Sl.v t21_3), (Sl.v nilSl)] rfl rfl rfl (Nat.le_of_ble_eq_true rfl) (L' := [(b_8, [(Sl.v w1_1), (VI w1_2), (Sl.v t17_3), (Sl.v t21_3), (Sl.v nilSl)]), (b_3, [(Sl.v nilSl), (VI 0), (Sl.v nilSl), (Sl.v nilSl), (Sl.v nilSl)]), (b_2, [(Sl.v w1_1), (VI w1_2)]), (b_1, [(Sl.v g0_1)])]) rfl (fun h_17 hf_11 hL_17 => ?_)
    have H := H  h_17  (Fr.old (Fr.r (In []) _) hf_11) hL_17
    exact ⟨b_8, w1_1, w1_2, t17_3, t21_3, nilSl, rfl, H, hL_17⟩
   have H := H.2.2
   refine eop_alloc 96 zer96 rfl hL_3 (fun b_9 h_18 hb_8 hf_12 hL_18 => ?_)
   have H := H b_9 h_18 (Nat.le_trans (Fr.size (Fr.r (In []) _)) hb_8) (Fr.no' (Fr.r (In []) _) hf_12) hL_18
   refine ⟨?_, ?_⟩
   ·exact still_loc one22 hL_18 3 rfl 0 (v := (Sl.v g0_1)) rfl
   refine ⟨?_, ?_⟩
   ·exact still_loc one3 hL_18 2 rfl 1 (v := (VI w1_2)) rfl
   refine ⟨?_, ?_⟩
   ·exact still_locA agg43 hL_18 2 rfl 0 (vs := [(Sl.v w1_1), (VI w1_2)]) rfl rfl
   refine ⟨?_, ?_⟩
   ·have H := H.1
    refine H.mono fun rv_7 h_19 H => ?_
    obtain ⟨t17_4, rfl, hL_19, H⟩ := H
    refine ⟨?_, ?_⟩
    ·exact still_loc one22 hL_19 3 rfl 0 (v := (Sl.v g0_1)) rfl
    refine ⟨?_, ?_⟩
    ·exact still_locA agg43 hL_19 2 rfl 0 (vs := [(Sl.v w1_1), (VI w1_2)]) rfl rfl
    refine H.mono fun rv_8 h_20 H => ?_
    obtain ⟨t21_4, rfl, hL_20, H⟩ := H
    refine ⟨?_, ?_⟩
    ·exact still_loc one22 hL_20 3 rfl 0 (v := (Sl.v g0_1)) rfl
    refine ⟨?_, ?_⟩
    ·exact still_locA agg43 hL_20 2 rfl 0 (vs := [(Sl.v w1_1), (VI w1_2)]) rfl rfl
    refine pop.mk' (v := (Value.agg #[(Sl.v w1_1), (VI w1_2), (Sl.v t17_4), (Sl.v t21_4), (Sl.v nilSl)])) (fun w => by kernel_rfl) ?_
    refine uop_loc siz96 hL_20 0 rfl 0 [(Sl.v w1_1), (VI w1_2), (Sl.v t17_4), (Sl.v t21_4), (Sl.v nilSl)] rfl rfl rfl (Nat.le_of_ble_eq_true rfl) (L' := [(b_9, [(Sl.v w1_1), (VI w1_2), (Sl.v t17_4), (Sl.v t21_4), (Sl.v nilSl)]), (b_3, [(Sl.v nilSl), (VI 0), (Sl.v nilSl), (Sl.v nilSl), (Sl.v nilSl)]), (b_2, [(Sl.v w1_1), (VI w1_2)]), (b_1, [(Sl.v g0_1)])]) rfl (fun h_21 hf_13 hL_21 => ?_)
    have H := H  h_21  (Fr.old (Fr.r (In []) _) hf_13) hL_21
    exact ⟨b_9, w1_1, w1_2, t17_4, t21_4, nilSl, rfl, H, hL_21⟩
   have H := H.2
   refine H.mono fun rv_9 h_22 H => ?_
   obtain ⟨t21_5, rfl, hL_22, H⟩ := H
   refine ⟨?_, ?_⟩
   ·exact still_loc one22 hL_22 3 rfl 0 (v := (Sl.v g0_1)) rfl
   refine ⟨?_, ?_⟩
   ·exact still_loc one3 hL_22 2 rfl 1 (v := (VI w1_2)) rfl
   refine ⟨?_, ?_⟩
   ·exact still_locA agg43 hL_22 2 rfl 0 (vs := [(Sl.v w1_1), (VI w1_2)]) rfl rfl
   refine H.mono fun rv_10 h_23 H => ?_
   obtain ⟨t17_5, rfl, hL_23, H⟩ := H
   refine ⟨?_, ?_⟩
   ·exact still_loc one22 hL_23 3 rfl 0 (v := (Sl.v g0_1)) rfl
   refine ⟨?_, ?_⟩
   ·exact still_locA agg43 hL_23 2 rfl 0 (vs := [(Sl.v w1_1), (VI w1_2)]) rfl rfl
   refine pop.mk' (v := (Value.agg #[(Sl.v w1_1), (VI w1_2), (Sl.v t17_5), (Sl.v t21_5), (Sl.v nilSl)])) (fun w => by kernel_rfl) ?_
   refine uop_loc siz96 hL_23 0 rfl 0 [(Sl.v w1_1), (VI w1_2), (Sl.v t17_5), (Sl.v t21_5), (Sl.v nilSl)] rfl rfl rfl (Nat.le_of_ble_eq_true rfl) (L' := [(b_9, [(Sl.v w1_1), (VI w1_2), (Sl.v t17_5), (Sl.v t21_5), (Sl.v nilSl)]), (b_3, [(Sl.v nilSl), (VI 0), (Sl.v nilSl), (Sl.v nilSl), (Sl.v nilSl)]), (b_2, [(Sl.v w1_1), (VI w1_2)]), (b_1, [(Sl.v g0_1)])]) rfl (fun h_24 hf_14 hL_24 => ?_)
   have H := H  h_24  (Fr.old (Fr.r (In []) _) hf_14) hL_24
   exact ⟨b_9, w1_1, w1_2, t17_5, t21_5, nilSl, rfl, H, hL_24⟩
  intro junk_1 tv_1 h_25
  rintro ⟨b_4, x_1, x_2, x_3, x_4, x_5, hv, hJ_1, hL_25⟩
  cases hv
  have H := HB_3 b_4 x_1 x_2 x_3 x_4 x_5 h_25 hJ_1 hL_25
  refine pop_field 0 fld41_0 b_1 0 ?_
  refine rop_loc one22 hL_25 3 rfl 0 (v := (Sl.v g0_1)) rfl ?_
  refine pop_len g0_1 _ _ sli22 ?_
  obtain ⟨J_2, ⟨n_4, h0_2⟩, HB_2⟩ := H
  refine loop_intro (J := fun (n : Nat) (vs : List Value) (h' : Heap) => ∃ t26_1 : Int, ∃ x_6 : Sl, ∃ x_7 : Int, ∃ x_8 : Sl, ∃ x_9 : Sl, ∃ x_10 : Sl, vs = [(VI t26_1)] ∧ J_2 n t26_1 x_6 x_7 x_8 x_9 x_10 h' ∧ Vars h' [(b_4, [(Sl.v x_6), (VI x_7), (Sl.v x_8), (Sl.v x_9), (Sl.v x_10)]), (b_3, [(Sl.v nilSl), (VI 0), (Sl.v nilSl), (Sl.v nilSl), (Sl.v nilSl)]), (b_2, [(Sl.v w1_1), (VI w1_2)]), (b_1, [(Sl.v g0_1)])]) n_4 ⟨0, x_1, x_2, x_3, x_4, x_5, rfl, h0_2, hL_25⟩ ?_
  intro I_2 mu_2 hI_2 junk_2 tv_3 h_26 hi_1
  obtain ⟨n_1, ⟨t26_1, x_6, x_7, x_8, x_9, x_10, hv, hJ_2, hL_26⟩, hn_1⟩ := hI_2 _ _ hi_1
  cases hv
  have H := HB_2 n_1 t26_1 x_6 x_7 x_8 x_9 x_10 h_26 hJ_2 hL_26
  refine pop_lss .i64 t26_1 (g0_1.n : Int) ?_
  refine condM_b (fun hb_9 => ?_) (fun hb_9 => ?_)
  ·have H := H.1 hb_9
   obtain ⟨hi_2, H⟩ := H
   refine pop_index sli22 siz34 .i64 g0_1 t26_1 hi_2 ?_
   obtain ⟨t29_1, hc_1, H⟩ := H
   refine rop_one one34 (Sl.v t29_1) hc_1 ?_
   refine pop_field 3 fld96_3 b_4 0 ?_
   refine rop_loc one22 hL_26 0 rfl 4 (v := (Sl.v x_10)) rfl ?_
   refine pop_len t29_1 _ _ sli34 ?_
   refine H.mono fun rv_11 h_27 H => ?_
   obtain ⟨t34_1, rfl, hL_27, H⟩ := H
   refine ⟨?_, ?_⟩
   ·exact still_loc one22 hL_27 0 rfl 4 (v := (Sl.v x_10)) rfl
   refine H.mono fun rv_12 h_28 H => ?_
   obtain ⟨t35_1, rfl, hL_28, H⟩ := H
   refine ⟨?_, ?_⟩
   ·exact still_loc one22 hL_28 0 rfl 4 (v := (Sl.v x_10)) rfl
   refine H.mono fun rv_13 h_29 H => ?_
   obtain ⟨t36_1, rfl, hL_29, H⟩ := H
   refine pop_field 3 fld96_3 b_4 0 ?_
   refine uop_loc siz22 hL_29 0 rfl 4 [(Sl.v t36_1)] rfl rfl rfl (Nat.le_of_ble_eq_true rfl) (L' := [(b_4, [(Sl.v x_6), (VI x_7), (Sl.v x_8), (Sl.v x_9), (Sl.v t36_1)]), (b_3, [(Sl.v nilSl), (VI 0), (Sl.v nilSl), (Sl.v nilSl), (Sl.v nilSl)]), (b_2, [(Sl.v w1_1), (VI w1_2)]), (b_1, [(Sl.v g0_1)])]) rfl (fun h_30 hf_15 hL_30 => ?_)
   refine pop_add .i64 t26_1 1 ?_
   have H := H  h_30  (Fr.old (Fr.r (In []) _) hf_15) hL_30
   obtain ⟨m_1, hm_1, H⟩ := H
   exact hn_1 _ _ ⟨m_1, hm_1, (w64 (t26_1 + 1)), x_6, x_7, x_8, x_9, t36_1, rfl, H, hL_30⟩
  have H := H.2 hb_9
  obtain ⟨J_3, ⟨n_3, h0_1⟩, HB_1⟩ := H
  refine loop_intro (J := fun (n : Nat) (vs : List Value) (h' : Heap) => ∃ n2_2 : Int, ∃ x_11 : Sl, ∃ x_12 : Int, ∃ x_13 : Sl, ∃ x_14 : Sl, ∃ x_15 : Sl, vs = [(VI n2_2)] ∧ J_3 n n2_2 x_11 x_12 x_13 x_14 x_15 h' ∧ Vars h' [(b_4, [(Sl.v x_11), (VI x_12), (Sl.v x_13), (Sl.v x_14), (Sl.v x_15)]), (b_3, [(Sl.v nilSl), (VI 0), (Sl.v nilSl), (Sl.v nilSl), (Sl.v nilSl)]), (b_2, [(Sl.v w1_1), (VI w1_2)]), (b_1, [(Sl.v g0_1)])]) n_3 ⟨n2_1, x_6, x_7, x_8, x_9, x_10, rfl, h0_1, hL_26⟩ ?_
  intro I_1 mu_1 hI_1 junk_3 tv_2 h_31 hi_3
  obtain ⟨n_2, ⟨n2_2, x_11, x_12, x_13, x_14, x_15, hv, hJ_3, hL_31⟩, hn_2⟩ := hI_1 _ _ hi_3
  cases hv
  have H := HB_1 n_2 n2_2 x_11 x_12 x_13 x_14 x_15 h_31 hJ_3 hL_31
  refine pop_gtr .i64 n2_2 0 ?_
  refine condM_b (fun hb_10 => ?_) (fun hb_10 => ?_)
  rotate_left
  ·have H := H.2 hb_10
   refine rop_locA agg96 hL_31 0 rfl 0 (vs := [(Sl.v x_11), (VI x_12), (Sl.v x_13), (Sl.v x_14), (Sl.v x_15)]) rfl rfl ?_
   refine uop_loc siz96 hL_31 1 rfl 0 [(Sl.v x_11), (VI x_12), (Sl.v x_13), (Sl.v x_14), (Sl.v x_15)] rfl rfl rfl (Nat.le_of_ble_eq_true rfl) (L' := [(b_4, [(Sl.v x_11), (VI x_12), (Sl.v x_13), (Sl.v x_14), (Sl.v x_15)]), (b_3, [(Sl.v x_11), (VI x_12), (Sl.v x_13), (Sl.v x_14), (Sl.v x_15)]), (b_2, [(Sl.v w1_1), (VI w1_2)]), (b_1, [(Sl.v g0_1)])]) rfl (fun h_42 hf_21 hL_42 => ?_)
   refine rop_locA agg96 hL_42 1 rfl 0 (vs := [(Sl.v x_11), (VI x_12), (Sl.v x_13), (Sl.v x_14), (Sl.v x_15)]) rfl rfl ?_
   have H := H  h_42  (Fr.old (Fr.r (In []) _) hf_21) hL_42
   exact H
  have H := H.1 hb_10
  refine rop_locA agg41 hL_31 3 rfl 0 (vs := [(Sl.v g0_1)]) rfl rfl ?_
  refine pop_field 0 fld96_0 b_4 0 ?_
  refine rop_locA agg43 hL_31 0 rfl 0 (vs := [(Sl.v x_11), (VI x_12)]) rfl rfl ?_
  refine H.mono fun rv_14 h_32 H => ?_
  obtain ⟨t47_1, t47_2, t47_3, rfl, hL_32, H⟩ := H
  refine pop_ext (v := (Value.agg #[(Sl.v t47_1), (VI t47_2)])) rfl ?_
  refine pop_ext (v := (VB t47_3)) rfl ?_
  refine eop_alloc 43 zer43 rfl hL_32 (fun b_10 h_33 hb_11 hf_16 hL_33 => ?_)
  refine uop_loc siz43 hL_33 0 rfl 0 [(Sl.v t47_1), (VI t47_2)] rfl rfl rfl (Nat.le_of_ble_eq_true rfl) (L' := [(b_10, [(Sl.v t47_1), (VI t47_2)]), (b_4, [(Sl.v x_11), (VI x_12), (Sl.v x_13), (Sl.v x_14), (Sl.v x_15)]), (b_3, [(Sl.v nilSl), (VI 0), (Sl.v nilSl), (Sl.v nilSl), (Sl.v nilSl)]), (b_2, [(Sl.v w1_1), (VI w1_2)]), (b_1, [(Sl.v g0_1)])]) rfl (fun h_34 hf_17 hL_34 => ?_)
  refine pop_not t47_3 ?_
  refine condM_b (fun hb_12 => ?_) (fun hb_12 => ?_)
  ·have H := H.1 hb_12
   refine pop.mk' (v := (Value.agg #[(Sl.v nilSl), (VI 0), (Sl.v nilSl), (Sl.v nilSl), (Sl.v nilSl)])) (fun w => by kernel_rfl) ?_
   refine uop_loc siz96 hL_34 2 rfl 0 [(Sl.v nilSl), (VI 0), (Sl.v nilSl), (Sl.v nilSl), (Sl.v nilSl)] rfl rfl rfl (Nat.le_of_ble_eq_true rfl) (L' := [(b_10, [(Sl.v t47_1), (VI t47_2)]), (b_4, [(Sl.v x_11), (VI x_12), (Sl.v x_13), (Sl.v x_14), (Sl.v x_15)]), (b_3, [(Sl.v nilSl), (VI 0), (Sl.v nilSl), (Sl.v nilSl), (Sl.v nilSl)]), (b_2, [(Sl.v w1_1), (VI w1_2)]), (b_1, [(Sl.v g0_1)])]) rfl (fun h_35 hf_18 hL_35 => ?_)
   refine rop_locA agg96 hL_35 2 rfl 0 (vs := [(Sl.v nilSl), (VI 0), (Sl.v nilSl), (Sl.v nilSl), (Sl.v nilSl)]) rfl rfl ?_
   have H := H b_10 h_35 (Nat.le_trans (Fr.size (Fr.r (In []) _)) hb_11) (Fr.old (Fr.new (Fr.no' (Fr.r (In []) _) hf_16) (Nat.le_trans (Fr.size (Fr.r (In []) _)) hb_11) hf_17) hf_18) hL_35
   exact H
  have H := H.2 hb_12
  refine pop_field 3 fld96_3 b_4 0 ?_
  refine rop_loc one22 hL_34 1 rfl 4 (v := (Sl.v x_15)) rfl ?_
  refine pop_field 0 fld96_0 b_4 0 ?_
  refine pop_field 1 fld43_1 b_4 0 ?_
  refine rop_loc one3 hL_34 1 rfl 1 (v := (VI x_12)) rfl ?_
  obtain ⟨hi_4, H⟩ := H
  refine pop_index sli22 siz34 .i64 x_15 x_12 hi_4 ?_
  have H := H b_10 h_34 (Nat.le_trans (Fr.size (Fr.r (In []) _)) hb_11) (Fr.new (Fr.no' (Fr.r (In []) _) hf_16) (Nat.le_trans (Fr.size (Fr.r (In []) _)) hb_11) hf_17) hL_34
  obtain ⟨t59_1, hc_5, H⟩ := H
  refine rop_one one34 (Sl.v t59_1) hc_5 ?_
  refine pop_field 0 fld43_0 b_10 0 ?_
  refine rop_loc one34 hL_34 0 rfl 0 (v := (Sl.v t47_1)) rfl ?_
  refine pop_field 0 fld96_0 b_4 0 ?_
  refine pop_field 1 fld43_1 b_4 0 ?_
  refine rop_loc one3 hL_34 1 rfl 1 (v := (VI x_12)) rfl ?_
  obtain ⟨hi_5, H⟩ := H
  refine pop_index sli34 siz3 .i64 t47_1 x_12 hi_5 ?_
  obtain ⟨t67_1, hc_4, H⟩ := H
  refine rop_one one3 (VI t67_1) hc_4 ?_
  obtain ⟨hi_6, H⟩ := H
  refine pop_index sli34 siz3 .i64 t59_1 t67_1 hi_6 ?_
  obtain ⟨t69_1, hc_3, H⟩ := H
  refine rop_one one3 (VI t69_1) hc_3 ?_
  refine pop_add .i64 t69_1 1 ?_
  obtain ⟨hi_7, H⟩ := H
  refine pop_index sli34 siz3 .i64 t59_1 t67_1 hi_7 ?_
  obtain ⟨hw_1, hL_36, H⟩ := H
  refine uop_cell (v := (VI (w64 (t69_1 + 1)))) siz3 hw_1 rfl (fun h_36 he_1 => ?_)
  rw [← he_1] at hL_36
  have H := H h_36 he_1 hL_36
  refine pop_field 2 fld96_2 b_4 0 ?_
  refine rop_loc one34 hL_36 1 rfl 3 (v := (Sl.v x_14)) rfl ?_
  refine pop_field 1 fld43_1 b_10 0 ?_
  refine rop_loc one3 hL_36 0 rfl 1 (v := (VI t47_2)) rfl ?_
  obtain ⟨hi_8, H⟩ := H
  refine pop_index sli34 siz3 .i64 x_14 t47_2 hi_8 ?_
  obtain ⟨t77_1, hc_2, H⟩ := H
  refine rop_one one3 (VI t77_1) hc_2 ?_
  refine pop_add .i64 t77_1 1 ?_
  obtain ⟨hi_9, H⟩ := H
  refine pop_index sli34 siz3 .i64 x_14 t47_2 hi_9 ?_
  obtain ⟨hw_2, hL_37, H⟩ := H
  refine uop_cell (v := (VI (w64 (t77_1 + 1)))) siz3 hw_2 rfl (fun h_37 he_2 => ?_)
  rw [← he_2] at hL_37
  have H := H h_37 he_2 hL_37
  refine pop_field 1 fld96_1 b_4 0 ?_
  refine rop_loc one34 hL_37 1 rfl 2 (v := (Sl.v x_13)) rfl ?_
  refine pop_field 1 fld43_1 b_10 0 ?_
  refine rop_loc one3 hL_37 0 rfl 1 (v := (VI t47_2)) rfl ?_
  refine H.mono fun rv_15 h_38 H => ?_
  obtain ⟨t84_1, rfl, hL_38, H⟩ := H
  refine H.mono fun rv_16 h_39 H => ?_
  obtain ⟨t85_1, rfl, hL_39, H⟩ := H
  refine pop_field 1 fld96_1 b_4 0 ?_
  refine uop_loc siz34 hL_39 1 rfl 2 [(Sl.v t85_1)] rfl rfl rfl (Nat.le_of_ble_eq_true rfl) (L' := [(b_10, [(Sl.v t47_1), (VI t47_2)]), (b_4, [(Sl.v x_11), (VI x_12), (Sl.v t85_1), (Sl.v x_14), (Sl.v x_15)]), (b_3, [(Sl.v nilSl), (VI 0), (Sl.v nilSl), (Sl.v nilSl), (Sl.v nilSl)]), (b_2, [(Sl.v w1_1), (VI w1_2)]), (b_1, [(Sl.v g0_1)])]) rfl (fun h_40 hf_19 hL_40 => ?_)
  refine rop_locA agg43 hL_40 0 rfl 0 (vs := [(Sl.v t47_1), (VI t47_2)]) rfl rfl ?_
  refine pop_field 0 fld96_0 b_4 0 ?_
  refine uop_loc siz43 hL_40 1 rfl 0 [(Sl.v t47_1), (VI t47_2)] rfl rfl rfl (Nat.le_of_ble_eq_true rfl) (L' := [(b_10, [(Sl.v t47_1), (VI t47_2)]), (b_4, [(Sl.v t47_1), (VI t47_2), (Sl.v t85_1), (Sl.v x_14), (Sl.v x_15)]), (b_3, [(Sl.v nilSl), (VI 0), (Sl.v nilSl), (Sl.v nilSl), (Sl.v nilSl)]), (b_2, [(Sl.v w1_1), (VI w1_2)]), (b_1, [(Sl.v g0_1)])]) rfl (fun h_41 hf_20 hL_41 => ?_)
  refine pop_sub .i64 n2_2 1 ?_
  have H := H  h_41  (Fr.old (Fr.old (Fr.r (In []) _) hf_19) hf_20) hL_41
  obtain ⟨m_2, hm_2, H⟩ := H
  exact hn_2 _ _ ⟨m_2, hm_2, (w64 (n2_2 - 1)), t47_1, t47_2, t85_1, x_14, x_15, rfl, H, (Vars.tail hL_41)⟩
def u75 (P : Program) (t0_1 : Int) (b_1 : Nat) (t1_1 : Sl) (b_2 : Nat) (t2_1 : Sl) (t2_2 : Int) (h : Heap) (K : Value → Heap → Prop) : Prop :=
  InB t1_1 t2_2 ∧
  ∃ t8_1 : Int, hcell h (Sl.at t1_1 t2_2 1) = some (VI t8_1) ∧
  InB t1_1 t2_2 ∧
  Writable h (Sl.at t1_1 t2_2 1) ∧ Vars (hset h (Sl.at t1_1 t2_2 1) (VI (w64 (t8_1 + 1)))) [(b_1, [(Sl.v t1_1)]), (b_2, [(Sl.v t2_1), (VI t2_2)])] ∧
  ∀ h_1 : Heap, h_1 = hset h (Sl.at t1_1 t2_2 1) (VI (w64 (t8_1 + 1))) → Vars h_1 [(b_1, [(Sl.v t1_1)]), (b_2, [(Sl.v t2_1), (VI t2_2)])] →
  K (Value.tuple #[]) h_1
theorem v75 (t0_1 : Int) (b_1 : Nat) (t1_1 : Sl) (b_2 : Nat) (t2_1 : Sl) (t2_2 : Int) (h : Heap) (K : Value → Heap → Prop) (hL : Vars h [(b_1, [(Sl.v t1_1)]), (b_2, [(Sl.v t2_1), (VI t2_2)])]) (H : u75 Tryd.prog t0_1 b_1 t1_1 b_2 t2_1 t2_2 h K) : callM Tryd.prog 75 #[(VI t0_1), (VP b_1 0), (VP b_2 0)] h K := by
  refine c75 (VI t0_1) (VP b_1 0) (VP b_2 0) h K ?_
  unfold u75 at H
  unfold t75
  refine rop_loc one34 hL 0 rfl 0 (v := (Sl.v t1_1)) rfl ?_
  refine pop_field 1 fld43_1 b_2 0 ?_
  refine rop_loc one3 hL 1 rfl 1 (v := (VI t2_2)) rfl ?_
  obtain ⟨hi_1, H⟩ := H
  refine pop_index sli34 siz3 .i64 t1_1 t2_2 hi_1 ?_
  obtain ⟨t8_1, hc_1, H⟩ := H
  refine rop_one one3 (VI t8_1) hc_1 ?_
  refine pop_add .i64 t8_1 1 ?_
  obtain ⟨hi_2, H⟩ := H
  refine pop_index sli34 siz3 .i64 t1_1 t2_2 hi_2 ?_
  obtain ⟨hw_1, hL_1, H⟩ := H
  refine uop_cell (v := (VI (w64 (t8_1 + 1)))) siz3 hw_1 rfl (fun h_1 he_1 => ?_)
  rw [← he_1] at hL_1
  have H := H h_1 he_1 hL_1
  exact H
def u76 (P : Program) (t0_1 : Int) (h : Heap) (K : Value → Heap → Prop) : Prop :=
  K (Value.tuple #[]) h
theorem v76 (t0_1 : Int) (h : Heap) (K : Value → Heap → Prop) (H : u76 Tryd.prog t0_1 h K) : callM Tryd.prog 76 #[(VI t0_1)] h K := by
  refine c76 (VI t0_1) h K ?_
  unfold u76 at H
  unfold t76
  have hL : Vars h [] := .nil
  exact H
def u77 (P : Program) (l0_1 : Sl) (h : Heap) (K : Value → Heap → Prop) : Prop :=
  eop P (Instr.buildSlice 34 0 #[]) h fun rv_1 h_1 => ∃ t3_1 : Sl, rv_1 = (Sl.v t3_1) ∧ Vars h_1 [] ∧
  eop P (appS 34 34 34 (Sl.v t3_1) (Sl.v l0_1)) h_1 fun rv_2 h_2 => ∃ t5_1 : Sl, rv_2 = (Sl.v t5_1) ∧ Vars h_2 [] ∧
  K (Sl.v t5_1) h_2
theorem v77 (l0_1 : Sl) (h : Heap) (K : Value → Heap → Prop) (H : u77 Tryd.prog l0_1 h K) : callM Tryd.prog 77 #[(Sl.v l0_1)] h K := by
  refine c77 (Sl.v l0_1) h K ?_
  unfold u77 at H
  unfold t77
  have hL : Vars h [] := .nil
  refine H.mono fun rv_1 h_1 H => ?_
  obtain ⟨t3_1, rfl, hL_1, H⟩ := H
  refine H.mono fun rv_2 h_2 H => ?_
  obtain ⟨t5_1, rfl, hL_2, H⟩ := H
  exact H
def u78 (P : Program) (t0_1 : Int) (b_1 : Nat) (t1_1 : Sl) (b_2 : Nat) (t2_1 : Sl) (t2_2 : Int) (h : Heap) (K : Value → Heap → Prop) : Prop :=
  eop P (Instr.buildSlice 34 1 #[(0, (VI t2_2))]) h fun rv_1 h_1 => ∃ t7_1 : Sl, rv_1 = (Sl.v t7_1) ∧ Vars h_1 [(b_1, [(Sl.v t1_1)]), (b_2, [(Sl.v t2_1), (VI t2_2)])] ∧
  eop P (appS 34 34 34 (Sl.v t1_1) (Sl.v t7_1)) h_1 fun rv_2 h_2 => ∃ t8_1 : Sl, rv_2 = (Sl.v t8_1) ∧ Vars h_2 [(b_1, [(Sl.v t1_1)]), (b_2, [(Sl.v t2_1), (VI t2_2)])] ∧
  ∀ (h_3 : Heap), Fr (In [b_1]) h_2 h_3 → Vars h_3 [(b_1, [(Sl.v t8_1)]), (b_2, [(Sl.v t2_1), (VI t2_2)])] →
  K (Value.tuple #[]) h_3
theorem v78 (t0_1 : Int) (b_1 : Nat) (t1_1 : Sl) (b_2 : Nat) (t2_1 : Sl) (t2_2 : Int) (h : Heap) (K : Value → Heap → Prop) (hL : Vars h [(b_1, [(Sl.v t1_1)]), (b_2, [(Sl.v t2_1), (VI t2_2)])]) (H : u78 Tryd.prog t0_1 b_1 t1_1 b_2 t2_1 t2_2 h K) : callM Tryd.prog 78 #[(VI t0_1), (VP b_1 0), (VP b_2 0)] h K := by
  refine c78 (VI t0_1) (VP b_1 0) (VP b_2 0) h K ?_
  unfold u78 at H
  unfold t78
  refine rop_loc one34 hL 0 rfl 0 (v := (Sl.v t1_1)) rfl ?_
  refine pop_field 1 fld43_1 b_2 0 ?_
  refine rop_loc one3 hL 1 rfl 1 (v := (VI t2_2)) rfl ?_
  refine H.mono fun rv_1 h_1 H => ?_
  obtain ⟨t7_1, rfl, hL_1, H⟩ := H
  refine H.mono fun rv_2 h_2 H => ?_
  obtain ⟨t8_1, rfl, hL_2, H⟩ := H
  refine uop_loc siz34 hL_2 0 rfl 0 [(Sl.v t8_1)] rfl rfl rfl (Nat.le_of_ble_eq_true rfl) (L' := [(b_1, [(Sl.v t8_1)]), (b_2, [(Sl.v t2_1), (VI t2_2)])]) rfl (fun h_3 hf_1 hL_3 => ?_)
  have H := H  h_3  (Fr.old (Fr.r (In []) _) hf_1) hL_3
  exact H
def u79 (P : Program) (code0_1 : Sl) (h : Heap) (K : Value → Heap → Prop) : Prop :=
  ∀ (b_1 : Nat) (b_2 : Nat) (b_3 : Nat) (h_3 : Heap), h.size ≤ b_1 → h.size ≤ b_2 → h.size ≤ b_3 → Fr (In []) h h_3 → Vars h_3 [(b_3, [(Sl.v code0_1), (VI 0), (Value.int .u64 0)]), (b_2, [(Sl.v nilSl), (VI 0)]), (b_1, [(Sl.v nilSl)])] →
  callM P 103 #[(VP b_3 0)] h_3 fun rv_1 h_4 => ∃ x_1 : Sl, ∃ x_2 : Int, ∃ x_3 : Int, ∃ t9_1 : Sl, ∃ t9_2 : Sl, ∃ t9_3 : Int, rv_1 = (Value.tuple #[(Value.agg #[(Sl.v t9_1)]), (Value.agg #[(Sl.v t9_2), (VI t9_3)])]) ∧ Vars h_4 [(b_3, [(Sl.v x_1), (VI x_2), (Value.int .u64 x_3)]), (b_2, [(Sl.v nilSl), (VI 0)]), (b_1, [(Sl.v nilSl)])] ∧
  ∀ (h_6 : Heap), Fr (In [b_2, b_1]) h_4 h_6 → Vars h_6 [(b_3, [(Sl.v x_1), (VI x_2), (Value.int .u64 x_3)]), (b_2, [(Sl.v t9_2), (VI t9_3)]), (b_1, [(Sl.v t9_1)])] →
  K (Value.tuple #[(Value.agg #[(Sl.v t9_1)]), (Value.agg #[(Sl.v t9_2), (VI t9_3)])]) h_6
theorem v79 (code0_1 : Sl) (h : Heap) (K : Value → Heap → Prop) (H : u79 Tryd.prog code0_1 h K) : callM Tryd.prog 79 #[(Sl.v code0_1)] h K := by
  refine c79 (Sl.v code0_1) h K ?_
  unfold u79 at H
  unfold t79
  have hL : Vars h [] := .nil
  refine eop_alloc 41 zer41 rfl hL (fun b_1 h_1 hb_1 hf_1 hL_1 => ?_)
  refine eop_alloc 43 zer43 rfl hL_1 (fun b_2 h_2 hb_2 hf_2 hL_2 => ?_)
  refine pop.mk' (v := (Value.agg #[(Sl.v code0_1), (VI 0), (Value.int .u64 0)])) (fun w => by kernel_rfl) ?_
  refine eop_box 123 (Value.agg #[(Sl.v code0_1), (VI 0), (Value.int .u64 0)]) rfl hL_2 (fun b_3 h_3 hb_3 hf_3 hL_3 => ?_)
  have H := H b_1 b_2 b_3 h_3 (Nat.le_trans (Fr.size (Fr.r (In []) _)) hb_1) (Nat.le_trans (Fr.size (Fr.no' (Fr.r (In []) _) hf_1)) hb_2) (Nat.le_trans (Fr.size (Fr.no' (Fr.no' (Fr.r (In []) _) hf_1) hf_2)) hb_3) (Fr.no' (Fr.no' (Fr.no' (Fr.r (In []) _) hf_1) hf_2) hf_3) hL_3
  refine H.mono fun rv_1 h_4 H => ?_
  obtain ⟨x_1, x_2, x_3, t9_1, t9_2, t9_3, rfl, hL_4, H⟩ := H
  refine pop_ext (v := (Value.agg #[(Sl.v t9_1)])) rfl ?_
  refine pop_ext (v := (Value.agg #[(Sl.v t9_2), (VI t9_3)])) rfl ?_
  refine uop_loc siz41 hL_4 2 rfl 0 [(Sl.v t9_1)] rfl rfl rfl (Nat.le_of_ble_eq_true rfl) (L' := [(b_3, [(Sl.v x_1), (VI x_2), (Value.int .u64 x_3)]), (b_2, [(Sl.v nilSl), (VI 0)]), (b_1, [(Sl.v t9_1)])]) rfl (fun h_5 hf_4 hL_5 => ?_)
  refine uop_loc siz43 hL_5 1 rfl 0 [(Sl.v t9_2), (VI t9_3)] rfl rfl rfl (Nat.le_of_ble_eq_true rfl) (L' := [(b_3, [(Sl.v x_1), (VI x_2), (Value.int .u64 x_3)]), (b_2, [(Sl.v t9_2), (VI t9_3)]), (b_1, [(Sl.v t9_1)])]) rfl (fun h_6 hf_5 hL_6 => ?_)
  refine rop_locA agg41 hL_6 2 rfl 0 (vs := [(Sl.v t9_1)]) rfl rfl ?_
  refine rop_locA agg43 hL_6 1 rfl 0 (vs := [(Sl.v t9_2), (VI t9_3)]) rfl rfl ?_
  have H := H  h_6  (Fr.old (Fr.old (Fr.r (In []) _) hf_4) hf_5) hL_6
  exact H
def u80 (P : Program) (g0_1 : Sl) (w1_1 : Sl) (w1_2 : Int) (h : Heap) (K : Value → Heap → Prop) : Prop :=
  InB g0_1 w1_2 ∧
  ∀ (b_1 : Nat) (b_2 : Nat) (b_3 : Nat) (h_3 : Heap), h.size ≤ b_1 → h.size ≤ b_2 → h.size ≤ b_3 → Fr (In []) h h_3 → Vars h_3 [(b_3, [(Sl.v nilSl), (VI 0)]), (b_2, [(Sl.v w1_1), (VI w1_2)]), (b_1, [(Sl.v g0_1)])] →
  ∃ t14_1 : Sl, hcell h_3 (Sl.at g0_1 w1_2 1) = some (Sl.v t14_1) ∧
  ((decide ((t14_1.n : Int) = 0)) = true →
  ∀ (h_4 : Heap), Fr (In [b_3]) h_3 h_4 → Vars h_4 [(b_3, [(Sl.v w1_1), (VI w1_2)]), (b_2, [(Sl.v w1_1), (VI w1_2)]), (b_1, [(Sl.v g0_1)])] →
  K (Value.tuple #[(Value.agg #[(Sl.v w1_1), (VI w1_2)]), (VB false)]) h_4) ∧
  ((decide ((t14_1.n : Int) = 0)) = false →
  callM P 77 #[(Sl.v w1_1)] h_3 fun rv_1 h_5 => ∃ t21_1 : Sl, rv_1 = (Sl.v t21_1) ∧ Vars h_5 [(b_3, [(Sl.v nilSl), (VI 0)]), (b_2, [(Sl.v w1_1), (VI w1_2)]), (b_1, [(Sl.v g0_1)])] ∧
  InB w1_1 w1_2 ∧
  ∀ (b_4 : Nat) (h_7 : Heap), h_5.size ≤ b_4 → Fr (In []) h_5 h_7 → Vars h_7 [(b_4, [(Sl.v t21_1), (VI 0)]), (b_3, [(Sl.v nilSl), (VI 0)]), (b_2, [(Sl.v w1_1), (VI w1_2)]), (b_1, [(Sl.v g0_1)])] →
  ∃ t28_1 : Int, hcell h_7 (Sl.at w1_1 w1_2 1) = some (VI t28_1) ∧
  (t14_1.n : Int) ≠ 0 ∧
  InB t21_1 w1_2 ∧
  Writable h_7 (Sl.at t21_1 w1_2 1) ∧ Vars (hset h_7 (Sl.at t21_1 w1_2 1) (VI (Int.tmod (w64 (t28_1 + 1)) (t14_1.n : Int)))) [(b_4, [(Sl.v t21_1), (VI 0)]), (b_3, [(Sl.v nilSl), (VI 0)]), (b_2, [(Sl.v w1_1), (VI w1_2)]), (b_1, [(Sl.v g0_1)])] ∧
  ∀ h_8 : Heap, h_8 = hset h_7 (Sl.at t21_1 w1_2 1) (VI (Int.tmod (w64 (t28_1 + 1)) (t14_1.n : Int))) → Vars h_8 [(b_4, [(Sl.v t21_1), (VI 0)]), (b_3, [(Sl.v nilSl), (VI 0)]), (b_2, [(Sl.v w1_1), (VI w1_2)]), (b_1, [(Sl.v g0_1)])] →
  InB t14_1 (Int.tmod (w64 (t28_1 + 1)) (t14_1.n : Int)) ∧
  ∃ t42_1 : Int, hcell h_8 (Sl.at t14_1 (Int.tmod (w64 (t28_1 + 1)) (t14_1.n : Int)) 1) = some (VI t42_1) ∧
  ∀ (h_10 : Heap), Fr (In [b_3, b_4]) h_8 h_10 → Vars h_10 [(b_4, [(Sl.v t21_1), (VI t42_1)]), (b_3, [(Sl.v t21_1), (VI t42_1)]), (b_2, [(Sl.v w1_1), (VI w1_2)]), (b_1, [(Sl.v g0_1)])] →
  K (Value.tuple #[(Value.agg #[(Sl.v t21_1), (VI t42_1)]), (VB true)]) h_10)
theorem v80 (g0_1 : Sl) (w1_1 : Sl) (w1_2 : Int) (h : Heap) (K : Value → Heap → Prop) (H : u80 Tryd.prog g0_1 w1_1 w1_2 h K) : callM Tryd.prog 80 #[(Value.agg #[(Sl.v g0_1)]), (Value.agg #[(Sl.v w1_1), (VI w1_2)])] h K := by
  refine c80 (Value.agg #[(Sl.v g0_1)]) (Value.agg #[(Sl.v w1_1), (VI w1_2)]) h K ?_
  unfold u80 at H
  unfold t80
  have hL : Vars h [] := .nil
  refine eop_box 41 (Value.agg #[(Sl.v g0_1)]) rfl hL (fun b_1 h_1 hb_1 hf_1 hL_1 => ?_)
  refine eop_box 43 (Value.agg #[(Sl.v w1_1), (VI w1_2)]) rfl hL_1 (fun b_2 h_2 hb_2 hf_2 hL_2 => ?_)
  refine eop_alloc 43 zer43 rfl hL_2 (fun b_3 h_3 hb_3 hf_3 hL_3 => ?_)
  refine pop_field 0 fld41_0 b_1 0 ?_
  refine rop_loc one22 hL_3 2 rfl 0 (v := (Sl.v g0_1)) rfl ?_
  refine pop_field 1 fld43_1 b_2 0 ?_
  refine rop_loc one3 hL_3 1 rfl 1 (v := (VI w1_2)) rfl ?_
  obtain ⟨hi_1, H⟩ := H
  refine pop_index sli22 siz34 .i64 g0_1 w1_2 hi_1 ?_
  have H := H b_1 b_2 b_3 h_3 (Nat.le_trans (Fr.size (Fr.r (In []) _)) hb_1) (Nat.le_trans (Fr.size (Fr.no' (Fr.r (In []) _) hf_1)) hb_2) (Nat.le_trans (Fr.size (Fr.no' (Fr.no' (Fr.r (In []) _) hf_1) hf_2)) hb_3) (Fr.no' (Fr.no' (Fr.no' (Fr.r (In []) _) hf_1) hf_2) hf_3) hL_3
  obtain ⟨t14_1, hc_3, H⟩ := H
  refine rop_one one34 (Sl.v t14_1) hc_3 ?_
  refine pop_len t14_1 _ _ sli34 ?_
  refine pop_ieq .i64 _ _ (t14_1.n : Int) 0 ?_
  refine condM_b (fun hb_4 => ?_) (fun hb_4 => ?_)
  ·have H := H.1 hb_4
   refine rop_locA agg43 hL_3 1 rfl 0 (vs := [(Sl.v w1_1), (VI w1_2)]) rfl rfl ?_
   refine uop_loc siz43 hL_3 0 rfl 0 [(Sl.v w1_1), (VI w1_2)] rfl rfl rfl (Nat.le_of_ble_eq_true rfl) (L' := [(b_3, [(Sl.v w1_1), (VI w1_2)]), (b_2, [(Sl.v w1_1), (VI w1_2)]), (b_1, [(Sl.v g0_1)])]) rfl (fun h_4 hf_4 hL_4 => ?_)
   refine rop_locA agg43 hL_4 0 rfl 0 (vs := [(Sl.v w1_1), (VI w1_2)]) rfl rfl ?_
   have H := H  h_4  (Fr.old (Fr.r (In []) _) hf_4) hL_4
   exact H
  have H := H.2 hb_4
  refine pop_field 0 fld43_0 b_2 0 ?_
  refine rop_loc one34 hL_3 1 rfl 0 (v := (Sl.v w1_1)) rfl ?_
  refine H.mono fun rv_1 h_5 H => ?_
  obtain ⟨t21_1, rfl, hL_5, H⟩ := H
  refine pop.mk' (v := (Value.agg #[(Sl.v t21_1), (VI 0)])) (fun w => by kernel_rfl) ?_
  refine eop_alloc 43 zer43 rfl hL_5 (fun b_4 h_6 hb_5 hf_5 hL_6 => ?_)
  refine uop_loc siz43 hL_6 0 rfl 0 [(Sl.v t21_1), (VI 0)] rfl rfl rfl (Nat.le_of_ble_eq_true rfl) (L' := [(b_4, [(Sl.v t21_1), (VI 0)]), (b_3, [(Sl.v nilSl), (VI 0)]), (b_2, [(Sl.v w1_1), (VI w1_2)]), (b_1, [(Sl.v g0_1)])]) rfl (fun h_7 hf_6 hL_7 => ?_)
  refine pop_field 0 fld43_0 b_2 0 ?_
  refine rop_loc one34 hL_7 2 rfl 0 (v := (Sl.v w1_1)) rfl ?_
  refine pop_field 1 fld43_1 b_2 0 ?_
  refine rop_loc one3 hL_7 2 rfl 1 (v := (VI w1_2)) rfl ?_
  obtain ⟨hi_2, H⟩ := H
  refine pop_index sli34 siz3 .i64 w1_1 w1_2 hi_2 ?_
  have H := H b_4 h_7 (Nat.le_trans (Fr.size (Fr.r (In []) _)) hb_5) (Fr.new (Fr.no' (Fr.r (In []) _) hf_5) (Nat.le_trans (Fr.size (Fr.r (In []) _)) hb_5) hf_6) hL_7
  obtain ⟨t28_1, hc_2, H⟩ := H
  refine rop_one one3 (VI t28_1) hc_2 ?_
  refine pop_add .i64 t28_1 1 ?_
  refine pop_len t14_1 _ _ sli34 ?_
  obtain ⟨hz_1, H⟩ := H
  refine pop_rem .i64 (w64 (t28_1 + 1)) (t14_1.n : Int) hz_1 ?_
  refine pop_field 0 fld43_0 b_4 0 ?_
  refine rop_loc one34 hL_7 0 rfl 0 (v := (Sl.v t21_1)) rfl ?_
  refine pop_field 1 fld43_1 b_2 0 ?_
  refine rop_loc one3 hL_7 2 rfl 1 (v := (VI w1_2)) rfl ?_
  obtain ⟨hi_3, H⟩ := H
  refine pop_index sli34 siz3 .i64 t21_1 w1_2 hi_3 ?_
  obtain ⟨hw_1, hL_8, H⟩ := H
  refine uop_cell (v := (VI (Int.tmod (w64 (t28_1 + 1)) (t14_1.n : Int)))) siz3 hw_1 rfl (fun h_8 he_1 => ?_)
  rw [← he_1] at hL_8
  have H := H h_8 he_1 hL_8
  obtain ⟨hi_4, H⟩ := H
  refine pop_index sli34 siz3 .i64 t14_1 (Int.tmod (w64 (t28_1 + 1)) (t14_1.n : Int)) hi_4 ?_
  obtain ⟨t42_1, hc_1, H⟩ := H
  refine rop_one one3 (VI t42_1) hc_1 ?_
  refine pop_field 1 fld43_1 b_4 0 ?_
  refine uop_loc siz3 hL_8 0 rfl 1 [(VI t42_1)] rfl rfl rfl (Nat.le_of_ble_eq_true rfl) (L' := [(b_4, [(Sl.v t21_1), (VI t42_1)]), (b_3, [(Sl.v nilSl), (VI 0)]), (b_2, [(Sl.v w1_1), (VI w1_2)]), (b_1, [(Sl.v g0_1)])]) rfl (fun h_9 hf_7 hL_9 => ?_)
  refine rop_locA agg43 hL_9 0 rfl 0 (vs := [(Sl.v t21_1), (VI t42_1)]) rfl rfl ?_
  refine uop_loc siz43 hL_9 1 rfl 0 [(Sl.v t21_1), (VI t42_1)] rfl rfl rfl (Nat.le_of_ble_eq_true rfl) (L' := [(b_4, [(Sl.v t21_1), (VI t42_1)]), (b_3, [(Sl.v t21_1), (VI t42_1)]), (b_2, [(Sl.v w1_1), (VI w1_2)]), (b_1, [(Sl.v g0_1)])]) rfl (fun h_10 hf_8 hL_10 => ?_)
  refine rop_locA agg43 hL_10 1 rfl 0 (vs := [(Sl.v t21_1), (VI t42_1)]) rfl rfl ?_
  have H := H  h_10  (Fr.old (Fr.old (Fr.r (In []) _) hf_7) hf_8) hL_10
  exact H
def u81 (P : Program) (r0_1 : Int) (h : Heap) (K : Value → Heap → Prop) : Prop :=
  callM P 55 #[(VI r0_1), (VI 0), (VI 4)] h fun rv_1 h_1 => ∃ t4_1 : Bool, rv_1 = (VB t4_1) ∧ Vars h_1 [] ∧
  K (VB (!t4_1)) h_1
theorem v81 (r0_1 : Int) (h : Heap) (K : Value → Heap → Prop) (H : u81 Tryd.prog r0_1 h K) : callM Tryd.prog 81 #[(VI r0_1)] h K := by
  refine c81 (VI r0_1) h K ?_
  unfold u81 at H
  unfold t81
  have hL : Vars h [] := .nil
  refine H.mono fun rv_1 h_1 H => ?_
  obtain ⟨t4_1, rfl, hL_1, H⟩ := H
  refine pop_not t4_1 ?_
  exact H
def u82 (P : Program) (w0_1 : Sl) (w0_2 : Int) (h : Heap) (K : Value → Heap → Prop) : Prop :=
  ∀ (b_1 : Nat) (h_1 : Heap), h.size ≤ b_1 → Fr (In []) h h_1 → Vars h_1 [(b_1, [(Sl.v w0_1), (VI w0_2)])] →
  callM P 96 #[(VI w0_2)] h_1 fun rv_1 h_2 => ∃ t5_1 : ByteArray, rv_1 = (VS t5_1) ∧ Vars h_2 [(b_1, [(Sl.v w0_1), (VI w0_2)])] ∧
  ByteArray.size t5_1 + ByteArray.size ({ data := #[58] }) ≤ 9223372036854775807 ∧
  callM P 58 #[(Sl.v w0_1)] h_2 fun rv_2 h_3 => ∃ t9_1 : ByteArray, rv_2 = (VS t9_1) ∧ Vars h_3 [(b_1, [(Sl.v w0_1), (VI w0_2)])] ∧
  ByteArray.size (t5_1 ++ ({ data := #[58] })) + ByteArray.size t9_1 ≤ 9223372036854775807 ∧
  K (VS ((t5_1 ++ ({ data := #[58] })) ++ t9_1)) h_3
theorem v82 (w0_1 : Sl) (w0_2 : Int) (h : Heap) (K : Value → Heap → Prop) (H : u82 Tryd.prog w0_1 w0_2 h K) : callM Tryd.prog 82 #[(Value.agg #[(Sl.v w0_1), (VI w0_2)])] h K := by
  refine c82 (Value.agg #[(Sl.v w0_1), (VI w0_2)]) h K ?_
  unfold u82 at H
  unfold t82
  have hL : Vars h [] := .nil
  refine eop_box 43 (Value.agg #[(Sl.v w0_1), (VI w0_2)]) rfl hL (fun b_1 h_1 hb_1 hf_1 hL_1 => ?_)
  refine pop_field 1 fld43_1 b_1 0 ?_
  refine rop_loc one3 hL_1 0 rfl 1 (v := (VI w0_2)) rfl ?_
  refine pop_field 0 fld43_0 b_1 0 ?_
  refine rop_loc one34 hL_1 0 rfl 0 (v := (Sl.v w0_1)) rfl ?_
  have H := H b_1 h_1 (Nat.le_trans (Fr.size (Fr.r (In []) _)) hb_1) (Fr.no' (Fr.r (In []) _) hf_1) hL_1
  refine H.mono fun rv_1 h_2 H => ?_
  obtain ⟨t5_1, rfl, hL_2, H⟩ := H
  refine ⟨?_, ?_⟩
  ·exact still_loc one34 hL_2 0 rfl 0 (v := (Sl.v w0_1)) rfl
  obtain ⟨hz_1, H⟩ := H
  refine pop_sadd t5_1 ({ data := #[58] }) hz_1 ?_
  refine H.mono fun rv_2 h_3 H => ?_
  obtain ⟨t9_1, rfl, hL_3, H⟩ := H
  obtain ⟨hz_2, H⟩ := H
  refine pop_sadd (t5_1 ++ ({ data := #[58] })) t9_1 hz_2 ?_
  exact H
def u83 (P : Program) (g0_1 : Sl) (p1_1 : Int) (h : Heap) (K : Value → Heap → Prop) : Prop :=
  ∀ (b_1 : Nat) (h_1 : Heap), h.size ≤ b_1 → Fr (In []) h h_1 → Vars h_1 [(b_1, [(Sl.v g0_1)])] →
  callM P 106 #[(Value.agg #[(Sl.v g0_1)])] h_1 fun rv_1 h_2 => ∃ t6_1 : Bool, rv_1 = (VB t6_1) ∧ Vars h_2 [(b_1, [(Sl.v g0_1)])] ∧
  (t6_1 = true →
  callM P 51 #[(VI p1_1), (VI 0), (VI (w64 ((g0_1.n : Int) - 1)))] h_2 fun rv_2 h_3 => ∃ t13_1 : Bool, rv_2 = (VB t13_1) ∧ Vars h_3 [(b_1, [(Sl.v g0_1)])] ∧
  K (VB t13_1) h_3) ∧
  (t6_1 = false →
  K (VB false) h_2)
theorem v83 (g0_1 : Sl) (p1_1 : Int) (h : Heap) (K : Value → Heap → Prop) (H : u83 Tryd.prog g0_1 p1_1 h K) : callM Tryd.prog 83 #[(Value.agg #[(Sl.v g0_1)]), (VI p1_1)] h K := by
  refine c83 (Value.agg #[(Sl.v g0_1)]) (VI p1_1) h K ?_
  unfold u83 at H
  unfold t83
  have hL : Vars h [] := .nil
  refine eop_box 41 (Value.agg #[(Sl.v g0_1)]) rfl hL (fun b_1 h_1 hb_1 hf_1 hL_1 => ?_)
  refine rop_locA agg41 hL_1 0 rfl 0 (vs := [(Sl.v g0_1)]) rfl rfl ?_
  have H := H b_1 h_1 (Nat.le_trans (Fr.size (Fr.r (In []) _)) hb_1) (Fr.no' (Fr.r (In []) _) hf_1) hL_1
  refine H.mono fun rv_1 h_2 H => ?_
  obtain ⟨t6_1, rfl, hL_2, H⟩ := H
  refine guardM_st (fun hb_2 => ?_) (fun hb_2 => ?_)
  rotate_left
  ·have H := H.2 hb_2
   refine guardM_n' hb_2 (by decide) ?_
   refine guardM_n' hb_2 (by decide) ?_
   refine guardM_n' hb_2 (by decide) ?_
   refine guardM_n' hb_2 (by decide) ?_
   refine guardM_n' hb_2 (by decide) ?_
   refine pop_pickf' hb_2 ?_
   exact H
  have H := H.1 hb_2
  refine guardM_y' hb_2 ?_
  refine pop_field 0 fld41_0 b_1 0 ?_
  refine guardM_y' hb_2 ?_
  refine rop_loc one22 hL_2 0 rfl 0 (v := (Sl.v g0_1)) rfl ?_
  refine guardM_y' hb_2 ?_
  refine pop_len g0_1 _ _ sli22 ?_
  refine guardM_y' hb_2 ?_
  refine pop_sub .i64 (g0_1.n : Int) 1 ?_
  refine guardM_y' hb_2 ?_
  refine H.mono fun rv_2 h_3 H => ?_
  obtain ⟨t13_1, rfl, hL_3, H⟩ := H
  refine pop_pickt' hb_2 ?_
  exact H
def u87 (P : Program) (g0_1 : Sl) (places1_1 : Sl) (h : Heap) (K : Value → Heap → Prop) : Prop :=
  ∀ (b_1 : Nat) (h_1 : Heap), h.size ≤ b_1 → Fr (In []) h h_1 → Vars h_1 [(b_1, [(Sl.v g0_1)])] →
  callM P 109 #[(Value.agg #[(Sl.v g0_1)])] h_1 fun rv_1 h_2 => ∃ t6_1 : Bool, rv_1 = (VB t6_1) ∧ Vars h_2 [(b_1, [(Sl.v g0_1)])] ∧
  (t6_1 = true →
  callM P 56 #[(Sl.v places1_1), (Value.func (Fn.func 110) #[] #[(VP b_1 0)])] h_2 fun rv_2 h_3 => ∃ x_1 : Sl, ∃ t10_1 : Bool, rv_2 = (VB t10_1) ∧ Vars h_3 [(b_1, [(Sl.v x_1)])] ∧
  K (VB (!t10_1)) h_3) ∧
  (t6_1 = false →
  K (VB false) h_2)
theorem v87 (g0_1 : Sl) (places1_1 : Sl) (h : Heap) (K : Value → Heap → Prop) (H : u87 Tryd.prog g0_1 places1_1 h K) : callM Tryd.prog 87 #[(Value.agg #[(Sl.v g0_1)]), (Sl.v places1_1)] h K := by
  refine c87 (Value.agg #[(Sl.v g0_1)]) (Sl.v places1_1) h K ?_
  unfold u87 at H
  unfold t87
  have hL : Vars h [] := .nil
  refine eop_box 41 (Value.agg #[(Sl.v g0_1)]) rfl hL (fun b_1 h_1 hb_1 hf_1 hL_1 => ?_)
  refine rop_locA agg41 hL_1 0 rfl 0 (vs := [(Sl.v g0_1)]) rfl rfl ?_
  have H := H b_1 h_1 (Nat.le_trans (Fr.size (Fr.r (In []) _)) hb_1) (Fr.no' (Fr.r (In []) _) hf_1) hL_1
  refine H.mono fun rv_1 h_2 H => ?_
  obtain ⟨t6_1, rfl, hL_2, H⟩ := H
  refine guardM_st (fun hb_2 => ?_) (fun hb_2 => ?_)
  rotate_left
  ·have H := H.2 hb_2
   refine guardM_n' hb_2 (by decide) ?_
   refine guardM_n' hb_2 (by decide) ?_
   refine guardM_n' hb_2 (by decide) ?_
   refine pop_pickf' hb_2 ?_
   exact H
  have H := H.1 hb_2
  refine guardM_y' hb_2 ?_
  refine pop_func _ _ _ ?_
  refine guardM_y' hb_2 ?_
  refine H.mono fun rv_2 h_3 H => ?_
  obtain ⟨x_1, t10_1, rfl, hL_3, H⟩ := H
  refine guardM_y' hb_2 ?_
  refine pop_not t10_1 ?_
  refine pop_pickt' hb_2 ?_
  exact H
def u92 (P : Program) (g0_1 : Sl) (b_1 : Nat) (w1_1 : Sl) (w1_2 : Int) (h : Heap) (K : Value → Heap → Prop) : Prop :=
  InB g0_1 w1_2 ∧
  ∀ (b_2 : Nat) (h_1 : Heap), h.size ≤ b_2 → Fr (In []) h h_1 → Vars h_1 [(b_2, [(Sl.v g0_1)]), (b_1, [(Sl.v w1_1), (VI w1_2)])] →
  ∃ t13_1 : Sl, hcell h_1 (Sl.at g0_1 w1_2 1) = some (Sl.v t13_1) ∧
  ((decide ((t13_1.n : Int) = 0)) = true →
  K (VB false) h_1) ∧
  ((decide ((t13_1.n : Int) = 0)) = false →
  InB w1_1 w1_2 ∧
  ∃ t34_1 : Int, hcell h_1 (Sl.at w1_1 w1_2 1) = some (VI t34_1) ∧
  (t13_1.n : Int) ≠ 0 ∧
  InB w1_1 w1_2 ∧
  Writable h_1 (Sl.at w1_1 w1_2 1) ∧ Vars (hset h_1 (Sl.at w1_1 w1_2 1) (VI (Int.tmod (w64 (t34_1 + 1)) (t13_1.n : Int)))) [(b_2, [(Sl.v g0_1)]), (b_1, [(Sl.v w1_1), (VI w1_2)])] ∧
  ∀ h_2 : Heap, h_2 = hset h_1 (Sl.at w1_1 w1_2 1) (VI (Int.tmod (w64 (t34_1 + 1)) (t13_1.n : Int))) → Vars h_2 [(b_2, [(Sl.v g0_1)]), (b_1, [(Sl.v w1_1), (VI w1_2)])] →
  InB w1_1 w1_2 ∧
  ∃ t51_1 : Int, hcell h_2 (Sl.at w1_1 w1_2 1) = some (VI t51_1) ∧
  InB t13_1 t51_1 ∧
  ∃ t53_1 : Int, hcell h_2 (Sl.at t13_1 t51_1 1) = some (VI t53_1) ∧
  ∀ (h_3 : Heap), Fr (In [b_1]) h_2 h_3 → Vars h_3 [(b_2, [(Sl.v g0_1)]), (b_1, [(Sl.v w1_1), (VI t53_1)])] →
  K (VB true) h_3)
theorem v92 (g0_1 : Sl) (b_1 : Nat) (w1_1 : Sl) (w1_2 : Int) (h : Heap) (K : Value → Heap → Prop) (hL : Vars h [(b_1, [(Sl.v w1_1), (VI w1_2)])]) (H : u92 Tryd.prog g0_1 b_1 w1_1 w1_2 h K) : callM Tryd.prog 92 #[(Value.agg #[(Sl.v g0_1)]), (VP b_1 0)] h K := by
  refine c92 (Value.agg #[(Sl.v g0_1)]) (VP b_1 0) h K ?_
  unfold u92 at H
  unfold t92
  refine eop_box 41 (Value.agg #[(Sl.v g0_1)]) rfl hL (fun b_2 h_1 hb_1 hf_1 hL_1 => ?_)
  refine pop_field 0 fld41_0 b_2 0 ?_
  refine rop_loc one22 hL_1 0 rfl 0 (v := (Sl.v g0_1)) rfl ?_
  refine pop_nil _ ?_
  refine pop_field 1 fld43_1 b_1 0 ?_
  refine rop_loc one3 hL_1 1 rfl 1 (v := (VI w1_2)) rfl ?_
  obtain ⟨hi_1, H⟩ := H
  refine pop_index sli22 siz34 .i64 g0_1 w1_2 hi_1 ?_
  have H := H b_2 h_1 (Nat.le_trans (Fr.size (Fr.r (In []) _)) hb_1) (Fr.no' (Fr.r (In []) _) hf_1) hL_1
  obtain ⟨t13_1, hc_4, H⟩ := H
  refine rop_one one34 (Sl.v t13_1) hc_4 ?_
  refine pop_len t13_1 _ _ sli34 ?_
  refine pop_ieq .i64 _ _ (t13_1.n : Int) 0 ?_
  refine condM_b (fun hb_2 => ?_) (fun hb_2 => ?_)
  ·have H := H.1 hb_2
   exact H
  have H := H.2 hb_2
  refine pop_nil _ ?_
  refine pop_field 0 fld43_0 b_1 0 ?_
  refine rop_loc one34 hL_1 1 rfl 0 (v := (Sl.v w1_1)) rfl ?_
  refine pop_nil _ ?_
  refine pop_field 1 fld43_1 b_1 0 ?_
  refine rop_loc one3 hL_1 1 rfl 1 (v := (VI w1_2)) rfl ?_
  refine pop_nil _ ?_
  refine pop_field 0 fld43_0 b_1 0 ?_
  refine rop_loc one34 hL_1 1 rfl 0 (v := (Sl.v w1_1)) rfl ?_
  refine pop_nil _ ?_
  refine pop_field 1 fld43_1 b_1 0 ?_
  refine rop_loc one3 hL_1 1 rfl 1 (v := (VI w1_2)) rfl ?_
  obtain ⟨hi_2, H⟩ := H
  refine pop_index sli34 siz3 .i64 w1_1 w1_2 hi_2 ?_
  obtain ⟨t34_1, hc_3, H⟩ := H
  refine rop_one one3 (VI t34_1) hc_3 ?_
  refine pop_add .i64 t34_1 1 ?_
  refine pop_len t13_1 _ _ sli34 ?_
  obtain ⟨hz_1, H⟩ := H
  refine pop_rem .i64 (w64 (t34_1 + 1)) (t13_1.n : Int) hz_1 ?_
  obtain ⟨hi_3, H⟩ := H
  refine pop_index sli34 siz3 .i64 w1_1 w1_2 hi_3 ?_
  obtain ⟨hw_1, hL_2, H⟩ := H
  refine uop_cell (v := (VI (Int.tmod (w64 (t34_1 + 1)) (t13_1.n : Int)))) siz3 hw_1 rfl (fun h_2 he_1 => ?_)
  rw [← he_1] at hL_2
  have H := H h_2 he_1 hL_2
  refine pop_nil _ ?_
  refine pop_field 0 fld43_0 b_1 0 ?_
  refine rop_loc one34 hL_2 1 rfl 0 (v := (Sl.v w1_1)) rfl ?_
  refine pop_nil _ ?_
  refine pop_field 1 fld43_1 b_1 0 ?_
  refine rop_loc one3 hL_2 1 rfl 1 (v := (VI w1_2)) rfl ?_
  obtain ⟨hi_4, H⟩ := H
  refine pop_index sli34 siz3 .i64 w1_1 w1_2 hi_4 ?_
  obtain ⟨t51_1, hc_2, H⟩ := H
  refine rop_one one3 (VI t51_1) hc_2 ?_
  obtain ⟨hi_5, H⟩ := H
  refine pop_index sli34 siz3 .i64 t13_1 t51_1 hi_5 ?_
  obtain ⟨t53_1, hc_1, H⟩ := H
  refine rop_one one3 (VI t53_1) hc_1 ?_
  refine pop_nil _ ?_
  refine pop_field 1 fld43_1 b_1 0 ?_
  refine uop_loc siz3 hL_2 1 rfl 1 [(VI t53_1)] rfl rfl rfl (Nat.le_of_ble_eq_true rfl) (L' := [(b_2, [(Sl.v g0_1)]), (b_1, [(Sl.v w1_1), (VI t53_1)])]) rfl (fun h_3 hf_2 hL_3 => ?_)
  have H := H  h_3  (Fr.old (Fr.r (In []) _) hf_2) hL_3
  exact H
def u95 (P : Program) (s0_1 : Sl) (f1_1 : Value) (h : Heap) (K : Value → Heap → Prop) : Prop :=
  ∃ J_1 : Nat → Int → Heap → Prop, (∃ n0 : Nat, J_1 n0 0 h) ∧
  ∀ (n_1 : Nat) (t8_1 : Int) (h_1 : Heap), J_1 n_1 t8_1 h_1 → Vars h_1 [] →
  ((decide (t8_1 < (s0_1.n : Int))) = true →
  InB s0_1 t8_1 ∧
  ∃ t15_1 : Int, hcell h_1 (Sl.at s0_1 t8_1 1) = some (VI t15_1) ∧
  callV P f1_1 [(VI t15_1)] h_1 fun rv_1 h_2 => ∃ t16_1 : Bool, rv_1 = (VB t16_1) ∧ Vars h_2 [] ∧
  (t16_1 = true →
  K (VI t8_1) h_2) ∧
  (t16_1 = false →
  ∃ m : Nat, m < n_1 ∧ J_1 m (w64 (t8_1 + 1)) h_2)) ∧
  ((decide (t8_1 < (s0_1.n : Int))) = false →
  K (VI (-1)) h_1)
theorem v95 (s0_1 : Sl) (f1_1 : Value) (h : Heap) (K : Value → Heap → Prop) (H : u95 Tryd.prog s0_1 f1_1 h K) : callM Tryd.prog 95 #[(Sl.v s0_1), f1_1] h K := by
  refine c95 (Sl.v s0_1) f1_1 h K ?_
  unfold u95 at H
  unfold t95
  have hL : Vars h [] := .nil
  refine pop_len s0_1 _ _ sli34 ?_
  obtain ⟨J_1, ⟨n_2, h0_1⟩, HB_1⟩ := H
  refine loop_intro (J := fun (n : Nat) (vs : List Value) (h' : Heap) => ∃ t8_1 : Int, vs = [(VI t8_1)] ∧ J_1 n t8_1 h' ∧ Vars h' []) n_2 ⟨0, rfl, h0_1, hL⟩ ?_
  intro I_1 mu_1 hI_1 junk_1 tv_1 h_1 hi_1
  obtain ⟨n_1, ⟨t8_1, hv, hJ_1, hL_1⟩, hn_1⟩ := hI_1 _ _ hi_1
  cases hv
  have H := HB_1 n_1 t8_1 h_1 hJ_1 hL_1
  refine pop_lss .i64 t8_1 (s0_1.n : Int) ?_
  refine condM_b (fun hb_1 => ?_) (fun hb_1 => ?_)
  rotate_left
  ·have H := H.2 hb_1
   exact H
  have H := H.1 hb_1
  obtain ⟨hi_2, H⟩ := H
  refine pop_index sli34 siz3 .i64 s0_1 t8_1 hi_2 ?_
  obtain ⟨t15_1, hc_1, H⟩ := H
  refine rop_one one3 (VI t15_1) hc_1 ?_
  refine H.mono fun rv_1 h_2 H => ?_
  obtain ⟨t16_1, rfl, hL_2, H⟩ := H
  refine condM_b (fun hb_2 => ?_) (fun hb_2 => ?_)
  ·have H := H.1 hb_2
   exact H
  have H := H.2 hb_2
  refine pop_add .i64 t8_1 1 ?_
  obtain ⟨m_1, hm_1, H⟩ := H
  exact hn_1 _ _ ⟨m_1, hm_1, (w64 (t8_1 + 1)), rfl, H, hL_2⟩
def u100 (P : Program) (a0_1 : Int) (b1_1 : Int) (h : Heap) (K : Value → Heap → Prop) : Prop :=
  ((decide (b1_1 < a0_1)) = true →
  K (VI a0_1) h) ∧
  ((decide (b1_1 < a0_1)) = false →
  K (VI b1_1) h)
theorem v100 (a0_1 : Int) (b1_1 : Int) (h : Heap) (K : Value → Heap → Prop) (H : u100 Tryd.prog a0_1 b1_1 h K) : callM Tryd.prog 100 #[(VI a0_1), (VI b1_1)] h K := by
  refine c100 (VI a0_1) (VI b1_1) h K ?_
  unfold u100 at H
  unfold t100
  have hL : Vars h [] := .nil
  refine pop_gtr .i64 a0_1 b1_1 ?_
  refine condM_b (fun hb_1 => ?_) (fun hb_1 => ?_)
  ·have H := H.1 hb_1
   exact H
  have H := H.2 hb_1
  exact H
def u103 (P : Program) (b_1 : Nat) (c0_1 : Sl) (c0_2 : Int) (c0_3 : Int) (h : Heap) (K : Value → Heap → Prop) : Prop :=
  ∀ (b_2 : Nat) (b_3 : Nat) (h_2 : Heap), h.size ≤ b_2 → h.size ≤ b_3 → Fr (In []) h h_2 → Vars h_2 [(b_3, [(Sl.v nilSl), (VI 0)]), (b_2, [(Sl.v nilSl)]), (b_1, [(Sl.v c0_1), (VI c0_2), (Value.int .u64 c0_3)])] →
  callM P 117 #[(VP b_1 0)] h_2 fun rv_1 h_3 => ∃ x_1 : Sl, ∃ x_2 : Int, ∃ x_3 : Int, ∃ t7_1 : Sl, rv_1 = (Value.agg #[(Sl.v t7_1)]) ∧ Vars h_3 [(b_3, [(Sl.v nilSl), (VI 0)]), (b_2, [(Sl.v nilSl)]), (b_1, [(Sl.v x_1), (VI x_2), (Value.int .u64 x_3)])] ∧
  ∀ (b_4 : Nat) (h_5 : Heap), h_3.size ≤ b_4 → Fr (In []) h_3 h_5 → Vars h_5 [(b_4, [(Sl.v t7_1)]), (b_3, [(Sl.v nilSl), (VI 0)]), (b_2, [(Sl.v nilSl)]), (b_1, [(Sl.v x_1), (VI x_2), (Value.int .u64 x_3)])] →
  callM P 106 #[(Value.agg #[(Sl.v t7_1)])] h_5 fun rv_2 h_6 => ∃ t9_1 : Bool, rv_2 = (VB t9_1) ∧ Vars h_6 [(b_4, [(Sl.v t7_1)]), (b_3, [(Sl.v nilSl), (VI 0)]), (b_2, [(Sl.v nilSl)]), (b_1, [(Sl.v x_1), (VI x_2), (Value.int .u64 x_3)])] ∧
  ((!t9_1) = true →
  ∀ (h_8 : Heap), Fr (In [b_3, b_2]) h_6 h_8 → Vars h_8 [(b_4, [(Sl.v t7_1)]), (b_3, [(Sl.v nilSl), (VI 0)]), (b_2, [(Sl.v t7_1)]), (b_1, [(Sl.v x_1), (VI x_2), (Value.int .u64 x_3)])] →
  K (Value.tuple #[(Value.agg #[(Sl.v t7_1)]), (Value.agg #[(Sl.v nilSl), (VI 0)])]) h_8) ∧
  ((!t9_1) = false →
  callM P 118 #[(VP b_1 0), (Value.agg #[(Sl.v t7_1)])] h_6 fun rv_3 h_9 => ∃ x_4 : Sl, ∃ x_5 : Int, ∃ x_6 : Int, ∃ t15_1 : Sl, ∃ t15_2 : Int, rv_3 = (Value.agg #[(Sl.v t15_1), (VI t15_2)]) ∧ Vars h_9 [(b_4, [(Sl.v t7_1)]), (b_3, [(Sl.v nilSl), (VI 0)]), (b_2, [(Sl.v nilSl)]), (b_1, [(Sl.v x_4), (VI x_5), (Value.int .u64 x_6)])] ∧
  ∀ (b_5 : Nat) (h_11 : Heap), h_9.size ≤ b_5 → Fr (In []) h_9 h_11 → Vars h_11 [(b_5, [(Sl.v t15_1), (VI t15_2)]), (b_4, [(Sl.v t7_1)]), (b_3, [(Sl.v nilSl), (VI 0)]), (b_2, [(Sl.v nilSl)]), (b_1, [(Sl.v x_4), (VI x_5), (Value.int .u64 x_6)])] →
  ∃ J_1 : Sl → Int → Sl → Int → Int → Heap → Prop, (callM P 119 #[(VP b_1 0), (VI 16)] h_11 fun rv_4 h_12 => ∃ x_12 : Sl, ∃ x_13 : Int, ∃ x_14 : Int, ∃ t17_1 : Int, rv_4 = (VI t17_1) ∧ Vars h_12 [(b_5, [(Sl.v t15_1), (VI t15_2)]), (b_4, [(Sl.v t7_1)]), (b_3, [(Sl.v nilSl), (VI 0)]), (b_2, [(Sl.v nilSl)]), (b_1, [(Sl.v x_12), (VI x_13), (Value.int .u64 x_14)])] ∧
  ((decide (t17_1 = 0)) = true →
  eop P (Instr.buildSlice 34 3 #[(0, (Value.int IntKind.i64 (-1))), (1, (VI (t7_1.n : Int))), (2, (Value.int IntKind.i64 4611686018427387904))]) h_12 fun rv_5 h_13 => ∃ t24_1 : Sl, rv_5 = (Sl.v t24_1) ∧ Vars h_13 [(b_5, [(Sl.v t15_1), (VI t15_2)]), (b_4, [(Sl.v t7_1)]), (b_3, [(Sl.v nilSl), (VI 0)]), (b_2, [(Sl.v nilSl)]), (b_1, [(Sl.v x_12), (VI x_13), (Value.int .u64 x_14)])] ∧
  callM P 120 #[(VP b_1 0), (Sl.v t24_1)] h_13 fun rv_6 h_14 => ∃ x_15 : Sl, ∃ x_16 : Int, ∃ x_17 : Int, ∃ t25_1 : Int, rv_6 = (VI t25_1) ∧ Vars h_14 [(b_5, [(Sl.v t15_1), (VI t15_2)]), (b_4, [(Sl.v t7_1)]), (b_3, [(Sl.v nilSl), (VI 0)]), (b_2, [(Sl.v nilSl)]), (b_1, [(Sl.v x_15), (VI x_16), (Value.int .u64 x_17)])] ∧
  ∀ (h_15 : Heap), Fr (In [b_5]) h_14 h_15 → Vars h_15 [(b_5, [(Sl.v t15_1), (VI t25_1)]), (b_4, [(Sl.v t7_1)]), (b_3, [(Sl.v nilSl), (VI 0)]), (b_2, [(Sl.v nilSl)]), (b_1, [(Sl.v x_15), (VI x_16), (Value.int .u64 x_17)])] →
  J_1 t15_1 t25_1 x_15 x_16 x_17 h_15) ∧
  ((decide (t17_1 = 0)) = false →
  ((decide (t17_1 = 1)) = true →
  (callM P 119 #[(VP b_1 0), (VI (t15_1.n : Int))] h_12 fun rv_7 h_16 => ∃ x_18 : Sl, ∃ x_19 : Int, ∃ x_20 : Int, ∃ t35_1 : Int, rv_7 = (VI t35_1) ∧ Vars h_16 [(b_5, [(Sl.v t15_1), (VI t15_2)]), (b_4, [(Sl.v t7_1)]), (b_3, [(Sl.v nilSl), (VI 0)]), (b_2, [(Sl.v nilSl)]), (b_1, [(Sl.v x_18), (VI x_19), (Value.int .u64 x_20)])] ∧
  eop P (Instr.buildSlice 34 3 #[(0, (Value.int IntKind.i64 (-1))), (1, (Value.int IntKind.i64 4)), (2, (Value.int IntKind.i64 5))]) h_16 fun rv_8 h_17 => ∃ t37_1 : Sl, rv_8 = (Sl.v t37_1) ∧ Vars h_17 [(b_5, [(Sl.v t15_1), (VI t15_2)]), (b_4, [(Sl.v t7_1)]), (b_3, [(Sl.v nilSl), (VI 0)]), (b_2, [(Sl.v nilSl)]), (b_1, [(Sl.v x_18), (VI x_19), (Value.int .u64 x_20)])] ∧
  callM P 120 #[(VP b_1 0), (Sl.v t37_1)] h_17 fun rv_9 h_18 => ∃ x_21 : Sl, ∃ x_22 : Int, ∃ x_23 : Int, ∃ t38_1 : Int, rv_9 = (VI t38_1) ∧ Vars h_18 [(b_5, [(Sl.v t15_1), (VI t15_2)]), (b_4, [(Sl.v t7_1)]), (b_3, [(Sl.v nilSl), (VI 0)]), (b_2, [(Sl.v nilSl)]), (b_1, [(Sl.v x_21), (VI x_22), (Value.int .u64 x_23)])] ∧
  InB t15_1 t35_1 ∧
  Writable h_18 (Sl.at t15_1 t35_1 1) ∧ Vars (hset h_18 (Sl.at t15_1 t35_1 1) (VI t38_1)) [(b_5, [(Sl.v t15_1), (VI t15_2)]), (b_4, [(Sl.v t7_1)]), (b_3, [(Sl.v nilSl), (VI 0)]), (b_2, [(Sl.v nilSl)]), (b_1, [(Sl.v x_21), (VI x_22), (Value.int .u64 x_23)])] ∧
  ∀ h_19 : Heap, h_19 = hset h_18 (Sl.at t15_1 t35_1 1) (VI t38_1) → Vars h_19 [(b_5, [(Sl.v t15_1), (VI t15_2)]), (b_4, [(Sl.v t7_1)]), (b_3, [(Sl.v nilSl), (VI 0)]), (b_2, [(Sl.v nilSl)]), (b_1, [(Sl.v x_21), (VI x_22), (Value.int .u64 x_23)])] →
  J_1 t15_1 t15_2 x_21 x_22 x_23 h_19) ∧
  (eop P (Instr.buildSlice 34 3 #[(0, (Value.int IntKind.i64 (-1))), (1, (Value.int IntKind.i64 4)), (2, (Value.int IntKind.i64 5))]) h_12 fun rv_10 h_20 => ∃ t37_2 : Sl, rv_10 = (Sl.v t37_2) ∧ Vars h_20 [(b_5, [(Sl.v t15_1), (VI t15_2)]), (b_4, [(Sl.v t7_1)]), (b_3, [(Sl.v nilSl), (VI 0)]), (b_2, [(Sl.v nilSl)]), (b_1, [(Sl.v x_12), (VI x_13), (Value.int .u64 x_14)])] ∧
  callM P 119 #[(VP b_1 0), (VI (t15_1.n : Int))] h_20 fun rv_11 h_21 => ∃ x_24 : Sl, ∃ x_25 : Int, ∃ x_26 : Int, ∃ t35_2 : Int, rv_11 = (VI t35_2) ∧ Vars h_21 [(b_5, [(Sl.v t15_1), (VI t15_2)]), (b_4, [(Sl.v t7_1)]), (b_3, [(Sl.v nilSl), (VI 0)]), (b_2, [(Sl.v nilSl)]), (b_1, [(Sl.v x_24), (VI x_25), (Value.int .u64 x_26)])] ∧
  callM P 120 #[(VP b_1 0), (Sl.v t37_2)] h_21 fun rv_12 h_22 => ∃ x_27 : Sl, ∃ x_28 : Int, ∃ x_29 : Int, ∃ t38_2 : Int, rv_12 = (VI t38_2) ∧ Vars h_22 [(b_5, [(Sl.v t15_1), (VI t15_2)]), (b_4, [(Sl.v t7_1)]), (b_3, [(Sl.v nilSl), (VI 0)]), (b_2, [(Sl.v nilSl)]), (b_1, [(Sl.v x_27), (VI x_28), (Value.int .u64 x_29)])] ∧
  InB t15_1 t35_2 ∧
  Writable h_22 (Sl.at t15_1 t35_2 1) ∧ Vars (hset h_22 (Sl.at t15_1 t35_2 1) (VI t38_2)) [(b_5, [(Sl.v t15_1), (VI t15_2)]), (b_4, [(Sl.v t7_1)]), (b_3, [(Sl.v nilSl), (VI 0)]), (b_2, [(Sl.v nilSl)]), (b_1, [(Sl.v x_27), (VI x_28), (Value.int .u64 x_29)])] ∧
  ∀ h_23 : Heap, h_23 = hset h_22 (Sl.at t15_1 t35_2 1) (VI t38_2) → Vars h_23 [(b_5, [(Sl.v t15_1), (VI t15_2)]), (b_4, [(Sl.v t7_1)]), (b_3, [(Sl.v nilSl), (VI 0)]), (b_2, [(Sl.v nilSl)]), (b_1, [(Sl.v x_27), (VI x_28), (Value.int .u64 x_29)])] →
  J_1 t15_1 t15_2 x_27 x_28 x_29 h_23)) ∧
  ((decide (t17_1 = 1)) = false →
  ((decide (t17_1 = 2)) = true →
  eop P (Instr.buildSlice 34 1 #[(0, (Value.int IntKind.i64 0))]) h_12 fun rv_13 h_24 => ∃ t44_1 : Sl, rv_13 = (Sl.v t44_1) ∧ Vars h_24 [(b_5, [(Sl.v t15_1), (VI t15_2)]), (b_4, [(Sl.v t7_1)]), (b_3, [(Sl.v nilSl), (VI 0)]), (b_2, [(Sl.v nilSl)]), (b_1, [(Sl.v x_12), (VI x_13), (Value.int .u64 x_14)])] ∧
  eop P (appS 34 34 34 (Sl.v t15_1) (Sl.v t44_1)) h_24 fun rv_14 h_25 => ∃ t45_1 : Sl, rv_14 = (Sl.v t45_1) ∧ Vars h_25 [(b_5, [(Sl.v t15_1), (VI t15_2)]), (b_4, [(Sl.v t7_1)]), (b_3, [(Sl.v nilSl), (VI 0)]), (b_2, [(Sl.v nilSl)]), (b_1, [(Sl.v x_12), (VI x_13), (Value.int .u64 x_14)])] ∧
  ∀ (h_26 : Heap), Fr (In [b_5]) h_25 h_26 → Vars h_26 [(b_5, [(Sl.v t45_1), (VI t15_2)]), (b_4, [(Sl.v t7_1)]), (b_3, [(Sl.v nilSl), (VI 0)]), (b_2, [(Sl.v nilSl)]), (b_1, [(Sl.v x_12), (VI x_13), (Value.int .u64 x_14)])] →
  J_1 t45_1 t15_2 x_12 x_13 x_14 h_26) ∧
  ((decide (t17_1 = 2)) = false →
  J_1 t15_1 t15_2 x_12 x_13 x_14 h_12)))) ∧
  ∀ (x_7 : Sl) (x_8 : Int) (x_9 : Sl) (x_10 : Int) (x_11 : Int) (h_27 : Heap), J_1 x_7 x_8 x_9 x_10 x_11 h_27 → Vars h_27 [(b_5, [(Sl.v x_7), (VI x_8)]), (b_4, [(Sl.v t7_1)]), (b_3, [(Sl.v nilSl), (VI 0)]), (b_2, [(Sl.v nilSl)]), (b_1, [(Sl.v x_9), (VI x_10), (Value.int .u64 x_11)])] →
  ∀ (h_28 : Heap), Fr (In [b_2]) h_27 h_28 → Vars h_28 [(b_5, [(Sl.v x_7), (VI x_8)]), (b_4, [(Sl.v t7_1)]), (b_3, [(Sl.v nilSl), (VI 0)]), (b_2, [(Sl.v t7_1)]), (b_1, [(Sl.v x_9), (VI x_10), (Value.int .u64 x_11)])] →
  ∀ (h_29 : Heap), Fr (In [b_3]) h_28 h_29 → Vars h_29 [(b_5, [(Sl.v x_7), (VI x_8)]), (b_4, [(Sl.v t7_1)]), (b_3, [(Sl.v x_7), (VI x_8)]), (b_2, [(Sl.v t7_1)]), (b_1, [(Sl.v x_9), (VI x_10), (Value.int .u64 x_11)])] →
  K (Value.tuple #[(Value.agg #[(Sl.v t7_1)]), (Value.agg #[(Sl.v x_7), (VI x_8)])]) h_29)
theorem v103 (b_1 : Nat) (c0_1 : Sl) (c0_2 : Int) (c0_3 : Int) (h : Heap) (K : Value → Heap → Prop) (hL : Vars h [(b_1, [(Sl.v c0_1), (VI c0_2), (Value.int .u64 c0_3)])]) (H : u103 Tryd.prog b_1 c0_1 c0_2 c0_3 h K) : callM Tryd.prog 103 #[(VP b_1 0)] h K := by
  refine c103 (VP b_1 0) h K ?_
  unfold u103 at H
  unfold t103
  refine eop_alloc 41 zer41 rfl hL (fun b_2 h_1 hb_1 hf_1 hL_1 => ?_)
  refine eop_alloc 43 zer43 rfl hL_1 (fun b_3 h_2 hb_2 hf_2 hL_2 => ?_)
  have H := H b_2 b_3 h_2 (Nat.le_trans (Fr.size (Fr.r (In []) _)) hb_1) (Nat.le_trans (Fr.size (Fr.no' (Fr.r (In []) _) hf_1)) hb_2) (Fr.no' (Fr.no' (Fr.r (In []) _) hf_1) hf_2) hL_2
  refine H.mono fun rv_1 h_3 H => ?_
  obtain ⟨x_1, x_2, x_3, t7_1, rfl, hL_3, H⟩ := H
  refine eop_alloc 41 zer41 rfl hL_3 (fun b_4 h_4 hb_3 hf_3 hL_4 => ?_)
  refine uop_loc siz41 hL_4 0 rfl 0 [(Sl.v t7_1)] rfl rfl rfl (Nat.le_of_ble_eq_true rfl) (L' := [(b_4, [(Sl.v t7_1)]), (b_3, [(Sl.v nilSl), (VI 0)]), (b_2, [(Sl.v nilSl)]), (b_1, [(Sl.v x_1), (VI x_2), (Value.int .u64 x_3)])]) rfl (fun h_5 hf_4 hL_5 => ?_)
  refine rop_locA agg41 hL_5 0 rfl 0 (vs := [(Sl.v t7_1)]) rfl rfl ?_
  have H := H b_4 h_5 (Nat.le_trans (Fr.size (Fr.r (In []) _)) hb_3) (Fr.new (Fr.no' (Fr.r (In []) _) hf_3) (Nat.le_trans (Fr.size (Fr.r (In []) _)) hb_3) hf_4) hL_5
  refine H.mono fun rv_2 h_6 H => ?_
  obtain ⟨t9_1, rfl, hL_6, H⟩ := H
  refine pop_not t9_1 ?_
  refine condM_b (fun hb_4 => ?_) (fun hb_4 => ?_)
  ·have H := H.1 hb_4
   refine rop_locA agg41 hL_6 0 rfl 0 (vs := [(Sl.v t7_1)]) rfl rfl ?_
   refine pop.mk' (v := (Value.agg #[(Sl.v nilSl), (VI 0)])) (fun w => by kernel_rfl) ?_
   refine uop_loc siz41 hL_6 2 rfl 0 [(Sl.v t7_1)] rfl rfl rfl (Nat.le_of_ble_eq_true rfl) (L' := [(b_4, [(Sl.v t7_1)]), (b_3, [(Sl.v nilSl), (VI 0)]), (b_2, [(Sl.v t7_1)]), (b_1, [(Sl.v x_1), (VI x_2), (Value.int .u64 x_3)])]) rfl (fun h_7 hf_5 hL_7 => ?_)
   refine uop_loc siz43 hL_7 1 rfl 0 [(Sl.v nilSl), (VI 0)] rfl rfl rfl (Nat.le_of_ble_eq_true rfl) (L' := [(b_4, [(Sl.v t7_1)]), (b_3, [(Sl.v nilSl), (VI 0)]), (b_2, [(Sl.v t7_1)]), (b_1, [(Sl.v x_1), (VI x_2), (Value.int .u64 x_3)])]) rfl (fun h_8 hf_6 hL_8 => ?_)
   refine rop_locA agg41 hL_8 2 rfl 0 (vs := [(Sl.v t7_1)]) rfl rfl ?_
   refine rop_locA agg43 hL_8 1 rfl 0 (vs := [(Sl.v nilSl), (VI 0)]) rfl rfl ?_
   have H := H  h_8  (Fr.old (Fr.old (Fr.r (In []) _) hf_5) hf_6) hL_8
   exact H
  have H := H.2 hb_4
  refine rop_locA agg41 hL_6 0 rfl 0 (vs := [(Sl.v t7_1)]) rfl rfl ?_
  refine H.mono fun rv_3 h_9 H => ?_
  obtain ⟨x_4, x_5, x_6, t15_1, t15_2, rfl, hL_9, H⟩ := H
  refine eop_alloc 43 zer43 rfl hL_9 (fun b_5 h_10 hb_5 hf_7 hL_10 => ?_)
  refine uop_loc siz43 hL_10 0 rfl 0 [(Sl.v t15_1), (VI t15_2)] rfl rfl rfl (Nat.le_of_ble_eq_true rfl) (L' := [(b_5, [(Sl.v t15_1), (VI t15_2)]), (b_4, [(Sl.v t7_1)]), (b_3, [(Sl.v nilSl), (VI 0)]), (b_2, [(Sl.v nilSl)]), (b_1, [(Sl.v x_4), (VI x_5), (Value.int .u64 x_6)])]) rfl (fun h_11 hf_8 hL_11 => ?_)
  have H := H b_5 h_11 (Nat.le_trans (Fr.size (Fr.r (In []) _)) hb_5) (Fr.new (Fr.no' (Fr.r (In []) _) hf_7) (Nat.le_trans (Fr.size (Fr.r (In []) _)) hb_5) hf_8) hL_11
  obtain ⟨J_1, H, HB_1⟩ := H
  refine ⟨fun (vs : List Value) (h' : Heap) => ∃ x_7 : Sl, ∃ x_8 : Int, ∃ x_9 : Sl, ∃ x_10 : Int, ∃ x_11 : Int, vs = [] ∧ J_1 x_7 x_8 x_9 x_10 x_11 h' ∧ Vars h' [(b_5, [(Sl.v x_7), (VI x_8)]), (b_4, [(Sl.v t7_1)]), (b_3, [(Sl.v nilSl), (VI 0)]), (b_2, [(Sl.v nilSl)]), (b_1, [(Sl.v x_9), (VI x_10), (Value.int .u64 x_11)])], ?_, ?_⟩
  ·refine H.mono fun rv_4 h_12 H => ?_
   obtain ⟨x_12, x_13, x_14, t17_1, rfl, hL_12, H⟩ := H
   refine pop_ieq .i64 _ _ t17_1 0 ?_
   refine condM_b (fun hb_6 => ?_) (fun hb_6 => ?_)
   ·have H := H.1 hb_6
    refine pop_field 0 fld41_0 b_4 0 ?_
    refine rop_loc one22 hL_12 1 rfl 0 (v := (Sl.v t7_1)) rfl ?_
    refine pop_len t7_1 _ _ sli22 ?_
    refine H.mono fun rv_5 h_13 H => ?_
    obtain ⟨t24_1, rfl, hL_13, H⟩ := H
    refine H.mono fun rv_6 h_14 H => ?_
    obtain ⟨x_15, x_16, x_17, t25_1, rfl, hL_14, H⟩ := H
    refine pop_field 1 fld43_1 b_5 0 ?_
    refine uop_loc siz3 hL_14 0 rfl 1 [(VI t25_1)] rfl rfl rfl (Nat.le_of_ble_eq_true rfl) (L' := [(b_5, [(Sl.v t15_1), (VI t25_1)]), (b_4, [(Sl.v t7_1)]), (b_3, [(Sl.v nilSl), (VI 0)]), (b_2, [(Sl.v nilSl)]), (b_1, [(Sl.v x_15), (VI x_16), (Value.int .u64 x_17)])]) rfl (fun h_15 hf_9 hL_15 => ?_)
    have H := H  h_15  (Fr.old (Fr.r (In []) _) hf_9) hL_15
    exact ⟨t15_1, t25_1, x_15, x_16, x_17, rfl, H, hL_15⟩
   have H := H.2 hb_6
   refine pop_ieq .i64 _ _ t17_1 1 ?_
   refine condM_b (fun hb_7 => ?_) (fun hb_7 => ?_)
   rotate_left
   ·have H := H.2 hb_7
    refine pop_ieq .i64 _ _ t17_1 2 ?_
    refine condM_b (fun hb_8 => ?_) (fun hb_8 => ?_)
    rotate_left
    ·have H := H.2 hb_8
     exact ⟨t15_1, t15_2, x_12, x_13, x_14, rfl, H, hL_12⟩
    have H := H.1 hb_8
    refine pop_field 0 fld43_0 b_5 0 ?_
    refine rop_loc one34 hL_12 0 rfl 0 (v := (Sl.v t15_1)) rfl ?_
    refine H.mono fun rv_13 h_24 H => ?_
    obtain ⟨t44_1, rfl, hL_24, H⟩ := H
    refine H.mono fun rv_14 h_25 H => ?_
    obtain ⟨t45_1, rfl, hL_25, H⟩ := H
    refine pop_field 0 fld43_0 b_5 0 ?_
    refine uop_loc siz34 hL_25 0 rfl 0 [(Sl.v t45_1)] rfl rfl rfl (Nat.le_of_ble_eq_true rfl) (L' := [(b_5, [(Sl.v t45_1), (VI t15_2)]), (b_4, [(Sl.v t7_1)]), (b_3, [(Sl.v nilSl), (VI 0)]), (b_2, [(Sl.v nilSl)]), (b_1, [(Sl.v x_12), (VI x_13), (Value.int .u64 x_14)])]) rfl (fun h_26 hf_10 hL_26 => ?_)
    have H := H  h_26  (Fr.old (Fr.r (In []) _) hf_10) hL_26
    exact ⟨t45_1, t15_2, x_12, x_13, x_14, rfl, H, hL_26⟩
   have H := H.1 hb_7
   refine pop_field 0 fld43_0 b_5 0 ?_
   refine rop_loc one34 hL_12 0 rfl 0 (v := (Sl.v t15_1)) rfl ?_
   refine pop_field 0 fld43_0 b_5 0 ?_
   refine rop_loc one34 hL_12 0 rfl 0 (v := (Sl.v t15_1)) rfl ?_
   refine pop_len t15_1 _ _ sli34 ?_
   refine ⟨?_, ?_⟩
   ·have H := H.1
    refine H.mono fun rv_7 h_16 H => ?_
    obtain ⟨x_18, x_19, x_20, t35_1, rfl, hL_16, H⟩ := H
    refine ⟨?_, ?_⟩
    ·exact still_loc one34 hL_16 0 rfl 0 (v := (Sl.v t15_1)) rfl
    refine ⟨?_, ?_⟩
    ·exact still_loc one34 hL_16 0 rfl 0 (v := (Sl.v t15_1)) rfl
    refine H.mono fun rv_8 h_17 H => ?_
    obtain ⟨t37_1, rfl, hL_17, H⟩ := H
    refine ⟨?_, ?_⟩
    ·exact still_loc one34 hL_17 0 rfl 0 (v := (Sl.v t15_1)) rfl
    refine ⟨?_, ?_⟩
    ·exact still_loc one34 hL_17 0 rfl 0 (v := (Sl.v t15_1)) rfl
    refine H.mono fun rv_9 h_18 H => ?_
    obtain ⟨x_21, x_22, x_23, t38_1, rfl, hL_18, H⟩ := H
    refine ⟨?_, ?_⟩
    ·exact still_loc one34 hL_18 0 rfl 0 (v := (Sl.v t15_1)) rfl
    refine ⟨?_, ?_⟩
    ·exact still_loc one34 hL_18 0 rfl 0 (v := (Sl.v t15_1)) rfl
    obtain ⟨hi_1, H⟩ := H
    refine pop_index sli34 siz3 .i64 t15_1 t35_1 hi_1 ?_
    obtain ⟨hw_1, hL_19, H⟩ := H
    refine uop_cell (v := (VI t38_1)) siz3 hw_1 rfl (fun h_19 he_1 => ?_)
    rw [← he_1] at hL_19
    have H := H h_19 he_1 hL_19
    exact ⟨t15_1, t15_2, x_21, x_22, x_23, rfl, H, hL_19⟩
   have H := H.2
   refine H.mono fun rv_10 h_20 H => ?_
   obtain ⟨t37_2, rfl, hL_20, H⟩ := H
   refine ⟨?_, ?_⟩
   ·exact still_loc one34 hL_20 0 rfl 0 (v := (Sl.v t15_1)) rfl
   refine ⟨?_, ?_⟩
   ·exact still_loc one34 hL_20 0 rfl 0 (v := (Sl.v t15_1)) rfl
   refine H.mono fun rv_11 h_21 H => ?_
   obtain ⟨x_24, x_25, x_26, t35_2, rfl, hL_21, H⟩ := H
   refine ⟨?_, ?_⟩
   ·exact still_loc one34 hL_21 0 rfl 0 (v := (Sl.v t15_1)) rfl
   refine ⟨?_, ?_⟩
   ·exact still_loc one34 hL_21 0 rfl 0 (v := (Sl.v t15_1)) rfl
   refine H.mono fun rv_12 h_22 H => ?_
   obtain ⟨x_27, x_28, x_29, t38_2, rfl, hL_22, H⟩ := H
   refine ⟨?_, ?_⟩
   ·exact still_loc one34 hL_22 0 rfl 0 (v := (Sl.v t15_1)) rfl
   refine ⟨?_, ?_⟩
   ·exact still_loc one34 hL_22 0 rfl 0 (v := (Sl.v t15_1)) rfl
   obtain ⟨hi_2, H⟩ := H
   refine pop_index sli34 siz3 .i64 t15_1 t35_2 hi_2 ?_
   obtain ⟨hw_2, hL_23, H⟩ := H
   refine uop_cell (v := (VI t38_2)) siz3 hw_2 rfl (fun h_23 he_2 => ?_)
   rw [← he_2] at hL_23
   have H := H h_23 he_2 hL_23
   exact ⟨t15_1, t15_2, x_27, x_28, x_29, rfl, H, hL_23⟩
  intro junk_1  h_27
  rintro ⟨x_7, x_8, x_9, x_10, x_11, hv, hJ_1, hL_27⟩
  have H := HB_1 x_7 x_8 x_9 x_10 x_11 h_27 hJ_1 hL_27
  refine rop_locA agg41 hL_27 1 rfl 0 (vs := [(Sl.v t7_1)]) rfl rfl ?_
  refine rop_locA agg43 hL_27 0 rfl 0 (vs := [(Sl.v x_7), (VI x_8)]) rfl rfl ?_
  refine uop_loc siz41 hL_27 3 rfl 0 [(Sl.v t7_1)] rfl rfl rfl (Nat.le_of_ble_eq_true rfl) (L' := [(b_5, [(Sl.v x_7), (VI x_8)]), (b_4, [(Sl.v t7_1)]), (b_3, [(Sl.v nilSl), (VI 0)]), (b_2, [(Sl.v t7_1)]), (b_1, [(Sl.v x_9), (VI x_10), (Value.int .u64 x_11)])]) rfl (fun h_28 hf_11 hL_28 => ?_)
  have H := H  h_28  (Fr.old (Fr.r (In []) _) hf_11) hL_28
  refine ⟨?_, ?_⟩
  ·exact still_locA agg43 hL_28 0 rfl 0 (vs := [(Sl.v x_7), (VI x_8)]) rfl rfl
  refine uop_loc siz43 hL_28 2 rfl 0 [(Sl.v x_7), (VI x_8)] rfl rfl rfl (Nat.le_of_ble_eq_true rfl) (L' := [(b_5, [(Sl.v x_7), (VI x_8)]), (b_4, [(Sl.v t7_1)]), (b_3, [(Sl.v x_7), (VI x_8)]), (b_2, [(Sl.v t7_1)]), (b_1, [(Sl.v x_9), (VI x_10), (Value.int .u64 x_11)])]) rfl (fun h_29 hf_12 hL_29 => ?_)
  refine rop_locA agg41 hL_29 3 rfl 0 (vs := [(Sl.v t7_1)]) rfl rfl ?_
  refine rop_locA agg43 hL_29 2 rfl 0 (vs := [(Sl.v x_7), (VI x_8)]) rfl rfl ?_
  have H := H  h_29  (Fr.old (Fr.r (In []) _) hf_12) hL_29
  exact H
def u104 (P : Program) (b_1 : Nat) (c0_1 : Sl) (c0_2 : Int) (c0_3 : Int) (h : Heap) (K : Value → Heap → Prop) : Prop :=
  callM P 121 #[(VP b_1 0), (VI 12)] h fun rv_1 h_1 => ∃ x_1 : Sl, ∃ x_2 : Int, ∃ x_3 : Int, ∃ t4_1 : Bool, rv_1 = (VB t4_1) ∧ Vars h_1 [(b_1, [(Sl.v x_1), (VI x_2), (Value.int .u64 x_3)])] ∧
  (t4_1 = true →
  eop P (Instr.buildSlice 34 6 #[(0, (Value.int IntKind.i64 (-1))), (1, (Value.int IntKind.i64 0)), (2, (Value.int IntKind.i64 200)), (3, (Value.int IntKind.i64 201)), (4, (Value.int IntKind.i64 2000)), (5, (Value.int IntKind.i64 2001))]) h_1 fun rv_2 h_2 => ∃ t6_1 : Sl, rv_2 = (Sl.v t6_1) ∧ Vars h_2 [(b_1, [(Sl.v x_1), (VI x_2), (Value.int .u64 x_3)])] ∧
  callM P 120 #[(VP b_1 0), (Sl.v t6_1)] h_2 fun rv_3 h_3 => ∃ x_4 : Sl, ∃ x_5 : Int, ∃ x_6 : Int, ∃ t7_1 : Int, rv_3 = (VI t7_1) ∧ Vars h_3 [(b_1, [(Sl.v x_4), (VI x_5), (Value.int .u64 x_6)])] ∧
  K (VI t7_1) h_3) ∧
  (t4_1 = false →
  callM P 119 #[(VP b_1 0), (VI 40)] h_1 fun rv_4 h_4 => ∃ x_7 : Sl, ∃ x_8 : Int, ∃ x_9 : Int, ∃ t9_1 : Int, rv_4 = (VI t9_1) ∧ Vars h_4 [(b_1, [(Sl.v x_7), (VI x_8), (Value.int .u64 x_9)])] ∧
  K (VI t9_1) h_4)
theorem v104 (b_1 : Nat) (c0_1 : Sl) (c0_2 : Int) (c0_3 : Int) (h : Heap) (K : Value → Heap → Prop) (hL : Vars h [(b_1, [(Sl.v c0_1), (VI c0_2), (Value.int .u64 c0_3)])]) (H : u104 Tryd.prog b_1 c0_1 c0_2 c0_3 h K) : callM Tryd.prog 104 #[(VP b_1 0)] h K := by
  refine c104 (VP b_1 0) h K ?_
  unfold u104 at H
  unfold t104
  refine H.mono fun rv_1 h_1 H => ?_
  obtain ⟨x_1, x_2, x_3, t4_1, rfl, hL_1, H⟩ := H
  refine condM_b (fun hb_1 => ?_) (fun hb_1 => ?_)
  rotate_left
  ·have H := H.2 hb_1
   refine H.mono fun rv_4 h_4 H => ?_
   obtain ⟨x_7, x_8, x_9, t9_1, rfl, hL_4, H⟩ := H
   exact H
  have H := H.1 hb_1
  refine H.mono fun rv_2 h_2 H => ?_
  obtain ⟨t6_1, rfl, hL_2, H⟩ := H
  refine H.mono fun rv_3 h_3 H => ?_
  obtain ⟨x_4, x_5, x_6, t7_1, rfl, hL_3, H⟩ := H
  exact H
def u105 (P : Program) (s0_1 : Sl) (h : Heap) (K : Value → Heap → Prop) : Prop :=
  pop P (binE .eql 34 (.tmp 3) (.const (Value.slice none 0 0)) (Sl.v s0_1) (Value.slice none 0 0)) fun rv_1 => ∃ t4_1 : Bool, rv_1 = (VB t4_1) ∧ 
  (t4_1 = true →
  K (Sl.v nilSl) h) ∧
  (t4_1 = false →
  eop P (Instr.buildSlice 34 0 #[]) h fun rv_2 h_1 => ∃ t5_1 : Sl, rv_2 = (Sl.v t5_1) ∧ Vars h_1 [] ∧
  eop P (appS 34 34 34 (Sl.v t5_1) (Sl.v s0_1)) h_1 fun rv_3 h_2 => ∃ t7_1 : Sl, rv_3 = (Sl.v t7_1) ∧ Vars h_2 [] ∧
  K (Sl.v t7_1) h_2)
theorem v105 (s0_1 : Sl) (h : Heap) (K : Value → Heap → Prop) (H : u105 Tryd.prog s0_1 h K) : callM Tryd.prog 105 #[(Sl.v s0_1)] h K := by
  refine c105 (Sl.v s0_1) h K ?_
  unfold u105 at H
  unfold t105
  have hL : Vars h [] := .nil
  refine H.mono fun rv_1 H => ?_
  obtain ⟨t4_1, rfl, H⟩ := H
  refine condM_b (fun hb_1 => ?_) (fun hb_1 => ?_)
  ·have H := H.1 hb_1
   exact H
  have H := H.2 hb_1
  refine H.mono fun rv_2 h_1 H => ?_
  obtain ⟨t5_1, rfl, hL_1, H⟩ := H
  refine H.mono fun rv_3 h_2 H => ?_
  obtain ⟨t7_1, rfl, hL_2, H⟩ := H
  exact H
def u106 (P : Program) (g0_1 : Sl) (h : Heap) (K : Value → Heap → Prop) : Prop :=
  ∀ (b_1 : Nat) (h_1 : Heap), h.size ≤ b_1 → Fr (In []) h h_1 → Vars h_1 [(b_1, [(Sl.v g0_1)])] →
  callM P 51 #[(VI (g0_1.n : Int)), (VI 1), (VI 8)] h_1 fun rv_1 h_2 => ∃ t10_1 : Bool, rv_1 = (VB t10_1) ∧ Vars h_2 [(b_1, [(Sl.v g0_1)])] ∧
  ((!t10_1) = true →
  K (VB false) h_2) ∧
  ((!t10_1) = false →
  ∃ J_1 : Nat → Int → Heap → Prop, (∃ n0 : Nat, J_1 n0 0 h_2) ∧
  ∀ (n_1 : Nat) (t15_1 : Int) (h_3 : Heap), J_1 n_1 t15_1 h_3 → Vars h_3 [(b_1, [(Sl.v g0_1)])] →
  ((decide (t15_1 < (g0_1.n : Int))) = true →
  InB g0_1 t15_1 ∧
  ∃ t18_1 : Sl, hcell h_3 (Sl.at g0_1 t15_1 1) = some (Sl.v t18_1) ∧
  ((decide (5 < (t18_1.n : Int))) = true →
  K (VB false) h_3) ∧
  ((decide (5 < (t18_1.n : Int))) = false →
  callM P 52 #[(Sl.v t18_1), (VI 0), (VI (w64 ((g0_1.n : Int) - 1)))] h_3 fun rv_2 h_4 => ∃ t26_1 : Bool, rv_2 = (VB t26_1) ∧ Vars h_4 [(b_1, [(Sl.v g0_1)])] ∧
  ((!t26_1) = true →
  K (VB false) h_4) ∧
  ((!t26_1) = false →
  ∃ m : Nat, m < n_1 ∧ J_1 m (w64 (t15_1 + 1)) h_4))) ∧
  ((decide (t15_1 < (g0_1.n : Int))) = false →
  K (VB true) h_3))
theorem v106 (g0_1 : Sl) (h : Heap) (K : Value → Heap → Prop) (H : u106 Tryd.prog g0_1 h K) : callM Tryd.prog 106 #[(Value.agg #[(Sl.v g0_1)])] h K := by
  refine c106 (Value.agg #[(Sl.v g0_1)]) h K ?_
  unfold u106 at H
  unfold t106
  have hL : Vars h [] := .nil
  refine eop_box 41 (Value.agg #[(Sl.v g0_1)]) rfl hL (fun b_1 h_1 hb_1 hf_1 hL_1 => ?_)
  refine pop_field 0 fld41_0 b_1 0 ?_
  refine rop_loc one22 hL_1 0 rfl 0 (v := (Sl.v g0_1)) rfl ?_
  refine pop_len g0_1 _ _ sli22 ?_
  have H := H b_1 h_1 (Nat.le_trans (Fr.size (Fr.r (In []) _)) hb_1) (Fr.no' (Fr.r (In []) _) hf_1) hL_1
  refine H.mono fun rv_1 h_2 H => ?_
  obtain ⟨t10_1, rfl, hL_2, H⟩ := H
  refine pop_not t10_1 ?_
  refine condM_b (fun hb_2 => ?_) (fun hb_2 => ?_)
  ·have H := H.1 hb_2
   exact H
  have H := H.2 hb_2
  refine pop_field 0 fld41_0 b_1 0 ?_
  refine rop_loc one22 hL_2 0 rfl 0 (v := (Sl.v g0_1)) rfl ?_
  refine pop_len g0_1 _ _ sli22 ?_
  obtain ⟨J_1, ⟨n_2, h0_1⟩, HB_1⟩ := H
  refine loop_intro (J := fun (n : Nat) (vs : List Value) (h' : Heap) => ∃ t15_1 : Int, vs = [(VI t15_1)] ∧ J_1 n t15_1 h' ∧ Vars h' [(b_1, [(Sl.v g0_1)])]) n_2 ⟨0, rfl, h0_1, hL_2⟩ ?_
  intro I_1 mu_1 hI_1 junk_1 tv_1 h_3 hi_1
  obtain ⟨n_1, ⟨t15_1, hv, hJ_1, hL_3⟩, hn_1⟩ := hI_1 _ _ hi_1
  cases hv
  have H := HB_1 n_1 t15_1 h_3 hJ_1 hL_3
  refine pop_lss .i64 t15_1 (g0_1.n : Int) ?_
  refine condM_b (fun hb_3 => ?_) (fun hb_3 => ?_)
  rotate_left
  ·have H := H.2 hb_3
   exact H
  have H := H.1 hb_3
  obtain ⟨hi_2, H⟩ := H
  refine pop_index sli22 siz34 .i64 g0_1 t15_1 hi_2 ?_
  obtain ⟨t18_1, hc_1, H⟩ := H
  refine rop_one one34 (Sl.v t18_1) hc_1 ?_
  refine pop_len t18_1 _ _ sli34 ?_
  refine pop_gtr .i64 (t18_1.n : Int) 5 ?_
  refine guardM_sf (fun hb_4 => ?_) (fun hb_4 => ?_)
  rotate_left
  ·have H := H.1 hb_4
   refine guardM_n' hb_4 (by decide) ?_
   refine guardM_n' hb_4 (by decide) ?_
   refine guardM_n' hb_4 (by decide) ?_
   refine guardM_n' hb_4 (by decide) ?_
   refine pop_pickt' hb_4 ?_
   refine condM_t ?_
   exact H
  have H := H.2 hb_4
  refine guardM_y' hb_4 ?_
  refine guardM_y' hb_4 ?_
  refine pop_sub .i64 (g0_1.n : Int) 1 ?_
  refine guardM_y' hb_4 ?_
  refine H.mono fun rv_2 h_4 H => ?_
  obtain ⟨t26_1, rfl, hL_4, H⟩ := H
  refine guardM_y' hb_4 ?_
  refine pop_not t26_1 ?_
  refine pop_pickf' hb_4 ?_
  refine condM_b (fun hb_5 => ?_) (fun hb_5 => ?_)
  ·have H := H.1 hb_5
   exact H
  have H := H.2 hb_5
  refine pop_add .i64 t15_1 1 ?_
  obtain ⟨m_1, hm_1, H⟩ := H
  exact hn_1 _ _ ⟨m_1, hm_1, (w64 (t15_1 + 1)), rfl, H, hL_4⟩
def u109 (P : Program) (g0_1 : Sl) (h : Heap) (K : Value → Heap → Prop) : Prop :=
  ∀ (b_1 : Nat) (b_2 : Nat) (h_3 : Heap), h.size ≤ b_1 → h.size ≤ b_2 → Fr (In []) h h_3 → Vars h_3 [(b_2, [(VI (g0_1.n : Int))]), (b_1, [(Sl.v g0_1)])] →
  callM P 55 #[(VI (g0_1.n : Int)), (VI 1), (VI 8)] h_3 fun rv_1 h_4 => ∃ t10_1 : Bool, rv_1 = (VB t10_1) ∧ Vars h_4 [(b_2, [(VI (g0_1.n : Int))]), (b_1, [(Sl.v g0_1)])] ∧
  ((!t10_1) = true →
  K (VB false) h_4) ∧
  ((!t10_1) = false →
  ∃ J_1 : Nat → Int → Int → Heap → Prop, (∃ n0 : Nat, J_1 n0 0 (g0_1.n : Int) h_4) ∧
  ∀ (n_1 : Nat) (t15_1 : Int) (x_1 : Int) (h_5 : Heap), J_1 n_1 t15_1 x_1 h_5 → Vars h_5 [(b_2, [(VI x_1)]), (b_1, [(Sl.v g0_1)])] →
  ((decide (t15_1 < (g0_1.n : Int))) = true →
  InB g0_1 t15_1 ∧
  ∃ t18_1 : Sl, hcell h_5 (Sl.at g0_1 t15_1 1) = some (Sl.v t18_1) ∧
  ((decide (5 < (t18_1.n : Int))) = true →
  K (VB false) h_5) ∧
  ((decide (5 < (t18_1.n : Int))) = false →
  callM P 56 #[(Sl.v t18_1), (Value.func (Fn.func 123) #[] #[(VP b_2 0)])] h_5 fun rv_2 h_6 => ∃ x_2 : Int, ∃ t25_1 : Bool, rv_2 = (VB t25_1) ∧ Vars h_6 [(b_2, [(VI x_2)]), (b_1, [(Sl.v g0_1)])] ∧
  (t25_1 = true →
  K (VB false) h_6) ∧
  (t25_1 = false →
  ∃ m : Nat, m < n_1 ∧ J_1 m (w64 (t15_1 + 1)) x_2 h_6))) ∧
  ((decide (t15_1 < (g0_1.n : Int))) = false →
  K (VB true) h_5))
theorem v109 (g0_1 : Sl) (h : Heap) (K : Value → Heap → Prop) (H : u109 Tryd.prog g0_1 h K) : callM Tryd.prog 109 #[(Value.agg #[(Sl.v g0_1)])] h K := by
  refine c109 (Value.agg #[(Sl.v g0_1)]) h K ?_
  unfold u109 at H
  unfold t109
  have hL : Vars h [] := .nil
  refine eop_box 41 (Value.agg #[(Sl.v g0_1)]) rfl hL (fun b_1 h_1 hb_1 hf_1 hL_1 => ?_)
  refine pop_field 0 fld41_0 b_1 0 ?_
  refine rop_loc one22 hL_1 0 rfl 0 (v := (Sl.v g0_1)) rfl ?_
  refine pop_len g0_1 _ _ sli22 ?_
  refine eop_alloc 3 zer3 rfl hL_1 (fun b_2 h_2 hb_2 hf_2 hL_2 => ?_)
  refine uop_loc siz3 hL_2 0 rfl 0 [(VI (g0_1.n : Int))] rfl rfl rfl (Nat.le_of_ble_eq_true rfl) (L' := [(b_2, [(VI (g0_1.n : Int))]), (b_1, [(Sl.v g0_1)])]) rfl (fun h_3 hf_3 hL_3 => ?_)
  refine rop_loc one3 hL_3 0 rfl 0 (v := (VI (g0_1.n : Int))) rfl ?_
  have H := H b_1 b_2 h_3 (Nat.le_trans (Fr.size (Fr.r (In []) _)) hb_1) (Nat.le_trans (Fr.size (Fr.no' (Fr.r (In []) _) hf_1)) hb_2) (Fr.new (Fr.no' (Fr.no' (Fr.r (In []) _) hf_1) hf_2) (Nat.le_trans (Fr.size (Fr.no' (Fr.r (In []) _) hf_1)) hb_2) hf_3) hL_3
  refine H.mono fun rv_1 h_4 H => ?_
  obtain ⟨t10_1, rfl, hL_4, H⟩ := H
  refine pop_not t10_1 ?_
  refine condM_b (fun hb_3 => ?_) (fun hb_3 => ?_)
  ·have H := H.1 hb_3
   exact H
  have H := H.2 hb_3
  refine pop_field 0 fld41_0 b_1 0 ?_
  refine rop_loc one22 hL_4 1 rfl 0 (v := (Sl.v g0_1)) rfl ?_
  refine pop_len g0_1 _ _ sli22 ?_
  obtain ⟨J_1, ⟨n_2, h0_1⟩, HB_1⟩ := H
  refine loop_intro (J := fun (n : Nat) (vs : List Value) (h' : Heap) => ∃ t15_1 : Int, ∃ x_1 : Int, vs = [(VI t15_1)] ∧ J_1 n t15_1 x_1 h' ∧ Vars h' [(b_2, [(VI x_1)]), (b_1, [(Sl.v g0_1)])]) n_2 ⟨0, (g0_1.n : Int), rfl, h0_1, hL_4⟩ ?_
  intro I_1 mu_1 hI_1 junk_1 tv_1 h_5 hi_1
  obtain ⟨n_1, ⟨t15_1, x_1, hv, hJ_1, hL_5⟩, hn_1⟩ := hI_1 _ _ hi_1
  cases hv
  have H := HB_1 n_1 t15_1 x_1 h_5 hJ_1 hL_5
  refine pop_lss .i64 t15_1 (g0_1.n : Int) ?_
  refine condM_b (fun hb_4 => ?_) (fun hb_4 => ?_)
  rotate_left
  ·have H := H.2 hb_4
   exact H
  have H := H.1 hb_4
  obtain ⟨hi_2, H⟩ := H
  refine pop_index sli22 siz34 .i64 g0_1 t15_1 hi_2 ?_
  obtain ⟨t18_1, hc_1, H⟩ := H
  refine rop_one one34 (Sl.v t18_1) hc_1 ?_
  refine pop_len t18_1 _ _ sli34 ?_
  refine pop_gtr .i64 (t18_1.n : Int) 5 ?_
  refine guardM_sf (fun hb_5 => ?_) (fun hb_5 => ?_)
  rotate_left
  ·have H := H.1 hb_5
   refine guardM_n' hb_5 (by decide) ?_
   refine guardM_n' hb_5 (by decide) ?_
   refine pop_pickt' hb_5 ?_
   refine condM_t ?_
   exact H
  have H := H.2 hb_5
  refine guardM_y' hb_5 ?_
  refine pop_func _ _ _ ?_
  refine guardM_y' hb_5 ?_
  refine H.mono fun rv_2 h_6 H => ?_
  obtain ⟨x_2, t25_1, rfl, hL_6, H⟩ := H
  refine pop_pickf' hb_5 ?_
  refine condM_b (fun hb_6 => ?_) (fun hb_6 => ?_)
  ·have H := H.1 hb_6
   exact H
  have H := H.2 hb_6
  refine pop_add .i64 t15_1 1 ?_
  obtain ⟨m_1, hm_1, H⟩ := H
  exact hn_1 _ _ ⟨m_1, hm_1, (w64 (t15_1 + 1)), x_2, rfl, H, hL_6⟩
def u110 (P : Program) (p0_1 : Int) (b_1 : Nat) (t1_1 : Sl) (h : Heap) (K : Value → Heap → Prop) : Prop :=
  callM P 55 #[(VI p0_1), (VI 0), (VI (w64 ((t1_1.n : Int) - 1)))] h fun rv_1 h_1 => ∃ t9_1 : Bool, rv_1 = (VB t9_1) ∧ Vars h_1 [(b_1, [(Sl.v t1_1)])] ∧
  K (VB (!t9_1)) h_1
theorem v110 (p0_1 : Int) (b_1 : Nat) (t1_1 : Sl) (h : Heap) (K : Value → Heap → Prop) (hL : Vars h [(b_1, [(Sl.v t1_1)])]) (H : u110 Tryd.prog p0_1 b_1 t1_1 h K) : callM Tryd.prog 110 #[(VI p0_1), (VP b_1 0)] h K := by
  refine c110 (VI p0_1) (VP b_1 0) h K ?_
  unfold u110 at H
  unfold t110
  refine pop_field 0 fld41_0 b_1 0 ?_
  refine rop_loc one22 hL 0 rfl 0 (v := (Sl.v t1_1)) rfl ?_
  refine pop_len t1_1 _ _ sli22 ?_
  refine pop_sub .i64 (t1_1.n : Int) 1 ?_
  refine H.mono fun rv_1 h_1 H => ?_
  obtain ⟨t9_1, rfl, hL_1, H⟩ := H
  refine pop_not t9_1 ?_
  exact H
def u117 (P : Program) (b_1 : Nat) (c0_1 : Sl) (c0_2 : Int) (c0_3 : Int) (h : Heap) (K : Value → Heap → Prop) : Prop :=
  ∀ (b_2 : Nat) (h_1 : Heap), h.size ≤ b_2 → Fr (In []) h h_1 → Vars h_1 [(b_2, [(Sl.v nilSl)]), (b_1, [(Sl.v c0_1), (VI c0_2), (Value.int .u64 c0_3)])] →
  callM P 128 #[(VP b_1 0), (VI 6)] h_1 fun rv_1 h_2 => ∃ x_1 : Sl, ∃ x_2 : Int, ∃ x_3 : Int, ∃ t5_1 : Sl, rv_1 = (Value.agg #[(Sl.v t5_1)]) ∧ Vars h_2 [(b_2, [(Sl.v nilSl)]), (b_1, [(Sl.v x_1), (VI x_2), (Value.int .u64 x_3)])] ∧
  ∀ (b_3 : Nat) (h_4 : Heap), h_2.size ≤ b_3 → Fr (In []) h_2 h_4 → Vars h_4 [(b_3, [(Sl.v t5_1)]), (b_2, [(Sl.v nilSl)]), (b_1, [(Sl.v x_1), (VI x_2), (Value.int .u64 x_3)])] →
  callM P 119 #[(VP b_1 0), (VI 16)] h_4 fun rv_2 h_5 => ∃ x_4 : Sl, ∃ x_5 : Int, ∃ x_6 : Int, ∃ t7_1 : Int, rv_2 = (VI t7_1) ∧ Vars h_5 [(b_3, [(Sl.v t5_1)]), (b_2, [(Sl.v nilSl)]), (b_1, [(Sl.v x_4), (VI x_5), (Value.int .u64 x_6)])] ∧
  ((decide (t7_1 = 0)) = true →
  InB t5_1 0 ∧
  ∃ t15_1 : Sl, hcell h_5 (Sl.at t5_1 0 1) = some (Sl.v t15_1) ∧
  eop P (Instr.buildSlice 34 3 #[(0, (Value.int IntKind.i64 (-1))), (1, (VI (t5_1.n : Int))), (2, (Value.int IntKind.i64 4611686018427387904))]) h_5 fun rv_3 h_6 => ∃ t20_1 : Sl, rv_3 = (Sl.v t20_1) ∧ Vars h_6 [(b_3, [(Sl.v t5_1)]), (b_2, [(Sl.v nilSl)]), (b_1, [(Sl.v x_4), (VI x_5), (Value.int .u64 x_6)])] ∧
  hcell h_6 (Sl.at t5_1 0 1) = some (Sl.v t15_1) ∧
  callM P 120 #[(VP b_1 0), (Sl.v t20_1)] h_6 fun rv_4 h_7 => ∃ x_7 : Sl, ∃ x_8 : Int, ∃ x_9 : Int, ∃ t21_1 : Int, rv_4 = (VI t21_1) ∧ Vars h_7 [(b_3, [(Sl.v t5_1)]), (b_2, [(Sl.v nilSl)]), (b_1, [(Sl.v x_7), (VI x_8), (Value.int .u64 x_9)])] ∧
  hcell h_7 (Sl.at t5_1 0 1) = some (Sl.v t15_1) ∧
  eop P (Instr.buildSlice 34 1 #[(0, (VI t21_1))]) h_7 fun rv_5 h_8 => ∃ t22_1 : Sl, rv_5 = (Sl.v t22_1) ∧ Vars h_8 [(b_3, [(Sl.v t5_1)]), (b_2, [(Sl.v nilSl)]), (b_1, [(Sl.v x_7), (VI x_8), (Value.int .u64 x_9)])] ∧
  hcell h_8 (Sl.at t5_1 0 1) = some (Sl.v t15_1) ∧
  eop P (appS 34 34 34 (Sl.v t15_1) (Sl.v t22_1)) h_8 fun rv_6 h_9 => ∃ t23_1 : Sl, rv_6 = (Sl.v t23_1) ∧ Vars h_9 [(b_3, [(Sl.v t5_1)]), (b_2, [(Sl.v nilSl)]), (b_1, [(Sl.v x_7), (VI x_8), (Value.int .u64 x_9)])] ∧
  InB t5_1 0 ∧
  Writable h_9 (Sl.at t5_1 0 1) ∧ Vars (hset h_9 (Sl.at t5_1 0 1) (Sl.v t23_1)) [(b_3, [(Sl.v t5_1)]), (b_2, [(Sl.v nilSl)]), (b_1, [(Sl.v x_7), (VI x_8), (Value.int .u64 x_9)])] ∧
  ∀ h_10 : Heap, h_10 = hset h_9 (Sl.at t5_1 0 1) (Sl.v t23_1) → Vars h_10 [(b_3, [(Sl.v t5_1)]), (b_2, [(Sl.v nilSl)]), (b_1, [(Sl.v x_7), (VI x_8), (Value.int .u64 x_9)])] →
  ∀ (h_11 : Heap), Fr (In [b_2]) h_10 h_11 → Vars h_11 [(b_3, [(Sl.v t5_1)]), (b_2, [(Sl.v t5_1)]), (b_1, [(Sl.v x_7), (VI x_8), (Value.int .u64 x_9)])] →
  K (Value.agg #[(Sl.v t5_1)]) h_11) ∧
  ((decide (t7_1 = 0)) = false →
  ((decide (t7_1 = 1)) = true →
  callM P 119 #[(VP b_1 0), (VI 2)] h_5 fun rv_7 h_12 => ∃ x_10 : Sl, ∃ x_11 : Int, ∃ x_12 : Int, ∃ t30_1 : Int, rv_7 = (VI t30_1) ∧ Vars h_12 [(b_3, [(Sl.v t5_1)]), (b_2, [(Sl.v nilSl)]), (b_1, [(Sl.v x_10), (VI x_11), (Value.int .u64 x_12)])] ∧
  eop P (Instr.makeSlice 34 (VI (w64 (5 + t30_1))) (VI (w64 (5 + t30_1)))) h_12 fun rv_8 h_13 => ∃ t32_1 : Sl, rv_8 = (Sl.v t32_1) ∧ Vars h_13 [(b_3, [(Sl.v t5_1)]), (b_2, [(Sl.v nilSl)]), (b_1, [(Sl.v x_10), (VI x_11), (Value.int .u64 x_12)])] ∧
  InB t5_1 0 ∧
  Writable h_13 (Sl.at t5_1 0 1) ∧ Vars (hset h_13 (Sl.at t5_1 0 1) (Sl.v t32_1)) [(b_3, [(Sl.v t5_1)]), (b_2, [(Sl.v nilSl)]), (b_1, [(Sl.v x_10), (VI x_11), (Value.int .u64 x_12)])] ∧
  ∀ h_14 : Heap, h_14 = hset h_13 (Sl.at t5_1 0 1) (Sl.v t32_1) → Vars h_14 [(b_3, [(Sl.v t5_1)]), (b_2, [(Sl.v nilSl)]), (b_1, [(Sl.v x_10), (VI x_11), (Value.int .u64 x_12)])] →
  ∀ (h_15 : Heap), Fr (In [b_2]) h_14 h_15 → Vars h_15 [(b_3, [(Sl.v t5_1)]), (b_2, [(Sl.v t5_1)]), (b_1, [(Sl.v x_10), (VI x_11), (Value.int .u64 x_12)])] →
  K (Value.agg #[(Sl.v t5_1)]) h_15) ∧
  ((decide (t7_1 = 1)) = false →
  ((decide (t7_1 = 2)) = true →
  ∃ J_1 : Nat → Sl → Sl → Int → Int → Heap → Prop, (∃ n0 : Nat, J_1 n0 t5_1 x_4 x_5 x_6 h_5) ∧
  ∀ (n_1 : Nat) (x_13 : Sl) (x_14 : Sl) (x_15 : Int) (x_16 : Int) (h_16 : Heap), J_1 n_1 x_13 x_14 x_15 x_16 h_16 → Vars h_16 [(b_3, [(Sl.v x_13)]), (b_2, [(Sl.v nilSl)]), (b_1, [(Sl.v x_14), (VI x_15), (Value.int .u64 x_16)])] →
  callM P 119 #[(VP b_1 0), (VI 2)] h_16 fun rv_9 h_17 => ∃ x_17 : Sl, ∃ x_18 : Int, ∃ x_19 : Int, ∃ t40_1 : Int, rv_9 = (VI t40_1) ∧ Vars h_17 [(b_3, [(Sl.v x_13)]), (b_2, [(Sl.v nilSl)]), (b_1, [(Sl.v x_17), (VI x_18), (Value.int .u64 x_19)])] ∧
  ((decide ((x_13.n : Int) < (w64 (8 + t40_1)))) = true →
  eop P (Instr.buildSlice 34 1 #[(0, (Value.int IntKind.i64 0))]) h_17 fun rv_10 h_18 => ∃ t45_1 : Sl, rv_10 = (Sl.v t45_1) ∧ Vars h_18 [(b_3, [(Sl.v x_13)]), (b_2, [(Sl.v nilSl)]), (b_1, [(Sl.v x_17), (VI x_18), (Value.int .u64 x_19)])] ∧
  eop P (Instr.buildSlice 22 1 #[(0, (Sl.v t45_1))]) h_18 fun rv_11 h_19 => ∃ t46_1 : Sl, rv_11 = (Sl.v t46_1) ∧ Vars h_19 [(b_3, [(Sl.v x_13)]), (b_2, [(Sl.v nilSl)]), (b_1, [(Sl.v x_17), (VI x_18), (Value.int .u64 x_19)])] ∧
  eop P (appS 22 22 22 (Sl.v x_13) (Sl.v t46_1)) h_19 fun rv_12 h_20 => ∃ t47_1 : Sl, rv_12 = (Sl.v t47_1) ∧ Vars h_20 [(b_3, [(Sl.v x_13)]), (b_2, [(Sl.v nilSl)]), (b_1, [(Sl.v x_17), (VI x_18), (Value.int .u64 x_19)])] ∧
  ∀ (h_21 : Heap), Fr (In [b_3]) h_20 h_21 → Vars h_21 [(b_3, [(Sl.v t47_1)]), (b_2, [(Sl.v nilSl)]), (b_1, [(Sl.v x_17), (VI x_18), (Value.int .u64 x_19)])] →
  ∃ m : Nat, m < n_1 ∧ J_1 m t47_1 x_17 x_18 x_19 h_21) ∧
  ((decide ((x_13.n : Int) < (w64 (8 + t40_1)))) = false →
  ∀ (h_22 : Heap), Fr (In [b_2]) h_17 h_22 → Vars h_22 [(b_3, [(Sl.v x_13)]), (b_2, [(Sl.v x_13)]), (b_1, [(Sl.v x_17), (VI x_18), (Value.int .u64 x_19)])] →
  K (Value.agg #[(Sl.v x_13)]) h_22)) ∧
  ((decide (t7_1 = 2)) = false →
  ((decide (t7_1 = 3)) = true →
  ∀ (h_24 : Heap), Fr (In [b_2, b_3]) h_5 h_24 → Vars h_24 [(b_3, [(Sl.v nilSl)]), (b_2, [(Sl.v nilSl)]), (b_1, [(Sl.v x_4), (VI x_5), (Value.int .u64 x_6)])] →
  K (Value.agg #[(Sl.v nilSl)]) h_24) ∧
  ((decide (t7_1 = 3)) = false →
  ∀ (h_25 : Heap), Fr (In [b_2]) h_5 h_25 → Vars h_25 [(b_3, [(Sl.v t5_1)]), (b_2, [(Sl.v t5_1)]), (b_1, [(Sl.v x_4), (VI x_5), (Value.int .u64 x_6)])] →
  K (Value.agg #[(Sl.v t5_1)]) h_25))))
theorem v117 (b_1 : Nat) (c0_1 : Sl) (c0_2 : Int) (c0_3 : Int) (h : Heap) (K : Value → Heap → Prop) (hL : Vars h [(b_1, [(Sl.v c0_1), (VI c0_2), (Value.int .u64 c0_3)])]) (H : u117 Tryd.prog b_1 c0_1 c0_2 c0_3 h K) : callM Tryd.prog 117 #[(VP b_1 0)] h K := by
  refine c117 (VP b_1 0) h K ?_
  unfold u117 at H
  unfold t117
  refine eop_alloc 41 zer41 rfl hL (fun b_2 h_1 hb_1 hf_1 hL_1 => ?_)
  have H := H b_2 h_1 (Nat.le_trans (Fr.size (Fr.r (In []) _)) hb_1) (Fr.no' (Fr.r (In []) _) hf_1) hL_1
  refine H.mono fun rv_1 h_2 H => ?_
  obtain ⟨x_1, x_2, x_3, t5_1, rfl, hL_2, H⟩ := H
  refine eop_alloc 41 zer41 rfl hL_2 (fun b_3 h_3 hb_2 hf_2 hL_3 => ?_)
  refine uop_loc siz41 hL_3 0 rfl 0 [(Sl.v t5_1)] rfl rfl rfl (Nat.le_of_ble_eq_true rfl) (L' := [(b_3, [(Sl.v t5_1)]), (b_2, [(Sl.v nilSl)]), (b_1, [(Sl.v x_1), (VI x_2), (Value.int .u64 x_3)])]) rfl (fun h_4 hf_3 hL_4 => ?_)
  have H := H b_3 h_4 (Nat.le_trans (Fr.size (Fr.r (In []) _)) hb_2) (Fr.new (Fr.no' (Fr.r (In []) _) hf_2) (Nat.le_trans (Fr.size (Fr.r (In []) _)) hb_2) hf_3) hL_4
  refine H.mono fun rv_2 h_5 H => ?_
  obtain ⟨x_4, x_5, x_6, t7_1, rfl, hL_5, H⟩ := H
  refine pop_ieq .i64 _ _ t7_1 0 ?_
  refine condM_b (fun hb_3 => ?_) (fun hb_3 => ?_)
  ·have H := H.1 hb_3
   refine pop_field 0 fld41_0 b_3 0 ?_
   refine rop_loc one22 hL_5 0 rfl 0 (v := (Sl.v t5_1)) rfl ?_
   refine pop_field 0 fld41_0 b_3 0 ?_
   refine rop_loc one22 hL_5 0 rfl 0 (v := (Sl.v t5_1)) rfl ?_
   obtain ⟨hi_1, H⟩ := H
   refine pop_index sli22 siz34 .i64 t5_1 0 hi_1 ?_
   obtain ⟨t15_1, hc_4, H⟩ := H
   refine rop_one one34 (Sl.v t15_1) hc_4 ?_
   refine pop_field 0 fld41_0 b_3 0 ?_
   refine rop_loc one22 hL_5 0 rfl 0 (v := (Sl.v t5_1)) rfl ?_
   refine pop_len t5_1 _ _ sli22 ?_
   refine H.mono fun rv_3 h_6 H => ?_
   obtain ⟨t20_1, rfl, hL_6, H⟩ := H
   refine ⟨?_, ?_⟩
   ·exact still_loc one22 hL_6 0 rfl 0 (v := (Sl.v t5_1)) rfl
   refine ⟨?_, ?_⟩
   ·exact still_one one34 H.1
   obtain ⟨hc_1, H⟩ := H
   refine ⟨?_, ?_⟩
   ·exact still_loc one22 hL_6 0 rfl 0 (v := (Sl.v t5_1)) rfl
   refine ⟨?_, ?_⟩
   ·exact still_loc one22 hL_6 0 rfl 0 (v := (Sl.v t5_1)) rfl
   refine H.mono fun rv_4 h_7 H => ?_
   obtain ⟨x_7, x_8, x_9, t21_1, rfl, hL_7, H⟩ := H
   refine ⟨?_, ?_⟩
   ·exact still_loc one22 hL_7 0 rfl 0 (v := (Sl.v t5_1)) rfl
   refine ⟨?_, ?_⟩
   ·exact still_one one34 H.1
   obtain ⟨hc_2, H⟩ := H
   refine ⟨?_, ?_⟩
   ·exact still_loc one22 hL_7 0 rfl 0 (v := (Sl.v t5_1)) rfl
   refine ⟨?_, ?_⟩
   ·exact still_loc one22 hL_7 0 rfl 0 (v := (Sl.v t5_1)) rfl
   refine H.mono fun rv_5 h_8 H => ?_
   obtain ⟨t22_1, rfl, hL_8, H⟩ := H
   refine ⟨?_, ?_⟩
   ·exact still_loc one22 hL_8 0 rfl 0 (v := (Sl.v t5_1)) rfl
   refine ⟨?_, ?_⟩
   ·exact still_one one34 H.1
   obtain ⟨hc_3, H⟩ := H
   refine ⟨?_, ?_⟩
   ·exact still_loc one22 hL_8 0 rfl 0 (v := (Sl.v t5_1)) rfl
   refine ⟨?_, ?_⟩
   ·exact still_loc one22 hL_8 0 rfl 0 (v := (Sl.v t5_1)) rfl
   refine H.mono fun rv_6 h_9 H => ?_
   obtain ⟨t23_1, rfl, hL_9, H⟩ := H
   refine ⟨?_, ?_⟩
   ·exact still_loc one22 hL_9 0 rfl 0 (v := (Sl.v t5_1)) rfl
   refine ⟨?_, ?_⟩
   ·exact still_loc one22 hL_9 0 rfl 0 (v := (Sl.v t5_1)) rfl
   refine ⟨?_, ?_⟩
   ·exact still_loc one22 hL_9 0 rfl 0 (v := (Sl.v t5_1)) rfl
   obtain ⟨hi_2, H⟩ := H
   refine pop_index sli22 siz34 .i64 t5_1 0 hi_2 ?_
   obtain ⟨hw_1, hL_10, H⟩ := H
   refine uop_cell (v := (Sl.v t23_1)) siz34 hw_1 rfl (fun h_10 he_1 => ?_)
   rw [← he_1] at hL_10
   have H := H h_10 he_1 hL_10
   refine rop_locA agg41 hL_10 0 rfl 0 (vs := [(Sl.v t5_1)]) rfl rfl ?_
   refine uop_loc siz41 hL_10 1 rfl 0 [(Sl.v t5_1)] rfl rfl rfl (Nat.le_of_ble_eq_true rfl) (L' := [(b_3, [(Sl.v t5_1)]), (b_2, [(Sl.v t5_1)]), (b_1, [(Sl.v x_7), (VI x_8), (Value.int .u64 x_9)])]) rfl (fun h_11 hf_4 hL_11 => ?_)
   refine rop_locA agg41 hL_11 1 rfl 0 (vs := [(Sl.v t5_1)]) rfl rfl ?_
   have H := H  h_11  (Fr.old (Fr.r (In []) _) hf_4) hL_11
   exact H
  have H := H.2 hb_3
  refine pop_ieq .i64 _ _ t7_1 1 ?_
  refine condM_b (fun hb_4 => ?_) (fun hb_4 => ?_)
  ·have H := H.1 hb_4
   refine pop_field 0 fld41_0 b_3 0 ?_
   refine rop_loc one22 hL_5 0 rfl 0 (v := (Sl.v t5_1)) rfl ?_
   refine H.mono fun rv_7 h_12 H => ?_
   obtain ⟨x_10, x_11, x_12, t30_1, rfl, hL_12, H⟩ := H
   refine ⟨?_, ?_⟩
   ·exact still_loc one22 hL_12 0 rfl 0 (v := (Sl.v t5_1)) rfl
   refine pop_add .i64 5 t30_1 ?_
   refine H.mono fun rv_8 h_13 H => ?_
   obtain ⟨t32_1, rfl, hL_13, H⟩ := H
   refine ⟨?_, ?_⟩
   ·exact still_loc one22 hL_13 0 rfl 0 (v := (Sl.v t5_1)) rfl
   obtain ⟨hi_3, H⟩ := H
   refine pop_index sli22 siz34 .i64 t5_1 0 hi_3 ?_
   obtain ⟨hw_2, hL_14, H⟩ := H
   refine uop_cell (v := (Sl.v t32_1)) siz34 hw_2 rfl (fun h_14 he_2 => ?_)
   rw [← he_2] at hL_14
   have H := H h_14 he_2 hL_14
   refine rop_locA agg41 hL_14 0 rfl 0 (vs := [(Sl.v t5_1)]) rfl rfl ?_
   refine uop_loc siz41 hL_14 1 rfl 0 [(Sl.v t5_1)] rfl rfl rfl (Nat.le_of_ble_eq_true rfl) (L' := [(b_3, [(Sl.v t5_1)]), (b_2, [(Sl.v t5_1)]), (b_1, [(Sl.v x_10), (VI x_11), (Value.int .u64 x_12)])]) rfl (fun h_15 hf_5 hL_15 => ?_)
   refine rop_locA agg41 hL_15 1 rfl 0 (vs := [(Sl.v t5_1)]) rfl rfl ?_
   have H := H  h_15  (Fr.old (Fr.r (In []) _) hf_5) hL_15
   exact H
  have H := H.2 hb_4
  refine pop_ieq .i64 _ _ t7_1 2 ?_
  refine condM_b (fun hb_5 => ?_) (fun hb_5 => ?_)
  rotate_left
  ·have H := H.2 hb_5
   refine pop_ieq .i64 _ _ t7_1 3 ?_
   refine condM_b (fun hb_7 => ?_) (fun hb_7 => ?_)
   rotate_left
   ·have H := H.2 hb_7
    refine rop_locA agg41 hL_5 0 rfl 0 (vs := [(Sl.v t5_1)]) rfl rfl ?_
    refine uop_loc siz41 hL_5 1 rfl 0 [(Sl.v t5_1)] rfl rfl rfl (Nat.le_of_ble_eq_true rfl) (L' := [(b_3, [(Sl.v t5_1)]), (b_2, [(Sl.v t5_1)]), (b_1, [(Sl.v x_4), (VI x_5), (Value.int .u64 x_6)])]) rfl (fun h_25 hf_10 hL_25 => ?_)
    refine rop_locA agg41 hL_25 1 rfl 0 (vs := [(Sl.v t5_1)]) rfl rfl ?_
    have H := H  h_25  (Fr.old (Fr.r (In []) _) hf_10) hL_25
    exact H
   have H := H.1 hb_7
   refine pop.mk' (v := (Value.agg #[(Sl.v nilSl)])) (fun w => by kernel_rfl) ?_
   refine uop_loc siz41 hL_5 0 rfl 0 [(Sl.v nilSl)] rfl rfl rfl (Nat.le_of_ble_eq_true rfl) (L' := [(b_3, [(Sl.v nilSl)]), (b_2, [(Sl.v nilSl)]), (b_1, [(Sl.v x_4), (VI x_5), (Value.int .u64 x_6)])]) rfl (fun h_23 hf_8 hL_23 => ?_)
   refine rop_locA agg41 hL_23 0 rfl 0 (vs := [(Sl.v nilSl)]) rfl rfl ?_
   refine uop_loc siz41 hL_23 1 rfl 0 [(Sl.v nilSl)] rfl rfl rfl (Nat.le_of_ble_eq_true rfl) (L' := [(b_3, [(Sl.v nilSl)]), (b_2, [(Sl.v nilSl)]), (b_1, [(Sl.v x_4), (VI x_5), (Value.int .u64 x_6)])]) rfl (fun h_24 hf_9 hL_24 => ?_)
   refine rop_locA agg41 hL_24 1 rfl 0 (vs := [(Sl.v nilSl)]) rfl rfl ?_
   have H := H  h_24  (Fr.old (Fr.old (Fr.r (In []) _) hf_8) hf_9) hL_24
   exact H
  have H := H.1 hb_5
  obtain ⟨J_1, ⟨n_2, h0_1⟩, HB_1⟩ := H
  refine loop_intro (J := fun (n : Nat) (vs : List Value) (h' : Heap) => ∃ x_13 : Sl, ∃ x_14 : Sl, ∃ x_15 : Int, ∃ x_16 : Int, vs = [] ∧ J_1 n x_13 x_14 x_15 x_16 h' ∧ Vars h' [(b_3, [(Sl.v x_13)]), (b_2, [(Sl.v nilSl)]), (b_1, [(Sl.v x_14), (VI x_15), (Value.int .u64 x_16)])]) n_2 ⟨t5_1, x_4, x_5, x_6, rfl, h0_1, hL_5⟩ ?_
  intro I_1 mu_1 hI_1 junk_1  h_16 hi_4
  obtain ⟨n_1, ⟨x_13, x_14, x_15, x_16, hv, hJ_1, hL_16⟩, hn_1⟩ := hI_1 _ _ hi_4
  cases hv
  have H := HB_1 n_1 x_13 x_14 x_15 x_16 h_16 hJ_1 hL_16
  refine pop_field 0 fld41_0 b_3 0 ?_
  refine rop_loc one22 hL_16 0 rfl 0 (v := (Sl.v x_13)) rfl ?_
  refine pop_len x_13 _ _ sli22 ?_
  refine H.mono fun rv_9 h_17 H => ?_
  obtain ⟨x_17, x_18, x_19, t40_1, rfl, hL_17, H⟩ := H
  refine ⟨?_, ?_⟩
  ·exact still_loc one22 hL_17 0 rfl 0 (v := (Sl.v x_13)) rfl
  refine pop_add .i64 8 t40_1 ?_
  refine pop_lss .i64 (x_13.n : Int) (w64 (8 + t40_1)) ?_
  refine condM_b (fun hb_6 => ?_) (fun hb_6 => ?_)
  rotate_left
  ·have H := H.2 hb_6
   refine rop_locA agg41 hL_17 0 rfl 0 (vs := [(Sl.v x_13)]) rfl rfl ?_
   refine uop_loc siz41 hL_17 1 rfl 0 [(Sl.v x_13)] rfl rfl rfl (Nat.le_of_ble_eq_true rfl) (L' := [(b_3, [(Sl.v x_13)]), (b_2, [(Sl.v x_13)]), (b_1, [(Sl.v x_17), (VI x_18), (Value.int .u64 x_19)])]) rfl (fun h_22 hf_7 hL_22 => ?_)
   refine rop_locA agg41 hL_22 1 rfl 0 (vs := [(Sl.v x_13)]) rfl rfl ?_
   have H := H  h_22  (Fr.old (Fr.r (In []) _) hf_7) hL_22
   exact H
  have H := H.1 hb_6
  refine pop_field 0 fld41_0 b_3 0 ?_
  refine rop_loc one22 hL_17 0 rfl 0 (v := (Sl.v x_13)) rfl ?_
  refine H.mono fun rv_10 h_18 H => ?_
  obtain ⟨t45_1, rfl, hL_18, H⟩ := H
  refine H.mono fun rv_11 h_19 H => ?_
  obtain ⟨t46_1, rfl, hL_19, H⟩ := H
  refine H.mono fun rv_12 h_20 H => ?_
  obtain ⟨t47_1, rfl, hL_20, H⟩ := H
  refine pop_field 0 fld41_0 b_3 0 ?_
  refine uop_loc siz22 hL_20 0 rfl 0 [(Sl.v t47_1)] rfl rfl rfl (Nat.le_of_ble_eq_true rfl) (L' := [(b_3, [(Sl.v t47_1)]), (b_2, [(Sl.v nilSl)]), (b_1, [(Sl.v x_17), (VI x_18), (Value.int .u64 x_19)])]) rfl (fun h_21 hf_6 hL_21 => ?_)
  have H := H  h_21  (Fr.old (Fr.r (In []) _) hf_6) hL_21
  obtain ⟨m_1, hm_1, H⟩ := H
  exact hn_1 _ _ ⟨m_1, hm_1, t47_1, x_17, x_18, x_19, rfl, H, hL_21⟩
def u118 (P : Program) (b_1 : Nat) (c0_1 : Sl) (c0_2 : Int) (c0_3 : Int) (g1_1 : Sl) (h : Heap) (K : Value → Heap → Prop) : Prop :=
  ∀ (b_2 : Nat) (b_3 : Nat) (h_2 : Heap), h.size ≤ b_2 → h.size ≤ b_3 → Fr (In []) h h_2 → Vars h_2 [(b_3, [(Sl.v nilSl), (VI 0)]), (b_2, [(Sl.v g1_1)]), (b_1, [(Sl.v c0_1), (VI c0_2), (Value.int .u64 c0_3)])] →
  callM P 119 #[(VP b_1 0), (VI (g1_1.n : Int))] h_2 fun rv_1 h_3 => ∃ x_1 : Sl, ∃ x_2 : Int, ∃ x_3 : Int, ∃ t13_1 : Int, rv_1 = (VI t13_1) ∧ Vars h_3 [(b_3, [(Sl.v nilSl), (VI 0)]), (b_2, [(Sl.v g1_1)]), (b_1, [(Sl.v x_1), (VI x_2), (Value.int .u64 x_3)])] ∧
  ∀ (b_4 : Nat) (h_5 : Heap), h_3.size ≤ b_4 → Fr (In []) h_3 h_5 → Vars h_5 [(b_4, [(Sl.v nilSl), (VI t13_1)]), (b_3, [(Sl.v nilSl), (VI 0)]), (b_2, [(Sl.v g1_1)]), (b_1, [(Sl.v x_1), (VI x_2), (Value.int .u64 x_3)])] →
  ∃ J_1 : Nat → Int → Sl → Int → Sl → Int → Int → Heap → Prop, (∃ n0 : Nat, J_1 n0 0 nilSl t13_1 x_1 x_2 x_3 h_5) ∧
  ∀ (n_1 : Nat) (t18_1 : Int) (x_4 : Sl) (x_5 : Int) (x_6 : Sl) (x_7 : Int) (x_8 : Int) (h_6 : Heap), J_1 n_1 t18_1 x_4 x_5 x_6 x_7 x_8 h_6 → Vars h_6 [(b_4, [(Sl.v x_4), (VI x_5)]), (b_3, [(Sl.v nilSl), (VI 0)]), (b_2, [(Sl.v g1_1)]), (b_1, [(Sl.v x_6), (VI x_7), (Value.int .u64 x_8)])] →
  ((decide (t18_1 < (g1_1.n : Int))) = true →
  InB g1_1 t18_1 ∧
  ∃ t21_1 : Sl, hcell h_6 (Sl.at g1_1 t18_1 1) = some (Sl.v t21_1) ∧
  ∃ J_2 : Int → Sl → Int → Int → Heap → Prop, (((decide (0 < (t21_1.n : Int))) = true →
  callM P 119 #[(VP b_1 0), (VI (t21_1.n : Int))] h_6 fun rv_2 h_7 => ∃ x_13 : Sl, ∃ x_14 : Int, ∃ x_15 : Int, ∃ t28_1 : Int, rv_2 = (VI t28_1) ∧ Vars h_7 [(b_4, [(Sl.v x_4), (VI x_5)]), (b_3, [(Sl.v nilSl), (VI 0)]), (b_2, [(Sl.v g1_1)]), (b_1, [(Sl.v x_13), (VI x_14), (Value.int .u64 x_15)])] ∧
  J_2 t28_1 x_13 x_14 x_15 h_7) ∧
  ((decide (0 < (t21_1.n : Int))) = false →
  J_2 0 x_6 x_7 x_8 h_6)) ∧
  ∀ (x_9 : Int) (x_10 : Sl) (x_11 : Int) (x_12 : Int) (h_8 : Heap), J_2 x_9 x_10 x_11 x_12 h_8 → Vars h_8 [(b_4, [(Sl.v x_4), (VI x_5)]), (b_3, [(Sl.v nilSl), (VI 0)]), (b_2, [(Sl.v g1_1)]), (b_1, [(Sl.v x_10), (VI x_11), (Value.int .u64 x_12)])] →
  eop P (Instr.buildSlice 34 1 #[(0, (VI x_9))]) h_8 fun rv_3 h_9 => ∃ t32_1 : Sl, rv_3 = (Sl.v t32_1) ∧ Vars h_9 [(b_4, [(Sl.v x_4), (VI x_5)]), (b_3, [(Sl.v nilSl), (VI 0)]), (b_2, [(Sl.v g1_1)]), (b_1, [(Sl.v x_10), (VI x_11), (Value.int .u64 x_12)])] ∧
  eop P (appS 34 34 34 (Sl.v x_4) (Sl.v t32_1)) h_9 fun rv_4 h_10 => ∃ t33_1 : Sl, rv_4 = (Sl.v t33_1) ∧ Vars h_10 [(b_4, [(Sl.v x_4), (VI x_5)]), (b_3, [(Sl.v nilSl), (VI 0)]), (b_2, [(Sl.v g1_1)]), (b_1, [(Sl.v x_10), (VI x_11), (Value.int .u64 x_12)])] ∧
  ∀ (h_11 : Heap), Fr (In [b_4]) h_10 h_11 → Vars h_11 [(b_4, [(Sl.v t33_1), (VI x_5)]), (b_3, [(Sl.v nilSl), (VI 0)]), (b_2, [(Sl.v g1_1)]), (b_1, [(Sl.v x_10), (VI x_11), (Value.int .u64 x_12)])] →
  ∃ m : Nat, m < n_1 ∧ J_1 m (w64 (t18_1 + 1)) t33_1 x_5 x_10 x_11 x_12 h_11) ∧
  ((decide (t18_1 < (g1_1.n : Int))) = false →
  ∀ (h_12 : Heap), Fr (In [b_3]) h_6 h_12 → Vars h_12 [(b_4, [(Sl.v x_4), (VI x_5)]), (b_3, [(Sl.v x_4), (VI x_5)]), (b_2, [(Sl.v g1_1)]), (b_1, [(Sl.v x_6), (VI x_7), (Value.int .u64 x_8)])] →
  K (Value.agg #[(Sl.v x_4), (VI x_5)]) h_12)
theorem v118 (b_1 : Nat) (c0_1 : Sl) (c0_2 : Int) (c0_3 : Int) (g1_1 : Sl) (h : Heap) (K : Value → Heap → Prop) (hL : Vars h [(b_1, [(Sl.v c0_1), (VI c0_2), (Value.int .u64 c0_3)])]) (H : u118 Tryd.prog b_1 c0_1 c0_2 c0_3 g1_1 h K) : callM Tryd.prog 118 #[(VP b_1 0), (Value.agg #[(Sl.v g1_1)])] h K := by
  refine c118 (VP b_1 0) (Value.agg #[(Sl.v g1_1)]) h K ?_
  unfold u118 at H
  unfold t118
  refine eop_box 41 (Value.agg #[(Sl.v g1_1)]) rfl hL (fun b_2 h_1 hb_1 hf_1 hL_1 => ?_)
  refine eop_alloc 43 zer43 rfl hL_1 (fun b_3 h_2 hb_2 hf_2 hL_2 => ?_)
  refine pop_field 0 fld41_0 b_2 0 ?_
  refine rop_loc one22 hL_2 1 rfl 0 (v := (Sl.v g1_1)) rfl ?_
  refine pop_len g1_1 _ _ sli22 ?_
  have H := H b_2 b_3 h_2 (Nat.le_trans (Fr.size (Fr.r (In []) _)) hb_1) (Nat.le_trans (Fr.size (Fr.no' (Fr.r (In []) _) hf_1)) hb_2) (Fr.no' (Fr.no' (Fr.r (In []) _) hf_1) hf_2) hL_2
  refine H.mono fun rv_1 h_3 H => ?_
  obtain ⟨x_1, x_2, x_3, t13_1, rfl, hL_3, H⟩ := H
  refine pop.mk' (v := (Value.agg #[(Sl.v nilSl), (VI t13_1)])) (fun w => by kernel_rfl) ?_
  refine eop_alloc 43 zer43 rfl hL_3 (fun b_4 h_4 hb_3 hf_3 hL_4 => ?_)
  refine uop_loc siz43 hL_4 0 rfl 0 [(Sl.v nilSl), (VI t13_1)] rfl rfl rfl (Nat.le_of_ble_eq_true rfl) (L' := [(b_4, [(Sl.v nilSl), (VI t13_1)]), (b_3, [(Sl.v nilSl), (VI 0)]), (b_2, [(Sl.v g1_1)]), (b_1, [(Sl.v x_1), (VI x_2), (Value.int .u64 x_3)])]) rfl (fun h_5 hf_4 hL_5 => ?_)
  refine pop_field 0 fld41_0 b_2 0 ?_
  refine rop_loc one22 hL_5 2 rfl 0 (v := (Sl.v g1_1)) rfl ?_
  refine pop_len g1_1 _ _ sli22 ?_
  have H := H b_4 h_5 (Nat.le_trans (Fr.size (Fr.r (In []) _)) hb_3) (Fr.new (Fr.no' (Fr.r (In []) _) hf_3) (Nat.le_trans (Fr.size (Fr.r (In []) _)) hb_3) hf_4) hL_5
  obtain ⟨J_1, ⟨n_2, h0_1⟩, HB_2⟩ := H
  refine loop_intro (J := fun (n : Nat) (vs : List Value) (h' : Heap) => ∃ t18_1 : Int, ∃ x_4 : Sl, ∃ x_5 : Int, ∃ x_6 : Sl, ∃ x_7 : Int, ∃ x_8 : Int, vs = [(VI t18_1)] ∧ J_1 n t18_1 x_4 x_5 x_6 x_7 x_8 h' ∧ Vars h' [(b_4, [(Sl.v x_4), (VI x_5)]), (b_3, [(Sl.v nilSl), (VI 0)]), (b_2, [(Sl.v g1_1)]), (b_1, [(Sl.v x_6), (VI x_7), (Value.int .u64 x_8)])]) n_2 ⟨0, nilSl, t13_1, x_1, x_2, x_3, rfl, h0_1, hL_5⟩ ?_
  intro I_1 mu_1 hI_1 junk_1 tv_2 h_6 hi_1
  obtain ⟨n_1, ⟨t18_1, x_4, x_5, x_6, x_7, x_8, hv, hJ_1, hL_6⟩, hn_1⟩ := hI_1 _ _ hi_1
  cases hv
  have H := HB_2 n_1 t18_1 x_4 x_5 x_6 x_7 x_8 h_6 hJ_1 hL_6
  refine pop_lss .i64 t18_1 (g1_1.n : Int) ?_
  refine condM_b (fun hb_4 => ?_) (fun hb_4 => ?_)
  rotate_left
  ·have H := H.2 hb_4
   refine rop_locA agg43 hL_6 0 rfl 0 (vs := [(Sl.v x_4), (VI x_5)]) rfl rfl ?_
   refine uop_loc siz43 hL_6 1 rfl 0 [(Sl.v x_4), (VI x_5)] rfl rfl rfl (Nat.le_of_ble_eq_true rfl) (L' := [(b_4, [(Sl.v x_4), (VI x_5)]), (b_3, [(Sl.v x_4), (VI x_5)]), (b_2, [(Sl.v g1_1)]), (b_1, [(Sl.v x_6), (VI x_7), (Value.int .u64 x_8)])]) rfl (fun h_12 hf_6 hL_12 => ?_)
   refine rop_locA agg43 hL_12 1 rfl 0 (vs := [(Sl.v x_4), (VI x_5)]) rfl rfl ?_
   have H := H  h_12  (Fr.old (Fr.r (In []) _) hf_6) hL_12
   exact H
  have H := H.1 hb_4
  obtain ⟨hi_2, H⟩ := H
  refine pop_index sli22 siz34 .i64 g1_1 t18_1 hi_2 ?_
  obtain ⟨t21_1, hc_1, H⟩ := H
  refine rop_one one34 (Sl.v t21_1) hc_1 ?_
  obtain ⟨J_2, H, HB_1⟩ := H
  refine ⟨fun (vs : List Value) (h' : Heap) => ∃ x_9 : Int, ∃ x_10 : Sl, ∃ x_11 : Int, ∃ x_12 : Int, vs = [(VI x_9)] ∧ J_2 x_9 x_10 x_11 x_12 h' ∧ Vars h' [(b_4, [(Sl.v x_4), (VI x_5)]), (b_3, [(Sl.v nilSl), (VI 0)]), (b_2, [(Sl.v g1_1)]), (b_1, [(Sl.v x_10), (VI x_11), (Value.int .u64 x_12)])], ?_, ?_⟩
  ·refine pop_len t21_1 _ _ sli34 ?_
   refine pop_gtr .i64 (t21_1.n : Int) 0 ?_
   refine condM_b (fun hb_5 => ?_) (fun hb_5 => ?_)
   rotate_left
   ·have H := H.2 hb_5
    exact ⟨0, x_6, x_7, x_8, rfl, H, hL_6⟩
   have H := H.1 hb_5
   refine pop_len t21_1 _ _ sli34 ?_
   refine H.mono fun rv_2 h_7 H => ?_
   obtain ⟨x_13, x_14, x_15, t28_1, rfl, hL_7, H⟩ := H
   exact ⟨t28_1, x_13, x_14, x_15, rfl, H, hL_7⟩
  intro junk_2 tv_1 h_8
  rintro ⟨x_9, x_10, x_11, x_12, hv, hJ_2, hL_8⟩
  cases hv
  have H := HB_1 x_9 x_10 x_11 x_12 h_8 hJ_2 hL_8
  refine pop_field 0 fld43_0 b_4 0 ?_
  refine rop_loc one34 hL_8 0 rfl 0 (v := (Sl.v x_4)) rfl ?_
  refine H.mono fun rv_3 h_9 H => ?_
  obtain ⟨t32_1, rfl, hL_9, H⟩ := H
  refine H.mono fun rv_4 h_10 H => ?_
  obtain ⟨t33_1, rfl, hL_10, H⟩ := H
  refine pop_field 0 fld43_0 b_4 0 ?_
  refine uop_loc siz34 hL_10 0 rfl 0 [(Sl.v t33_1)] rfl rfl rfl (Nat.le_of_ble_eq_true rfl) (L' := [(b_4, [(Sl.v t33_1), (VI x_5)]), (b_3, [(Sl.v nilSl), (VI 0)]), (b_2, [(Sl.v g1_1)]), (b_1, [(Sl.v x_10), (VI x_11), (Value.int .u64 x_12)])]) rfl (fun h_11 hf_5 hL_11 => ?_)
  refine pop_add .i64 t18_1 1 ?_
  have H := H  h_11  (Fr.old (Fr.r (In []) _) hf_5) hL_11
  obtain ⟨m_1, hm_1, H⟩ := H
  exact hn_1 _ _ ⟨m_1, hm_1, (w64 (t18_1 + 1)), t33_1, x_5, x_10, x_11, x_12, rfl, H, hL_11⟩
def u119 (P : Program) (b_1 : Nat) (c0_1 : Sl) (c0_2 : Int) (c0_3 : Int) (n1_1 : Int) (h : Heap) (K : Value → Heap → Prop) : Prop :=
  ((decide (n1_1 ≤ 1)) = true →
  K (VI 0) h) ∧
  ((decide (n1_1 ≤ 1)) = false →
  callM P 129 #[(VP b_1 0)] h fun rv_1 h_1 => ∃ x_1 : Sl, ∃ x_2 : Int, ∃ x_3 : Int, ∃ t9_1 : Int, rv_1 = (VI t9_1) ∧ Vars h_1 [(b_1, [(Sl.v x_1), (VI x_2), (Value.int .u64 x_3)])] ∧
  ∃ J_1 : Int → Sl → Int → Int → Heap → Prop, (((decide (200 < n1_1)) = true →
  callM P 129 #[(VP b_1 0)] h_1 fun rv_2 h_2 => ∃ x_8 : Sl, ∃ x_9 : Int, ∃ x_10 : Int, ∃ t15_1 : Int, rv_2 = (VI t15_1) ∧ Vars h_2 [(b_1, [(Sl.v x_8), (VI x_9), (Value.int .u64 x_10)])] ∧
  J_1 (w64 ((w64 (t9_1 * 256)) + t15_1)) x_8 x_9 x_10 h_2) ∧
  ((decide (200 < n1_1)) = false →
  J_1 t9_1 x_1 x_2 x_3 h_1)) ∧
  ∀ (x_4 : Int) (x_5 : Sl) (x_6 : Int) (x_7 : Int) (h_3 : Heap), J_1 x_4 x_5 x_6 x_7 h_3 → Vars h_3 [(b_1, [(Sl.v x_5), (VI x_6), (Value.int .u64 x_7)])] →
  n1_1 ≠ 0 ∧
  K (VI (Int.tmod x_4 n1_1)) h_3)
theorem v119 (b_1 : Nat) (c0_1 : Sl) (c0_2 : Int) (c0_3 : Int) (n1_1 : Int) (h : Heap) (K : Value → Heap → Prop) (hL : Vars h [(b_1, [(Sl.v c0_1), (VI c0_2), (Value.int .u64 c0_3)])]) (H : u119 Tryd.prog b_1 c0_1 c0_2 c0_3 n1_1 h K) : callM Tryd.prog 119 #[(VP b_1 0), (VI n1_1)] h K := by
  refine c119 (VP b_1 0) (VI n1_1) h K ?_
  unfold u119 at H
  unfold t119
  refine pop_leq .i64 n1_1 1 ?_
  refine condM_b (fun hb_1 => ?_) (fun hb_1 => ?_)
  ·have H := H.1 hb_1
   exact H
  have H := H.2 hb_1
  refine H.mono fun rv_1 h_1 H => ?_
  obtain ⟨x_1, x_2, x_3, t9_1, rfl, hL_1, H⟩ := H
  obtain ⟨J_1, H, HB_1⟩ := H
  refine ⟨fun (vs : List Value) (h' : Heap) => ∃ x_4 : Int, ∃ x_5 : Sl, ∃ x_6 : Int, ∃ x_7 : Int, vs = [(VI x_4)] ∧ J_1 x_4 x_5 x_6 x_7 h' ∧ Vars h' [(b_1, [(Sl.v x_5), (VI x_6), (Value.int .u64 x_7)])], ?_, ?_⟩
  ·refine pop_gtr .i64 n1_1 200 ?_
   refine condM_b (fun hb_2 => ?_) (fun hb_2 => ?_)
   rotate_left
   ·have H := H.2 hb_2
    exact ⟨t9_1, x_1, x_2, x_3, rfl, H, hL_1⟩
   have H := H.1 hb_2
   refine pop_mul .i64 t9_1 256 ?_
   refine H.mono fun rv_2 h_2 H => ?_
   obtain ⟨x_8, x_9, x_10, t15_1, rfl, hL_2, H⟩ := H
   refine pop_add .i64 (w64 (t9_1 * 256)) t15_1 ?_
   exact ⟨(w64 ((w64 (t9_1 * 256)) + t15_1)), x_8, x_9, x_10, rfl, H, hL_2⟩
  intro junk_1 tv_1 h_3
  rintro ⟨x_4, x_5, x_6, x_7, hv, hJ_1, hL_3⟩
  cases hv
  have H := HB_1 x_4 x_5 x_6 x_7 h_3 hJ_1 hL_3
  obtain ⟨hz_1, H⟩ := H
  refine pop_rem .i64 x_4 n1_1 hz_1 ?_
  exact H
def u120 (P : Program) (b_1 : Nat) (c0_1 : Sl) (c0_2 : Int) (c0_3 : Int) (list1_1 : Sl) (h : Heap) (K : Value → Heap → Prop) : Prop :=
  callM P 119 #[(VP b_1 0), (VI (list1_1.n : Int))] h fun rv_1 h_1 => ∃ x_1 : Sl, ∃ x_2 : Int, ∃ x_3 : Int, ∃ t9_1 : Int, rv_1 = (VI t9_1) ∧ Vars h_1 [(b_1, [(Sl.v x_1), (VI x_2), (Value.int .u64 x_3)])] ∧
  InB list1_1 t9_1 ∧
  ∃ t11_1 : Int, hcell h_1 (Sl.at list1_1 t9_1 1) = some (VI t11_1) ∧
  K (VI t11_1) h_1
theorem v120 (b_1 : Nat) (c0_1 : Sl) (c0_2 : Int) (c0_3 : Int) (list1_1 : Sl) (h : Heap) (K : Value → Heap → Prop) (hL : Vars h [(b_1, [(Sl.v c0_1), (VI c0_2), (Value.int .u64 c0_3)])]) (H : u120 Tryd.prog b_1 c0_1 c0_2 c0_3 list1_1 h K) : callM Tryd.prog 120 #[(VP b_1 0), (Sl.v list1_1)] h K := by
  refine c120 (VP b_1 0) (Sl.v list1_1) h K ?_
  unfold u120 at H
  unfold t120
  refine pop_len list1_1 _ _ sli34 ?_
  refine H.mono fun rv_1 h_1 H => ?_
  obtain ⟨x_1, x_2, x_3, t9_1, rfl, hL_1, H⟩ := H
  obtain ⟨hi_1, H⟩ := H
  refine pop_index sli34 siz3 .i64 list1_1 t9_1 hi_1 ?_
  obtain ⟨t11_1, hc_1, H⟩ := H
  refine rop_one one3 (VI t11_1) hc_1 ?_
  exact H
def u121 (P : Program) (b_1 : Nat) (c0_1 : Sl) (c0_2 : Int) (c0_3 : Int) (n1_1 : Int) (h : Heap) (K : Value → Heap → Prop) : Prop :=
  callM P 119 #[(VP b_1 0), (VI n1_1)] h fun rv_1 h_1 => ∃ x_1 : Sl, ∃ x_2 : Int, ∃ x_3 : Int, ∃ t7_1 : Int, rv_1 = (VI t7_1) ∧ Vars h_1 [(b_1, [(Sl.v x_1), (VI x_2), (Value.int .u64 x_3)])] ∧
  K (VB (decide (t7_1 = 0))) h_1
theorem v121 (b_1 : Nat) (c0_1 : Sl) (c0_2 : Int) (c0_3 : Int) (n1_1 : Int) (h : Heap) (K : Value → Heap → Prop) (hL : Vars h [(b_1, [(Sl.v c0_1), (VI c0_2), (Value.int .u64 c0_3)])]) (H : u121 Tryd.prog b_1 c0_1 c0_2 c0_3 n1_1 h K) : callM Tryd.prog 121 #[(VP b_1 0), (VI n1_1)] h K := by
  refine c121 (VP b_1 0) (VI n1_1) h K ?_
  unfold u121 at H
  unfold t121
  refine H.mono fun rv_1 h_1 H => ?_
  obtain ⟨x_1, x_2, x_3, t7_1, rfl, hL_1, H⟩ := H
  refine pop_ieq .i64 _ _ t7_1 0 ?_
  exact H
def u123 (P : Program) (q0_1 : Int) (b_1 : Nat) (t1_1 : Int) (h : Heap) (K : Value → Heap → Prop) : Prop :=
  callM P 55 #[(VI q0_1), (VI 0), (VI (w64 (t1_1 - 1)))] h fun rv_1 h_1 => ∃ t7_1 : Bool, rv_1 = (VB t7_1) ∧ Vars h_1 [(b_1, [(VI t1_1)])] ∧
  K (VB (!t7_1)) h_1
theorem v123 (q0_1 : Int) (b_1 : Nat) (t1_1 : Int) (h : Heap) (K : Value → Heap → Prop) (hL : Vars h [(b_1, [(VI t1_1)])]) (H : u123 Tryd.prog q0_1 b_1 t1_1 h K) : callM Tryd.prog 123 #[(VI q0_1), (VP b_1 0)] h K := by
  refine c123 (VI q0_1) (VP b_1 0) h K ?_
  unfold u123 at H
  unfold t123
  refine rop_loc one3 hL 0 rfl 0 (v := (VI t1_1)) rfl ?_
  refine pop_sub .i64 t1_1 1 ?_
  refine H.mono fun rv_1 h_1 H => ?_
  obtain ⟨t7_1, rfl, hL_1, H⟩ := H
  refine pop_not t7_1 ?_
  exact H
def u128 (P : Program) (b_1 : Nat) (c0_1 : Sl) (c0_2 : Int) (c0_3 : Int) (most1_1 : Int) (h : Heap) (K : Value → Heap → Prop) : Prop :=
  ∀ (b_2 : Nat) (h_1 : Heap), h.size ≤ b_2 → Fr (In []) h h_1 → Vars h_1 [(b_2, [(Sl.v nilSl)]), (b_1, [(Sl.v c0_1), (VI c0_2), (Value.int .u64 c0_3)])] →
  callM P 119 #[(VP b_1 0), (VI most1_1)] h_1 fun rv_1 h_2 => ∃ x_1 : Sl, ∃ x_2 : Int, ∃ x_3 : Int, ∃ t13_1 : Int, rv_1 = (VI t13_1) ∧ Vars h_2 [(b_2, [(Sl.v nilSl)]), (b_1, [(Sl.v x_1), (VI x_2), (Value.int .u64 x_3)])] ∧
  callM P 121 #[(VP b_1 0), (VI 4)] h_2 fun rv_2 h_3 => ∃ x_4 : Sl, ∃ x_5 : Int, ∃ x_6 : Int, ∃ t16_1 : Bool, rv_2 = (VB t16_1) ∧ Vars h_3 [(b_2, [(Sl.v nilSl)]), (b_1, [(Sl.v x_4), (VI x_5), (Value.int .u64 x_6)])] ∧
  (t16_1 = true →
  callM P 121 #[(VP b_1 0), (VI 2)] h_3 fun rv_3 h_4 => ∃ x_7 : Sl, ∃ x_8 : Int, ∃ x_9 : Int, ∃ t19_1 : Bool, rv_3 = (VB t19_1) ∧ Vars h_4 [(b_2, [(Sl.v nilSl)]), (b_1, [(Sl.v x_7), (VI x_8), (Value.int .u64 x_9)])] ∧
  callM P 135 #[(VI (w64 (1 + t13_1))), (VB t19_1)] h_4 fun rv_4 h_5 => ∃ t20_1 : Sl, rv_4 = (Value.agg #[(Sl.v t20_1)]) ∧ Vars h_5 [(b_2, [(Sl.v nilSl)]), (b_1, [(Sl.v x_7), (VI x_8), (Value.int .u64 x_9)])] ∧
  ∀ (h_6 : Heap), Fr (In [b_2]) h_5 h_6 → Vars h_6 [(b_2, [(Sl.v t20_1)]), (b_1, [(Sl.v x_7), (VI x_8), (Value.int .u64 x_9)])] →
  K (Value.agg #[(Sl.v t20_1)]) h_6) ∧
  (t16_1 = false →
  ∀ (b_3 : Nat) (h_8 : Heap), h_3.size ≤ b_3 → Fr (In []) h_3 h_8 → Vars h_8 [(b_3, [(Sl.v nilSl)]), (b_2, [(Sl.v nilSl)]), (b_1, [(Sl.v x_4), (VI x_5), (Value.int .u64 x_6)])] →
  ∃ J_1 : Nat → Int → Sl → Sl → Int → Int → Heap → Prop, (∃ n0 : Nat, J_1 n0 0 nilSl x_4 x_5 x_6 h_8) ∧
  ∀ (n_1 : Nat) (p7_1 : Int) (x_10 : Sl) (x_11 : Sl) (x_12 : Int) (x_13 : Int) (h_9 : Heap), J_1 n_1 p7_1 x_10 x_11 x_12 x_13 h_9 → Vars h_9 [(b_3, [(Sl.v x_10)]), (b_2, [(Sl.v nilSl)]), (b_1, [(Sl.v x_11), (VI x_12), (Value.int .u64 x_13)])] →
  ((decide (p7_1 < (w64 (1 + t13_1)))) = true →
  callM P 119 #[(VP b_1 0), (VI 3)] h_9 fun rv_5 h_10 => ∃ x_14 : Sl, ∃ x_15 : Int, ∃ x_16 : Int, ∃ t28_1 : Int, rv_5 = (VI t28_1) ∧ Vars h_10 [(b_3, [(Sl.v x_10)]), (b_2, [(Sl.v nilSl)]), (b_1, [(Sl.v x_14), (VI x_15), (Value.int .u64 x_16)])] ∧
  ∃ J_2 : Nat → Sl → Int → Sl → Int → Int → Heap → Prop, (∃ n0 : Nat, J_2 n0 nilSl (w64 (1 + t28_1)) x_14 x_15 x_16 h_10) ∧
  ∀ (n_2 : Nat) (list8_1 : Sl) (k9_1 : Int) (x_17 : Sl) (x_18 : Int) (x_19 : Int) (h_11 : Heap), J_2 n_2 list8_1 k9_1 x_17 x_18 x_19 h_11 → Vars h_11 [(b_3, [(Sl.v x_10)]), (b_2, [(Sl.v nilSl)]), (b_1, [(Sl.v x_17), (VI x_18), (Value.int .u64 x_19)])] →
  ((decide (0 < k9_1)) = true →
  callM P 119 #[(VP b_1 0), (VI (w64 (1 + t13_1)))] h_11 fun rv_6 h_12 => ∃ x_20 : Sl, ∃ x_21 : Int, ∃ x_22 : Int, ∃ t37_1 : Int, rv_6 = (VI t37_1) ∧ Vars h_12 [(b_3, [(Sl.v x_10)]), (b_2, [(Sl.v nilSl)]), (b_1, [(Sl.v x_20), (VI x_21), (Value.int .u64 x_22)])] ∧
  eop P (Instr.buildSlice 34 1 #[(0, (VI t37_1))]) h_12 fun rv_7 h_13 => ∃ t38_1 : Sl, rv_7 = (Sl.v t38_1) ∧ Vars h_13 [(b_3, [(Sl.v x_10)]), (b_2, [(Sl.v nilSl)]), (b_1, [(Sl.v x_20), (VI x_21), (Value.int .u64 x_22)])] ∧
  eop P (appS 34 34 34 (Sl.v list8_1) (Sl.v t38_1)) h_13 fun rv_8 h_14 => ∃ t39_1 : Sl, rv_8 = (Sl.v t39_1) ∧ Vars h_14 [(b_3, [(Sl.v x_10)]), (b_2, [(Sl.v nilSl)]), (b_1, [(Sl.v x_20), (VI x_21), (Value.int .u64 x_22)])] ∧
  ∃ m : Nat, m < n_2 ∧ J_2 m t39_1 (w64 (k9_1 - 1)) x_20 x_21 x_22 h_14) ∧
  ((decide (0 < k9_1)) = false →
  ∃ J_3 : Sl → Sl → Int → Int → Heap → Prop, (callM P 121 #[(VP b_1 0), (VI 8)] h_11 fun rv_9 h_15 => ∃ x_27 : Sl, ∃ x_28 : Int, ∃ x_29 : Int, ∃ t41_1 : Bool, rv_9 = (VB t41_1) ∧ Vars h_15 [(b_3, [(Sl.v x_10)]), (b_2, [(Sl.v nilSl)]), (b_1, [(Sl.v x_27), (VI x_28), (Value.int .u64 x_29)])] ∧
  (t41_1 = true →
  J_3 nilSl x_27 x_28 x_29 h_15) ∧
  (t41_1 = false →
  J_3 list8_1 x_27 x_28 x_29 h_15)) ∧
  ∀ (x_23 : Sl) (x_24 : Sl) (x_25 : Int) (x_26 : Int) (h_16 : Heap), J_3 x_23 x_24 x_25 x_26 h_16 → Vars h_16 [(b_3, [(Sl.v x_10)]), (b_2, [(Sl.v nilSl)]), (b_1, [(Sl.v x_24), (VI x_25), (Value.int .u64 x_26)])] →
  eop P (Instr.buildSlice 22 1 #[(0, (Sl.v x_23))]) h_16 fun rv_10 h_17 => ∃ t45_1 : Sl, rv_10 = (Sl.v t45_1) ∧ Vars h_17 [(b_3, [(Sl.v x_10)]), (b_2, [(Sl.v nilSl)]), (b_1, [(Sl.v x_24), (VI x_25), (Value.int .u64 x_26)])] ∧
  eop P (appS 22 22 22 (Sl.v x_10) (Sl.v t45_1)) h_17 fun rv_11 h_18 => ∃ t46_1 : Sl, rv_11 = (Sl.v t46_1) ∧ Vars h_18 [(b_3, [(Sl.v x_10)]), (b_2, [(Sl.v nilSl)]), (b_1, [(Sl.v x_24), (VI x_25), (Value.int .u64 x_26)])] ∧
  ∀ (h_19 : Heap), Fr (In [b_3]) h_18 h_19 → Vars h_19 [(b_3, [(Sl.v t46_1)]), (b_2, [(Sl.v nilSl)]), (b_1, [(Sl.v x_24), (VI x_25), (Value.int .u64 x_26)])] →
  ∃ m : Nat, m < n_1 ∧ J_1 m (w64 (p7_1 + 1)) t46_1 x_24 x_25 x_26 h_19)) ∧
  ((decide (p7_1 < (w64 (1 + t13_1)))) = false →
  callM P 121 #[(VP b_1 0), (VI 2)] h_9 fun rv_12 h_20 => ∃ x_30 : Sl, ∃ x_31 : Int, ∃ x_32 : Int, ∃ t49_1 : Bool, rv_12 = (VB t49_1) ∧ Vars h_20 [(b_3, [(Sl.v x_10)]), (b_2, [(Sl.v nilSl)]), (b_1, [(Sl.v x_30), (VI x_31), (Value.int .u64 x_32)])] ∧
  (t49_1 = true →
  ∃ J_4 : Nat → Int → Heap → Prop, (∃ n0 : Nat, J_4 n0 0 h_20) ∧
  ∀ (n_4 : Nat) (t53_1 : Int) (h_21 : Heap), J_4 n_4 t53_1 h_21 → Vars h_21 [(b_3, [(Sl.v x_10)]), (b_2, [(Sl.v nilSl)]), (b_1, [(Sl.v x_30), (VI x_31), (Value.int .u64 x_32)])] →
  ((decide (t53_1 < (x_10.n : Int))) = true →
  InB x_10 t53_1 ∧
  ∃ t63_1 : Sl, hcell h_21 (Sl.at x_10 t53_1 1) = some (Sl.v t63_1) ∧
  (w64 (1 + t13_1)) ≠ 0 ∧
  eop P (Instr.buildSlice 34 1 #[(0, (VI (Int.tmod (w64 (t53_1 + 1)) (w64 (1 + t13_1)))))]) h_21 fun rv_13 h_22 => ∃ t68_1 : Sl, rv_13 = (Sl.v t68_1) ∧ Vars h_22 [(b_3, [(Sl.v x_10)]), (b_2, [(Sl.v nilSl)]), (b_1, [(Sl.v x_30), (VI x_31), (Value.int .u64 x_32)])] ∧
  hcell h_22 (Sl.at x_10 t53_1 1) = some (Sl.v t63_1) ∧
  eop P (appS 34 34 34 (Sl.v t63_1) (Sl.v t68_1)) h_22 fun rv_14 h_23 => ∃ t69_1 : Sl, rv_14 = (Sl.v t69_1) ∧ Vars h_23 [(b_3, [(Sl.v x_10)]), (b_2, [(Sl.v nilSl)]), (b_1, [(Sl.v x_30), (VI x_31), (Value.int .u64 x_32)])] ∧
  InB x_10 t53_1 ∧
  Writable h_23 (Sl.at x_10 t53_1 1) ∧ Vars (hset h_23 (Sl.at x_10 t53_1 1) (Sl.v t69_1)) [(b_3, [(Sl.v x_10)]), (b_2, [(Sl.v nilSl)]), (b_1, [(Sl.v x_30), (VI x_31), (Value.int .u64 x_32)])] ∧
  ∀ h_24 : Heap, h_24 = hset h_23 (Sl.at x_10 t53_1 1) (Sl.v t69_1) → Vars h_24 [(b_3, [(Sl.v x_10)]), (b_2, [(Sl.v nilSl)]), (b_1, [(Sl.v x_30), (VI x_31), (Value.int .u64 x_32)])] →
  ∃ m : Nat, m < n_4 ∧ J_4 m (w64 (t53_1 + 1)) h_24) ∧
  ((decide (t53_1 < (x_10.n : Int))) = false →
  ∀ (h_25 : Heap), Fr (In [b_2]) h_21 h_25 → Vars h_25 [(b_3, [(Sl.v x_10)]), (b_2, [(Sl.v x_10)]), (b_1, [(Sl.v x_30), (VI x_31), (Value.int .u64 x_32)])] →
  K (Value.agg #[(Sl.v x_10)]) h_25)) ∧
  (t49_1 = false →
  ∀ (h_26 : Heap), Fr (In [b_2]) h_20 h_26 → Vars h_26 [(b_3, [(Sl.v x_10)]), (b_2, [(Sl.v x_10)]), (b_1, [(Sl.v x_30), (VI x_31), (Value.int .u64 x_32)])] →
  K (Value.agg #[(Sl.v x_10)]) h_26)))
theorem v128 (b_1 : Nat) (c0_1 : Sl) (c0_2 : Int) (c0_3 : Int) (most1_1 : Int) (h : Heap) (K : Value → Heap → Prop) (hL : Vars h [(b_1, [(Sl.v c0_1), (VI c0_2), (Value.int .u64 c0_3)])]) (H : u128 Tryd.prog b_1 c0_1 c0_2 c0_3 most1_1 h K) : callM Tryd.prog 128 #[(VP b_1 0), (VI most1_1)] h K := by
  refine c128 (VP b_1 0) (VI most1_1) h K ?_
  unfold u128 at H
  unfold t128
  refine eop_alloc 41 zer41 rfl hL (fun b_2 h_1 hb_1 hf_1 hL_1 => ?_)
  have H := H b_2 h_1 (Nat.le_trans (Fr.size (Fr.r (In []) _)) hb_1) (Fr.no' (Fr.r (In []) _) hf_1) hL_1
  refine H.mono fun rv_1 h_2 H => ?_
  obtain ⟨x_1, x_2, x_3, t13_1, rfl, hL_2, H⟩ := H
  refine pop_add .i64 1 t13_1 ?_
  refine H.mono fun rv_2 h_3 H => ?_
  obtain ⟨x_4, x_5, x_6, t16_1, rfl, hL_3, H⟩ := H
  refine condM_b (fun hb_2 => ?_) (fun hb_2 => ?_)
  ·have H := H.1 hb_2
   refine H.mono fun rv_3 h_4 H => ?_
   obtain ⟨x_7, x_8, x_9, t19_1, rfl, hL_4, H⟩ := H
   refine H.mono fun rv_4 h_5 H => ?_
   obtain ⟨t20_1, rfl, hL_5, H⟩ := H
   refine uop_loc siz41 hL_5 0 rfl 0 [(Sl.v t20_1)] rfl rfl rfl (Nat.le_of_ble_eq_true rfl) (L' := [(b_2, [(Sl.v t20_1)]), (b_1, [(Sl.v x_7), (VI x_8), (Value.int .u64 x_9)])]) rfl (fun h_6 hf_2 hL_6 => ?_)
   refine rop_locA agg41 hL_6 0 rfl 0 (vs := [(Sl.v t20_1)]) rfl rfl ?_
   have H := H  h_6  (Fr.old (Fr.r (In []) _) hf_2) hL_6
   exact H
  have H := H.2 hb_2
  refine pop.mk' (v := (Value.agg #[(Sl.v nilSl)])) (fun w => by kernel_rfl) ?_
  refine eop_alloc 41 zer41 rfl hL_3 (fun b_3 h_7 hb_3 hf_3 hL_7 => ?_)
  refine uop_loc siz41 hL_7 0 rfl 0 [(Sl.v nilSl)] rfl rfl rfl (Nat.le_of_ble_eq_true rfl) (L' := [(b_3, [(Sl.v nilSl)]), (b_2, [(Sl.v nilSl)]), (b_1, [(Sl.v x_4), (VI x_5), (Value.int .u64 x_6)])]) rfl (fun h_8 hf_4 hL_8 => ?_)
  have H := H b_3 h_8 (Nat.le_trans (Fr.size (Fr.r (In []) _)) hb_3) (Fr.new (Fr.no' (Fr.r (In []) _) hf_3) (Nat.le_trans (Fr.size (Fr.r (In []) _)) hb_3) hf_4) hL_8
  obtain ⟨J_1, ⟨n_6, h0_3⟩, HB_4⟩ := H
  refine loop_intro (J := fun (n : Nat) (vs : List Value) (h' : Heap) => ∃ p7_1 : Int, ∃ x_10 : Sl, ∃ x_11 : Sl, ∃ x_12 : Int, ∃ x_13 : Int, vs = [(VI p7_1)] ∧ J_1 n p7_1 x_10 x_11 x_12 x_13 h' ∧ Vars h' [(b_3, [(Sl.v x_10)]), (b_2, [(Sl.v nilSl)]), (b_1, [(Sl.v x_11), (VI x_12), (Value.int .u64 x_13)])]) n_6 ⟨0, nilSl, x_4, x_5, x_6, rfl, h0_3, hL_8⟩ ?_
  intro I_3 mu_3 hI_3 junk_1 tv_5 h_9 hi_1
  obtain ⟨n_1, ⟨p7_1, x_10, x_11, x_12, x_13, hv, hJ_1, hL_9⟩, hn_1⟩ := hI_3 _ _ hi_1
  cases hv
  have H := HB_4 n_1 p7_1 x_10 x_11 x_12 x_13 h_9 hJ_1 hL_9
  refine pop_lss .i64 p7_1 (w64 (1 + t13_1)) ?_
  refine condM_b (fun hb_4 => ?_) (fun hb_4 => ?_)
  ·have H := H.1 hb_4
   refine H.mono fun rv_5 h_10 H => ?_
   obtain ⟨x_14, x_15, x_16, t28_1, rfl, hL_10, H⟩ := H
   refine pop_add .i64 1 t28_1 ?_
   obtain ⟨J_2, ⟨n_3, h0_1⟩, HB_2⟩ := H
   refine loop_intro (J := fun (n : Nat) (vs : List Value) (h' : Heap) => ∃ list8_1 : Sl, ∃ k9_1 : Int, ∃ x_17 : Sl, ∃ x_18 : Int, ∃ x_19 : Int, vs = [(Sl.v list8_1), (VI k9_1)] ∧ J_2 n list8_1 k9_1 x_17 x_18 x_19 h' ∧ Vars h' [(b_3, [(Sl.v x_10)]), (b_2, [(Sl.v nilSl)]), (b_1, [(Sl.v x_17), (VI x_18), (Value.int .u64 x_19)])]) n_3 ⟨nilSl, (w64 (1 + t28_1)), x_14, x_15, x_16, rfl, h0_1, hL_10⟩ ?_
   intro I_1 mu_1 hI_1 junk_2 tv_2 tv_3 h_11 hi_2
   obtain ⟨n_2, ⟨list8_1, k9_1, x_17, x_18, x_19, hv, hJ_2, hL_11⟩, hn_2⟩ := hI_1 _ _ hi_2
   cases hv
   have H := HB_2 n_2 list8_1 k9_1 x_17 x_18 x_19 h_11 hJ_2 hL_11
   refine pop_gtr .i64 k9_1 0 ?_
   refine condM_b (fun hb_5 => ?_) (fun hb_5 => ?_)
   ·have H := H.1 hb_5
    refine H.mono fun rv_6 h_12 H => ?_
    obtain ⟨x_20, x_21, x_22, t37_1, rfl, hL_12, H⟩ := H
    refine H.mono fun rv_7 h_13 H => ?_
    obtain ⟨t38_1, rfl, hL_13, H⟩ := H
    refine H.mono fun rv_8 h_14 H => ?_
    obtain ⟨t39_1, rfl, hL_14, H⟩ := H
    refine pop_sub .i64 k9_1 1 ?_
    obtain ⟨m_1, hm_1, H⟩ := H
    exact hn_2 _ _ ⟨m_1, hm_1, t39_1, (w64 (k9_1 - 1)), x_20, x_21, x_22, rfl, H, hL_14⟩
   have H := H.2 hb_5
   obtain ⟨J_3, H, HB_1⟩ := H
   refine ⟨fun (vs : List Value) (h' : Heap) => ∃ x_23 : Sl, ∃ x_24 : Sl, ∃ x_25 : Int, ∃ x_26 : Int, vs = [(Sl.v x_23)] ∧ J_3 x_23 x_24 x_25 x_26 h' ∧ Vars h' [(b_3, [(Sl.v x_10)]), (b_2, [(Sl.v nilSl)]), (b_1, [(Sl.v x_24), (VI x_25), (Value.int .u64 x_26)])], ?_, ?_⟩
   ·refine H.mono fun rv_9 h_15 H => ?_
    obtain ⟨x_27, x_28, x_29, t41_1, rfl, hL_15, H⟩ := H
    refine condM_b (fun hb_6 => ?_) (fun hb_6 => ?_)
    ·have H := H.1 hb_6
     exact ⟨nilSl, x_27, x_28, x_29, rfl, H, hL_15⟩
    have H := H.2 hb_6
    exact ⟨list8_1, x_27, x_28, x_29, rfl, H, hL_15⟩
   intro junk_3 tv_1 h_16
   rintro ⟨x_23, x_24, x_25, x_26, hv, hJ_3, hL_16⟩
   cases hv
   have H := HB_1 x_23 x_24 x_25 x_26 h_16 hJ_3 hL_16
   refine pop_field 0 fld41_0 b_3 0 ?_
   refine rop_loc one22 hL_16 0 rfl 0 (v := (Sl.v x_10)) rfl ?_
   refine H.mono fun rv_10 h_17 H => ?_
   obtain ⟨t45_1, rfl, hL_17, H⟩ := H
   refine H.mono fun rv_11 h_18 H => ?_
   obtain ⟨t46_1, rfl, hL_18, H⟩ := H
   refine pop_field 0 fld41_0 b_3 0 ?_
   refine uop_loc siz22 hL_18 0 rfl 0 [(Sl.v t46_1)] rfl rfl rfl (Nat.le_of_ble_eq_true rfl) (L' := [(b_3, [(Sl.v t46_1)]), (b_2, [(Sl.v nilSl)]), (b_1, [(Sl.v x_24), (VI x_25), (Value.int .u64 x_26)])]) rfl (fun h_19 hf_5 hL_19 => ?_)
   refine pop_add .i64 p7_1 1 ?_
   have H := H  h_19  (Fr.old (Fr.r (In []) _) hf_5) hL_19
   obtain ⟨m_2, hm_2, H⟩ := H
   exact hn_1 _ _ ⟨m_2, hm_2, (w64 (p7_1 + 1)), t46_1, x_24, x_25, x_26, rfl, H, hL_19⟩
  have H := H.2 hb_4
  refine H.mono fun rv_12 h_20 H => ?_
  obtain ⟨x_30, x_31, x_32, t49_1, rfl, hL_20, H⟩ := H
  refine condM_b (fun hb_7 => ?_) (fun hb_7 => ?_)
  rotate_left
  ·have H := H.2 hb_7
   refine rop_locA agg41 hL_20 0 rfl 0 (vs := [(Sl.v x_10)]) rfl rfl ?_
   refine uop_loc siz41 hL_20 1 rfl 0 [(Sl.v x_10)] rfl rfl rfl (Nat.le_of_ble_eq_true rfl) (L' := [(b_3, [(Sl.v x_10)]), (b_2, [(Sl.v x_10)]), (b_1, [(Sl.v x_30), (VI x_31), (Value.int .u64 x_32)])]) rfl (fun h_26 hf_7 hL_26 => ?_)
   refine rop_locA agg41 hL_26 1 rfl 0 (vs := [(Sl.v x_10)]) rfl rfl ?_
   have H := H  h_26  (Fr.old (Fr.r (In []) _) hf_7) hL_26
   exact H
  have H := H.1 hb_7
  refine pop_field 0 fld41_0 b_3 0 ?_
  refine rop_loc one22 hL_20 0 rfl 0 (v := (Sl.v x_10)) rfl ?_
  refine pop_len x_10 _ _ sli22 ?_
  obtain ⟨J_4, ⟨n_5, h0_2⟩, HB_3⟩ := H
  refine loop_intro (J := fun (n : Nat) (vs : List Value) (h' : Heap) => ∃ t53_1 : Int, vs = [(VI t53_1)] ∧ J_4 n t53_1 h' ∧ Vars h' [(b_3, [(Sl.v x_10)]), (b_2, [(Sl.v nilSl)]), (b_1, [(Sl.v x_30), (VI x_31), (Value.int .u64 x_32)])]) n_5 ⟨0, rfl, h0_2, hL_20⟩ ?_
  intro I_2 mu_2 hI_2 junk_4 tv_4 h_21 hi_3
  obtain ⟨n_4, ⟨t53_1, hv, hJ_4, hL_21⟩, hn_3⟩ := hI_2 _ _ hi_3
  cases hv
  have H := HB_3 n_4 t53_1 h_21 hJ_4 hL_21
  refine pop_lss .i64 t53_1 (x_10.n : Int) ?_
  refine condM_b (fun hb_8 => ?_) (fun hb_8 => ?_)
  rotate_left
  ·have H := H.2 hb_8
   refine rop_locA agg41 hL_21 0 rfl 0 (vs := [(Sl.v x_10)]) rfl rfl ?_
   refine uop_loc siz41 hL_21 1 rfl 0 [(Sl.v x_10)] rfl rfl rfl (Nat.le_of_ble_eq_true rfl) (L' := [(b_3, [(Sl.v x_10)]), (b_2, [(Sl.v x_10)]), (b_1, [(Sl.v x_30), (VI x_31), (Value.int .u64 x_32)])]) rfl (fun h_25 hf_6 hL_25 => ?_)
   refine rop_locA agg41 hL_25 1 rfl 0 (vs := [(Sl.v x_10)]) rfl rfl ?_
   have H := H  h_25  (Fr.old (Fr.r (In []) _) hf_6) hL_25
   exact H
  have H := H.1 hb_8
  refine pop_field 0 fld41_0 b_3 0 ?_
  refine rop_loc one22 hL_21 0 rfl 0 (v := (Sl.v x_10)) rfl ?_
  refine pop_field 0 fld41_0 b_3 0 ?_
  refine rop_loc one22 hL_21 0 rfl 0 (v := (Sl.v x_10)) rfl ?_
  obtain ⟨hi_4, H⟩ := H
  refine pop_index sli22 siz34 .i64 x_10 t53_1 hi_4 ?_
  obtain ⟨t63_1, hc_2, H⟩ := H
  refine rop_one one34 (Sl.v t63_1) hc_2 ?_
  refine pop_add .i64 t53_1 1 ?_
  obtain ⟨hz_1, H⟩ := H
  refine pop_rem .i64 (w64 (t53_1 + 1)) (w64 (1 + t13_1)) hz_1 ?_
  refine H.mono fun rv_13 h_22 H => ?_
  obtain ⟨t68_1, rfl, hL_22, H⟩ := H
  refine ⟨?_, ?_⟩
  ·exact still_one one34 H.1
  obtain ⟨hc_1, H⟩ := H
  refine ⟨?_, ?_⟩
  ·exact still_loc one22 hL_22 0 rfl 0 (v := (Sl.v x_10)) rfl
  refine ⟨?_, ?_⟩
  ·exact still_loc one22 hL_22 0 rfl 0 (v := (Sl.v x_10)) rfl
  refine H.mono fun rv_14 h_23 H => ?_
  obtain ⟨t69_1, rfl, hL_23, H⟩ := H
  refine ⟨?_, ?_⟩
  ·exact still_loc one22 hL_23 0 rfl 0 (v := (Sl.v x_10)) rfl
  refine ⟨?_, ?_⟩
  ·exact still_loc one22 hL_23 0 rfl 0 (v := (Sl.v x_10)) rfl
  obtain ⟨hi_5, H⟩ := H
  refine pop_index sli22 siz34 .i64 x_10 t53_1 hi_5 ?_
  obtain ⟨hw_1, hL_24, H⟩ := H
  refine uop_cell (v := (Sl.v t69_1)) siz34 hw_1 rfl (fun h_24 he_1 => ?_)
  rw [← he_1] at hL_24
  have H := H h_24 he_1 hL_24
  refine pop_add .i64 t53_1 1 ?_
  obtain ⟨m_3, hm_3, H⟩ := H
  exact hn_3 _ _ ⟨m_3, hm_3, (w64 (t53_1 + 1)), rfl, H, hL_24⟩
def u129 (P : Program) (b_1 : Nat) (c0_1 : Sl) (c0_2 : Int) (c0_3 : Int) (h : Heap) (K : Value → Heap → Prop) : Prop :=
  ∃ J_1 : Int → Heap → Prop, (((decide (c0_2 < (c0_1.n : Int))) = true →
  InB c0_1 c0_2 ∧
  ∃ t23_1 : Int, hcell h (Sl.at c0_1 c0_2 1) = some (Value.int .u8 t23_1) ∧
  rop P (convert 5 3 (Value.int .u8 t23_1)) h fun rv_1 => ∃ t24_1 : Int, rv_1 = (VI t24_1) ∧ 
  J_1 t24_1 h) ∧
  ((decide (c0_2 < (c0_1.n : Int))) = false →
  J_1 0 h)) ∧
  ∀ (x_1 : Int) (h_1 : Heap), J_1 x_1 h_1 → Vars h_1 [(b_1, [(Sl.v c0_1), (VI c0_2), (Value.int .u64 c0_3)])] →
  ∀ (h_2 : Heap), Fr (In [b_1]) h_1 h_2 → Vars h_2 [(b_1, [(Sl.v c0_1), (VI (w64 (c0_2 + 1))), (Value.int .u64 c0_3)])] →
  rop P (convert 3 121 (VI x_1)) h_2 fun rv_2 => ∃ t39_1 : Int, rv_2 = (Value.int .u64 t39_1) ∧ 
  ((decide ((w64 (c0_2 + 1)) ≤ (c0_1.n : Int))) = true →
  ∀ (h_3 : Heap), Fr (In [b_1]) h_2 h_3 → Vars h_3 [(b_1, [(Sl.v c0_1), (VI (w64 (c0_2 + 1))), (Value.int .u64 (IntKind.wrap .u64 ((IntKind.wrap .u64 ((IntKind.wrap .u64 (c0_3 * 6364136223846793005)) + t39_1)) + 1442695040888963407)))])] →
  K (VI x_1) h_3) ∧
  ((decide ((w64 (c0_2 + 1)) ≤ (c0_1.n : Int))) = false →
  pop P (binA .shr 121 (Value.int .u64 (IntKind.wrap .u64 ((IntKind.wrap .u64 ((IntKind.wrap .u64 (c0_3 * 6364136223846793005)) + t39_1)) + 1442695040888963407))) (Value.int IntKind.u64 40)) fun rv_3 => ∃ t59_1 : Int, rv_3 = (Value.int .u64 t59_1) ∧ 
  pop P (binA .and 121 (Value.int .u64 t59_1) (Value.int IntKind.u64 255)) fun rv_4 => ∃ t60_1 : Int, rv_4 = (Value.int .u64 t60_1) ∧ 
  ∀ (h_3 : Heap), Fr (In [b_1]) h_2 h_3 → Vars h_3 [(b_1, [(Sl.v c0_1), (VI (w64 (c0_2 + 1))), (Value.int .u64 (IntKind.wrap .u64 ((IntKind.wrap .u64 ((IntKind.wrap .u64 (c0_3 * 6364136223846793005)) + t39_1)) + 1442695040888963407)))])] →
  rop P (convert 121 3 (Value.int .u64 t60_1)) h_3 fun rv_5 => ∃ t61_1 : Int, rv_5 = (VI t61_1) ∧ 
  K (VI t61_1) h_3)
theorem v129 (b_1 : Nat) (c0_1 : Sl) (c0_2 : Int) (c0_3 : Int) (h : Heap) (K : Value → Heap → Prop) (hL : Vars h [(b_1, [(Sl.v c0_1), (VI c0_2), (Value.int .u64 c0_3)])]) (H : u129 Tryd.prog b_1 c0_1 c0_2 c0_3 h K) : callM Tryd.prog 129 #[(VP b_1 0)] h K := by
  refine c129 (VP b_1 0) h K ?_
  unfold u129 at H
  unfold t129
  obtain ⟨J_1, H, HB_1⟩ := H
  refine ⟨fun (vs : List Value) (h' : Heap) => ∃ x_1 : Int, vs = [(VI x_1)] ∧ J_1 x_1 h' ∧ Vars h' [(b_1, [(Sl.v c0_1), (VI c0_2), (Value.int .u64 c0_3)])], ?_, ?_⟩
  ·refine pop_nil _ ?_
   refine pop_field 1 fld123_1 b_1 0 ?_
   refine rop_loc one3 hL 0 rfl 1 (v := (VI c0_2)) rfl ?_
   refine pop_nil _ ?_
   refine pop_field 0 fld123_0 b_1 0 ?_
   refine rop_loc one48 hL 0 rfl 0 (v := (Sl.v c0_1)) rfl ?_
   refine pop_len c0_1 _ _ sli48 ?_
   refine pop_lss .i64 c0_2 (c0_1.n : Int) ?_
   refine condM_b (fun hb_1 => ?_) (fun hb_1 => ?_)
   rotate_left
   ·have H := H.2 hb_1
    exact ⟨0, rfl, H, hL⟩
   have H := H.1 hb_1
   refine pop_nil _ ?_
   refine pop_field 0 fld123_0 b_1 0 ?_
   refine rop_loc one48 hL 0 rfl 0 (v := (Sl.v c0_1)) rfl ?_
   refine pop_nil _ ?_
   refine pop_field 1 fld123_1 b_1 0 ?_
   refine rop_loc one3 hL 0 rfl 1 (v := (VI c0_2)) rfl ?_
   obtain ⟨hi_1, H⟩ := H
   refine pop_index sli48 siz5 .i64 c0_1 c0_2 hi_1 ?_
   obtain ⟨t23_1, hc_1, H⟩ := H
   refine rop_one one5 (Value.int .u8 t23_1) hc_1 ?_
   refine H.mono fun rv_1 H => ?_
   obtain ⟨t24_1, rfl, H⟩ := H
   exact ⟨t24_1, rfl, H, hL⟩
  intro junk_1 tv_1 h_1
  rintro ⟨x_1, hv, hJ_1, hL_1⟩
  cases hv
  have H := HB_1 x_1 h_1 hJ_1 hL_1
  refine pop_nil _ ?_
  refine pop_field 1 fld123_1 b_1 0 ?_
  refine rop_loc one3 hL_1 0 rfl 1 (v := (VI c0_2)) rfl ?_
  refine pop_add .i64 c0_2 1 ?_
  refine pop_nil _ ?_
  refine pop_field 1 fld123_1 b_1 0 ?_
  refine uop_loc siz3 hL_1 0 rfl 1 [(VI (w64 (c0_2 + 1)))] rfl rfl rfl (Nat.le_of_ble_eq_true rfl) (L' := [(b_1, [(Sl.v c0_1), (VI (w64 (c0_2 + 1))), (Value.int .u64 c0_3)])]) rfl (fun h_2 hf_1 hL_2 => ?_)
  refine pop_nil _ ?_
  refine pop_field 2 fld123_2 b_1 0 ?_
  refine rop_loc one121 hL_2 0 rfl 2 (v := (Value.int .u64 c0_3)) rfl ?_
  refine pop_mul .u64 c0_3 6364136223846793005 ?_
  have H := H  h_2  (Fr.old (Fr.r (In []) _) hf_1) hL_2
  refine H.mono fun rv_2 H => ?_
  obtain ⟨t39_1, rfl, H⟩ := H
  refine pop_add .u64 (IntKind.wrap .u64 (c0_3 * 6364136223846793005)) t39_1 ?_
  refine pop_add .u64 (IntKind.wrap .u64 ((IntKind.wrap .u64 (c0_3 * 6364136223846793005)) + t39_1)) 1442695040888963407 ?_
  refine pop_nil _ ?_
  refine pop_field 2 fld123_2 b_1 0 ?_
  refine uop_loc siz121 hL_2 0 rfl 2 [(Value.int .u64 (IntKind.wrap .u64 ((IntKind.wrap .u64 ((IntKind.wrap .u64 (c0_3 * 6364136223846793005)) + t39_1)) + 1442695040888963407)))] rfl rfl rfl (Nat.le_of_ble_eq_true rfl) (L' := [(b_1, [(Sl.v c0_1), (VI (w64 (c0_2 + 1))), (Value.int .u64 (IntKind.wrap .u64 ((IntKind.wrap .u64 ((IntKind.wrap .u64 (c0_3 * 6364136223846793005)) + t39_1)) + 1442695040888963407)))])]) rfl (fun h_3 hf_2 hL_3 => ?_)
  refine pop_nil _ ?_
  refine pop_field 1 fld123_1 b_1 0 ?_
  refine rop_loc one3 hL_3 0 rfl 1 (v := (VI (w64 (c0_2 + 1)))) rfl ?_
  refine pop_nil _ ?_
  refine pop_field 0 fld123_0 b_1 0 ?_
  refine rop_loc one48 hL_3 0 rfl 0 (v := (Sl.v c0_1)) rfl ?_
  refine pop_len c0_1 _ _ sli48 ?_
  refine pop_leq .i64 (w64 (c0_2 + 1)) (c0_1.n : Int) ?_
  refine condM_b (fun hb_2 => ?_) (fun hb_2 => ?_)
  ·have H := H.1 hb_2
   have H := H  h_3  (Fr.old (Fr.r (In []) _) hf_2) hL_3
   exact H
  have H := H.2 hb_2
  refine pop_nil _ ?_
  refine pop_field 2 fld123_2 b_1 0 ?_
  refine rop_loc one121 hL_3 0 rfl 2 (v := (Value.int .u64 (IntKind.wrap .u64 ((IntKind.wrap .u64 ((IntKind.wrap .u64 (c0_3 * 6364136223846793005)) + t39_1)) + 1442695040888963407)))) rfl ?_
  refine H.mono fun rv_3 H => ?_
  obtain ⟨t59_1, rfl, H⟩ := H
  refine H.mono fun rv_4 H => ?_
  obtain ⟨t60_1, rfl, H⟩ := H
  have H := H  h_3  (Fr.old (Fr.r (In []) _) hf_2) hL_3
  refine H.mono fun rv_5 H => ?_
  obtain ⟨t61_1, rfl, H⟩ := H
  exact H
def u135 (P : Program) (n0_1 : Int) (both1_1 : Bool) (h : Heap) (K : Value → Heap → Prop) : Prop :=
  ∀ (b_1 : Nat) (b_2 : Nat) (h_3 : Heap), h.size ≤ b_1 → h.size ≤ b_2 → Fr (In []) h h_3 → Vars h_3 [(b_2, [(Sl.v nilSl)]), (b_1, [(Sl.v nilSl)])] →
  ∃ J_1 : Nat → Int → Sl → Heap → Prop, (∃ n0 : Nat, J_1 n0 0 nilSl h_3) ∧
  ∀ (n_1 : Nat) (p6_1 : Int) (x_1 : Sl) (h_4 : Heap), J_1 n_1 p6_1 x_1 h_4 → Vars h_4 [(b_2, [(Sl.v x_1)]), (b_1, [(Sl.v nilSl)])] →
  ((decide (p6_1 < n0_1)) = true →
  n0_1 ≠ 0 ∧
  eop P (Instr.buildSlice 34 1 #[(0, (VI (Int.tmod (w64 (p6_1 + 1)) n0_1)))]) h_4 fun rv_1 h_5 => ∃ t18_1 : Sl, rv_1 = (Sl.v t18_1) ∧ Vars h_5 [(b_2, [(Sl.v x_1)]), (b_1, [(Sl.v nilSl)])] ∧
  ∃ J_2 : Sl → Heap → Prop, ((both1_1 = true →
  n0_1 ≠ 0 ∧
  eop P (Instr.buildSlice 34 1 #[(0, (VI (Int.tmod (w64 ((w64 (p6_1 + n0_1)) - 1)) n0_1)))]) h_5 fun rv_2 h_6 => ∃ t27_1 : Sl, rv_2 = (Sl.v t27_1) ∧ Vars h_6 [(b_2, [(Sl.v x_1)]), (b_1, [(Sl.v nilSl)])] ∧
  eop P (appS 34 34 34 (Sl.v t18_1) (Sl.v t27_1)) h_6 fun rv_3 h_7 => ∃ t28_1 : Sl, rv_3 = (Sl.v t28_1) ∧ Vars h_7 [(b_2, [(Sl.v x_1)]), (b_1, [(Sl.v nilSl)])] ∧
  J_2 t28_1 h_7) ∧
  (both1_1 = false →
  J_2 t18_1 h_5)) ∧
  ∀ (x_2 : Sl) (h_8 : Heap), J_2 x_2 h_8 → Vars h_8 [(b_2, [(Sl.v x_1)]), (b_1, [(Sl.v nilSl)])] →
  eop P (Instr.buildSlice 22 1 #[(0, (Sl.v x_2))]) h_8 fun rv_4 h_9 => ∃ t32_1 : Sl, rv_4 = (Sl.v t32_1) ∧ Vars h_9 [(b_2, [(Sl.v x_1)]), (b_1, [(Sl.v nilSl)])] ∧
  eop P (appS 22 22 22 (Sl.v x_1) (Sl.v t32_1)) h_9 fun rv_5 h_10 => ∃ t33_1 : Sl, rv_5 = (Sl.v t33_1) ∧ Vars h_10 [(b_2, [(Sl.v x_1)]), (b_1, [(Sl.v nilSl)])] ∧
  ∀ (h_11 : Heap), Fr (In [b_2]) h_10 h_11 → Vars h_11 [(b_2, [(Sl.v t33_1)]), (b_1, [(Sl.v nilSl)])] →
  ∃ m : Nat, m < n_1 ∧ J_1 m (w64 (p6_1 + 1)) t33_1 h_11) ∧
  ((decide (p6_1 < n0_1)) = false →
  ∀ (h_12 : Heap), Fr (In [b_1]) h_4 h_12 → Vars h_12 [(b_2, [(Sl.v x_1)]), (b_1, [(Sl.v x_1)])] →
  K (Value.agg #[(Sl.v x_1)]) h_12)
theorem v135 (n0_1 : Int) (both1_1 : Bool) (h : Heap) (K : Value → Heap → Prop) (H : u135 Tryd.prog n0_1 both1_1 h K) : callM Tryd.prog 135 #[(VI n0_1), (VB both1_1)] h K := by
  refine c135 (VI n0_1) (VB both1_1) h K ?_
  unfold u135 at H
  unfold t135
  have hL : Vars h [] := .nil
  refine eop_alloc 41 zer41 rfl hL (fun b_1 h_1 hb_1 hf_1 hL_1 => ?_)
  refine pop.mk' (v := (Value.agg #[(Sl.v nilSl)])) (fun w => by kernel_rfl) ?_
  refine eop_alloc 41 zer41 rfl hL_1 (fun b_2 h_2 hb_2 hf_2 hL_2 => ?_)
  refine uop_loc siz41 hL_2 0 rfl 0 [(Sl.v nilSl)] rfl rfl rfl (Nat.le_of_ble_eq_true rfl) (L' := [(b_2, [(Sl.v nilSl)]), (b_1, [(Sl.v nilSl)])]) rfl (fun h_3 hf_3 hL_3 => ?_)
  have H := H b_1 b_2 h_3 (Nat.le_trans (Fr.size (Fr.r (In []) _)) hb_1) (Nat.le_trans (Fr.size (Fr.no' (Fr.r (In []) _) hf_1)) hb_2) (Fr.new (Fr.no' (Fr.no' (Fr.r (In []) _) hf_1) hf_2) (Nat.le_trans (Fr.size (Fr.no' (Fr.r (In []) _) hf_1)) hb_2) hf_3) hL_3
  obtain ⟨J_1, ⟨n_2, h0_1⟩, HB_2⟩ := H
  refine loop_intro (J := fun (n : Nat) (vs : List Value) (h' : Heap) => ∃ p6_1 : Int, ∃ x_1 : Sl, vs = [(VI p6_1)] ∧ J_1 n p6_1 x_1 h' ∧ Vars h' [(b_2, [(Sl.v x_1)]), (b_1, [(Sl.v nilSl)])]) n_2 ⟨0, nilSl, rfl, h0_1, hL_3⟩ ?_
  intro I_1 mu_1 hI_1 junk_1 tv_2 h_4 hi_1
  obtain ⟨n_1, ⟨p6_1, x_1, hv, hJ_1, hL_4⟩, hn_1⟩ := hI_1 _ _ hi_1
  cases hv
  have H := HB_2 n_1 p6_1 x_1 h_4 hJ_1 hL_4
  refine pop_lss .i64 p6_1 n0_1 ?_
  refine condM_b (fun hb_3 => ?_) (fun hb_3 => ?_)
  rotate_left
  ·have H := H.2 hb_3
   refine rop_locA agg41 hL_4 0 rfl 0 (vs := [(Sl.v x_1)]) rfl rfl ?_
   refine uop_loc siz41 hL_4 1 rfl 0 [(Sl.v x_1)] rfl rfl rfl (Nat.le_of_ble_eq_true rfl) (L' := [(b_2, [(Sl.v x_1)]), (b_1, [(Sl.v x_1)])]) rfl (fun h_12 hf_5 hL_12 => ?_)
   refine rop_locA agg41 hL_12 1 rfl 0 (vs := [(Sl.v x_1)]) rfl rfl ?_
   have H := H  h_12  (Fr.old (Fr.r (In []) _) hf_5) hL_12
   exact H
  have H := H.1 hb_3
  refine pop_add .i64 p6_1 1 ?_
  obtain ⟨hz_1, H⟩ := H
  refine pop_rem .i64 (w64 (p6_1 + 1)) n0_1 hz_1 ?_
  refine H.mono fun rv_1 h_5 H => ?_
  obtain ⟨t18_1, rfl, hL_5, H⟩ := H
  obtain ⟨J_2, H, HB_1⟩ := H
  refine ⟨fun (vs : List Value) (h' : Heap) => ∃ x_2 : Sl, vs = [(Sl.v x_2)] ∧ J_2 x_2 h' ∧ Vars h' [(b_2, [(Sl.v x_1)]), (b_1, [(Sl.v nilSl)])], ?_, ?_⟩
  ·refine condM_b (fun hb_4 => ?_) (fun hb_4 => ?_)
   rotate_left
   ·have H := H.2 hb_4
    exact ⟨t18_1, rfl, H, hL_5⟩
   have H := H.1 hb_4
   refine pop_add .i64 p6_1 n0_1 ?_
   refine pop_sub .i64 (w64 (p6_1 + n0_1)) 1 ?_
   obtain ⟨hz_2, H⟩ := H
   refine pop_rem .i64 (w64 ((w64 (p6_1 + n0_1)) - 1)) n0_1 hz_2 ?_
   refine H.mono fun rv_2 h_6 H => ?_
   obtain ⟨t27_1, rfl, hL_6, H⟩ := H
   refine H.mono fun rv_3 h_7 H => ?_
   obtain ⟨t28_1, rfl, hL_7, H⟩ := H
   exact ⟨t28_1, rfl, H, hL_7⟩
  intro junk_2 tv_1 h_8
  rintro ⟨x_2, hv, hJ_2, hL_8⟩
  cases hv
  have H := HB_1 x_2 h_8 hJ_2 hL_8
  refine pop_field 0 fld41_0 b_2 0 ?_
  refine rop_loc one22 hL_8 0 rfl 0 (v := (Sl.v x_1)) rfl ?_
  refine H.mono fun rv_4 h_9 H => ?_
  obtain ⟨t32_1, rfl, hL_9, H⟩ := H
  refine H.mono fun rv_5 h_10 H => ?_
  obtain ⟨t33_1, rfl, hL_10, H⟩ := H
  refine pop_field 0 fld41_0 b_2 0 ?_
  refine uop_loc siz22 hL_10 0 rfl 0 [(Sl.v t33_1)] rfl rfl rfl (Nat.le_of_ble_eq_true rfl) (L' := [(b_2, [(Sl.v t33_1)]), (b_1, [(Sl.v nilSl)])]) rfl (fun h_11 hf_4 hL_11 => ?_)
  refine pop_add .i64 p6_1 1 ?_
  have H := H  h_11  (Fr.old (Fr.r (In []) _) hf_4) hL_11
  obtain ⟨m_1, hm_1, H⟩ := H
  exact hn_1 _ _ ⟨m_1, hm_1, (w64 (p6_1 + 1)), t33_1, rfl, H, hL_11⟩
end Go.Proofs.YtkjkfjkapbpgiaaDoor
