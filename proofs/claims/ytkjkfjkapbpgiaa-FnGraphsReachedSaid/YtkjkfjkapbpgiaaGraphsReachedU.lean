import Derived.Test.YtkjkfjkapbpgiaaGraphsReachedT
import Derived.Test.YtkjkfjkapbpgiaaM2
set_option linter.unusedVariables false
set_option linter.unusedSimpArgs false
set_option maxRecDepth 100000
set_option maxHeartbeats 16000000
namespace Go.Proofs.Ytkjkfjkapbpgiaa
open Go Go.Mx
theorem agg32 : aggC Try.prog 32 = some 1 := by kernel_rfl
theorem boo4 : Try.prog.underlying 4 = some .bool := by kernel_rfl
theorem fld32_0 : fieldC Try.prog 32 0 = some 0 := by kernel_rfl
theorem fld86_0 : fieldC Try.prog 86 0 = some 0 := by kernel_rfl
theorem fld86_1 : fieldC Try.prog 86 1 = some 1 := by kernel_rfl
theorem fld86_2 : fieldC Try.prog 86 2 = some 2 := by kernel_rfl
theorem one22 : oneC Try.prog 22 = true := by kernel_rfl
theorem one27 : oneC Try.prog 27 = true := by kernel_rfl
theorem one3 : oneC Try.prog 3 = true := by kernel_rfl
theorem one4 : oneC Try.prog 4 = true := by kernel_rfl
theorem one46 : oneC Try.prog 46 = true := by kernel_rfl
theorem one5 : oneC Try.prog 5 = true := by kernel_rfl
theorem one84 : oneC Try.prog 84 = true := by kernel_rfl
theorem siz22 : sizeC Try.prog 22 = some 1 := by kernel_rfl
theorem siz27 : sizeC Try.prog 27 = some 1 := by kernel_rfl
theorem siz3 : sizeC Try.prog 3 = some 1 := by kernel_rfl
theorem siz32 : sizeC Try.prog 32 = some 1 := by kernel_rfl
theorem siz4 : sizeC Try.prog 4 = some 1 := by kernel_rfl
theorem siz5 : sizeC Try.prog 5 = some 1 := by kernel_rfl
theorem siz84 : sizeC Try.prog 84 = some 1 := by kernel_rfl
theorem sli22 : Try.prog.underlying 22 = some (.slice 27) := by kernel_rfl
theorem sli27 : Try.prog.underlying 27 = some (.slice 3) := by kernel_rfl
theorem sli46 : Try.prog.underlying 46 = some (.slice 5) := by kernel_rfl
theorem sli93 : Try.prog.underlying 93 = some (.slice 4) := by kernel_rfl
theorem zer3 : zeroC Try.prog 3 = some (VI 0) := by kernel_rfl
theorem zer32 : zeroC Try.prog 32 = some (Value.agg #[(Sl.v nilSl)]) := by kernel_rfl
def u5 (P : Program) (code0_1 : Sl) (more1_1 : Sl) (h : Heap) (K : Value → Heap → Prop) : Prop :=
  callM P 23 #[(Sl.v code0_1), (Sl.v more1_1)] h fun rv_1 h_1 => ∃ t58_1 : Bool, rv_1 = (VB t58_1) ∧ Vars h_1 [] ∧
  (t58_1 = true →
  K (VB true) h_1) ∧
  (t58_1 = false →
  callM P 24 #[(Sl.v code0_1)] h_1 fun rv_2 h_2 => ∃ t61_1 : Sl, ∃ t61_2 : Int, ∃ t61_3 : Int, rv_2 = (Value.tuple #[(Value.agg #[(Sl.v t61_1)]), (VI t61_2), (VI t61_3)]) ∧ Vars h_2 [] ∧
  ∀ (b_1 : Nat) (h_4 : Heap), h_2.size ≤ b_1 → Fr (In []) h_2 h_4 → Vars h_4 [(b_1, [(Sl.v t61_1)])] →
  callM P 25 #[(Value.agg #[(Sl.v t61_1)]), (VI t61_2), (VI t61_3)] h_4 fun rv_3 h_5 => ∃ t69_1 : Int, ∃ t69_2 : Bool, rv_3 = (Value.tuple #[(VI t69_1), (VB t69_2)]) ∧ Vars h_5 [(b_1, [(Sl.v t61_1)])] ∧
  callM P 26 #[(Value.agg #[(Sl.v t61_1)]), (VI t61_2), (VI t61_3)] h_5 fun rv_4 h_6 => ∃ t76_1 : Int, ∃ t76_2 : Bool, rv_4 = (Value.tuple #[(VI t76_1), (VB t76_2)]) ∧ Vars h_6 [(b_1, [(Sl.v t61_1)])] ∧
  callM P 27 #[(Value.agg #[(Sl.v t61_1)]), (VI t61_2)] h_6 fun rv_5 h_7 => ∃ t82_1 : Sl, ∃ t82_2 : Bool, rv_5 = (Value.tuple #[(Sl.v t82_1), (VB t82_2)]) ∧ Vars h_7 [(b_1, [(Sl.v t61_1)])] ∧
  callM P 28 #[(Value.agg #[(Sl.v t61_1)]), (VI t61_2)] h_7 fun rv_6 h_8 => ∃ t88_1 : Sl, ∃ t88_2 : Bool, rv_6 = (Value.tuple #[(Sl.v t88_1), (VB t88_2)]) ∧ Vars h_8 [(b_1, [(Sl.v t61_1)])] ∧
  ((!(t69_2 == t76_2)) = true →
  K (VB false) h_8) ∧
  ((!(t69_2 == t76_2)) = false →
  ((!decide (t69_1 = t76_1)) = true →
  K (VB false) h_8) ∧
  ((!decide (t69_1 = t76_1)) = false →
  ((!(t82_2 == t88_2)) = true →
  K (VB false) h_8) ∧
  ((!(t82_2 == t88_2)) = false →
  callM P 29 #[(Sl.v t82_1), (Sl.v t88_1)] h_8 fun rv_7 h_9 => ∃ t107_1 : Bool, rv_7 = (VB t107_1) ∧ Vars h_9 [(b_1, [(Sl.v t61_1)])] ∧
  ((!t107_1) = true →
  K (VB false) h_9) ∧
  ((!t107_1) = false →
  (t82_2 = true →
  callM P 30 #[(Value.agg #[(Sl.v t61_1)])] h_9 fun rv_8 h_10 => ∃ t113_1 : Bool, rv_8 = (VB t113_1) ∧ Vars h_10 [(b_1, [(Sl.v t61_1)])] ∧
  (t113_1 = true →
  ((decide (0 ≤ t61_3)) = true →
  ((decide (t61_3 < (t61_1.n : Int))) = true →
  callM P 31 #[(Sl.v t82_1), (VI t61_3)] h_10 fun rv_9 h_11 => ∃ t130_1 : Bool, rv_9 = (VB t130_1) ∧ Vars h_11 [(b_1, [(Sl.v t61_1)])] ∧
  ((!(t69_2 == t130_1)) = true →
  K (VB false) h_11) ∧
  ((!(t69_2 == t130_1)) = false →
  (t69_2 = true →
  ((decide (t69_1 < 0)) = true →
  K (VB false) h_11) ∧
  ((decide (t69_1 < 0)) = false →
  ((decide ((t61_1.n : Int) ≤ t69_1)) = true →
  K (VB false) h_11) ∧
  ((decide ((t61_1.n : Int) ≤ t69_1)) = false →
  ((!((decide (t69_1 = 0)) == (decide (t61_2 = t61_3)))) = true →
  K (VB false) h_11) ∧
  ((!((decide (t69_1 = 0)) == (decide (t61_2 = t61_3)))) = false →
  callM P 32 #[(Sl.v more1_1)] h_11 fun rv_10 h_12 => ∃ t154_1 : Sl, rv_10 = (Value.agg #[(Sl.v t154_1)]) ∧ Vars h_12 [(b_1, [(Sl.v t61_1)])] ∧
  ∀ (b_2 : Nat) (h_14 : Heap), h_12.size ≤ b_2 → Fr (In []) h_12 h_14 → Vars h_14 [(b_2, [(Sl.v t154_1)]), (b_1, [(Sl.v t61_1)])] →
  callM P 33 #[(Value.agg #[(Sl.v t154_1)])] h_14 fun rv_11 h_15 => ∃ t157_1 : Sl, ∃ t157_2 : Bool, rv_11 = (Value.tuple #[(Sl.v t157_1), (VB t157_2)]) ∧ Vars h_15 [(b_2, [(Sl.v t154_1)]), (b_1, [(Sl.v t61_1)])] ∧
  callM P 34 #[(Value.agg #[(Sl.v t154_1)])] h_15 fun rv_12 h_16 => ∃ t162_1 : Sl, ∃ t162_2 : Bool, rv_12 = (Value.tuple #[(Sl.v t162_1), (VB t162_2)]) ∧ Vars h_16 [(b_2, [(Sl.v t154_1)]), (b_1, [(Sl.v t61_1)])] ∧
  callM P 35 #[(Value.agg #[(Sl.v t154_1)])] h_16 fun rv_13 h_17 => ∃ t167_1 : Bool, ∃ t167_2 : Bool, rv_13 = (Value.tuple #[(VB t167_1), (VB t167_2)]) ∧ Vars h_17 [(b_2, [(Sl.v t154_1)]), (b_1, [(Sl.v t61_1)])] ∧
  callM P 36 #[(Value.agg #[(Sl.v t154_1)])] h_17 fun rv_14 h_18 => ∃ t172_1 : Bool, ∃ t172_2 : Bool, rv_14 = (Value.tuple #[(VB t172_1), (VB t172_2)]) ∧ Vars h_18 [(b_2, [(Sl.v t154_1)]), (b_1, [(Sl.v t61_1)])] ∧
  ((!(t157_2 == t162_2)) = true →
  K (VB false) h_18) ∧
  ((!(t157_2 == t162_2)) = false →
  callM P 37 #[(Sl.v t157_1), (Sl.v t162_1)] h_18 fun rv_15 h_19 => ∃ t181_1 : Bool, rv_15 = (VB t181_1) ∧ Vars h_19 [(b_2, [(Sl.v t154_1)]), (b_1, [(Sl.v t61_1)])] ∧
  ((!t181_1) = true →
  K (VB false) h_19) ∧
  ((!t181_1) = false →
  ((!(t167_2 == t172_2)) = true →
  K (VB false) h_19) ∧
  ((!(t167_2 == t172_2)) = false →
  ((!(t167_1 == t172_1)) = true →
  K (VB false) h_19) ∧
  ((!(t167_1 == t172_1)) = false →
  ((!(t167_2 == t157_2)) = true →
  K (VB false) h_19) ∧
  ((!(t167_2 == t157_2)) = false →
  ∃ J_1 : Heap → Prop, ((t157_2 = true →
  ∃ J_2 : Nat → Int → Int → Heap → Prop, (∃ n0 : Nat, J_2 n0 0 0 h_19) ∧
  ∀ (n_1 : Nat) (count25_1 : Int) (t202_1 : Int) (h_20 : Heap), J_2 n_1 count25_1 t202_1 h_20 → Vars h_20 [(b_2, [(Sl.v t154_1)]), (b_1, [(Sl.v t61_1)])] →
  ((decide (t202_1 < (t157_1.n : Int))) = true →
  InB t157_1 t202_1 ∧
  ∃ t206_1 : Sl, hcell h_20 (Sl.at t157_1 t202_1 1) = some (Sl.v t206_1) ∧
  ((decide (0 < t202_1)) = true →
  InB t157_1 (w64 (t202_1 - 1)) ∧
  ∃ t218_1 : Sl, hcell h_20 (Sl.at t157_1 (w64 (t202_1 - 1)) 1) = some (Sl.v t218_1) ∧
  InB t218_1 0 ∧
  ∃ t220_1 : Int, hcell h_20 (Sl.at t218_1 0 1) = some (VI t220_1) ∧
  InB t206_1 0 ∧
  ∃ t223_1 : Int, hcell h_20 (Sl.at t206_1 0 1) = some (VI t223_1) ∧
  ((decide (t223_1 ≤ t220_1)) = true →
  K (VB false) h_20) ∧
  ((decide (t223_1 ≤ t220_1)) = false →
  ∃ J_3 : Nat → Int → Heap → Prop, (∃ n0 : Nat, J_3 n0 0 h_20) ∧
  ∀ (n_2 : Nat) (t228_1 : Int) (h_21 : Heap), J_3 n_2 t228_1 h_21 → Vars h_21 [(b_2, [(Sl.v t154_1)]), (b_1, [(Sl.v t61_1)])] →
  ((decide (t228_1 < (t206_1.n : Int))) = true →
  InB t206_1 t228_1 ∧
  ∃ t231_1 : Int, hcell h_21 (Sl.at t206_1 t228_1 1) = some (VI t231_1) ∧
  ∃ J_4 : Nat → Int → Heap → Prop, (∃ n0 : Nat, J_4 n0 0 h_21) ∧
  ∀ (n_3 : Nat) (t234_1 : Int) (h_22 : Heap), J_4 n_3 t234_1 h_22 → Vars h_22 [(b_2, [(Sl.v t154_1)]), (b_1, [(Sl.v t61_1)])] →
  ((decide (t234_1 < (t206_1.n : Int))) = true →
  InB t206_1 t234_1 ∧
  ∃ t237_1 : Int, hcell h_22 (Sl.at t206_1 t234_1 1) = some (VI t237_1) ∧
  callM P 25 #[(Value.agg #[(Sl.v t154_1)]), (VI t231_1), (VI t237_1)] h_22 fun rv_16 h_23 => ∃ t242_1 : Int, ∃ t242_2 : Bool, rv_16 = (Value.tuple #[(VI t242_1), (VB t242_2)]) ∧ Vars h_23 [(b_2, [(Sl.v t154_1)]), (b_1, [(Sl.v t61_1)])] ∧
  ((!t242_2) = true →
  K (VB false) h_23) ∧
  ((!t242_2) = false →
  ∃ m : Nat, m < n_3 ∧ J_4 m (w64 (t234_1 + 1)) h_23)) ∧
  ((decide (t234_1 < (t206_1.n : Int))) = false →
  ∃ m : Nat, m < n_2 ∧ J_3 m (w64 (t228_1 + 1)) h_22)) ∧
  ((decide (t228_1 < (t206_1.n : Int))) = false →
  ∃ m : Nat, m < n_1 ∧ J_2 m (w64 (count25_1 + (t206_1.n : Int))) (w64 (t202_1 + 1)) h_21))) ∧
  ((decide (0 < t202_1)) = false →
  ∃ J_5 : Nat → Int → Heap → Prop, (∃ n0 : Nat, J_5 n0 0 h_20) ∧
  ∀ (n_6 : Nat) (t228_2 : Int) (h_24 : Heap), J_5 n_6 t228_2 h_24 → Vars h_24 [(b_2, [(Sl.v t154_1)]), (b_1, [(Sl.v t61_1)])] →
  ((decide (t228_2 < (t206_1.n : Int))) = true →
  InB t206_1 t228_2 ∧
  ∃ t231_2 : Int, hcell h_24 (Sl.at t206_1 t228_2 1) = some (VI t231_2) ∧
  ∃ J_6 : Nat → Int → Heap → Prop, (∃ n0 : Nat, J_6 n0 0 h_24) ∧
  ∀ (n_7 : Nat) (t234_2 : Int) (h_25 : Heap), J_6 n_7 t234_2 h_25 → Vars h_25 [(b_2, [(Sl.v t154_1)]), (b_1, [(Sl.v t61_1)])] →
  ((decide (t234_2 < (t206_1.n : Int))) = true →
  InB t206_1 t234_2 ∧
  ∃ t237_2 : Int, hcell h_25 (Sl.at t206_1 t234_2 1) = some (VI t237_2) ∧
  callM P 25 #[(Value.agg #[(Sl.v t154_1)]), (VI t231_2), (VI t237_2)] h_25 fun rv_17 h_26 => ∃ t242_3 : Int, ∃ t242_4 : Bool, rv_17 = (Value.tuple #[(VI t242_3), (VB t242_4)]) ∧ Vars h_26 [(b_2, [(Sl.v t154_1)]), (b_1, [(Sl.v t61_1)])] ∧
  ((!t242_4) = true →
  K (VB false) h_26) ∧
  ((!t242_4) = false →
  ∃ m : Nat, m < n_7 ∧ J_6 m (w64 (t234_2 + 1)) h_26)) ∧
  ((decide (t234_2 < (t206_1.n : Int))) = false →
  ∃ m : Nat, m < n_6 ∧ J_5 m (w64 (t228_2 + 1)) h_25)) ∧
  ((decide (t228_2 < (t206_1.n : Int))) = false →
  ∃ m : Nat, m < n_1 ∧ J_2 m (w64 (count25_1 + (t206_1.n : Int))) (w64 (t202_1 + 1)) h_24))) ∧
  ((decide (t202_1 < (t157_1.n : Int))) = false →
  ((!decide (count25_1 = (t154_1.n : Int))) = true →
  K (VB false) h_20) ∧
  ((!decide (count25_1 = (t154_1.n : Int))) = false →
  ((!(t167_1 == (decide ((t157_1.n : Int) = 1)))) = true →
  K (VB false) h_20) ∧
  ((!(t167_1 == (decide ((t157_1.n : Int) = 1)))) = false →
  J_1  h_20)))) ∧
  (t157_2 = false →
  J_1  h_19)) ∧
  ∀ (h_27 : Heap), J_1  h_27 → Vars h_27 [(b_2, [(Sl.v t154_1)]), (b_1, [(Sl.v t61_1)])] →
  callM P 38 #[(Sl.v more1_1)] h_27 fun rv_18 h_28 => ∃ t264_1 : Sl, ∃ t264_2 : Sl, rv_18 = (Value.tuple #[(Value.agg #[(Sl.v t264_1)]), (Sl.v t264_2)]) ∧ Vars h_28 [(b_2, [(Sl.v t154_1)]), (b_1, [(Sl.v t61_1)])] ∧
  ∀ (b_3 : Nat) (h_30 : Heap), h_28.size ≤ b_3 → Fr (In []) h_28 h_30 → Vars h_30 [(b_3, [(Sl.v t264_1)]), (b_2, [(Sl.v t154_1)]), (b_1, [(Sl.v t61_1)])] →
  callM P 39 #[(Value.agg #[(Sl.v t264_1)]), (Sl.v t264_2)] h_30 fun rv_19 h_31 => ∃ t270_1 : Sl, ∃ t270_2 : Bool, rv_19 = (Value.tuple #[(Value.agg #[(Sl.v t270_1)]), (VB t270_2)]) ∧ Vars h_31 [(b_3, [(Sl.v t264_1)]), (b_2, [(Sl.v t154_1)]), (b_1, [(Sl.v t61_1)])] ∧
  ∀ (b_4 : Nat) (h_33 : Heap), h_31.size ≤ b_4 → Fr (In []) h_31 h_33 → Vars h_33 [(b_4, [(Sl.v t270_1)]), (b_3, [(Sl.v t264_1)]), (b_2, [(Sl.v t154_1)]), (b_1, [(Sl.v t61_1)])] →
  callM P 40 #[(Value.agg #[(Sl.v t264_1)]), (Sl.v t264_2)] h_33 fun rv_20 h_34 => ∃ t276_1 : Sl, ∃ t276_2 : Bool, rv_20 = (Value.tuple #[(Value.agg #[(Sl.v t276_1)]), (VB t276_2)]) ∧ Vars h_34 [(b_4, [(Sl.v t270_1)]), (b_3, [(Sl.v t264_1)]), (b_2, [(Sl.v t154_1)]), (b_1, [(Sl.v t61_1)])] ∧
  ((!(t270_2 == t276_2)) = true →
  ∀ (b_5 : Nat) (h_36 : Heap), h_34.size ≤ b_5 → Fr (In []) h_34 h_36 → Vars h_36 [(b_5, [(Sl.v t276_1)]), (b_4, [(Sl.v t270_1)]), (b_3, [(Sl.v t264_1)]), (b_2, [(Sl.v t154_1)]), (b_1, [(Sl.v t61_1)])] →
  K (VB false) h_36) ∧
  ((!(t270_2 == t276_2)) = false →
  ∀ (b_5 : Nat) (h_36 : Heap), h_34.size ≤ b_5 → Fr (In []) h_34 h_36 → Vars h_36 [(b_5, [(Sl.v t276_1)]), (b_4, [(Sl.v t270_1)]), (b_3, [(Sl.v t264_1)]), (b_2, [(Sl.v t154_1)]), (b_1, [(Sl.v t61_1)])] →
  callM P 41 #[(Value.agg #[(Sl.v t270_1)]), (Value.agg #[(Sl.v t276_1)])] h_36 fun rv_21 h_37 => ∃ t285_1 : Bool, rv_21 = (VB t285_1) ∧ Vars h_37 [(b_5, [(Sl.v t276_1)]), (b_4, [(Sl.v t270_1)]), (b_3, [(Sl.v t264_1)]), (b_2, [(Sl.v t154_1)]), (b_1, [(Sl.v t61_1)])] ∧
  ((!t285_1) = true →
  K (VB false) h_37) ∧
  ((!t285_1) = false →
  ∃ J_7 : Heap → Prop, ((t270_2 = true →
  ∃ J_8 : Nat → Int → Heap → Prop, (∃ n0 : Nat, J_8 n0 0 h_37) ∧
  ∀ (n_11 : Nat) (t292_1 : Int) (h_38 : Heap), J_8 n_11 t292_1 h_38 → Vars h_38 [(b_5, [(Sl.v t276_1)]), (b_4, [(Sl.v t270_1)]), (b_3, [(Sl.v t264_1)]), (b_2, [(Sl.v t154_1)]), (b_1, [(Sl.v t61_1)])] →
  ((decide (t292_1 < (t264_1.n : Int))) = true →
  ∃ J_9 : Nat → Int → Heap → Prop, (∃ n0 : Nat, J_9 n0 0 h_38) ∧
  ∀ (n_12 : Nat) (t298_1 : Int) (h_39 : Heap), J_9 n_12 t298_1 h_39 → Vars h_39 [(b_5, [(Sl.v t276_1)]), (b_4, [(Sl.v t270_1)]), (b_3, [(Sl.v t264_1)]), (b_2, [(Sl.v t154_1)]), (b_1, [(Sl.v t61_1)])] →
  ((decide (t298_1 < (t264_1.n : Int))) = true →
  callM P 25 #[(Value.agg #[(Sl.v t264_1)]), (VI t292_1), (VI t298_1)] h_39 fun rv_22 h_40 => ∃ t305_1 : Int, ∃ t305_2 : Bool, rv_22 = (Value.tuple #[(VI t305_1), (VB t305_2)]) ∧ Vars h_40 [(b_5, [(Sl.v t276_1)]), (b_4, [(Sl.v t270_1)]), (b_3, [(Sl.v t264_1)]), (b_2, [(Sl.v t154_1)]), (b_1, [(Sl.v t61_1)])] ∧
  InB t264_2 t292_1 ∧
  ∃ t313_1 : Int, hcell h_40 (Sl.at t264_2 t292_1 1) = some (VI t313_1) ∧
  InB t264_2 t298_1 ∧
  ∃ t317_1 : Int, hcell h_40 (Sl.at t264_2 t298_1 1) = some (VI t317_1) ∧
  callM P 25 #[(Value.agg #[(Sl.v t270_1)]), (VI t313_1), (VI t317_1)] h_40 fun rv_23 h_41 => ∃ t318_1 : Int, ∃ t318_2 : Bool, rv_23 = (Value.tuple #[(VI t318_1), (VB t318_2)]) ∧ Vars h_41 [(b_5, [(Sl.v t276_1)]), (b_4, [(Sl.v t270_1)]), (b_3, [(Sl.v t264_1)]), (b_2, [(Sl.v t154_1)]), (b_1, [(Sl.v t61_1)])] ∧
  ((!(t305_2 == t318_2)) = true →
  K (VB false) h_41) ∧
  ((!(t305_2 == t318_2)) = false →
  ((!decide (t305_1 = t318_1)) = true →
  K (VB false) h_41) ∧
  ((!decide (t305_1 = t318_1)) = false →
  ∃ m : Nat, m < n_12 ∧ J_9 m (w64 (t298_1 + 1)) h_41))) ∧
  ((decide (t298_1 < (t264_1.n : Int))) = false →
  ∃ m : Nat, m < n_11 ∧ J_8 m (w64 (t292_1 + 1)) h_39)) ∧
  ((decide (t292_1 < (t264_1.n : Int))) = false →
  J_7  h_38)) ∧
  (t270_2 = false →
  J_7  h_37)) ∧
  ∀ (h_42 : Heap), J_7  h_42 → Vars h_42 [(b_5, [(Sl.v t276_1)]), (b_4, [(Sl.v t270_1)]), (b_3, [(Sl.v t264_1)]), (b_2, [(Sl.v t154_1)]), (b_1, [(Sl.v t61_1)])] →
  callM P 42 #[(Sl.v more1_1)] h_42 fun rv_24 h_43 => ∃ t333_1 : Sl, ∃ t333_2 : Int, rv_24 = (Value.tuple #[(Value.agg #[(Sl.v t333_1)]), (VI t333_2)]) ∧ Vars h_43 [(b_5, [(Sl.v t276_1)]), (b_4, [(Sl.v t270_1)]), (b_3, [(Sl.v t264_1)]), (b_2, [(Sl.v t154_1)]), (b_1, [(Sl.v t61_1)])] ∧
  ∀ (b_6 : Nat) (h_45 : Heap), h_43.size ≤ b_6 → Fr (In []) h_43 h_45 → Vars h_45 [(b_6, [(Sl.v t333_1)]), (b_5, [(Sl.v t276_1)]), (b_4, [(Sl.v t270_1)]), (b_3, [(Sl.v t264_1)]), (b_2, [(Sl.v t154_1)]), (b_1, [(Sl.v t61_1)])] →
  callM P 43 #[(Value.agg #[(Sl.v t333_1)]), (VI t333_2)] h_45 fun rv_25 h_46 => ∃ t339_1 : Bool, ∃ t339_2 : Bool, rv_25 = (Value.tuple #[(VB t339_1), (VB t339_2)]) ∧ Vars h_46 [(b_6, [(Sl.v t333_1)]), (b_5, [(Sl.v t276_1)]), (b_4, [(Sl.v t270_1)]), (b_3, [(Sl.v t264_1)]), (b_2, [(Sl.v t154_1)]), (b_1, [(Sl.v t61_1)])] ∧
  callM P 44 #[(Value.agg #[(Sl.v t333_1)]), (VI t333_2)] h_46 fun rv_26 h_47 => ∃ t345_1 : Bool, ∃ t345_2 : Bool, rv_26 = (Value.tuple #[(VB t345_1), (VB t345_2)]) ∧ Vars h_47 [(b_6, [(Sl.v t333_1)]), (b_5, [(Sl.v t276_1)]), (b_4, [(Sl.v t270_1)]), (b_3, [(Sl.v t264_1)]), (b_2, [(Sl.v t154_1)]), (b_1, [(Sl.v t61_1)])] ∧
  ((!(t339_2 == t345_2)) = true →
  K (VB false) h_47) ∧
  ((!(t339_2 == t345_2)) = false →
  ((!(t339_1 == t345_1)) = true →
  K (VB false) h_47) ∧
  ((!(t339_1 == t345_1)) = false →
  (t339_2 = true →
  ∃ J_10 : Nat → Bool → Int → Heap → Prop, (∃ n0 : Nat, J_10 n0 true 0 h_47) ∧
  ∀ (n_15 : Nat) (all52_1 : Bool) (t360_1 : Int) (h_48 : Heap), J_10 n_15 all52_1 t360_1 h_48 → Vars h_48 [(b_6, [(Sl.v t333_1)]), (b_5, [(Sl.v t276_1)]), (b_4, [(Sl.v t270_1)]), (b_3, [(Sl.v t264_1)]), (b_2, [(Sl.v t154_1)]), (b_1, [(Sl.v t61_1)])] →
  ((decide (t360_1 < (t333_1.n : Int))) = true →
  callM P 25 #[(Value.agg #[(Sl.v t333_1)]), (VI t360_1), (VI t333_2)] h_48 fun rv_27 h_49 => ∃ t367_1 : Int, ∃ t367_2 : Bool, rv_27 = (Value.tuple #[(VI t367_1), (VB t367_2)]) ∧ Vars h_49 [(b_6, [(Sl.v t333_1)]), (b_5, [(Sl.v t276_1)]), (b_4, [(Sl.v t270_1)]), (b_3, [(Sl.v t264_1)]), (b_2, [(Sl.v t154_1)]), (b_1, [(Sl.v t61_1)])] ∧
  (all52_1 = true →
  ∃ m : Nat, m < n_15 ∧ J_10 m t367_2 (w64 (t360_1 + 1)) h_49) ∧
  (all52_1 = false →
  ∃ m : Nat, m < n_15 ∧ J_10 m false (w64 (t360_1 + 1)) h_49)) ∧
  ((decide (t360_1 < (t333_1.n : Int))) = false →
  K (VB (all52_1 == t339_1)) h_48)) ∧
  (t339_2 = false →
  K (VB true) h_47)))))))))))))) ∧
  (t69_2 = false →
  callM P 32 #[(Sl.v more1_1)] h_11 fun rv_28 h_50 => ∃ t154_2 : Sl, rv_28 = (Value.agg #[(Sl.v t154_2)]) ∧ Vars h_50 [(b_1, [(Sl.v t61_1)])] ∧
  ∀ (b_7 : Nat) (h_52 : Heap), h_50.size ≤ b_7 → Fr (In []) h_50 h_52 → Vars h_52 [(b_7, [(Sl.v t154_2)]), (b_1, [(Sl.v t61_1)])] →
  callM P 33 #[(Value.agg #[(Sl.v t154_2)])] h_52 fun rv_29 h_53 => ∃ t157_3 : Sl, ∃ t157_4 : Bool, rv_29 = (Value.tuple #[(Sl.v t157_3), (VB t157_4)]) ∧ Vars h_53 [(b_7, [(Sl.v t154_2)]), (b_1, [(Sl.v t61_1)])] ∧
  callM P 34 #[(Value.agg #[(Sl.v t154_2)])] h_53 fun rv_30 h_54 => ∃ t162_3 : Sl, ∃ t162_4 : Bool, rv_30 = (Value.tuple #[(Sl.v t162_3), (VB t162_4)]) ∧ Vars h_54 [(b_7, [(Sl.v t154_2)]), (b_1, [(Sl.v t61_1)])] ∧
  callM P 35 #[(Value.agg #[(Sl.v t154_2)])] h_54 fun rv_31 h_55 => ∃ t167_3 : Bool, ∃ t167_4 : Bool, rv_31 = (Value.tuple #[(VB t167_3), (VB t167_4)]) ∧ Vars h_55 [(b_7, [(Sl.v t154_2)]), (b_1, [(Sl.v t61_1)])] ∧
  callM P 36 #[(Value.agg #[(Sl.v t154_2)])] h_55 fun rv_32 h_56 => ∃ t172_3 : Bool, ∃ t172_4 : Bool, rv_32 = (Value.tuple #[(VB t172_3), (VB t172_4)]) ∧ Vars h_56 [(b_7, [(Sl.v t154_2)]), (b_1, [(Sl.v t61_1)])] ∧
  ((!(t157_4 == t162_4)) = true →
  K (VB false) h_56) ∧
  ((!(t157_4 == t162_4)) = false →
  callM P 37 #[(Sl.v t157_3), (Sl.v t162_3)] h_56 fun rv_33 h_57 => ∃ t181_2 : Bool, rv_33 = (VB t181_2) ∧ Vars h_57 [(b_7, [(Sl.v t154_2)]), (b_1, [(Sl.v t61_1)])] ∧
  ((!t181_2) = true →
  K (VB false) h_57) ∧
  ((!t181_2) = false →
  ((!(t167_4 == t172_4)) = true →
  K (VB false) h_57) ∧
  ((!(t167_4 == t172_4)) = false →
  ((!(t167_3 == t172_3)) = true →
  K (VB false) h_57) ∧
  ((!(t167_3 == t172_3)) = false →
  ((!(t167_4 == t157_4)) = true →
  K (VB false) h_57) ∧
  ((!(t167_4 == t157_4)) = false →
  ∃ J_11 : Heap → Prop, ((t157_4 = true →
  ∃ J_12 : Nat → Int → Int → Heap → Prop, (∃ n0 : Nat, J_12 n0 0 0 h_57) ∧
  ∀ (n_17 : Nat) (count25_2 : Int) (t202_2 : Int) (h_58 : Heap), J_12 n_17 count25_2 t202_2 h_58 → Vars h_58 [(b_7, [(Sl.v t154_2)]), (b_1, [(Sl.v t61_1)])] →
  ((decide (t202_2 < (t157_3.n : Int))) = true →
  InB t157_3 t202_2 ∧
  ∃ t206_2 : Sl, hcell h_58 (Sl.at t157_3 t202_2 1) = some (Sl.v t206_2) ∧
  ((decide (0 < t202_2)) = true →
  InB t157_3 (w64 (t202_2 - 1)) ∧
  ∃ t218_2 : Sl, hcell h_58 (Sl.at t157_3 (w64 (t202_2 - 1)) 1) = some (Sl.v t218_2) ∧
  InB t218_2 0 ∧
  ∃ t220_2 : Int, hcell h_58 (Sl.at t218_2 0 1) = some (VI t220_2) ∧
  InB t206_2 0 ∧
  ∃ t223_2 : Int, hcell h_58 (Sl.at t206_2 0 1) = some (VI t223_2) ∧
  ((decide (t223_2 ≤ t220_2)) = true →
  K (VB false) h_58) ∧
  ((decide (t223_2 ≤ t220_2)) = false →
  ∃ J_13 : Nat → Int → Heap → Prop, (∃ n0 : Nat, J_13 n0 0 h_58) ∧
  ∀ (n_18 : Nat) (t228_3 : Int) (h_59 : Heap), J_13 n_18 t228_3 h_59 → Vars h_59 [(b_7, [(Sl.v t154_2)]), (b_1, [(Sl.v t61_1)])] →
  ((decide (t228_3 < (t206_2.n : Int))) = true →
  InB t206_2 t228_3 ∧
  ∃ t231_3 : Int, hcell h_59 (Sl.at t206_2 t228_3 1) = some (VI t231_3) ∧
  ∃ J_14 : Nat → Int → Heap → Prop, (∃ n0 : Nat, J_14 n0 0 h_59) ∧
  ∀ (n_19 : Nat) (t234_3 : Int) (h_60 : Heap), J_14 n_19 t234_3 h_60 → Vars h_60 [(b_7, [(Sl.v t154_2)]), (b_1, [(Sl.v t61_1)])] →
  ((decide (t234_3 < (t206_2.n : Int))) = true →
  InB t206_2 t234_3 ∧
  ∃ t237_3 : Int, hcell h_60 (Sl.at t206_2 t234_3 1) = some (VI t237_3) ∧
  callM P 25 #[(Value.agg #[(Sl.v t154_2)]), (VI t231_3), (VI t237_3)] h_60 fun rv_34 h_61 => ∃ t242_5 : Int, ∃ t242_6 : Bool, rv_34 = (Value.tuple #[(VI t242_5), (VB t242_6)]) ∧ Vars h_61 [(b_7, [(Sl.v t154_2)]), (b_1, [(Sl.v t61_1)])] ∧
  ((!t242_6) = true →
  K (VB false) h_61) ∧
  ((!t242_6) = false →
  ∃ m : Nat, m < n_19 ∧ J_14 m (w64 (t234_3 + 1)) h_61)) ∧
  ((decide (t234_3 < (t206_2.n : Int))) = false →
  ∃ m : Nat, m < n_18 ∧ J_13 m (w64 (t228_3 + 1)) h_60)) ∧
  ((decide (t228_3 < (t206_2.n : Int))) = false →
  ∃ m : Nat, m < n_17 ∧ J_12 m (w64 (count25_2 + (t206_2.n : Int))) (w64 (t202_2 + 1)) h_59))) ∧
  ((decide (0 < t202_2)) = false →
  ∃ J_15 : Nat → Int → Heap → Prop, (∃ n0 : Nat, J_15 n0 0 h_58) ∧
  ∀ (n_22 : Nat) (t228_4 : Int) (h_62 : Heap), J_15 n_22 t228_4 h_62 → Vars h_62 [(b_7, [(Sl.v t154_2)]), (b_1, [(Sl.v t61_1)])] →
  ((decide (t228_4 < (t206_2.n : Int))) = true →
  InB t206_2 t228_4 ∧
  ∃ t231_4 : Int, hcell h_62 (Sl.at t206_2 t228_4 1) = some (VI t231_4) ∧
  ∃ J_16 : Nat → Int → Heap → Prop, (∃ n0 : Nat, J_16 n0 0 h_62) ∧
  ∀ (n_23 : Nat) (t234_4 : Int) (h_63 : Heap), J_16 n_23 t234_4 h_63 → Vars h_63 [(b_7, [(Sl.v t154_2)]), (b_1, [(Sl.v t61_1)])] →
  ((decide (t234_4 < (t206_2.n : Int))) = true →
  InB t206_2 t234_4 ∧
  ∃ t237_4 : Int, hcell h_63 (Sl.at t206_2 t234_4 1) = some (VI t237_4) ∧
  callM P 25 #[(Value.agg #[(Sl.v t154_2)]), (VI t231_4), (VI t237_4)] h_63 fun rv_35 h_64 => ∃ t242_7 : Int, ∃ t242_8 : Bool, rv_35 = (Value.tuple #[(VI t242_7), (VB t242_8)]) ∧ Vars h_64 [(b_7, [(Sl.v t154_2)]), (b_1, [(Sl.v t61_1)])] ∧
  ((!t242_8) = true →
  K (VB false) h_64) ∧
  ((!t242_8) = false →
  ∃ m : Nat, m < n_23 ∧ J_16 m (w64 (t234_4 + 1)) h_64)) ∧
  ((decide (t234_4 < (t206_2.n : Int))) = false →
  ∃ m : Nat, m < n_22 ∧ J_15 m (w64 (t228_4 + 1)) h_63)) ∧
  ((decide (t228_4 < (t206_2.n : Int))) = false →
  ∃ m : Nat, m < n_17 ∧ J_12 m (w64 (count25_2 + (t206_2.n : Int))) (w64 (t202_2 + 1)) h_62))) ∧
  ((decide (t202_2 < (t157_3.n : Int))) = false →
  ((!decide (count25_2 = (t154_2.n : Int))) = true →
  K (VB false) h_58) ∧
  ((!decide (count25_2 = (t154_2.n : Int))) = false →
  ((!(t167_3 == (decide ((t157_3.n : Int) = 1)))) = true →
  K (VB false) h_58) ∧
  ((!(t167_3 == (decide ((t157_3.n : Int) = 1)))) = false →
  J_11  h_58)))) ∧
  (t157_4 = false →
  J_11  h_57)) ∧
  ∀ (h_65 : Heap), J_11  h_65 → Vars h_65 [(b_7, [(Sl.v t154_2)]), (b_1, [(Sl.v t61_1)])] →
  callM P 38 #[(Sl.v more1_1)] h_65 fun rv_36 h_66 => ∃ t264_3 : Sl, ∃ t264_4 : Sl, rv_36 = (Value.tuple #[(Value.agg #[(Sl.v t264_3)]), (Sl.v t264_4)]) ∧ Vars h_66 [(b_7, [(Sl.v t154_2)]), (b_1, [(Sl.v t61_1)])] ∧
  ∀ (b_8 : Nat) (h_68 : Heap), h_66.size ≤ b_8 → Fr (In []) h_66 h_68 → Vars h_68 [(b_8, [(Sl.v t264_3)]), (b_7, [(Sl.v t154_2)]), (b_1, [(Sl.v t61_1)])] →
  callM P 39 #[(Value.agg #[(Sl.v t264_3)]), (Sl.v t264_4)] h_68 fun rv_37 h_69 => ∃ t270_3 : Sl, ∃ t270_4 : Bool, rv_37 = (Value.tuple #[(Value.agg #[(Sl.v t270_3)]), (VB t270_4)]) ∧ Vars h_69 [(b_8, [(Sl.v t264_3)]), (b_7, [(Sl.v t154_2)]), (b_1, [(Sl.v t61_1)])] ∧
  ∀ (b_9 : Nat) (h_71 : Heap), h_69.size ≤ b_9 → Fr (In []) h_69 h_71 → Vars h_71 [(b_9, [(Sl.v t270_3)]), (b_8, [(Sl.v t264_3)]), (b_7, [(Sl.v t154_2)]), (b_1, [(Sl.v t61_1)])] →
  callM P 40 #[(Value.agg #[(Sl.v t264_3)]), (Sl.v t264_4)] h_71 fun rv_38 h_72 => ∃ t276_3 : Sl, ∃ t276_4 : Bool, rv_38 = (Value.tuple #[(Value.agg #[(Sl.v t276_3)]), (VB t276_4)]) ∧ Vars h_72 [(b_9, [(Sl.v t270_3)]), (b_8, [(Sl.v t264_3)]), (b_7, [(Sl.v t154_2)]), (b_1, [(Sl.v t61_1)])] ∧
  ((!(t270_4 == t276_4)) = true →
  ∀ (b_10 : Nat) (h_74 : Heap), h_72.size ≤ b_10 → Fr (In []) h_72 h_74 → Vars h_74 [(b_10, [(Sl.v t276_3)]), (b_9, [(Sl.v t270_3)]), (b_8, [(Sl.v t264_3)]), (b_7, [(Sl.v t154_2)]), (b_1, [(Sl.v t61_1)])] →
  K (VB false) h_74) ∧
  ((!(t270_4 == t276_4)) = false →
  ∀ (b_10 : Nat) (h_74 : Heap), h_72.size ≤ b_10 → Fr (In []) h_72 h_74 → Vars h_74 [(b_10, [(Sl.v t276_3)]), (b_9, [(Sl.v t270_3)]), (b_8, [(Sl.v t264_3)]), (b_7, [(Sl.v t154_2)]), (b_1, [(Sl.v t61_1)])] →
  callM P 41 #[(Value.agg #[(Sl.v t270_3)]), (Value.agg #[(Sl.v t276_3)])] h_74 fun rv_39 h_75 => ∃ t285_2 : Bool, rv_39 = (VB t285_2) ∧ Vars h_75 [(b_10, [(Sl.v t276_3)]), (b_9, [(Sl.v t270_3)]), (b_8, [(Sl.v t264_3)]), (b_7, [(Sl.v t154_2)]), (b_1, [(Sl.v t61_1)])] ∧
  ((!t285_2) = true →
  K (VB false) h_75) ∧
  ((!t285_2) = false →
  ∃ J_17 : Heap → Prop, ((t270_4 = true →
  ∃ J_18 : Nat → Int → Heap → Prop, (∃ n0 : Nat, J_18 n0 0 h_75) ∧
  ∀ (n_27 : Nat) (t292_2 : Int) (h_76 : Heap), J_18 n_27 t292_2 h_76 → Vars h_76 [(b_10, [(Sl.v t276_3)]), (b_9, [(Sl.v t270_3)]), (b_8, [(Sl.v t264_3)]), (b_7, [(Sl.v t154_2)]), (b_1, [(Sl.v t61_1)])] →
  ((decide (t292_2 < (t264_3.n : Int))) = true →
  ∃ J_19 : Nat → Int → Heap → Prop, (∃ n0 : Nat, J_19 n0 0 h_76) ∧
  ∀ (n_28 : Nat) (t298_2 : Int) (h_77 : Heap), J_19 n_28 t298_2 h_77 → Vars h_77 [(b_10, [(Sl.v t276_3)]), (b_9, [(Sl.v t270_3)]), (b_8, [(Sl.v t264_3)]), (b_7, [(Sl.v t154_2)]), (b_1, [(Sl.v t61_1)])] →
  ((decide (t298_2 < (t264_3.n : Int))) = true →
  callM P 25 #[(Value.agg #[(Sl.v t264_3)]), (VI t292_2), (VI t298_2)] h_77 fun rv_40 h_78 => ∃ t305_3 : Int, ∃ t305_4 : Bool, rv_40 = (Value.tuple #[(VI t305_3), (VB t305_4)]) ∧ Vars h_78 [(b_10, [(Sl.v t276_3)]), (b_9, [(Sl.v t270_3)]), (b_8, [(Sl.v t264_3)]), (b_7, [(Sl.v t154_2)]), (b_1, [(Sl.v t61_1)])] ∧
  InB t264_4 t292_2 ∧
  ∃ t313_2 : Int, hcell h_78 (Sl.at t264_4 t292_2 1) = some (VI t313_2) ∧
  InB t264_4 t298_2 ∧
  ∃ t317_2 : Int, hcell h_78 (Sl.at t264_4 t298_2 1) = some (VI t317_2) ∧
  callM P 25 #[(Value.agg #[(Sl.v t270_3)]), (VI t313_2), (VI t317_2)] h_78 fun rv_41 h_79 => ∃ t318_3 : Int, ∃ t318_4 : Bool, rv_41 = (Value.tuple #[(VI t318_3), (VB t318_4)]) ∧ Vars h_79 [(b_10, [(Sl.v t276_3)]), (b_9, [(Sl.v t270_3)]), (b_8, [(Sl.v t264_3)]), (b_7, [(Sl.v t154_2)]), (b_1, [(Sl.v t61_1)])] ∧
  ((!(t305_4 == t318_4)) = true →
  K (VB false) h_79) ∧
  ((!(t305_4 == t318_4)) = false →
  ((!decide (t305_3 = t318_3)) = true →
  K (VB false) h_79) ∧
  ((!decide (t305_3 = t318_3)) = false →
  ∃ m : Nat, m < n_28 ∧ J_19 m (w64 (t298_2 + 1)) h_79))) ∧
  ((decide (t298_2 < (t264_3.n : Int))) = false →
  ∃ m : Nat, m < n_27 ∧ J_18 m (w64 (t292_2 + 1)) h_77)) ∧
  ((decide (t292_2 < (t264_3.n : Int))) = false →
  J_17  h_76)) ∧
  (t270_4 = false →
  J_17  h_75)) ∧
  ∀ (h_80 : Heap), J_17  h_80 → Vars h_80 [(b_10, [(Sl.v t276_3)]), (b_9, [(Sl.v t270_3)]), (b_8, [(Sl.v t264_3)]), (b_7, [(Sl.v t154_2)]), (b_1, [(Sl.v t61_1)])] →
  callM P 42 #[(Sl.v more1_1)] h_80 fun rv_42 h_81 => ∃ t333_3 : Sl, ∃ t333_4 : Int, rv_42 = (Value.tuple #[(Value.agg #[(Sl.v t333_3)]), (VI t333_4)]) ∧ Vars h_81 [(b_10, [(Sl.v t276_3)]), (b_9, [(Sl.v t270_3)]), (b_8, [(Sl.v t264_3)]), (b_7, [(Sl.v t154_2)]), (b_1, [(Sl.v t61_1)])] ∧
  ∀ (b_11 : Nat) (h_83 : Heap), h_81.size ≤ b_11 → Fr (In []) h_81 h_83 → Vars h_83 [(b_11, [(Sl.v t333_3)]), (b_10, [(Sl.v t276_3)]), (b_9, [(Sl.v t270_3)]), (b_8, [(Sl.v t264_3)]), (b_7, [(Sl.v t154_2)]), (b_1, [(Sl.v t61_1)])] →
  callM P 43 #[(Value.agg #[(Sl.v t333_3)]), (VI t333_4)] h_83 fun rv_43 h_84 => ∃ t339_3 : Bool, ∃ t339_4 : Bool, rv_43 = (Value.tuple #[(VB t339_3), (VB t339_4)]) ∧ Vars h_84 [(b_11, [(Sl.v t333_3)]), (b_10, [(Sl.v t276_3)]), (b_9, [(Sl.v t270_3)]), (b_8, [(Sl.v t264_3)]), (b_7, [(Sl.v t154_2)]), (b_1, [(Sl.v t61_1)])] ∧
  callM P 44 #[(Value.agg #[(Sl.v t333_3)]), (VI t333_4)] h_84 fun rv_44 h_85 => ∃ t345_3 : Bool, ∃ t345_4 : Bool, rv_44 = (Value.tuple #[(VB t345_3), (VB t345_4)]) ∧ Vars h_85 [(b_11, [(Sl.v t333_3)]), (b_10, [(Sl.v t276_3)]), (b_9, [(Sl.v t270_3)]), (b_8, [(Sl.v t264_3)]), (b_7, [(Sl.v t154_2)]), (b_1, [(Sl.v t61_1)])] ∧
  ((!(t339_4 == t345_4)) = true →
  K (VB false) h_85) ∧
  ((!(t339_4 == t345_4)) = false →
  ((!(t339_3 == t345_3)) = true →
  K (VB false) h_85) ∧
  ((!(t339_3 == t345_3)) = false →
  (t339_4 = true →
  ∃ J_20 : Nat → Bool → Int → Heap → Prop, (∃ n0 : Nat, J_20 n0 true 0 h_85) ∧
  ∀ (n_31 : Nat) (all52_2 : Bool) (t360_2 : Int) (h_86 : Heap), J_20 n_31 all52_2 t360_2 h_86 → Vars h_86 [(b_11, [(Sl.v t333_3)]), (b_10, [(Sl.v t276_3)]), (b_9, [(Sl.v t270_3)]), (b_8, [(Sl.v t264_3)]), (b_7, [(Sl.v t154_2)]), (b_1, [(Sl.v t61_1)])] →
  ((decide (t360_2 < (t333_3.n : Int))) = true →
  callM P 25 #[(Value.agg #[(Sl.v t333_3)]), (VI t360_2), (VI t333_4)] h_86 fun rv_45 h_87 => ∃ t367_3 : Int, ∃ t367_4 : Bool, rv_45 = (Value.tuple #[(VI t367_3), (VB t367_4)]) ∧ Vars h_87 [(b_11, [(Sl.v t333_3)]), (b_10, [(Sl.v t276_3)]), (b_9, [(Sl.v t270_3)]), (b_8, [(Sl.v t264_3)]), (b_7, [(Sl.v t154_2)]), (b_1, [(Sl.v t61_1)])] ∧
  (all52_2 = true →
  ∃ m : Nat, m < n_31 ∧ J_20 m t367_4 (w64 (t360_2 + 1)) h_87) ∧
  (all52_2 = false →
  ∃ m : Nat, m < n_31 ∧ J_20 m false (w64 (t360_2 + 1)) h_87)) ∧
  ((decide (t360_2 < (t333_3.n : Int))) = false →
  K (VB (all52_2 == t339_3)) h_86)) ∧
  (t339_4 = false →
  K (VB true) h_85))))))))))))) ∧
  ((decide (t61_3 < (t61_1.n : Int))) = false →
  (t69_2 = true →
  ((decide (t69_1 < 0)) = true →
  K (VB false) h_10) ∧
  ((decide (t69_1 < 0)) = false →
  ((decide ((t61_1.n : Int) ≤ t69_1)) = true →
  K (VB false) h_10) ∧
  ((decide ((t61_1.n : Int) ≤ t69_1)) = false →
  ((!((decide (t69_1 = 0)) == (decide (t61_2 = t61_3)))) = true →
  K (VB false) h_10) ∧
  ((!((decide (t69_1 = 0)) == (decide (t61_2 = t61_3)))) = false →
  callM P 32 #[(Sl.v more1_1)] h_10 fun rv_46 h_88 => ∃ t154_3 : Sl, rv_46 = (Value.agg #[(Sl.v t154_3)]) ∧ Vars h_88 [(b_1, [(Sl.v t61_1)])] ∧
  ∀ (b_12 : Nat) (h_90 : Heap), h_88.size ≤ b_12 → Fr (In []) h_88 h_90 → Vars h_90 [(b_12, [(Sl.v t154_3)]), (b_1, [(Sl.v t61_1)])] →
  callM P 33 #[(Value.agg #[(Sl.v t154_3)])] h_90 fun rv_47 h_91 => ∃ t157_5 : Sl, ∃ t157_6 : Bool, rv_47 = (Value.tuple #[(Sl.v t157_5), (VB t157_6)]) ∧ Vars h_91 [(b_12, [(Sl.v t154_3)]), (b_1, [(Sl.v t61_1)])] ∧
  callM P 34 #[(Value.agg #[(Sl.v t154_3)])] h_91 fun rv_48 h_92 => ∃ t162_5 : Sl, ∃ t162_6 : Bool, rv_48 = (Value.tuple #[(Sl.v t162_5), (VB t162_6)]) ∧ Vars h_92 [(b_12, [(Sl.v t154_3)]), (b_1, [(Sl.v t61_1)])] ∧
  callM P 35 #[(Value.agg #[(Sl.v t154_3)])] h_92 fun rv_49 h_93 => ∃ t167_5 : Bool, ∃ t167_6 : Bool, rv_49 = (Value.tuple #[(VB t167_5), (VB t167_6)]) ∧ Vars h_93 [(b_12, [(Sl.v t154_3)]), (b_1, [(Sl.v t61_1)])] ∧
  callM P 36 #[(Value.agg #[(Sl.v t154_3)])] h_93 fun rv_50 h_94 => ∃ t172_5 : Bool, ∃ t172_6 : Bool, rv_50 = (Value.tuple #[(VB t172_5), (VB t172_6)]) ∧ Vars h_94 [(b_12, [(Sl.v t154_3)]), (b_1, [(Sl.v t61_1)])] ∧
  ((!(t157_6 == t162_6)) = true →
  K (VB false) h_94) ∧
  ((!(t157_6 == t162_6)) = false →
  callM P 37 #[(Sl.v t157_5), (Sl.v t162_5)] h_94 fun rv_51 h_95 => ∃ t181_3 : Bool, rv_51 = (VB t181_3) ∧ Vars h_95 [(b_12, [(Sl.v t154_3)]), (b_1, [(Sl.v t61_1)])] ∧
  ((!t181_3) = true →
  K (VB false) h_95) ∧
  ((!t181_3) = false →
  ((!(t167_6 == t172_6)) = true →
  K (VB false) h_95) ∧
  ((!(t167_6 == t172_6)) = false →
  ((!(t167_5 == t172_5)) = true →
  K (VB false) h_95) ∧
  ((!(t167_5 == t172_5)) = false →
  ((!(t167_6 == t157_6)) = true →
  K (VB false) h_95) ∧
  ((!(t167_6 == t157_6)) = false →
  ∃ J_21 : Heap → Prop, ((t157_6 = true →
  ∃ J_22 : Nat → Int → Int → Heap → Prop, (∃ n0 : Nat, J_22 n0 0 0 h_95) ∧
  ∀ (n_33 : Nat) (count25_3 : Int) (t202_3 : Int) (h_96 : Heap), J_22 n_33 count25_3 t202_3 h_96 → Vars h_96 [(b_12, [(Sl.v t154_3)]), (b_1, [(Sl.v t61_1)])] →
  ((decide (t202_3 < (t157_5.n : Int))) = true →
  InB t157_5 t202_3 ∧
  ∃ t206_3 : Sl, hcell h_96 (Sl.at t157_5 t202_3 1) = some (Sl.v t206_3) ∧
  ((decide (0 < t202_3)) = true →
  InB t157_5 (w64 (t202_3 - 1)) ∧
  ∃ t218_3 : Sl, hcell h_96 (Sl.at t157_5 (w64 (t202_3 - 1)) 1) = some (Sl.v t218_3) ∧
  InB t218_3 0 ∧
  ∃ t220_3 : Int, hcell h_96 (Sl.at t218_3 0 1) = some (VI t220_3) ∧
  InB t206_3 0 ∧
  ∃ t223_3 : Int, hcell h_96 (Sl.at t206_3 0 1) = some (VI t223_3) ∧
  ((decide (t223_3 ≤ t220_3)) = true →
  K (VB false) h_96) ∧
  ((decide (t223_3 ≤ t220_3)) = false →
  ∃ J_23 : Nat → Int → Heap → Prop, (∃ n0 : Nat, J_23 n0 0 h_96) ∧
  ∀ (n_34 : Nat) (t228_5 : Int) (h_97 : Heap), J_23 n_34 t228_5 h_97 → Vars h_97 [(b_12, [(Sl.v t154_3)]), (b_1, [(Sl.v t61_1)])] →
  ((decide (t228_5 < (t206_3.n : Int))) = true →
  InB t206_3 t228_5 ∧
  ∃ t231_5 : Int, hcell h_97 (Sl.at t206_3 t228_5 1) = some (VI t231_5) ∧
  ∃ J_24 : Nat → Int → Heap → Prop, (∃ n0 : Nat, J_24 n0 0 h_97) ∧
  ∀ (n_35 : Nat) (t234_5 : Int) (h_98 : Heap), J_24 n_35 t234_5 h_98 → Vars h_98 [(b_12, [(Sl.v t154_3)]), (b_1, [(Sl.v t61_1)])] →
  ((decide (t234_5 < (t206_3.n : Int))) = true →
  InB t206_3 t234_5 ∧
  ∃ t237_5 : Int, hcell h_98 (Sl.at t206_3 t234_5 1) = some (VI t237_5) ∧
  callM P 25 #[(Value.agg #[(Sl.v t154_3)]), (VI t231_5), (VI t237_5)] h_98 fun rv_52 h_99 => ∃ t242_9 : Int, ∃ t242_10 : Bool, rv_52 = (Value.tuple #[(VI t242_9), (VB t242_10)]) ∧ Vars h_99 [(b_12, [(Sl.v t154_3)]), (b_1, [(Sl.v t61_1)])] ∧
  ((!t242_10) = true →
  K (VB false) h_99) ∧
  ((!t242_10) = false →
  ∃ m : Nat, m < n_35 ∧ J_24 m (w64 (t234_5 + 1)) h_99)) ∧
  ((decide (t234_5 < (t206_3.n : Int))) = false →
  ∃ m : Nat, m < n_34 ∧ J_23 m (w64 (t228_5 + 1)) h_98)) ∧
  ((decide (t228_5 < (t206_3.n : Int))) = false →
  ∃ m : Nat, m < n_33 ∧ J_22 m (w64 (count25_3 + (t206_3.n : Int))) (w64 (t202_3 + 1)) h_97))) ∧
  ((decide (0 < t202_3)) = false →
  ∃ J_25 : Nat → Int → Heap → Prop, (∃ n0 : Nat, J_25 n0 0 h_96) ∧
  ∀ (n_38 : Nat) (t228_6 : Int) (h_100 : Heap), J_25 n_38 t228_6 h_100 → Vars h_100 [(b_12, [(Sl.v t154_3)]), (b_1, [(Sl.v t61_1)])] →
  ((decide (t228_6 < (t206_3.n : Int))) = true →
  InB t206_3 t228_6 ∧
  ∃ t231_6 : Int, hcell h_100 (Sl.at t206_3 t228_6 1) = some (VI t231_6) ∧
  ∃ J_26 : Nat → Int → Heap → Prop, (∃ n0 : Nat, J_26 n0 0 h_100) ∧
  ∀ (n_39 : Nat) (t234_6 : Int) (h_101 : Heap), J_26 n_39 t234_6 h_101 → Vars h_101 [(b_12, [(Sl.v t154_3)]), (b_1, [(Sl.v t61_1)])] →
  ((decide (t234_6 < (t206_3.n : Int))) = true →
  InB t206_3 t234_6 ∧
  ∃ t237_6 : Int, hcell h_101 (Sl.at t206_3 t234_6 1) = some (VI t237_6) ∧
  callM P 25 #[(Value.agg #[(Sl.v t154_3)]), (VI t231_6), (VI t237_6)] h_101 fun rv_53 h_102 => ∃ t242_11 : Int, ∃ t242_12 : Bool, rv_53 = (Value.tuple #[(VI t242_11), (VB t242_12)]) ∧ Vars h_102 [(b_12, [(Sl.v t154_3)]), (b_1, [(Sl.v t61_1)])] ∧
  ((!t242_12) = true →
  K (VB false) h_102) ∧
  ((!t242_12) = false →
  ∃ m : Nat, m < n_39 ∧ J_26 m (w64 (t234_6 + 1)) h_102)) ∧
  ((decide (t234_6 < (t206_3.n : Int))) = false →
  ∃ m : Nat, m < n_38 ∧ J_25 m (w64 (t228_6 + 1)) h_101)) ∧
  ((decide (t228_6 < (t206_3.n : Int))) = false →
  ∃ m : Nat, m < n_33 ∧ J_22 m (w64 (count25_3 + (t206_3.n : Int))) (w64 (t202_3 + 1)) h_100))) ∧
  ((decide (t202_3 < (t157_5.n : Int))) = false →
  ((!decide (count25_3 = (t154_3.n : Int))) = true →
  K (VB false) h_96) ∧
  ((!decide (count25_3 = (t154_3.n : Int))) = false →
  ((!(t167_5 == (decide ((t157_5.n : Int) = 1)))) = true →
  K (VB false) h_96) ∧
  ((!(t167_5 == (decide ((t157_5.n : Int) = 1)))) = false →
  J_21  h_96)))) ∧
  (t157_6 = false →
  J_21  h_95)) ∧
  ∀ (h_103 : Heap), J_21  h_103 → Vars h_103 [(b_12, [(Sl.v t154_3)]), (b_1, [(Sl.v t61_1)])] →
  callM P 38 #[(Sl.v more1_1)] h_103 fun rv_54 h_104 => ∃ t264_5 : Sl, ∃ t264_6 : Sl, rv_54 = (Value.tuple #[(Value.agg #[(Sl.v t264_5)]), (Sl.v t264_6)]) ∧ Vars h_104 [(b_12, [(Sl.v t154_3)]), (b_1, [(Sl.v t61_1)])] ∧
  ∀ (b_13 : Nat) (h_106 : Heap), h_104.size ≤ b_13 → Fr (In []) h_104 h_106 → Vars h_106 [(b_13, [(Sl.v t264_5)]), (b_12, [(Sl.v t154_3)]), (b_1, [(Sl.v t61_1)])] →
  callM P 39 #[(Value.agg #[(Sl.v t264_5)]), (Sl.v t264_6)] h_106 fun rv_55 h_107 => ∃ t270_5 : Sl, ∃ t270_6 : Bool, rv_55 = (Value.tuple #[(Value.agg #[(Sl.v t270_5)]), (VB t270_6)]) ∧ Vars h_107 [(b_13, [(Sl.v t264_5)]), (b_12, [(Sl.v t154_3)]), (b_1, [(Sl.v t61_1)])] ∧
  ∀ (b_14 : Nat) (h_109 : Heap), h_107.size ≤ b_14 → Fr (In []) h_107 h_109 → Vars h_109 [(b_14, [(Sl.v t270_5)]), (b_13, [(Sl.v t264_5)]), (b_12, [(Sl.v t154_3)]), (b_1, [(Sl.v t61_1)])] →
  callM P 40 #[(Value.agg #[(Sl.v t264_5)]), (Sl.v t264_6)] h_109 fun rv_56 h_110 => ∃ t276_5 : Sl, ∃ t276_6 : Bool, rv_56 = (Value.tuple #[(Value.agg #[(Sl.v t276_5)]), (VB t276_6)]) ∧ Vars h_110 [(b_14, [(Sl.v t270_5)]), (b_13, [(Sl.v t264_5)]), (b_12, [(Sl.v t154_3)]), (b_1, [(Sl.v t61_1)])] ∧
  ((!(t270_6 == t276_6)) = true →
  ∀ (b_15 : Nat) (h_112 : Heap), h_110.size ≤ b_15 → Fr (In []) h_110 h_112 → Vars h_112 [(b_15, [(Sl.v t276_5)]), (b_14, [(Sl.v t270_5)]), (b_13, [(Sl.v t264_5)]), (b_12, [(Sl.v t154_3)]), (b_1, [(Sl.v t61_1)])] →
  K (VB false) h_112) ∧
  ((!(t270_6 == t276_6)) = false →
  ∀ (b_15 : Nat) (h_112 : Heap), h_110.size ≤ b_15 → Fr (In []) h_110 h_112 → Vars h_112 [(b_15, [(Sl.v t276_5)]), (b_14, [(Sl.v t270_5)]), (b_13, [(Sl.v t264_5)]), (b_12, [(Sl.v t154_3)]), (b_1, [(Sl.v t61_1)])] →
  callM P 41 #[(Value.agg #[(Sl.v t270_5)]), (Value.agg #[(Sl.v t276_5)])] h_112 fun rv_57 h_113 => ∃ t285_3 : Bool, rv_57 = (VB t285_3) ∧ Vars h_113 [(b_15, [(Sl.v t276_5)]), (b_14, [(Sl.v t270_5)]), (b_13, [(Sl.v t264_5)]), (b_12, [(Sl.v t154_3)]), (b_1, [(Sl.v t61_1)])] ∧
  ((!t285_3) = true →
  K (VB false) h_113) ∧
  ((!t285_3) = false →
  ∃ J_27 : Heap → Prop, ((t270_6 = true →
  ∃ J_28 : Nat → Int → Heap → Prop, (∃ n0 : Nat, J_28 n0 0 h_113) ∧
  ∀ (n_43 : Nat) (t292_3 : Int) (h_114 : Heap), J_28 n_43 t292_3 h_114 → Vars h_114 [(b_15, [(Sl.v t276_5)]), (b_14, [(Sl.v t270_5)]), (b_13, [(Sl.v t264_5)]), (b_12, [(Sl.v t154_3)]), (b_1, [(Sl.v t61_1)])] →
  ((decide (t292_3 < (t264_5.n : Int))) = true →
  ∃ J_29 : Nat → Int → Heap → Prop, (∃ n0 : Nat, J_29 n0 0 h_114) ∧
  ∀ (n_44 : Nat) (t298_3 : Int) (h_115 : Heap), J_29 n_44 t298_3 h_115 → Vars h_115 [(b_15, [(Sl.v t276_5)]), (b_14, [(Sl.v t270_5)]), (b_13, [(Sl.v t264_5)]), (b_12, [(Sl.v t154_3)]), (b_1, [(Sl.v t61_1)])] →
  ((decide (t298_3 < (t264_5.n : Int))) = true →
  callM P 25 #[(Value.agg #[(Sl.v t264_5)]), (VI t292_3), (VI t298_3)] h_115 fun rv_58 h_116 => ∃ t305_5 : Int, ∃ t305_6 : Bool, rv_58 = (Value.tuple #[(VI t305_5), (VB t305_6)]) ∧ Vars h_116 [(b_15, [(Sl.v t276_5)]), (b_14, [(Sl.v t270_5)]), (b_13, [(Sl.v t264_5)]), (b_12, [(Sl.v t154_3)]), (b_1, [(Sl.v t61_1)])] ∧
  InB t264_6 t292_3 ∧
  ∃ t313_3 : Int, hcell h_116 (Sl.at t264_6 t292_3 1) = some (VI t313_3) ∧
  InB t264_6 t298_3 ∧
  ∃ t317_3 : Int, hcell h_116 (Sl.at t264_6 t298_3 1) = some (VI t317_3) ∧
  callM P 25 #[(Value.agg #[(Sl.v t270_5)]), (VI t313_3), (VI t317_3)] h_116 fun rv_59 h_117 => ∃ t318_5 : Int, ∃ t318_6 : Bool, rv_59 = (Value.tuple #[(VI t318_5), (VB t318_6)]) ∧ Vars h_117 [(b_15, [(Sl.v t276_5)]), (b_14, [(Sl.v t270_5)]), (b_13, [(Sl.v t264_5)]), (b_12, [(Sl.v t154_3)]), (b_1, [(Sl.v t61_1)])] ∧
  ((!(t305_6 == t318_6)) = true →
  K (VB false) h_117) ∧
  ((!(t305_6 == t318_6)) = false →
  ((!decide (t305_5 = t318_5)) = true →
  K (VB false) h_117) ∧
  ((!decide (t305_5 = t318_5)) = false →
  ∃ m : Nat, m < n_44 ∧ J_29 m (w64 (t298_3 + 1)) h_117))) ∧
  ((decide (t298_3 < (t264_5.n : Int))) = false →
  ∃ m : Nat, m < n_43 ∧ J_28 m (w64 (t292_3 + 1)) h_115)) ∧
  ((decide (t292_3 < (t264_5.n : Int))) = false →
  J_27  h_114)) ∧
  (t270_6 = false →
  J_27  h_113)) ∧
  ∀ (h_118 : Heap), J_27  h_118 → Vars h_118 [(b_15, [(Sl.v t276_5)]), (b_14, [(Sl.v t270_5)]), (b_13, [(Sl.v t264_5)]), (b_12, [(Sl.v t154_3)]), (b_1, [(Sl.v t61_1)])] →
  callM P 42 #[(Sl.v more1_1)] h_118 fun rv_60 h_119 => ∃ t333_5 : Sl, ∃ t333_6 : Int, rv_60 = (Value.tuple #[(Value.agg #[(Sl.v t333_5)]), (VI t333_6)]) ∧ Vars h_119 [(b_15, [(Sl.v t276_5)]), (b_14, [(Sl.v t270_5)]), (b_13, [(Sl.v t264_5)]), (b_12, [(Sl.v t154_3)]), (b_1, [(Sl.v t61_1)])] ∧
  ∀ (b_16 : Nat) (h_121 : Heap), h_119.size ≤ b_16 → Fr (In []) h_119 h_121 → Vars h_121 [(b_16, [(Sl.v t333_5)]), (b_15, [(Sl.v t276_5)]), (b_14, [(Sl.v t270_5)]), (b_13, [(Sl.v t264_5)]), (b_12, [(Sl.v t154_3)]), (b_1, [(Sl.v t61_1)])] →
  callM P 43 #[(Value.agg #[(Sl.v t333_5)]), (VI t333_6)] h_121 fun rv_61 h_122 => ∃ t339_5 : Bool, ∃ t339_6 : Bool, rv_61 = (Value.tuple #[(VB t339_5), (VB t339_6)]) ∧ Vars h_122 [(b_16, [(Sl.v t333_5)]), (b_15, [(Sl.v t276_5)]), (b_14, [(Sl.v t270_5)]), (b_13, [(Sl.v t264_5)]), (b_12, [(Sl.v t154_3)]), (b_1, [(Sl.v t61_1)])] ∧
  callM P 44 #[(Value.agg #[(Sl.v t333_5)]), (VI t333_6)] h_122 fun rv_62 h_123 => ∃ t345_5 : Bool, ∃ t345_6 : Bool, rv_62 = (Value.tuple #[(VB t345_5), (VB t345_6)]) ∧ Vars h_123 [(b_16, [(Sl.v t333_5)]), (b_15, [(Sl.v t276_5)]), (b_14, [(Sl.v t270_5)]), (b_13, [(Sl.v t264_5)]), (b_12, [(Sl.v t154_3)]), (b_1, [(Sl.v t61_1)])] ∧
  ((!(t339_6 == t345_6)) = true →
  K (VB false) h_123) ∧
  ((!(t339_6 == t345_6)) = false →
  ((!(t339_5 == t345_5)) = true →
  K (VB false) h_123) ∧
  ((!(t339_5 == t345_5)) = false →
  (t339_6 = true →
  ∃ J_30 : Nat → Bool → Int → Heap → Prop, (∃ n0 : Nat, J_30 n0 true 0 h_123) ∧
  ∀ (n_47 : Nat) (all52_3 : Bool) (t360_3 : Int) (h_124 : Heap), J_30 n_47 all52_3 t360_3 h_124 → Vars h_124 [(b_16, [(Sl.v t333_5)]), (b_15, [(Sl.v t276_5)]), (b_14, [(Sl.v t270_5)]), (b_13, [(Sl.v t264_5)]), (b_12, [(Sl.v t154_3)]), (b_1, [(Sl.v t61_1)])] →
  ((decide (t360_3 < (t333_5.n : Int))) = true →
  callM P 25 #[(Value.agg #[(Sl.v t333_5)]), (VI t360_3), (VI t333_6)] h_124 fun rv_63 h_125 => ∃ t367_5 : Int, ∃ t367_6 : Bool, rv_63 = (Value.tuple #[(VI t367_5), (VB t367_6)]) ∧ Vars h_125 [(b_16, [(Sl.v t333_5)]), (b_15, [(Sl.v t276_5)]), (b_14, [(Sl.v t270_5)]), (b_13, [(Sl.v t264_5)]), (b_12, [(Sl.v t154_3)]), (b_1, [(Sl.v t61_1)])] ∧
  (all52_3 = true →
  ∃ m : Nat, m < n_47 ∧ J_30 m t367_6 (w64 (t360_3 + 1)) h_125) ∧
  (all52_3 = false →
  ∃ m : Nat, m < n_47 ∧ J_30 m false (w64 (t360_3 + 1)) h_125)) ∧
  ((decide (t360_3 < (t333_5.n : Int))) = false →
  K (VB (all52_3 == t339_5)) h_124)) ∧
  (t339_6 = false →
  K (VB true) h_123)))))))))))))) ∧
  (t69_2 = false →
  callM P 32 #[(Sl.v more1_1)] h_10 fun rv_64 h_126 => ∃ t154_4 : Sl, rv_64 = (Value.agg #[(Sl.v t154_4)]) ∧ Vars h_126 [(b_1, [(Sl.v t61_1)])] ∧
  ∀ (b_17 : Nat) (h_128 : Heap), h_126.size ≤ b_17 → Fr (In []) h_126 h_128 → Vars h_128 [(b_17, [(Sl.v t154_4)]), (b_1, [(Sl.v t61_1)])] →
  callM P 33 #[(Value.agg #[(Sl.v t154_4)])] h_128 fun rv_65 h_129 => ∃ t157_7 : Sl, ∃ t157_8 : Bool, rv_65 = (Value.tuple #[(Sl.v t157_7), (VB t157_8)]) ∧ Vars h_129 [(b_17, [(Sl.v t154_4)]), (b_1, [(Sl.v t61_1)])] ∧
  callM P 34 #[(Value.agg #[(Sl.v t154_4)])] h_129 fun rv_66 h_130 => ∃ t162_7 : Sl, ∃ t162_8 : Bool, rv_66 = (Value.tuple #[(Sl.v t162_7), (VB t162_8)]) ∧ Vars h_130 [(b_17, [(Sl.v t154_4)]), (b_1, [(Sl.v t61_1)])] ∧
  callM P 35 #[(Value.agg #[(Sl.v t154_4)])] h_130 fun rv_67 h_131 => ∃ t167_7 : Bool, ∃ t167_8 : Bool, rv_67 = (Value.tuple #[(VB t167_7), (VB t167_8)]) ∧ Vars h_131 [(b_17, [(Sl.v t154_4)]), (b_1, [(Sl.v t61_1)])] ∧
  callM P 36 #[(Value.agg #[(Sl.v t154_4)])] h_131 fun rv_68 h_132 => ∃ t172_7 : Bool, ∃ t172_8 : Bool, rv_68 = (Value.tuple #[(VB t172_7), (VB t172_8)]) ∧ Vars h_132 [(b_17, [(Sl.v t154_4)]), (b_1, [(Sl.v t61_1)])] ∧
  ((!(t157_8 == t162_8)) = true →
  K (VB false) h_132) ∧
  ((!(t157_8 == t162_8)) = false →
  callM P 37 #[(Sl.v t157_7), (Sl.v t162_7)] h_132 fun rv_69 h_133 => ∃ t181_4 : Bool, rv_69 = (VB t181_4) ∧ Vars h_133 [(b_17, [(Sl.v t154_4)]), (b_1, [(Sl.v t61_1)])] ∧
  ((!t181_4) = true →
  K (VB false) h_133) ∧
  ((!t181_4) = false →
  ((!(t167_8 == t172_8)) = true →
  K (VB false) h_133) ∧
  ((!(t167_8 == t172_8)) = false →
  ((!(t167_7 == t172_7)) = true →
  K (VB false) h_133) ∧
  ((!(t167_7 == t172_7)) = false →
  ((!(t167_8 == t157_8)) = true →
  K (VB false) h_133) ∧
  ((!(t167_8 == t157_8)) = false →
  ∃ J_31 : Heap → Prop, ((t157_8 = true →
  ∃ J_32 : Nat → Int → Int → Heap → Prop, (∃ n0 : Nat, J_32 n0 0 0 h_133) ∧
  ∀ (n_49 : Nat) (count25_4 : Int) (t202_4 : Int) (h_134 : Heap), J_32 n_49 count25_4 t202_4 h_134 → Vars h_134 [(b_17, [(Sl.v t154_4)]), (b_1, [(Sl.v t61_1)])] →
  ((decide (t202_4 < (t157_7.n : Int))) = true →
  InB t157_7 t202_4 ∧
  ∃ t206_4 : Sl, hcell h_134 (Sl.at t157_7 t202_4 1) = some (Sl.v t206_4) ∧
  ((decide (0 < t202_4)) = true →
  InB t157_7 (w64 (t202_4 - 1)) ∧
  ∃ t218_4 : Sl, hcell h_134 (Sl.at t157_7 (w64 (t202_4 - 1)) 1) = some (Sl.v t218_4) ∧
  InB t218_4 0 ∧
  ∃ t220_4 : Int, hcell h_134 (Sl.at t218_4 0 1) = some (VI t220_4) ∧
  InB t206_4 0 ∧
  ∃ t223_4 : Int, hcell h_134 (Sl.at t206_4 0 1) = some (VI t223_4) ∧
  ((decide (t223_4 ≤ t220_4)) = true →
  K (VB false) h_134) ∧
  ((decide (t223_4 ≤ t220_4)) = false →
  ∃ J_33 : Nat → Int → Heap → Prop, (∃ n0 : Nat, J_33 n0 0 h_134) ∧
  ∀ (n_50 : Nat) (t228_7 : Int) (h_135 : Heap), J_33 n_50 t228_7 h_135 → Vars h_135 [(b_17, [(Sl.v t154_4)]), (b_1, [(Sl.v t61_1)])] →
  ((decide (t228_7 < (t206_4.n : Int))) = true →
  InB t206_4 t228_7 ∧
  ∃ t231_7 : Int, hcell h_135 (Sl.at t206_4 t228_7 1) = some (VI t231_7) ∧
  ∃ J_34 : Nat → Int → Heap → Prop, (∃ n0 : Nat, J_34 n0 0 h_135) ∧
  ∀ (n_51 : Nat) (t234_7 : Int) (h_136 : Heap), J_34 n_51 t234_7 h_136 → Vars h_136 [(b_17, [(Sl.v t154_4)]), (b_1, [(Sl.v t61_1)])] →
  ((decide (t234_7 < (t206_4.n : Int))) = true →
  InB t206_4 t234_7 ∧
  ∃ t237_7 : Int, hcell h_136 (Sl.at t206_4 t234_7 1) = some (VI t237_7) ∧
  callM P 25 #[(Value.agg #[(Sl.v t154_4)]), (VI t231_7), (VI t237_7)] h_136 fun rv_70 h_137 => ∃ t242_13 : Int, ∃ t242_14 : Bool, rv_70 = (Value.tuple #[(VI t242_13), (VB t242_14)]) ∧ Vars h_137 [(b_17, [(Sl.v t154_4)]), (b_1, [(Sl.v t61_1)])] ∧
  ((!t242_14) = true →
  K (VB false) h_137) ∧
  ((!t242_14) = false →
  ∃ m : Nat, m < n_51 ∧ J_34 m (w64 (t234_7 + 1)) h_137)) ∧
  ((decide (t234_7 < (t206_4.n : Int))) = false →
  ∃ m : Nat, m < n_50 ∧ J_33 m (w64 (t228_7 + 1)) h_136)) ∧
  ((decide (t228_7 < (t206_4.n : Int))) = false →
  ∃ m : Nat, m < n_49 ∧ J_32 m (w64 (count25_4 + (t206_4.n : Int))) (w64 (t202_4 + 1)) h_135))) ∧
  ((decide (0 < t202_4)) = false →
  ∃ J_35 : Nat → Int → Heap → Prop, (∃ n0 : Nat, J_35 n0 0 h_134) ∧
  ∀ (n_54 : Nat) (t228_8 : Int) (h_138 : Heap), J_35 n_54 t228_8 h_138 → Vars h_138 [(b_17, [(Sl.v t154_4)]), (b_1, [(Sl.v t61_1)])] →
  ((decide (t228_8 < (t206_4.n : Int))) = true →
  InB t206_4 t228_8 ∧
  ∃ t231_8 : Int, hcell h_138 (Sl.at t206_4 t228_8 1) = some (VI t231_8) ∧
  ∃ J_36 : Nat → Int → Heap → Prop, (∃ n0 : Nat, J_36 n0 0 h_138) ∧
  ∀ (n_55 : Nat) (t234_8 : Int) (h_139 : Heap), J_36 n_55 t234_8 h_139 → Vars h_139 [(b_17, [(Sl.v t154_4)]), (b_1, [(Sl.v t61_1)])] →
  ((decide (t234_8 < (t206_4.n : Int))) = true →
  InB t206_4 t234_8 ∧
  ∃ t237_8 : Int, hcell h_139 (Sl.at t206_4 t234_8 1) = some (VI t237_8) ∧
  callM P 25 #[(Value.agg #[(Sl.v t154_4)]), (VI t231_8), (VI t237_8)] h_139 fun rv_71 h_140 => ∃ t242_15 : Int, ∃ t242_16 : Bool, rv_71 = (Value.tuple #[(VI t242_15), (VB t242_16)]) ∧ Vars h_140 [(b_17, [(Sl.v t154_4)]), (b_1, [(Sl.v t61_1)])] ∧
  ((!t242_16) = true →
  K (VB false) h_140) ∧
  ((!t242_16) = false →
  ∃ m : Nat, m < n_55 ∧ J_36 m (w64 (t234_8 + 1)) h_140)) ∧
  ((decide (t234_8 < (t206_4.n : Int))) = false →
  ∃ m : Nat, m < n_54 ∧ J_35 m (w64 (t228_8 + 1)) h_139)) ∧
  ((decide (t228_8 < (t206_4.n : Int))) = false →
  ∃ m : Nat, m < n_49 ∧ J_32 m (w64 (count25_4 + (t206_4.n : Int))) (w64 (t202_4 + 1)) h_138))) ∧
  ((decide (t202_4 < (t157_7.n : Int))) = false →
  ((!decide (count25_4 = (t154_4.n : Int))) = true →
  K (VB false) h_134) ∧
  ((!decide (count25_4 = (t154_4.n : Int))) = false →
  ((!(t167_7 == (decide ((t157_7.n : Int) = 1)))) = true →
  K (VB false) h_134) ∧
  ((!(t167_7 == (decide ((t157_7.n : Int) = 1)))) = false →
  J_31  h_134)))) ∧
  (t157_8 = false →
  J_31  h_133)) ∧
  ∀ (h_141 : Heap), J_31  h_141 → Vars h_141 [(b_17, [(Sl.v t154_4)]), (b_1, [(Sl.v t61_1)])] →
  callM P 38 #[(Sl.v more1_1)] h_141 fun rv_72 h_142 => ∃ t264_7 : Sl, ∃ t264_8 : Sl, rv_72 = (Value.tuple #[(Value.agg #[(Sl.v t264_7)]), (Sl.v t264_8)]) ∧ Vars h_142 [(b_17, [(Sl.v t154_4)]), (b_1, [(Sl.v t61_1)])] ∧
  ∀ (b_18 : Nat) (h_144 : Heap), h_142.size ≤ b_18 → Fr (In []) h_142 h_144 → Vars h_144 [(b_18, [(Sl.v t264_7)]), (b_17, [(Sl.v t154_4)]), (b_1, [(Sl.v t61_1)])] →
  callM P 39 #[(Value.agg #[(Sl.v t264_7)]), (Sl.v t264_8)] h_144 fun rv_73 h_145 => ∃ t270_7 : Sl, ∃ t270_8 : Bool, rv_73 = (Value.tuple #[(Value.agg #[(Sl.v t270_7)]), (VB t270_8)]) ∧ Vars h_145 [(b_18, [(Sl.v t264_7)]), (b_17, [(Sl.v t154_4)]), (b_1, [(Sl.v t61_1)])] ∧
  ∀ (b_19 : Nat) (h_147 : Heap), h_145.size ≤ b_19 → Fr (In []) h_145 h_147 → Vars h_147 [(b_19, [(Sl.v t270_7)]), (b_18, [(Sl.v t264_7)]), (b_17, [(Sl.v t154_4)]), (b_1, [(Sl.v t61_1)])] →
  callM P 40 #[(Value.agg #[(Sl.v t264_7)]), (Sl.v t264_8)] h_147 fun rv_74 h_148 => ∃ t276_7 : Sl, ∃ t276_8 : Bool, rv_74 = (Value.tuple #[(Value.agg #[(Sl.v t276_7)]), (VB t276_8)]) ∧ Vars h_148 [(b_19, [(Sl.v t270_7)]), (b_18, [(Sl.v t264_7)]), (b_17, [(Sl.v t154_4)]), (b_1, [(Sl.v t61_1)])] ∧
  ((!(t270_8 == t276_8)) = true →
  ∀ (b_20 : Nat) (h_150 : Heap), h_148.size ≤ b_20 → Fr (In []) h_148 h_150 → Vars h_150 [(b_20, [(Sl.v t276_7)]), (b_19, [(Sl.v t270_7)]), (b_18, [(Sl.v t264_7)]), (b_17, [(Sl.v t154_4)]), (b_1, [(Sl.v t61_1)])] →
  K (VB false) h_150) ∧
  ((!(t270_8 == t276_8)) = false →
  ∀ (b_20 : Nat) (h_150 : Heap), h_148.size ≤ b_20 → Fr (In []) h_148 h_150 → Vars h_150 [(b_20, [(Sl.v t276_7)]), (b_19, [(Sl.v t270_7)]), (b_18, [(Sl.v t264_7)]), (b_17, [(Sl.v t154_4)]), (b_1, [(Sl.v t61_1)])] →
  callM P 41 #[(Value.agg #[(Sl.v t270_7)]), (Value.agg #[(Sl.v t276_7)])] h_150 fun rv_75 h_151 => ∃ t285_4 : Bool, rv_75 = (VB t285_4) ∧ Vars h_151 [(b_20, [(Sl.v t276_7)]), (b_19, [(Sl.v t270_7)]), (b_18, [(Sl.v t264_7)]), (b_17, [(Sl.v t154_4)]), (b_1, [(Sl.v t61_1)])] ∧
  ((!t285_4) = true →
  K (VB false) h_151) ∧
  ((!t285_4) = false →
  ∃ J_37 : Heap → Prop, ((t270_8 = true →
  ∃ J_38 : Nat → Int → Heap → Prop, (∃ n0 : Nat, J_38 n0 0 h_151) ∧
  ∀ (n_59 : Nat) (t292_4 : Int) (h_152 : Heap), J_38 n_59 t292_4 h_152 → Vars h_152 [(b_20, [(Sl.v t276_7)]), (b_19, [(Sl.v t270_7)]), (b_18, [(Sl.v t264_7)]), (b_17, [(Sl.v t154_4)]), (b_1, [(Sl.v t61_1)])] →
  ((decide (t292_4 < (t264_7.n : Int))) = true →
  ∃ J_39 : Nat → Int → Heap → Prop, (∃ n0 : Nat, J_39 n0 0 h_152) ∧
  ∀ (n_60 : Nat) (t298_4 : Int) (h_153 : Heap), J_39 n_60 t298_4 h_153 → Vars h_153 [(b_20, [(Sl.v t276_7)]), (b_19, [(Sl.v t270_7)]), (b_18, [(Sl.v t264_7)]), (b_17, [(Sl.v t154_4)]), (b_1, [(Sl.v t61_1)])] →
  ((decide (t298_4 < (t264_7.n : Int))) = true →
  callM P 25 #[(Value.agg #[(Sl.v t264_7)]), (VI t292_4), (VI t298_4)] h_153 fun rv_76 h_154 => ∃ t305_7 : Int, ∃ t305_8 : Bool, rv_76 = (Value.tuple #[(VI t305_7), (VB t305_8)]) ∧ Vars h_154 [(b_20, [(Sl.v t276_7)]), (b_19, [(Sl.v t270_7)]), (b_18, [(Sl.v t264_7)]), (b_17, [(Sl.v t154_4)]), (b_1, [(Sl.v t61_1)])] ∧
  InB t264_8 t292_4 ∧
  ∃ t313_4 : Int, hcell h_154 (Sl.at t264_8 t292_4 1) = some (VI t313_4) ∧
  InB t264_8 t298_4 ∧
  ∃ t317_4 : Int, hcell h_154 (Sl.at t264_8 t298_4 1) = some (VI t317_4) ∧
  callM P 25 #[(Value.agg #[(Sl.v t270_7)]), (VI t313_4), (VI t317_4)] h_154 fun rv_77 h_155 => ∃ t318_7 : Int, ∃ t318_8 : Bool, rv_77 = (Value.tuple #[(VI t318_7), (VB t318_8)]) ∧ Vars h_155 [(b_20, [(Sl.v t276_7)]), (b_19, [(Sl.v t270_7)]), (b_18, [(Sl.v t264_7)]), (b_17, [(Sl.v t154_4)]), (b_1, [(Sl.v t61_1)])] ∧
  ((!(t305_8 == t318_8)) = true →
  K (VB false) h_155) ∧
  ((!(t305_8 == t318_8)) = false →
  ((!decide (t305_7 = t318_7)) = true →
  K (VB false) h_155) ∧
  ((!decide (t305_7 = t318_7)) = false →
  ∃ m : Nat, m < n_60 ∧ J_39 m (w64 (t298_4 + 1)) h_155))) ∧
  ((decide (t298_4 < (t264_7.n : Int))) = false →
  ∃ m : Nat, m < n_59 ∧ J_38 m (w64 (t292_4 + 1)) h_153)) ∧
  ((decide (t292_4 < (t264_7.n : Int))) = false →
  J_37  h_152)) ∧
  (t270_8 = false →
  J_37  h_151)) ∧
  ∀ (h_156 : Heap), J_37  h_156 → Vars h_156 [(b_20, [(Sl.v t276_7)]), (b_19, [(Sl.v t270_7)]), (b_18, [(Sl.v t264_7)]), (b_17, [(Sl.v t154_4)]), (b_1, [(Sl.v t61_1)])] →
  callM P 42 #[(Sl.v more1_1)] h_156 fun rv_78 h_157 => ∃ t333_7 : Sl, ∃ t333_8 : Int, rv_78 = (Value.tuple #[(Value.agg #[(Sl.v t333_7)]), (VI t333_8)]) ∧ Vars h_157 [(b_20, [(Sl.v t276_7)]), (b_19, [(Sl.v t270_7)]), (b_18, [(Sl.v t264_7)]), (b_17, [(Sl.v t154_4)]), (b_1, [(Sl.v t61_1)])] ∧
  ∀ (b_21 : Nat) (h_159 : Heap), h_157.size ≤ b_21 → Fr (In []) h_157 h_159 → Vars h_159 [(b_21, [(Sl.v t333_7)]), (b_20, [(Sl.v t276_7)]), (b_19, [(Sl.v t270_7)]), (b_18, [(Sl.v t264_7)]), (b_17, [(Sl.v t154_4)]), (b_1, [(Sl.v t61_1)])] →
  callM P 43 #[(Value.agg #[(Sl.v t333_7)]), (VI t333_8)] h_159 fun rv_79 h_160 => ∃ t339_7 : Bool, ∃ t339_8 : Bool, rv_79 = (Value.tuple #[(VB t339_7), (VB t339_8)]) ∧ Vars h_160 [(b_21, [(Sl.v t333_7)]), (b_20, [(Sl.v t276_7)]), (b_19, [(Sl.v t270_7)]), (b_18, [(Sl.v t264_7)]), (b_17, [(Sl.v t154_4)]), (b_1, [(Sl.v t61_1)])] ∧
  callM P 44 #[(Value.agg #[(Sl.v t333_7)]), (VI t333_8)] h_160 fun rv_80 h_161 => ∃ t345_7 : Bool, ∃ t345_8 : Bool, rv_80 = (Value.tuple #[(VB t345_7), (VB t345_8)]) ∧ Vars h_161 [(b_21, [(Sl.v t333_7)]), (b_20, [(Sl.v t276_7)]), (b_19, [(Sl.v t270_7)]), (b_18, [(Sl.v t264_7)]), (b_17, [(Sl.v t154_4)]), (b_1, [(Sl.v t61_1)])] ∧
  ((!(t339_8 == t345_8)) = true →
  K (VB false) h_161) ∧
  ((!(t339_8 == t345_8)) = false →
  ((!(t339_7 == t345_7)) = true →
  K (VB false) h_161) ∧
  ((!(t339_7 == t345_7)) = false →
  (t339_8 = true →
  ∃ J_40 : Nat → Bool → Int → Heap → Prop, (∃ n0 : Nat, J_40 n0 true 0 h_161) ∧
  ∀ (n_63 : Nat) (all52_4 : Bool) (t360_4 : Int) (h_162 : Heap), J_40 n_63 all52_4 t360_4 h_162 → Vars h_162 [(b_21, [(Sl.v t333_7)]), (b_20, [(Sl.v t276_7)]), (b_19, [(Sl.v t270_7)]), (b_18, [(Sl.v t264_7)]), (b_17, [(Sl.v t154_4)]), (b_1, [(Sl.v t61_1)])] →
  ((decide (t360_4 < (t333_7.n : Int))) = true →
  callM P 25 #[(Value.agg #[(Sl.v t333_7)]), (VI t360_4), (VI t333_8)] h_162 fun rv_81 h_163 => ∃ t367_7 : Int, ∃ t367_8 : Bool, rv_81 = (Value.tuple #[(VI t367_7), (VB t367_8)]) ∧ Vars h_163 [(b_21, [(Sl.v t333_7)]), (b_20, [(Sl.v t276_7)]), (b_19, [(Sl.v t270_7)]), (b_18, [(Sl.v t264_7)]), (b_17, [(Sl.v t154_4)]), (b_1, [(Sl.v t61_1)])] ∧
  (all52_4 = true →
  ∃ m : Nat, m < n_63 ∧ J_40 m t367_8 (w64 (t360_4 + 1)) h_163) ∧
  (all52_4 = false →
  ∃ m : Nat, m < n_63 ∧ J_40 m false (w64 (t360_4 + 1)) h_163)) ∧
  ((decide (t360_4 < (t333_7.n : Int))) = false →
  K (VB (all52_4 == t339_7)) h_162)) ∧
  (t339_8 = false →
  K (VB true) h_161))))))))))))) ∧
  ((decide (0 ≤ t61_3)) = false →
  (t69_2 = true →
  ((decide (t69_1 < 0)) = true →
  K (VB false) h_10) ∧
  ((decide (t69_1 < 0)) = false →
  ((decide ((t61_1.n : Int) ≤ t69_1)) = true →
  K (VB false) h_10) ∧
  ((decide ((t61_1.n : Int) ≤ t69_1)) = false →
  ((!((decide (t69_1 = 0)) == (decide (t61_2 = t61_3)))) = true →
  K (VB false) h_10) ∧
  ((!((decide (t69_1 = 0)) == (decide (t61_2 = t61_3)))) = false →
  callM P 32 #[(Sl.v more1_1)] h_10 fun rv_82 h_164 => ∃ t154_5 : Sl, rv_82 = (Value.agg #[(Sl.v t154_5)]) ∧ Vars h_164 [(b_1, [(Sl.v t61_1)])] ∧
  ∀ (b_22 : Nat) (h_166 : Heap), h_164.size ≤ b_22 → Fr (In []) h_164 h_166 → Vars h_166 [(b_22, [(Sl.v t154_5)]), (b_1, [(Sl.v t61_1)])] →
  callM P 33 #[(Value.agg #[(Sl.v t154_5)])] h_166 fun rv_83 h_167 => ∃ t157_9 : Sl, ∃ t157_10 : Bool, rv_83 = (Value.tuple #[(Sl.v t157_9), (VB t157_10)]) ∧ Vars h_167 [(b_22, [(Sl.v t154_5)]), (b_1, [(Sl.v t61_1)])] ∧
  callM P 34 #[(Value.agg #[(Sl.v t154_5)])] h_167 fun rv_84 h_168 => ∃ t162_9 : Sl, ∃ t162_10 : Bool, rv_84 = (Value.tuple #[(Sl.v t162_9), (VB t162_10)]) ∧ Vars h_168 [(b_22, [(Sl.v t154_5)]), (b_1, [(Sl.v t61_1)])] ∧
  callM P 35 #[(Value.agg #[(Sl.v t154_5)])] h_168 fun rv_85 h_169 => ∃ t167_9 : Bool, ∃ t167_10 : Bool, rv_85 = (Value.tuple #[(VB t167_9), (VB t167_10)]) ∧ Vars h_169 [(b_22, [(Sl.v t154_5)]), (b_1, [(Sl.v t61_1)])] ∧
  callM P 36 #[(Value.agg #[(Sl.v t154_5)])] h_169 fun rv_86 h_170 => ∃ t172_9 : Bool, ∃ t172_10 : Bool, rv_86 = (Value.tuple #[(VB t172_9), (VB t172_10)]) ∧ Vars h_170 [(b_22, [(Sl.v t154_5)]), (b_1, [(Sl.v t61_1)])] ∧
  ((!(t157_10 == t162_10)) = true →
  K (VB false) h_170) ∧
  ((!(t157_10 == t162_10)) = false →
  callM P 37 #[(Sl.v t157_9), (Sl.v t162_9)] h_170 fun rv_87 h_171 => ∃ t181_5 : Bool, rv_87 = (VB t181_5) ∧ Vars h_171 [(b_22, [(Sl.v t154_5)]), (b_1, [(Sl.v t61_1)])] ∧
  ((!t181_5) = true →
  K (VB false) h_171) ∧
  ((!t181_5) = false →
  ((!(t167_10 == t172_10)) = true →
  K (VB false) h_171) ∧
  ((!(t167_10 == t172_10)) = false →
  ((!(t167_9 == t172_9)) = true →
  K (VB false) h_171) ∧
  ((!(t167_9 == t172_9)) = false →
  ((!(t167_10 == t157_10)) = true →
  K (VB false) h_171) ∧
  ((!(t167_10 == t157_10)) = false →
  ∃ J_41 : Heap → Prop, ((t157_10 = true →
  ∃ J_42 : Nat → Int → Int → Heap → Prop, (∃ n0 : Nat, J_42 n0 0 0 h_171) ∧
  ∀ (n_65 : Nat) (count25_5 : Int) (t202_5 : Int) (h_172 : Heap), J_42 n_65 count25_5 t202_5 h_172 → Vars h_172 [(b_22, [(Sl.v t154_5)]), (b_1, [(Sl.v t61_1)])] →
  ((decide (t202_5 < (t157_9.n : Int))) = true →
  InB t157_9 t202_5 ∧
  ∃ t206_5 : Sl, hcell h_172 (Sl.at t157_9 t202_5 1) = some (Sl.v t206_5) ∧
  ((decide (0 < t202_5)) = true →
  InB t157_9 (w64 (t202_5 - 1)) ∧
  ∃ t218_5 : Sl, hcell h_172 (Sl.at t157_9 (w64 (t202_5 - 1)) 1) = some (Sl.v t218_5) ∧
  InB t218_5 0 ∧
  ∃ t220_5 : Int, hcell h_172 (Sl.at t218_5 0 1) = some (VI t220_5) ∧
  InB t206_5 0 ∧
  ∃ t223_5 : Int, hcell h_172 (Sl.at t206_5 0 1) = some (VI t223_5) ∧
  ((decide (t223_5 ≤ t220_5)) = true →
  K (VB false) h_172) ∧
  ((decide (t223_5 ≤ t220_5)) = false →
  ∃ J_43 : Nat → Int → Heap → Prop, (∃ n0 : Nat, J_43 n0 0 h_172) ∧
  ∀ (n_66 : Nat) (t228_9 : Int) (h_173 : Heap), J_43 n_66 t228_9 h_173 → Vars h_173 [(b_22, [(Sl.v t154_5)]), (b_1, [(Sl.v t61_1)])] →
  ((decide (t228_9 < (t206_5.n : Int))) = true →
  InB t206_5 t228_9 ∧
  ∃ t231_9 : Int, hcell h_173 (Sl.at t206_5 t228_9 1) = some (VI t231_9) ∧
  ∃ J_44 : Nat → Int → Heap → Prop, (∃ n0 : Nat, J_44 n0 0 h_173) ∧
  ∀ (n_67 : Nat) (t234_9 : Int) (h_174 : Heap), J_44 n_67 t234_9 h_174 → Vars h_174 [(b_22, [(Sl.v t154_5)]), (b_1, [(Sl.v t61_1)])] →
  ((decide (t234_9 < (t206_5.n : Int))) = true →
  InB t206_5 t234_9 ∧
  ∃ t237_9 : Int, hcell h_174 (Sl.at t206_5 t234_9 1) = some (VI t237_9) ∧
  callM P 25 #[(Value.agg #[(Sl.v t154_5)]), (VI t231_9), (VI t237_9)] h_174 fun rv_88 h_175 => ∃ t242_17 : Int, ∃ t242_18 : Bool, rv_88 = (Value.tuple #[(VI t242_17), (VB t242_18)]) ∧ Vars h_175 [(b_22, [(Sl.v t154_5)]), (b_1, [(Sl.v t61_1)])] ∧
  ((!t242_18) = true →
  K (VB false) h_175) ∧
  ((!t242_18) = false →
  ∃ m : Nat, m < n_67 ∧ J_44 m (w64 (t234_9 + 1)) h_175)) ∧
  ((decide (t234_9 < (t206_5.n : Int))) = false →
  ∃ m : Nat, m < n_66 ∧ J_43 m (w64 (t228_9 + 1)) h_174)) ∧
  ((decide (t228_9 < (t206_5.n : Int))) = false →
  ∃ m : Nat, m < n_65 ∧ J_42 m (w64 (count25_5 + (t206_5.n : Int))) (w64 (t202_5 + 1)) h_173))) ∧
  ((decide (0 < t202_5)) = false →
  ∃ J_45 : Nat → Int → Heap → Prop, (∃ n0 : Nat, J_45 n0 0 h_172) ∧
  ∀ (n_70 : Nat) (t228_10 : Int) (h_176 : Heap), J_45 n_70 t228_10 h_176 → Vars h_176 [(b_22, [(Sl.v t154_5)]), (b_1, [(Sl.v t61_1)])] →
  ((decide (t228_10 < (t206_5.n : Int))) = true →
  InB t206_5 t228_10 ∧
  ∃ t231_10 : Int, hcell h_176 (Sl.at t206_5 t228_10 1) = some (VI t231_10) ∧
  ∃ J_46 : Nat → Int → Heap → Prop, (∃ n0 : Nat, J_46 n0 0 h_176) ∧
  ∀ (n_71 : Nat) (t234_10 : Int) (h_177 : Heap), J_46 n_71 t234_10 h_177 → Vars h_177 [(b_22, [(Sl.v t154_5)]), (b_1, [(Sl.v t61_1)])] →
  ((decide (t234_10 < (t206_5.n : Int))) = true →
  InB t206_5 t234_10 ∧
  ∃ t237_10 : Int, hcell h_177 (Sl.at t206_5 t234_10 1) = some (VI t237_10) ∧
  callM P 25 #[(Value.agg #[(Sl.v t154_5)]), (VI t231_10), (VI t237_10)] h_177 fun rv_89 h_178 => ∃ t242_19 : Int, ∃ t242_20 : Bool, rv_89 = (Value.tuple #[(VI t242_19), (VB t242_20)]) ∧ Vars h_178 [(b_22, [(Sl.v t154_5)]), (b_1, [(Sl.v t61_1)])] ∧
  ((!t242_20) = true →
  K (VB false) h_178) ∧
  ((!t242_20) = false →
  ∃ m : Nat, m < n_71 ∧ J_46 m (w64 (t234_10 + 1)) h_178)) ∧
  ((decide (t234_10 < (t206_5.n : Int))) = false →
  ∃ m : Nat, m < n_70 ∧ J_45 m (w64 (t228_10 + 1)) h_177)) ∧
  ((decide (t228_10 < (t206_5.n : Int))) = false →
  ∃ m : Nat, m < n_65 ∧ J_42 m (w64 (count25_5 + (t206_5.n : Int))) (w64 (t202_5 + 1)) h_176))) ∧
  ((decide (t202_5 < (t157_9.n : Int))) = false →
  ((!decide (count25_5 = (t154_5.n : Int))) = true →
  K (VB false) h_172) ∧
  ((!decide (count25_5 = (t154_5.n : Int))) = false →
  ((!(t167_9 == (decide ((t157_9.n : Int) = 1)))) = true →
  K (VB false) h_172) ∧
  ((!(t167_9 == (decide ((t157_9.n : Int) = 1)))) = false →
  J_41  h_172)))) ∧
  (t157_10 = false →
  J_41  h_171)) ∧
  ∀ (h_179 : Heap), J_41  h_179 → Vars h_179 [(b_22, [(Sl.v t154_5)]), (b_1, [(Sl.v t61_1)])] →
  callM P 38 #[(Sl.v more1_1)] h_179 fun rv_90 h_180 => ∃ t264_9 : Sl, ∃ t264_10 : Sl, rv_90 = (Value.tuple #[(Value.agg #[(Sl.v t264_9)]), (Sl.v t264_10)]) ∧ Vars h_180 [(b_22, [(Sl.v t154_5)]), (b_1, [(Sl.v t61_1)])] ∧
  ∀ (b_23 : Nat) (h_182 : Heap), h_180.size ≤ b_23 → Fr (In []) h_180 h_182 → Vars h_182 [(b_23, [(Sl.v t264_9)]), (b_22, [(Sl.v t154_5)]), (b_1, [(Sl.v t61_1)])] →
  callM P 39 #[(Value.agg #[(Sl.v t264_9)]), (Sl.v t264_10)] h_182 fun rv_91 h_183 => ∃ t270_9 : Sl, ∃ t270_10 : Bool, rv_91 = (Value.tuple #[(Value.agg #[(Sl.v t270_9)]), (VB t270_10)]) ∧ Vars h_183 [(b_23, [(Sl.v t264_9)]), (b_22, [(Sl.v t154_5)]), (b_1, [(Sl.v t61_1)])] ∧
  ∀ (b_24 : Nat) (h_185 : Heap), h_183.size ≤ b_24 → Fr (In []) h_183 h_185 → Vars h_185 [(b_24, [(Sl.v t270_9)]), (b_23, [(Sl.v t264_9)]), (b_22, [(Sl.v t154_5)]), (b_1, [(Sl.v t61_1)])] →
  callM P 40 #[(Value.agg #[(Sl.v t264_9)]), (Sl.v t264_10)] h_185 fun rv_92 h_186 => ∃ t276_9 : Sl, ∃ t276_10 : Bool, rv_92 = (Value.tuple #[(Value.agg #[(Sl.v t276_9)]), (VB t276_10)]) ∧ Vars h_186 [(b_24, [(Sl.v t270_9)]), (b_23, [(Sl.v t264_9)]), (b_22, [(Sl.v t154_5)]), (b_1, [(Sl.v t61_1)])] ∧
  ((!(t270_10 == t276_10)) = true →
  ∀ (b_25 : Nat) (h_188 : Heap), h_186.size ≤ b_25 → Fr (In []) h_186 h_188 → Vars h_188 [(b_25, [(Sl.v t276_9)]), (b_24, [(Sl.v t270_9)]), (b_23, [(Sl.v t264_9)]), (b_22, [(Sl.v t154_5)]), (b_1, [(Sl.v t61_1)])] →
  K (VB false) h_188) ∧
  ((!(t270_10 == t276_10)) = false →
  ∀ (b_25 : Nat) (h_188 : Heap), h_186.size ≤ b_25 → Fr (In []) h_186 h_188 → Vars h_188 [(b_25, [(Sl.v t276_9)]), (b_24, [(Sl.v t270_9)]), (b_23, [(Sl.v t264_9)]), (b_22, [(Sl.v t154_5)]), (b_1, [(Sl.v t61_1)])] →
  callM P 41 #[(Value.agg #[(Sl.v t270_9)]), (Value.agg #[(Sl.v t276_9)])] h_188 fun rv_93 h_189 => ∃ t285_5 : Bool, rv_93 = (VB t285_5) ∧ Vars h_189 [(b_25, [(Sl.v t276_9)]), (b_24, [(Sl.v t270_9)]), (b_23, [(Sl.v t264_9)]), (b_22, [(Sl.v t154_5)]), (b_1, [(Sl.v t61_1)])] ∧
  ((!t285_5) = true →
  K (VB false) h_189) ∧
  ((!t285_5) = false →
  ∃ J_47 : Heap → Prop, ((t270_10 = true →
  ∃ J_48 : Nat → Int → Heap → Prop, (∃ n0 : Nat, J_48 n0 0 h_189) ∧
  ∀ (n_75 : Nat) (t292_5 : Int) (h_190 : Heap), J_48 n_75 t292_5 h_190 → Vars h_190 [(b_25, [(Sl.v t276_9)]), (b_24, [(Sl.v t270_9)]), (b_23, [(Sl.v t264_9)]), (b_22, [(Sl.v t154_5)]), (b_1, [(Sl.v t61_1)])] →
  ((decide (t292_5 < (t264_9.n : Int))) = true →
  ∃ J_49 : Nat → Int → Heap → Prop, (∃ n0 : Nat, J_49 n0 0 h_190) ∧
  ∀ (n_76 : Nat) (t298_5 : Int) (h_191 : Heap), J_49 n_76 t298_5 h_191 → Vars h_191 [(b_25, [(Sl.v t276_9)]), (b_24, [(Sl.v t270_9)]), (b_23, [(Sl.v t264_9)]), (b_22, [(Sl.v t154_5)]), (b_1, [(Sl.v t61_1)])] →
  ((decide (t298_5 < (t264_9.n : Int))) = true →
  callM P 25 #[(Value.agg #[(Sl.v t264_9)]), (VI t292_5), (VI t298_5)] h_191 fun rv_94 h_192 => ∃ t305_9 : Int, ∃ t305_10 : Bool, rv_94 = (Value.tuple #[(VI t305_9), (VB t305_10)]) ∧ Vars h_192 [(b_25, [(Sl.v t276_9)]), (b_24, [(Sl.v t270_9)]), (b_23, [(Sl.v t264_9)]), (b_22, [(Sl.v t154_5)]), (b_1, [(Sl.v t61_1)])] ∧
  InB t264_10 t292_5 ∧
  ∃ t313_5 : Int, hcell h_192 (Sl.at t264_10 t292_5 1) = some (VI t313_5) ∧
  InB t264_10 t298_5 ∧
  ∃ t317_5 : Int, hcell h_192 (Sl.at t264_10 t298_5 1) = some (VI t317_5) ∧
  callM P 25 #[(Value.agg #[(Sl.v t270_9)]), (VI t313_5), (VI t317_5)] h_192 fun rv_95 h_193 => ∃ t318_9 : Int, ∃ t318_10 : Bool, rv_95 = (Value.tuple #[(VI t318_9), (VB t318_10)]) ∧ Vars h_193 [(b_25, [(Sl.v t276_9)]), (b_24, [(Sl.v t270_9)]), (b_23, [(Sl.v t264_9)]), (b_22, [(Sl.v t154_5)]), (b_1, [(Sl.v t61_1)])] ∧
  ((!(t305_10 == t318_10)) = true →
  K (VB false) h_193) ∧
  ((!(t305_10 == t318_10)) = false →
  ((!decide (t305_9 = t318_9)) = true →
  K (VB false) h_193) ∧
  ((!decide (t305_9 = t318_9)) = false →
  ∃ m : Nat, m < n_76 ∧ J_49 m (w64 (t298_5 + 1)) h_193))) ∧
  ((decide (t298_5 < (t264_9.n : Int))) = false →
  ∃ m : Nat, m < n_75 ∧ J_48 m (w64 (t292_5 + 1)) h_191)) ∧
  ((decide (t292_5 < (t264_9.n : Int))) = false →
  J_47  h_190)) ∧
  (t270_10 = false →
  J_47  h_189)) ∧
  ∀ (h_194 : Heap), J_47  h_194 → Vars h_194 [(b_25, [(Sl.v t276_9)]), (b_24, [(Sl.v t270_9)]), (b_23, [(Sl.v t264_9)]), (b_22, [(Sl.v t154_5)]), (b_1, [(Sl.v t61_1)])] →
  callM P 42 #[(Sl.v more1_1)] h_194 fun rv_96 h_195 => ∃ t333_9 : Sl, ∃ t333_10 : Int, rv_96 = (Value.tuple #[(Value.agg #[(Sl.v t333_9)]), (VI t333_10)]) ∧ Vars h_195 [(b_25, [(Sl.v t276_9)]), (b_24, [(Sl.v t270_9)]), (b_23, [(Sl.v t264_9)]), (b_22, [(Sl.v t154_5)]), (b_1, [(Sl.v t61_1)])] ∧
  ∀ (b_26 : Nat) (h_197 : Heap), h_195.size ≤ b_26 → Fr (In []) h_195 h_197 → Vars h_197 [(b_26, [(Sl.v t333_9)]), (b_25, [(Sl.v t276_9)]), (b_24, [(Sl.v t270_9)]), (b_23, [(Sl.v t264_9)]), (b_22, [(Sl.v t154_5)]), (b_1, [(Sl.v t61_1)])] →
  callM P 43 #[(Value.agg #[(Sl.v t333_9)]), (VI t333_10)] h_197 fun rv_97 h_198 => ∃ t339_9 : Bool, ∃ t339_10 : Bool, rv_97 = (Value.tuple #[(VB t339_9), (VB t339_10)]) ∧ Vars h_198 [(b_26, [(Sl.v t333_9)]), (b_25, [(Sl.v t276_9)]), (b_24, [(Sl.v t270_9)]), (b_23, [(Sl.v t264_9)]), (b_22, [(Sl.v t154_5)]), (b_1, [(Sl.v t61_1)])] ∧
  callM P 44 #[(Value.agg #[(Sl.v t333_9)]), (VI t333_10)] h_198 fun rv_98 h_199 => ∃ t345_9 : Bool, ∃ t345_10 : Bool, rv_98 = (Value.tuple #[(VB t345_9), (VB t345_10)]) ∧ Vars h_199 [(b_26, [(Sl.v t333_9)]), (b_25, [(Sl.v t276_9)]), (b_24, [(Sl.v t270_9)]), (b_23, [(Sl.v t264_9)]), (b_22, [(Sl.v t154_5)]), (b_1, [(Sl.v t61_1)])] ∧
  ((!(t339_10 == t345_10)) = true →
  K (VB false) h_199) ∧
  ((!(t339_10 == t345_10)) = false →
  ((!(t339_9 == t345_9)) = true →
  K (VB false) h_199) ∧
  ((!(t339_9 == t345_9)) = false →
  (t339_10 = true →
  ∃ J_50 : Nat → Bool → Int → Heap → Prop, (∃ n0 : Nat, J_50 n0 true 0 h_199) ∧
  ∀ (n_79 : Nat) (all52_5 : Bool) (t360_5 : Int) (h_200 : Heap), J_50 n_79 all52_5 t360_5 h_200 → Vars h_200 [(b_26, [(Sl.v t333_9)]), (b_25, [(Sl.v t276_9)]), (b_24, [(Sl.v t270_9)]), (b_23, [(Sl.v t264_9)]), (b_22, [(Sl.v t154_5)]), (b_1, [(Sl.v t61_1)])] →
  ((decide (t360_5 < (t333_9.n : Int))) = true →
  callM P 25 #[(Value.agg #[(Sl.v t333_9)]), (VI t360_5), (VI t333_10)] h_200 fun rv_99 h_201 => ∃ t367_9 : Int, ∃ t367_10 : Bool, rv_99 = (Value.tuple #[(VI t367_9), (VB t367_10)]) ∧ Vars h_201 [(b_26, [(Sl.v t333_9)]), (b_25, [(Sl.v t276_9)]), (b_24, [(Sl.v t270_9)]), (b_23, [(Sl.v t264_9)]), (b_22, [(Sl.v t154_5)]), (b_1, [(Sl.v t61_1)])] ∧
  (all52_5 = true →
  ∃ m : Nat, m < n_79 ∧ J_50 m t367_10 (w64 (t360_5 + 1)) h_201) ∧
  (all52_5 = false →
  ∃ m : Nat, m < n_79 ∧ J_50 m false (w64 (t360_5 + 1)) h_201)) ∧
  ((decide (t360_5 < (t333_9.n : Int))) = false →
  K (VB (all52_5 == t339_9)) h_200)) ∧
  (t339_10 = false →
  K (VB true) h_199)))))))))))))) ∧
  (t69_2 = false →
  callM P 32 #[(Sl.v more1_1)] h_10 fun rv_100 h_202 => ∃ t154_6 : Sl, rv_100 = (Value.agg #[(Sl.v t154_6)]) ∧ Vars h_202 [(b_1, [(Sl.v t61_1)])] ∧
  ∀ (b_27 : Nat) (h_204 : Heap), h_202.size ≤ b_27 → Fr (In []) h_202 h_204 → Vars h_204 [(b_27, [(Sl.v t154_6)]), (b_1, [(Sl.v t61_1)])] →
  callM P 33 #[(Value.agg #[(Sl.v t154_6)])] h_204 fun rv_101 h_205 => ∃ t157_11 : Sl, ∃ t157_12 : Bool, rv_101 = (Value.tuple #[(Sl.v t157_11), (VB t157_12)]) ∧ Vars h_205 [(b_27, [(Sl.v t154_6)]), (b_1, [(Sl.v t61_1)])] ∧
  callM P 34 #[(Value.agg #[(Sl.v t154_6)])] h_205 fun rv_102 h_206 => ∃ t162_11 : Sl, ∃ t162_12 : Bool, rv_102 = (Value.tuple #[(Sl.v t162_11), (VB t162_12)]) ∧ Vars h_206 [(b_27, [(Sl.v t154_6)]), (b_1, [(Sl.v t61_1)])] ∧
  callM P 35 #[(Value.agg #[(Sl.v t154_6)])] h_206 fun rv_103 h_207 => ∃ t167_11 : Bool, ∃ t167_12 : Bool, rv_103 = (Value.tuple #[(VB t167_11), (VB t167_12)]) ∧ Vars h_207 [(b_27, [(Sl.v t154_6)]), (b_1, [(Sl.v t61_1)])] ∧
  callM P 36 #[(Value.agg #[(Sl.v t154_6)])] h_207 fun rv_104 h_208 => ∃ t172_11 : Bool, ∃ t172_12 : Bool, rv_104 = (Value.tuple #[(VB t172_11), (VB t172_12)]) ∧ Vars h_208 [(b_27, [(Sl.v t154_6)]), (b_1, [(Sl.v t61_1)])] ∧
  ((!(t157_12 == t162_12)) = true →
  K (VB false) h_208) ∧
  ((!(t157_12 == t162_12)) = false →
  callM P 37 #[(Sl.v t157_11), (Sl.v t162_11)] h_208 fun rv_105 h_209 => ∃ t181_6 : Bool, rv_105 = (VB t181_6) ∧ Vars h_209 [(b_27, [(Sl.v t154_6)]), (b_1, [(Sl.v t61_1)])] ∧
  ((!t181_6) = true →
  K (VB false) h_209) ∧
  ((!t181_6) = false →
  ((!(t167_12 == t172_12)) = true →
  K (VB false) h_209) ∧
  ((!(t167_12 == t172_12)) = false →
  ((!(t167_11 == t172_11)) = true →
  K (VB false) h_209) ∧
  ((!(t167_11 == t172_11)) = false →
  ((!(t167_12 == t157_12)) = true →
  K (VB false) h_209) ∧
  ((!(t167_12 == t157_12)) = false →
  ∃ J_51 : Heap → Prop, ((t157_12 = true →
  ∃ J_52 : Nat → Int → Int → Heap → Prop, (∃ n0 : Nat, J_52 n0 0 0 h_209) ∧
  ∀ (n_81 : Nat) (count25_6 : Int) (t202_6 : Int) (h_210 : Heap), J_52 n_81 count25_6 t202_6 h_210 → Vars h_210 [(b_27, [(Sl.v t154_6)]), (b_1, [(Sl.v t61_1)])] →
  ((decide (t202_6 < (t157_11.n : Int))) = true →
  InB t157_11 t202_6 ∧
  ∃ t206_6 : Sl, hcell h_210 (Sl.at t157_11 t202_6 1) = some (Sl.v t206_6) ∧
  ((decide (0 < t202_6)) = true →
  InB t157_11 (w64 (t202_6 - 1)) ∧
  ∃ t218_6 : Sl, hcell h_210 (Sl.at t157_11 (w64 (t202_6 - 1)) 1) = some (Sl.v t218_6) ∧
  InB t218_6 0 ∧
  ∃ t220_6 : Int, hcell h_210 (Sl.at t218_6 0 1) = some (VI t220_6) ∧
  InB t206_6 0 ∧
  ∃ t223_6 : Int, hcell h_210 (Sl.at t206_6 0 1) = some (VI t223_6) ∧
  ((decide (t223_6 ≤ t220_6)) = true →
  K (VB false) h_210) ∧
  ((decide (t223_6 ≤ t220_6)) = false →
  ∃ J_53 : Nat → Int → Heap → Prop, (∃ n0 : Nat, J_53 n0 0 h_210) ∧
  ∀ (n_82 : Nat) (t228_11 : Int) (h_211 : Heap), J_53 n_82 t228_11 h_211 → Vars h_211 [(b_27, [(Sl.v t154_6)]), (b_1, [(Sl.v t61_1)])] →
  ((decide (t228_11 < (t206_6.n : Int))) = true →
  InB t206_6 t228_11 ∧
  ∃ t231_11 : Int, hcell h_211 (Sl.at t206_6 t228_11 1) = some (VI t231_11) ∧
  ∃ J_54 : Nat → Int → Heap → Prop, (∃ n0 : Nat, J_54 n0 0 h_211) ∧
  ∀ (n_83 : Nat) (t234_11 : Int) (h_212 : Heap), J_54 n_83 t234_11 h_212 → Vars h_212 [(b_27, [(Sl.v t154_6)]), (b_1, [(Sl.v t61_1)])] →
  ((decide (t234_11 < (t206_6.n : Int))) = true →
  InB t206_6 t234_11 ∧
  ∃ t237_11 : Int, hcell h_212 (Sl.at t206_6 t234_11 1) = some (VI t237_11) ∧
  callM P 25 #[(Value.agg #[(Sl.v t154_6)]), (VI t231_11), (VI t237_11)] h_212 fun rv_106 h_213 => ∃ t242_21 : Int, ∃ t242_22 : Bool, rv_106 = (Value.tuple #[(VI t242_21), (VB t242_22)]) ∧ Vars h_213 [(b_27, [(Sl.v t154_6)]), (b_1, [(Sl.v t61_1)])] ∧
  ((!t242_22) = true →
  K (VB false) h_213) ∧
  ((!t242_22) = false →
  ∃ m : Nat, m < n_83 ∧ J_54 m (w64 (t234_11 + 1)) h_213)) ∧
  ((decide (t234_11 < (t206_6.n : Int))) = false →
  ∃ m : Nat, m < n_82 ∧ J_53 m (w64 (t228_11 + 1)) h_212)) ∧
  ((decide (t228_11 < (t206_6.n : Int))) = false →
  ∃ m : Nat, m < n_81 ∧ J_52 m (w64 (count25_6 + (t206_6.n : Int))) (w64 (t202_6 + 1)) h_211))) ∧
  ((decide (0 < t202_6)) = false →
  ∃ J_55 : Nat → Int → Heap → Prop, (∃ n0 : Nat, J_55 n0 0 h_210) ∧
  ∀ (n_86 : Nat) (t228_12 : Int) (h_214 : Heap), J_55 n_86 t228_12 h_214 → Vars h_214 [(b_27, [(Sl.v t154_6)]), (b_1, [(Sl.v t61_1)])] →
  ((decide (t228_12 < (t206_6.n : Int))) = true →
  InB t206_6 t228_12 ∧
  ∃ t231_12 : Int, hcell h_214 (Sl.at t206_6 t228_12 1) = some (VI t231_12) ∧
  ∃ J_56 : Nat → Int → Heap → Prop, (∃ n0 : Nat, J_56 n0 0 h_214) ∧
  ∀ (n_87 : Nat) (t234_12 : Int) (h_215 : Heap), J_56 n_87 t234_12 h_215 → Vars h_215 [(b_27, [(Sl.v t154_6)]), (b_1, [(Sl.v t61_1)])] →
  ((decide (t234_12 < (t206_6.n : Int))) = true →
  InB t206_6 t234_12 ∧
  ∃ t237_12 : Int, hcell h_215 (Sl.at t206_6 t234_12 1) = some (VI t237_12) ∧
  callM P 25 #[(Value.agg #[(Sl.v t154_6)]), (VI t231_12), (VI t237_12)] h_215 fun rv_107 h_216 => ∃ t242_23 : Int, ∃ t242_24 : Bool, rv_107 = (Value.tuple #[(VI t242_23), (VB t242_24)]) ∧ Vars h_216 [(b_27, [(Sl.v t154_6)]), (b_1, [(Sl.v t61_1)])] ∧
  ((!t242_24) = true →
  K (VB false) h_216) ∧
  ((!t242_24) = false →
  ∃ m : Nat, m < n_87 ∧ J_56 m (w64 (t234_12 + 1)) h_216)) ∧
  ((decide (t234_12 < (t206_6.n : Int))) = false →
  ∃ m : Nat, m < n_86 ∧ J_55 m (w64 (t228_12 + 1)) h_215)) ∧
  ((decide (t228_12 < (t206_6.n : Int))) = false →
  ∃ m : Nat, m < n_81 ∧ J_52 m (w64 (count25_6 + (t206_6.n : Int))) (w64 (t202_6 + 1)) h_214))) ∧
  ((decide (t202_6 < (t157_11.n : Int))) = false →
  ((!decide (count25_6 = (t154_6.n : Int))) = true →
  K (VB false) h_210) ∧
  ((!decide (count25_6 = (t154_6.n : Int))) = false →
  ((!(t167_11 == (decide ((t157_11.n : Int) = 1)))) = true →
  K (VB false) h_210) ∧
  ((!(t167_11 == (decide ((t157_11.n : Int) = 1)))) = false →
  J_51  h_210)))) ∧
  (t157_12 = false →
  J_51  h_209)) ∧
  ∀ (h_217 : Heap), J_51  h_217 → Vars h_217 [(b_27, [(Sl.v t154_6)]), (b_1, [(Sl.v t61_1)])] →
  callM P 38 #[(Sl.v more1_1)] h_217 fun rv_108 h_218 => ∃ t264_11 : Sl, ∃ t264_12 : Sl, rv_108 = (Value.tuple #[(Value.agg #[(Sl.v t264_11)]), (Sl.v t264_12)]) ∧ Vars h_218 [(b_27, [(Sl.v t154_6)]), (b_1, [(Sl.v t61_1)])] ∧
  ∀ (b_28 : Nat) (h_220 : Heap), h_218.size ≤ b_28 → Fr (In []) h_218 h_220 → Vars h_220 [(b_28, [(Sl.v t264_11)]), (b_27, [(Sl.v t154_6)]), (b_1, [(Sl.v t61_1)])] →
  callM P 39 #[(Value.agg #[(Sl.v t264_11)]), (Sl.v t264_12)] h_220 fun rv_109 h_221 => ∃ t270_11 : Sl, ∃ t270_12 : Bool, rv_109 = (Value.tuple #[(Value.agg #[(Sl.v t270_11)]), (VB t270_12)]) ∧ Vars h_221 [(b_28, [(Sl.v t264_11)]), (b_27, [(Sl.v t154_6)]), (b_1, [(Sl.v t61_1)])] ∧
  ∀ (b_29 : Nat) (h_223 : Heap), h_221.size ≤ b_29 → Fr (In []) h_221 h_223 → Vars h_223 [(b_29, [(Sl.v t270_11)]), (b_28, [(Sl.v t264_11)]), (b_27, [(Sl.v t154_6)]), (b_1, [(Sl.v t61_1)])] →
  callM P 40 #[(Value.agg #[(Sl.v t264_11)]), (Sl.v t264_12)] h_223 fun rv_110 h_224 => ∃ t276_11 : Sl, ∃ t276_12 : Bool, rv_110 = (Value.tuple #[(Value.agg #[(Sl.v t276_11)]), (VB t276_12)]) ∧ Vars h_224 [(b_29, [(Sl.v t270_11)]), (b_28, [(Sl.v t264_11)]), (b_27, [(Sl.v t154_6)]), (b_1, [(Sl.v t61_1)])] ∧
  ((!(t270_12 == t276_12)) = true →
  ∀ (b_30 : Nat) (h_226 : Heap), h_224.size ≤ b_30 → Fr (In []) h_224 h_226 → Vars h_226 [(b_30, [(Sl.v t276_11)]), (b_29, [(Sl.v t270_11)]), (b_28, [(Sl.v t264_11)]), (b_27, [(Sl.v t154_6)]), (b_1, [(Sl.v t61_1)])] →
  K (VB false) h_226) ∧
  ((!(t270_12 == t276_12)) = false →
  ∀ (b_30 : Nat) (h_226 : Heap), h_224.size ≤ b_30 → Fr (In []) h_224 h_226 → Vars h_226 [(b_30, [(Sl.v t276_11)]), (b_29, [(Sl.v t270_11)]), (b_28, [(Sl.v t264_11)]), (b_27, [(Sl.v t154_6)]), (b_1, [(Sl.v t61_1)])] →
  callM P 41 #[(Value.agg #[(Sl.v t270_11)]), (Value.agg #[(Sl.v t276_11)])] h_226 fun rv_111 h_227 => ∃ t285_6 : Bool, rv_111 = (VB t285_6) ∧ Vars h_227 [(b_30, [(Sl.v t276_11)]), (b_29, [(Sl.v t270_11)]), (b_28, [(Sl.v t264_11)]), (b_27, [(Sl.v t154_6)]), (b_1, [(Sl.v t61_1)])] ∧
  ((!t285_6) = true →
  K (VB false) h_227) ∧
  ((!t285_6) = false →
  ∃ J_57 : Heap → Prop, ((t270_12 = true →
  ∃ J_58 : Nat → Int → Heap → Prop, (∃ n0 : Nat, J_58 n0 0 h_227) ∧
  ∀ (n_91 : Nat) (t292_6 : Int) (h_228 : Heap), J_58 n_91 t292_6 h_228 → Vars h_228 [(b_30, [(Sl.v t276_11)]), (b_29, [(Sl.v t270_11)]), (b_28, [(Sl.v t264_11)]), (b_27, [(Sl.v t154_6)]), (b_1, [(Sl.v t61_1)])] →
  ((decide (t292_6 < (t264_11.n : Int))) = true →
  ∃ J_59 : Nat → Int → Heap → Prop, (∃ n0 : Nat, J_59 n0 0 h_228) ∧
  ∀ (n_92 : Nat) (t298_6 : Int) (h_229 : Heap), J_59 n_92 t298_6 h_229 → Vars h_229 [(b_30, [(Sl.v t276_11)]), (b_29, [(Sl.v t270_11)]), (b_28, [(Sl.v t264_11)]), (b_27, [(Sl.v t154_6)]), (b_1, [(Sl.v t61_1)])] →
  ((decide (t298_6 < (t264_11.n : Int))) = true →
  callM P 25 #[(Value.agg #[(Sl.v t264_11)]), (VI t292_6), (VI t298_6)] h_229 fun rv_112 h_230 => ∃ t305_11 : Int, ∃ t305_12 : Bool, rv_112 = (Value.tuple #[(VI t305_11), (VB t305_12)]) ∧ Vars h_230 [(b_30, [(Sl.v t276_11)]), (b_29, [(Sl.v t270_11)]), (b_28, [(Sl.v t264_11)]), (b_27, [(Sl.v t154_6)]), (b_1, [(Sl.v t61_1)])] ∧
  InB t264_12 t292_6 ∧
  ∃ t313_6 : Int, hcell h_230 (Sl.at t264_12 t292_6 1) = some (VI t313_6) ∧
  InB t264_12 t298_6 ∧
  ∃ t317_6 : Int, hcell h_230 (Sl.at t264_12 t298_6 1) = some (VI t317_6) ∧
  callM P 25 #[(Value.agg #[(Sl.v t270_11)]), (VI t313_6), (VI t317_6)] h_230 fun rv_113 h_231 => ∃ t318_11 : Int, ∃ t318_12 : Bool, rv_113 = (Value.tuple #[(VI t318_11), (VB t318_12)]) ∧ Vars h_231 [(b_30, [(Sl.v t276_11)]), (b_29, [(Sl.v t270_11)]), (b_28, [(Sl.v t264_11)]), (b_27, [(Sl.v t154_6)]), (b_1, [(Sl.v t61_1)])] ∧
  ((!(t305_12 == t318_12)) = true →
  K (VB false) h_231) ∧
  ((!(t305_12 == t318_12)) = false →
  ((!decide (t305_11 = t318_11)) = true →
  K (VB false) h_231) ∧
  ((!decide (t305_11 = t318_11)) = false →
  ∃ m : Nat, m < n_92 ∧ J_59 m (w64 (t298_6 + 1)) h_231))) ∧
  ((decide (t298_6 < (t264_11.n : Int))) = false →
  ∃ m : Nat, m < n_91 ∧ J_58 m (w64 (t292_6 + 1)) h_229)) ∧
  ((decide (t292_6 < (t264_11.n : Int))) = false →
  J_57  h_228)) ∧
  (t270_12 = false →
  J_57  h_227)) ∧
  ∀ (h_232 : Heap), J_57  h_232 → Vars h_232 [(b_30, [(Sl.v t276_11)]), (b_29, [(Sl.v t270_11)]), (b_28, [(Sl.v t264_11)]), (b_27, [(Sl.v t154_6)]), (b_1, [(Sl.v t61_1)])] →
  callM P 42 #[(Sl.v more1_1)] h_232 fun rv_114 h_233 => ∃ t333_11 : Sl, ∃ t333_12 : Int, rv_114 = (Value.tuple #[(Value.agg #[(Sl.v t333_11)]), (VI t333_12)]) ∧ Vars h_233 [(b_30, [(Sl.v t276_11)]), (b_29, [(Sl.v t270_11)]), (b_28, [(Sl.v t264_11)]), (b_27, [(Sl.v t154_6)]), (b_1, [(Sl.v t61_1)])] ∧
  ∀ (b_31 : Nat) (h_235 : Heap), h_233.size ≤ b_31 → Fr (In []) h_233 h_235 → Vars h_235 [(b_31, [(Sl.v t333_11)]), (b_30, [(Sl.v t276_11)]), (b_29, [(Sl.v t270_11)]), (b_28, [(Sl.v t264_11)]), (b_27, [(Sl.v t154_6)]), (b_1, [(Sl.v t61_1)])] →
  callM P 43 #[(Value.agg #[(Sl.v t333_11)]), (VI t333_12)] h_235 fun rv_115 h_236 => ∃ t339_11 : Bool, ∃ t339_12 : Bool, rv_115 = (Value.tuple #[(VB t339_11), (VB t339_12)]) ∧ Vars h_236 [(b_31, [(Sl.v t333_11)]), (b_30, [(Sl.v t276_11)]), (b_29, [(Sl.v t270_11)]), (b_28, [(Sl.v t264_11)]), (b_27, [(Sl.v t154_6)]), (b_1, [(Sl.v t61_1)])] ∧
  callM P 44 #[(Value.agg #[(Sl.v t333_11)]), (VI t333_12)] h_236 fun rv_116 h_237 => ∃ t345_11 : Bool, ∃ t345_12 : Bool, rv_116 = (Value.tuple #[(VB t345_11), (VB t345_12)]) ∧ Vars h_237 [(b_31, [(Sl.v t333_11)]), (b_30, [(Sl.v t276_11)]), (b_29, [(Sl.v t270_11)]), (b_28, [(Sl.v t264_11)]), (b_27, [(Sl.v t154_6)]), (b_1, [(Sl.v t61_1)])] ∧
  ((!(t339_12 == t345_12)) = true →
  K (VB false) h_237) ∧
  ((!(t339_12 == t345_12)) = false →
  ((!(t339_11 == t345_11)) = true →
  K (VB false) h_237) ∧
  ((!(t339_11 == t345_11)) = false →
  (t339_12 = true →
  ∃ J_60 : Nat → Bool → Int → Heap → Prop, (∃ n0 : Nat, J_60 n0 true 0 h_237) ∧
  ∀ (n_95 : Nat) (all52_6 : Bool) (t360_6 : Int) (h_238 : Heap), J_60 n_95 all52_6 t360_6 h_238 → Vars h_238 [(b_31, [(Sl.v t333_11)]), (b_30, [(Sl.v t276_11)]), (b_29, [(Sl.v t270_11)]), (b_28, [(Sl.v t264_11)]), (b_27, [(Sl.v t154_6)]), (b_1, [(Sl.v t61_1)])] →
  ((decide (t360_6 < (t333_11.n : Int))) = true →
  callM P 25 #[(Value.agg #[(Sl.v t333_11)]), (VI t360_6), (VI t333_12)] h_238 fun rv_117 h_239 => ∃ t367_11 : Int, ∃ t367_12 : Bool, rv_117 = (Value.tuple #[(VI t367_11), (VB t367_12)]) ∧ Vars h_239 [(b_31, [(Sl.v t333_11)]), (b_30, [(Sl.v t276_11)]), (b_29, [(Sl.v t270_11)]), (b_28, [(Sl.v t264_11)]), (b_27, [(Sl.v t154_6)]), (b_1, [(Sl.v t61_1)])] ∧
  (all52_6 = true →
  ∃ m : Nat, m < n_95 ∧ J_60 m t367_12 (w64 (t360_6 + 1)) h_239) ∧
  (all52_6 = false →
  ∃ m : Nat, m < n_95 ∧ J_60 m false (w64 (t360_6 + 1)) h_239)) ∧
  ((decide (t360_6 < (t333_11.n : Int))) = false →
  K (VB (all52_6 == t339_11)) h_238)) ∧
  (t339_12 = false →
  K (VB true) h_237))))))))))))) ∧
  (t113_1 = false →
  (t69_2 = true →
  ((decide (t69_1 < 0)) = true →
  K (VB false) h_10) ∧
  ((decide (t69_1 < 0)) = false →
  ((decide ((t61_1.n : Int) ≤ t69_1)) = true →
  K (VB false) h_10) ∧
  ((decide ((t61_1.n : Int) ≤ t69_1)) = false →
  ((!((decide (t69_1 = 0)) == (decide (t61_2 = t61_3)))) = true →
  K (VB false) h_10) ∧
  ((!((decide (t69_1 = 0)) == (decide (t61_2 = t61_3)))) = false →
  callM P 32 #[(Sl.v more1_1)] h_10 fun rv_118 h_240 => ∃ t154_7 : Sl, rv_118 = (Value.agg #[(Sl.v t154_7)]) ∧ Vars h_240 [(b_1, [(Sl.v t61_1)])] ∧
  ∀ (b_32 : Nat) (h_242 : Heap), h_240.size ≤ b_32 → Fr (In []) h_240 h_242 → Vars h_242 [(b_32, [(Sl.v t154_7)]), (b_1, [(Sl.v t61_1)])] →
  callM P 33 #[(Value.agg #[(Sl.v t154_7)])] h_242 fun rv_119 h_243 => ∃ t157_13 : Sl, ∃ t157_14 : Bool, rv_119 = (Value.tuple #[(Sl.v t157_13), (VB t157_14)]) ∧ Vars h_243 [(b_32, [(Sl.v t154_7)]), (b_1, [(Sl.v t61_1)])] ∧
  callM P 34 #[(Value.agg #[(Sl.v t154_7)])] h_243 fun rv_120 h_244 => ∃ t162_13 : Sl, ∃ t162_14 : Bool, rv_120 = (Value.tuple #[(Sl.v t162_13), (VB t162_14)]) ∧ Vars h_244 [(b_32, [(Sl.v t154_7)]), (b_1, [(Sl.v t61_1)])] ∧
  callM P 35 #[(Value.agg #[(Sl.v t154_7)])] h_244 fun rv_121 h_245 => ∃ t167_13 : Bool, ∃ t167_14 : Bool, rv_121 = (Value.tuple #[(VB t167_13), (VB t167_14)]) ∧ Vars h_245 [(b_32, [(Sl.v t154_7)]), (b_1, [(Sl.v t61_1)])] ∧
  callM P 36 #[(Value.agg #[(Sl.v t154_7)])] h_245 fun rv_122 h_246 => ∃ t172_13 : Bool, ∃ t172_14 : Bool, rv_122 = (Value.tuple #[(VB t172_13), (VB t172_14)]) ∧ Vars h_246 [(b_32, [(Sl.v t154_7)]), (b_1, [(Sl.v t61_1)])] ∧
  ((!(t157_14 == t162_14)) = true →
  K (VB false) h_246) ∧
  ((!(t157_14 == t162_14)) = false →
  callM P 37 #[(Sl.v t157_13), (Sl.v t162_13)] h_246 fun rv_123 h_247 => ∃ t181_7 : Bool, rv_123 = (VB t181_7) ∧ Vars h_247 [(b_32, [(Sl.v t154_7)]), (b_1, [(Sl.v t61_1)])] ∧
  ((!t181_7) = true →
  K (VB false) h_247) ∧
  ((!t181_7) = false →
  ((!(t167_14 == t172_14)) = true →
  K (VB false) h_247) ∧
  ((!(t167_14 == t172_14)) = false →
  ((!(t167_13 == t172_13)) = true →
  K (VB false) h_247) ∧
  ((!(t167_13 == t172_13)) = false →
  ((!(t167_14 == t157_14)) = true →
  K (VB false) h_247) ∧
  ((!(t167_14 == t157_14)) = false →
  ∃ J_61 : Heap → Prop, ((t157_14 = true →
  ∃ J_62 : Nat → Int → Int → Heap → Prop, (∃ n0 : Nat, J_62 n0 0 0 h_247) ∧
  ∀ (n_97 : Nat) (count25_7 : Int) (t202_7 : Int) (h_248 : Heap), J_62 n_97 count25_7 t202_7 h_248 → Vars h_248 [(b_32, [(Sl.v t154_7)]), (b_1, [(Sl.v t61_1)])] →
  ((decide (t202_7 < (t157_13.n : Int))) = true →
  InB t157_13 t202_7 ∧
  ∃ t206_7 : Sl, hcell h_248 (Sl.at t157_13 t202_7 1) = some (Sl.v t206_7) ∧
  ((decide (0 < t202_7)) = true →
  InB t157_13 (w64 (t202_7 - 1)) ∧
  ∃ t218_7 : Sl, hcell h_248 (Sl.at t157_13 (w64 (t202_7 - 1)) 1) = some (Sl.v t218_7) ∧
  InB t218_7 0 ∧
  ∃ t220_7 : Int, hcell h_248 (Sl.at t218_7 0 1) = some (VI t220_7) ∧
  InB t206_7 0 ∧
  ∃ t223_7 : Int, hcell h_248 (Sl.at t206_7 0 1) = some (VI t223_7) ∧
  ((decide (t223_7 ≤ t220_7)) = true →
  K (VB false) h_248) ∧
  ((decide (t223_7 ≤ t220_7)) = false →
  ∃ J_63 : Nat → Int → Heap → Prop, (∃ n0 : Nat, J_63 n0 0 h_248) ∧
  ∀ (n_98 : Nat) (t228_13 : Int) (h_249 : Heap), J_63 n_98 t228_13 h_249 → Vars h_249 [(b_32, [(Sl.v t154_7)]), (b_1, [(Sl.v t61_1)])] →
  ((decide (t228_13 < (t206_7.n : Int))) = true →
  InB t206_7 t228_13 ∧
  ∃ t231_13 : Int, hcell h_249 (Sl.at t206_7 t228_13 1) = some (VI t231_13) ∧
  ∃ J_64 : Nat → Int → Heap → Prop, (∃ n0 : Nat, J_64 n0 0 h_249) ∧
  ∀ (n_99 : Nat) (t234_13 : Int) (h_250 : Heap), J_64 n_99 t234_13 h_250 → Vars h_250 [(b_32, [(Sl.v t154_7)]), (b_1, [(Sl.v t61_1)])] →
  ((decide (t234_13 < (t206_7.n : Int))) = true →
  InB t206_7 t234_13 ∧
  ∃ t237_13 : Int, hcell h_250 (Sl.at t206_7 t234_13 1) = some (VI t237_13) ∧
  callM P 25 #[(Value.agg #[(Sl.v t154_7)]), (VI t231_13), (VI t237_13)] h_250 fun rv_124 h_251 => ∃ t242_25 : Int, ∃ t242_26 : Bool, rv_124 = (Value.tuple #[(VI t242_25), (VB t242_26)]) ∧ Vars h_251 [(b_32, [(Sl.v t154_7)]), (b_1, [(Sl.v t61_1)])] ∧
  ((!t242_26) = true →
  K (VB false) h_251) ∧
  ((!t242_26) = false →
  ∃ m : Nat, m < n_99 ∧ J_64 m (w64 (t234_13 + 1)) h_251)) ∧
  ((decide (t234_13 < (t206_7.n : Int))) = false →
  ∃ m : Nat, m < n_98 ∧ J_63 m (w64 (t228_13 + 1)) h_250)) ∧
  ((decide (t228_13 < (t206_7.n : Int))) = false →
  ∃ m : Nat, m < n_97 ∧ J_62 m (w64 (count25_7 + (t206_7.n : Int))) (w64 (t202_7 + 1)) h_249))) ∧
  ((decide (0 < t202_7)) = false →
  ∃ J_65 : Nat → Int → Heap → Prop, (∃ n0 : Nat, J_65 n0 0 h_248) ∧
  ∀ (n_102 : Nat) (t228_14 : Int) (h_252 : Heap), J_65 n_102 t228_14 h_252 → Vars h_252 [(b_32, [(Sl.v t154_7)]), (b_1, [(Sl.v t61_1)])] →
  ((decide (t228_14 < (t206_7.n : Int))) = true →
  InB t206_7 t228_14 ∧
  ∃ t231_14 : Int, hcell h_252 (Sl.at t206_7 t228_14 1) = some (VI t231_14) ∧
  ∃ J_66 : Nat → Int → Heap → Prop, (∃ n0 : Nat, J_66 n0 0 h_252) ∧
  ∀ (n_103 : Nat) (t234_14 : Int) (h_253 : Heap), J_66 n_103 t234_14 h_253 → Vars h_253 [(b_32, [(Sl.v t154_7)]), (b_1, [(Sl.v t61_1)])] →
  ((decide (t234_14 < (t206_7.n : Int))) = true →
  InB t206_7 t234_14 ∧
  ∃ t237_14 : Int, hcell h_253 (Sl.at t206_7 t234_14 1) = some (VI t237_14) ∧
  callM P 25 #[(Value.agg #[(Sl.v t154_7)]), (VI t231_14), (VI t237_14)] h_253 fun rv_125 h_254 => ∃ t242_27 : Int, ∃ t242_28 : Bool, rv_125 = (Value.tuple #[(VI t242_27), (VB t242_28)]) ∧ Vars h_254 [(b_32, [(Sl.v t154_7)]), (b_1, [(Sl.v t61_1)])] ∧
  ((!t242_28) = true →
  K (VB false) h_254) ∧
  ((!t242_28) = false →
  ∃ m : Nat, m < n_103 ∧ J_66 m (w64 (t234_14 + 1)) h_254)) ∧
  ((decide (t234_14 < (t206_7.n : Int))) = false →
  ∃ m : Nat, m < n_102 ∧ J_65 m (w64 (t228_14 + 1)) h_253)) ∧
  ((decide (t228_14 < (t206_7.n : Int))) = false →
  ∃ m : Nat, m < n_97 ∧ J_62 m (w64 (count25_7 + (t206_7.n : Int))) (w64 (t202_7 + 1)) h_252))) ∧
  ((decide (t202_7 < (t157_13.n : Int))) = false →
  ((!decide (count25_7 = (t154_7.n : Int))) = true →
  K (VB false) h_248) ∧
  ((!decide (count25_7 = (t154_7.n : Int))) = false →
  ((!(t167_13 == (decide ((t157_13.n : Int) = 1)))) = true →
  K (VB false) h_248) ∧
  ((!(t167_13 == (decide ((t157_13.n : Int) = 1)))) = false →
  J_61  h_248)))) ∧
  (t157_14 = false →
  J_61  h_247)) ∧
  ∀ (h_255 : Heap), J_61  h_255 → Vars h_255 [(b_32, [(Sl.v t154_7)]), (b_1, [(Sl.v t61_1)])] →
  callM P 38 #[(Sl.v more1_1)] h_255 fun rv_126 h_256 => ∃ t264_13 : Sl, ∃ t264_14 : Sl, rv_126 = (Value.tuple #[(Value.agg #[(Sl.v t264_13)]), (Sl.v t264_14)]) ∧ Vars h_256 [(b_32, [(Sl.v t154_7)]), (b_1, [(Sl.v t61_1)])] ∧
  ∀ (b_33 : Nat) (h_258 : Heap), h_256.size ≤ b_33 → Fr (In []) h_256 h_258 → Vars h_258 [(b_33, [(Sl.v t264_13)]), (b_32, [(Sl.v t154_7)]), (b_1, [(Sl.v t61_1)])] →
  callM P 39 #[(Value.agg #[(Sl.v t264_13)]), (Sl.v t264_14)] h_258 fun rv_127 h_259 => ∃ t270_13 : Sl, ∃ t270_14 : Bool, rv_127 = (Value.tuple #[(Value.agg #[(Sl.v t270_13)]), (VB t270_14)]) ∧ Vars h_259 [(b_33, [(Sl.v t264_13)]), (b_32, [(Sl.v t154_7)]), (b_1, [(Sl.v t61_1)])] ∧
  ∀ (b_34 : Nat) (h_261 : Heap), h_259.size ≤ b_34 → Fr (In []) h_259 h_261 → Vars h_261 [(b_34, [(Sl.v t270_13)]), (b_33, [(Sl.v t264_13)]), (b_32, [(Sl.v t154_7)]), (b_1, [(Sl.v t61_1)])] →
  callM P 40 #[(Value.agg #[(Sl.v t264_13)]), (Sl.v t264_14)] h_261 fun rv_128 h_262 => ∃ t276_13 : Sl, ∃ t276_14 : Bool, rv_128 = (Value.tuple #[(Value.agg #[(Sl.v t276_13)]), (VB t276_14)]) ∧ Vars h_262 [(b_34, [(Sl.v t270_13)]), (b_33, [(Sl.v t264_13)]), (b_32, [(Sl.v t154_7)]), (b_1, [(Sl.v t61_1)])] ∧
  ((!(t270_14 == t276_14)) = true →
  ∀ (b_35 : Nat) (h_264 : Heap), h_262.size ≤ b_35 → Fr (In []) h_262 h_264 → Vars h_264 [(b_35, [(Sl.v t276_13)]), (b_34, [(Sl.v t270_13)]), (b_33, [(Sl.v t264_13)]), (b_32, [(Sl.v t154_7)]), (b_1, [(Sl.v t61_1)])] →
  K (VB false) h_264) ∧
  ((!(t270_14 == t276_14)) = false →
  ∀ (b_35 : Nat) (h_264 : Heap), h_262.size ≤ b_35 → Fr (In []) h_262 h_264 → Vars h_264 [(b_35, [(Sl.v t276_13)]), (b_34, [(Sl.v t270_13)]), (b_33, [(Sl.v t264_13)]), (b_32, [(Sl.v t154_7)]), (b_1, [(Sl.v t61_1)])] →
  callM P 41 #[(Value.agg #[(Sl.v t270_13)]), (Value.agg #[(Sl.v t276_13)])] h_264 fun rv_129 h_265 => ∃ t285_7 : Bool, rv_129 = (VB t285_7) ∧ Vars h_265 [(b_35, [(Sl.v t276_13)]), (b_34, [(Sl.v t270_13)]), (b_33, [(Sl.v t264_13)]), (b_32, [(Sl.v t154_7)]), (b_1, [(Sl.v t61_1)])] ∧
  ((!t285_7) = true →
  K (VB false) h_265) ∧
  ((!t285_7) = false →
  ∃ J_67 : Heap → Prop, ((t270_14 = true →
  ∃ J_68 : Nat → Int → Heap → Prop, (∃ n0 : Nat, J_68 n0 0 h_265) ∧
  ∀ (n_107 : Nat) (t292_7 : Int) (h_266 : Heap), J_68 n_107 t292_7 h_266 → Vars h_266 [(b_35, [(Sl.v t276_13)]), (b_34, [(Sl.v t270_13)]), (b_33, [(Sl.v t264_13)]), (b_32, [(Sl.v t154_7)]), (b_1, [(Sl.v t61_1)])] →
  ((decide (t292_7 < (t264_13.n : Int))) = true →
  ∃ J_69 : Nat → Int → Heap → Prop, (∃ n0 : Nat, J_69 n0 0 h_266) ∧
  ∀ (n_108 : Nat) (t298_7 : Int) (h_267 : Heap), J_69 n_108 t298_7 h_267 → Vars h_267 [(b_35, [(Sl.v t276_13)]), (b_34, [(Sl.v t270_13)]), (b_33, [(Sl.v t264_13)]), (b_32, [(Sl.v t154_7)]), (b_1, [(Sl.v t61_1)])] →
  ((decide (t298_7 < (t264_13.n : Int))) = true →
  callM P 25 #[(Value.agg #[(Sl.v t264_13)]), (VI t292_7), (VI t298_7)] h_267 fun rv_130 h_268 => ∃ t305_13 : Int, ∃ t305_14 : Bool, rv_130 = (Value.tuple #[(VI t305_13), (VB t305_14)]) ∧ Vars h_268 [(b_35, [(Sl.v t276_13)]), (b_34, [(Sl.v t270_13)]), (b_33, [(Sl.v t264_13)]), (b_32, [(Sl.v t154_7)]), (b_1, [(Sl.v t61_1)])] ∧
  InB t264_14 t292_7 ∧
  ∃ t313_7 : Int, hcell h_268 (Sl.at t264_14 t292_7 1) = some (VI t313_7) ∧
  InB t264_14 t298_7 ∧
  ∃ t317_7 : Int, hcell h_268 (Sl.at t264_14 t298_7 1) = some (VI t317_7) ∧
  callM P 25 #[(Value.agg #[(Sl.v t270_13)]), (VI t313_7), (VI t317_7)] h_268 fun rv_131 h_269 => ∃ t318_13 : Int, ∃ t318_14 : Bool, rv_131 = (Value.tuple #[(VI t318_13), (VB t318_14)]) ∧ Vars h_269 [(b_35, [(Sl.v t276_13)]), (b_34, [(Sl.v t270_13)]), (b_33, [(Sl.v t264_13)]), (b_32, [(Sl.v t154_7)]), (b_1, [(Sl.v t61_1)])] ∧
  ((!(t305_14 == t318_14)) = true →
  K (VB false) h_269) ∧
  ((!(t305_14 == t318_14)) = false →
  ((!decide (t305_13 = t318_13)) = true →
  K (VB false) h_269) ∧
  ((!decide (t305_13 = t318_13)) = false →
  ∃ m : Nat, m < n_108 ∧ J_69 m (w64 (t298_7 + 1)) h_269))) ∧
  ((decide (t298_7 < (t264_13.n : Int))) = false →
  ∃ m : Nat, m < n_107 ∧ J_68 m (w64 (t292_7 + 1)) h_267)) ∧
  ((decide (t292_7 < (t264_13.n : Int))) = false →
  J_67  h_266)) ∧
  (t270_14 = false →
  J_67  h_265)) ∧
  ∀ (h_270 : Heap), J_67  h_270 → Vars h_270 [(b_35, [(Sl.v t276_13)]), (b_34, [(Sl.v t270_13)]), (b_33, [(Sl.v t264_13)]), (b_32, [(Sl.v t154_7)]), (b_1, [(Sl.v t61_1)])] →
  callM P 42 #[(Sl.v more1_1)] h_270 fun rv_132 h_271 => ∃ t333_13 : Sl, ∃ t333_14 : Int, rv_132 = (Value.tuple #[(Value.agg #[(Sl.v t333_13)]), (VI t333_14)]) ∧ Vars h_271 [(b_35, [(Sl.v t276_13)]), (b_34, [(Sl.v t270_13)]), (b_33, [(Sl.v t264_13)]), (b_32, [(Sl.v t154_7)]), (b_1, [(Sl.v t61_1)])] ∧
  ∀ (b_36 : Nat) (h_273 : Heap), h_271.size ≤ b_36 → Fr (In []) h_271 h_273 → Vars h_273 [(b_36, [(Sl.v t333_13)]), (b_35, [(Sl.v t276_13)]), (b_34, [(Sl.v t270_13)]), (b_33, [(Sl.v t264_13)]), (b_32, [(Sl.v t154_7)]), (b_1, [(Sl.v t61_1)])] →
  callM P 43 #[(Value.agg #[(Sl.v t333_13)]), (VI t333_14)] h_273 fun rv_133 h_274 => ∃ t339_13 : Bool, ∃ t339_14 : Bool, rv_133 = (Value.tuple #[(VB t339_13), (VB t339_14)]) ∧ Vars h_274 [(b_36, [(Sl.v t333_13)]), (b_35, [(Sl.v t276_13)]), (b_34, [(Sl.v t270_13)]), (b_33, [(Sl.v t264_13)]), (b_32, [(Sl.v t154_7)]), (b_1, [(Sl.v t61_1)])] ∧
  callM P 44 #[(Value.agg #[(Sl.v t333_13)]), (VI t333_14)] h_274 fun rv_134 h_275 => ∃ t345_13 : Bool, ∃ t345_14 : Bool, rv_134 = (Value.tuple #[(VB t345_13), (VB t345_14)]) ∧ Vars h_275 [(b_36, [(Sl.v t333_13)]), (b_35, [(Sl.v t276_13)]), (b_34, [(Sl.v t270_13)]), (b_33, [(Sl.v t264_13)]), (b_32, [(Sl.v t154_7)]), (b_1, [(Sl.v t61_1)])] ∧
  ((!(t339_14 == t345_14)) = true →
  K (VB false) h_275) ∧
  ((!(t339_14 == t345_14)) = false →
  ((!(t339_13 == t345_13)) = true →
  K (VB false) h_275) ∧
  ((!(t339_13 == t345_13)) = false →
  (t339_14 = true →
  ∃ J_70 : Nat → Bool → Int → Heap → Prop, (∃ n0 : Nat, J_70 n0 true 0 h_275) ∧
  ∀ (n_111 : Nat) (all52_7 : Bool) (t360_7 : Int) (h_276 : Heap), J_70 n_111 all52_7 t360_7 h_276 → Vars h_276 [(b_36, [(Sl.v t333_13)]), (b_35, [(Sl.v t276_13)]), (b_34, [(Sl.v t270_13)]), (b_33, [(Sl.v t264_13)]), (b_32, [(Sl.v t154_7)]), (b_1, [(Sl.v t61_1)])] →
  ((decide (t360_7 < (t333_13.n : Int))) = true →
  callM P 25 #[(Value.agg #[(Sl.v t333_13)]), (VI t360_7), (VI t333_14)] h_276 fun rv_135 h_277 => ∃ t367_13 : Int, ∃ t367_14 : Bool, rv_135 = (Value.tuple #[(VI t367_13), (VB t367_14)]) ∧ Vars h_277 [(b_36, [(Sl.v t333_13)]), (b_35, [(Sl.v t276_13)]), (b_34, [(Sl.v t270_13)]), (b_33, [(Sl.v t264_13)]), (b_32, [(Sl.v t154_7)]), (b_1, [(Sl.v t61_1)])] ∧
  (all52_7 = true →
  ∃ m : Nat, m < n_111 ∧ J_70 m t367_14 (w64 (t360_7 + 1)) h_277) ∧
  (all52_7 = false →
  ∃ m : Nat, m < n_111 ∧ J_70 m false (w64 (t360_7 + 1)) h_277)) ∧
  ((decide (t360_7 < (t333_13.n : Int))) = false →
  K (VB (all52_7 == t339_13)) h_276)) ∧
  (t339_14 = false →
  K (VB true) h_275)))))))))))))) ∧
  (t69_2 = false →
  callM P 32 #[(Sl.v more1_1)] h_10 fun rv_136 h_278 => ∃ t154_8 : Sl, rv_136 = (Value.agg #[(Sl.v t154_8)]) ∧ Vars h_278 [(b_1, [(Sl.v t61_1)])] ∧
  ∀ (b_37 : Nat) (h_280 : Heap), h_278.size ≤ b_37 → Fr (In []) h_278 h_280 → Vars h_280 [(b_37, [(Sl.v t154_8)]), (b_1, [(Sl.v t61_1)])] →
  callM P 33 #[(Value.agg #[(Sl.v t154_8)])] h_280 fun rv_137 h_281 => ∃ t157_15 : Sl, ∃ t157_16 : Bool, rv_137 = (Value.tuple #[(Sl.v t157_15), (VB t157_16)]) ∧ Vars h_281 [(b_37, [(Sl.v t154_8)]), (b_1, [(Sl.v t61_1)])] ∧
  callM P 34 #[(Value.agg #[(Sl.v t154_8)])] h_281 fun rv_138 h_282 => ∃ t162_15 : Sl, ∃ t162_16 : Bool, rv_138 = (Value.tuple #[(Sl.v t162_15), (VB t162_16)]) ∧ Vars h_282 [(b_37, [(Sl.v t154_8)]), (b_1, [(Sl.v t61_1)])] ∧
  callM P 35 #[(Value.agg #[(Sl.v t154_8)])] h_282 fun rv_139 h_283 => ∃ t167_15 : Bool, ∃ t167_16 : Bool, rv_139 = (Value.tuple #[(VB t167_15), (VB t167_16)]) ∧ Vars h_283 [(b_37, [(Sl.v t154_8)]), (b_1, [(Sl.v t61_1)])] ∧
  callM P 36 #[(Value.agg #[(Sl.v t154_8)])] h_283 fun rv_140 h_284 => ∃ t172_15 : Bool, ∃ t172_16 : Bool, rv_140 = (Value.tuple #[(VB t172_15), (VB t172_16)]) ∧ Vars h_284 [(b_37, [(Sl.v t154_8)]), (b_1, [(Sl.v t61_1)])] ∧
  ((!(t157_16 == t162_16)) = true →
  K (VB false) h_284) ∧
  ((!(t157_16 == t162_16)) = false →
  callM P 37 #[(Sl.v t157_15), (Sl.v t162_15)] h_284 fun rv_141 h_285 => ∃ t181_8 : Bool, rv_141 = (VB t181_8) ∧ Vars h_285 [(b_37, [(Sl.v t154_8)]), (b_1, [(Sl.v t61_1)])] ∧
  ((!t181_8) = true →
  K (VB false) h_285) ∧
  ((!t181_8) = false →
  ((!(t167_16 == t172_16)) = true →
  K (VB false) h_285) ∧
  ((!(t167_16 == t172_16)) = false →
  ((!(t167_15 == t172_15)) = true →
  K (VB false) h_285) ∧
  ((!(t167_15 == t172_15)) = false →
  ((!(t167_16 == t157_16)) = true →
  K (VB false) h_285) ∧
  ((!(t167_16 == t157_16)) = false →
  ∃ J_71 : Heap → Prop, ((t157_16 = true →
  ∃ J_72 : Nat → Int → Int → Heap → Prop, (∃ n0 : Nat, J_72 n0 0 0 h_285) ∧
  ∀ (n_113 : Nat) (count25_8 : Int) (t202_8 : Int) (h_286 : Heap), J_72 n_113 count25_8 t202_8 h_286 → Vars h_286 [(b_37, [(Sl.v t154_8)]), (b_1, [(Sl.v t61_1)])] →
  ((decide (t202_8 < (t157_15.n : Int))) = true →
  InB t157_15 t202_8 ∧
  ∃ t206_8 : Sl, hcell h_286 (Sl.at t157_15 t202_8 1) = some (Sl.v t206_8) ∧
  ((decide (0 < t202_8)) = true →
  InB t157_15 (w64 (t202_8 - 1)) ∧
  ∃ t218_8 : Sl, hcell h_286 (Sl.at t157_15 (w64 (t202_8 - 1)) 1) = some (Sl.v t218_8) ∧
  InB t218_8 0 ∧
  ∃ t220_8 : Int, hcell h_286 (Sl.at t218_8 0 1) = some (VI t220_8) ∧
  InB t206_8 0 ∧
  ∃ t223_8 : Int, hcell h_286 (Sl.at t206_8 0 1) = some (VI t223_8) ∧
  ((decide (t223_8 ≤ t220_8)) = true →
  K (VB false) h_286) ∧
  ((decide (t223_8 ≤ t220_8)) = false →
  ∃ J_73 : Nat → Int → Heap → Prop, (∃ n0 : Nat, J_73 n0 0 h_286) ∧
  ∀ (n_114 : Nat) (t228_15 : Int) (h_287 : Heap), J_73 n_114 t228_15 h_287 → Vars h_287 [(b_37, [(Sl.v t154_8)]), (b_1, [(Sl.v t61_1)])] →
  ((decide (t228_15 < (t206_8.n : Int))) = true →
  InB t206_8 t228_15 ∧
  ∃ t231_15 : Int, hcell h_287 (Sl.at t206_8 t228_15 1) = some (VI t231_15) ∧
  ∃ J_74 : Nat → Int → Heap → Prop, (∃ n0 : Nat, J_74 n0 0 h_287) ∧
  ∀ (n_115 : Nat) (t234_15 : Int) (h_288 : Heap), J_74 n_115 t234_15 h_288 → Vars h_288 [(b_37, [(Sl.v t154_8)]), (b_1, [(Sl.v t61_1)])] →
  ((decide (t234_15 < (t206_8.n : Int))) = true →
  InB t206_8 t234_15 ∧
  ∃ t237_15 : Int, hcell h_288 (Sl.at t206_8 t234_15 1) = some (VI t237_15) ∧
  callM P 25 #[(Value.agg #[(Sl.v t154_8)]), (VI t231_15), (VI t237_15)] h_288 fun rv_142 h_289 => ∃ t242_29 : Int, ∃ t242_30 : Bool, rv_142 = (Value.tuple #[(VI t242_29), (VB t242_30)]) ∧ Vars h_289 [(b_37, [(Sl.v t154_8)]), (b_1, [(Sl.v t61_1)])] ∧
  ((!t242_30) = true →
  K (VB false) h_289) ∧
  ((!t242_30) = false →
  ∃ m : Nat, m < n_115 ∧ J_74 m (w64 (t234_15 + 1)) h_289)) ∧
  ((decide (t234_15 < (t206_8.n : Int))) = false →
  ∃ m : Nat, m < n_114 ∧ J_73 m (w64 (t228_15 + 1)) h_288)) ∧
  ((decide (t228_15 < (t206_8.n : Int))) = false →
  ∃ m : Nat, m < n_113 ∧ J_72 m (w64 (count25_8 + (t206_8.n : Int))) (w64 (t202_8 + 1)) h_287))) ∧
  ((decide (0 < t202_8)) = false →
  ∃ J_75 : Nat → Int → Heap → Prop, (∃ n0 : Nat, J_75 n0 0 h_286) ∧
  ∀ (n_118 : Nat) (t228_16 : Int) (h_290 : Heap), J_75 n_118 t228_16 h_290 → Vars h_290 [(b_37, [(Sl.v t154_8)]), (b_1, [(Sl.v t61_1)])] →
  ((decide (t228_16 < (t206_8.n : Int))) = true →
  InB t206_8 t228_16 ∧
  ∃ t231_16 : Int, hcell h_290 (Sl.at t206_8 t228_16 1) = some (VI t231_16) ∧
  ∃ J_76 : Nat → Int → Heap → Prop, (∃ n0 : Nat, J_76 n0 0 h_290) ∧
  ∀ (n_119 : Nat) (t234_16 : Int) (h_291 : Heap), J_76 n_119 t234_16 h_291 → Vars h_291 [(b_37, [(Sl.v t154_8)]), (b_1, [(Sl.v t61_1)])] →
  ((decide (t234_16 < (t206_8.n : Int))) = true →
  InB t206_8 t234_16 ∧
  ∃ t237_16 : Int, hcell h_291 (Sl.at t206_8 t234_16 1) = some (VI t237_16) ∧
  callM P 25 #[(Value.agg #[(Sl.v t154_8)]), (VI t231_16), (VI t237_16)] h_291 fun rv_143 h_292 => ∃ t242_31 : Int, ∃ t242_32 : Bool, rv_143 = (Value.tuple #[(VI t242_31), (VB t242_32)]) ∧ Vars h_292 [(b_37, [(Sl.v t154_8)]), (b_1, [(Sl.v t61_1)])] ∧
  ((!t242_32) = true →
  K (VB false) h_292) ∧
  ((!t242_32) = false →
  ∃ m : Nat, m < n_119 ∧ J_76 m (w64 (t234_16 + 1)) h_292)) ∧
  ((decide (t234_16 < (t206_8.n : Int))) = false →
  ∃ m : Nat, m < n_118 ∧ J_75 m (w64 (t228_16 + 1)) h_291)) ∧
  ((decide (t228_16 < (t206_8.n : Int))) = false →
  ∃ m : Nat, m < n_113 ∧ J_72 m (w64 (count25_8 + (t206_8.n : Int))) (w64 (t202_8 + 1)) h_290))) ∧
  ((decide (t202_8 < (t157_15.n : Int))) = false →
  ((!decide (count25_8 = (t154_8.n : Int))) = true →
  K (VB false) h_286) ∧
  ((!decide (count25_8 = (t154_8.n : Int))) = false →
  ((!(t167_15 == (decide ((t157_15.n : Int) = 1)))) = true →
  K (VB false) h_286) ∧
  ((!(t167_15 == (decide ((t157_15.n : Int) = 1)))) = false →
  J_71  h_286)))) ∧
  (t157_16 = false →
  J_71  h_285)) ∧
  ∀ (h_293 : Heap), J_71  h_293 → Vars h_293 [(b_37, [(Sl.v t154_8)]), (b_1, [(Sl.v t61_1)])] →
  callM P 38 #[(Sl.v more1_1)] h_293 fun rv_144 h_294 => ∃ t264_15 : Sl, ∃ t264_16 : Sl, rv_144 = (Value.tuple #[(Value.agg #[(Sl.v t264_15)]), (Sl.v t264_16)]) ∧ Vars h_294 [(b_37, [(Sl.v t154_8)]), (b_1, [(Sl.v t61_1)])] ∧
  ∀ (b_38 : Nat) (h_296 : Heap), h_294.size ≤ b_38 → Fr (In []) h_294 h_296 → Vars h_296 [(b_38, [(Sl.v t264_15)]), (b_37, [(Sl.v t154_8)]), (b_1, [(Sl.v t61_1)])] →
  callM P 39 #[(Value.agg #[(Sl.v t264_15)]), (Sl.v t264_16)] h_296 fun rv_145 h_297 => ∃ t270_15 : Sl, ∃ t270_16 : Bool, rv_145 = (Value.tuple #[(Value.agg #[(Sl.v t270_15)]), (VB t270_16)]) ∧ Vars h_297 [(b_38, [(Sl.v t264_15)]), (b_37, [(Sl.v t154_8)]), (b_1, [(Sl.v t61_1)])] ∧
  ∀ (b_39 : Nat) (h_299 : Heap), h_297.size ≤ b_39 → Fr (In []) h_297 h_299 → Vars h_299 [(b_39, [(Sl.v t270_15)]), (b_38, [(Sl.v t264_15)]), (b_37, [(Sl.v t154_8)]), (b_1, [(Sl.v t61_1)])] →
  callM P 40 #[(Value.agg #[(Sl.v t264_15)]), (Sl.v t264_16)] h_299 fun rv_146 h_300 => ∃ t276_15 : Sl, ∃ t276_16 : Bool, rv_146 = (Value.tuple #[(Value.agg #[(Sl.v t276_15)]), (VB t276_16)]) ∧ Vars h_300 [(b_39, [(Sl.v t270_15)]), (b_38, [(Sl.v t264_15)]), (b_37, [(Sl.v t154_8)]), (b_1, [(Sl.v t61_1)])] ∧
  ((!(t270_16 == t276_16)) = true →
  ∀ (b_40 : Nat) (h_302 : Heap), h_300.size ≤ b_40 → Fr (In []) h_300 h_302 → Vars h_302 [(b_40, [(Sl.v t276_15)]), (b_39, [(Sl.v t270_15)]), (b_38, [(Sl.v t264_15)]), (b_37, [(Sl.v t154_8)]), (b_1, [(Sl.v t61_1)])] →
  K (VB false) h_302) ∧
  ((!(t270_16 == t276_16)) = false →
  ∀ (b_40 : Nat) (h_302 : Heap), h_300.size ≤ b_40 → Fr (In []) h_300 h_302 → Vars h_302 [(b_40, [(Sl.v t276_15)]), (b_39, [(Sl.v t270_15)]), (b_38, [(Sl.v t264_15)]), (b_37, [(Sl.v t154_8)]), (b_1, [(Sl.v t61_1)])] →
  callM P 41 #[(Value.agg #[(Sl.v t270_15)]), (Value.agg #[(Sl.v t276_15)])] h_302 fun rv_147 h_303 => ∃ t285_8 : Bool, rv_147 = (VB t285_8) ∧ Vars h_303 [(b_40, [(Sl.v t276_15)]), (b_39, [(Sl.v t270_15)]), (b_38, [(Sl.v t264_15)]), (b_37, [(Sl.v t154_8)]), (b_1, [(Sl.v t61_1)])] ∧
  ((!t285_8) = true →
  K (VB false) h_303) ∧
  ((!t285_8) = false →
  ∃ J_77 : Heap → Prop, ((t270_16 = true →
  ∃ J_78 : Nat → Int → Heap → Prop, (∃ n0 : Nat, J_78 n0 0 h_303) ∧
  ∀ (n_123 : Nat) (t292_8 : Int) (h_304 : Heap), J_78 n_123 t292_8 h_304 → Vars h_304 [(b_40, [(Sl.v t276_15)]), (b_39, [(Sl.v t270_15)]), (b_38, [(Sl.v t264_15)]), (b_37, [(Sl.v t154_8)]), (b_1, [(Sl.v t61_1)])] →
  ((decide (t292_8 < (t264_15.n : Int))) = true →
  ∃ J_79 : Nat → Int → Heap → Prop, (∃ n0 : Nat, J_79 n0 0 h_304) ∧
  ∀ (n_124 : Nat) (t298_8 : Int) (h_305 : Heap), J_79 n_124 t298_8 h_305 → Vars h_305 [(b_40, [(Sl.v t276_15)]), (b_39, [(Sl.v t270_15)]), (b_38, [(Sl.v t264_15)]), (b_37, [(Sl.v t154_8)]), (b_1, [(Sl.v t61_1)])] →
  ((decide (t298_8 < (t264_15.n : Int))) = true →
  callM P 25 #[(Value.agg #[(Sl.v t264_15)]), (VI t292_8), (VI t298_8)] h_305 fun rv_148 h_306 => ∃ t305_15 : Int, ∃ t305_16 : Bool, rv_148 = (Value.tuple #[(VI t305_15), (VB t305_16)]) ∧ Vars h_306 [(b_40, [(Sl.v t276_15)]), (b_39, [(Sl.v t270_15)]), (b_38, [(Sl.v t264_15)]), (b_37, [(Sl.v t154_8)]), (b_1, [(Sl.v t61_1)])] ∧
  InB t264_16 t292_8 ∧
  ∃ t313_8 : Int, hcell h_306 (Sl.at t264_16 t292_8 1) = some (VI t313_8) ∧
  InB t264_16 t298_8 ∧
  ∃ t317_8 : Int, hcell h_306 (Sl.at t264_16 t298_8 1) = some (VI t317_8) ∧
  callM P 25 #[(Value.agg #[(Sl.v t270_15)]), (VI t313_8), (VI t317_8)] h_306 fun rv_149 h_307 => ∃ t318_15 : Int, ∃ t318_16 : Bool, rv_149 = (Value.tuple #[(VI t318_15), (VB t318_16)]) ∧ Vars h_307 [(b_40, [(Sl.v t276_15)]), (b_39, [(Sl.v t270_15)]), (b_38, [(Sl.v t264_15)]), (b_37, [(Sl.v t154_8)]), (b_1, [(Sl.v t61_1)])] ∧
  ((!(t305_16 == t318_16)) = true →
  K (VB false) h_307) ∧
  ((!(t305_16 == t318_16)) = false →
  ((!decide (t305_15 = t318_15)) = true →
  K (VB false) h_307) ∧
  ((!decide (t305_15 = t318_15)) = false →
  ∃ m : Nat, m < n_124 ∧ J_79 m (w64 (t298_8 + 1)) h_307))) ∧
  ((decide (t298_8 < (t264_15.n : Int))) = false →
  ∃ m : Nat, m < n_123 ∧ J_78 m (w64 (t292_8 + 1)) h_305)) ∧
  ((decide (t292_8 < (t264_15.n : Int))) = false →
  J_77  h_304)) ∧
  (t270_16 = false →
  J_77  h_303)) ∧
  ∀ (h_308 : Heap), J_77  h_308 → Vars h_308 [(b_40, [(Sl.v t276_15)]), (b_39, [(Sl.v t270_15)]), (b_38, [(Sl.v t264_15)]), (b_37, [(Sl.v t154_8)]), (b_1, [(Sl.v t61_1)])] →
  callM P 42 #[(Sl.v more1_1)] h_308 fun rv_150 h_309 => ∃ t333_15 : Sl, ∃ t333_16 : Int, rv_150 = (Value.tuple #[(Value.agg #[(Sl.v t333_15)]), (VI t333_16)]) ∧ Vars h_309 [(b_40, [(Sl.v t276_15)]), (b_39, [(Sl.v t270_15)]), (b_38, [(Sl.v t264_15)]), (b_37, [(Sl.v t154_8)]), (b_1, [(Sl.v t61_1)])] ∧
  ∀ (b_41 : Nat) (h_311 : Heap), h_309.size ≤ b_41 → Fr (In []) h_309 h_311 → Vars h_311 [(b_41, [(Sl.v t333_15)]), (b_40, [(Sl.v t276_15)]), (b_39, [(Sl.v t270_15)]), (b_38, [(Sl.v t264_15)]), (b_37, [(Sl.v t154_8)]), (b_1, [(Sl.v t61_1)])] →
  callM P 43 #[(Value.agg #[(Sl.v t333_15)]), (VI t333_16)] h_311 fun rv_151 h_312 => ∃ t339_15 : Bool, ∃ t339_16 : Bool, rv_151 = (Value.tuple #[(VB t339_15), (VB t339_16)]) ∧ Vars h_312 [(b_41, [(Sl.v t333_15)]), (b_40, [(Sl.v t276_15)]), (b_39, [(Sl.v t270_15)]), (b_38, [(Sl.v t264_15)]), (b_37, [(Sl.v t154_8)]), (b_1, [(Sl.v t61_1)])] ∧
  callM P 44 #[(Value.agg #[(Sl.v t333_15)]), (VI t333_16)] h_312 fun rv_152 h_313 => ∃ t345_15 : Bool, ∃ t345_16 : Bool, rv_152 = (Value.tuple #[(VB t345_15), (VB t345_16)]) ∧ Vars h_313 [(b_41, [(Sl.v t333_15)]), (b_40, [(Sl.v t276_15)]), (b_39, [(Sl.v t270_15)]), (b_38, [(Sl.v t264_15)]), (b_37, [(Sl.v t154_8)]), (b_1, [(Sl.v t61_1)])] ∧
  ((!(t339_16 == t345_16)) = true →
  K (VB false) h_313) ∧
  ((!(t339_16 == t345_16)) = false →
  ((!(t339_15 == t345_15)) = true →
  K (VB false) h_313) ∧
  ((!(t339_15 == t345_15)) = false →
  (t339_16 = true →
  ∃ J_80 : Nat → Bool → Int → Heap → Prop, (∃ n0 : Nat, J_80 n0 true 0 h_313) ∧
  ∀ (n_127 : Nat) (all52_8 : Bool) (t360_8 : Int) (h_314 : Heap), J_80 n_127 all52_8 t360_8 h_314 → Vars h_314 [(b_41, [(Sl.v t333_15)]), (b_40, [(Sl.v t276_15)]), (b_39, [(Sl.v t270_15)]), (b_38, [(Sl.v t264_15)]), (b_37, [(Sl.v t154_8)]), (b_1, [(Sl.v t61_1)])] →
  ((decide (t360_8 < (t333_15.n : Int))) = true →
  callM P 25 #[(Value.agg #[(Sl.v t333_15)]), (VI t360_8), (VI t333_16)] h_314 fun rv_153 h_315 => ∃ t367_15 : Int, ∃ t367_16 : Bool, rv_153 = (Value.tuple #[(VI t367_15), (VB t367_16)]) ∧ Vars h_315 [(b_41, [(Sl.v t333_15)]), (b_40, [(Sl.v t276_15)]), (b_39, [(Sl.v t270_15)]), (b_38, [(Sl.v t264_15)]), (b_37, [(Sl.v t154_8)]), (b_1, [(Sl.v t61_1)])] ∧
  (all52_8 = true →
  ∃ m : Nat, m < n_127 ∧ J_80 m t367_16 (w64 (t360_8 + 1)) h_315) ∧
  (all52_8 = false →
  ∃ m : Nat, m < n_127 ∧ J_80 m false (w64 (t360_8 + 1)) h_315)) ∧
  ((decide (t360_8 < (t333_15.n : Int))) = false →
  K (VB (all52_8 == t339_15)) h_314)) ∧
  (t339_16 = false →
  K (VB true) h_313))))))))))))) ∧
  (t82_2 = false →
  (t69_2 = true →
  ((decide (t69_1 < 0)) = true →
  K (VB false) h_9) ∧
  ((decide (t69_1 < 0)) = false →
  ((decide ((t61_1.n : Int) ≤ t69_1)) = true →
  K (VB false) h_9) ∧
  ((decide ((t61_1.n : Int) ≤ t69_1)) = false →
  ((!((decide (t69_1 = 0)) == (decide (t61_2 = t61_3)))) = true →
  K (VB false) h_9) ∧
  ((!((decide (t69_1 = 0)) == (decide (t61_2 = t61_3)))) = false →
  callM P 32 #[(Sl.v more1_1)] h_9 fun rv_154 h_316 => ∃ t154_9 : Sl, rv_154 = (Value.agg #[(Sl.v t154_9)]) ∧ Vars h_316 [(b_1, [(Sl.v t61_1)])] ∧
  ∀ (b_42 : Nat) (h_318 : Heap), h_316.size ≤ b_42 → Fr (In []) h_316 h_318 → Vars h_318 [(b_42, [(Sl.v t154_9)]), (b_1, [(Sl.v t61_1)])] →
  callM P 33 #[(Value.agg #[(Sl.v t154_9)])] h_318 fun rv_155 h_319 => ∃ t157_17 : Sl, ∃ t157_18 : Bool, rv_155 = (Value.tuple #[(Sl.v t157_17), (VB t157_18)]) ∧ Vars h_319 [(b_42, [(Sl.v t154_9)]), (b_1, [(Sl.v t61_1)])] ∧
  callM P 34 #[(Value.agg #[(Sl.v t154_9)])] h_319 fun rv_156 h_320 => ∃ t162_17 : Sl, ∃ t162_18 : Bool, rv_156 = (Value.tuple #[(Sl.v t162_17), (VB t162_18)]) ∧ Vars h_320 [(b_42, [(Sl.v t154_9)]), (b_1, [(Sl.v t61_1)])] ∧
  callM P 35 #[(Value.agg #[(Sl.v t154_9)])] h_320 fun rv_157 h_321 => ∃ t167_17 : Bool, ∃ t167_18 : Bool, rv_157 = (Value.tuple #[(VB t167_17), (VB t167_18)]) ∧ Vars h_321 [(b_42, [(Sl.v t154_9)]), (b_1, [(Sl.v t61_1)])] ∧
  callM P 36 #[(Value.agg #[(Sl.v t154_9)])] h_321 fun rv_158 h_322 => ∃ t172_17 : Bool, ∃ t172_18 : Bool, rv_158 = (Value.tuple #[(VB t172_17), (VB t172_18)]) ∧ Vars h_322 [(b_42, [(Sl.v t154_9)]), (b_1, [(Sl.v t61_1)])] ∧
  ((!(t157_18 == t162_18)) = true →
  K (VB false) h_322) ∧
  ((!(t157_18 == t162_18)) = false →
  callM P 37 #[(Sl.v t157_17), (Sl.v t162_17)] h_322 fun rv_159 h_323 => ∃ t181_9 : Bool, rv_159 = (VB t181_9) ∧ Vars h_323 [(b_42, [(Sl.v t154_9)]), (b_1, [(Sl.v t61_1)])] ∧
  ((!t181_9) = true →
  K (VB false) h_323) ∧
  ((!t181_9) = false →
  ((!(t167_18 == t172_18)) = true →
  K (VB false) h_323) ∧
  ((!(t167_18 == t172_18)) = false →
  ((!(t167_17 == t172_17)) = true →
  K (VB false) h_323) ∧
  ((!(t167_17 == t172_17)) = false →
  ((!(t167_18 == t157_18)) = true →
  K (VB false) h_323) ∧
  ((!(t167_18 == t157_18)) = false →
  ∃ J_81 : Heap → Prop, ((t157_18 = true →
  ∃ J_82 : Nat → Int → Int → Heap → Prop, (∃ n0 : Nat, J_82 n0 0 0 h_323) ∧
  ∀ (n_129 : Nat) (count25_9 : Int) (t202_9 : Int) (h_324 : Heap), J_82 n_129 count25_9 t202_9 h_324 → Vars h_324 [(b_42, [(Sl.v t154_9)]), (b_1, [(Sl.v t61_1)])] →
  ((decide (t202_9 < (t157_17.n : Int))) = true →
  InB t157_17 t202_9 ∧
  ∃ t206_9 : Sl, hcell h_324 (Sl.at t157_17 t202_9 1) = some (Sl.v t206_9) ∧
  ((decide (0 < t202_9)) = true →
  InB t157_17 (w64 (t202_9 - 1)) ∧
  ∃ t218_9 : Sl, hcell h_324 (Sl.at t157_17 (w64 (t202_9 - 1)) 1) = some (Sl.v t218_9) ∧
  InB t218_9 0 ∧
  ∃ t220_9 : Int, hcell h_324 (Sl.at t218_9 0 1) = some (VI t220_9) ∧
  InB t206_9 0 ∧
  ∃ t223_9 : Int, hcell h_324 (Sl.at t206_9 0 1) = some (VI t223_9) ∧
  ((decide (t223_9 ≤ t220_9)) = true →
  K (VB false) h_324) ∧
  ((decide (t223_9 ≤ t220_9)) = false →
  ∃ J_83 : Nat → Int → Heap → Prop, (∃ n0 : Nat, J_83 n0 0 h_324) ∧
  ∀ (n_130 : Nat) (t228_17 : Int) (h_325 : Heap), J_83 n_130 t228_17 h_325 → Vars h_325 [(b_42, [(Sl.v t154_9)]), (b_1, [(Sl.v t61_1)])] →
  ((decide (t228_17 < (t206_9.n : Int))) = true →
  InB t206_9 t228_17 ∧
  ∃ t231_17 : Int, hcell h_325 (Sl.at t206_9 t228_17 1) = some (VI t231_17) ∧
  ∃ J_84 : Nat → Int → Heap → Prop, (∃ n0 : Nat, J_84 n0 0 h_325) ∧
  ∀ (n_131 : Nat) (t234_17 : Int) (h_326 : Heap), J_84 n_131 t234_17 h_326 → Vars h_326 [(b_42, [(Sl.v t154_9)]), (b_1, [(Sl.v t61_1)])] →
  ((decide (t234_17 < (t206_9.n : Int))) = true →
  InB t206_9 t234_17 ∧
  ∃ t237_17 : Int, hcell h_326 (Sl.at t206_9 t234_17 1) = some (VI t237_17) ∧
  callM P 25 #[(Value.agg #[(Sl.v t154_9)]), (VI t231_17), (VI t237_17)] h_326 fun rv_160 h_327 => ∃ t242_33 : Int, ∃ t242_34 : Bool, rv_160 = (Value.tuple #[(VI t242_33), (VB t242_34)]) ∧ Vars h_327 [(b_42, [(Sl.v t154_9)]), (b_1, [(Sl.v t61_1)])] ∧
  ((!t242_34) = true →
  K (VB false) h_327) ∧
  ((!t242_34) = false →
  ∃ m : Nat, m < n_131 ∧ J_84 m (w64 (t234_17 + 1)) h_327)) ∧
  ((decide (t234_17 < (t206_9.n : Int))) = false →
  ∃ m : Nat, m < n_130 ∧ J_83 m (w64 (t228_17 + 1)) h_326)) ∧
  ((decide (t228_17 < (t206_9.n : Int))) = false →
  ∃ m : Nat, m < n_129 ∧ J_82 m (w64 (count25_9 + (t206_9.n : Int))) (w64 (t202_9 + 1)) h_325))) ∧
  ((decide (0 < t202_9)) = false →
  ∃ J_85 : Nat → Int → Heap → Prop, (∃ n0 : Nat, J_85 n0 0 h_324) ∧
  ∀ (n_134 : Nat) (t228_18 : Int) (h_328 : Heap), J_85 n_134 t228_18 h_328 → Vars h_328 [(b_42, [(Sl.v t154_9)]), (b_1, [(Sl.v t61_1)])] →
  ((decide (t228_18 < (t206_9.n : Int))) = true →
  InB t206_9 t228_18 ∧
  ∃ t231_18 : Int, hcell h_328 (Sl.at t206_9 t228_18 1) = some (VI t231_18) ∧
  ∃ J_86 : Nat → Int → Heap → Prop, (∃ n0 : Nat, J_86 n0 0 h_328) ∧
  ∀ (n_135 : Nat) (t234_18 : Int) (h_329 : Heap), J_86 n_135 t234_18 h_329 → Vars h_329 [(b_42, [(Sl.v t154_9)]), (b_1, [(Sl.v t61_1)])] →
  ((decide (t234_18 < (t206_9.n : Int))) = true →
  InB t206_9 t234_18 ∧
  ∃ t237_18 : Int, hcell h_329 (Sl.at t206_9 t234_18 1) = some (VI t237_18) ∧
  callM P 25 #[(Value.agg #[(Sl.v t154_9)]), (VI t231_18), (VI t237_18)] h_329 fun rv_161 h_330 => ∃ t242_35 : Int, ∃ t242_36 : Bool, rv_161 = (Value.tuple #[(VI t242_35), (VB t242_36)]) ∧ Vars h_330 [(b_42, [(Sl.v t154_9)]), (b_1, [(Sl.v t61_1)])] ∧
  ((!t242_36) = true →
  K (VB false) h_330) ∧
  ((!t242_36) = false →
  ∃ m : Nat, m < n_135 ∧ J_86 m (w64 (t234_18 + 1)) h_330)) ∧
  ((decide (t234_18 < (t206_9.n : Int))) = false →
  ∃ m : Nat, m < n_134 ∧ J_85 m (w64 (t228_18 + 1)) h_329)) ∧
  ((decide (t228_18 < (t206_9.n : Int))) = false →
  ∃ m : Nat, m < n_129 ∧ J_82 m (w64 (count25_9 + (t206_9.n : Int))) (w64 (t202_9 + 1)) h_328))) ∧
  ((decide (t202_9 < (t157_17.n : Int))) = false →
  ((!decide (count25_9 = (t154_9.n : Int))) = true →
  K (VB false) h_324) ∧
  ((!decide (count25_9 = (t154_9.n : Int))) = false →
  ((!(t167_17 == (decide ((t157_17.n : Int) = 1)))) = true →
  K (VB false) h_324) ∧
  ((!(t167_17 == (decide ((t157_17.n : Int) = 1)))) = false →
  J_81  h_324)))) ∧
  (t157_18 = false →
  J_81  h_323)) ∧
  ∀ (h_331 : Heap), J_81  h_331 → Vars h_331 [(b_42, [(Sl.v t154_9)]), (b_1, [(Sl.v t61_1)])] →
  callM P 38 #[(Sl.v more1_1)] h_331 fun rv_162 h_332 => ∃ t264_17 : Sl, ∃ t264_18 : Sl, rv_162 = (Value.tuple #[(Value.agg #[(Sl.v t264_17)]), (Sl.v t264_18)]) ∧ Vars h_332 [(b_42, [(Sl.v t154_9)]), (b_1, [(Sl.v t61_1)])] ∧
  ∀ (b_43 : Nat) (h_334 : Heap), h_332.size ≤ b_43 → Fr (In []) h_332 h_334 → Vars h_334 [(b_43, [(Sl.v t264_17)]), (b_42, [(Sl.v t154_9)]), (b_1, [(Sl.v t61_1)])] →
  callM P 39 #[(Value.agg #[(Sl.v t264_17)]), (Sl.v t264_18)] h_334 fun rv_163 h_335 => ∃ t270_17 : Sl, ∃ t270_18 : Bool, rv_163 = (Value.tuple #[(Value.agg #[(Sl.v t270_17)]), (VB t270_18)]) ∧ Vars h_335 [(b_43, [(Sl.v t264_17)]), (b_42, [(Sl.v t154_9)]), (b_1, [(Sl.v t61_1)])] ∧
  ∀ (b_44 : Nat) (h_337 : Heap), h_335.size ≤ b_44 → Fr (In []) h_335 h_337 → Vars h_337 [(b_44, [(Sl.v t270_17)]), (b_43, [(Sl.v t264_17)]), (b_42, [(Sl.v t154_9)]), (b_1, [(Sl.v t61_1)])] →
  callM P 40 #[(Value.agg #[(Sl.v t264_17)]), (Sl.v t264_18)] h_337 fun rv_164 h_338 => ∃ t276_17 : Sl, ∃ t276_18 : Bool, rv_164 = (Value.tuple #[(Value.agg #[(Sl.v t276_17)]), (VB t276_18)]) ∧ Vars h_338 [(b_44, [(Sl.v t270_17)]), (b_43, [(Sl.v t264_17)]), (b_42, [(Sl.v t154_9)]), (b_1, [(Sl.v t61_1)])] ∧
  ((!(t270_18 == t276_18)) = true →
  ∀ (b_45 : Nat) (h_340 : Heap), h_338.size ≤ b_45 → Fr (In []) h_338 h_340 → Vars h_340 [(b_45, [(Sl.v t276_17)]), (b_44, [(Sl.v t270_17)]), (b_43, [(Sl.v t264_17)]), (b_42, [(Sl.v t154_9)]), (b_1, [(Sl.v t61_1)])] →
  K (VB false) h_340) ∧
  ((!(t270_18 == t276_18)) = false →
  ∀ (b_45 : Nat) (h_340 : Heap), h_338.size ≤ b_45 → Fr (In []) h_338 h_340 → Vars h_340 [(b_45, [(Sl.v t276_17)]), (b_44, [(Sl.v t270_17)]), (b_43, [(Sl.v t264_17)]), (b_42, [(Sl.v t154_9)]), (b_1, [(Sl.v t61_1)])] →
  callM P 41 #[(Value.agg #[(Sl.v t270_17)]), (Value.agg #[(Sl.v t276_17)])] h_340 fun rv_165 h_341 => ∃ t285_9 : Bool, rv_165 = (VB t285_9) ∧ Vars h_341 [(b_45, [(Sl.v t276_17)]), (b_44, [(Sl.v t270_17)]), (b_43, [(Sl.v t264_17)]), (b_42, [(Sl.v t154_9)]), (b_1, [(Sl.v t61_1)])] ∧
  ((!t285_9) = true →
  K (VB false) h_341) ∧
  ((!t285_9) = false →
  ∃ J_87 : Heap → Prop, ((t270_18 = true →
  ∃ J_88 : Nat → Int → Heap → Prop, (∃ n0 : Nat, J_88 n0 0 h_341) ∧
  ∀ (n_139 : Nat) (t292_9 : Int) (h_342 : Heap), J_88 n_139 t292_9 h_342 → Vars h_342 [(b_45, [(Sl.v t276_17)]), (b_44, [(Sl.v t270_17)]), (b_43, [(Sl.v t264_17)]), (b_42, [(Sl.v t154_9)]), (b_1, [(Sl.v t61_1)])] →
  ((decide (t292_9 < (t264_17.n : Int))) = true →
  ∃ J_89 : Nat → Int → Heap → Prop, (∃ n0 : Nat, J_89 n0 0 h_342) ∧
  ∀ (n_140 : Nat) (t298_9 : Int) (h_343 : Heap), J_89 n_140 t298_9 h_343 → Vars h_343 [(b_45, [(Sl.v t276_17)]), (b_44, [(Sl.v t270_17)]), (b_43, [(Sl.v t264_17)]), (b_42, [(Sl.v t154_9)]), (b_1, [(Sl.v t61_1)])] →
  ((decide (t298_9 < (t264_17.n : Int))) = true →
  callM P 25 #[(Value.agg #[(Sl.v t264_17)]), (VI t292_9), (VI t298_9)] h_343 fun rv_166 h_344 => ∃ t305_17 : Int, ∃ t305_18 : Bool, rv_166 = (Value.tuple #[(VI t305_17), (VB t305_18)]) ∧ Vars h_344 [(b_45, [(Sl.v t276_17)]), (b_44, [(Sl.v t270_17)]), (b_43, [(Sl.v t264_17)]), (b_42, [(Sl.v t154_9)]), (b_1, [(Sl.v t61_1)])] ∧
  InB t264_18 t292_9 ∧
  ∃ t313_9 : Int, hcell h_344 (Sl.at t264_18 t292_9 1) = some (VI t313_9) ∧
  InB t264_18 t298_9 ∧
  ∃ t317_9 : Int, hcell h_344 (Sl.at t264_18 t298_9 1) = some (VI t317_9) ∧
  callM P 25 #[(Value.agg #[(Sl.v t270_17)]), (VI t313_9), (VI t317_9)] h_344 fun rv_167 h_345 => ∃ t318_17 : Int, ∃ t318_18 : Bool, rv_167 = (Value.tuple #[(VI t318_17), (VB t318_18)]) ∧ Vars h_345 [(b_45, [(Sl.v t276_17)]), (b_44, [(Sl.v t270_17)]), (b_43, [(Sl.v t264_17)]), (b_42, [(Sl.v t154_9)]), (b_1, [(Sl.v t61_1)])] ∧
  ((!(t305_18 == t318_18)) = true →
  K (VB false) h_345) ∧
  ((!(t305_18 == t318_18)) = false →
  ((!decide (t305_17 = t318_17)) = true →
  K (VB false) h_345) ∧
  ((!decide (t305_17 = t318_17)) = false →
  ∃ m : Nat, m < n_140 ∧ J_89 m (w64 (t298_9 + 1)) h_345))) ∧
  ((decide (t298_9 < (t264_17.n : Int))) = false →
  ∃ m : Nat, m < n_139 ∧ J_88 m (w64 (t292_9 + 1)) h_343)) ∧
  ((decide (t292_9 < (t264_17.n : Int))) = false →
  J_87  h_342)) ∧
  (t270_18 = false →
  J_87  h_341)) ∧
  ∀ (h_346 : Heap), J_87  h_346 → Vars h_346 [(b_45, [(Sl.v t276_17)]), (b_44, [(Sl.v t270_17)]), (b_43, [(Sl.v t264_17)]), (b_42, [(Sl.v t154_9)]), (b_1, [(Sl.v t61_1)])] →
  callM P 42 #[(Sl.v more1_1)] h_346 fun rv_168 h_347 => ∃ t333_17 : Sl, ∃ t333_18 : Int, rv_168 = (Value.tuple #[(Value.agg #[(Sl.v t333_17)]), (VI t333_18)]) ∧ Vars h_347 [(b_45, [(Sl.v t276_17)]), (b_44, [(Sl.v t270_17)]), (b_43, [(Sl.v t264_17)]), (b_42, [(Sl.v t154_9)]), (b_1, [(Sl.v t61_1)])] ∧
  ∀ (b_46 : Nat) (h_349 : Heap), h_347.size ≤ b_46 → Fr (In []) h_347 h_349 → Vars h_349 [(b_46, [(Sl.v t333_17)]), (b_45, [(Sl.v t276_17)]), (b_44, [(Sl.v t270_17)]), (b_43, [(Sl.v t264_17)]), (b_42, [(Sl.v t154_9)]), (b_1, [(Sl.v t61_1)])] →
  callM P 43 #[(Value.agg #[(Sl.v t333_17)]), (VI t333_18)] h_349 fun rv_169 h_350 => ∃ t339_17 : Bool, ∃ t339_18 : Bool, rv_169 = (Value.tuple #[(VB t339_17), (VB t339_18)]) ∧ Vars h_350 [(b_46, [(Sl.v t333_17)]), (b_45, [(Sl.v t276_17)]), (b_44, [(Sl.v t270_17)]), (b_43, [(Sl.v t264_17)]), (b_42, [(Sl.v t154_9)]), (b_1, [(Sl.v t61_1)])] ∧
  callM P 44 #[(Value.agg #[(Sl.v t333_17)]), (VI t333_18)] h_350 fun rv_170 h_351 => ∃ t345_17 : Bool, ∃ t345_18 : Bool, rv_170 = (Value.tuple #[(VB t345_17), (VB t345_18)]) ∧ Vars h_351 [(b_46, [(Sl.v t333_17)]), (b_45, [(Sl.v t276_17)]), (b_44, [(Sl.v t270_17)]), (b_43, [(Sl.v t264_17)]), (b_42, [(Sl.v t154_9)]), (b_1, [(Sl.v t61_1)])] ∧
  ((!(t339_18 == t345_18)) = true →
  K (VB false) h_351) ∧
  ((!(t339_18 == t345_18)) = false →
  ((!(t339_17 == t345_17)) = true →
  K (VB false) h_351) ∧
  ((!(t339_17 == t345_17)) = false →
  (t339_18 = true →
  ∃ J_90 : Nat → Bool → Int → Heap → Prop, (∃ n0 : Nat, J_90 n0 true 0 h_351) ∧
  ∀ (n_143 : Nat) (all52_9 : Bool) (t360_9 : Int) (h_352 : Heap), J_90 n_143 all52_9 t360_9 h_352 → Vars h_352 [(b_46, [(Sl.v t333_17)]), (b_45, [(Sl.v t276_17)]), (b_44, [(Sl.v t270_17)]), (b_43, [(Sl.v t264_17)]), (b_42, [(Sl.v t154_9)]), (b_1, [(Sl.v t61_1)])] →
  ((decide (t360_9 < (t333_17.n : Int))) = true →
  callM P 25 #[(Value.agg #[(Sl.v t333_17)]), (VI t360_9), (VI t333_18)] h_352 fun rv_171 h_353 => ∃ t367_17 : Int, ∃ t367_18 : Bool, rv_171 = (Value.tuple #[(VI t367_17), (VB t367_18)]) ∧ Vars h_353 [(b_46, [(Sl.v t333_17)]), (b_45, [(Sl.v t276_17)]), (b_44, [(Sl.v t270_17)]), (b_43, [(Sl.v t264_17)]), (b_42, [(Sl.v t154_9)]), (b_1, [(Sl.v t61_1)])] ∧
  (all52_9 = true →
  ∃ m : Nat, m < n_143 ∧ J_90 m t367_18 (w64 (t360_9 + 1)) h_353) ∧
  (all52_9 = false →
  ∃ m : Nat, m < n_143 ∧ J_90 m false (w64 (t360_9 + 1)) h_353)) ∧
  ((decide (t360_9 < (t333_17.n : Int))) = false →
  K (VB (all52_9 == t339_17)) h_352)) ∧
  (t339_18 = false →
  K (VB true) h_351)))))))))))))) ∧
  (t69_2 = false →
  callM P 32 #[(Sl.v more1_1)] h_9 fun rv_172 h_354 => ∃ t154_10 : Sl, rv_172 = (Value.agg #[(Sl.v t154_10)]) ∧ Vars h_354 [(b_1, [(Sl.v t61_1)])] ∧
  ∀ (b_47 : Nat) (h_356 : Heap), h_354.size ≤ b_47 → Fr (In []) h_354 h_356 → Vars h_356 [(b_47, [(Sl.v t154_10)]), (b_1, [(Sl.v t61_1)])] →
  callM P 33 #[(Value.agg #[(Sl.v t154_10)])] h_356 fun rv_173 h_357 => ∃ t157_19 : Sl, ∃ t157_20 : Bool, rv_173 = (Value.tuple #[(Sl.v t157_19), (VB t157_20)]) ∧ Vars h_357 [(b_47, [(Sl.v t154_10)]), (b_1, [(Sl.v t61_1)])] ∧
  callM P 34 #[(Value.agg #[(Sl.v t154_10)])] h_357 fun rv_174 h_358 => ∃ t162_19 : Sl, ∃ t162_20 : Bool, rv_174 = (Value.tuple #[(Sl.v t162_19), (VB t162_20)]) ∧ Vars h_358 [(b_47, [(Sl.v t154_10)]), (b_1, [(Sl.v t61_1)])] ∧
  callM P 35 #[(Value.agg #[(Sl.v t154_10)])] h_358 fun rv_175 h_359 => ∃ t167_19 : Bool, ∃ t167_20 : Bool, rv_175 = (Value.tuple #[(VB t167_19), (VB t167_20)]) ∧ Vars h_359 [(b_47, [(Sl.v t154_10)]), (b_1, [(Sl.v t61_1)])] ∧
  callM P 36 #[(Value.agg #[(Sl.v t154_10)])] h_359 fun rv_176 h_360 => ∃ t172_19 : Bool, ∃ t172_20 : Bool, rv_176 = (Value.tuple #[(VB t172_19), (VB t172_20)]) ∧ Vars h_360 [(b_47, [(Sl.v t154_10)]), (b_1, [(Sl.v t61_1)])] ∧
  ((!(t157_20 == t162_20)) = true →
  K (VB false) h_360) ∧
  ((!(t157_20 == t162_20)) = false →
  callM P 37 #[(Sl.v t157_19), (Sl.v t162_19)] h_360 fun rv_177 h_361 => ∃ t181_10 : Bool, rv_177 = (VB t181_10) ∧ Vars h_361 [(b_47, [(Sl.v t154_10)]), (b_1, [(Sl.v t61_1)])] ∧
  ((!t181_10) = true →
  K (VB false) h_361) ∧
  ((!t181_10) = false →
  ((!(t167_20 == t172_20)) = true →
  K (VB false) h_361) ∧
  ((!(t167_20 == t172_20)) = false →
  ((!(t167_19 == t172_19)) = true →
  K (VB false) h_361) ∧
  ((!(t167_19 == t172_19)) = false →
  ((!(t167_20 == t157_20)) = true →
  K (VB false) h_361) ∧
  ((!(t167_20 == t157_20)) = false →
  ∃ J_91 : Heap → Prop, ((t157_20 = true →
  ∃ J_92 : Nat → Int → Int → Heap → Prop, (∃ n0 : Nat, J_92 n0 0 0 h_361) ∧
  ∀ (n_145 : Nat) (count25_10 : Int) (t202_10 : Int) (h_362 : Heap), J_92 n_145 count25_10 t202_10 h_362 → Vars h_362 [(b_47, [(Sl.v t154_10)]), (b_1, [(Sl.v t61_1)])] →
  ((decide (t202_10 < (t157_19.n : Int))) = true →
  InB t157_19 t202_10 ∧
  ∃ t206_10 : Sl, hcell h_362 (Sl.at t157_19 t202_10 1) = some (Sl.v t206_10) ∧
  ((decide (0 < t202_10)) = true →
  InB t157_19 (w64 (t202_10 - 1)) ∧
  ∃ t218_10 : Sl, hcell h_362 (Sl.at t157_19 (w64 (t202_10 - 1)) 1) = some (Sl.v t218_10) ∧
  InB t218_10 0 ∧
  ∃ t220_10 : Int, hcell h_362 (Sl.at t218_10 0 1) = some (VI t220_10) ∧
  InB t206_10 0 ∧
  ∃ t223_10 : Int, hcell h_362 (Sl.at t206_10 0 1) = some (VI t223_10) ∧
  ((decide (t223_10 ≤ t220_10)) = true →
  K (VB false) h_362) ∧
  ((decide (t223_10 ≤ t220_10)) = false →
  ∃ J_93 : Nat → Int → Heap → Prop, (∃ n0 : Nat, J_93 n0 0 h_362) ∧
  ∀ (n_146 : Nat) (t228_19 : Int) (h_363 : Heap), J_93 n_146 t228_19 h_363 → Vars h_363 [(b_47, [(Sl.v t154_10)]), (b_1, [(Sl.v t61_1)])] →
  ((decide (t228_19 < (t206_10.n : Int))) = true →
  InB t206_10 t228_19 ∧
  ∃ t231_19 : Int, hcell h_363 (Sl.at t206_10 t228_19 1) = some (VI t231_19) ∧
  ∃ J_94 : Nat → Int → Heap → Prop, (∃ n0 : Nat, J_94 n0 0 h_363) ∧
  ∀ (n_147 : Nat) (t234_19 : Int) (h_364 : Heap), J_94 n_147 t234_19 h_364 → Vars h_364 [(b_47, [(Sl.v t154_10)]), (b_1, [(Sl.v t61_1)])] →
  ((decide (t234_19 < (t206_10.n : Int))) = true →
  InB t206_10 t234_19 ∧
  ∃ t237_19 : Int, hcell h_364 (Sl.at t206_10 t234_19 1) = some (VI t237_19) ∧
  callM P 25 #[(Value.agg #[(Sl.v t154_10)]), (VI t231_19), (VI t237_19)] h_364 fun rv_178 h_365 => ∃ t242_37 : Int, ∃ t242_38 : Bool, rv_178 = (Value.tuple #[(VI t242_37), (VB t242_38)]) ∧ Vars h_365 [(b_47, [(Sl.v t154_10)]), (b_1, [(Sl.v t61_1)])] ∧
  ((!t242_38) = true →
  K (VB false) h_365) ∧
  ((!t242_38) = false →
  ∃ m : Nat, m < n_147 ∧ J_94 m (w64 (t234_19 + 1)) h_365)) ∧
  ((decide (t234_19 < (t206_10.n : Int))) = false →
  ∃ m : Nat, m < n_146 ∧ J_93 m (w64 (t228_19 + 1)) h_364)) ∧
  ((decide (t228_19 < (t206_10.n : Int))) = false →
  ∃ m : Nat, m < n_145 ∧ J_92 m (w64 (count25_10 + (t206_10.n : Int))) (w64 (t202_10 + 1)) h_363))) ∧
  ((decide (0 < t202_10)) = false →
  ∃ J_95 : Nat → Int → Heap → Prop, (∃ n0 : Nat, J_95 n0 0 h_362) ∧
  ∀ (n_150 : Nat) (t228_20 : Int) (h_366 : Heap), J_95 n_150 t228_20 h_366 → Vars h_366 [(b_47, [(Sl.v t154_10)]), (b_1, [(Sl.v t61_1)])] →
  ((decide (t228_20 < (t206_10.n : Int))) = true →
  InB t206_10 t228_20 ∧
  ∃ t231_20 : Int, hcell h_366 (Sl.at t206_10 t228_20 1) = some (VI t231_20) ∧
  ∃ J_96 : Nat → Int → Heap → Prop, (∃ n0 : Nat, J_96 n0 0 h_366) ∧
  ∀ (n_151 : Nat) (t234_20 : Int) (h_367 : Heap), J_96 n_151 t234_20 h_367 → Vars h_367 [(b_47, [(Sl.v t154_10)]), (b_1, [(Sl.v t61_1)])] →
  ((decide (t234_20 < (t206_10.n : Int))) = true →
  InB t206_10 t234_20 ∧
  ∃ t237_20 : Int, hcell h_367 (Sl.at t206_10 t234_20 1) = some (VI t237_20) ∧
  callM P 25 #[(Value.agg #[(Sl.v t154_10)]), (VI t231_20), (VI t237_20)] h_367 fun rv_179 h_368 => ∃ t242_39 : Int, ∃ t242_40 : Bool, rv_179 = (Value.tuple #[(VI t242_39), (VB t242_40)]) ∧ Vars h_368 [(b_47, [(Sl.v t154_10)]), (b_1, [(Sl.v t61_1)])] ∧
  ((!t242_40) = true →
  K (VB false) h_368) ∧
  ((!t242_40) = false →
  ∃ m : Nat, m < n_151 ∧ J_96 m (w64 (t234_20 + 1)) h_368)) ∧
  ((decide (t234_20 < (t206_10.n : Int))) = false →
  ∃ m : Nat, m < n_150 ∧ J_95 m (w64 (t228_20 + 1)) h_367)) ∧
  ((decide (t228_20 < (t206_10.n : Int))) = false →
  ∃ m : Nat, m < n_145 ∧ J_92 m (w64 (count25_10 + (t206_10.n : Int))) (w64 (t202_10 + 1)) h_366))) ∧
  ((decide (t202_10 < (t157_19.n : Int))) = false →
  ((!decide (count25_10 = (t154_10.n : Int))) = true →
  K (VB false) h_362) ∧
  ((!decide (count25_10 = (t154_10.n : Int))) = false →
  ((!(t167_19 == (decide ((t157_19.n : Int) = 1)))) = true →
  K (VB false) h_362) ∧
  ((!(t167_19 == (decide ((t157_19.n : Int) = 1)))) = false →
  J_91  h_362)))) ∧
  (t157_20 = false →
  J_91  h_361)) ∧
  ∀ (h_369 : Heap), J_91  h_369 → Vars h_369 [(b_47, [(Sl.v t154_10)]), (b_1, [(Sl.v t61_1)])] →
  callM P 38 #[(Sl.v more1_1)] h_369 fun rv_180 h_370 => ∃ t264_19 : Sl, ∃ t264_20 : Sl, rv_180 = (Value.tuple #[(Value.agg #[(Sl.v t264_19)]), (Sl.v t264_20)]) ∧ Vars h_370 [(b_47, [(Sl.v t154_10)]), (b_1, [(Sl.v t61_1)])] ∧
  ∀ (b_48 : Nat) (h_372 : Heap), h_370.size ≤ b_48 → Fr (In []) h_370 h_372 → Vars h_372 [(b_48, [(Sl.v t264_19)]), (b_47, [(Sl.v t154_10)]), (b_1, [(Sl.v t61_1)])] →
  callM P 39 #[(Value.agg #[(Sl.v t264_19)]), (Sl.v t264_20)] h_372 fun rv_181 h_373 => ∃ t270_19 : Sl, ∃ t270_20 : Bool, rv_181 = (Value.tuple #[(Value.agg #[(Sl.v t270_19)]), (VB t270_20)]) ∧ Vars h_373 [(b_48, [(Sl.v t264_19)]), (b_47, [(Sl.v t154_10)]), (b_1, [(Sl.v t61_1)])] ∧
  ∀ (b_49 : Nat) (h_375 : Heap), h_373.size ≤ b_49 → Fr (In []) h_373 h_375 → Vars h_375 [(b_49, [(Sl.v t270_19)]), (b_48, [(Sl.v t264_19)]), (b_47, [(Sl.v t154_10)]), (b_1, [(Sl.v t61_1)])] →
  callM P 40 #[(Value.agg #[(Sl.v t264_19)]), (Sl.v t264_20)] h_375 fun rv_182 h_376 => ∃ t276_19 : Sl, ∃ t276_20 : Bool, rv_182 = (Value.tuple #[(Value.agg #[(Sl.v t276_19)]), (VB t276_20)]) ∧ Vars h_376 [(b_49, [(Sl.v t270_19)]), (b_48, [(Sl.v t264_19)]), (b_47, [(Sl.v t154_10)]), (b_1, [(Sl.v t61_1)])] ∧
  ((!(t270_20 == t276_20)) = true →
  ∀ (b_50 : Nat) (h_378 : Heap), h_376.size ≤ b_50 → Fr (In []) h_376 h_378 → Vars h_378 [(b_50, [(Sl.v t276_19)]), (b_49, [(Sl.v t270_19)]), (b_48, [(Sl.v t264_19)]), (b_47, [(Sl.v t154_10)]), (b_1, [(Sl.v t61_1)])] →
  K (VB false) h_378) ∧
  ((!(t270_20 == t276_20)) = false →
  ∀ (b_50 : Nat) (h_378 : Heap), h_376.size ≤ b_50 → Fr (In []) h_376 h_378 → Vars h_378 [(b_50, [(Sl.v t276_19)]), (b_49, [(Sl.v t270_19)]), (b_48, [(Sl.v t264_19)]), (b_47, [(Sl.v t154_10)]), (b_1, [(Sl.v t61_1)])] →
  callM P 41 #[(Value.agg #[(Sl.v t270_19)]), (Value.agg #[(Sl.v t276_19)])] h_378 fun rv_183 h_379 => ∃ t285_10 : Bool, rv_183 = (VB t285_10) ∧ Vars h_379 [(b_50, [(Sl.v t276_19)]), (b_49, [(Sl.v t270_19)]), (b_48, [(Sl.v t264_19)]), (b_47, [(Sl.v t154_10)]), (b_1, [(Sl.v t61_1)])] ∧
  ((!t285_10) = true →
  K (VB false) h_379) ∧
  ((!t285_10) = false →
  ∃ J_97 : Heap → Prop, ((t270_20 = true →
  ∃ J_98 : Nat → Int → Heap → Prop, (∃ n0 : Nat, J_98 n0 0 h_379) ∧
  ∀ (n_155 : Nat) (t292_10 : Int) (h_380 : Heap), J_98 n_155 t292_10 h_380 → Vars h_380 [(b_50, [(Sl.v t276_19)]), (b_49, [(Sl.v t270_19)]), (b_48, [(Sl.v t264_19)]), (b_47, [(Sl.v t154_10)]), (b_1, [(Sl.v t61_1)])] →
  ((decide (t292_10 < (t264_19.n : Int))) = true →
  ∃ J_99 : Nat → Int → Heap → Prop, (∃ n0 : Nat, J_99 n0 0 h_380) ∧
  ∀ (n_156 : Nat) (t298_10 : Int) (h_381 : Heap), J_99 n_156 t298_10 h_381 → Vars h_381 [(b_50, [(Sl.v t276_19)]), (b_49, [(Sl.v t270_19)]), (b_48, [(Sl.v t264_19)]), (b_47, [(Sl.v t154_10)]), (b_1, [(Sl.v t61_1)])] →
  ((decide (t298_10 < (t264_19.n : Int))) = true →
  callM P 25 #[(Value.agg #[(Sl.v t264_19)]), (VI t292_10), (VI t298_10)] h_381 fun rv_184 h_382 => ∃ t305_19 : Int, ∃ t305_20 : Bool, rv_184 = (Value.tuple #[(VI t305_19), (VB t305_20)]) ∧ Vars h_382 [(b_50, [(Sl.v t276_19)]), (b_49, [(Sl.v t270_19)]), (b_48, [(Sl.v t264_19)]), (b_47, [(Sl.v t154_10)]), (b_1, [(Sl.v t61_1)])] ∧
  InB t264_20 t292_10 ∧
  ∃ t313_10 : Int, hcell h_382 (Sl.at t264_20 t292_10 1) = some (VI t313_10) ∧
  InB t264_20 t298_10 ∧
  ∃ t317_10 : Int, hcell h_382 (Sl.at t264_20 t298_10 1) = some (VI t317_10) ∧
  callM P 25 #[(Value.agg #[(Sl.v t270_19)]), (VI t313_10), (VI t317_10)] h_382 fun rv_185 h_383 => ∃ t318_19 : Int, ∃ t318_20 : Bool, rv_185 = (Value.tuple #[(VI t318_19), (VB t318_20)]) ∧ Vars h_383 [(b_50, [(Sl.v t276_19)]), (b_49, [(Sl.v t270_19)]), (b_48, [(Sl.v t264_19)]), (b_47, [(Sl.v t154_10)]), (b_1, [(Sl.v t61_1)])] ∧
  ((!(t305_20 == t318_20)) = true →
  K (VB false) h_383) ∧
  ((!(t305_20 == t318_20)) = false →
  ((!decide (t305_19 = t318_19)) = true →
  K (VB false) h_383) ∧
  ((!decide (t305_19 = t318_19)) = false →
  ∃ m : Nat, m < n_156 ∧ J_99 m (w64 (t298_10 + 1)) h_383))) ∧
  ((decide (t298_10 < (t264_19.n : Int))) = false →
  ∃ m : Nat, m < n_155 ∧ J_98 m (w64 (t292_10 + 1)) h_381)) ∧
  ((decide (t292_10 < (t264_19.n : Int))) = false →
  J_97  h_380)) ∧
  (t270_20 = false →
  J_97  h_379)) ∧
  ∀ (h_384 : Heap), J_97  h_384 → Vars h_384 [(b_50, [(Sl.v t276_19)]), (b_49, [(Sl.v t270_19)]), (b_48, [(Sl.v t264_19)]), (b_47, [(Sl.v t154_10)]), (b_1, [(Sl.v t61_1)])] →
  callM P 42 #[(Sl.v more1_1)] h_384 fun rv_186 h_385 => ∃ t333_19 : Sl, ∃ t333_20 : Int, rv_186 = (Value.tuple #[(Value.agg #[(Sl.v t333_19)]), (VI t333_20)]) ∧ Vars h_385 [(b_50, [(Sl.v t276_19)]), (b_49, [(Sl.v t270_19)]), (b_48, [(Sl.v t264_19)]), (b_47, [(Sl.v t154_10)]), (b_1, [(Sl.v t61_1)])] ∧
  ∀ (b_51 : Nat) (h_387 : Heap), h_385.size ≤ b_51 → Fr (In []) h_385 h_387 → Vars h_387 [(b_51, [(Sl.v t333_19)]), (b_50, [(Sl.v t276_19)]), (b_49, [(Sl.v t270_19)]), (b_48, [(Sl.v t264_19)]), (b_47, [(Sl.v t154_10)]), (b_1, [(Sl.v t61_1)])] →
  callM P 43 #[(Value.agg #[(Sl.v t333_19)]), (VI t333_20)] h_387 fun rv_187 h_388 => ∃ t339_19 : Bool, ∃ t339_20 : Bool, rv_187 = (Value.tuple #[(VB t339_19), (VB t339_20)]) ∧ Vars h_388 [(b_51, [(Sl.v t333_19)]), (b_50, [(Sl.v t276_19)]), (b_49, [(Sl.v t270_19)]), (b_48, [(Sl.v t264_19)]), (b_47, [(Sl.v t154_10)]), (b_1, [(Sl.v t61_1)])] ∧
  callM P 44 #[(Value.agg #[(Sl.v t333_19)]), (VI t333_20)] h_388 fun rv_188 h_389 => ∃ t345_19 : Bool, ∃ t345_20 : Bool, rv_188 = (Value.tuple #[(VB t345_19), (VB t345_20)]) ∧ Vars h_389 [(b_51, [(Sl.v t333_19)]), (b_50, [(Sl.v t276_19)]), (b_49, [(Sl.v t270_19)]), (b_48, [(Sl.v t264_19)]), (b_47, [(Sl.v t154_10)]), (b_1, [(Sl.v t61_1)])] ∧
  ((!(t339_20 == t345_20)) = true →
  K (VB false) h_389) ∧
  ((!(t339_20 == t345_20)) = false →
  ((!(t339_19 == t345_19)) = true →
  K (VB false) h_389) ∧
  ((!(t339_19 == t345_19)) = false →
  (t339_20 = true →
  ∃ J_100 : Nat → Bool → Int → Heap → Prop, (∃ n0 : Nat, J_100 n0 true 0 h_389) ∧
  ∀ (n_159 : Nat) (all52_10 : Bool) (t360_10 : Int) (h_390 : Heap), J_100 n_159 all52_10 t360_10 h_390 → Vars h_390 [(b_51, [(Sl.v t333_19)]), (b_50, [(Sl.v t276_19)]), (b_49, [(Sl.v t270_19)]), (b_48, [(Sl.v t264_19)]), (b_47, [(Sl.v t154_10)]), (b_1, [(Sl.v t61_1)])] →
  ((decide (t360_10 < (t333_19.n : Int))) = true →
  callM P 25 #[(Value.agg #[(Sl.v t333_19)]), (VI t360_10), (VI t333_20)] h_390 fun rv_189 h_391 => ∃ t367_19 : Int, ∃ t367_20 : Bool, rv_189 = (Value.tuple #[(VI t367_19), (VB t367_20)]) ∧ Vars h_391 [(b_51, [(Sl.v t333_19)]), (b_50, [(Sl.v t276_19)]), (b_49, [(Sl.v t270_19)]), (b_48, [(Sl.v t264_19)]), (b_47, [(Sl.v t154_10)]), (b_1, [(Sl.v t61_1)])] ∧
  (all52_10 = true →
  ∃ m : Nat, m < n_159 ∧ J_100 m t367_20 (w64 (t360_10 + 1)) h_391) ∧
  (all52_10 = false →
  ∃ m : Nat, m < n_159 ∧ J_100 m false (w64 (t360_10 + 1)) h_391)) ∧
  ((decide (t360_10 < (t333_19.n : Int))) = false →
  K (VB (all52_10 == t339_19)) h_390)) ∧
  (t339_20 = false →
  K (VB true) h_389)))))))))))))))))
end Go.Proofs.Ytkjkfjkapbpgiaa
