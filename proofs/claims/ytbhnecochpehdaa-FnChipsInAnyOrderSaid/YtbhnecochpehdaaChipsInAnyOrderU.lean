/-
  The same over typed data. Written by a program.
-/
import Derived.Test.YtbhnecochpehdaaChipsInAnyOrderT
import Derived.Test.YtbhnecochpehdaaM2
set_option linter.unusedVariables false
set_option linter.unusedSimpArgs false
set_option maxRecDepth 100000
namespace Go.Proofs.Ytbhnecochpehdaa
open Go Go.Mx
theorem agg132 : aggC Try.prog 132 = some 2 := by kernel_rfl
theorem agg32 : aggC Try.prog 32 = some 1 := by kernel_rfl
theorem agg34 : aggC Try.prog 34 = some 2 := by kernel_rfl
theorem boo4 : Try.prog.underlying 4 = some .bool := by kernel_rfl
theorem fld109_0 : fieldC Try.prog 109 0 = some 0 := by kernel_rfl
theorem fld109_1 : fieldC Try.prog 109 1 = some 1 := by kernel_rfl
theorem fld109_2 : fieldC Try.prog 109 2 = some 2 := by kernel_rfl
theorem fld132_0 : fieldC Try.prog 132 0 = some 0 := by kernel_rfl
theorem fld132_1 : fieldC Try.prog 132 1 = some 1 := by kernel_rfl
theorem fld32_0 : fieldC Try.prog 32 0 = some 0 := by kernel_rfl
theorem fld34_0 : fieldC Try.prog 34 0 = some 0 := by kernel_rfl
theorem fld34_1 : fieldC Try.prog 34 1 = some 1 := by kernel_rfl
theorem one107 : oneC Try.prog 107 = true := by kernel_rfl
theorem one22 : oneC Try.prog 22 = true := by kernel_rfl
theorem one25 : oneC Try.prog 25 = true := by kernel_rfl
theorem one3 : oneC Try.prog 3 = true := by kernel_rfl
theorem one5 : oneC Try.prog 5 = true := by kernel_rfl
theorem one55 : oneC Try.prog 55 = true := by kernel_rfl
theorem siz107 : sizeC Try.prog 107 = some 1 := by kernel_rfl
theorem siz132 : sizeC Try.prog 132 = some 2 := by kernel_rfl
theorem siz22 : sizeC Try.prog 22 = some 1 := by kernel_rfl
theorem siz25 : sizeC Try.prog 25 = some 1 := by kernel_rfl
theorem siz3 : sizeC Try.prog 3 = some 1 := by kernel_rfl
theorem siz32 : sizeC Try.prog 32 = some 1 := by kernel_rfl
theorem siz34 : sizeC Try.prog 34 = some 2 := by kernel_rfl
theorem siz5 : sizeC Try.prog 5 = some 1 := by kernel_rfl
theorem sli22 : Try.prog.underlying 22 = some (.slice 25) := by kernel_rfl
theorem sli25 : Try.prog.underlying 25 = some (.slice 3) := by kernel_rfl
theorem sli55 : Try.prog.underlying 55 = some (.slice 5) := by kernel_rfl
theorem zer132 : zeroC Try.prog 132 = some (Value.agg #[(Sl.v nilSl), (VI 0)]) := by kernel_rfl
theorem zer3 : zeroC Try.prog 3 = some (VI 0) := by kernel_rfl
theorem zer32 : zeroC Try.prog 32 = some (Value.agg #[(Sl.v nilSl)]) := by kernel_rfl
theorem zer34 : zeroC Try.prog 34 = some (Value.agg #[(Sl.v nilSl), (Sl.v nilSl)]) := by kernel_rfl
/-! laws.FnChipsInAnyOrder -/
def u7 (P : Program) (code0_1 : Sl) (more1_1 : Sl) (h : Heap) (K : Value → Heap → Prop) : Prop :=
  callM P 32 #[(Sl.v code0_1), (Sl.v more1_1)] h fun rv_1 h_1 => ∃ t58_1 : Bool, rv_1 = (VB t58_1) ∧ Vars h_1 [] ∧
  (t58_1 = true →
  K (VB true) h_1) ∧
  (t58_1 = false →
  callM P 42 #[(Sl.v code0_1)] h_1 fun rv_2 h_2 => ∃ t61_1 : Sl, ∃ t61_2 : Int, ∃ t61_3 : Sl, ∃ t61_4 : Sl, ∃ t61_5 : Sl, rv_2 = (Value.tuple #[(Value.agg #[(Sl.v t61_1)]), (VI t61_2), (Value.agg #[(Sl.v t61_3), (Sl.v t61_4)]), (Sl.v t61_5)]) ∧ Vars h_2 [] ∧
  ∀ (b_1 : Nat) (b_2 : Nat) (h_6 : Heap), h_2.size ≤ b_1 → h_2.size ≤ b_2 → Fr (In []) h_2 h_6 → Vars h_6 [(b_2, [(Sl.v t61_3), (Sl.v t61_4)]), (b_1, [(Sl.v t61_1)])] →
  callM P 43 #[(Value.agg #[(Sl.v t61_1)]), (VI t61_2), (Value.agg #[(Sl.v t61_3), (Sl.v t61_4)]), (Sl.v t61_5)] h_6 fun rv_3 h_7 => ∃ t71_1 : Sl, ∃ t71_2 : Sl, ∃ t71_3 : Bool, rv_3 = (Value.tuple #[(Value.agg #[(Sl.v t71_1), (Sl.v t71_2)]), (VB t71_3)]) ∧ Vars h_7 [(b_2, [(Sl.v t61_3), (Sl.v t61_4)]), (b_1, [(Sl.v t61_1)])] ∧
  ∀ (b_3 : Nat) (h_9 : Heap), h_7.size ≤ b_3 → Fr (In []) h_7 h_9 → Vars h_9 [(b_3, [(Sl.v t71_1), (Sl.v t71_2)]), (b_2, [(Sl.v t61_3), (Sl.v t61_4)]), (b_1, [(Sl.v t61_1)])] →
  callM P 44 #[(Value.agg #[(Sl.v t61_1)]), (VI t61_2), (Value.agg #[(Sl.v t61_3), (Sl.v t61_4)]), (Sl.v t61_5)] h_9 fun rv_4 h_10 => ∃ t79_1 : Sl, ∃ t79_2 : Sl, ∃ t79_3 : Bool, rv_4 = (Value.tuple #[(Value.agg #[(Sl.v t79_1), (Sl.v t79_2)]), (VB t79_3)]) ∧ Vars h_10 [(b_3, [(Sl.v t71_1), (Sl.v t71_2)]), (b_2, [(Sl.v t61_3), (Sl.v t61_4)]), (b_1, [(Sl.v t61_1)])] ∧
  ∀ (b_4 : Nat) (h_12 : Heap), h_10.size ≤ b_4 → Fr (In []) h_10 h_12 → Vars h_12 [(b_4, [(Sl.v t79_1), (Sl.v t79_2)]), (b_3, [(Sl.v t71_1), (Sl.v t71_2)]), (b_2, [(Sl.v t61_3), (Sl.v t61_4)]), (b_1, [(Sl.v t61_1)])] →
  callM P 15 #[(Value.agg #[(Sl.v t61_1)]), (VI t61_2), (Value.agg #[(Sl.v t61_3), (Sl.v t61_4)])] h_12 fun rv_5 h_13 => ∃ t86_1 : Sl, ∃ t86_2 : Bool, rv_5 = (Value.tuple #[(Sl.v t86_1), (VB t86_2)]) ∧ Vars h_13 [(b_4, [(Sl.v t79_1), (Sl.v t79_2)]), (b_3, [(Sl.v t71_1), (Sl.v t71_2)]), (b_2, [(Sl.v t61_3), (Sl.v t61_4)]), (b_1, [(Sl.v t61_1)])] ∧
  callM P 12 #[(Value.agg #[(Sl.v t61_1)]), (VI t61_2), (Value.agg #[(Sl.v t61_3), (Sl.v t61_4)])] h_13 fun rv_6 h_14 => ∃ t93_1 : Sl, ∃ t93_2 : Bool, rv_6 = (Value.tuple #[(Sl.v t93_1), (VB t93_2)]) ∧ Vars h_14 [(b_4, [(Sl.v t79_1), (Sl.v t79_2)]), (b_3, [(Sl.v t71_1), (Sl.v t71_2)]), (b_2, [(Sl.v t61_3), (Sl.v t61_4)]), (b_1, [(Sl.v t61_1)])] ∧
  ((!(t71_3 == t79_3)) = true →
  K (VB false) h_14) ∧
  ((!(t71_3 == t79_3)) = false →
  callM P 40 #[(Value.agg #[(Sl.v t71_1), (Sl.v t71_2)]), (Value.agg #[(Sl.v t79_1), (Sl.v t79_2)])] h_14 fun rv_7 h_15 => ∃ t102_1 : Bool, rv_7 = (VB t102_1) ∧ Vars h_15 [(b_4, [(Sl.v t79_1), (Sl.v t79_2)]), (b_3, [(Sl.v t71_1), (Sl.v t71_2)]), (b_2, [(Sl.v t61_3), (Sl.v t61_4)]), (b_1, [(Sl.v t61_1)])] ∧
  ((!t102_1) = true →
  K (VB false) h_15) ∧
  ((!t102_1) = false →
  ((!(t86_2 == t93_2)) = true →
  K (VB false) h_15) ∧
  ((!(t86_2 == t93_2)) = false →
  callM P 45 #[(Sl.v t86_1), (Sl.v t93_1)] h_15 fun rv_8 h_16 => ∃ t113_1 : Bool, rv_8 = (VB t113_1) ∧ Vars h_16 [(b_4, [(Sl.v t79_1), (Sl.v t79_2)]), (b_3, [(Sl.v t71_1), (Sl.v t71_2)]), (b_2, [(Sl.v t61_3), (Sl.v t61_4)]), (b_1, [(Sl.v t61_1)])] ∧
  ((!t113_1) = true →
  K (VB false) h_16) ∧
  ((!t113_1) = false →
  (t71_3 = true →
  ((!t86_2) = true →
  K (VB false) h_16) ∧
  ((!t86_2) = false →
  ∃ J_1 : Heap → Prop, (callM P 43 #[(Value.agg #[(Sl.v t61_1)]), (VI t61_2), (Value.agg #[(Sl.v t61_3), (Sl.v t61_4)]), (Sl.v nilSl)] h_16 fun rv_9 h_17 => ∃ t128_1 : Sl, ∃ t128_2 : Sl, ∃ t128_3 : Bool, rv_9 = (Value.tuple #[(Value.agg #[(Sl.v t128_1), (Sl.v t128_2)]), (VB t128_3)]) ∧ Vars h_17 [(b_4, [(Sl.v t79_1), (Sl.v t79_2)]), (b_3, [(Sl.v t71_1), (Sl.v t71_2)]), (b_2, [(Sl.v t61_3), (Sl.v t61_4)]), (b_1, [(Sl.v t61_1)])] ∧
  ∀ (b_5 : Nat) (h_19 : Heap), h_17.size ≤ b_5 → Fr (In []) h_17 h_19 → Vars h_19 [(b_5, [(Sl.v t128_1), (Sl.v t128_2)]), (b_4, [(Sl.v t79_1), (Sl.v t79_2)]), (b_3, [(Sl.v t71_1), (Sl.v t71_2)]), (b_2, [(Sl.v t61_3), (Sl.v t61_4)]), (b_1, [(Sl.v t61_1)])] →
  callM P 46 #[(Value.agg #[(Sl.v t61_1)]), (VI t61_2), (Value.agg #[(Sl.v t71_1), (Sl.v t71_2)])] h_19 fun rv_10 h_20 => ∃ t135_1 : Bool, ∃ t135_2 : Bool, rv_10 = (Value.tuple #[(VB t135_1), (VB t135_2)]) ∧ Vars h_20 [(b_5, [(Sl.v t128_1), (Sl.v t128_2)]), (b_4, [(Sl.v t79_1), (Sl.v t79_2)]), (b_3, [(Sl.v t71_1), (Sl.v t71_2)]), (b_2, [(Sl.v t61_3), (Sl.v t61_4)]), (b_1, [(Sl.v t61_1)])] ∧
  ((!t128_3) = true →
  K (VB false) h_20) ∧
  ((!t128_3) = false →
  callM P 40 #[(Value.agg #[(Sl.v t128_1), (Sl.v t128_2)]), (Value.agg #[(Sl.v t71_1), (Sl.v t71_2)])] h_20 fun rv_11 h_21 => ∃ t143_1 : Bool, rv_11 = (VB t143_1) ∧ Vars h_21 [(b_5, [(Sl.v t128_1), (Sl.v t128_2)]), (b_4, [(Sl.v t79_1), (Sl.v t79_2)]), (b_3, [(Sl.v t71_1), (Sl.v t71_2)]), (b_2, [(Sl.v t61_3), (Sl.v t61_4)]), (b_1, [(Sl.v t61_1)])] ∧
  ((!t143_1) = true →
  K (VB false) h_21) ∧
  ((!t143_1) = false →
  ((!t135_2) = true →
  K (VB false) h_21) ∧
  ((!t135_2) = false →
  ((!t135_1) = true →
  K (VB false) h_21) ∧
  ((!t135_1) = false →
  InB t71_2 t61_2 ∧
  ∃ t159_1 : Int, hcell h_21 (Sl.at t71_2 t61_2 1) = some (VI t159_1) ∧
  callM P 41 #[(Sl.v t61_4)] h_21 fun rv_12 h_22 => ∃ t162_1 : Int, rv_12 = (VI t162_1) ∧ Vars h_22 [(b_5, [(Sl.v t128_1), (Sl.v t128_2)]), (b_4, [(Sl.v t79_1), (Sl.v t79_2)]), (b_3, [(Sl.v t71_1), (Sl.v t71_2)]), (b_2, [(Sl.v t61_3), (Sl.v t61_4)]), (b_1, [(Sl.v t61_1)])] ∧
  hcell h_22 (Sl.at t71_2 t61_2 1) = some (VI t159_1) ∧
  ((!decide (t159_1 = t162_1)) = true →
  K (VB false) h_22) ∧
  ((!decide (t159_1 = t162_1)) = false →
  InB t86_1 t61_2 ∧
  ∃ t169_1 : Int, hcell h_22 (Sl.at t86_1 t61_2 1) = some (VI t169_1) ∧
  ((!decide (t169_1 = 0)) = true →
  K (VB false) h_22) ∧
  ((!decide (t169_1 = 0)) = false →
  ∃ J_2 : Nat → Int → Heap → Prop, (∃ n0 : Nat, J_2 n0 0 h_22) ∧
  ∀ (n_1 : Nat) (t175_1 : Int) (h_23 : Heap), J_2 n_1 t175_1 h_23 → Vars h_23 [(b_5, [(Sl.v t128_1), (Sl.v t128_2)]), (b_4, [(Sl.v t79_1), (Sl.v t79_2)]), (b_3, [(Sl.v t71_1), (Sl.v t71_2)]), (b_2, [(Sl.v t61_3), (Sl.v t61_4)]), (b_1, [(Sl.v t61_1)])] →
  ((decide (t175_1 < (t61_1.n : Int))) = true →
  InB t61_1 t175_1 ∧
  ∃ t179_1 : Sl, hcell h_23 (Sl.at t61_1 t175_1 1) = some (Sl.v t179_1) ∧
  ((!decide (t175_1 = t61_2)) = true →
  ((decide ((t179_1.n : Int) = 0)) = true →
  K (VB false) h_23) ∧
  ((decide ((t179_1.n : Int) = 0)) = false →
  InB t71_1 t175_1 ∧
  ∃ t192_1 : Int, hcell h_23 (Sl.at t71_1 t175_1 1) = some (VI t192_1) ∧
  InB t61_3 t175_1 ∧
  ∃ t197_1 : Int, hcell h_23 (Sl.at t61_3 t175_1 1) = some (VI t197_1) ∧
  InB t86_1 t175_1 ∧
  ∃ t201_1 : Int, hcell h_23 (Sl.at t86_1 t175_1 1) = some (VI t201_1) ∧
  (t179_1.n : Int) ≠ 0 ∧
  ((!decide (t192_1 = (Int.tmod (w64 (t197_1 + t201_1)) (t179_1.n : Int)))) = true →
  K (VB false) h_23) ∧
  ((!decide (t192_1 = (Int.tmod (w64 (t197_1 + t201_1)) (t179_1.n : Int)))) = false →
  ∃ m : Nat, m < n_1 ∧ J_2 m (w64 (t175_1 + 1)) h_23))) ∧
  ((!decide (t175_1 = t61_2)) = false →
  ∃ m : Nat, m < n_1 ∧ J_2 m (w64 (t175_1 + 1)) h_23)) ∧
  ((decide (t175_1 < (t61_1.n : Int))) = false →
  callM P 38 #[(Value.agg #[(Sl.v t61_1)]), (VI t61_2), (Value.agg #[(Sl.v t61_3), (Sl.v t61_4)]), (Sl.v t86_1)] h_23 fun rv_13 h_24 => ∃ t215_1 : Sl, ∃ t215_2 : Sl, ∃ t215_3 : Bool, rv_13 = (Value.tuple #[(Value.agg #[(Sl.v t215_1), (Sl.v t215_2)]), (VB t215_3)]) ∧ Vars h_24 [(b_5, [(Sl.v t128_1), (Sl.v t128_2)]), (b_4, [(Sl.v t79_1), (Sl.v t79_2)]), (b_3, [(Sl.v t71_1), (Sl.v t71_2)]), (b_2, [(Sl.v t61_3), (Sl.v t61_4)]), (b_1, [(Sl.v t61_1)])] ∧
  (t215_3 = true →
  ∀ (b_6 : Nat) (h_26 : Heap), h_24.size ≤ b_6 → Fr (In []) h_24 h_26 → Vars h_26 [(b_6, [(Sl.v t215_1), (Sl.v t215_2)]), (b_5, [(Sl.v t128_1), (Sl.v t128_2)]), (b_4, [(Sl.v t79_1), (Sl.v t79_2)]), (b_3, [(Sl.v t71_1), (Sl.v t71_2)]), (b_2, [(Sl.v t61_3), (Sl.v t61_4)]), (b_1, [(Sl.v t61_1)])] →
  callM P 40 #[(Value.agg #[(Sl.v t215_1), (Sl.v t215_2)]), (Value.agg #[(Sl.v t71_1), (Sl.v t71_2)])] h_26 fun rv_14 h_27 => ∃ t222_1 : Bool, rv_14 = (VB t222_1) ∧ Vars h_27 [(b_6, [(Sl.v t215_1), (Sl.v t215_2)]), (b_5, [(Sl.v t128_1), (Sl.v t128_2)]), (b_4, [(Sl.v t79_1), (Sl.v t79_2)]), (b_3, [(Sl.v t71_1), (Sl.v t71_2)]), (b_2, [(Sl.v t61_3), (Sl.v t61_4)]), (b_1, [(Sl.v t61_1)])] ∧
  ((!t222_1) = true →
  K (VB false) h_27) ∧
  ((!t222_1) = false →
  J_1  h_27)) ∧
  (t215_3 = false →
  ∀ (b_6 : Nat) (h_26 : Heap), h_24.size ≤ b_6 → Fr (In []) h_24 h_26 → Vars h_26 [(b_6, [(Sl.v t215_1), (Sl.v t215_2)]), (b_5, [(Sl.v t128_1), (Sl.v t128_2)]), (b_4, [(Sl.v t79_1), (Sl.v t79_2)]), (b_3, [(Sl.v t71_1), (Sl.v t71_2)]), (b_2, [(Sl.v t61_3), (Sl.v t61_4)]), (b_1, [(Sl.v t61_1)])] →
  J_1  h_26))))))))) ∧
  ∀ (h_28 : Heap), J_1  h_28 → Vars h_28 [(b_4, [(Sl.v t79_1), (Sl.v t79_2)]), (b_3, [(Sl.v t71_1), (Sl.v t71_2)]), (b_2, [(Sl.v t61_3), (Sl.v t61_4)]), (b_1, [(Sl.v t61_1)])] →
  callM P 47 #[(Sl.v more1_1)] h_28 fun rv_15 h_29 => ∃ t227_1 : Sl, ∃ t227_2 : Int, ∃ t227_3 : Sl, ∃ t227_4 : Sl, ∃ t227_5 : Sl, rv_15 = (Value.tuple #[(Value.agg #[(Sl.v t227_1)]), (VI t227_2), (Value.agg #[(Sl.v t227_3), (Sl.v t227_4)]), (Sl.v t227_5)]) ∧ Vars h_29 [(b_4, [(Sl.v t79_1), (Sl.v t79_2)]), (b_3, [(Sl.v t71_1), (Sl.v t71_2)]), (b_2, [(Sl.v t61_3), (Sl.v t61_4)]), (b_1, [(Sl.v t61_1)])] ∧
  ∀ (b_7 : Nat) (b_8 : Nat) (h_33 : Heap), h_29.size ≤ b_7 → h_29.size ≤ b_8 → Fr (In []) h_29 h_33 → Vars h_33 [(b_8, [(Sl.v t227_3), (Sl.v t227_4)]), (b_7, [(Sl.v t227_1)]), (b_4, [(Sl.v t79_1), (Sl.v t79_2)]), (b_3, [(Sl.v t71_1), (Sl.v t71_2)]), (b_2, [(Sl.v t61_3), (Sl.v t61_4)]), (b_1, [(Sl.v t61_1)])] →
  callM P 48 #[(Value.agg #[(Sl.v t227_1)]), (VI t227_2), (Value.agg #[(Sl.v t227_3), (Sl.v t227_4)]), (Sl.v t227_5)] h_33 fun rv_16 h_34 => ∃ t237_1 : Sl, ∃ t237_2 : Sl, ∃ t237_3 : Bool, rv_16 = (Value.tuple #[(Value.agg #[(Sl.v t237_1), (Sl.v t237_2)]), (VB t237_3)]) ∧ Vars h_34 [(b_8, [(Sl.v t227_3), (Sl.v t227_4)]), (b_7, [(Sl.v t227_1)]), (b_4, [(Sl.v t79_1), (Sl.v t79_2)]), (b_3, [(Sl.v t71_1), (Sl.v t71_2)]), (b_2, [(Sl.v t61_3), (Sl.v t61_4)]), (b_1, [(Sl.v t61_1)])] ∧
  ∀ (b_9 : Nat) (h_36 : Heap), h_34.size ≤ b_9 → Fr (In []) h_34 h_36 → Vars h_36 [(b_9, [(Sl.v t237_1), (Sl.v t237_2)]), (b_8, [(Sl.v t227_3), (Sl.v t227_4)]), (b_7, [(Sl.v t227_1)]), (b_4, [(Sl.v t79_1), (Sl.v t79_2)]), (b_3, [(Sl.v t71_1), (Sl.v t71_2)]), (b_2, [(Sl.v t61_3), (Sl.v t61_4)]), (b_1, [(Sl.v t61_1)])] →
  callM P 49 #[(Value.agg #[(Sl.v t227_1)]), (VI t227_2), (Value.agg #[(Sl.v t227_3), (Sl.v t227_4)]), (Sl.v t227_5)] h_36 fun rv_17 h_37 => ∃ t245_1 : Sl, ∃ t245_2 : Sl, ∃ t245_3 : Bool, rv_17 = (Value.tuple #[(Value.agg #[(Sl.v t245_1), (Sl.v t245_2)]), (VB t245_3)]) ∧ Vars h_37 [(b_9, [(Sl.v t237_1), (Sl.v t237_2)]), (b_8, [(Sl.v t227_3), (Sl.v t227_4)]), (b_7, [(Sl.v t227_1)]), (b_4, [(Sl.v t79_1), (Sl.v t79_2)]), (b_3, [(Sl.v t71_1), (Sl.v t71_2)]), (b_2, [(Sl.v t61_3), (Sl.v t61_4)]), (b_1, [(Sl.v t61_1)])] ∧
  ∀ (b_10 : Nat) (h_39 : Heap), h_37.size ≤ b_10 → Fr (In []) h_37 h_39 → Vars h_39 [(b_10, [(Sl.v t245_1), (Sl.v t245_2)]), (b_9, [(Sl.v t237_1), (Sl.v t237_2)]), (b_8, [(Sl.v t227_3), (Sl.v t227_4)]), (b_7, [(Sl.v t227_1)]), (b_4, [(Sl.v t79_1), (Sl.v t79_2)]), (b_3, [(Sl.v t71_1), (Sl.v t71_2)]), (b_2, [(Sl.v t61_3), (Sl.v t61_4)]), (b_1, [(Sl.v t61_1)])] →
  callM P 50 #[(Sl.v more1_1)] h_39 fun rv_18 h_40 => ∃ t250_1 : Sl, ∃ t250_2 : Int, ∃ t250_3 : Sl, ∃ t250_4 : Sl, ∃ t250_5 : Int, rv_18 = (Value.tuple #[(Value.agg #[(Sl.v t250_1)]), (VI t250_2), (Value.agg #[(Sl.v t250_3), (Sl.v t250_4)]), (VI t250_5)]) ∧ Vars h_40 [(b_10, [(Sl.v t245_1), (Sl.v t245_2)]), (b_9, [(Sl.v t237_1), (Sl.v t237_2)]), (b_8, [(Sl.v t227_3), (Sl.v t227_4)]), (b_7, [(Sl.v t227_1)]), (b_4, [(Sl.v t79_1), (Sl.v t79_2)]), (b_3, [(Sl.v t71_1), (Sl.v t71_2)]), (b_2, [(Sl.v t61_3), (Sl.v t61_4)]), (b_1, [(Sl.v t61_1)])] ∧
  ∀ (b_11 : Nat) (b_12 : Nat) (h_44 : Heap), h_40.size ≤ b_11 → h_40.size ≤ b_12 → Fr (In []) h_40 h_44 → Vars h_44 [(b_12, [(Sl.v t250_3), (Sl.v t250_4)]), (b_11, [(Sl.v t250_1)]), (b_10, [(Sl.v t245_1), (Sl.v t245_2)]), (b_9, [(Sl.v t237_1), (Sl.v t237_2)]), (b_8, [(Sl.v t227_3), (Sl.v t227_4)]), (b_7, [(Sl.v t227_1)]), (b_4, [(Sl.v t79_1), (Sl.v t79_2)]), (b_3, [(Sl.v t71_1), (Sl.v t71_2)]), (b_2, [(Sl.v t61_3), (Sl.v t61_4)]), (b_1, [(Sl.v t61_1)])] →
  callM P 51 #[(Value.agg #[(Sl.v t250_1)]), (VI t250_2), (Value.agg #[(Sl.v t250_3), (Sl.v t250_4)]), (VI t250_5)] h_44 fun rv_19 h_45 => ∃ t260_1 : Sl, ∃ t260_2 : Sl, ∃ t260_3 : Bool, rv_19 = (Value.tuple #[(Value.agg #[(Sl.v t260_1), (Sl.v t260_2)]), (VB t260_3)]) ∧ Vars h_45 [(b_12, [(Sl.v t250_3), (Sl.v t250_4)]), (b_11, [(Sl.v t250_1)]), (b_10, [(Sl.v t245_1), (Sl.v t245_2)]), (b_9, [(Sl.v t237_1), (Sl.v t237_2)]), (b_8, [(Sl.v t227_3), (Sl.v t227_4)]), (b_7, [(Sl.v t227_1)]), (b_4, [(Sl.v t79_1), (Sl.v t79_2)]), (b_3, [(Sl.v t71_1), (Sl.v t71_2)]), (b_2, [(Sl.v t61_3), (Sl.v t61_4)]), (b_1, [(Sl.v t61_1)])] ∧
  ∀ (b_13 : Nat) (h_47 : Heap), h_45.size ≤ b_13 → Fr (In []) h_45 h_47 → Vars h_47 [(b_13, [(Sl.v t260_1), (Sl.v t260_2)]), (b_12, [(Sl.v t250_3), (Sl.v t250_4)]), (b_11, [(Sl.v t250_1)]), (b_10, [(Sl.v t245_1), (Sl.v t245_2)]), (b_9, [(Sl.v t237_1), (Sl.v t237_2)]), (b_8, [(Sl.v t227_3), (Sl.v t227_4)]), (b_7, [(Sl.v t227_1)]), (b_4, [(Sl.v t79_1), (Sl.v t79_2)]), (b_3, [(Sl.v t71_1), (Sl.v t71_2)]), (b_2, [(Sl.v t61_3), (Sl.v t61_4)]), (b_1, [(Sl.v t61_1)])] →
  callM P 52 #[(Value.agg #[(Sl.v t250_1)]), (VI t250_2), (Value.agg #[(Sl.v t250_3), (Sl.v t250_4)]), (VI t250_5)] h_47 fun rv_20 h_48 => ∃ t268_1 : Sl, ∃ t268_2 : Sl, ∃ t268_3 : Bool, rv_20 = (Value.tuple #[(Value.agg #[(Sl.v t268_1), (Sl.v t268_2)]), (VB t268_3)]) ∧ Vars h_48 [(b_13, [(Sl.v t260_1), (Sl.v t260_2)]), (b_12, [(Sl.v t250_3), (Sl.v t250_4)]), (b_11, [(Sl.v t250_1)]), (b_10, [(Sl.v t245_1), (Sl.v t245_2)]), (b_9, [(Sl.v t237_1), (Sl.v t237_2)]), (b_8, [(Sl.v t227_3), (Sl.v t227_4)]), (b_7, [(Sl.v t227_1)]), (b_4, [(Sl.v t79_1), (Sl.v t79_2)]), (b_3, [(Sl.v t71_1), (Sl.v t71_2)]), (b_2, [(Sl.v t61_3), (Sl.v t61_4)]), (b_1, [(Sl.v t61_1)])] ∧
  ∀ (b_14 : Nat) (h_50 : Heap), h_48.size ≤ b_14 → Fr (In []) h_48 h_50 → Vars h_50 [(b_14, [(Sl.v t268_1), (Sl.v t268_2)]), (b_13, [(Sl.v t260_1), (Sl.v t260_2)]), (b_12, [(Sl.v t250_3), (Sl.v t250_4)]), (b_11, [(Sl.v t250_1)]), (b_10, [(Sl.v t245_1), (Sl.v t245_2)]), (b_9, [(Sl.v t237_1), (Sl.v t237_2)]), (b_8, [(Sl.v t227_3), (Sl.v t227_4)]), (b_7, [(Sl.v t227_1)]), (b_4, [(Sl.v t79_1), (Sl.v t79_2)]), (b_3, [(Sl.v t71_1), (Sl.v t71_2)]), (b_2, [(Sl.v t61_3), (Sl.v t61_4)]), (b_1, [(Sl.v t61_1)])] →
  callM P 53 #[(Sl.v more1_1)] h_50 fun rv_21 h_51 => ∃ t273_1 : Sl, ∃ t273_2 : Int, ∃ t273_3 : Sl, ∃ t273_4 : Sl, rv_21 = (Value.tuple #[(Value.agg #[(Sl.v t273_1)]), (VI t273_2), (Value.agg #[(Sl.v t273_3), (Sl.v t273_4)])]) ∧ Vars h_51 [(b_14, [(Sl.v t268_1), (Sl.v t268_2)]), (b_13, [(Sl.v t260_1), (Sl.v t260_2)]), (b_12, [(Sl.v t250_3), (Sl.v t250_4)]), (b_11, [(Sl.v t250_1)]), (b_10, [(Sl.v t245_1), (Sl.v t245_2)]), (b_9, [(Sl.v t237_1), (Sl.v t237_2)]), (b_8, [(Sl.v t227_3), (Sl.v t227_4)]), (b_7, [(Sl.v t227_1)]), (b_4, [(Sl.v t79_1), (Sl.v t79_2)]), (b_3, [(Sl.v t71_1), (Sl.v t71_2)]), (b_2, [(Sl.v t61_3), (Sl.v t61_4)]), (b_1, [(Sl.v t61_1)])] ∧
  ∀ (b_15 : Nat) (b_16 : Nat) (h_55 : Heap), h_51.size ≤ b_15 → h_51.size ≤ b_16 → Fr (In []) h_51 h_55 → Vars h_55 [(b_16, [(Sl.v t273_3), (Sl.v t273_4)]), (b_15, [(Sl.v t273_1)]), (b_14, [(Sl.v t268_1), (Sl.v t268_2)]), (b_13, [(Sl.v t260_1), (Sl.v t260_2)]), (b_12, [(Sl.v t250_3), (Sl.v t250_4)]), (b_11, [(Sl.v t250_1)]), (b_10, [(Sl.v t245_1), (Sl.v t245_2)]), (b_9, [(Sl.v t237_1), (Sl.v t237_2)]), (b_8, [(Sl.v t227_3), (Sl.v t227_4)]), (b_7, [(Sl.v t227_1)]), (b_4, [(Sl.v t79_1), (Sl.v t79_2)]), (b_3, [(Sl.v t71_1), (Sl.v t71_2)]), (b_2, [(Sl.v t61_3), (Sl.v t61_4)]), (b_1, [(Sl.v t61_1)])] →
  callM P 46 #[(Value.agg #[(Sl.v t273_1)]), (VI t273_2), (Value.agg #[(Sl.v t273_3), (Sl.v t273_4)])] h_55 fun rv_22 h_56 => ∃ t281_1 : Bool, ∃ t281_2 : Bool, rv_22 = (Value.tuple #[(VB t281_1), (VB t281_2)]) ∧ Vars h_56 [(b_16, [(Sl.v t273_3), (Sl.v t273_4)]), (b_15, [(Sl.v t273_1)]), (b_14, [(Sl.v t268_1), (Sl.v t268_2)]), (b_13, [(Sl.v t260_1), (Sl.v t260_2)]), (b_12, [(Sl.v t250_3), (Sl.v t250_4)]), (b_11, [(Sl.v t250_1)]), (b_10, [(Sl.v t245_1), (Sl.v t245_2)]), (b_9, [(Sl.v t237_1), (Sl.v t237_2)]), (b_8, [(Sl.v t227_3), (Sl.v t227_4)]), (b_7, [(Sl.v t227_1)]), (b_4, [(Sl.v t79_1), (Sl.v t79_2)]), (b_3, [(Sl.v t71_1), (Sl.v t71_2)]), (b_2, [(Sl.v t61_3), (Sl.v t61_4)]), (b_1, [(Sl.v t61_1)])] ∧
  callM P 54 #[(Value.agg #[(Sl.v t273_1)]), (VI t273_2), (Value.agg #[(Sl.v t273_3), (Sl.v t273_4)])] h_56 fun rv_23 h_57 => ∃ t288_1 : Bool, ∃ t288_2 : Bool, rv_23 = (Value.tuple #[(VB t288_1), (VB t288_2)]) ∧ Vars h_57 [(b_16, [(Sl.v t273_3), (Sl.v t273_4)]), (b_15, [(Sl.v t273_1)]), (b_14, [(Sl.v t268_1), (Sl.v t268_2)]), (b_13, [(Sl.v t260_1), (Sl.v t260_2)]), (b_12, [(Sl.v t250_3), (Sl.v t250_4)]), (b_11, [(Sl.v t250_1)]), (b_10, [(Sl.v t245_1), (Sl.v t245_2)]), (b_9, [(Sl.v t237_1), (Sl.v t237_2)]), (b_8, [(Sl.v t227_3), (Sl.v t227_4)]), (b_7, [(Sl.v t227_1)]), (b_4, [(Sl.v t79_1), (Sl.v t79_2)]), (b_3, [(Sl.v t71_1), (Sl.v t71_2)]), (b_2, [(Sl.v t61_3), (Sl.v t61_4)]), (b_1, [(Sl.v t61_1)])] ∧
  ((!(t237_3 == t245_3)) = true →
  K (VB false) h_57) ∧
  ((!(t237_3 == t245_3)) = false →
  callM P 40 #[(Value.agg #[(Sl.v t237_1), (Sl.v t237_2)]), (Value.agg #[(Sl.v t245_1), (Sl.v t245_2)])] h_57 fun rv_24 h_58 => ∃ t297_1 : Bool, rv_24 = (VB t297_1) ∧ Vars h_58 [(b_16, [(Sl.v t273_3), (Sl.v t273_4)]), (b_15, [(Sl.v t273_1)]), (b_14, [(Sl.v t268_1), (Sl.v t268_2)]), (b_13, [(Sl.v t260_1), (Sl.v t260_2)]), (b_12, [(Sl.v t250_3), (Sl.v t250_4)]), (b_11, [(Sl.v t250_1)]), (b_10, [(Sl.v t245_1), (Sl.v t245_2)]), (b_9, [(Sl.v t237_1), (Sl.v t237_2)]), (b_8, [(Sl.v t227_3), (Sl.v t227_4)]), (b_7, [(Sl.v t227_1)]), (b_4, [(Sl.v t79_1), (Sl.v t79_2)]), (b_3, [(Sl.v t71_1), (Sl.v t71_2)]), (b_2, [(Sl.v t61_3), (Sl.v t61_4)]), (b_1, [(Sl.v t61_1)])] ∧
  ((!t297_1) = true →
  K (VB false) h_58) ∧
  ((!t297_1) = false →
  ((!(t260_3 == t268_3)) = true →
  K (VB false) h_58) ∧
  ((!(t260_3 == t268_3)) = false →
  callM P 40 #[(Value.agg #[(Sl.v t260_1), (Sl.v t260_2)]), (Value.agg #[(Sl.v t268_1), (Sl.v t268_2)])] h_58 fun rv_25 h_59 => ∃ t308_1 : Bool, rv_25 = (VB t308_1) ∧ Vars h_59 [(b_16, [(Sl.v t273_3), (Sl.v t273_4)]), (b_15, [(Sl.v t273_1)]), (b_14, [(Sl.v t268_1), (Sl.v t268_2)]), (b_13, [(Sl.v t260_1), (Sl.v t260_2)]), (b_12, [(Sl.v t250_3), (Sl.v t250_4)]), (b_11, [(Sl.v t250_1)]), (b_10, [(Sl.v t245_1), (Sl.v t245_2)]), (b_9, [(Sl.v t237_1), (Sl.v t237_2)]), (b_8, [(Sl.v t227_3), (Sl.v t227_4)]), (b_7, [(Sl.v t227_1)]), (b_4, [(Sl.v t79_1), (Sl.v t79_2)]), (b_3, [(Sl.v t71_1), (Sl.v t71_2)]), (b_2, [(Sl.v t61_3), (Sl.v t61_4)]), (b_1, [(Sl.v t61_1)])] ∧
  ((!t308_1) = true →
  K (VB false) h_59) ∧
  ((!t308_1) = false →
  ((!(t281_2 == t288_2)) = true →
  K (VB false) h_59) ∧
  ((!(t281_2 == t288_2)) = false →
  ((!(t281_1 == t288_1)) = true →
  K (VB false) h_59) ∧
  ((!(t281_1 == t288_1)) = false →
  (t237_3 = true →
  callM P 43 #[(Value.agg #[(Sl.v t227_1)]), (VI t227_2), (Value.agg #[(Sl.v t227_3), (Sl.v t227_4)]), (Sl.v nilSl)] h_59 fun rv_26 h_60 => ∃ t326_1 : Sl, ∃ t326_2 : Sl, ∃ t326_3 : Bool, rv_26 = (Value.tuple #[(Value.agg #[(Sl.v t326_1), (Sl.v t326_2)]), (VB t326_3)]) ∧ Vars h_60 [(b_16, [(Sl.v t273_3), (Sl.v t273_4)]), (b_15, [(Sl.v t273_1)]), (b_14, [(Sl.v t268_1), (Sl.v t268_2)]), (b_13, [(Sl.v t260_1), (Sl.v t260_2)]), (b_12, [(Sl.v t250_3), (Sl.v t250_4)]), (b_11, [(Sl.v t250_1)]), (b_10, [(Sl.v t245_1), (Sl.v t245_2)]), (b_9, [(Sl.v t237_1), (Sl.v t237_2)]), (b_8, [(Sl.v t227_3), (Sl.v t227_4)]), (b_7, [(Sl.v t227_1)]), (b_4, [(Sl.v t79_1), (Sl.v t79_2)]), (b_3, [(Sl.v t71_1), (Sl.v t71_2)]), (b_2, [(Sl.v t61_3), (Sl.v t61_4)]), (b_1, [(Sl.v t61_1)])] ∧
  ∀ (b_17 : Nat) (h_62 : Heap), h_60.size ≤ b_17 → Fr (In []) h_60 h_62 → Vars h_62 [(b_17, [(Sl.v t326_1), (Sl.v t326_2)]), (b_16, [(Sl.v t273_3), (Sl.v t273_4)]), (b_15, [(Sl.v t273_1)]), (b_14, [(Sl.v t268_1), (Sl.v t268_2)]), (b_13, [(Sl.v t260_1), (Sl.v t260_2)]), (b_12, [(Sl.v t250_3), (Sl.v t250_4)]), (b_11, [(Sl.v t250_1)]), (b_10, [(Sl.v t245_1), (Sl.v t245_2)]), (b_9, [(Sl.v t237_1), (Sl.v t237_2)]), (b_8, [(Sl.v t227_3), (Sl.v t227_4)]), (b_7, [(Sl.v t227_1)]), (b_4, [(Sl.v t79_1), (Sl.v t79_2)]), (b_3, [(Sl.v t71_1), (Sl.v t71_2)]), (b_2, [(Sl.v t61_3), (Sl.v t61_4)]), (b_1, [(Sl.v t61_1)])] →
  callM P 43 #[(Value.agg #[(Sl.v t227_1)]), (VI t227_2), (Value.agg #[(Sl.v t237_1), (Sl.v t237_2)]), (Sl.v nilSl)] h_62 fun rv_27 h_63 => ∃ t333_1 : Sl, ∃ t333_2 : Sl, ∃ t333_3 : Bool, rv_27 = (Value.tuple #[(Value.agg #[(Sl.v t333_1), (Sl.v t333_2)]), (VB t333_3)]) ∧ Vars h_63 [(b_17, [(Sl.v t326_1), (Sl.v t326_2)]), (b_16, [(Sl.v t273_3), (Sl.v t273_4)]), (b_15, [(Sl.v t273_1)]), (b_14, [(Sl.v t268_1), (Sl.v t268_2)]), (b_13, [(Sl.v t260_1), (Sl.v t260_2)]), (b_12, [(Sl.v t250_3), (Sl.v t250_4)]), (b_11, [(Sl.v t250_1)]), (b_10, [(Sl.v t245_1), (Sl.v t245_2)]), (b_9, [(Sl.v t237_1), (Sl.v t237_2)]), (b_8, [(Sl.v t227_3), (Sl.v t227_4)]), (b_7, [(Sl.v t227_1)]), (b_4, [(Sl.v t79_1), (Sl.v t79_2)]), (b_3, [(Sl.v t71_1), (Sl.v t71_2)]), (b_2, [(Sl.v t61_3), (Sl.v t61_4)]), (b_1, [(Sl.v t61_1)])] ∧
  ∀ (b_18 : Nat) (h_65 : Heap), h_63.size ≤ b_18 → Fr (In []) h_63 h_65 → Vars h_65 [(b_18, [(Sl.v t333_1), (Sl.v t333_2)]), (b_17, [(Sl.v t326_1), (Sl.v t326_2)]), (b_16, [(Sl.v t273_3), (Sl.v t273_4)]), (b_15, [(Sl.v t273_1)]), (b_14, [(Sl.v t268_1), (Sl.v t268_2)]), (b_13, [(Sl.v t260_1), (Sl.v t260_2)]), (b_12, [(Sl.v t250_3), (Sl.v t250_4)]), (b_11, [(Sl.v t250_1)]), (b_10, [(Sl.v t245_1), (Sl.v t245_2)]), (b_9, [(Sl.v t237_1), (Sl.v t237_2)]), (b_8, [(Sl.v t227_3), (Sl.v t227_4)]), (b_7, [(Sl.v t227_1)]), (b_4, [(Sl.v t79_1), (Sl.v t79_2)]), (b_3, [(Sl.v t71_1), (Sl.v t71_2)]), (b_2, [(Sl.v t61_3), (Sl.v t61_4)]), (b_1, [(Sl.v t61_1)])] →
  callM P 15 #[(Value.agg #[(Sl.v t227_1)]), (VI t227_2), (Value.agg #[(Sl.v t227_3), (Sl.v t227_4)])] h_65 fun rv_28 h_66 => ∃ t340_1 : Sl, ∃ t340_2 : Bool, rv_28 = (Value.tuple #[(Sl.v t340_1), (VB t340_2)]) ∧ Vars h_66 [(b_18, [(Sl.v t333_1), (Sl.v t333_2)]), (b_17, [(Sl.v t326_1), (Sl.v t326_2)]), (b_16, [(Sl.v t273_3), (Sl.v t273_4)]), (b_15, [(Sl.v t273_1)]), (b_14, [(Sl.v t268_1), (Sl.v t268_2)]), (b_13, [(Sl.v t260_1), (Sl.v t260_2)]), (b_12, [(Sl.v t250_3), (Sl.v t250_4)]), (b_11, [(Sl.v t250_1)]), (b_10, [(Sl.v t245_1), (Sl.v t245_2)]), (b_9, [(Sl.v t237_1), (Sl.v t237_2)]), (b_8, [(Sl.v t227_3), (Sl.v t227_4)]), (b_7, [(Sl.v t227_1)]), (b_4, [(Sl.v t79_1), (Sl.v t79_2)]), (b_3, [(Sl.v t71_1), (Sl.v t71_2)]), (b_2, [(Sl.v t61_3), (Sl.v t61_4)]), (b_1, [(Sl.v t61_1)])] ∧
  callM P 15 #[(Value.agg #[(Sl.v t227_1)]), (VI t227_2), (Value.agg #[(Sl.v t237_1), (Sl.v t237_2)])] h_66 fun rv_29 h_67 => ∃ t347_1 : Sl, ∃ t347_2 : Bool, rv_29 = (Value.tuple #[(Sl.v t347_1), (VB t347_2)]) ∧ Vars h_67 [(b_18, [(Sl.v t333_1), (Sl.v t333_2)]), (b_17, [(Sl.v t326_1), (Sl.v t326_2)]), (b_16, [(Sl.v t273_3), (Sl.v t273_4)]), (b_15, [(Sl.v t273_1)]), (b_14, [(Sl.v t268_1), (Sl.v t268_2)]), (b_13, [(Sl.v t260_1), (Sl.v t260_2)]), (b_12, [(Sl.v t250_3), (Sl.v t250_4)]), (b_11, [(Sl.v t250_1)]), (b_10, [(Sl.v t245_1), (Sl.v t245_2)]), (b_9, [(Sl.v t237_1), (Sl.v t237_2)]), (b_8, [(Sl.v t227_3), (Sl.v t227_4)]), (b_7, [(Sl.v t227_1)]), (b_4, [(Sl.v t79_1), (Sl.v t79_2)]), (b_3, [(Sl.v t71_1), (Sl.v t71_2)]), (b_2, [(Sl.v t61_3), (Sl.v t61_4)]), (b_1, [(Sl.v t61_1)])] ∧
  (t326_3 = true →
  (t333_3 = true →
  callM P 40 #[(Value.agg #[(Sl.v t326_1), (Sl.v t326_2)]), (Value.agg #[(Sl.v t333_1), (Sl.v t333_2)])] h_67 fun rv_30 h_68 => ∃ t357_1 : Bool, rv_30 = (VB t357_1) ∧ Vars h_68 [(b_18, [(Sl.v t333_1), (Sl.v t333_2)]), (b_17, [(Sl.v t326_1), (Sl.v t326_2)]), (b_16, [(Sl.v t273_3), (Sl.v t273_4)]), (b_15, [(Sl.v t273_1)]), (b_14, [(Sl.v t268_1), (Sl.v t268_2)]), (b_13, [(Sl.v t260_1), (Sl.v t260_2)]), (b_12, [(Sl.v t250_3), (Sl.v t250_4)]), (b_11, [(Sl.v t250_1)]), (b_10, [(Sl.v t245_1), (Sl.v t245_2)]), (b_9, [(Sl.v t237_1), (Sl.v t237_2)]), (b_8, [(Sl.v t227_3), (Sl.v t227_4)]), (b_7, [(Sl.v t227_1)]), (b_4, [(Sl.v t79_1), (Sl.v t79_2)]), (b_3, [(Sl.v t71_1), (Sl.v t71_2)]), (b_2, [(Sl.v t61_3), (Sl.v t61_4)]), (b_1, [(Sl.v t61_1)])] ∧
  ((!t357_1) = true →
  K (VB false) h_68) ∧
  ((!t357_1) = false →
  (t340_2 = true →
  (t347_2 = true →
  callM P 41 #[(Sl.v t340_1)] h_68 fun rv_31 h_69 => ∃ t367_1 : Int, rv_31 = (VI t367_1) ∧ Vars h_69 [(b_18, [(Sl.v t333_1), (Sl.v t333_2)]), (b_17, [(Sl.v t326_1), (Sl.v t326_2)]), (b_16, [(Sl.v t273_3), (Sl.v t273_4)]), (b_15, [(Sl.v t273_1)]), (b_14, [(Sl.v t268_1), (Sl.v t268_2)]), (b_13, [(Sl.v t260_1), (Sl.v t260_2)]), (b_12, [(Sl.v t250_3), (Sl.v t250_4)]), (b_11, [(Sl.v t250_1)]), (b_10, [(Sl.v t245_1), (Sl.v t245_2)]), (b_9, [(Sl.v t237_1), (Sl.v t237_2)]), (b_8, [(Sl.v t227_3), (Sl.v t227_4)]), (b_7, [(Sl.v t227_1)]), (b_4, [(Sl.v t79_1), (Sl.v t79_2)]), (b_3, [(Sl.v t71_1), (Sl.v t71_2)]), (b_2, [(Sl.v t61_3), (Sl.v t61_4)]), (b_1, [(Sl.v t61_1)])] ∧
  callM P 41 #[(Sl.v t347_1)] h_69 fun rv_32 h_70 => ∃ t369_1 : Int, rv_32 = (VI t369_1) ∧ Vars h_70 [(b_18, [(Sl.v t333_1), (Sl.v t333_2)]), (b_17, [(Sl.v t326_1), (Sl.v t326_2)]), (b_16, [(Sl.v t273_3), (Sl.v t273_4)]), (b_15, [(Sl.v t273_1)]), (b_14, [(Sl.v t268_1), (Sl.v t268_2)]), (b_13, [(Sl.v t260_1), (Sl.v t260_2)]), (b_12, [(Sl.v t250_3), (Sl.v t250_4)]), (b_11, [(Sl.v t250_1)]), (b_10, [(Sl.v t245_1), (Sl.v t245_2)]), (b_9, [(Sl.v t237_1), (Sl.v t237_2)]), (b_8, [(Sl.v t227_3), (Sl.v t227_4)]), (b_7, [(Sl.v t227_1)]), (b_4, [(Sl.v t79_1), (Sl.v t79_2)]), (b_3, [(Sl.v t71_1), (Sl.v t71_2)]), (b_2, [(Sl.v t61_3), (Sl.v t61_4)]), (b_1, [(Sl.v t61_1)])] ∧
  ((!decide (t367_1 = (w64 (t369_1 + (t227_5.n : Int))))) = true →
  K (VB false) h_70) ∧
  ((!decide (t367_1 = (w64 (t369_1 + (t227_5.n : Int))))) = false →
  K (VB true) h_70)) ∧
  (t347_2 = false →
  K (VB true) h_68)) ∧
  (t340_2 = false →
  K (VB true) h_68))) ∧
  (t333_3 = false →
  (t340_2 = true →
  (t347_2 = true →
  callM P 41 #[(Sl.v t340_1)] h_67 fun rv_33 h_71 => ∃ t367_2 : Int, rv_33 = (VI t367_2) ∧ Vars h_71 [(b_18, [(Sl.v t333_1), (Sl.v t333_2)]), (b_17, [(Sl.v t326_1), (Sl.v t326_2)]), (b_16, [(Sl.v t273_3), (Sl.v t273_4)]), (b_15, [(Sl.v t273_1)]), (b_14, [(Sl.v t268_1), (Sl.v t268_2)]), (b_13, [(Sl.v t260_1), (Sl.v t260_2)]), (b_12, [(Sl.v t250_3), (Sl.v t250_4)]), (b_11, [(Sl.v t250_1)]), (b_10, [(Sl.v t245_1), (Sl.v t245_2)]), (b_9, [(Sl.v t237_1), (Sl.v t237_2)]), (b_8, [(Sl.v t227_3), (Sl.v t227_4)]), (b_7, [(Sl.v t227_1)]), (b_4, [(Sl.v t79_1), (Sl.v t79_2)]), (b_3, [(Sl.v t71_1), (Sl.v t71_2)]), (b_2, [(Sl.v t61_3), (Sl.v t61_4)]), (b_1, [(Sl.v t61_1)])] ∧
  callM P 41 #[(Sl.v t347_1)] h_71 fun rv_34 h_72 => ∃ t369_2 : Int, rv_34 = (VI t369_2) ∧ Vars h_72 [(b_18, [(Sl.v t333_1), (Sl.v t333_2)]), (b_17, [(Sl.v t326_1), (Sl.v t326_2)]), (b_16, [(Sl.v t273_3), (Sl.v t273_4)]), (b_15, [(Sl.v t273_1)]), (b_14, [(Sl.v t268_1), (Sl.v t268_2)]), (b_13, [(Sl.v t260_1), (Sl.v t260_2)]), (b_12, [(Sl.v t250_3), (Sl.v t250_4)]), (b_11, [(Sl.v t250_1)]), (b_10, [(Sl.v t245_1), (Sl.v t245_2)]), (b_9, [(Sl.v t237_1), (Sl.v t237_2)]), (b_8, [(Sl.v t227_3), (Sl.v t227_4)]), (b_7, [(Sl.v t227_1)]), (b_4, [(Sl.v t79_1), (Sl.v t79_2)]), (b_3, [(Sl.v t71_1), (Sl.v t71_2)]), (b_2, [(Sl.v t61_3), (Sl.v t61_4)]), (b_1, [(Sl.v t61_1)])] ∧
  ((!decide (t367_2 = (w64 (t369_2 + (t227_5.n : Int))))) = true →
  K (VB false) h_72) ∧
  ((!decide (t367_2 = (w64 (t369_2 + (t227_5.n : Int))))) = false →
  K (VB true) h_72)) ∧
  (t347_2 = false →
  K (VB true) h_67)) ∧
  (t340_2 = false →
  K (VB true) h_67))) ∧
  (t326_3 = false →
  (t340_2 = true →
  (t347_2 = true →
  callM P 41 #[(Sl.v t340_1)] h_67 fun rv_35 h_73 => ∃ t367_3 : Int, rv_35 = (VI t367_3) ∧ Vars h_73 [(b_18, [(Sl.v t333_1), (Sl.v t333_2)]), (b_17, [(Sl.v t326_1), (Sl.v t326_2)]), (b_16, [(Sl.v t273_3), (Sl.v t273_4)]), (b_15, [(Sl.v t273_1)]), (b_14, [(Sl.v t268_1), (Sl.v t268_2)]), (b_13, [(Sl.v t260_1), (Sl.v t260_2)]), (b_12, [(Sl.v t250_3), (Sl.v t250_4)]), (b_11, [(Sl.v t250_1)]), (b_10, [(Sl.v t245_1), (Sl.v t245_2)]), (b_9, [(Sl.v t237_1), (Sl.v t237_2)]), (b_8, [(Sl.v t227_3), (Sl.v t227_4)]), (b_7, [(Sl.v t227_1)]), (b_4, [(Sl.v t79_1), (Sl.v t79_2)]), (b_3, [(Sl.v t71_1), (Sl.v t71_2)]), (b_2, [(Sl.v t61_3), (Sl.v t61_4)]), (b_1, [(Sl.v t61_1)])] ∧
  callM P 41 #[(Sl.v t347_1)] h_73 fun rv_36 h_74 => ∃ t369_3 : Int, rv_36 = (VI t369_3) ∧ Vars h_74 [(b_18, [(Sl.v t333_1), (Sl.v t333_2)]), (b_17, [(Sl.v t326_1), (Sl.v t326_2)]), (b_16, [(Sl.v t273_3), (Sl.v t273_4)]), (b_15, [(Sl.v t273_1)]), (b_14, [(Sl.v t268_1), (Sl.v t268_2)]), (b_13, [(Sl.v t260_1), (Sl.v t260_2)]), (b_12, [(Sl.v t250_3), (Sl.v t250_4)]), (b_11, [(Sl.v t250_1)]), (b_10, [(Sl.v t245_1), (Sl.v t245_2)]), (b_9, [(Sl.v t237_1), (Sl.v t237_2)]), (b_8, [(Sl.v t227_3), (Sl.v t227_4)]), (b_7, [(Sl.v t227_1)]), (b_4, [(Sl.v t79_1), (Sl.v t79_2)]), (b_3, [(Sl.v t71_1), (Sl.v t71_2)]), (b_2, [(Sl.v t61_3), (Sl.v t61_4)]), (b_1, [(Sl.v t61_1)])] ∧
  ((!decide (t367_3 = (w64 (t369_3 + (t227_5.n : Int))))) = true →
  K (VB false) h_74) ∧
  ((!decide (t367_3 = (w64 (t369_3 + (t227_5.n : Int))))) = false →
  K (VB true) h_74)) ∧
  (t347_2 = false →
  K (VB true) h_67)) ∧
  (t340_2 = false →
  K (VB true) h_67))) ∧
  (t237_3 = false →
  K (VB true) h_59))))))))) ∧
  (t71_3 = false →
  ∃ J_3 : Heap → Prop, (J_3  h_16) ∧
  ∀ (h_75 : Heap), J_3  h_75 → Vars h_75 [(b_4, [(Sl.v t79_1), (Sl.v t79_2)]), (b_3, [(Sl.v t71_1), (Sl.v t71_2)]), (b_2, [(Sl.v t61_3), (Sl.v t61_4)]), (b_1, [(Sl.v t61_1)])] →
  callM P 47 #[(Sl.v more1_1)] h_75 fun rv_37 h_76 => ∃ t227_6 : Sl, ∃ t227_7 : Int, ∃ t227_8 : Sl, ∃ t227_9 : Sl, ∃ t227_10 : Sl, rv_37 = (Value.tuple #[(Value.agg #[(Sl.v t227_6)]), (VI t227_7), (Value.agg #[(Sl.v t227_8), (Sl.v t227_9)]), (Sl.v t227_10)]) ∧ Vars h_76 [(b_4, [(Sl.v t79_1), (Sl.v t79_2)]), (b_3, [(Sl.v t71_1), (Sl.v t71_2)]), (b_2, [(Sl.v t61_3), (Sl.v t61_4)]), (b_1, [(Sl.v t61_1)])] ∧
  ∀ (b_19 : Nat) (b_20 : Nat) (h_80 : Heap), h_76.size ≤ b_19 → h_76.size ≤ b_20 → Fr (In []) h_76 h_80 → Vars h_80 [(b_20, [(Sl.v t227_8), (Sl.v t227_9)]), (b_19, [(Sl.v t227_6)]), (b_4, [(Sl.v t79_1), (Sl.v t79_2)]), (b_3, [(Sl.v t71_1), (Sl.v t71_2)]), (b_2, [(Sl.v t61_3), (Sl.v t61_4)]), (b_1, [(Sl.v t61_1)])] →
  callM P 48 #[(Value.agg #[(Sl.v t227_6)]), (VI t227_7), (Value.agg #[(Sl.v t227_8), (Sl.v t227_9)]), (Sl.v t227_10)] h_80 fun rv_38 h_81 => ∃ t237_4 : Sl, ∃ t237_5 : Sl, ∃ t237_6 : Bool, rv_38 = (Value.tuple #[(Value.agg #[(Sl.v t237_4), (Sl.v t237_5)]), (VB t237_6)]) ∧ Vars h_81 [(b_20, [(Sl.v t227_8), (Sl.v t227_9)]), (b_19, [(Sl.v t227_6)]), (b_4, [(Sl.v t79_1), (Sl.v t79_2)]), (b_3, [(Sl.v t71_1), (Sl.v t71_2)]), (b_2, [(Sl.v t61_3), (Sl.v t61_4)]), (b_1, [(Sl.v t61_1)])] ∧
  ∀ (b_21 : Nat) (h_83 : Heap), h_81.size ≤ b_21 → Fr (In []) h_81 h_83 → Vars h_83 [(b_21, [(Sl.v t237_4), (Sl.v t237_5)]), (b_20, [(Sl.v t227_8), (Sl.v t227_9)]), (b_19, [(Sl.v t227_6)]), (b_4, [(Sl.v t79_1), (Sl.v t79_2)]), (b_3, [(Sl.v t71_1), (Sl.v t71_2)]), (b_2, [(Sl.v t61_3), (Sl.v t61_4)]), (b_1, [(Sl.v t61_1)])] →
  callM P 49 #[(Value.agg #[(Sl.v t227_6)]), (VI t227_7), (Value.agg #[(Sl.v t227_8), (Sl.v t227_9)]), (Sl.v t227_10)] h_83 fun rv_39 h_84 => ∃ t245_4 : Sl, ∃ t245_5 : Sl, ∃ t245_6 : Bool, rv_39 = (Value.tuple #[(Value.agg #[(Sl.v t245_4), (Sl.v t245_5)]), (VB t245_6)]) ∧ Vars h_84 [(b_21, [(Sl.v t237_4), (Sl.v t237_5)]), (b_20, [(Sl.v t227_8), (Sl.v t227_9)]), (b_19, [(Sl.v t227_6)]), (b_4, [(Sl.v t79_1), (Sl.v t79_2)]), (b_3, [(Sl.v t71_1), (Sl.v t71_2)]), (b_2, [(Sl.v t61_3), (Sl.v t61_4)]), (b_1, [(Sl.v t61_1)])] ∧
  ∀ (b_22 : Nat) (h_86 : Heap), h_84.size ≤ b_22 → Fr (In []) h_84 h_86 → Vars h_86 [(b_22, [(Sl.v t245_4), (Sl.v t245_5)]), (b_21, [(Sl.v t237_4), (Sl.v t237_5)]), (b_20, [(Sl.v t227_8), (Sl.v t227_9)]), (b_19, [(Sl.v t227_6)]), (b_4, [(Sl.v t79_1), (Sl.v t79_2)]), (b_3, [(Sl.v t71_1), (Sl.v t71_2)]), (b_2, [(Sl.v t61_3), (Sl.v t61_4)]), (b_1, [(Sl.v t61_1)])] →
  callM P 50 #[(Sl.v more1_1)] h_86 fun rv_40 h_87 => ∃ t250_6 : Sl, ∃ t250_7 : Int, ∃ t250_8 : Sl, ∃ t250_9 : Sl, ∃ t250_10 : Int, rv_40 = (Value.tuple #[(Value.agg #[(Sl.v t250_6)]), (VI t250_7), (Value.agg #[(Sl.v t250_8), (Sl.v t250_9)]), (VI t250_10)]) ∧ Vars h_87 [(b_22, [(Sl.v t245_4), (Sl.v t245_5)]), (b_21, [(Sl.v t237_4), (Sl.v t237_5)]), (b_20, [(Sl.v t227_8), (Sl.v t227_9)]), (b_19, [(Sl.v t227_6)]), (b_4, [(Sl.v t79_1), (Sl.v t79_2)]), (b_3, [(Sl.v t71_1), (Sl.v t71_2)]), (b_2, [(Sl.v t61_3), (Sl.v t61_4)]), (b_1, [(Sl.v t61_1)])] ∧
  ∀ (b_23 : Nat) (b_24 : Nat) (h_91 : Heap), h_87.size ≤ b_23 → h_87.size ≤ b_24 → Fr (In []) h_87 h_91 → Vars h_91 [(b_24, [(Sl.v t250_8), (Sl.v t250_9)]), (b_23, [(Sl.v t250_6)]), (b_22, [(Sl.v t245_4), (Sl.v t245_5)]), (b_21, [(Sl.v t237_4), (Sl.v t237_5)]), (b_20, [(Sl.v t227_8), (Sl.v t227_9)]), (b_19, [(Sl.v t227_6)]), (b_4, [(Sl.v t79_1), (Sl.v t79_2)]), (b_3, [(Sl.v t71_1), (Sl.v t71_2)]), (b_2, [(Sl.v t61_3), (Sl.v t61_4)]), (b_1, [(Sl.v t61_1)])] →
  callM P 51 #[(Value.agg #[(Sl.v t250_6)]), (VI t250_7), (Value.agg #[(Sl.v t250_8), (Sl.v t250_9)]), (VI t250_10)] h_91 fun rv_41 h_92 => ∃ t260_4 : Sl, ∃ t260_5 : Sl, ∃ t260_6 : Bool, rv_41 = (Value.tuple #[(Value.agg #[(Sl.v t260_4), (Sl.v t260_5)]), (VB t260_6)]) ∧ Vars h_92 [(b_24, [(Sl.v t250_8), (Sl.v t250_9)]), (b_23, [(Sl.v t250_6)]), (b_22, [(Sl.v t245_4), (Sl.v t245_5)]), (b_21, [(Sl.v t237_4), (Sl.v t237_5)]), (b_20, [(Sl.v t227_8), (Sl.v t227_9)]), (b_19, [(Sl.v t227_6)]), (b_4, [(Sl.v t79_1), (Sl.v t79_2)]), (b_3, [(Sl.v t71_1), (Sl.v t71_2)]), (b_2, [(Sl.v t61_3), (Sl.v t61_4)]), (b_1, [(Sl.v t61_1)])] ∧
  ∀ (b_25 : Nat) (h_94 : Heap), h_92.size ≤ b_25 → Fr (In []) h_92 h_94 → Vars h_94 [(b_25, [(Sl.v t260_4), (Sl.v t260_5)]), (b_24, [(Sl.v t250_8), (Sl.v t250_9)]), (b_23, [(Sl.v t250_6)]), (b_22, [(Sl.v t245_4), (Sl.v t245_5)]), (b_21, [(Sl.v t237_4), (Sl.v t237_5)]), (b_20, [(Sl.v t227_8), (Sl.v t227_9)]), (b_19, [(Sl.v t227_6)]), (b_4, [(Sl.v t79_1), (Sl.v t79_2)]), (b_3, [(Sl.v t71_1), (Sl.v t71_2)]), (b_2, [(Sl.v t61_3), (Sl.v t61_4)]), (b_1, [(Sl.v t61_1)])] →
  callM P 52 #[(Value.agg #[(Sl.v t250_6)]), (VI t250_7), (Value.agg #[(Sl.v t250_8), (Sl.v t250_9)]), (VI t250_10)] h_94 fun rv_42 h_95 => ∃ t268_4 : Sl, ∃ t268_5 : Sl, ∃ t268_6 : Bool, rv_42 = (Value.tuple #[(Value.agg #[(Sl.v t268_4), (Sl.v t268_5)]), (VB t268_6)]) ∧ Vars h_95 [(b_25, [(Sl.v t260_4), (Sl.v t260_5)]), (b_24, [(Sl.v t250_8), (Sl.v t250_9)]), (b_23, [(Sl.v t250_6)]), (b_22, [(Sl.v t245_4), (Sl.v t245_5)]), (b_21, [(Sl.v t237_4), (Sl.v t237_5)]), (b_20, [(Sl.v t227_8), (Sl.v t227_9)]), (b_19, [(Sl.v t227_6)]), (b_4, [(Sl.v t79_1), (Sl.v t79_2)]), (b_3, [(Sl.v t71_1), (Sl.v t71_2)]), (b_2, [(Sl.v t61_3), (Sl.v t61_4)]), (b_1, [(Sl.v t61_1)])] ∧
  ∀ (b_26 : Nat) (h_97 : Heap), h_95.size ≤ b_26 → Fr (In []) h_95 h_97 → Vars h_97 [(b_26, [(Sl.v t268_4), (Sl.v t268_5)]), (b_25, [(Sl.v t260_4), (Sl.v t260_5)]), (b_24, [(Sl.v t250_8), (Sl.v t250_9)]), (b_23, [(Sl.v t250_6)]), (b_22, [(Sl.v t245_4), (Sl.v t245_5)]), (b_21, [(Sl.v t237_4), (Sl.v t237_5)]), (b_20, [(Sl.v t227_8), (Sl.v t227_9)]), (b_19, [(Sl.v t227_6)]), (b_4, [(Sl.v t79_1), (Sl.v t79_2)]), (b_3, [(Sl.v t71_1), (Sl.v t71_2)]), (b_2, [(Sl.v t61_3), (Sl.v t61_4)]), (b_1, [(Sl.v t61_1)])] →
  callM P 53 #[(Sl.v more1_1)] h_97 fun rv_43 h_98 => ∃ t273_5 : Sl, ∃ t273_6 : Int, ∃ t273_7 : Sl, ∃ t273_8 : Sl, rv_43 = (Value.tuple #[(Value.agg #[(Sl.v t273_5)]), (VI t273_6), (Value.agg #[(Sl.v t273_7), (Sl.v t273_8)])]) ∧ Vars h_98 [(b_26, [(Sl.v t268_4), (Sl.v t268_5)]), (b_25, [(Sl.v t260_4), (Sl.v t260_5)]), (b_24, [(Sl.v t250_8), (Sl.v t250_9)]), (b_23, [(Sl.v t250_6)]), (b_22, [(Sl.v t245_4), (Sl.v t245_5)]), (b_21, [(Sl.v t237_4), (Sl.v t237_5)]), (b_20, [(Sl.v t227_8), (Sl.v t227_9)]), (b_19, [(Sl.v t227_6)]), (b_4, [(Sl.v t79_1), (Sl.v t79_2)]), (b_3, [(Sl.v t71_1), (Sl.v t71_2)]), (b_2, [(Sl.v t61_3), (Sl.v t61_4)]), (b_1, [(Sl.v t61_1)])] ∧
  ∀ (b_27 : Nat) (b_28 : Nat) (h_102 : Heap), h_98.size ≤ b_27 → h_98.size ≤ b_28 → Fr (In []) h_98 h_102 → Vars h_102 [(b_28, [(Sl.v t273_7), (Sl.v t273_8)]), (b_27, [(Sl.v t273_5)]), (b_26, [(Sl.v t268_4), (Sl.v t268_5)]), (b_25, [(Sl.v t260_4), (Sl.v t260_5)]), (b_24, [(Sl.v t250_8), (Sl.v t250_9)]), (b_23, [(Sl.v t250_6)]), (b_22, [(Sl.v t245_4), (Sl.v t245_5)]), (b_21, [(Sl.v t237_4), (Sl.v t237_5)]), (b_20, [(Sl.v t227_8), (Sl.v t227_9)]), (b_19, [(Sl.v t227_6)]), (b_4, [(Sl.v t79_1), (Sl.v t79_2)]), (b_3, [(Sl.v t71_1), (Sl.v t71_2)]), (b_2, [(Sl.v t61_3), (Sl.v t61_4)]), (b_1, [(Sl.v t61_1)])] →
  callM P 46 #[(Value.agg #[(Sl.v t273_5)]), (VI t273_6), (Value.agg #[(Sl.v t273_7), (Sl.v t273_8)])] h_102 fun rv_44 h_103 => ∃ t281_3 : Bool, ∃ t281_4 : Bool, rv_44 = (Value.tuple #[(VB t281_3), (VB t281_4)]) ∧ Vars h_103 [(b_28, [(Sl.v t273_7), (Sl.v t273_8)]), (b_27, [(Sl.v t273_5)]), (b_26, [(Sl.v t268_4), (Sl.v t268_5)]), (b_25, [(Sl.v t260_4), (Sl.v t260_5)]), (b_24, [(Sl.v t250_8), (Sl.v t250_9)]), (b_23, [(Sl.v t250_6)]), (b_22, [(Sl.v t245_4), (Sl.v t245_5)]), (b_21, [(Sl.v t237_4), (Sl.v t237_5)]), (b_20, [(Sl.v t227_8), (Sl.v t227_9)]), (b_19, [(Sl.v t227_6)]), (b_4, [(Sl.v t79_1), (Sl.v t79_2)]), (b_3, [(Sl.v t71_1), (Sl.v t71_2)]), (b_2, [(Sl.v t61_3), (Sl.v t61_4)]), (b_1, [(Sl.v t61_1)])] ∧
  callM P 54 #[(Value.agg #[(Sl.v t273_5)]), (VI t273_6), (Value.agg #[(Sl.v t273_7), (Sl.v t273_8)])] h_103 fun rv_45 h_104 => ∃ t288_3 : Bool, ∃ t288_4 : Bool, rv_45 = (Value.tuple #[(VB t288_3), (VB t288_4)]) ∧ Vars h_104 [(b_28, [(Sl.v t273_7), (Sl.v t273_8)]), (b_27, [(Sl.v t273_5)]), (b_26, [(Sl.v t268_4), (Sl.v t268_5)]), (b_25, [(Sl.v t260_4), (Sl.v t260_5)]), (b_24, [(Sl.v t250_8), (Sl.v t250_9)]), (b_23, [(Sl.v t250_6)]), (b_22, [(Sl.v t245_4), (Sl.v t245_5)]), (b_21, [(Sl.v t237_4), (Sl.v t237_5)]), (b_20, [(Sl.v t227_8), (Sl.v t227_9)]), (b_19, [(Sl.v t227_6)]), (b_4, [(Sl.v t79_1), (Sl.v t79_2)]), (b_3, [(Sl.v t71_1), (Sl.v t71_2)]), (b_2, [(Sl.v t61_3), (Sl.v t61_4)]), (b_1, [(Sl.v t61_1)])] ∧
  ((!(t237_6 == t245_6)) = true →
  K (VB false) h_104) ∧
  ((!(t237_6 == t245_6)) = false →
  callM P 40 #[(Value.agg #[(Sl.v t237_4), (Sl.v t237_5)]), (Value.agg #[(Sl.v t245_4), (Sl.v t245_5)])] h_104 fun rv_46 h_105 => ∃ t297_2 : Bool, rv_46 = (VB t297_2) ∧ Vars h_105 [(b_28, [(Sl.v t273_7), (Sl.v t273_8)]), (b_27, [(Sl.v t273_5)]), (b_26, [(Sl.v t268_4), (Sl.v t268_5)]), (b_25, [(Sl.v t260_4), (Sl.v t260_5)]), (b_24, [(Sl.v t250_8), (Sl.v t250_9)]), (b_23, [(Sl.v t250_6)]), (b_22, [(Sl.v t245_4), (Sl.v t245_5)]), (b_21, [(Sl.v t237_4), (Sl.v t237_5)]), (b_20, [(Sl.v t227_8), (Sl.v t227_9)]), (b_19, [(Sl.v t227_6)]), (b_4, [(Sl.v t79_1), (Sl.v t79_2)]), (b_3, [(Sl.v t71_1), (Sl.v t71_2)]), (b_2, [(Sl.v t61_3), (Sl.v t61_4)]), (b_1, [(Sl.v t61_1)])] ∧
  ((!t297_2) = true →
  K (VB false) h_105) ∧
  ((!t297_2) = false →
  ((!(t260_6 == t268_6)) = true →
  K (VB false) h_105) ∧
  ((!(t260_6 == t268_6)) = false →
  callM P 40 #[(Value.agg #[(Sl.v t260_4), (Sl.v t260_5)]), (Value.agg #[(Sl.v t268_4), (Sl.v t268_5)])] h_105 fun rv_47 h_106 => ∃ t308_2 : Bool, rv_47 = (VB t308_2) ∧ Vars h_106 [(b_28, [(Sl.v t273_7), (Sl.v t273_8)]), (b_27, [(Sl.v t273_5)]), (b_26, [(Sl.v t268_4), (Sl.v t268_5)]), (b_25, [(Sl.v t260_4), (Sl.v t260_5)]), (b_24, [(Sl.v t250_8), (Sl.v t250_9)]), (b_23, [(Sl.v t250_6)]), (b_22, [(Sl.v t245_4), (Sl.v t245_5)]), (b_21, [(Sl.v t237_4), (Sl.v t237_5)]), (b_20, [(Sl.v t227_8), (Sl.v t227_9)]), (b_19, [(Sl.v t227_6)]), (b_4, [(Sl.v t79_1), (Sl.v t79_2)]), (b_3, [(Sl.v t71_1), (Sl.v t71_2)]), (b_2, [(Sl.v t61_3), (Sl.v t61_4)]), (b_1, [(Sl.v t61_1)])] ∧
  ((!t308_2) = true →
  K (VB false) h_106) ∧
  ((!t308_2) = false →
  ((!(t281_4 == t288_4)) = true →
  K (VB false) h_106) ∧
  ((!(t281_4 == t288_4)) = false →
  ((!(t281_3 == t288_3)) = true →
  K (VB false) h_106) ∧
  ((!(t281_3 == t288_3)) = false →
  (t237_6 = true →
  callM P 43 #[(Value.agg #[(Sl.v t227_6)]), (VI t227_7), (Value.agg #[(Sl.v t227_8), (Sl.v t227_9)]), (Sl.v nilSl)] h_106 fun rv_48 h_107 => ∃ t326_4 : Sl, ∃ t326_5 : Sl, ∃ t326_6 : Bool, rv_48 = (Value.tuple #[(Value.agg #[(Sl.v t326_4), (Sl.v t326_5)]), (VB t326_6)]) ∧ Vars h_107 [(b_28, [(Sl.v t273_7), (Sl.v t273_8)]), (b_27, [(Sl.v t273_5)]), (b_26, [(Sl.v t268_4), (Sl.v t268_5)]), (b_25, [(Sl.v t260_4), (Sl.v t260_5)]), (b_24, [(Sl.v t250_8), (Sl.v t250_9)]), (b_23, [(Sl.v t250_6)]), (b_22, [(Sl.v t245_4), (Sl.v t245_5)]), (b_21, [(Sl.v t237_4), (Sl.v t237_5)]), (b_20, [(Sl.v t227_8), (Sl.v t227_9)]), (b_19, [(Sl.v t227_6)]), (b_4, [(Sl.v t79_1), (Sl.v t79_2)]), (b_3, [(Sl.v t71_1), (Sl.v t71_2)]), (b_2, [(Sl.v t61_3), (Sl.v t61_4)]), (b_1, [(Sl.v t61_1)])] ∧
  ∀ (b_29 : Nat) (h_109 : Heap), h_107.size ≤ b_29 → Fr (In []) h_107 h_109 → Vars h_109 [(b_29, [(Sl.v t326_4), (Sl.v t326_5)]), (b_28, [(Sl.v t273_7), (Sl.v t273_8)]), (b_27, [(Sl.v t273_5)]), (b_26, [(Sl.v t268_4), (Sl.v t268_5)]), (b_25, [(Sl.v t260_4), (Sl.v t260_5)]), (b_24, [(Sl.v t250_8), (Sl.v t250_9)]), (b_23, [(Sl.v t250_6)]), (b_22, [(Sl.v t245_4), (Sl.v t245_5)]), (b_21, [(Sl.v t237_4), (Sl.v t237_5)]), (b_20, [(Sl.v t227_8), (Sl.v t227_9)]), (b_19, [(Sl.v t227_6)]), (b_4, [(Sl.v t79_1), (Sl.v t79_2)]), (b_3, [(Sl.v t71_1), (Sl.v t71_2)]), (b_2, [(Sl.v t61_3), (Sl.v t61_4)]), (b_1, [(Sl.v t61_1)])] →
  callM P 43 #[(Value.agg #[(Sl.v t227_6)]), (VI t227_7), (Value.agg #[(Sl.v t237_4), (Sl.v t237_5)]), (Sl.v nilSl)] h_109 fun rv_49 h_110 => ∃ t333_4 : Sl, ∃ t333_5 : Sl, ∃ t333_6 : Bool, rv_49 = (Value.tuple #[(Value.agg #[(Sl.v t333_4), (Sl.v t333_5)]), (VB t333_6)]) ∧ Vars h_110 [(b_29, [(Sl.v t326_4), (Sl.v t326_5)]), (b_28, [(Sl.v t273_7), (Sl.v t273_8)]), (b_27, [(Sl.v t273_5)]), (b_26, [(Sl.v t268_4), (Sl.v t268_5)]), (b_25, [(Sl.v t260_4), (Sl.v t260_5)]), (b_24, [(Sl.v t250_8), (Sl.v t250_9)]), (b_23, [(Sl.v t250_6)]), (b_22, [(Sl.v t245_4), (Sl.v t245_5)]), (b_21, [(Sl.v t237_4), (Sl.v t237_5)]), (b_20, [(Sl.v t227_8), (Sl.v t227_9)]), (b_19, [(Sl.v t227_6)]), (b_4, [(Sl.v t79_1), (Sl.v t79_2)]), (b_3, [(Sl.v t71_1), (Sl.v t71_2)]), (b_2, [(Sl.v t61_3), (Sl.v t61_4)]), (b_1, [(Sl.v t61_1)])] ∧
  ∀ (b_30 : Nat) (h_112 : Heap), h_110.size ≤ b_30 → Fr (In []) h_110 h_112 → Vars h_112 [(b_30, [(Sl.v t333_4), (Sl.v t333_5)]), (b_29, [(Sl.v t326_4), (Sl.v t326_5)]), (b_28, [(Sl.v t273_7), (Sl.v t273_8)]), (b_27, [(Sl.v t273_5)]), (b_26, [(Sl.v t268_4), (Sl.v t268_5)]), (b_25, [(Sl.v t260_4), (Sl.v t260_5)]), (b_24, [(Sl.v t250_8), (Sl.v t250_9)]), (b_23, [(Sl.v t250_6)]), (b_22, [(Sl.v t245_4), (Sl.v t245_5)]), (b_21, [(Sl.v t237_4), (Sl.v t237_5)]), (b_20, [(Sl.v t227_8), (Sl.v t227_9)]), (b_19, [(Sl.v t227_6)]), (b_4, [(Sl.v t79_1), (Sl.v t79_2)]), (b_3, [(Sl.v t71_1), (Sl.v t71_2)]), (b_2, [(Sl.v t61_3), (Sl.v t61_4)]), (b_1, [(Sl.v t61_1)])] →
  callM P 15 #[(Value.agg #[(Sl.v t227_6)]), (VI t227_7), (Value.agg #[(Sl.v t227_8), (Sl.v t227_9)])] h_112 fun rv_50 h_113 => ∃ t340_3 : Sl, ∃ t340_4 : Bool, rv_50 = (Value.tuple #[(Sl.v t340_3), (VB t340_4)]) ∧ Vars h_113 [(b_30, [(Sl.v t333_4), (Sl.v t333_5)]), (b_29, [(Sl.v t326_4), (Sl.v t326_5)]), (b_28, [(Sl.v t273_7), (Sl.v t273_8)]), (b_27, [(Sl.v t273_5)]), (b_26, [(Sl.v t268_4), (Sl.v t268_5)]), (b_25, [(Sl.v t260_4), (Sl.v t260_5)]), (b_24, [(Sl.v t250_8), (Sl.v t250_9)]), (b_23, [(Sl.v t250_6)]), (b_22, [(Sl.v t245_4), (Sl.v t245_5)]), (b_21, [(Sl.v t237_4), (Sl.v t237_5)]), (b_20, [(Sl.v t227_8), (Sl.v t227_9)]), (b_19, [(Sl.v t227_6)]), (b_4, [(Sl.v t79_1), (Sl.v t79_2)]), (b_3, [(Sl.v t71_1), (Sl.v t71_2)]), (b_2, [(Sl.v t61_3), (Sl.v t61_4)]), (b_1, [(Sl.v t61_1)])] ∧
  callM P 15 #[(Value.agg #[(Sl.v t227_6)]), (VI t227_7), (Value.agg #[(Sl.v t237_4), (Sl.v t237_5)])] h_113 fun rv_51 h_114 => ∃ t347_3 : Sl, ∃ t347_4 : Bool, rv_51 = (Value.tuple #[(Sl.v t347_3), (VB t347_4)]) ∧ Vars h_114 [(b_30, [(Sl.v t333_4), (Sl.v t333_5)]), (b_29, [(Sl.v t326_4), (Sl.v t326_5)]), (b_28, [(Sl.v t273_7), (Sl.v t273_8)]), (b_27, [(Sl.v t273_5)]), (b_26, [(Sl.v t268_4), (Sl.v t268_5)]), (b_25, [(Sl.v t260_4), (Sl.v t260_5)]), (b_24, [(Sl.v t250_8), (Sl.v t250_9)]), (b_23, [(Sl.v t250_6)]), (b_22, [(Sl.v t245_4), (Sl.v t245_5)]), (b_21, [(Sl.v t237_4), (Sl.v t237_5)]), (b_20, [(Sl.v t227_8), (Sl.v t227_9)]), (b_19, [(Sl.v t227_6)]), (b_4, [(Sl.v t79_1), (Sl.v t79_2)]), (b_3, [(Sl.v t71_1), (Sl.v t71_2)]), (b_2, [(Sl.v t61_3), (Sl.v t61_4)]), (b_1, [(Sl.v t61_1)])] ∧
  (t326_6 = true →
  (t333_6 = true →
  callM P 40 #[(Value.agg #[(Sl.v t326_4), (Sl.v t326_5)]), (Value.agg #[(Sl.v t333_4), (Sl.v t333_5)])] h_114 fun rv_52 h_115 => ∃ t357_2 : Bool, rv_52 = (VB t357_2) ∧ Vars h_115 [(b_30, [(Sl.v t333_4), (Sl.v t333_5)]), (b_29, [(Sl.v t326_4), (Sl.v t326_5)]), (b_28, [(Sl.v t273_7), (Sl.v t273_8)]), (b_27, [(Sl.v t273_5)]), (b_26, [(Sl.v t268_4), (Sl.v t268_5)]), (b_25, [(Sl.v t260_4), (Sl.v t260_5)]), (b_24, [(Sl.v t250_8), (Sl.v t250_9)]), (b_23, [(Sl.v t250_6)]), (b_22, [(Sl.v t245_4), (Sl.v t245_5)]), (b_21, [(Sl.v t237_4), (Sl.v t237_5)]), (b_20, [(Sl.v t227_8), (Sl.v t227_9)]), (b_19, [(Sl.v t227_6)]), (b_4, [(Sl.v t79_1), (Sl.v t79_2)]), (b_3, [(Sl.v t71_1), (Sl.v t71_2)]), (b_2, [(Sl.v t61_3), (Sl.v t61_4)]), (b_1, [(Sl.v t61_1)])] ∧
  ((!t357_2) = true →
  K (VB false) h_115) ∧
  ((!t357_2) = false →
  (t340_4 = true →
  (t347_4 = true →
  callM P 41 #[(Sl.v t340_3)] h_115 fun rv_53 h_116 => ∃ t367_4 : Int, rv_53 = (VI t367_4) ∧ Vars h_116 [(b_30, [(Sl.v t333_4), (Sl.v t333_5)]), (b_29, [(Sl.v t326_4), (Sl.v t326_5)]), (b_28, [(Sl.v t273_7), (Sl.v t273_8)]), (b_27, [(Sl.v t273_5)]), (b_26, [(Sl.v t268_4), (Sl.v t268_5)]), (b_25, [(Sl.v t260_4), (Sl.v t260_5)]), (b_24, [(Sl.v t250_8), (Sl.v t250_9)]), (b_23, [(Sl.v t250_6)]), (b_22, [(Sl.v t245_4), (Sl.v t245_5)]), (b_21, [(Sl.v t237_4), (Sl.v t237_5)]), (b_20, [(Sl.v t227_8), (Sl.v t227_9)]), (b_19, [(Sl.v t227_6)]), (b_4, [(Sl.v t79_1), (Sl.v t79_2)]), (b_3, [(Sl.v t71_1), (Sl.v t71_2)]), (b_2, [(Sl.v t61_3), (Sl.v t61_4)]), (b_1, [(Sl.v t61_1)])] ∧
  callM P 41 #[(Sl.v t347_3)] h_116 fun rv_54 h_117 => ∃ t369_4 : Int, rv_54 = (VI t369_4) ∧ Vars h_117 [(b_30, [(Sl.v t333_4), (Sl.v t333_5)]), (b_29, [(Sl.v t326_4), (Sl.v t326_5)]), (b_28, [(Sl.v t273_7), (Sl.v t273_8)]), (b_27, [(Sl.v t273_5)]), (b_26, [(Sl.v t268_4), (Sl.v t268_5)]), (b_25, [(Sl.v t260_4), (Sl.v t260_5)]), (b_24, [(Sl.v t250_8), (Sl.v t250_9)]), (b_23, [(Sl.v t250_6)]), (b_22, [(Sl.v t245_4), (Sl.v t245_5)]), (b_21, [(Sl.v t237_4), (Sl.v t237_5)]), (b_20, [(Sl.v t227_8), (Sl.v t227_9)]), (b_19, [(Sl.v t227_6)]), (b_4, [(Sl.v t79_1), (Sl.v t79_2)]), (b_3, [(Sl.v t71_1), (Sl.v t71_2)]), (b_2, [(Sl.v t61_3), (Sl.v t61_4)]), (b_1, [(Sl.v t61_1)])] ∧
  ((!decide (t367_4 = (w64 (t369_4 + (t227_10.n : Int))))) = true →
  K (VB false) h_117) ∧
  ((!decide (t367_4 = (w64 (t369_4 + (t227_10.n : Int))))) = false →
  K (VB true) h_117)) ∧
  (t347_4 = false →
  K (VB true) h_115)) ∧
  (t340_4 = false →
  K (VB true) h_115))) ∧
  (t333_6 = false →
  (t340_4 = true →
  (t347_4 = true →
  callM P 41 #[(Sl.v t340_3)] h_114 fun rv_55 h_118 => ∃ t367_5 : Int, rv_55 = (VI t367_5) ∧ Vars h_118 [(b_30, [(Sl.v t333_4), (Sl.v t333_5)]), (b_29, [(Sl.v t326_4), (Sl.v t326_5)]), (b_28, [(Sl.v t273_7), (Sl.v t273_8)]), (b_27, [(Sl.v t273_5)]), (b_26, [(Sl.v t268_4), (Sl.v t268_5)]), (b_25, [(Sl.v t260_4), (Sl.v t260_5)]), (b_24, [(Sl.v t250_8), (Sl.v t250_9)]), (b_23, [(Sl.v t250_6)]), (b_22, [(Sl.v t245_4), (Sl.v t245_5)]), (b_21, [(Sl.v t237_4), (Sl.v t237_5)]), (b_20, [(Sl.v t227_8), (Sl.v t227_9)]), (b_19, [(Sl.v t227_6)]), (b_4, [(Sl.v t79_1), (Sl.v t79_2)]), (b_3, [(Sl.v t71_1), (Sl.v t71_2)]), (b_2, [(Sl.v t61_3), (Sl.v t61_4)]), (b_1, [(Sl.v t61_1)])] ∧
  callM P 41 #[(Sl.v t347_3)] h_118 fun rv_56 h_119 => ∃ t369_5 : Int, rv_56 = (VI t369_5) ∧ Vars h_119 [(b_30, [(Sl.v t333_4), (Sl.v t333_5)]), (b_29, [(Sl.v t326_4), (Sl.v t326_5)]), (b_28, [(Sl.v t273_7), (Sl.v t273_8)]), (b_27, [(Sl.v t273_5)]), (b_26, [(Sl.v t268_4), (Sl.v t268_5)]), (b_25, [(Sl.v t260_4), (Sl.v t260_5)]), (b_24, [(Sl.v t250_8), (Sl.v t250_9)]), (b_23, [(Sl.v t250_6)]), (b_22, [(Sl.v t245_4), (Sl.v t245_5)]), (b_21, [(Sl.v t237_4), (Sl.v t237_5)]), (b_20, [(Sl.v t227_8), (Sl.v t227_9)]), (b_19, [(Sl.v t227_6)]), (b_4, [(Sl.v t79_1), (Sl.v t79_2)]), (b_3, [(Sl.v t71_1), (Sl.v t71_2)]), (b_2, [(Sl.v t61_3), (Sl.v t61_4)]), (b_1, [(Sl.v t61_1)])] ∧
  ((!decide (t367_5 = (w64 (t369_5 + (t227_10.n : Int))))) = true →
  K (VB false) h_119) ∧
  ((!decide (t367_5 = (w64 (t369_5 + (t227_10.n : Int))))) = false →
  K (VB true) h_119)) ∧
  (t347_4 = false →
  K (VB true) h_114)) ∧
  (t340_4 = false →
  K (VB true) h_114))) ∧
  (t326_6 = false →
  (t340_4 = true →
  (t347_4 = true →
  callM P 41 #[(Sl.v t340_3)] h_114 fun rv_57 h_120 => ∃ t367_6 : Int, rv_57 = (VI t367_6) ∧ Vars h_120 [(b_30, [(Sl.v t333_4), (Sl.v t333_5)]), (b_29, [(Sl.v t326_4), (Sl.v t326_5)]), (b_28, [(Sl.v t273_7), (Sl.v t273_8)]), (b_27, [(Sl.v t273_5)]), (b_26, [(Sl.v t268_4), (Sl.v t268_5)]), (b_25, [(Sl.v t260_4), (Sl.v t260_5)]), (b_24, [(Sl.v t250_8), (Sl.v t250_9)]), (b_23, [(Sl.v t250_6)]), (b_22, [(Sl.v t245_4), (Sl.v t245_5)]), (b_21, [(Sl.v t237_4), (Sl.v t237_5)]), (b_20, [(Sl.v t227_8), (Sl.v t227_9)]), (b_19, [(Sl.v t227_6)]), (b_4, [(Sl.v t79_1), (Sl.v t79_2)]), (b_3, [(Sl.v t71_1), (Sl.v t71_2)]), (b_2, [(Sl.v t61_3), (Sl.v t61_4)]), (b_1, [(Sl.v t61_1)])] ∧
  callM P 41 #[(Sl.v t347_3)] h_120 fun rv_58 h_121 => ∃ t369_6 : Int, rv_58 = (VI t369_6) ∧ Vars h_121 [(b_30, [(Sl.v t333_4), (Sl.v t333_5)]), (b_29, [(Sl.v t326_4), (Sl.v t326_5)]), (b_28, [(Sl.v t273_7), (Sl.v t273_8)]), (b_27, [(Sl.v t273_5)]), (b_26, [(Sl.v t268_4), (Sl.v t268_5)]), (b_25, [(Sl.v t260_4), (Sl.v t260_5)]), (b_24, [(Sl.v t250_8), (Sl.v t250_9)]), (b_23, [(Sl.v t250_6)]), (b_22, [(Sl.v t245_4), (Sl.v t245_5)]), (b_21, [(Sl.v t237_4), (Sl.v t237_5)]), (b_20, [(Sl.v t227_8), (Sl.v t227_9)]), (b_19, [(Sl.v t227_6)]), (b_4, [(Sl.v t79_1), (Sl.v t79_2)]), (b_3, [(Sl.v t71_1), (Sl.v t71_2)]), (b_2, [(Sl.v t61_3), (Sl.v t61_4)]), (b_1, [(Sl.v t61_1)])] ∧
  ((!decide (t367_6 = (w64 (t369_6 + (t227_10.n : Int))))) = true →
  K (VB false) h_121) ∧
  ((!decide (t367_6 = (w64 (t369_6 + (t227_10.n : Int))))) = false →
  K (VB true) h_121)) ∧
  (t347_4 = false →
  K (VB true) h_114)) ∧
  (t340_4 = false →
  K (VB true) h_114))) ∧
  (t237_6 = false →
  K (VB true) h_106)))))))))))))
theorem v7 (code0_1 : Sl) (more1_1 : Sl) (h : Heap) (K : Value → Heap → Prop) (H : u7 Try.prog code0_1 more1_1 h K) : callM Try.prog 7 #[(Sl.v code0_1), (Sl.v more1_1)] h K := by
  refine c7 (Sl.v code0_1) (Sl.v more1_1) h K ?_
  unfold u7 at H
  unfold t7
  have hL : Vars h [] := .nil
  refine H.mono fun rv_1 h_1 H => ?_
  obtain ⟨t58_1, rfl, hL_1, H⟩ := H
  refine condM_b (fun hb_1 => ?_) (fun hb_1 => ?_)
  · have H := H.1 hb_1
    exact H
  · have H := H.2 hb_1
    refine H.mono fun rv_2 h_2 H => ?_
    obtain ⟨t61_1, t61_2, t61_3, t61_4, t61_5, rfl, hL_2, H⟩ := H
    refine pop_ext (v := (Value.agg #[(Sl.v t61_1)])) rfl ?_
    refine pop_ext (v := (VI t61_2)) rfl ?_
    refine pop_ext (v := (Value.agg #[(Sl.v t61_3), (Sl.v t61_4)])) rfl ?_
    refine pop_ext (v := (Sl.v t61_5)) rfl ?_
    refine eop_alloc 32 zer32 rfl hL_2 (fun b_1 h_3 hb_2 hf_1 hL_3 => ?_)
    refine eop_alloc 34 zer34 rfl hL_3 (fun b_2 h_4 hb_3 hf_2 hL_4 => ?_)
    refine uop_loc siz32 hL_4 1 rfl 0 [(Sl.v t61_1)] rfl rfl rfl (Nat.le_of_ble_eq_true rfl) (L' := [(b_2, [(Sl.v nilSl), (Sl.v nilSl)]), (b_1, [(Sl.v t61_1)])]) rfl (fun h_5 hf_3 hL_5 => ?_)
    refine uop_loc siz34 hL_5 0 rfl 0 [(Sl.v t61_3), (Sl.v t61_4)] rfl rfl rfl (Nat.le_of_ble_eq_true rfl) (L' := [(b_2, [(Sl.v t61_3), (Sl.v t61_4)]), (b_1, [(Sl.v t61_1)])]) rfl (fun h_6 hf_4 hL_6 => ?_)
    refine rop_locA agg32 hL_6 1 rfl 0 (vs := [(Sl.v t61_1)]) rfl rfl ?_
    refine rop_locA agg34 hL_6 0 rfl 0 (vs := [(Sl.v t61_3), (Sl.v t61_4)]) rfl rfl ?_
    have H := H b_1 b_2 h_6 (Nat.le_trans (Fr.size (Fr.r (In []) _)) hb_2) (Nat.le_trans (Fr.size (Fr.no' (Fr.r (In []) _) hf_1)) hb_3) (Fr.new (Fr.new (Fr.no' (Fr.no' (Fr.r (In []) _) hf_1) hf_2) (Nat.le_trans (Fr.size (Fr.r (In []) _)) hb_2) hf_3) (Nat.le_trans (Fr.size (Fr.no' (Fr.r (In []) _) hf_1)) hb_3) hf_4) hL_6
    refine H.mono fun rv_3 h_7 H => ?_
    obtain ⟨t71_1, t71_2, t71_3, rfl, hL_7, H⟩ := H
    refine pop_ext (v := (Value.agg #[(Sl.v t71_1), (Sl.v t71_2)])) rfl ?_
    refine pop_ext (v := (VB t71_3)) rfl ?_
    refine eop_alloc 34 zer34 rfl hL_7 (fun b_3 h_8 hb_4 hf_5 hL_8 => ?_)
    refine uop_loc siz34 hL_8 0 rfl 0 [(Sl.v t71_1), (Sl.v t71_2)] rfl rfl rfl (Nat.le_of_ble_eq_true rfl) (L' := [(b_3, [(Sl.v t71_1), (Sl.v t71_2)]), (b_2, [(Sl.v t61_3), (Sl.v t61_4)]), (b_1, [(Sl.v t61_1)])]) rfl (fun h_9 hf_6 hL_9 => ?_)
    refine rop_locA agg32 hL_9 2 rfl 0 (vs := [(Sl.v t61_1)]) rfl rfl ?_
    refine rop_locA agg34 hL_9 1 rfl 0 (vs := [(Sl.v t61_3), (Sl.v t61_4)]) rfl rfl ?_
    have H := H b_3 h_9 (Nat.le_trans (Fr.size (Fr.r (In []) _)) hb_4) (Fr.new (Fr.no' (Fr.r (In []) _) hf_5) (Nat.le_trans (Fr.size (Fr.r (In []) _)) hb_4) hf_6) hL_9
    refine H.mono fun rv_4 h_10 H => ?_
    obtain ⟨t79_1, t79_2, t79_3, rfl, hL_10, H⟩ := H
    refine pop_ext (v := (Value.agg #[(Sl.v t79_1), (Sl.v t79_2)])) rfl ?_
    refine pop_ext (v := (VB t79_3)) rfl ?_
    refine eop_alloc 34 zer34 rfl hL_10 (fun b_4 h_11 hb_5 hf_7 hL_11 => ?_)
    refine uop_loc siz34 hL_11 0 rfl 0 [(Sl.v t79_1), (Sl.v t79_2)] rfl rfl rfl (Nat.le_of_ble_eq_true rfl) (L' := [(b_4, [(Sl.v t79_1), (Sl.v t79_2)]), (b_3, [(Sl.v t71_1), (Sl.v t71_2)]), (b_2, [(Sl.v t61_3), (Sl.v t61_4)]), (b_1, [(Sl.v t61_1)])]) rfl (fun h_12 hf_8 hL_12 => ?_)
    refine rop_locA agg32 hL_12 3 rfl 0 (vs := [(Sl.v t61_1)]) rfl rfl ?_
    refine rop_locA agg34 hL_12 2 rfl 0 (vs := [(Sl.v t61_3), (Sl.v t61_4)]) rfl rfl ?_
    have H := H b_4 h_12 (Nat.le_trans (Fr.size (Fr.r (In []) _)) hb_5) (Fr.new (Fr.no' (Fr.r (In []) _) hf_7) (Nat.le_trans (Fr.size (Fr.r (In []) _)) hb_5) hf_8) hL_12
    refine H.mono fun rv_5 h_13 H => ?_
    obtain ⟨t86_1, t86_2, rfl, hL_13, H⟩ := H
    refine pop_ext (v := (Sl.v t86_1)) rfl ?_
    refine pop_ext (v := (VB t86_2)) rfl ?_
    refine rop_locA agg32 hL_13 3 rfl 0 (vs := [(Sl.v t61_1)]) rfl rfl ?_
    refine rop_locA agg34 hL_13 2 rfl 0 (vs := [(Sl.v t61_3), (Sl.v t61_4)]) rfl rfl ?_
    refine H.mono fun rv_6 h_14 H => ?_
    obtain ⟨t93_1, t93_2, rfl, hL_14, H⟩ := H
    refine pop_ext (v := (Sl.v t93_1)) rfl ?_
    refine pop_ext (v := (VB t93_2)) rfl ?_
    refine pop_bne boo4 _ _ t71_3 t79_3 ?_
    refine guardM_sf (fun hb_6 => ?_) (fun hb_6 => ?_)
    · have H := H.2 hb_6
      refine rop_locA agg34 hL_14 1 rfl 0 (vs := [(Sl.v t71_1), (Sl.v t71_2)]) rfl rfl ?_
      refine guardM_y' hb_6 ?_
      refine rop_locA agg34 hL_14 0 rfl 0 (vs := [(Sl.v t79_1), (Sl.v t79_2)]) rfl rfl ?_
      refine guardM_y' hb_6 ?_
      refine H.mono fun rv_7 h_15 H => ?_
      obtain ⟨t102_1, rfl, hL_15, H⟩ := H
      refine guardM_y' hb_6 ?_
      refine pop_not t102_1 ?_
      refine pop_pickf' hb_6 ?_
      refine guardM_sf (fun hb_7 => ?_) (fun hb_7 => ?_)
      · have H := H.2 hb_7
        refine guardM_y' hb_7 ?_
        refine guardM_y' hb_7 ?_
        refine pop_bne boo4 _ _ t86_2 t93_2 ?_
        refine pop_pickf' hb_7 ?_
        refine guardM_sf (fun hb_8 => ?_) (fun hb_8 => ?_)
        · have H := H.2 hb_8
          refine guardM_y' hb_8 ?_
          refine guardM_y' hb_8 ?_
          refine H.mono fun rv_8 h_16 H => ?_
          obtain ⟨t113_1, rfl, hL_16, H⟩ := H
          refine guardM_y' hb_8 ?_
          refine pop_not t113_1 ?_
          refine pop_pickf' hb_8 ?_
          refine guardM_sf (fun hb_9 => ?_) (fun hb_9 => ?_)
          · have H := H.2 hb_9
            refine guardM_y' hb_9 ?_
            refine guardM_st (fun hb_10 => ?_) (fun hb_10 => ?_)
            · have H := H.1 hb_10
              refine guardM_y' hb_10 ?_
              refine pop_not t86_2 ?_
              refine guardM_y' hb_9 ?_
              refine pop_pickt' hb_10 ?_
              refine pop_pickf' hb_9 ?_
              refine condM_b (fun hb_11 => ?_) (fun hb_11 => ?_)
              · have H := H.1 hb_11
                exact H
              · have H := H.2 hb_11
                obtain ⟨J_1, H, HB_2⟩ := H
                refine ⟨fun (vs : List Value) (h' : Heap) => vs = [] ∧ J_1  h' ∧ Vars h' [(b_4, [(Sl.v t79_1), (Sl.v t79_2)]), (b_3, [(Sl.v t71_1), (Sl.v t71_2)]), (b_2, [(Sl.v t61_3), (Sl.v t61_4)]), (b_1, [(Sl.v t61_1)])], ?_, ?_⟩
                · refine condM_t' hb_10 ?_
                  refine rop_locA agg32 hL_16 3 rfl 0 (vs := [(Sl.v t61_1)]) rfl rfl ?_
                  refine rop_locA agg34 hL_16 2 rfl 0 (vs := [(Sl.v t61_3), (Sl.v t61_4)]) rfl rfl ?_
                  refine H.mono fun rv_9 h_17 H => ?_
                  obtain ⟨t128_1, t128_2, t128_3, rfl, hL_17, H⟩ := H
                  refine pop_ext (v := (Value.agg #[(Sl.v t128_1), (Sl.v t128_2)])) rfl ?_
                  refine pop_ext (v := (VB t128_3)) rfl ?_
                  refine eop_alloc 34 zer34 rfl hL_17 (fun b_5 h_18 hb_12 hf_9 hL_18 => ?_)
                  refine uop_loc siz34 hL_18 0 rfl 0 [(Sl.v t128_1), (Sl.v t128_2)] rfl rfl rfl (Nat.le_of_ble_eq_true rfl) (L' := [(b_5, [(Sl.v t128_1), (Sl.v t128_2)]), (b_4, [(Sl.v t79_1), (Sl.v t79_2)]), (b_3, [(Sl.v t71_1), (Sl.v t71_2)]), (b_2, [(Sl.v t61_3), (Sl.v t61_4)]), (b_1, [(Sl.v t61_1)])]) rfl (fun h_19 hf_10 hL_19 => ?_)
                  refine rop_locA agg32 hL_19 4 rfl 0 (vs := [(Sl.v t61_1)]) rfl rfl ?_
                  refine rop_locA agg34 hL_19 2 rfl 0 (vs := [(Sl.v t71_1), (Sl.v t71_2)]) rfl rfl ?_
                  have H := H b_5 h_19 (Nat.le_trans (Fr.size (Fr.r (In []) _)) hb_12) (Fr.new (Fr.no' (Fr.r (In []) _) hf_9) (Nat.le_trans (Fr.size (Fr.r (In []) _)) hb_12) hf_10) hL_19
                  refine H.mono fun rv_10 h_20 H => ?_
                  obtain ⟨t135_1, t135_2, rfl, hL_20, H⟩ := H
                  refine pop_ext (v := (VB t135_1)) rfl ?_
                  refine pop_ext (v := (VB t135_2)) rfl ?_
                  refine pop_not t128_3 ?_
                  refine guardM_sf (fun hb_13 => ?_) (fun hb_13 => ?_)
                  · have H := H.2 hb_13
                    refine rop_locA agg34 hL_20 0 rfl 0 (vs := [(Sl.v t128_1), (Sl.v t128_2)]) rfl rfl ?_
                    refine guardM_y' hb_13 ?_
                    refine rop_locA agg34 hL_20 2 rfl 0 (vs := [(Sl.v t71_1), (Sl.v t71_2)]) rfl rfl ?_
                    refine guardM_y' hb_13 ?_
                    refine H.mono fun rv_11 h_21 H => ?_
                    obtain ⟨t143_1, rfl, hL_21, H⟩ := H
                    refine guardM_y' hb_13 ?_
                    refine pop_not t143_1 ?_
                    refine pop_pickf' hb_13 ?_
                    refine guardM_sf (fun hb_14 => ?_) (fun hb_14 => ?_)
                    · have H := H.2 hb_14
                      refine guardM_y' hb_14 ?_
                      refine pop_not t135_2 ?_
                      refine pop_pickf' hb_14 ?_
                      refine guardM_sf (fun hb_15 => ?_) (fun hb_15 => ?_)
                      · have H := H.2 hb_15
                        refine guardM_y' hb_15 ?_
                        refine pop_not t135_1 ?_
                        refine pop_pickf' hb_15 ?_
                        refine guardM_sf (fun hb_16 => ?_) (fun hb_16 => ?_)
                        · have H := H.2 hb_16
                          refine pop_field 1 fld34_1 b_3 0 ?_
                          refine guardM_y' hb_16 ?_
                          refine rop_loc one25 hL_21 2 rfl 1 (v := (Sl.v t71_2)) rfl ?_
                          refine guardM_y' hb_16 ?_
                          refine guardM_y' hb_16 ?_
                          obtain ⟨hi_1, H⟩ := H
                          refine pop_index sli25 siz3 .i64 t71_2 t61_2 hi_1 ?_
                          refine guardM_y' hb_16 ?_
                          obtain ⟨t159_1, hc_7, H⟩ := H
                          refine rop_one one3 (VI t159_1) hc_7 ?_
                          refine guardM_y' hb_16 ?_
                          refine pop_field 1 fld34_1 b_2 0 ?_
                          refine guardM_y' hb_16 ?_
                          refine rop_loc one25 hL_21 3 rfl 1 (v := (Sl.v t61_4)) rfl ?_
                          refine guardM_y' hb_16 ?_
                          refine H.mono fun rv_12 h_22 H => ?_
                          obtain ⟨t162_1, rfl, hL_22, H⟩ := H
                          refine ⟨⟨_, rfl, fun _ => ?_, fun h => absurd hb_16 h⟩, ?_⟩
                          · exact still_one one3 H.1
                          obtain ⟨hc_1, H⟩ := H
                          refine ⟨⟨_, rfl, fun _ => ?_, fun h => absurd hb_16 h⟩, ?_⟩
                          · exact still_loc one25 hL_22 2 rfl 1 (v := (Sl.v t71_2)) rfl
                          refine guardM_y' hb_16 ?_
                          refine pop_ine .i64 _ _ t159_1 t162_1 ?_
                          refine pop_pickf' hb_16 ?_
                          refine guardM_sf (fun hb_17 => ?_) (fun hb_17 => ?_)
                          · have H := H.2 hb_17
                            refine guardM_y' hb_17 ?_
                            refine guardM_y' hb_17 ?_
                            obtain ⟨hi_2, H⟩ := H
                            refine pop_index sli25 siz3 .i64 t86_1 t61_2 hi_2 ?_
                            refine guardM_y' hb_17 ?_
                            obtain ⟨t169_1, hc_6, H⟩ := H
                            refine rop_one one3 (VI t169_1) hc_6 ?_
                            refine guardM_y' hb_17 ?_
                            refine pop_ine .i64 _ _ t169_1 0 ?_
                            refine pop_pickf' hb_17 ?_
                            refine condM_b (fun hb_18 => ?_) (fun hb_18 => ?_)
                            · have H := H.1 hb_18
                              exact H
                            · have H := H.2 hb_18
                              refine pop_field 0 fld32_0 b_1 0 ?_
                              refine rop_loc one22 hL_22 4 rfl 0 (v := (Sl.v t61_1)) rfl ?_
                              refine pop_len t61_1 _ _ sli22 ?_
                              obtain ⟨J_2, ⟨n_2, h0_1⟩, HB_1⟩ := H
                              refine loop_intro (J := fun (n : Nat) (vs : List Value) (h' : Heap) => ∃ t175_1 : Int, vs = [(VI t175_1)] ∧ J_2 n t175_1 h' ∧ Vars h' [(b_5, [(Sl.v t128_1), (Sl.v t128_2)]), (b_4, [(Sl.v t79_1), (Sl.v t79_2)]), (b_3, [(Sl.v t71_1), (Sl.v t71_2)]), (b_2, [(Sl.v t61_3), (Sl.v t61_4)]), (b_1, [(Sl.v t61_1)])]) n_2 ⟨0, rfl, h0_1, hL_22⟩ ?_
                              intro I_1 mu_1 hI_1 junk_1 tv_1 h_23 hi_3
                              obtain ⟨n_1, ⟨t175_1, hv, hJ_1, hL_23⟩, hn_1⟩ := hI_1 _ _ hi_3
                              cases hv
                              have H := HB_1 n_1 t175_1 h_23 hJ_1 hL_23
                              refine pop_lss .i64 t175_1 (t61_1.n : Int) ?_
                              refine condM_b (fun hb_19 => ?_) (fun hb_19 => ?_)
                              · have H := H.1 hb_19
                                obtain ⟨hi_4, H⟩ := H
                                refine pop_index sli22 siz25 .i64 t61_1 t175_1 hi_4 ?_
                                obtain ⟨t179_1, hc_5, H⟩ := H
                                refine rop_one one25 (Sl.v t179_1) hc_5 ?_
                                refine pop_ine .i64 _ _ t175_1 t61_2 ?_
                                refine guardM_st (fun hb_20 => ?_) (fun hb_20 => ?_)
                                · have H := H.1 hb_20
                                  refine guardM_y' hb_20 ?_
                                  refine pop_len t179_1 _ _ sli25 ?_
                                  refine guardM_y' hb_20 ?_
                                  refine pop_ieq .i64 _ _ (t179_1.n : Int) 0 ?_
                                  refine guardM_y' hb_20 ?_
                                  refine guardM_sf (fun hb_21 => ?_) (fun hb_21 => ?_)
                                  · have H := H.2 hb_21
                                    refine pop_field 0 fld34_0 b_3 0 ?_
                                    refine guardM_y' hb_21 ?_
                                    refine rop_loc one25 hL_23 2 rfl 0 (v := (Sl.v t71_1)) rfl ?_
                                    refine guardM_y' hb_21 ?_
                                    refine guardM_y' hb_21 ?_
                                    obtain ⟨hi_5, H⟩ := H
                                    refine pop_index sli25 siz3 .i64 t71_1 t175_1 hi_5 ?_
                                    refine guardM_y' hb_21 ?_
                                    obtain ⟨t192_1, hc_4, H⟩ := H
                                    refine rop_one one3 (VI t192_1) hc_4 ?_
                                    refine guardM_y' hb_21 ?_
                                    refine pop_field 0 fld34_0 b_2 0 ?_
                                    refine guardM_y' hb_21 ?_
                                    refine rop_loc one25 hL_23 3 rfl 0 (v := (Sl.v t61_3)) rfl ?_
                                    refine guardM_y' hb_21 ?_
                                    refine guardM_y' hb_21 ?_
                                    obtain ⟨hi_6, H⟩ := H
                                    refine pop_index sli25 siz3 .i64 t61_3 t175_1 hi_6 ?_
                                    refine guardM_y' hb_21 ?_
                                    obtain ⟨t197_1, hc_3, H⟩ := H
                                    refine rop_one one3 (VI t197_1) hc_3 ?_
                                    refine guardM_y' hb_21 ?_
                                    refine guardM_y' hb_21 ?_
                                    refine guardM_y' hb_21 ?_
                                    obtain ⟨hi_7, H⟩ := H
                                    refine pop_index sli25 siz3 .i64 t86_1 t175_1 hi_7 ?_
                                    refine guardM_y' hb_21 ?_
                                    obtain ⟨t201_1, hc_2, H⟩ := H
                                    refine rop_one one3 (VI t201_1) hc_2 ?_
                                    refine guardM_y' hb_21 ?_
                                    refine pop_add .i64 t197_1 t201_1 ?_
                                    refine guardM_y' hb_21 ?_
                                    refine guardM_y' hb_21 ?_
                                    refine pop_len t179_1 _ _ sli25 ?_
                                    refine guardM_y' hb_21 ?_
                                    obtain ⟨hz_1, H⟩ := H
                                    refine pop_rem .i64 (w64 (t197_1 + t201_1)) (t179_1.n : Int) hz_1 ?_
                                    refine guardM_y' hb_21 ?_
                                    refine pop_ine .i64 _ _ t192_1 (Int.tmod (w64 (t197_1 + t201_1)) (t179_1.n : Int)) ?_
                                    refine guardM_y' hb_20 ?_
                                    refine pop_pickf' hb_21 ?_
                                    refine pop_pickt' hb_20 ?_
                                    refine condM_b (fun hb_22 => ?_) (fun hb_22 => ?_)
                                    · have H := H.1 hb_22
                                      exact H
                                    · have H := H.2 hb_22
                                      refine pop_add .i64 t175_1 1 ?_
                                      obtain ⟨m_1, hm_1, H⟩ := H
                                      exact hn_1 _ _ ⟨m_1, hm_1, (w64 (t175_1 + 1)), rfl, H, hL_23⟩
                                  · have H := H.1 hb_21
                                    refine guardM_n' hb_21 (by decide) ?_
                                    refine guardM_n' hb_21 (by decide) ?_
                                    refine guardM_n' hb_21 (by decide) ?_
                                    refine guardM_n' hb_21 (by decide) ?_
                                    refine guardM_n' hb_21 (by decide) ?_
                                    refine guardM_n' hb_21 (by decide) ?_
                                    refine guardM_n' hb_21 (by decide) ?_
                                    refine guardM_n' hb_21 (by decide) ?_
                                    refine guardM_n' hb_21 (by decide) ?_
                                    refine guardM_n' hb_21 (by decide) ?_
                                    refine guardM_n' hb_21 (by decide) ?_
                                    refine guardM_n' hb_21 (by decide) ?_
                                    refine guardM_n' hb_21 (by decide) ?_
                                    refine guardM_n' hb_21 (by decide) ?_
                                    refine guardM_n' hb_21 (by decide) ?_
                                    refine guardM_n' hb_21 (by decide) ?_
                                    refine guardM_n' hb_21 (by decide) ?_
                                    refine guardM_n' hb_21 (by decide) ?_
                                    refine guardM_y' hb_20 ?_
                                    refine pop_pickt' hb_21 ?_
                                    refine pop_pickt' hb_20 ?_
                                    refine condM_t ?_
                                    exact H
                                · have H := H.2 hb_20
                                  refine guardM_n' hb_20 (by decide) ?_
                                  refine guardM_n' hb_20 (by decide) ?_
                                  refine guardM_n' hb_20 (by decide) ?_
                                  refine guardM_n (by decide) ?_
                                  refine guardM_n (by decide) ?_
                                  refine guardM_n (by decide) ?_
                                  refine guardM_n (by decide) ?_
                                  refine guardM_n (by decide) ?_
                                  refine guardM_n (by decide) ?_
                                  refine guardM_n (by decide) ?_
                                  refine guardM_n (by decide) ?_
                                  refine guardM_n (by decide) ?_
                                  refine guardM_n (by decide) ?_
                                  refine guardM_n (by decide) ?_
                                  refine guardM_n (by decide) ?_
                                  refine guardM_n (by decide) ?_
                                  refine guardM_n (by decide) ?_
                                  refine guardM_n (by decide) ?_
                                  refine guardM_n (by decide) ?_
                                  refine guardM_n (by decide) ?_
                                  refine guardM_n (by decide) ?_
                                  refine guardM_n (by decide) ?_
                                  refine guardM_n' hb_20 (by decide) ?_
                                  refine pop_pickf' hb_20 ?_
                                  refine condM_f ?_
                                  refine pop_add .i64 t175_1 1 ?_
                                  obtain ⟨m_2, hm_2, H⟩ := H
                                  exact hn_1 _ _ ⟨m_2, hm_2, (w64 (t175_1 + 1)), rfl, H, hL_23⟩
                              · have H := H.2 hb_19
                                refine rop_locA agg32 hL_23 4 rfl 0 (vs := [(Sl.v t61_1)]) rfl rfl ?_
                                refine rop_locA agg34 hL_23 3 rfl 0 (vs := [(Sl.v t61_3), (Sl.v t61_4)]) rfl rfl ?_
                                refine H.mono fun rv_13 h_24 H => ?_
                                obtain ⟨t215_1, t215_2, t215_3, rfl, hL_24, H⟩ := H
                                refine pop_ext (v := (Value.agg #[(Sl.v t215_1), (Sl.v t215_2)])) rfl ?_
                                refine pop_ext (v := (VB t215_3)) rfl ?_
                                refine eop_alloc 34 zer34 rfl hL_24 (fun b_6 h_25 hb_23 hf_11 hL_25 => ?_)
                                refine uop_loc siz34 hL_25 0 rfl 0 [(Sl.v t215_1), (Sl.v t215_2)] rfl rfl rfl (Nat.le_of_ble_eq_true rfl) (L' := [(b_6, [(Sl.v t215_1), (Sl.v t215_2)]), (b_5, [(Sl.v t128_1), (Sl.v t128_2)]), (b_4, [(Sl.v t79_1), (Sl.v t79_2)]), (b_3, [(Sl.v t71_1), (Sl.v t71_2)]), (b_2, [(Sl.v t61_3), (Sl.v t61_4)]), (b_1, [(Sl.v t61_1)])]) rfl (fun h_26 hf_12 hL_26 => ?_)
                                refine guardM_st (fun hb_24 => ?_) (fun hb_24 => ?_)
                                · have H := H.1 hb_24
                                  refine rop_locA agg34 hL_26 0 rfl 0 (vs := [(Sl.v t215_1), (Sl.v t215_2)]) rfl rfl ?_
                                  refine guardM_y' hb_24 ?_
                                  refine rop_locA agg34 hL_26 3 rfl 0 (vs := [(Sl.v t71_1), (Sl.v t71_2)]) rfl rfl ?_
                                  refine guardM_y' hb_24 ?_
                                  have H := H b_6 h_26 (Nat.le_trans (Fr.size (Fr.r (In []) _)) hb_23) (Fr.new (Fr.no' (Fr.r (In []) _) hf_11) (Nat.le_trans (Fr.size (Fr.r (In []) _)) hb_23) hf_12) hL_26
                                  refine H.mono fun rv_14 h_27 H => ?_
                                  obtain ⟨t222_1, rfl, hL_27, H⟩ := H
                                  refine guardM_y' hb_24 ?_
                                  refine pop_not t222_1 ?_
                                  refine pop_pickt' hb_24 ?_
                                  refine condM_b (fun hb_25 => ?_) (fun hb_25 => ?_)
                                  · have H := H.1 hb_25
                                    exact H
                                  · have H := H.2 hb_25
                                    exact ⟨rfl, H, Vars.pick hL_27 [2, 3, 4, 5] rfl⟩
                                · have H := H.2 hb_24
                                  refine guardM_n' hb_24 (by decide) ?_
                                  refine guardM_n' hb_24 (by decide) ?_
                                  refine guardM_n' hb_24 (by decide) ?_
                                  refine pop_pickf' hb_24 ?_
                                  refine condM_f ?_
                                  have H := H b_6 h_26 (Nat.le_trans (Fr.size (Fr.r (In []) _)) hb_23) (Fr.new (Fr.no' (Fr.r (In []) _) hf_11) (Nat.le_trans (Fr.size (Fr.r (In []) _)) hb_23) hf_12) hL_26
                                  exact ⟨rfl, H, Vars.pick hL_26 [2, 3, 4, 5] rfl⟩
                          · have H := H.1 hb_17
                            refine guardM_n' hb_17 (by decide) ?_
                            refine guardM_n' hb_17 (by decide) ?_
                            refine guardM_n' hb_17 (by decide) ?_
                            refine guardM_n' hb_17 (by decide) ?_
                            refine pop_pickt' hb_17 ?_
                            refine condM_t ?_
                            exact H
                        · have H := H.1 hb_16
                          refine guardM_n' hb_16 (by decide) ?_
                          refine guardM_n' hb_16 (by decide) ?_
                          refine guardM_n' hb_16 (by decide) ?_
                          refine guardM_n' hb_16 (by decide) ?_
                          refine guardM_n' hb_16 (by decide) ?_
                          refine guardM_n' hb_16 (by decide) ?_
                          refine guardM_n' hb_16 (by decide) ?_
                          refine ⟨⟨_, rfl, fun h => absurd (h.symm.trans hb_16) (by decide), fun _ => rfl⟩, ?_⟩
                          refine ⟨⟨_, rfl, fun h => absurd (h.symm.trans hb_16) (by decide), fun _ => rfl⟩, ?_⟩
                          refine guardM_n' hb_16 (by decide) ?_
                          refine pop_pickt' hb_16 ?_
                          refine guardM_n (by decide) ?_
                          refine guardM_n (by decide) ?_
                          refine guardM_n (by decide) ?_
                          refine guardM_n (by decide) ?_
                          refine guardM_n (by decide) ?_
                          refine pop_pickt _ _ ?_
                          refine condM_t ?_
                          exact H
                      · have H := H.1 hb_15
                        refine guardM_n' hb_15 (by decide) ?_
                        refine pop_pickt' hb_15 ?_
                        refine guardM_n (by decide) ?_
                        refine guardM_n (by decide) ?_
                        refine guardM_n (by decide) ?_
                        refine guardM_n (by decide) ?_
                        refine guardM_n (by decide) ?_
                        refine guardM_n (by decide) ?_
                        refine guardM_n (by decide) ?_
                        refine guardM_n (by decide) ?_
                        refine ⟨⟨_, rfl, fun h => absurd (h.symm.trans rfl) (by decide), fun _ => rfl⟩, ?_⟩
                        refine ⟨⟨_, rfl, fun h => absurd (h.symm.trans rfl) (by decide), fun _ => rfl⟩, ?_⟩
                        refine guardM_n (by decide) ?_
                        refine pop_pickt _ _ ?_
                        refine guardM_n (by decide) ?_
                        refine guardM_n (by decide) ?_
                        refine guardM_n (by decide) ?_
                        refine guardM_n (by decide) ?_
                        refine guardM_n (by decide) ?_
                        refine pop_pickt _ _ ?_
                        refine condM_t ?_
                        exact H
                    · have H := H.1 hb_14
                      refine guardM_n' hb_14 (by decide) ?_
                      refine pop_pickt' hb_14 ?_
                      refine guardM_n (by decide) ?_
                      refine guardM_n (by decide) ?_
                      refine pop_pickt _ _ ?_
                      refine guardM_n (by decide) ?_
                      refine guardM_n (by decide) ?_
                      refine guardM_n (by decide) ?_
                      refine guardM_n (by decide) ?_
                      refine guardM_n (by decide) ?_
                      refine guardM_n (by decide) ?_
                      refine guardM_n (by decide) ?_
                      refine guardM_n (by decide) ?_
                      refine ⟨⟨_, rfl, fun h => absurd (h.symm.trans rfl) (by decide), fun _ => rfl⟩, ?_⟩
                      refine ⟨⟨_, rfl, fun h => absurd (h.symm.trans rfl) (by decide), fun _ => rfl⟩, ?_⟩
                      refine guardM_n (by decide) ?_
                      refine pop_pickt _ _ ?_
                      refine guardM_n (by decide) ?_
                      refine guardM_n (by decide) ?_
                      refine guardM_n (by decide) ?_
                      refine guardM_n (by decide) ?_
                      refine guardM_n (by decide) ?_
                      refine pop_pickt _ _ ?_
                      refine condM_t ?_
                      exact H
                  · have H := H.1 hb_13
                    refine guardM_n' hb_13 (by decide) ?_
                    refine guardM_n' hb_13 (by decide) ?_
                    refine guardM_n' hb_13 (by decide) ?_
                    refine pop_pickt' hb_13 ?_
                    refine guardM_n (by decide) ?_
                    refine guardM_n (by decide) ?_
                    refine pop_pickt _ _ ?_
                    refine guardM_n (by decide) ?_
                    refine guardM_n (by decide) ?_
                    refine pop_pickt _ _ ?_
                    refine guardM_n (by decide) ?_
                    refine guardM_n (by decide) ?_
                    refine guardM_n (by decide) ?_
                    refine guardM_n (by decide) ?_
                    refine guardM_n (by decide) ?_
                    refine guardM_n (by decide) ?_
                    refine guardM_n (by decide) ?_
                    refine guardM_n (by decide) ?_
                    refine ⟨⟨_, rfl, fun h => absurd (h.symm.trans rfl) (by decide), fun _ => rfl⟩, ?_⟩
                    refine ⟨⟨_, rfl, fun h => absurd (h.symm.trans rfl) (by decide), fun _ => rfl⟩, ?_⟩
                    refine guardM_n (by decide) ?_
                    refine pop_pickt _ _ ?_
                    refine guardM_n (by decide) ?_
                    refine guardM_n (by decide) ?_
                    refine guardM_n (by decide) ?_
                    refine guardM_n (by decide) ?_
                    refine guardM_n (by decide) ?_
                    refine pop_pickt _ _ ?_
                    refine condM_t ?_
                    exact H
                intro junk_2  h_28
                rintro ⟨hv, hJ_2, hL_28⟩
                have H := HB_2  h_28 hJ_2 hL_28
                refine H.mono fun rv_15 h_29 H => ?_
                obtain ⟨t227_1, t227_2, t227_3, t227_4, t227_5, rfl, hL_29, H⟩ := H
                refine pop_ext (v := (Value.agg #[(Sl.v t227_1)])) rfl ?_
                refine pop_ext (v := (VI t227_2)) rfl ?_
                refine pop_ext (v := (Value.agg #[(Sl.v t227_3), (Sl.v t227_4)])) rfl ?_
                refine pop_ext (v := (Sl.v t227_5)) rfl ?_
                refine eop_alloc 32 zer32 rfl hL_29 (fun b_7 h_30 hb_26 hf_13 hL_30 => ?_)
                refine eop_alloc 34 zer34 rfl hL_30 (fun b_8 h_31 hb_27 hf_14 hL_31 => ?_)
                refine uop_loc siz32 hL_31 1 rfl 0 [(Sl.v t227_1)] rfl rfl rfl (Nat.le_of_ble_eq_true rfl) (L' := [(b_8, [(Sl.v nilSl), (Sl.v nilSl)]), (b_7, [(Sl.v t227_1)]), (b_4, [(Sl.v t79_1), (Sl.v t79_2)]), (b_3, [(Sl.v t71_1), (Sl.v t71_2)]), (b_2, [(Sl.v t61_3), (Sl.v t61_4)]), (b_1, [(Sl.v t61_1)])]) rfl (fun h_32 hf_15 hL_32 => ?_)
                refine uop_loc siz34 hL_32 0 rfl 0 [(Sl.v t227_3), (Sl.v t227_4)] rfl rfl rfl (Nat.le_of_ble_eq_true rfl) (L' := [(b_8, [(Sl.v t227_3), (Sl.v t227_4)]), (b_7, [(Sl.v t227_1)]), (b_4, [(Sl.v t79_1), (Sl.v t79_2)]), (b_3, [(Sl.v t71_1), (Sl.v t71_2)]), (b_2, [(Sl.v t61_3), (Sl.v t61_4)]), (b_1, [(Sl.v t61_1)])]) rfl (fun h_33 hf_16 hL_33 => ?_)
                refine rop_locA agg32 hL_33 1 rfl 0 (vs := [(Sl.v t227_1)]) rfl rfl ?_
                refine rop_locA agg34 hL_33 0 rfl 0 (vs := [(Sl.v t227_3), (Sl.v t227_4)]) rfl rfl ?_
                have H := H b_7 b_8 h_33 (Nat.le_trans (Fr.size (Fr.r (In []) _)) hb_26) (Nat.le_trans (Fr.size (Fr.no' (Fr.r (In []) _) hf_13)) hb_27) (Fr.new (Fr.new (Fr.no' (Fr.no' (Fr.r (In []) _) hf_13) hf_14) (Nat.le_trans (Fr.size (Fr.r (In []) _)) hb_26) hf_15) (Nat.le_trans (Fr.size (Fr.no' (Fr.r (In []) _) hf_13)) hb_27) hf_16) hL_33
                refine H.mono fun rv_16 h_34 H => ?_
                obtain ⟨t237_1, t237_2, t237_3, rfl, hL_34, H⟩ := H
                refine pop_ext (v := (Value.agg #[(Sl.v t237_1), (Sl.v t237_2)])) rfl ?_
                refine pop_ext (v := (VB t237_3)) rfl ?_
                refine eop_alloc 34 zer34 rfl hL_34 (fun b_9 h_35 hb_28 hf_17 hL_35 => ?_)
                refine uop_loc siz34 hL_35 0 rfl 0 [(Sl.v t237_1), (Sl.v t237_2)] rfl rfl rfl (Nat.le_of_ble_eq_true rfl) (L' := [(b_9, [(Sl.v t237_1), (Sl.v t237_2)]), (b_8, [(Sl.v t227_3), (Sl.v t227_4)]), (b_7, [(Sl.v t227_1)]), (b_4, [(Sl.v t79_1), (Sl.v t79_2)]), (b_3, [(Sl.v t71_1), (Sl.v t71_2)]), (b_2, [(Sl.v t61_3), (Sl.v t61_4)]), (b_1, [(Sl.v t61_1)])]) rfl (fun h_36 hf_18 hL_36 => ?_)
                refine rop_locA agg32 hL_36 2 rfl 0 (vs := [(Sl.v t227_1)]) rfl rfl ?_
                refine rop_locA agg34 hL_36 1 rfl 0 (vs := [(Sl.v t227_3), (Sl.v t227_4)]) rfl rfl ?_
                have H := H b_9 h_36 (Nat.le_trans (Fr.size (Fr.r (In []) _)) hb_28) (Fr.new (Fr.no' (Fr.r (In []) _) hf_17) (Nat.le_trans (Fr.size (Fr.r (In []) _)) hb_28) hf_18) hL_36
                refine H.mono fun rv_17 h_37 H => ?_
                obtain ⟨t245_1, t245_2, t245_3, rfl, hL_37, H⟩ := H
                refine pop_ext (v := (Value.agg #[(Sl.v t245_1), (Sl.v t245_2)])) rfl ?_
                refine pop_ext (v := (VB t245_3)) rfl ?_
                refine eop_alloc 34 zer34 rfl hL_37 (fun b_10 h_38 hb_29 hf_19 hL_38 => ?_)
                refine uop_loc siz34 hL_38 0 rfl 0 [(Sl.v t245_1), (Sl.v t245_2)] rfl rfl rfl (Nat.le_of_ble_eq_true rfl) (L' := [(b_10, [(Sl.v t245_1), (Sl.v t245_2)]), (b_9, [(Sl.v t237_1), (Sl.v t237_2)]), (b_8, [(Sl.v t227_3), (Sl.v t227_4)]), (b_7, [(Sl.v t227_1)]), (b_4, [(Sl.v t79_1), (Sl.v t79_2)]), (b_3, [(Sl.v t71_1), (Sl.v t71_2)]), (b_2, [(Sl.v t61_3), (Sl.v t61_4)]), (b_1, [(Sl.v t61_1)])]) rfl (fun h_39 hf_20 hL_39 => ?_)
                have H := H b_10 h_39 (Nat.le_trans (Fr.size (Fr.r (In []) _)) hb_29) (Fr.new (Fr.no' (Fr.r (In []) _) hf_19) (Nat.le_trans (Fr.size (Fr.r (In []) _)) hb_29) hf_20) hL_39
                refine H.mono fun rv_18 h_40 H => ?_
                obtain ⟨t250_1, t250_2, t250_3, t250_4, t250_5, rfl, hL_40, H⟩ := H
                refine pop_ext (v := (Value.agg #[(Sl.v t250_1)])) rfl ?_
                refine pop_ext (v := (VI t250_2)) rfl ?_
                refine pop_ext (v := (Value.agg #[(Sl.v t250_3), (Sl.v t250_4)])) rfl ?_
                refine pop_ext (v := (VI t250_5)) rfl ?_
                refine eop_alloc 32 zer32 rfl hL_40 (fun b_11 h_41 hb_30 hf_21 hL_41 => ?_)
                refine eop_alloc 34 zer34 rfl hL_41 (fun b_12 h_42 hb_31 hf_22 hL_42 => ?_)
                refine uop_loc siz32 hL_42 1 rfl 0 [(Sl.v t250_1)] rfl rfl rfl (Nat.le_of_ble_eq_true rfl) (L' := [(b_12, [(Sl.v nilSl), (Sl.v nilSl)]), (b_11, [(Sl.v t250_1)]), (b_10, [(Sl.v t245_1), (Sl.v t245_2)]), (b_9, [(Sl.v t237_1), (Sl.v t237_2)]), (b_8, [(Sl.v t227_3), (Sl.v t227_4)]), (b_7, [(Sl.v t227_1)]), (b_4, [(Sl.v t79_1), (Sl.v t79_2)]), (b_3, [(Sl.v t71_1), (Sl.v t71_2)]), (b_2, [(Sl.v t61_3), (Sl.v t61_4)]), (b_1, [(Sl.v t61_1)])]) rfl (fun h_43 hf_23 hL_43 => ?_)
                refine uop_loc siz34 hL_43 0 rfl 0 [(Sl.v t250_3), (Sl.v t250_4)] rfl rfl rfl (Nat.le_of_ble_eq_true rfl) (L' := [(b_12, [(Sl.v t250_3), (Sl.v t250_4)]), (b_11, [(Sl.v t250_1)]), (b_10, [(Sl.v t245_1), (Sl.v t245_2)]), (b_9, [(Sl.v t237_1), (Sl.v t237_2)]), (b_8, [(Sl.v t227_3), (Sl.v t227_4)]), (b_7, [(Sl.v t227_1)]), (b_4, [(Sl.v t79_1), (Sl.v t79_2)]), (b_3, [(Sl.v t71_1), (Sl.v t71_2)]), (b_2, [(Sl.v t61_3), (Sl.v t61_4)]), (b_1, [(Sl.v t61_1)])]) rfl (fun h_44 hf_24 hL_44 => ?_)
                refine rop_locA agg32 hL_44 1 rfl 0 (vs := [(Sl.v t250_1)]) rfl rfl ?_
                refine rop_locA agg34 hL_44 0 rfl 0 (vs := [(Sl.v t250_3), (Sl.v t250_4)]) rfl rfl ?_
                have H := H b_11 b_12 h_44 (Nat.le_trans (Fr.size (Fr.r (In []) _)) hb_30) (Nat.le_trans (Fr.size (Fr.no' (Fr.r (In []) _) hf_21)) hb_31) (Fr.new (Fr.new (Fr.no' (Fr.no' (Fr.r (In []) _) hf_21) hf_22) (Nat.le_trans (Fr.size (Fr.r (In []) _)) hb_30) hf_23) (Nat.le_trans (Fr.size (Fr.no' (Fr.r (In []) _) hf_21)) hb_31) hf_24) hL_44
                refine H.mono fun rv_19 h_45 H => ?_
                obtain ⟨t260_1, t260_2, t260_3, rfl, hL_45, H⟩ := H
                refine pop_ext (v := (Value.agg #[(Sl.v t260_1), (Sl.v t260_2)])) rfl ?_
                refine pop_ext (v := (VB t260_3)) rfl ?_
                refine eop_alloc 34 zer34 rfl hL_45 (fun b_13 h_46 hb_32 hf_25 hL_46 => ?_)
                refine uop_loc siz34 hL_46 0 rfl 0 [(Sl.v t260_1), (Sl.v t260_2)] rfl rfl rfl (Nat.le_of_ble_eq_true rfl) (L' := [(b_13, [(Sl.v t260_1), (Sl.v t260_2)]), (b_12, [(Sl.v t250_3), (Sl.v t250_4)]), (b_11, [(Sl.v t250_1)]), (b_10, [(Sl.v t245_1), (Sl.v t245_2)]), (b_9, [(Sl.v t237_1), (Sl.v t237_2)]), (b_8, [(Sl.v t227_3), (Sl.v t227_4)]), (b_7, [(Sl.v t227_1)]), (b_4, [(Sl.v t79_1), (Sl.v t79_2)]), (b_3, [(Sl.v t71_1), (Sl.v t71_2)]), (b_2, [(Sl.v t61_3), (Sl.v t61_4)]), (b_1, [(Sl.v t61_1)])]) rfl (fun h_47 hf_26 hL_47 => ?_)
                refine rop_locA agg32 hL_47 2 rfl 0 (vs := [(Sl.v t250_1)]) rfl rfl ?_
                refine rop_locA agg34 hL_47 1 rfl 0 (vs := [(Sl.v t250_3), (Sl.v t250_4)]) rfl rfl ?_
                have H := H b_13 h_47 (Nat.le_trans (Fr.size (Fr.r (In []) _)) hb_32) (Fr.new (Fr.no' (Fr.r (In []) _) hf_25) (Nat.le_trans (Fr.size (Fr.r (In []) _)) hb_32) hf_26) hL_47
                refine H.mono fun rv_20 h_48 H => ?_
                obtain ⟨t268_1, t268_2, t268_3, rfl, hL_48, H⟩ := H
                refine pop_ext (v := (Value.agg #[(Sl.v t268_1), (Sl.v t268_2)])) rfl ?_
                refine pop_ext (v := (VB t268_3)) rfl ?_
                refine eop_alloc 34 zer34 rfl hL_48 (fun b_14 h_49 hb_33 hf_27 hL_49 => ?_)
                refine uop_loc siz34 hL_49 0 rfl 0 [(Sl.v t268_1), (Sl.v t268_2)] rfl rfl rfl (Nat.le_of_ble_eq_true rfl) (L' := [(b_14, [(Sl.v t268_1), (Sl.v t268_2)]), (b_13, [(Sl.v t260_1), (Sl.v t260_2)]), (b_12, [(Sl.v t250_3), (Sl.v t250_4)]), (b_11, [(Sl.v t250_1)]), (b_10, [(Sl.v t245_1), (Sl.v t245_2)]), (b_9, [(Sl.v t237_1), (Sl.v t237_2)]), (b_8, [(Sl.v t227_3), (Sl.v t227_4)]), (b_7, [(Sl.v t227_1)]), (b_4, [(Sl.v t79_1), (Sl.v t79_2)]), (b_3, [(Sl.v t71_1), (Sl.v t71_2)]), (b_2, [(Sl.v t61_3), (Sl.v t61_4)]), (b_1, [(Sl.v t61_1)])]) rfl (fun h_50 hf_28 hL_50 => ?_)
                have H := H b_14 h_50 (Nat.le_trans (Fr.size (Fr.r (In []) _)) hb_33) (Fr.new (Fr.no' (Fr.r (In []) _) hf_27) (Nat.le_trans (Fr.size (Fr.r (In []) _)) hb_33) hf_28) hL_50
                refine H.mono fun rv_21 h_51 H => ?_
                obtain ⟨t273_1, t273_2, t273_3, t273_4, rfl, hL_51, H⟩ := H
                refine pop_ext (v := (Value.agg #[(Sl.v t273_1)])) rfl ?_
                refine pop_ext (v := (VI t273_2)) rfl ?_
                refine pop_ext (v := (Value.agg #[(Sl.v t273_3), (Sl.v t273_4)])) rfl ?_
                refine eop_alloc 32 zer32 rfl hL_51 (fun b_15 h_52 hb_34 hf_29 hL_52 => ?_)
                refine eop_alloc 34 zer34 rfl hL_52 (fun b_16 h_53 hb_35 hf_30 hL_53 => ?_)
                refine uop_loc siz32 hL_53 1 rfl 0 [(Sl.v t273_1)] rfl rfl rfl (Nat.le_of_ble_eq_true rfl) (L' := [(b_16, [(Sl.v nilSl), (Sl.v nilSl)]), (b_15, [(Sl.v t273_1)]), (b_14, [(Sl.v t268_1), (Sl.v t268_2)]), (b_13, [(Sl.v t260_1), (Sl.v t260_2)]), (b_12, [(Sl.v t250_3), (Sl.v t250_4)]), (b_11, [(Sl.v t250_1)]), (b_10, [(Sl.v t245_1), (Sl.v t245_2)]), (b_9, [(Sl.v t237_1), (Sl.v t237_2)]), (b_8, [(Sl.v t227_3), (Sl.v t227_4)]), (b_7, [(Sl.v t227_1)]), (b_4, [(Sl.v t79_1), (Sl.v t79_2)]), (b_3, [(Sl.v t71_1), (Sl.v t71_2)]), (b_2, [(Sl.v t61_3), (Sl.v t61_4)]), (b_1, [(Sl.v t61_1)])]) rfl (fun h_54 hf_31 hL_54 => ?_)
                refine uop_loc siz34 hL_54 0 rfl 0 [(Sl.v t273_3), (Sl.v t273_4)] rfl rfl rfl (Nat.le_of_ble_eq_true rfl) (L' := [(b_16, [(Sl.v t273_3), (Sl.v t273_4)]), (b_15, [(Sl.v t273_1)]), (b_14, [(Sl.v t268_1), (Sl.v t268_2)]), (b_13, [(Sl.v t260_1), (Sl.v t260_2)]), (b_12, [(Sl.v t250_3), (Sl.v t250_4)]), (b_11, [(Sl.v t250_1)]), (b_10, [(Sl.v t245_1), (Sl.v t245_2)]), (b_9, [(Sl.v t237_1), (Sl.v t237_2)]), (b_8, [(Sl.v t227_3), (Sl.v t227_4)]), (b_7, [(Sl.v t227_1)]), (b_4, [(Sl.v t79_1), (Sl.v t79_2)]), (b_3, [(Sl.v t71_1), (Sl.v t71_2)]), (b_2, [(Sl.v t61_3), (Sl.v t61_4)]), (b_1, [(Sl.v t61_1)])]) rfl (fun h_55 hf_32 hL_55 => ?_)
                refine rop_locA agg32 hL_55 1 rfl 0 (vs := [(Sl.v t273_1)]) rfl rfl ?_
                refine rop_locA agg34 hL_55 0 rfl 0 (vs := [(Sl.v t273_3), (Sl.v t273_4)]) rfl rfl ?_
                have H := H b_15 b_16 h_55 (Nat.le_trans (Fr.size (Fr.r (In []) _)) hb_34) (Nat.le_trans (Fr.size (Fr.no' (Fr.r (In []) _) hf_29)) hb_35) (Fr.new (Fr.new (Fr.no' (Fr.no' (Fr.r (In []) _) hf_29) hf_30) (Nat.le_trans (Fr.size (Fr.r (In []) _)) hb_34) hf_31) (Nat.le_trans (Fr.size (Fr.no' (Fr.r (In []) _) hf_29)) hb_35) hf_32) hL_55
                refine H.mono fun rv_22 h_56 H => ?_
                obtain ⟨t281_1, t281_2, rfl, hL_56, H⟩ := H
                refine pop_ext (v := (VB t281_1)) rfl ?_
                refine pop_ext (v := (VB t281_2)) rfl ?_
                refine rop_locA agg32 hL_56 1 rfl 0 (vs := [(Sl.v t273_1)]) rfl rfl ?_
                refine rop_locA agg34 hL_56 0 rfl 0 (vs := [(Sl.v t273_3), (Sl.v t273_4)]) rfl rfl ?_
                refine H.mono fun rv_23 h_57 H => ?_
                obtain ⟨t288_1, t288_2, rfl, hL_57, H⟩ := H
                refine pop_ext (v := (VB t288_1)) rfl ?_
                refine pop_ext (v := (VB t288_2)) rfl ?_
                refine pop_bne boo4 _ _ t237_3 t245_3 ?_
                refine guardM_sf (fun hb_36 => ?_) (fun hb_36 => ?_)
                · have H := H.2 hb_36
                  refine rop_locA agg34 hL_57 7 rfl 0 (vs := [(Sl.v t237_1), (Sl.v t237_2)]) rfl rfl ?_
                  refine guardM_y' hb_36 ?_
                  refine rop_locA agg34 hL_57 6 rfl 0 (vs := [(Sl.v t245_1), (Sl.v t245_2)]) rfl rfl ?_
                  refine guardM_y' hb_36 ?_
                  refine H.mono fun rv_24 h_58 H => ?_
                  obtain ⟨t297_1, rfl, hL_58, H⟩ := H
                  refine guardM_y' hb_36 ?_
                  refine pop_not t297_1 ?_
                  refine pop_pickf' hb_36 ?_
                  refine guardM_sf (fun hb_37 => ?_) (fun hb_37 => ?_)
                  · have H := H.2 hb_37
                    refine guardM_y' hb_37 ?_
                    refine guardM_y' hb_37 ?_
                    refine pop_bne boo4 _ _ t260_3 t268_3 ?_
                    refine pop_pickf' hb_37 ?_
                    refine guardM_sf (fun hb_38 => ?_) (fun hb_38 => ?_)
                    · have H := H.2 hb_38
                      refine rop_locA agg34 hL_58 3 rfl 0 (vs := [(Sl.v t260_1), (Sl.v t260_2)]) rfl rfl ?_
                      refine guardM_y' hb_38 ?_
                      refine rop_locA agg34 hL_58 2 rfl 0 (vs := [(Sl.v t268_1), (Sl.v t268_2)]) rfl rfl ?_
                      refine guardM_y' hb_38 ?_
                      refine H.mono fun rv_25 h_59 H => ?_
                      obtain ⟨t308_1, rfl, hL_59, H⟩ := H
                      refine guardM_y' hb_38 ?_
                      refine pop_not t308_1 ?_
                      refine pop_pickf' hb_38 ?_
                      refine guardM_sf (fun hb_39 => ?_) (fun hb_39 => ?_)
                      · have H := H.2 hb_39
                        refine guardM_y' hb_39 ?_
                        refine guardM_y' hb_39 ?_
                        refine pop_bne boo4 _ _ t281_2 t288_2 ?_
                        refine pop_pickf' hb_39 ?_
                        refine guardM_sf (fun hb_40 => ?_) (fun hb_40 => ?_)
                        · have H := H.2 hb_40
                          refine guardM_y' hb_40 ?_
                          refine guardM_y' hb_40 ?_
                          refine pop_bne boo4 _ _ t281_1 t288_1 ?_
                          refine pop_pickf' hb_40 ?_
                          refine condM_b (fun hb_41 => ?_) (fun hb_41 => ?_)
                          · have H := H.1 hb_41
                            exact H
                          · have H := H.2 hb_41
                            refine condM_b (fun hb_42 => ?_) (fun hb_42 => ?_)
                            · have H := H.1 hb_42
                              refine rop_locA agg32 hL_59 9 rfl 0 (vs := [(Sl.v t227_1)]) rfl rfl ?_
                              refine rop_locA agg34 hL_59 8 rfl 0 (vs := [(Sl.v t227_3), (Sl.v t227_4)]) rfl rfl ?_
                              refine H.mono fun rv_26 h_60 H => ?_
                              obtain ⟨t326_1, t326_2, t326_3, rfl, hL_60, H⟩ := H
                              refine pop_ext (v := (Value.agg #[(Sl.v t326_1), (Sl.v t326_2)])) rfl ?_
                              refine pop_ext (v := (VB t326_3)) rfl ?_
                              refine eop_alloc 34 zer34 rfl hL_60 (fun b_17 h_61 hb_43 hf_33 hL_61 => ?_)
                              refine uop_loc siz34 hL_61 0 rfl 0 [(Sl.v t326_1), (Sl.v t326_2)] rfl rfl rfl (Nat.le_of_ble_eq_true rfl) (L' := [(b_17, [(Sl.v t326_1), (Sl.v t326_2)]), (b_16, [(Sl.v t273_3), (Sl.v t273_4)]), (b_15, [(Sl.v t273_1)]), (b_14, [(Sl.v t268_1), (Sl.v t268_2)]), (b_13, [(Sl.v t260_1), (Sl.v t260_2)]), (b_12, [(Sl.v t250_3), (Sl.v t250_4)]), (b_11, [(Sl.v t250_1)]), (b_10, [(Sl.v t245_1), (Sl.v t245_2)]), (b_9, [(Sl.v t237_1), (Sl.v t237_2)]), (b_8, [(Sl.v t227_3), (Sl.v t227_4)]), (b_7, [(Sl.v t227_1)]), (b_4, [(Sl.v t79_1), (Sl.v t79_2)]), (b_3, [(Sl.v t71_1), (Sl.v t71_2)]), (b_2, [(Sl.v t61_3), (Sl.v t61_4)]), (b_1, [(Sl.v t61_1)])]) rfl (fun h_62 hf_34 hL_62 => ?_)
                              refine rop_locA agg32 hL_62 10 rfl 0 (vs := [(Sl.v t227_1)]) rfl rfl ?_
                              refine rop_locA agg34 hL_62 8 rfl 0 (vs := [(Sl.v t237_1), (Sl.v t237_2)]) rfl rfl ?_
                              have H := H b_17 h_62 (Nat.le_trans (Fr.size (Fr.r (In []) _)) hb_43) (Fr.new (Fr.no' (Fr.r (In []) _) hf_33) (Nat.le_trans (Fr.size (Fr.r (In []) _)) hb_43) hf_34) hL_62
                              refine H.mono fun rv_27 h_63 H => ?_
                              obtain ⟨t333_1, t333_2, t333_3, rfl, hL_63, H⟩ := H
                              refine pop_ext (v := (Value.agg #[(Sl.v t333_1), (Sl.v t333_2)])) rfl ?_
                              refine pop_ext (v := (VB t333_3)) rfl ?_
                              refine eop_alloc 34 zer34 rfl hL_63 (fun b_18 h_64 hb_44 hf_35 hL_64 => ?_)
                              refine uop_loc siz34 hL_64 0 rfl 0 [(Sl.v t333_1), (Sl.v t333_2)] rfl rfl rfl (Nat.le_of_ble_eq_true rfl) (L' := [(b_18, [(Sl.v t333_1), (Sl.v t333_2)]), (b_17, [(Sl.v t326_1), (Sl.v t326_2)]), (b_16, [(Sl.v t273_3), (Sl.v t273_4)]), (b_15, [(Sl.v t273_1)]), (b_14, [(Sl.v t268_1), (Sl.v t268_2)]), (b_13, [(Sl.v t260_1), (Sl.v t260_2)]), (b_12, [(Sl.v t250_3), (Sl.v t250_4)]), (b_11, [(Sl.v t250_1)]), (b_10, [(Sl.v t245_1), (Sl.v t245_2)]), (b_9, [(Sl.v t237_1), (Sl.v t237_2)]), (b_8, [(Sl.v t227_3), (Sl.v t227_4)]), (b_7, [(Sl.v t227_1)]), (b_4, [(Sl.v t79_1), (Sl.v t79_2)]), (b_3, [(Sl.v t71_1), (Sl.v t71_2)]), (b_2, [(Sl.v t61_3), (Sl.v t61_4)]), (b_1, [(Sl.v t61_1)])]) rfl (fun h_65 hf_36 hL_65 => ?_)
                              refine rop_locA agg32 hL_65 11 rfl 0 (vs := [(Sl.v t227_1)]) rfl rfl ?_
                              refine rop_locA agg34 hL_65 10 rfl 0 (vs := [(Sl.v t227_3), (Sl.v t227_4)]) rfl rfl ?_
                              have H := H b_18 h_65 (Nat.le_trans (Fr.size (Fr.r (In []) _)) hb_44) (Fr.new (Fr.no' (Fr.r (In []) _) hf_35) (Nat.le_trans (Fr.size (Fr.r (In []) _)) hb_44) hf_36) hL_65
                              refine H.mono fun rv_28 h_66 H => ?_
                              obtain ⟨t340_1, t340_2, rfl, hL_66, H⟩ := H
                              refine pop_ext (v := (Sl.v t340_1)) rfl ?_
                              refine pop_ext (v := (VB t340_2)) rfl ?_
                              refine rop_locA agg32 hL_66 11 rfl 0 (vs := [(Sl.v t227_1)]) rfl rfl ?_
                              refine rop_locA agg34 hL_66 9 rfl 0 (vs := [(Sl.v t237_1), (Sl.v t237_2)]) rfl rfl ?_
                              refine H.mono fun rv_29 h_67 H => ?_
                              obtain ⟨t347_1, t347_2, rfl, hL_67, H⟩ := H
                              refine pop_ext (v := (Sl.v t347_1)) rfl ?_
                              refine pop_ext (v := (VB t347_2)) rfl ?_
                              refine guardM_st (fun hb_45 => ?_) (fun hb_45 => ?_)
                              · have H := H.1 hb_45
                                refine pop_pickt' hb_45 ?_
                                refine guardM_st (fun hb_46 => ?_) (fun hb_46 => ?_)
                                · have H := H.1 hb_46
                                  refine rop_locA agg34 hL_67 1 rfl 0 (vs := [(Sl.v t326_1), (Sl.v t326_2)]) rfl rfl ?_
                                  refine guardM_y' hb_46 ?_
                                  refine rop_locA agg34 hL_67 0 rfl 0 (vs := [(Sl.v t333_1), (Sl.v t333_2)]) rfl rfl ?_
                                  refine guardM_y' hb_46 ?_
                                  refine H.mono fun rv_30 h_68 H => ?_
                                  obtain ⟨t357_1, rfl, hL_68, H⟩ := H
                                  refine guardM_y' hb_46 ?_
                                  refine pop_not t357_1 ?_
                                  refine pop_pickt' hb_46 ?_
                                  refine guardM_sf (fun hb_47 => ?_) (fun hb_47 => ?_)
                                  · have H := H.2 hb_47
                                    refine guardM_y' hb_47 ?_
                                    refine guardM_st (fun hb_48 => ?_) (fun hb_48 => ?_)
                                    · have H := H.1 hb_48
                                      refine guardM_y' hb_47 ?_
                                      refine pop_pickt' hb_48 ?_
                                      refine guardM_y' hb_47 ?_
                                      refine guardM_st (fun hb_49 => ?_) (fun hb_49 => ?_)
                                      · have H := H.1 hb_49
                                        refine guardM_y' hb_49 ?_
                                        refine H.mono fun rv_31 h_69 H => ?_
                                        obtain ⟨t367_1, rfl, hL_69, H⟩ := H
                                        refine guardM_y' hb_49 ?_
                                        refine guardM_y' hb_49 ?_
                                        refine H.mono fun rv_32 h_70 H => ?_
                                        obtain ⟨t369_1, rfl, hL_70, H⟩ := H
                                        refine guardM_y' hb_49 ?_
                                        refine guardM_y' hb_49 ?_
                                        refine pop_len t227_5 _ _ sli25 ?_
                                        refine guardM_y' hb_49 ?_
                                        refine pop_add .i64 t369_1 (t227_5.n : Int) ?_
                                        refine guardM_y' hb_49 ?_
                                        refine pop_ine .i64 _ _ t367_1 (w64 (t369_1 + (t227_5.n : Int))) ?_
                                        refine guardM_y' hb_47 ?_
                                        refine pop_pickt' hb_49 ?_
                                        refine pop_pickf' hb_47 ?_
                                        refine condM_b (fun hb_50 => ?_) (fun hb_50 => ?_)
                                        · have H := H.1 hb_50
                                          exact H
                                        · have H := H.2 hb_50
                                          exact H
                                      · have H := H.2 hb_49
                                        refine guardM_n' hb_49 (by decide) ?_
                                        refine guardM_n' hb_49 (by decide) ?_
                                        refine guardM_n' hb_49 (by decide) ?_
                                        refine guardM_n' hb_49 (by decide) ?_
                                        refine guardM_n' hb_49 (by decide) ?_
                                        refine guardM_n' hb_49 (by decide) ?_
                                        refine guardM_n' hb_49 (by decide) ?_
                                        refine guardM_y' hb_47 ?_
                                        refine pop_pickf' hb_49 ?_
                                        refine pop_pickf' hb_47 ?_
                                        refine condM_f ?_
                                        exact H
                                    · have H := H.2 hb_48
                                      refine guardM_y' hb_47 ?_
                                      refine pop_pickf' hb_48 ?_
                                      refine guardM_y' hb_47 ?_
                                      refine guardM_n (by decide) ?_
                                      refine guardM_n (by decide) ?_
                                      refine guardM_n (by decide) ?_
                                      refine guardM_n (by decide) ?_
                                      refine guardM_n (by decide) ?_
                                      refine guardM_n (by decide) ?_
                                      refine guardM_n (by decide) ?_
                                      refine guardM_n (by decide) ?_
                                      refine guardM_y' hb_47 ?_
                                      refine pop_pickf _ _ ?_
                                      refine pop_pickf' hb_47 ?_
                                      refine condM_f ?_
                                      exact H
                                  · have H := H.1 hb_47
                                    refine guardM_n' hb_47 (by decide) ?_
                                    refine guardM_n (by decide) ?_
                                    refine guardM_n' hb_47 (by decide) ?_
                                    refine guardM_n' hb_47 (by decide) ?_
                                    refine guardM_n (by decide) ?_
                                    refine guardM_n (by decide) ?_
                                    refine guardM_n (by decide) ?_
                                    refine guardM_n (by decide) ?_
                                    refine guardM_n (by decide) ?_
                                    refine guardM_n (by decide) ?_
                                    refine guardM_n (by decide) ?_
                                    refine guardM_n (by decide) ?_
                                    refine guardM_n' hb_47 (by decide) ?_
                                    refine pop_pickt' hb_47 ?_
                                    refine condM_t ?_
                                    exact H
                                · have H := H.2 hb_46
                                  refine guardM_n' hb_46 (by decide) ?_
                                  refine guardM_n' hb_46 (by decide) ?_
                                  refine guardM_n' hb_46 (by decide) ?_
                                  refine pop_pickf' hb_46 ?_
                                  refine guardM_y ?_
                                  refine guardM_y ?_
                                  refine guardM_st (fun hb_51 => ?_) (fun hb_51 => ?_)
                                  · have H := H.1 hb_51
                                    refine guardM_y ?_
                                    refine pop_pickt' hb_51 ?_
                                    refine guardM_y ?_
                                    refine guardM_st (fun hb_52 => ?_) (fun hb_52 => ?_)
                                    · have H := H.1 hb_52
                                      refine guardM_y' hb_52 ?_
                                      refine H.mono fun rv_33 h_71 H => ?_
                                      obtain ⟨t367_2, rfl, hL_71, H⟩ := H
                                      refine guardM_y' hb_52 ?_
                                      refine guardM_y' hb_52 ?_
                                      refine H.mono fun rv_34 h_72 H => ?_
                                      obtain ⟨t369_2, rfl, hL_72, H⟩ := H
                                      refine guardM_y' hb_52 ?_
                                      refine guardM_y' hb_52 ?_
                                      refine pop_len t227_5 _ _ sli25 ?_
                                      refine guardM_y' hb_52 ?_
                                      refine pop_add .i64 t369_2 (t227_5.n : Int) ?_
                                      refine guardM_y' hb_52 ?_
                                      refine pop_ine .i64 _ _ t367_2 (w64 (t369_2 + (t227_5.n : Int))) ?_
                                      refine guardM_y ?_
                                      refine pop_pickt' hb_52 ?_
                                      refine pop_pickf _ _ ?_
                                      refine condM_b (fun hb_53 => ?_) (fun hb_53 => ?_)
                                      · have H := H.1 hb_53
                                        exact H
                                      · have H := H.2 hb_53
                                        exact H
                                    · have H := H.2 hb_52
                                      refine guardM_n' hb_52 (by decide) ?_
                                      refine guardM_n' hb_52 (by decide) ?_
                                      refine guardM_n' hb_52 (by decide) ?_
                                      refine guardM_n' hb_52 (by decide) ?_
                                      refine guardM_n' hb_52 (by decide) ?_
                                      refine guardM_n' hb_52 (by decide) ?_
                                      refine guardM_n' hb_52 (by decide) ?_
                                      refine guardM_y ?_
                                      refine pop_pickf' hb_52 ?_
                                      refine pop_pickf _ _ ?_
                                      refine condM_f ?_
                                      exact H
                                  · have H := H.2 hb_51
                                    refine guardM_y ?_
                                    refine pop_pickf' hb_51 ?_
                                    refine guardM_y ?_
                                    refine guardM_n (by decide) ?_
                                    refine guardM_n (by decide) ?_
                                    refine guardM_n (by decide) ?_
                                    refine guardM_n (by decide) ?_
                                    refine guardM_n (by decide) ?_
                                    refine guardM_n (by decide) ?_
                                    refine guardM_n (by decide) ?_
                                    refine guardM_n (by decide) ?_
                                    refine guardM_y ?_
                                    refine pop_pickf _ _ ?_
                                    refine pop_pickf _ _ ?_
                                    refine condM_f ?_
                                    exact H
                              · have H := H.2 hb_45
                                refine pop_pickf' hb_45 ?_
                                refine guardM_n (by decide) ?_
                                refine guardM_n (by decide) ?_
                                refine guardM_n (by decide) ?_
                                refine guardM_n (by decide) ?_
                                refine pop_pickf _ _ ?_
                                refine guardM_y ?_
                                refine guardM_y ?_
                                refine guardM_st (fun hb_54 => ?_) (fun hb_54 => ?_)
                                · have H := H.1 hb_54
                                  refine guardM_y ?_
                                  refine pop_pickt' hb_54 ?_
                                  refine guardM_y ?_
                                  refine guardM_st (fun hb_55 => ?_) (fun hb_55 => ?_)
                                  · have H := H.1 hb_55
                                    refine guardM_y' hb_55 ?_
                                    refine H.mono fun rv_35 h_73 H => ?_
                                    obtain ⟨t367_3, rfl, hL_73, H⟩ := H
                                    refine guardM_y' hb_55 ?_
                                    refine guardM_y' hb_55 ?_
                                    refine H.mono fun rv_36 h_74 H => ?_
                                    obtain ⟨t369_3, rfl, hL_74, H⟩ := H
                                    refine guardM_y' hb_55 ?_
                                    refine guardM_y' hb_55 ?_
                                    refine pop_len t227_5 _ _ sli25 ?_
                                    refine guardM_y' hb_55 ?_
                                    refine pop_add .i64 t369_3 (t227_5.n : Int) ?_
                                    refine guardM_y' hb_55 ?_
                                    refine pop_ine .i64 _ _ t367_3 (w64 (t369_3 + (t227_5.n : Int))) ?_
                                    refine guardM_y ?_
                                    refine pop_pickt' hb_55 ?_
                                    refine pop_pickf _ _ ?_
                                    refine condM_b (fun hb_56 => ?_) (fun hb_56 => ?_)
                                    · have H := H.1 hb_56
                                      exact H
                                    · have H := H.2 hb_56
                                      exact H
                                  · have H := H.2 hb_55
                                    refine guardM_n' hb_55 (by decide) ?_
                                    refine guardM_n' hb_55 (by decide) ?_
                                    refine guardM_n' hb_55 (by decide) ?_
                                    refine guardM_n' hb_55 (by decide) ?_
                                    refine guardM_n' hb_55 (by decide) ?_
                                    refine guardM_n' hb_55 (by decide) ?_
                                    refine guardM_n' hb_55 (by decide) ?_
                                    refine guardM_y ?_
                                    refine pop_pickf' hb_55 ?_
                                    refine pop_pickf _ _ ?_
                                    refine condM_f ?_
                                    exact H
                                · have H := H.2 hb_54
                                  refine guardM_y ?_
                                  refine pop_pickf' hb_54 ?_
                                  refine guardM_y ?_
                                  refine guardM_n (by decide) ?_
                                  refine guardM_n (by decide) ?_
                                  refine guardM_n (by decide) ?_
                                  refine guardM_n (by decide) ?_
                                  refine guardM_n (by decide) ?_
                                  refine guardM_n (by decide) ?_
                                  refine guardM_n (by decide) ?_
                                  refine guardM_n (by decide) ?_
                                  refine guardM_y ?_
                                  refine pop_pickf _ _ ?_
                                  refine pop_pickf _ _ ?_
                                  refine condM_f ?_
                                  exact H
                            · have H := H.2 hb_42
                              exact H
                        · have H := H.1 hb_40
                          refine guardM_n' hb_40 (by decide) ?_
                          refine guardM_n' hb_40 (by decide) ?_
                          refine pop_pickt' hb_40 ?_
                          refine condM_t ?_
                          exact H
                      · have H := H.1 hb_39
                        refine guardM_n' hb_39 (by decide) ?_
                        refine guardM_n' hb_39 (by decide) ?_
                        refine pop_pickt' hb_39 ?_
                        refine guardM_n (by decide) ?_
                        refine guardM_n (by decide) ?_
                        refine guardM_n (by decide) ?_
                        refine pop_pickt _ _ ?_
                        refine condM_t ?_
                        exact H
                    · have H := H.1 hb_38
                      refine guardM_n' hb_38 (by decide) ?_
                      refine guardM_n' hb_38 (by decide) ?_
                      refine guardM_n' hb_38 (by decide) ?_
                      refine pop_pickt' hb_38 ?_
                      refine guardM_n (by decide) ?_
                      refine guardM_n (by decide) ?_
                      refine guardM_n (by decide) ?_
                      refine pop_pickt _ _ ?_
                      refine guardM_n (by decide) ?_
                      refine guardM_n (by decide) ?_
                      refine guardM_n (by decide) ?_
                      refine pop_pickt _ _ ?_
                      refine condM_t ?_
                      exact H
                  · have H := H.1 hb_37
                    refine guardM_n' hb_37 (by decide) ?_
                    refine guardM_n' hb_37 (by decide) ?_
                    refine pop_pickt' hb_37 ?_
                    refine guardM_n (by decide) ?_
                    refine guardM_n (by decide) ?_
                    refine guardM_n (by decide) ?_
                    refine guardM_n (by decide) ?_
                    refine pop_pickt _ _ ?_
                    refine guardM_n (by decide) ?_
                    refine guardM_n (by decide) ?_
                    refine guardM_n (by decide) ?_
                    refine pop_pickt _ _ ?_
                    refine guardM_n (by decide) ?_
                    refine guardM_n (by decide) ?_
                    refine guardM_n (by decide) ?_
                    refine pop_pickt _ _ ?_
                    refine condM_t ?_
                    exact H
                · have H := H.1 hb_36
                  refine guardM_n' hb_36 (by decide) ?_
                  refine guardM_n' hb_36 (by decide) ?_
                  refine guardM_n' hb_36 (by decide) ?_
                  refine pop_pickt' hb_36 ?_
                  refine guardM_n (by decide) ?_
                  refine guardM_n (by decide) ?_
                  refine guardM_n (by decide) ?_
                  refine pop_pickt _ _ ?_
                  refine guardM_n (by decide) ?_
                  refine guardM_n (by decide) ?_
                  refine guardM_n (by decide) ?_
                  refine guardM_n (by decide) ?_
                  refine pop_pickt _ _ ?_
                  refine guardM_n (by decide) ?_
                  refine guardM_n (by decide) ?_
                  refine guardM_n (by decide) ?_
                  refine pop_pickt _ _ ?_
                  refine guardM_n (by decide) ?_
                  refine guardM_n (by decide) ?_
                  refine guardM_n (by decide) ?_
                  refine pop_pickt _ _ ?_
                  refine condM_t ?_
                  exact H
            · have H := H.2 hb_10
              refine guardM_n' hb_10 (by decide) ?_
              refine guardM_y' hb_9 ?_
              refine pop_pickf' hb_10 ?_
              refine pop_pickf' hb_9 ?_
              refine condM_f ?_
              obtain ⟨J_3, H, HB_3⟩ := H
              refine ⟨fun (vs : List Value) (h' : Heap) => vs = [] ∧ J_3  h' ∧ Vars h' [(b_4, [(Sl.v t79_1), (Sl.v t79_2)]), (b_3, [(Sl.v t71_1), (Sl.v t71_2)]), (b_2, [(Sl.v t61_3), (Sl.v t61_4)]), (b_1, [(Sl.v t61_1)])], ?_, ?_⟩
              · refine condM_f' hb_10 ?_
                exact ⟨rfl, H, hL_16⟩
              intro junk_3  h_75
              rintro ⟨hv, hJ_3, hL_75⟩
              have H := HB_3  h_75 hJ_3 hL_75
              refine H.mono fun rv_37 h_76 H => ?_
              obtain ⟨t227_6, t227_7, t227_8, t227_9, t227_10, rfl, hL_76, H⟩ := H
              refine pop_ext (v := (Value.agg #[(Sl.v t227_6)])) rfl ?_
              refine pop_ext (v := (VI t227_7)) rfl ?_
              refine pop_ext (v := (Value.agg #[(Sl.v t227_8), (Sl.v t227_9)])) rfl ?_
              refine pop_ext (v := (Sl.v t227_10)) rfl ?_
              refine eop_alloc 32 zer32 rfl hL_76 (fun b_19 h_77 hb_57 hf_37 hL_77 => ?_)
              refine eop_alloc 34 zer34 rfl hL_77 (fun b_20 h_78 hb_58 hf_38 hL_78 => ?_)
              refine uop_loc siz32 hL_78 1 rfl 0 [(Sl.v t227_6)] rfl rfl rfl (Nat.le_of_ble_eq_true rfl) (L' := [(b_20, [(Sl.v nilSl), (Sl.v nilSl)]), (b_19, [(Sl.v t227_6)]), (b_4, [(Sl.v t79_1), (Sl.v t79_2)]), (b_3, [(Sl.v t71_1), (Sl.v t71_2)]), (b_2, [(Sl.v t61_3), (Sl.v t61_4)]), (b_1, [(Sl.v t61_1)])]) rfl (fun h_79 hf_39 hL_79 => ?_)
              refine uop_loc siz34 hL_79 0 rfl 0 [(Sl.v t227_8), (Sl.v t227_9)] rfl rfl rfl (Nat.le_of_ble_eq_true rfl) (L' := [(b_20, [(Sl.v t227_8), (Sl.v t227_9)]), (b_19, [(Sl.v t227_6)]), (b_4, [(Sl.v t79_1), (Sl.v t79_2)]), (b_3, [(Sl.v t71_1), (Sl.v t71_2)]), (b_2, [(Sl.v t61_3), (Sl.v t61_4)]), (b_1, [(Sl.v t61_1)])]) rfl (fun h_80 hf_40 hL_80 => ?_)
              refine rop_locA agg32 hL_80 1 rfl 0 (vs := [(Sl.v t227_6)]) rfl rfl ?_
              refine rop_locA agg34 hL_80 0 rfl 0 (vs := [(Sl.v t227_8), (Sl.v t227_9)]) rfl rfl ?_
              have H := H b_19 b_20 h_80 (Nat.le_trans (Fr.size (Fr.r (In []) _)) hb_57) (Nat.le_trans (Fr.size (Fr.no' (Fr.r (In []) _) hf_37)) hb_58) (Fr.new (Fr.new (Fr.no' (Fr.no' (Fr.r (In []) _) hf_37) hf_38) (Nat.le_trans (Fr.size (Fr.r (In []) _)) hb_57) hf_39) (Nat.le_trans (Fr.size (Fr.no' (Fr.r (In []) _) hf_37)) hb_58) hf_40) hL_80
              refine H.mono fun rv_38 h_81 H => ?_
              obtain ⟨t237_4, t237_5, t237_6, rfl, hL_81, H⟩ := H
              refine pop_ext (v := (Value.agg #[(Sl.v t237_4), (Sl.v t237_5)])) rfl ?_
              refine pop_ext (v := (VB t237_6)) rfl ?_
              refine eop_alloc 34 zer34 rfl hL_81 (fun b_21 h_82 hb_59 hf_41 hL_82 => ?_)
              refine uop_loc siz34 hL_82 0 rfl 0 [(Sl.v t237_4), (Sl.v t237_5)] rfl rfl rfl (Nat.le_of_ble_eq_true rfl) (L' := [(b_21, [(Sl.v t237_4), (Sl.v t237_5)]), (b_20, [(Sl.v t227_8), (Sl.v t227_9)]), (b_19, [(Sl.v t227_6)]), (b_4, [(Sl.v t79_1), (Sl.v t79_2)]), (b_3, [(Sl.v t71_1), (Sl.v t71_2)]), (b_2, [(Sl.v t61_3), (Sl.v t61_4)]), (b_1, [(Sl.v t61_1)])]) rfl (fun h_83 hf_42 hL_83 => ?_)
              refine rop_locA agg32 hL_83 2 rfl 0 (vs := [(Sl.v t227_6)]) rfl rfl ?_
              refine rop_locA agg34 hL_83 1 rfl 0 (vs := [(Sl.v t227_8), (Sl.v t227_9)]) rfl rfl ?_
              have H := H b_21 h_83 (Nat.le_trans (Fr.size (Fr.r (In []) _)) hb_59) (Fr.new (Fr.no' (Fr.r (In []) _) hf_41) (Nat.le_trans (Fr.size (Fr.r (In []) _)) hb_59) hf_42) hL_83
              refine H.mono fun rv_39 h_84 H => ?_
              obtain ⟨t245_4, t245_5, t245_6, rfl, hL_84, H⟩ := H
              refine pop_ext (v := (Value.agg #[(Sl.v t245_4), (Sl.v t245_5)])) rfl ?_
              refine pop_ext (v := (VB t245_6)) rfl ?_
              refine eop_alloc 34 zer34 rfl hL_84 (fun b_22 h_85 hb_60 hf_43 hL_85 => ?_)
              refine uop_loc siz34 hL_85 0 rfl 0 [(Sl.v t245_4), (Sl.v t245_5)] rfl rfl rfl (Nat.le_of_ble_eq_true rfl) (L' := [(b_22, [(Sl.v t245_4), (Sl.v t245_5)]), (b_21, [(Sl.v t237_4), (Sl.v t237_5)]), (b_20, [(Sl.v t227_8), (Sl.v t227_9)]), (b_19, [(Sl.v t227_6)]), (b_4, [(Sl.v t79_1), (Sl.v t79_2)]), (b_3, [(Sl.v t71_1), (Sl.v t71_2)]), (b_2, [(Sl.v t61_3), (Sl.v t61_4)]), (b_1, [(Sl.v t61_1)])]) rfl (fun h_86 hf_44 hL_86 => ?_)
              have H := H b_22 h_86 (Nat.le_trans (Fr.size (Fr.r (In []) _)) hb_60) (Fr.new (Fr.no' (Fr.r (In []) _) hf_43) (Nat.le_trans (Fr.size (Fr.r (In []) _)) hb_60) hf_44) hL_86
              refine H.mono fun rv_40 h_87 H => ?_
              obtain ⟨t250_6, t250_7, t250_8, t250_9, t250_10, rfl, hL_87, H⟩ := H
              refine pop_ext (v := (Value.agg #[(Sl.v t250_6)])) rfl ?_
              refine pop_ext (v := (VI t250_7)) rfl ?_
              refine pop_ext (v := (Value.agg #[(Sl.v t250_8), (Sl.v t250_9)])) rfl ?_
              refine pop_ext (v := (VI t250_10)) rfl ?_
              refine eop_alloc 32 zer32 rfl hL_87 (fun b_23 h_88 hb_61 hf_45 hL_88 => ?_)
              refine eop_alloc 34 zer34 rfl hL_88 (fun b_24 h_89 hb_62 hf_46 hL_89 => ?_)
              refine uop_loc siz32 hL_89 1 rfl 0 [(Sl.v t250_6)] rfl rfl rfl (Nat.le_of_ble_eq_true rfl) (L' := [(b_24, [(Sl.v nilSl), (Sl.v nilSl)]), (b_23, [(Sl.v t250_6)]), (b_22, [(Sl.v t245_4), (Sl.v t245_5)]), (b_21, [(Sl.v t237_4), (Sl.v t237_5)]), (b_20, [(Sl.v t227_8), (Sl.v t227_9)]), (b_19, [(Sl.v t227_6)]), (b_4, [(Sl.v t79_1), (Sl.v t79_2)]), (b_3, [(Sl.v t71_1), (Sl.v t71_2)]), (b_2, [(Sl.v t61_3), (Sl.v t61_4)]), (b_1, [(Sl.v t61_1)])]) rfl (fun h_90 hf_47 hL_90 => ?_)
              refine uop_loc siz34 hL_90 0 rfl 0 [(Sl.v t250_8), (Sl.v t250_9)] rfl rfl rfl (Nat.le_of_ble_eq_true rfl) (L' := [(b_24, [(Sl.v t250_8), (Sl.v t250_9)]), (b_23, [(Sl.v t250_6)]), (b_22, [(Sl.v t245_4), (Sl.v t245_5)]), (b_21, [(Sl.v t237_4), (Sl.v t237_5)]), (b_20, [(Sl.v t227_8), (Sl.v t227_9)]), (b_19, [(Sl.v t227_6)]), (b_4, [(Sl.v t79_1), (Sl.v t79_2)]), (b_3, [(Sl.v t71_1), (Sl.v t71_2)]), (b_2, [(Sl.v t61_3), (Sl.v t61_4)]), (b_1, [(Sl.v t61_1)])]) rfl (fun h_91 hf_48 hL_91 => ?_)
              refine rop_locA agg32 hL_91 1 rfl 0 (vs := [(Sl.v t250_6)]) rfl rfl ?_
              refine rop_locA agg34 hL_91 0 rfl 0 (vs := [(Sl.v t250_8), (Sl.v t250_9)]) rfl rfl ?_
              have H := H b_23 b_24 h_91 (Nat.le_trans (Fr.size (Fr.r (In []) _)) hb_61) (Nat.le_trans (Fr.size (Fr.no' (Fr.r (In []) _) hf_45)) hb_62) (Fr.new (Fr.new (Fr.no' (Fr.no' (Fr.r (In []) _) hf_45) hf_46) (Nat.le_trans (Fr.size (Fr.r (In []) _)) hb_61) hf_47) (Nat.le_trans (Fr.size (Fr.no' (Fr.r (In []) _) hf_45)) hb_62) hf_48) hL_91
              refine H.mono fun rv_41 h_92 H => ?_
              obtain ⟨t260_4, t260_5, t260_6, rfl, hL_92, H⟩ := H
              refine pop_ext (v := (Value.agg #[(Sl.v t260_4), (Sl.v t260_5)])) rfl ?_
              refine pop_ext (v := (VB t260_6)) rfl ?_
              refine eop_alloc 34 zer34 rfl hL_92 (fun b_25 h_93 hb_63 hf_49 hL_93 => ?_)
              refine uop_loc siz34 hL_93 0 rfl 0 [(Sl.v t260_4), (Sl.v t260_5)] rfl rfl rfl (Nat.le_of_ble_eq_true rfl) (L' := [(b_25, [(Sl.v t260_4), (Sl.v t260_5)]), (b_24, [(Sl.v t250_8), (Sl.v t250_9)]), (b_23, [(Sl.v t250_6)]), (b_22, [(Sl.v t245_4), (Sl.v t245_5)]), (b_21, [(Sl.v t237_4), (Sl.v t237_5)]), (b_20, [(Sl.v t227_8), (Sl.v t227_9)]), (b_19, [(Sl.v t227_6)]), (b_4, [(Sl.v t79_1), (Sl.v t79_2)]), (b_3, [(Sl.v t71_1), (Sl.v t71_2)]), (b_2, [(Sl.v t61_3), (Sl.v t61_4)]), (b_1, [(Sl.v t61_1)])]) rfl (fun h_94 hf_50 hL_94 => ?_)
              refine rop_locA agg32 hL_94 2 rfl 0 (vs := [(Sl.v t250_6)]) rfl rfl ?_
              refine rop_locA agg34 hL_94 1 rfl 0 (vs := [(Sl.v t250_8), (Sl.v t250_9)]) rfl rfl ?_
              have H := H b_25 h_94 (Nat.le_trans (Fr.size (Fr.r (In []) _)) hb_63) (Fr.new (Fr.no' (Fr.r (In []) _) hf_49) (Nat.le_trans (Fr.size (Fr.r (In []) _)) hb_63) hf_50) hL_94
              refine H.mono fun rv_42 h_95 H => ?_
              obtain ⟨t268_4, t268_5, t268_6, rfl, hL_95, H⟩ := H
              refine pop_ext (v := (Value.agg #[(Sl.v t268_4), (Sl.v t268_5)])) rfl ?_
              refine pop_ext (v := (VB t268_6)) rfl ?_
              refine eop_alloc 34 zer34 rfl hL_95 (fun b_26 h_96 hb_64 hf_51 hL_96 => ?_)
              refine uop_loc siz34 hL_96 0 rfl 0 [(Sl.v t268_4), (Sl.v t268_5)] rfl rfl rfl (Nat.le_of_ble_eq_true rfl) (L' := [(b_26, [(Sl.v t268_4), (Sl.v t268_5)]), (b_25, [(Sl.v t260_4), (Sl.v t260_5)]), (b_24, [(Sl.v t250_8), (Sl.v t250_9)]), (b_23, [(Sl.v t250_6)]), (b_22, [(Sl.v t245_4), (Sl.v t245_5)]), (b_21, [(Sl.v t237_4), (Sl.v t237_5)]), (b_20, [(Sl.v t227_8), (Sl.v t227_9)]), (b_19, [(Sl.v t227_6)]), (b_4, [(Sl.v t79_1), (Sl.v t79_2)]), (b_3, [(Sl.v t71_1), (Sl.v t71_2)]), (b_2, [(Sl.v t61_3), (Sl.v t61_4)]), (b_1, [(Sl.v t61_1)])]) rfl (fun h_97 hf_52 hL_97 => ?_)
              have H := H b_26 h_97 (Nat.le_trans (Fr.size (Fr.r (In []) _)) hb_64) (Fr.new (Fr.no' (Fr.r (In []) _) hf_51) (Nat.le_trans (Fr.size (Fr.r (In []) _)) hb_64) hf_52) hL_97
              refine H.mono fun rv_43 h_98 H => ?_
              obtain ⟨t273_5, t273_6, t273_7, t273_8, rfl, hL_98, H⟩ := H
              refine pop_ext (v := (Value.agg #[(Sl.v t273_5)])) rfl ?_
              refine pop_ext (v := (VI t273_6)) rfl ?_
              refine pop_ext (v := (Value.agg #[(Sl.v t273_7), (Sl.v t273_8)])) rfl ?_
              refine eop_alloc 32 zer32 rfl hL_98 (fun b_27 h_99 hb_65 hf_53 hL_99 => ?_)
              refine eop_alloc 34 zer34 rfl hL_99 (fun b_28 h_100 hb_66 hf_54 hL_100 => ?_)
              refine uop_loc siz32 hL_100 1 rfl 0 [(Sl.v t273_5)] rfl rfl rfl (Nat.le_of_ble_eq_true rfl) (L' := [(b_28, [(Sl.v nilSl), (Sl.v nilSl)]), (b_27, [(Sl.v t273_5)]), (b_26, [(Sl.v t268_4), (Sl.v t268_5)]), (b_25, [(Sl.v t260_4), (Sl.v t260_5)]), (b_24, [(Sl.v t250_8), (Sl.v t250_9)]), (b_23, [(Sl.v t250_6)]), (b_22, [(Sl.v t245_4), (Sl.v t245_5)]), (b_21, [(Sl.v t237_4), (Sl.v t237_5)]), (b_20, [(Sl.v t227_8), (Sl.v t227_9)]), (b_19, [(Sl.v t227_6)]), (b_4, [(Sl.v t79_1), (Sl.v t79_2)]), (b_3, [(Sl.v t71_1), (Sl.v t71_2)]), (b_2, [(Sl.v t61_3), (Sl.v t61_4)]), (b_1, [(Sl.v t61_1)])]) rfl (fun h_101 hf_55 hL_101 => ?_)
              refine uop_loc siz34 hL_101 0 rfl 0 [(Sl.v t273_7), (Sl.v t273_8)] rfl rfl rfl (Nat.le_of_ble_eq_true rfl) (L' := [(b_28, [(Sl.v t273_7), (Sl.v t273_8)]), (b_27, [(Sl.v t273_5)]), (b_26, [(Sl.v t268_4), (Sl.v t268_5)]), (b_25, [(Sl.v t260_4), (Sl.v t260_5)]), (b_24, [(Sl.v t250_8), (Sl.v t250_9)]), (b_23, [(Sl.v t250_6)]), (b_22, [(Sl.v t245_4), (Sl.v t245_5)]), (b_21, [(Sl.v t237_4), (Sl.v t237_5)]), (b_20, [(Sl.v t227_8), (Sl.v t227_9)]), (b_19, [(Sl.v t227_6)]), (b_4, [(Sl.v t79_1), (Sl.v t79_2)]), (b_3, [(Sl.v t71_1), (Sl.v t71_2)]), (b_2, [(Sl.v t61_3), (Sl.v t61_4)]), (b_1, [(Sl.v t61_1)])]) rfl (fun h_102 hf_56 hL_102 => ?_)
              refine rop_locA agg32 hL_102 1 rfl 0 (vs := [(Sl.v t273_5)]) rfl rfl ?_
              refine rop_locA agg34 hL_102 0 rfl 0 (vs := [(Sl.v t273_7), (Sl.v t273_8)]) rfl rfl ?_
              have H := H b_27 b_28 h_102 (Nat.le_trans (Fr.size (Fr.r (In []) _)) hb_65) (Nat.le_trans (Fr.size (Fr.no' (Fr.r (In []) _) hf_53)) hb_66) (Fr.new (Fr.new (Fr.no' (Fr.no' (Fr.r (In []) _) hf_53) hf_54) (Nat.le_trans (Fr.size (Fr.r (In []) _)) hb_65) hf_55) (Nat.le_trans (Fr.size (Fr.no' (Fr.r (In []) _) hf_53)) hb_66) hf_56) hL_102
              refine H.mono fun rv_44 h_103 H => ?_
              obtain ⟨t281_3, t281_4, rfl, hL_103, H⟩ := H
              refine pop_ext (v := (VB t281_3)) rfl ?_
              refine pop_ext (v := (VB t281_4)) rfl ?_
              refine rop_locA agg32 hL_103 1 rfl 0 (vs := [(Sl.v t273_5)]) rfl rfl ?_
              refine rop_locA agg34 hL_103 0 rfl 0 (vs := [(Sl.v t273_7), (Sl.v t273_8)]) rfl rfl ?_
              refine H.mono fun rv_45 h_104 H => ?_
              obtain ⟨t288_3, t288_4, rfl, hL_104, H⟩ := H
              refine pop_ext (v := (VB t288_3)) rfl ?_
              refine pop_ext (v := (VB t288_4)) rfl ?_
              refine pop_bne boo4 _ _ t237_6 t245_6 ?_
              refine guardM_sf (fun hb_67 => ?_) (fun hb_67 => ?_)
              · have H := H.2 hb_67
                refine rop_locA agg34 hL_104 7 rfl 0 (vs := [(Sl.v t237_4), (Sl.v t237_5)]) rfl rfl ?_
                refine guardM_y' hb_67 ?_
                refine rop_locA agg34 hL_104 6 rfl 0 (vs := [(Sl.v t245_4), (Sl.v t245_5)]) rfl rfl ?_
                refine guardM_y' hb_67 ?_
                refine H.mono fun rv_46 h_105 H => ?_
                obtain ⟨t297_2, rfl, hL_105, H⟩ := H
                refine guardM_y' hb_67 ?_
                refine pop_not t297_2 ?_
                refine pop_pickf' hb_67 ?_
                refine guardM_sf (fun hb_68 => ?_) (fun hb_68 => ?_)
                · have H := H.2 hb_68
                  refine guardM_y' hb_68 ?_
                  refine guardM_y' hb_68 ?_
                  refine pop_bne boo4 _ _ t260_6 t268_6 ?_
                  refine pop_pickf' hb_68 ?_
                  refine guardM_sf (fun hb_69 => ?_) (fun hb_69 => ?_)
                  · have H := H.2 hb_69
                    refine rop_locA agg34 hL_105 3 rfl 0 (vs := [(Sl.v t260_4), (Sl.v t260_5)]) rfl rfl ?_
                    refine guardM_y' hb_69 ?_
                    refine rop_locA agg34 hL_105 2 rfl 0 (vs := [(Sl.v t268_4), (Sl.v t268_5)]) rfl rfl ?_
                    refine guardM_y' hb_69 ?_
                    refine H.mono fun rv_47 h_106 H => ?_
                    obtain ⟨t308_2, rfl, hL_106, H⟩ := H
                    refine guardM_y' hb_69 ?_
                    refine pop_not t308_2 ?_
                    refine pop_pickf' hb_69 ?_
                    refine guardM_sf (fun hb_70 => ?_) (fun hb_70 => ?_)
                    · have H := H.2 hb_70
                      refine guardM_y' hb_70 ?_
                      refine guardM_y' hb_70 ?_
                      refine pop_bne boo4 _ _ t281_4 t288_4 ?_
                      refine pop_pickf' hb_70 ?_
                      refine guardM_sf (fun hb_71 => ?_) (fun hb_71 => ?_)
                      · have H := H.2 hb_71
                        refine guardM_y' hb_71 ?_
                        refine guardM_y' hb_71 ?_
                        refine pop_bne boo4 _ _ t281_3 t288_3 ?_
                        refine pop_pickf' hb_71 ?_
                        refine condM_b (fun hb_72 => ?_) (fun hb_72 => ?_)
                        · have H := H.1 hb_72
                          exact H
                        · have H := H.2 hb_72
                          refine condM_b (fun hb_73 => ?_) (fun hb_73 => ?_)
                          · have H := H.1 hb_73
                            refine rop_locA agg32 hL_106 9 rfl 0 (vs := [(Sl.v t227_6)]) rfl rfl ?_
                            refine rop_locA agg34 hL_106 8 rfl 0 (vs := [(Sl.v t227_8), (Sl.v t227_9)]) rfl rfl ?_
                            refine H.mono fun rv_48 h_107 H => ?_
                            obtain ⟨t326_4, t326_5, t326_6, rfl, hL_107, H⟩ := H
                            refine pop_ext (v := (Value.agg #[(Sl.v t326_4), (Sl.v t326_5)])) rfl ?_
                            refine pop_ext (v := (VB t326_6)) rfl ?_
                            refine eop_alloc 34 zer34 rfl hL_107 (fun b_29 h_108 hb_74 hf_57 hL_108 => ?_)
                            refine uop_loc siz34 hL_108 0 rfl 0 [(Sl.v t326_4), (Sl.v t326_5)] rfl rfl rfl (Nat.le_of_ble_eq_true rfl) (L' := [(b_29, [(Sl.v t326_4), (Sl.v t326_5)]), (b_28, [(Sl.v t273_7), (Sl.v t273_8)]), (b_27, [(Sl.v t273_5)]), (b_26, [(Sl.v t268_4), (Sl.v t268_5)]), (b_25, [(Sl.v t260_4), (Sl.v t260_5)]), (b_24, [(Sl.v t250_8), (Sl.v t250_9)]), (b_23, [(Sl.v t250_6)]), (b_22, [(Sl.v t245_4), (Sl.v t245_5)]), (b_21, [(Sl.v t237_4), (Sl.v t237_5)]), (b_20, [(Sl.v t227_8), (Sl.v t227_9)]), (b_19, [(Sl.v t227_6)]), (b_4, [(Sl.v t79_1), (Sl.v t79_2)]), (b_3, [(Sl.v t71_1), (Sl.v t71_2)]), (b_2, [(Sl.v t61_3), (Sl.v t61_4)]), (b_1, [(Sl.v t61_1)])]) rfl (fun h_109 hf_58 hL_109 => ?_)
                            refine rop_locA agg32 hL_109 10 rfl 0 (vs := [(Sl.v t227_6)]) rfl rfl ?_
                            refine rop_locA agg34 hL_109 8 rfl 0 (vs := [(Sl.v t237_4), (Sl.v t237_5)]) rfl rfl ?_
                            have H := H b_29 h_109 (Nat.le_trans (Fr.size (Fr.r (In []) _)) hb_74) (Fr.new (Fr.no' (Fr.r (In []) _) hf_57) (Nat.le_trans (Fr.size (Fr.r (In []) _)) hb_74) hf_58) hL_109
                            refine H.mono fun rv_49 h_110 H => ?_
                            obtain ⟨t333_4, t333_5, t333_6, rfl, hL_110, H⟩ := H
                            refine pop_ext (v := (Value.agg #[(Sl.v t333_4), (Sl.v t333_5)])) rfl ?_
                            refine pop_ext (v := (VB t333_6)) rfl ?_
                            refine eop_alloc 34 zer34 rfl hL_110 (fun b_30 h_111 hb_75 hf_59 hL_111 => ?_)
                            refine uop_loc siz34 hL_111 0 rfl 0 [(Sl.v t333_4), (Sl.v t333_5)] rfl rfl rfl (Nat.le_of_ble_eq_true rfl) (L' := [(b_30, [(Sl.v t333_4), (Sl.v t333_5)]), (b_29, [(Sl.v t326_4), (Sl.v t326_5)]), (b_28, [(Sl.v t273_7), (Sl.v t273_8)]), (b_27, [(Sl.v t273_5)]), (b_26, [(Sl.v t268_4), (Sl.v t268_5)]), (b_25, [(Sl.v t260_4), (Sl.v t260_5)]), (b_24, [(Sl.v t250_8), (Sl.v t250_9)]), (b_23, [(Sl.v t250_6)]), (b_22, [(Sl.v t245_4), (Sl.v t245_5)]), (b_21, [(Sl.v t237_4), (Sl.v t237_5)]), (b_20, [(Sl.v t227_8), (Sl.v t227_9)]), (b_19, [(Sl.v t227_6)]), (b_4, [(Sl.v t79_1), (Sl.v t79_2)]), (b_3, [(Sl.v t71_1), (Sl.v t71_2)]), (b_2, [(Sl.v t61_3), (Sl.v t61_4)]), (b_1, [(Sl.v t61_1)])]) rfl (fun h_112 hf_60 hL_112 => ?_)
                            refine rop_locA agg32 hL_112 11 rfl 0 (vs := [(Sl.v t227_6)]) rfl rfl ?_
                            refine rop_locA agg34 hL_112 10 rfl 0 (vs := [(Sl.v t227_8), (Sl.v t227_9)]) rfl rfl ?_
                            have H := H b_30 h_112 (Nat.le_trans (Fr.size (Fr.r (In []) _)) hb_75) (Fr.new (Fr.no' (Fr.r (In []) _) hf_59) (Nat.le_trans (Fr.size (Fr.r (In []) _)) hb_75) hf_60) hL_112
                            refine H.mono fun rv_50 h_113 H => ?_
                            obtain ⟨t340_3, t340_4, rfl, hL_113, H⟩ := H
                            refine pop_ext (v := (Sl.v t340_3)) rfl ?_
                            refine pop_ext (v := (VB t340_4)) rfl ?_
                            refine rop_locA agg32 hL_113 11 rfl 0 (vs := [(Sl.v t227_6)]) rfl rfl ?_
                            refine rop_locA agg34 hL_113 9 rfl 0 (vs := [(Sl.v t237_4), (Sl.v t237_5)]) rfl rfl ?_
                            refine H.mono fun rv_51 h_114 H => ?_
                            obtain ⟨t347_3, t347_4, rfl, hL_114, H⟩ := H
                            refine pop_ext (v := (Sl.v t347_3)) rfl ?_
                            refine pop_ext (v := (VB t347_4)) rfl ?_
                            refine guardM_st (fun hb_76 => ?_) (fun hb_76 => ?_)
                            · have H := H.1 hb_76
                              refine pop_pickt' hb_76 ?_
                              refine guardM_st (fun hb_77 => ?_) (fun hb_77 => ?_)
                              · have H := H.1 hb_77
                                refine rop_locA agg34 hL_114 1 rfl 0 (vs := [(Sl.v t326_4), (Sl.v t326_5)]) rfl rfl ?_
                                refine guardM_y' hb_77 ?_
                                refine rop_locA agg34 hL_114 0 rfl 0 (vs := [(Sl.v t333_4), (Sl.v t333_5)]) rfl rfl ?_
                                refine guardM_y' hb_77 ?_
                                refine H.mono fun rv_52 h_115 H => ?_
                                obtain ⟨t357_2, rfl, hL_115, H⟩ := H
                                refine guardM_y' hb_77 ?_
                                refine pop_not t357_2 ?_
                                refine pop_pickt' hb_77 ?_
                                refine guardM_sf (fun hb_78 => ?_) (fun hb_78 => ?_)
                                · have H := H.2 hb_78
                                  refine guardM_y' hb_78 ?_
                                  refine guardM_st (fun hb_79 => ?_) (fun hb_79 => ?_)
                                  · have H := H.1 hb_79
                                    refine guardM_y' hb_78 ?_
                                    refine pop_pickt' hb_79 ?_
                                    refine guardM_y' hb_78 ?_
                                    refine guardM_st (fun hb_80 => ?_) (fun hb_80 => ?_)
                                    · have H := H.1 hb_80
                                      refine guardM_y' hb_80 ?_
                                      refine H.mono fun rv_53 h_116 H => ?_
                                      obtain ⟨t367_4, rfl, hL_116, H⟩ := H
                                      refine guardM_y' hb_80 ?_
                                      refine guardM_y' hb_80 ?_
                                      refine H.mono fun rv_54 h_117 H => ?_
                                      obtain ⟨t369_4, rfl, hL_117, H⟩ := H
                                      refine guardM_y' hb_80 ?_
                                      refine guardM_y' hb_80 ?_
                                      refine pop_len t227_10 _ _ sli25 ?_
                                      refine guardM_y' hb_80 ?_
                                      refine pop_add .i64 t369_4 (t227_10.n : Int) ?_
                                      refine guardM_y' hb_80 ?_
                                      refine pop_ine .i64 _ _ t367_4 (w64 (t369_4 + (t227_10.n : Int))) ?_
                                      refine guardM_y' hb_78 ?_
                                      refine pop_pickt' hb_80 ?_
                                      refine pop_pickf' hb_78 ?_
                                      refine condM_b (fun hb_81 => ?_) (fun hb_81 => ?_)
                                      · have H := H.1 hb_81
                                        exact H
                                      · have H := H.2 hb_81
                                        exact H
                                    · have H := H.2 hb_80
                                      refine guardM_n' hb_80 (by decide) ?_
                                      refine guardM_n' hb_80 (by decide) ?_
                                      refine guardM_n' hb_80 (by decide) ?_
                                      refine guardM_n' hb_80 (by decide) ?_
                                      refine guardM_n' hb_80 (by decide) ?_
                                      refine guardM_n' hb_80 (by decide) ?_
                                      refine guardM_n' hb_80 (by decide) ?_
                                      refine guardM_y' hb_78 ?_
                                      refine pop_pickf' hb_80 ?_
                                      refine pop_pickf' hb_78 ?_
                                      refine condM_f ?_
                                      exact H
                                  · have H := H.2 hb_79
                                    refine guardM_y' hb_78 ?_
                                    refine pop_pickf' hb_79 ?_
                                    refine guardM_y' hb_78 ?_
                                    refine guardM_n (by decide) ?_
                                    refine guardM_n (by decide) ?_
                                    refine guardM_n (by decide) ?_
                                    refine guardM_n (by decide) ?_
                                    refine guardM_n (by decide) ?_
                                    refine guardM_n (by decide) ?_
                                    refine guardM_n (by decide) ?_
                                    refine guardM_n (by decide) ?_
                                    refine guardM_y' hb_78 ?_
                                    refine pop_pickf _ _ ?_
                                    refine pop_pickf' hb_78 ?_
                                    refine condM_f ?_
                                    exact H
                                · have H := H.1 hb_78
                                  refine guardM_n' hb_78 (by decide) ?_
                                  refine guardM_n (by decide) ?_
                                  refine guardM_n' hb_78 (by decide) ?_
                                  refine guardM_n' hb_78 (by decide) ?_
                                  refine guardM_n (by decide) ?_
                                  refine guardM_n (by decide) ?_
                                  refine guardM_n (by decide) ?_
                                  refine guardM_n (by decide) ?_
                                  refine guardM_n (by decide) ?_
                                  refine guardM_n (by decide) ?_
                                  refine guardM_n (by decide) ?_
                                  refine guardM_n (by decide) ?_
                                  refine guardM_n' hb_78 (by decide) ?_
                                  refine pop_pickt' hb_78 ?_
                                  refine condM_t ?_
                                  exact H
                              · have H := H.2 hb_77
                                refine guardM_n' hb_77 (by decide) ?_
                                refine guardM_n' hb_77 (by decide) ?_
                                refine guardM_n' hb_77 (by decide) ?_
                                refine pop_pickf' hb_77 ?_
                                refine guardM_y ?_
                                refine guardM_y ?_
                                refine guardM_st (fun hb_82 => ?_) (fun hb_82 => ?_)
                                · have H := H.1 hb_82
                                  refine guardM_y ?_
                                  refine pop_pickt' hb_82 ?_
                                  refine guardM_y ?_
                                  refine guardM_st (fun hb_83 => ?_) (fun hb_83 => ?_)
                                  · have H := H.1 hb_83
                                    refine guardM_y' hb_83 ?_
                                    refine H.mono fun rv_55 h_118 H => ?_
                                    obtain ⟨t367_5, rfl, hL_118, H⟩ := H
                                    refine guardM_y' hb_83 ?_
                                    refine guardM_y' hb_83 ?_
                                    refine H.mono fun rv_56 h_119 H => ?_
                                    obtain ⟨t369_5, rfl, hL_119, H⟩ := H
                                    refine guardM_y' hb_83 ?_
                                    refine guardM_y' hb_83 ?_
                                    refine pop_len t227_10 _ _ sli25 ?_
                                    refine guardM_y' hb_83 ?_
                                    refine pop_add .i64 t369_5 (t227_10.n : Int) ?_
                                    refine guardM_y' hb_83 ?_
                                    refine pop_ine .i64 _ _ t367_5 (w64 (t369_5 + (t227_10.n : Int))) ?_
                                    refine guardM_y ?_
                                    refine pop_pickt' hb_83 ?_
                                    refine pop_pickf _ _ ?_
                                    refine condM_b (fun hb_84 => ?_) (fun hb_84 => ?_)
                                    · have H := H.1 hb_84
                                      exact H
                                    · have H := H.2 hb_84
                                      exact H
                                  · have H := H.2 hb_83
                                    refine guardM_n' hb_83 (by decide) ?_
                                    refine guardM_n' hb_83 (by decide) ?_
                                    refine guardM_n' hb_83 (by decide) ?_
                                    refine guardM_n' hb_83 (by decide) ?_
                                    refine guardM_n' hb_83 (by decide) ?_
                                    refine guardM_n' hb_83 (by decide) ?_
                                    refine guardM_n' hb_83 (by decide) ?_
                                    refine guardM_y ?_
                                    refine pop_pickf' hb_83 ?_
                                    refine pop_pickf _ _ ?_
                                    refine condM_f ?_
                                    exact H
                                · have H := H.2 hb_82
                                  refine guardM_y ?_
                                  refine pop_pickf' hb_82 ?_
                                  refine guardM_y ?_
                                  refine guardM_n (by decide) ?_
                                  refine guardM_n (by decide) ?_
                                  refine guardM_n (by decide) ?_
                                  refine guardM_n (by decide) ?_
                                  refine guardM_n (by decide) ?_
                                  refine guardM_n (by decide) ?_
                                  refine guardM_n (by decide) ?_
                                  refine guardM_n (by decide) ?_
                                  refine guardM_y ?_
                                  refine pop_pickf _ _ ?_
                                  refine pop_pickf _ _ ?_
                                  refine condM_f ?_
                                  exact H
                            · have H := H.2 hb_76
                              refine pop_pickf' hb_76 ?_
                              refine guardM_n (by decide) ?_
                              refine guardM_n (by decide) ?_
                              refine guardM_n (by decide) ?_
                              refine guardM_n (by decide) ?_
                              refine pop_pickf _ _ ?_
                              refine guardM_y ?_
                              refine guardM_y ?_
                              refine guardM_st (fun hb_85 => ?_) (fun hb_85 => ?_)
                              · have H := H.1 hb_85
                                refine guardM_y ?_
                                refine pop_pickt' hb_85 ?_
                                refine guardM_y ?_
                                refine guardM_st (fun hb_86 => ?_) (fun hb_86 => ?_)
                                · have H := H.1 hb_86
                                  refine guardM_y' hb_86 ?_
                                  refine H.mono fun rv_57 h_120 H => ?_
                                  obtain ⟨t367_6, rfl, hL_120, H⟩ := H
                                  refine guardM_y' hb_86 ?_
                                  refine guardM_y' hb_86 ?_
                                  refine H.mono fun rv_58 h_121 H => ?_
                                  obtain ⟨t369_6, rfl, hL_121, H⟩ := H
                                  refine guardM_y' hb_86 ?_
                                  refine guardM_y' hb_86 ?_
                                  refine pop_len t227_10 _ _ sli25 ?_
                                  refine guardM_y' hb_86 ?_
                                  refine pop_add .i64 t369_6 (t227_10.n : Int) ?_
                                  refine guardM_y' hb_86 ?_
                                  refine pop_ine .i64 _ _ t367_6 (w64 (t369_6 + (t227_10.n : Int))) ?_
                                  refine guardM_y ?_
                                  refine pop_pickt' hb_86 ?_
                                  refine pop_pickf _ _ ?_
                                  refine condM_b (fun hb_87 => ?_) (fun hb_87 => ?_)
                                  · have H := H.1 hb_87
                                    exact H
                                  · have H := H.2 hb_87
                                    exact H
                                · have H := H.2 hb_86
                                  refine guardM_n' hb_86 (by decide) ?_
                                  refine guardM_n' hb_86 (by decide) ?_
                                  refine guardM_n' hb_86 (by decide) ?_
                                  refine guardM_n' hb_86 (by decide) ?_
                                  refine guardM_n' hb_86 (by decide) ?_
                                  refine guardM_n' hb_86 (by decide) ?_
                                  refine guardM_n' hb_86 (by decide) ?_
                                  refine guardM_y ?_
                                  refine pop_pickf' hb_86 ?_
                                  refine pop_pickf _ _ ?_
                                  refine condM_f ?_
                                  exact H
                              · have H := H.2 hb_85
                                refine guardM_y ?_
                                refine pop_pickf' hb_85 ?_
                                refine guardM_y ?_
                                refine guardM_n (by decide) ?_
                                refine guardM_n (by decide) ?_
                                refine guardM_n (by decide) ?_
                                refine guardM_n (by decide) ?_
                                refine guardM_n (by decide) ?_
                                refine guardM_n (by decide) ?_
                                refine guardM_n (by decide) ?_
                                refine guardM_n (by decide) ?_
                                refine guardM_y ?_
                                refine pop_pickf _ _ ?_
                                refine pop_pickf _ _ ?_
                                refine condM_f ?_
                                exact H
                          · have H := H.2 hb_73
                            exact H
                      · have H := H.1 hb_71
                        refine guardM_n' hb_71 (by decide) ?_
                        refine guardM_n' hb_71 (by decide) ?_
                        refine pop_pickt' hb_71 ?_
                        refine condM_t ?_
                        exact H
                    · have H := H.1 hb_70
                      refine guardM_n' hb_70 (by decide) ?_
                      refine guardM_n' hb_70 (by decide) ?_
                      refine pop_pickt' hb_70 ?_
                      refine guardM_n (by decide) ?_
                      refine guardM_n (by decide) ?_
                      refine guardM_n (by decide) ?_
                      refine pop_pickt _ _ ?_
                      refine condM_t ?_
                      exact H
                  · have H := H.1 hb_69
                    refine guardM_n' hb_69 (by decide) ?_
                    refine guardM_n' hb_69 (by decide) ?_
                    refine guardM_n' hb_69 (by decide) ?_
                    refine pop_pickt' hb_69 ?_
                    refine guardM_n (by decide) ?_
                    refine guardM_n (by decide) ?_
                    refine guardM_n (by decide) ?_
                    refine pop_pickt _ _ ?_
                    refine guardM_n (by decide) ?_
                    refine guardM_n (by decide) ?_
                    refine guardM_n (by decide) ?_
                    refine pop_pickt _ _ ?_
                    refine condM_t ?_
                    exact H
                · have H := H.1 hb_68
                  refine guardM_n' hb_68 (by decide) ?_
                  refine guardM_n' hb_68 (by decide) ?_
                  refine pop_pickt' hb_68 ?_
                  refine guardM_n (by decide) ?_
                  refine guardM_n (by decide) ?_
                  refine guardM_n (by decide) ?_
                  refine guardM_n (by decide) ?_
                  refine pop_pickt _ _ ?_
                  refine guardM_n (by decide) ?_
                  refine guardM_n (by decide) ?_
                  refine guardM_n (by decide) ?_
                  refine pop_pickt _ _ ?_
                  refine guardM_n (by decide) ?_
                  refine guardM_n (by decide) ?_
                  refine guardM_n (by decide) ?_
                  refine pop_pickt _ _ ?_
                  refine condM_t ?_
                  exact H
              · have H := H.1 hb_67
                refine guardM_n' hb_67 (by decide) ?_
                refine guardM_n' hb_67 (by decide) ?_
                refine guardM_n' hb_67 (by decide) ?_
                refine pop_pickt' hb_67 ?_
                refine guardM_n (by decide) ?_
                refine guardM_n (by decide) ?_
                refine guardM_n (by decide) ?_
                refine pop_pickt _ _ ?_
                refine guardM_n (by decide) ?_
                refine guardM_n (by decide) ?_
                refine guardM_n (by decide) ?_
                refine guardM_n (by decide) ?_
                refine pop_pickt _ _ ?_
                refine guardM_n (by decide) ?_
                refine guardM_n (by decide) ?_
                refine guardM_n (by decide) ?_
                refine pop_pickt _ _ ?_
                refine guardM_n (by decide) ?_
                refine guardM_n (by decide) ?_
                refine guardM_n (by decide) ?_
                refine pop_pickt _ _ ?_
                refine condM_t ?_
                exact H
          · have H := H.1 hb_9
            refine guardM_n' hb_9 (by decide) ?_
            refine guardM_n (by decide) ?_
            refine guardM_n (by decide) ?_
            refine guardM_n' hb_9 (by decide) ?_
            refine pop_pickt' hb_9 ?_
            refine condM_t ?_
            exact H
        · have H := H.1 hb_8
          refine guardM_n' hb_8 (by decide) ?_
          refine guardM_n' hb_8 (by decide) ?_
          refine guardM_n' hb_8 (by decide) ?_
          refine pop_pickt' hb_8 ?_
          refine guardM_n (by decide) ?_
          refine guardM_n (by decide) ?_
          refine guardM_n (by decide) ?_
          refine guardM_n (by decide) ?_
          refine guardM_n (by decide) ?_
          refine pop_pickt _ _ ?_
          refine condM_t ?_
          exact H
      · have H := H.1 hb_7
        refine guardM_n' hb_7 (by decide) ?_
        refine guardM_n' hb_7 (by decide) ?_
        refine pop_pickt' hb_7 ?_
        refine guardM_n (by decide) ?_
        refine guardM_n (by decide) ?_
        refine guardM_n (by decide) ?_
        refine guardM_n (by decide) ?_
        refine pop_pickt _ _ ?_
        refine guardM_n (by decide) ?_
        refine guardM_n (by decide) ?_
        refine guardM_n (by decide) ?_
        refine guardM_n (by decide) ?_
        refine guardM_n (by decide) ?_
        refine pop_pickt _ _ ?_
        refine condM_t ?_
        exact H
    · have H := H.1 hb_6
      refine guardM_n' hb_6 (by decide) ?_
      refine guardM_n' hb_6 (by decide) ?_
      refine guardM_n' hb_6 (by decide) ?_
      refine pop_pickt' hb_6 ?_
      refine guardM_n (by decide) ?_
      refine guardM_n (by decide) ?_
      refine guardM_n (by decide) ?_
      refine pop_pickt _ _ ?_
      refine guardM_n (by decide) ?_
      refine guardM_n (by decide) ?_
      refine guardM_n (by decide) ?_
      refine guardM_n (by decide) ?_
      refine pop_pickt _ _ ?_
      refine guardM_n (by decide) ?_
      refine guardM_n (by decide) ?_
      refine guardM_n (by decide) ?_
      refine guardM_n (by decide) ?_
      refine guardM_n (by decide) ?_
      refine pop_pickt _ _ ?_
      refine condM_t ?_
      exact H

/-! spec.MovesOfLoad -/
def u12 (P : Program) (g0_1 : Sl) (sink1_1 : Int) (l2_1 : Sl) (l2_2 : Sl) (h : Heap) (K : Value → Heap → Prop) : Prop :=
  ∀ (b_1 : Nat) (b_2 : Nat) (h_2 : Heap), h.size ≤ b_1 → h.size ≤ b_2 → Fr (In []) h h_2 → Vars h_2 [(b_2, [(Sl.v l2_1), (Sl.v l2_2)]), (b_1, [(Sl.v g0_1)])] →
  callM P 76 #[(Value.agg #[(Sl.v g0_1)]), (VI sink1_1), (Value.agg #[(Sl.v l2_1), (Sl.v l2_2)])] h_2 fun rv_1 h_3 => ∃ t14_1 : Bool, rv_1 = (VB t14_1) ∧ Vars h_3 [(b_2, [(Sl.v l2_1), (Sl.v l2_2)]), (b_1, [(Sl.v g0_1)])] ∧
  ((!t14_1) = true →
  K (Value.tuple #[(Sl.v nilSl), (VB false)]) h_3) ∧
  ((!t14_1) = false →
  callM P 77 #[(Value.agg #[(Sl.v g0_1)]), (VI sink1_1), (Value.agg #[(Sl.v l2_1), (Sl.v l2_2)]), (Sl.v nilSl)] h_3 fun rv_2 h_4 => ∃ t20_1 : Sl, ∃ t20_2 : Sl, ∃ t20_3 : Sl, ∃ t20_4 : Bool, rv_2 = (Value.tuple #[(Value.agg #[(Sl.v t20_1), (Sl.v t20_2)]), (Sl.v t20_3), (VB t20_4)]) ∧ Vars h_4 [(b_2, [(Sl.v l2_1), (Sl.v l2_2)]), (b_1, [(Sl.v g0_1)])] ∧
  ∀ (b_3 : Nat) (h_6 : Heap), h_4.size ≤ b_3 → Fr (In []) h_4 h_6 → Vars h_6 [(b_3, [(Sl.v t20_1), (Sl.v t20_2)]), (b_2, [(Sl.v l2_1), (Sl.v l2_2)]), (b_1, [(Sl.v g0_1)])] →
  K (Value.tuple #[(Sl.v t20_3), (VB t20_4)]) h_6)
theorem v12 (g0_1 : Sl) (sink1_1 : Int) (l2_1 : Sl) (l2_2 : Sl) (h : Heap) (K : Value → Heap → Prop) (H : u12 Try.prog g0_1 sink1_1 l2_1 l2_2 h K) : callM Try.prog 12 #[(Value.agg #[(Sl.v g0_1)]), (VI sink1_1), (Value.agg #[(Sl.v l2_1), (Sl.v l2_2)])] h K := by
  refine c12 (Value.agg #[(Sl.v g0_1)]) (VI sink1_1) (Value.agg #[(Sl.v l2_1), (Sl.v l2_2)]) h K ?_
  unfold u12 at H
  unfold t12
  have hL : Vars h [] := .nil
  refine eop_box 32 (Value.agg #[(Sl.v g0_1)]) rfl hL (fun b_1 h_1 hb_1 hf_1 hL_1 => ?_)
  refine eop_box 34 (Value.agg #[(Sl.v l2_1), (Sl.v l2_2)]) rfl hL_1 (fun b_2 h_2 hb_2 hf_2 hL_2 => ?_)
  refine rop_locA agg32 hL_2 1 rfl 0 (vs := [(Sl.v g0_1)]) rfl rfl ?_
  refine rop_locA agg34 hL_2 0 rfl 0 (vs := [(Sl.v l2_1), (Sl.v l2_2)]) rfl rfl ?_
  have H := H b_1 b_2 h_2 (Nat.le_trans (Fr.size (Fr.r (In []) _)) hb_1) (Nat.le_trans (Fr.size (Fr.no' (Fr.r (In []) _) hf_1)) hb_2) (Fr.no' (Fr.no' (Fr.r (In []) _) hf_1) hf_2) hL_2
  refine H.mono fun rv_1 h_3 H => ?_
  obtain ⟨t14_1, rfl, hL_3, H⟩ := H
  refine pop_not t14_1 ?_
  refine condM_b (fun hb_3 => ?_) (fun hb_3 => ?_)
  · have H := H.1 hb_3
    exact H
  · have H := H.2 hb_3
    refine rop_locA agg32 hL_3 1 rfl 0 (vs := [(Sl.v g0_1)]) rfl rfl ?_
    refine rop_locA agg34 hL_3 0 rfl 0 (vs := [(Sl.v l2_1), (Sl.v l2_2)]) rfl rfl ?_
    refine H.mono fun rv_2 h_4 H => ?_
    obtain ⟨t20_1, t20_2, t20_3, t20_4, rfl, hL_4, H⟩ := H
    refine pop_ext (v := (Value.agg #[(Sl.v t20_1), (Sl.v t20_2)])) rfl ?_
    refine pop_ext (v := (Sl.v t20_3)) rfl ?_
    refine pop_ext (v := (VB t20_4)) rfl ?_
    refine eop_alloc 34 zer34 rfl hL_4 (fun b_3 h_5 hb_4 hf_3 hL_5 => ?_)
    refine uop_loc siz34 hL_5 0 rfl 0 [(Sl.v t20_1), (Sl.v t20_2)] rfl rfl rfl (Nat.le_of_ble_eq_true rfl) (L' := [(b_3, [(Sl.v t20_1), (Sl.v t20_2)]), (b_2, [(Sl.v l2_1), (Sl.v l2_2)]), (b_1, [(Sl.v g0_1)])]) rfl (fun h_6 hf_4 hL_6 => ?_)
    have H := H b_3 h_6 (Nat.le_trans (Fr.size (Fr.r (In []) _)) hb_4) (Fr.new (Fr.no' (Fr.r (In []) _) hf_3) (Nat.le_trans (Fr.size (Fr.r (In []) _)) hb_4) hf_4) hL_6
    exact H

/-! impl.MovesOfLoad -/
def u15 (P : Program) (g0_1 : Sl) (sink1_1 : Int) (l2_1 : Sl) (l2_2 : Sl) (h : Heap) (K : Value → Heap → Prop) : Prop :=
  ∀ (b_1 : Nat) (b_2 : Nat) (h_2 : Heap), h.size ≤ b_1 → h.size ≤ b_2 → Fr (In []) h h_2 → Vars h_2 [(b_2, [(Sl.v l2_1), (Sl.v l2_2)]), (b_1, [(Sl.v g0_1)])] →
  callM P 79 #[(Value.agg #[(Sl.v g0_1)]), (VI sink1_1), (Value.agg #[(Sl.v l2_1), (Sl.v l2_2)])] h_2 fun rv_1 h_3 => ∃ t12_1 : Bool, rv_1 = (VB t12_1) ∧ Vars h_3 [(b_2, [(Sl.v l2_1), (Sl.v l2_2)]), (b_1, [(Sl.v g0_1)])] ∧
  ((!t12_1) = true →
  K (Value.tuple #[(Sl.v nilSl), (VB false)]) h_3) ∧
  ((!t12_1) = false →
  callM P 80 #[(Value.agg #[(Sl.v l2_1), (Sl.v l2_2)])] h_3 fun rv_2 h_4 => ∃ t15_1 : Sl, ∃ t15_2 : Sl, rv_2 = (Value.agg #[(Sl.v t15_1), (Sl.v t15_2)]) ∧ Vars h_4 [(b_2, [(Sl.v l2_1), (Sl.v l2_2)]), (b_1, [(Sl.v g0_1)])] ∧
  ∀ (b_3 : Nat) (h_6 : Heap), h_4.size ≤ b_3 → Fr (In []) h_4 h_6 → Vars h_6 [(b_3, [(Sl.v t15_1), (Sl.v t15_2)]), (b_2, [(Sl.v l2_1), (Sl.v l2_2)]), (b_1, [(Sl.v g0_1)])] →
  callM P 81 #[(VP b_3 0), (Value.agg #[(Sl.v g0_1)]), (VI sink1_1), (Sl.v nilSl)] h_6 fun rv_3 h_7 => ∃ x_1 : Sl, ∃ x_2 : Sl, ∃ t18_1 : Sl, ∃ t18_2 : Bool, rv_3 = (Value.tuple #[(Sl.v t18_1), (VB t18_2)]) ∧ Vars h_7 [(b_3, [(Sl.v x_1), (Sl.v x_2)]), (b_2, [(Sl.v l2_1), (Sl.v l2_2)]), (b_1, [(Sl.v g0_1)])] ∧
  K (Value.tuple #[(Sl.v t18_1), (VB t18_2)]) h_7)
theorem v15 (g0_1 : Sl) (sink1_1 : Int) (l2_1 : Sl) (l2_2 : Sl) (h : Heap) (K : Value → Heap → Prop) (H : u15 Try.prog g0_1 sink1_1 l2_1 l2_2 h K) : callM Try.prog 15 #[(Value.agg #[(Sl.v g0_1)]), (VI sink1_1), (Value.agg #[(Sl.v l2_1), (Sl.v l2_2)])] h K := by
  refine c15 (Value.agg #[(Sl.v g0_1)]) (VI sink1_1) (Value.agg #[(Sl.v l2_1), (Sl.v l2_2)]) h K ?_
  unfold u15 at H
  unfold t15
  have hL : Vars h [] := .nil
  refine eop_box 32 (Value.agg #[(Sl.v g0_1)]) rfl hL (fun b_1 h_1 hb_1 hf_1 hL_1 => ?_)
  refine eop_box 34 (Value.agg #[(Sl.v l2_1), (Sl.v l2_2)]) rfl hL_1 (fun b_2 h_2 hb_2 hf_2 hL_2 => ?_)
  refine rop_locA agg32 hL_2 1 rfl 0 (vs := [(Sl.v g0_1)]) rfl rfl ?_
  refine rop_locA agg34 hL_2 0 rfl 0 (vs := [(Sl.v l2_1), (Sl.v l2_2)]) rfl rfl ?_
  have H := H b_1 b_2 h_2 (Nat.le_trans (Fr.size (Fr.r (In []) _)) hb_1) (Nat.le_trans (Fr.size (Fr.no' (Fr.r (In []) _) hf_1)) hb_2) (Fr.no' (Fr.no' (Fr.r (In []) _) hf_1) hf_2) hL_2
  refine H.mono fun rv_1 h_3 H => ?_
  obtain ⟨t12_1, rfl, hL_3, H⟩ := H
  refine pop_not t12_1 ?_
  refine condM_b (fun hb_3 => ?_) (fun hb_3 => ?_)
  · have H := H.1 hb_3
    exact H
  · have H := H.2 hb_3
    refine rop_locA agg34 hL_3 0 rfl 0 (vs := [(Sl.v l2_1), (Sl.v l2_2)]) rfl rfl ?_
    refine H.mono fun rv_2 h_4 H => ?_
    obtain ⟨t15_1, t15_2, rfl, hL_4, H⟩ := H
    refine eop_alloc 34 zer34 rfl hL_4 (fun b_3 h_5 hb_4 hf_3 hL_5 => ?_)
    refine uop_loc siz34 hL_5 0 rfl 0 [(Sl.v t15_1), (Sl.v t15_2)] rfl rfl rfl (Nat.le_of_ble_eq_true rfl) (L' := [(b_3, [(Sl.v t15_1), (Sl.v t15_2)]), (b_2, [(Sl.v l2_1), (Sl.v l2_2)]), (b_1, [(Sl.v g0_1)])]) rfl (fun h_6 hf_4 hL_6 => ?_)
    refine rop_locA agg32 hL_6 2 rfl 0 (vs := [(Sl.v g0_1)]) rfl rfl ?_
    have H := H b_3 h_6 (Nat.le_trans (Fr.size (Fr.r (In []) _)) hb_4) (Fr.new (Fr.no' (Fr.r (In []) _) hf_3) (Nat.le_trans (Fr.size (Fr.r (In []) _)) hb_4) hf_4) hL_6
    refine H.mono fun rv_3 h_7 H => ?_
    obtain ⟨x_1, x_2, t18_1, t18_2, rfl, hL_7, H⟩ := H
    refine pop_ext (v := (Sl.v t18_1)) rfl ?_
    refine pop_ext (v := (VB t18_2)) rfl ?_
    exact H

/-! laws.big -/
def u32 (P : Program) (code0_1 : Sl) (more1_1 : Sl) (h : Heap) (K : Value → Heap → Prop) : Prop :=
  ((decide (1048576 < (code0_1.n : Int))) = true →
  K (VB true) h) ∧
  ((decide (1048576 < (code0_1.n : Int))) = false →
  K (VB (decide ((w64 (1048576 - (code0_1.n : Int))) < (more1_1.n : Int)))) h)
theorem v32 (code0_1 : Sl) (more1_1 : Sl) (h : Heap) (K : Value → Heap → Prop) (H : u32 Try.prog code0_1 more1_1 h K) : callM Try.prog 32 #[(Sl.v code0_1), (Sl.v more1_1)] h K := by
  refine c32 (Sl.v code0_1) (Sl.v more1_1) h K ?_
  unfold u32 at H
  unfold t32
  have hL : Vars h [] := .nil
  refine pop_len code0_1 _ _ sli55 ?_
  refine pop_gtr .i64 (code0_1.n : Int) 1048576 ?_
  refine guardM_sf (fun hb_1 => ?_) (fun hb_1 => ?_)
  · have H := H.2 hb_1
    refine guardM_y' hb_1 ?_
    refine pop_len more1_1 _ _ sli55 ?_
    refine guardM_y' hb_1 ?_
    refine guardM_y' hb_1 ?_
    refine pop_len code0_1 _ _ sli55 ?_
    refine guardM_y' hb_1 ?_
    refine pop_sub .i64 1048576 (code0_1.n : Int) ?_
    refine guardM_y' hb_1 ?_
    refine pop_gtr .i64 (more1_1.n : Int) (w64 (1048576 - (code0_1.n : Int))) ?_
    refine pop_pickf' hb_1 ?_
    exact H
  · have H := H.1 hb_1
    refine guardM_n' hb_1 (by decide) ?_
    refine guardM_n' hb_1 (by decide) ?_
    refine guardM_n' hb_1 (by decide) ?_
    refine guardM_n' hb_1 (by decide) ?_
    refine guardM_n' hb_1 (by decide) ?_
    refine pop_pickt' hb_1 ?_
    exact H

/-! impl.ForceMoves -/
def u38 (P : Program) (g0_1 : Sl) (sink1_1 : Int) (l2_1 : Sl) (l2_2 : Sl) (counts3_1 : Sl) (h : Heap) (K : Value → Heap → Prop) : Prop :=
  ∀ (b_1 : Nat) (b_2 : Nat) (b_3 : Nat) (h_3 : Heap), h.size ≤ b_1 → h.size ≤ b_2 → h.size ≤ b_3 → Fr (In []) h h_3 → Vars h_3 [(b_3, [(Sl.v nilSl), (Sl.v nilSl)]), (b_2, [(Sl.v l2_1), (Sl.v l2_2)]), (b_1, [(Sl.v g0_1)])] →
  callM P 93 #[(Value.agg #[(Sl.v g0_1)]), (VI sink1_1), (Value.agg #[(Sl.v l2_1), (Sl.v l2_2)]), (Sl.v counts3_1)] h_3 fun rv_1 h_4 => ∃ t14_1 : Sl, ∃ t14_2 : Sl, ∃ t14_3 : Bool, rv_1 = (Value.tuple #[(Value.agg #[(Sl.v t14_1), (Sl.v t14_2)]), (VB t14_3)]) ∧ Vars h_4 [(b_3, [(Sl.v nilSl), (Sl.v nilSl)]), (b_2, [(Sl.v l2_1), (Sl.v l2_2)]), (b_1, [(Sl.v g0_1)])] ∧
  ∀ (h_5 : Heap), Fr (In [b_3]) h_4 h_5 → Vars h_5 [(b_3, [(Sl.v t14_1), (Sl.v t14_2)]), (b_2, [(Sl.v l2_1), (Sl.v l2_2)]), (b_1, [(Sl.v g0_1)])] →
  K (Value.tuple #[(Value.agg #[(Sl.v t14_1), (Sl.v t14_2)]), (VB t14_3)]) h_5
theorem v38 (g0_1 : Sl) (sink1_1 : Int) (l2_1 : Sl) (l2_2 : Sl) (counts3_1 : Sl) (h : Heap) (K : Value → Heap → Prop) (H : u38 Try.prog g0_1 sink1_1 l2_1 l2_2 counts3_1 h K) : callM Try.prog 38 #[(Value.agg #[(Sl.v g0_1)]), (VI sink1_1), (Value.agg #[(Sl.v l2_1), (Sl.v l2_2)]), (Sl.v counts3_1)] h K := by
  refine c38 (Value.agg #[(Sl.v g0_1)]) (VI sink1_1) (Value.agg #[(Sl.v l2_1), (Sl.v l2_2)]) (Sl.v counts3_1) h K ?_
  unfold u38 at H
  unfold t38
  have hL : Vars h [] := .nil
  refine eop_box 32 (Value.agg #[(Sl.v g0_1)]) rfl hL (fun b_1 h_1 hb_1 hf_1 hL_1 => ?_)
  refine eop_box 34 (Value.agg #[(Sl.v l2_1), (Sl.v l2_2)]) rfl hL_1 (fun b_2 h_2 hb_2 hf_2 hL_2 => ?_)
  refine eop_alloc 34 zer34 rfl hL_2 (fun b_3 h_3 hb_3 hf_3 hL_3 => ?_)
  refine rop_locA agg32 hL_3 2 rfl 0 (vs := [(Sl.v g0_1)]) rfl rfl ?_
  refine rop_locA agg34 hL_3 1 rfl 0 (vs := [(Sl.v l2_1), (Sl.v l2_2)]) rfl rfl ?_
  have H := H b_1 b_2 b_3 h_3 (Nat.le_trans (Fr.size (Fr.r (In []) _)) hb_1) (Nat.le_trans (Fr.size (Fr.no' (Fr.r (In []) _) hf_1)) hb_2) (Nat.le_trans (Fr.size (Fr.no' (Fr.no' (Fr.r (In []) _) hf_1) hf_2)) hb_3) (Fr.no' (Fr.no' (Fr.no' (Fr.r (In []) _) hf_1) hf_2) hf_3) hL_3
  refine H.mono fun rv_1 h_4 H => ?_
  obtain ⟨t14_1, t14_2, t14_3, rfl, hL_4, H⟩ := H
  refine pop_ext (v := (Value.agg #[(Sl.v t14_1), (Sl.v t14_2)])) rfl ?_
  refine pop_ext (v := (VB t14_3)) rfl ?_
  refine uop_loc siz34 hL_4 0 rfl 0 [(Sl.v t14_1), (Sl.v t14_2)] rfl rfl rfl (Nat.le_of_ble_eq_true rfl) (L' := [(b_3, [(Sl.v t14_1), (Sl.v t14_2)]), (b_2, [(Sl.v l2_1), (Sl.v l2_2)]), (b_1, [(Sl.v g0_1)])]) rfl (fun h_5 hf_4 hL_5 => ?_)
  refine rop_locA agg34 hL_5 0 rfl 0 (vs := [(Sl.v t14_1), (Sl.v t14_2)]) rfl rfl ?_
  have H := H  h_5  (Fr.old (Fr.r (In []) _) hf_4) hL_5
  exact H

/-! laws.xLoad -/
def u40 (P : Program) (a0_1 : Sl) (a0_2 : Sl) (b1_1 : Sl) (b1_2 : Sl) (h : Heap) (K : Value → Heap → Prop) : Prop :=
  ∀ (b_1 : Nat) (b_2 : Nat) (h_2 : Heap), h.size ≤ b_1 → h.size ≤ b_2 → Fr (In []) h h_2 → Vars h_2 [(b_2, [(Sl.v b1_1), (Sl.v b1_2)]), (b_1, [(Sl.v a0_1), (Sl.v a0_2)])] →
  callM P 45 #[(Sl.v a0_1), (Sl.v b1_1)] h_2 fun rv_1 h_3 => ∃ t9_1 : Bool, rv_1 = (VB t9_1) ∧ Vars h_3 [(b_2, [(Sl.v b1_1), (Sl.v b1_2)]), (b_1, [(Sl.v a0_1), (Sl.v a0_2)])] ∧
  (t9_1 = true →
  callM P 45 #[(Sl.v a0_2), (Sl.v b1_2)] h_3 fun rv_2 h_4 => ∃ t15_1 : Bool, rv_2 = (VB t15_1) ∧ Vars h_4 [(b_2, [(Sl.v b1_1), (Sl.v b1_2)]), (b_1, [(Sl.v a0_1), (Sl.v a0_2)])] ∧
  K (VB t15_1) h_4) ∧
  (t9_1 = false →
  K (VB false) h_3)
theorem v40 (a0_1 : Sl) (a0_2 : Sl) (b1_1 : Sl) (b1_2 : Sl) (h : Heap) (K : Value → Heap → Prop) (H : u40 Try.prog a0_1 a0_2 b1_1 b1_2 h K) : callM Try.prog 40 #[(Value.agg #[(Sl.v a0_1), (Sl.v a0_2)]), (Value.agg #[(Sl.v b1_1), (Sl.v b1_2)])] h K := by
  refine c40 (Value.agg #[(Sl.v a0_1), (Sl.v a0_2)]) (Value.agg #[(Sl.v b1_1), (Sl.v b1_2)]) h K ?_
  unfold u40 at H
  unfold t40
  have hL : Vars h [] := .nil
  refine eop_box 34 (Value.agg #[(Sl.v a0_1), (Sl.v a0_2)]) rfl hL (fun b_1 h_1 hb_1 hf_1 hL_1 => ?_)
  refine eop_box 34 (Value.agg #[(Sl.v b1_1), (Sl.v b1_2)]) rfl hL_1 (fun b_2 h_2 hb_2 hf_2 hL_2 => ?_)
  refine pop_field 0 fld34_0 b_1 0 ?_
  refine rop_loc one25 hL_2 1 rfl 0 (v := (Sl.v a0_1)) rfl ?_
  refine pop_field 0 fld34_0 b_2 0 ?_
  refine rop_loc one25 hL_2 0 rfl 0 (v := (Sl.v b1_1)) rfl ?_
  have H := H b_1 b_2 h_2 (Nat.le_trans (Fr.size (Fr.r (In []) _)) hb_1) (Nat.le_trans (Fr.size (Fr.no' (Fr.r (In []) _) hf_1)) hb_2) (Fr.no' (Fr.no' (Fr.r (In []) _) hf_1) hf_2) hL_2
  refine H.mono fun rv_1 h_3 H => ?_
  obtain ⟨t9_1, rfl, hL_3, H⟩ := H
  refine guardM_st (fun hb_3 => ?_) (fun hb_3 => ?_)
  · have H := H.1 hb_3
    refine pop_field 1 fld34_1 b_1 0 ?_
    refine guardM_y' hb_3 ?_
    refine rop_loc one25 hL_3 1 rfl 1 (v := (Sl.v a0_2)) rfl ?_
    refine guardM_y' hb_3 ?_
    refine pop_field 1 fld34_1 b_2 0 ?_
    refine guardM_y' hb_3 ?_
    refine rop_loc one25 hL_3 0 rfl 1 (v := (Sl.v b1_2)) rfl ?_
    refine guardM_y' hb_3 ?_
    refine H.mono fun rv_2 h_4 H => ?_
    obtain ⟨t15_1, rfl, hL_4, H⟩ := H
    refine pop_pickt' hb_3 ?_
    exact H
  · have H := H.2 hb_3
    refine guardM_n' hb_3 (by decide) ?_
    refine guardM_n' hb_3 (by decide) ?_
    refine guardM_n' hb_3 (by decide) ?_
    refine guardM_n' hb_3 (by decide) ?_
    refine pop_pickf' hb_3 ?_
    exact H

/-! laws.xSum -/
def u41 (P : Program) (a0_1 : Sl) (h : Heap) (K : Value → Heap → Prop) : Prop :=
  ∃ J_1 : Nat → Int → Int → Heap → Prop, (∃ n0 : Nat, J_1 n0 0 0 h) ∧
  ∀ (n_1 : Nat) (sum3_1 : Int) (t8_1 : Int) (h_1 : Heap), J_1 n_1 sum3_1 t8_1 h_1 → Vars h_1 [] →
  ((decide (t8_1 < (a0_1.n : Int))) = true →
  InB a0_1 t8_1 ∧
  ∃ t11_1 : Int, hcell h_1 (Sl.at a0_1 t8_1 1) = some (VI t11_1) ∧
  ∃ m : Nat, m < n_1 ∧ J_1 m (w64 (sum3_1 + t11_1)) (w64 (t8_1 + 1)) h_1) ∧
  ((decide (t8_1 < (a0_1.n : Int))) = false →
  K (VI sum3_1) h_1)
theorem v41 (a0_1 : Sl) (h : Heap) (K : Value → Heap → Prop) (H : u41 Try.prog a0_1 h K) : callM Try.prog 41 #[(Sl.v a0_1)] h K := by
  refine c41 (Sl.v a0_1) h K ?_
  unfold u41 at H
  unfold t41
  have hL : Vars h [] := .nil
  refine pop_len a0_1 _ _ sli25 ?_
  obtain ⟨J_1, ⟨n_2, h0_1⟩, HB_1⟩ := H
  refine loop_intro (J := fun (n : Nat) (vs : List Value) (h' : Heap) => ∃ sum3_1 : Int, ∃ t8_1 : Int, vs = [(VI sum3_1), (VI t8_1)] ∧ J_1 n sum3_1 t8_1 h' ∧ Vars h' []) n_2 ⟨0, 0, rfl, h0_1, hL⟩ ?_
  intro I_1 mu_1 hI_1 junk_1 tv_1 tv_2 h_1 hi_1
  obtain ⟨n_1, ⟨sum3_1, t8_1, hv, hJ_1, hL_1⟩, hn_1⟩ := hI_1 _ _ hi_1
  cases hv
  have H := HB_1 n_1 sum3_1 t8_1 h_1 hJ_1 hL_1
  refine pop_lss .i64 t8_1 (a0_1.n : Int) ?_
  refine condM_b (fun hb_1 => ?_) (fun hb_1 => ?_)
  · have H := H.1 hb_1
    obtain ⟨hi_2, H⟩ := H
    refine pop_index sli25 siz3 .i64 a0_1 t8_1 hi_2 ?_
    obtain ⟨t11_1, hc_1, H⟩ := H
    refine rop_one one3 (VI t11_1) hc_1 ?_
    refine pop_add .i64 sum3_1 t11_1 ?_
    refine pop_add .i64 t8_1 1 ?_
    obtain ⟨m_1, hm_1, H⟩ := H
    exact hn_1 _ _ ⟨m_1, hm_1, (w64 (sum3_1 + t11_1)), (w64 (t8_1 + 1)), rfl, H, hL_1⟩
  · have H := H.2 hb_1
    exact H

/-! spec.DrawEndOfLoad -/
def u42 (P : Program) (code0_1 : Sl) (h : Heap) (K : Value → Heap → Prop) : Prop :=
  ∀ (b_1 : Nat) (b_2 : Nat) (b_3 : Nat) (h_3 : Heap), h.size ≤ b_1 → h.size ≤ b_2 → h.size ≤ b_3 → Fr (In []) h h_3 → Vars h_3 [(b_3, [(Sl.v code0_1), (VI 0), (Value.int .u64 0)]), (b_2, [(Sl.v nilSl), (Sl.v nilSl)]), (b_1, [(Sl.v nilSl)])] →
  callM P 98 #[(VP b_3 0)] h_3 fun rv_1 h_4 => ∃ x_1 : Sl, ∃ x_2 : Int, ∃ x_3 : Int, ∃ t17_1 : Sl, ∃ t17_2 : Int, ∃ t17_3 : Sl, ∃ t17_4 : Sl, rv_1 = (Value.tuple #[(Value.agg #[(Sl.v t17_1)]), (VI t17_2), (Value.agg #[(Sl.v t17_3), (Sl.v t17_4)])]) ∧ Vars h_4 [(b_3, [(Sl.v x_1), (VI x_2), (Value.int .u64 x_3)]), (b_2, [(Sl.v nilSl), (Sl.v nilSl)]), (b_1, [(Sl.v nilSl)])] ∧
  ∀ (b_4 : Nat) (b_5 : Nat) (h_8 : Heap), h_4.size ≤ b_4 → h_4.size ≤ b_5 → Fr (In []) h_4 h_8 → Vars h_8 [(b_5, [(Sl.v t17_3), (Sl.v t17_4)]), (b_4, [(Sl.v t17_1)]), (b_3, [(Sl.v x_1), (VI x_2), (Value.int .u64 x_3)]), (b_2, [(Sl.v nilSl), (Sl.v nilSl)]), (b_1, [(Sl.v nilSl)])] →
  eop P (Instr.buildSlice 25 6 #[(0, (Value.int IntKind.i64 0)), (1, (Value.int IntKind.i64 3)), (2, (Value.int IntKind.i64 10)), (3, (Value.int IntKind.i64 40)), (4, (Value.int IntKind.i64 100)), (5, (Value.int IntKind.i64 101))]) h_8 fun rv_2 h_9 => ∃ t22_1 : Sl, rv_2 = (Sl.v t22_1) ∧ Vars h_9 [(b_5, [(Sl.v t17_3), (Sl.v t17_4)]), (b_4, [(Sl.v t17_1)]), (b_3, [(Sl.v x_1), (VI x_2), (Value.int .u64 x_3)]), (b_2, [(Sl.v nilSl), (Sl.v nilSl)]), (b_1, [(Sl.v nilSl)])] ∧
  callM P 101 #[(VP b_3 0), (Sl.v t22_1)] h_9 fun rv_3 h_10 => ∃ x_4 : Sl, ∃ x_5 : Int, ∃ x_6 : Int, ∃ t23_1 : Int, rv_3 = (VI t23_1) ∧ Vars h_10 [(b_5, [(Sl.v t17_3), (Sl.v t17_4)]), (b_4, [(Sl.v t17_1)]), (b_3, [(Sl.v x_4), (VI x_5), (Value.int .u64 x_6)]), (b_2, [(Sl.v nilSl), (Sl.v nilSl)]), (b_1, [(Sl.v nilSl)])] ∧
  ∃ J_1 : Nat → Sl → Int → Sl → Int → Int → Heap → Prop, (∃ n0 : Nat, J_1 n0 nilSl t23_1 x_4 x_5 x_6 h_10) ∧
  ∀ (n_1 : Nat) (choices10_1 : Sl) (k11_1 : Int) (x_7 : Sl) (x_8 : Int) (x_9 : Int) (h_11 : Heap), J_1 n_1 choices10_1 k11_1 x_7 x_8 x_9 h_11 → Vars h_11 [(b_5, [(Sl.v t17_3), (Sl.v t17_4)]), (b_4, [(Sl.v t17_1)]), (b_3, [(Sl.v x_7), (VI x_8), (Value.int .u64 x_9)]), (b_2, [(Sl.v nilSl), (Sl.v nilSl)]), (b_1, [(Sl.v nilSl)])] →
  ((decide (0 < k11_1)) = true →
  callM P 100 #[(VP b_3 0), (VI 9)] h_11 fun rv_4 h_12 => ∃ x_10 : Sl, ∃ x_11 : Int, ∃ x_12 : Int, ∃ t30_1 : Int, rv_4 = (VI t30_1) ∧ Vars h_12 [(b_5, [(Sl.v t17_3), (Sl.v t17_4)]), (b_4, [(Sl.v t17_1)]), (b_3, [(Sl.v x_10), (VI x_11), (Value.int .u64 x_12)]), (b_2, [(Sl.v nilSl), (Sl.v nilSl)]), (b_1, [(Sl.v nilSl)])] ∧
  eop P (Instr.buildSlice 25 1 #[(0, (VI t30_1))]) h_12 fun rv_5 h_13 => ∃ t31_1 : Sl, rv_5 = (Sl.v t31_1) ∧ Vars h_13 [(b_5, [(Sl.v t17_3), (Sl.v t17_4)]), (b_4, [(Sl.v t17_1)]), (b_3, [(Sl.v x_10), (VI x_11), (Value.int .u64 x_12)]), (b_2, [(Sl.v nilSl), (Sl.v nilSl)]), (b_1, [(Sl.v nilSl)])] ∧
  eop P (appS 25 25 25 (Sl.v choices10_1) (Sl.v t31_1)) h_13 fun rv_6 h_14 => ∃ t32_1 : Sl, rv_6 = (Sl.v t32_1) ∧ Vars h_14 [(b_5, [(Sl.v t17_3), (Sl.v t17_4)]), (b_4, [(Sl.v t17_1)]), (b_3, [(Sl.v x_10), (VI x_11), (Value.int .u64 x_12)]), (b_2, [(Sl.v nilSl), (Sl.v nilSl)]), (b_1, [(Sl.v nilSl)])] ∧
  ∃ m : Nat, m < n_1 ∧ J_1 m t32_1 (w64 (k11_1 - 1)) x_10 x_11 x_12 h_14) ∧
  ((decide (0 < k11_1)) = false →
  ∃ J_2 : Sl → Int → Int → Heap → Prop, (((decide (0 < (choices10_1.n : Int))) = true →
  callM P 99 #[(VP b_3 0), (VI 14)] h_11 fun rv_7 h_15 => ∃ x_16 : Sl, ∃ x_17 : Int, ∃ x_18 : Int, ∃ t38_1 : Bool, rv_7 = (VB t38_1) ∧ Vars h_15 [(b_5, [(Sl.v t17_3), (Sl.v t17_4)]), (b_4, [(Sl.v t17_1)]), (b_3, [(Sl.v x_16), (VI x_17), (Value.int .u64 x_18)]), (b_2, [(Sl.v nilSl), (Sl.v nilSl)]), (b_1, [(Sl.v nilSl)])] ∧
  (t38_1 = true →
  eop P (Instr.buildSlice 25 2 #[(0, (Value.int IntKind.i64 (-1))), (1, (Value.int IntKind.i64 4611686018427387904))]) h_15 fun rv_8 h_16 => ∃ t42_1 : Sl, rv_8 = (Sl.v t42_1) ∧ Vars h_16 [(b_5, [(Sl.v t17_3), (Sl.v t17_4)]), (b_4, [(Sl.v t17_1)]), (b_3, [(Sl.v x_16), (VI x_17), (Value.int .u64 x_18)]), (b_2, [(Sl.v nilSl), (Sl.v nilSl)]), (b_1, [(Sl.v nilSl)])] ∧
  callM P 101 #[(VP b_3 0), (Sl.v t42_1)] h_16 fun rv_9 h_17 => ∃ x_19 : Sl, ∃ x_20 : Int, ∃ x_21 : Int, ∃ t43_1 : Int, rv_9 = (VI t43_1) ∧ Vars h_17 [(b_5, [(Sl.v t17_3), (Sl.v t17_4)]), (b_4, [(Sl.v t17_1)]), (b_3, [(Sl.v x_19), (VI x_20), (Value.int .u64 x_21)]), (b_2, [(Sl.v nilSl), (Sl.v nilSl)]), (b_1, [(Sl.v nilSl)])] ∧
  InB choices10_1 0 ∧
  Writable h_17 (Sl.at choices10_1 0 1) ∧ Vars (hset h_17 (Sl.at choices10_1 0 1) (VI t43_1)) [(b_5, [(Sl.v t17_3), (Sl.v t17_4)]), (b_4, [(Sl.v t17_1)]), (b_3, [(Sl.v x_19), (VI x_20), (Value.int .u64 x_21)]), (b_2, [(Sl.v nilSl), (Sl.v nilSl)]), (b_1, [(Sl.v nilSl)])] ∧
  ∀ h_18 : Heap, h_18 = hset h_17 (Sl.at choices10_1 0 1) (VI t43_1) → Vars h_18 [(b_5, [(Sl.v t17_3), (Sl.v t17_4)]), (b_4, [(Sl.v t17_1)]), (b_3, [(Sl.v x_19), (VI x_20), (Value.int .u64 x_21)]), (b_2, [(Sl.v nilSl), (Sl.v nilSl)]), (b_1, [(Sl.v nilSl)])] →
  J_2 x_19 x_20 x_21 h_18) ∧
  (t38_1 = false →
  J_2 x_16 x_17 x_18 h_15)) ∧
  ((decide (0 < (choices10_1.n : Int))) = false →
  J_2 x_7 x_8 x_9 h_11)) ∧
  ∀ (x_13 : Sl) (x_14 : Int) (x_15 : Int) (h_19 : Heap), J_2 x_13 x_14 x_15 h_19 → Vars h_19 [(b_5, [(Sl.v t17_3), (Sl.v t17_4)]), (b_4, [(Sl.v t17_1)]), (b_3, [(Sl.v x_13), (VI x_14), (Value.int .u64 x_15)]), (b_2, [(Sl.v nilSl), (Sl.v nilSl)]), (b_1, [(Sl.v nilSl)])] →
  ∀ (h_20 : Heap), Fr (In [b_1]) h_19 h_20 → Vars h_20 [(b_5, [(Sl.v t17_3), (Sl.v t17_4)]), (b_4, [(Sl.v t17_1)]), (b_3, [(Sl.v x_13), (VI x_14), (Value.int .u64 x_15)]), (b_2, [(Sl.v nilSl), (Sl.v nilSl)]), (b_1, [(Sl.v t17_1)])] →
  ∀ (h_21 : Heap), Fr (In [b_2]) h_20 h_21 → Vars h_21 [(b_5, [(Sl.v t17_3), (Sl.v t17_4)]), (b_4, [(Sl.v t17_1)]), (b_3, [(Sl.v x_13), (VI x_14), (Value.int .u64 x_15)]), (b_2, [(Sl.v t17_3), (Sl.v t17_4)]), (b_1, [(Sl.v t17_1)])] →
  K (Value.tuple #[(Value.agg #[(Sl.v t17_1)]), (VI t17_2), (Value.agg #[(Sl.v t17_3), (Sl.v t17_4)]), (Sl.v choices10_1)]) h_21)
theorem v42 (code0_1 : Sl) (h : Heap) (K : Value → Heap → Prop) (H : u42 Try.prog code0_1 h K) : callM Try.prog 42 #[(Sl.v code0_1)] h K := by
  refine c42 (Sl.v code0_1) h K ?_
  unfold u42 at H
  unfold t42
  have hL : Vars h [] := .nil
  refine eop_alloc 32 zer32 rfl hL (fun b_1 h_1 hb_1 hf_1 hL_1 => ?_)
  refine eop_alloc 34 zer34 rfl hL_1 (fun b_2 h_2 hb_2 hf_2 hL_2 => ?_)
  refine pop.mk' (v := (Value.agg #[(Sl.v code0_1), (VI 0), (Value.int .u64 0)])) (fun w => by kernel_rfl) ?_
  refine eop_box 109 (Value.agg #[(Sl.v code0_1), (VI 0), (Value.int .u64 0)]) rfl hL_2 (fun b_3 h_3 hb_3 hf_3 hL_3 => ?_)
  have H := H b_1 b_2 b_3 h_3 (Nat.le_trans (Fr.size (Fr.r (In []) _)) hb_1) (Nat.le_trans (Fr.size (Fr.no' (Fr.r (In []) _) hf_1)) hb_2) (Nat.le_trans (Fr.size (Fr.no' (Fr.no' (Fr.r (In []) _) hf_1) hf_2)) hb_3) (Fr.no' (Fr.no' (Fr.no' (Fr.r (In []) _) hf_1) hf_2) hf_3) hL_3
  refine H.mono fun rv_1 h_4 H => ?_
  obtain ⟨x_1, x_2, x_3, t17_1, t17_2, t17_3, t17_4, rfl, hL_4, H⟩ := H
  refine pop_ext (v := (Value.agg #[(Sl.v t17_1)])) rfl ?_
  refine pop_ext (v := (VI t17_2)) rfl ?_
  refine pop_ext (v := (Value.agg #[(Sl.v t17_3), (Sl.v t17_4)])) rfl ?_
  refine eop_alloc 32 zer32 rfl hL_4 (fun b_4 h_5 hb_4 hf_4 hL_5 => ?_)
  refine eop_alloc 34 zer34 rfl hL_5 (fun b_5 h_6 hb_5 hf_5 hL_6 => ?_)
  refine uop_loc siz32 hL_6 1 rfl 0 [(Sl.v t17_1)] rfl rfl rfl (Nat.le_of_ble_eq_true rfl) (L' := [(b_5, [(Sl.v nilSl), (Sl.v nilSl)]), (b_4, [(Sl.v t17_1)]), (b_3, [(Sl.v x_1), (VI x_2), (Value.int .u64 x_3)]), (b_2, [(Sl.v nilSl), (Sl.v nilSl)]), (b_1, [(Sl.v nilSl)])]) rfl (fun h_7 hf_6 hL_7 => ?_)
  refine uop_loc siz34 hL_7 0 rfl 0 [(Sl.v t17_3), (Sl.v t17_4)] rfl rfl rfl (Nat.le_of_ble_eq_true rfl) (L' := [(b_5, [(Sl.v t17_3), (Sl.v t17_4)]), (b_4, [(Sl.v t17_1)]), (b_3, [(Sl.v x_1), (VI x_2), (Value.int .u64 x_3)]), (b_2, [(Sl.v nilSl), (Sl.v nilSl)]), (b_1, [(Sl.v nilSl)])]) rfl (fun h_8 hf_7 hL_8 => ?_)
  have H := H b_4 b_5 h_8 (Nat.le_trans (Fr.size (Fr.r (In []) _)) hb_4) (Nat.le_trans (Fr.size (Fr.no' (Fr.r (In []) _) hf_4)) hb_5) (Fr.new (Fr.new (Fr.no' (Fr.no' (Fr.r (In []) _) hf_4) hf_5) (Nat.le_trans (Fr.size (Fr.r (In []) _)) hb_4) hf_6) (Nat.le_trans (Fr.size (Fr.no' (Fr.r (In []) _) hf_4)) hb_5) hf_7) hL_8
  refine H.mono fun rv_2 h_9 H => ?_
  obtain ⟨t22_1, rfl, hL_9, H⟩ := H
  refine H.mono fun rv_3 h_10 H => ?_
  obtain ⟨x_4, x_5, x_6, t23_1, rfl, hL_10, H⟩ := H
  obtain ⟨J_1, ⟨n_2, h0_1⟩, HB_2⟩ := H
  refine loop_intro (J := fun (n : Nat) (vs : List Value) (h' : Heap) => ∃ choices10_1 : Sl, ∃ k11_1 : Int, ∃ x_7 : Sl, ∃ x_8 : Int, ∃ x_9 : Int, vs = [(Sl.v choices10_1), (VI k11_1)] ∧ J_1 n choices10_1 k11_1 x_7 x_8 x_9 h' ∧ Vars h' [(b_5, [(Sl.v t17_3), (Sl.v t17_4)]), (b_4, [(Sl.v t17_1)]), (b_3, [(Sl.v x_7), (VI x_8), (Value.int .u64 x_9)]), (b_2, [(Sl.v nilSl), (Sl.v nilSl)]), (b_1, [(Sl.v nilSl)])]) n_2 ⟨nilSl, t23_1, x_4, x_5, x_6, rfl, h0_1, hL_10⟩ ?_
  intro I_1 mu_1 hI_1 junk_1 tv_1 tv_2 h_11 hi_1
  obtain ⟨n_1, ⟨choices10_1, k11_1, x_7, x_8, x_9, hv, hJ_1, hL_11⟩, hn_1⟩ := hI_1 _ _ hi_1
  cases hv
  have H := HB_2 n_1 choices10_1 k11_1 x_7 x_8 x_9 h_11 hJ_1 hL_11
  refine pop_gtr .i64 k11_1 0 ?_
  refine condM_b (fun hb_6 => ?_) (fun hb_6 => ?_)
  · have H := H.1 hb_6
    refine H.mono fun rv_4 h_12 H => ?_
    obtain ⟨x_10, x_11, x_12, t30_1, rfl, hL_12, H⟩ := H
    refine H.mono fun rv_5 h_13 H => ?_
    obtain ⟨t31_1, rfl, hL_13, H⟩ := H
    refine H.mono fun rv_6 h_14 H => ?_
    obtain ⟨t32_1, rfl, hL_14, H⟩ := H
    refine pop_sub .i64 k11_1 1 ?_
    obtain ⟨m_1, hm_1, H⟩ := H
    exact hn_1 _ _ ⟨m_1, hm_1, t32_1, (w64 (k11_1 - 1)), x_10, x_11, x_12, rfl, H, hL_14⟩
  · have H := H.2 hb_6
    obtain ⟨J_2, H, HB_1⟩ := H
    refine ⟨fun (vs : List Value) (h' : Heap) => ∃ x_13 : Sl, ∃ x_14 : Int, ∃ x_15 : Int, vs = [] ∧ J_2 x_13 x_14 x_15 h' ∧ Vars h' [(b_5, [(Sl.v t17_3), (Sl.v t17_4)]), (b_4, [(Sl.v t17_1)]), (b_3, [(Sl.v x_13), (VI x_14), (Value.int .u64 x_15)]), (b_2, [(Sl.v nilSl), (Sl.v nilSl)]), (b_1, [(Sl.v nilSl)])], ?_, ?_⟩
    · refine pop_len choices10_1 _ _ sli25 ?_
      refine pop_gtr .i64 (choices10_1.n : Int) 0 ?_
      refine guardM_st (fun hb_7 => ?_) (fun hb_7 => ?_)
      · have H := H.1 hb_7
        refine guardM_y' hb_7 ?_
        refine H.mono fun rv_7 h_15 H => ?_
        obtain ⟨x_16, x_17, x_18, t38_1, rfl, hL_15, H⟩ := H
        refine pop_pickt' hb_7 ?_
        refine condM_b (fun hb_8 => ?_) (fun hb_8 => ?_)
        · have H := H.1 hb_8
          refine H.mono fun rv_8 h_16 H => ?_
          obtain ⟨t42_1, rfl, hL_16, H⟩ := H
          refine H.mono fun rv_9 h_17 H => ?_
          obtain ⟨x_19, x_20, x_21, t43_1, rfl, hL_17, H⟩ := H
          obtain ⟨hi_2, H⟩ := H
          refine pop_index sli25 siz3 .i64 choices10_1 0 hi_2 ?_
          obtain ⟨hw_1, hL_18, H⟩ := H
          refine uop_cell (v := (VI t43_1)) siz3 hw_1 rfl (fun h_18 he_1 => ?_)
          rw [← he_1] at hL_18
          have H := H h_18 he_1 hL_18
          exact ⟨x_19, x_20, x_21, rfl, H, hL_18⟩
        · have H := H.2 hb_8
          exact ⟨x_16, x_17, x_18, rfl, H, hL_15⟩
      · have H := H.2 hb_7
        refine guardM_n' hb_7 (by decide) ?_
        refine pop_pickf' hb_7 ?_
        refine condM_f ?_
        exact ⟨x_7, x_8, x_9, rfl, H, hL_11⟩
    intro junk_2  h_19
    rintro ⟨x_13, x_14, x_15, hv, hJ_2, hL_19⟩
    have H := HB_1 x_13 x_14 x_15 h_19 hJ_2 hL_19
    refine rop_locA agg32 hL_19 1 rfl 0 (vs := [(Sl.v t17_1)]) rfl rfl ?_
    refine rop_locA agg34 hL_19 0 rfl 0 (vs := [(Sl.v t17_3), (Sl.v t17_4)]) rfl rfl ?_
    refine uop_loc siz32 hL_19 4 rfl 0 [(Sl.v t17_1)] rfl rfl rfl (Nat.le_of_ble_eq_true rfl) (L' := [(b_5, [(Sl.v t17_3), (Sl.v t17_4)]), (b_4, [(Sl.v t17_1)]), (b_3, [(Sl.v x_13), (VI x_14), (Value.int .u64 x_15)]), (b_2, [(Sl.v nilSl), (Sl.v nilSl)]), (b_1, [(Sl.v t17_1)])]) rfl (fun h_20 hf_8 hL_20 => ?_)
    have H := H  h_20  (Fr.old (Fr.r (In []) _) hf_8) hL_20
    refine ⟨?_, ?_⟩
    · exact still_locA agg34 hL_20 0 rfl 0 (vs := [(Sl.v t17_3), (Sl.v t17_4)]) rfl rfl
    refine uop_loc siz34 hL_20 3 rfl 0 [(Sl.v t17_3), (Sl.v t17_4)] rfl rfl rfl (Nat.le_of_ble_eq_true rfl) (L' := [(b_5, [(Sl.v t17_3), (Sl.v t17_4)]), (b_4, [(Sl.v t17_1)]), (b_3, [(Sl.v x_13), (VI x_14), (Value.int .u64 x_15)]), (b_2, [(Sl.v t17_3), (Sl.v t17_4)]), (b_1, [(Sl.v t17_1)])]) rfl (fun h_21 hf_9 hL_21 => ?_)
    refine rop_locA agg32 hL_21 4 rfl 0 (vs := [(Sl.v t17_1)]) rfl rfl ?_
    refine rop_locA agg34 hL_21 3 rfl 0 (vs := [(Sl.v t17_3), (Sl.v t17_4)]) rfl rfl ?_
    have H := H  h_21  (Fr.old (Fr.r (In []) _) hf_9) hL_21
    exact H

/-! impl.EndOfLoad -/
def u43 (P : Program) (g0_1 : Sl) (sink1_1 : Int) (l2_1 : Sl) (l2_2 : Sl) (choices3_1 : Sl) (h : Heap) (K : Value → Heap → Prop) : Prop :=
  ∀ (b_1 : Nat) (b_2 : Nat) (b_3 : Nat) (h_3 : Heap), h.size ≤ b_1 → h.size ≤ b_2 → h.size ≤ b_3 → Fr (In []) h h_3 → Vars h_3 [(b_3, [(Sl.v nilSl), (Sl.v nilSl)]), (b_2, [(Sl.v l2_1), (Sl.v l2_2)]), (b_1, [(Sl.v g0_1)])] →
  callM P 79 #[(Value.agg #[(Sl.v g0_1)]), (VI sink1_1), (Value.agg #[(Sl.v l2_1), (Sl.v l2_2)])] h_3 fun rv_1 h_4 => ∃ t16_1 : Bool, rv_1 = (VB t16_1) ∧ Vars h_4 [(b_3, [(Sl.v nilSl), (Sl.v nilSl)]), (b_2, [(Sl.v l2_1), (Sl.v l2_2)]), (b_1, [(Sl.v g0_1)])] ∧
  ((!t16_1) = true →
  ∀ (h_14 : Heap), Fr (In [b_3]) h_4 h_14 → Vars h_14 [(b_3, [(Sl.v nilSl), (Sl.v nilSl)]), (b_2, [(Sl.v l2_1), (Sl.v l2_2)]), (b_1, [(Sl.v g0_1)])] →
  K (Value.tuple #[(Value.agg #[(Sl.v nilSl), (Sl.v nilSl)]), (VB false)]) h_14) ∧
  ((!t16_1) = false →
  ((decide (100 < (choices3_1.n : Int))) = true →
  ∀ (h_13 : Heap), Fr (In [b_3]) h_4 h_13 → Vars h_13 [(b_3, [(Sl.v nilSl), (Sl.v nilSl)]), (b_2, [(Sl.v l2_1), (Sl.v l2_2)]), (b_1, [(Sl.v g0_1)])] →
  K (Value.tuple #[(Value.agg #[(Sl.v nilSl), (Sl.v nilSl)]), (VB false)]) h_13) ∧
  ((decide (100 < (choices3_1.n : Int))) = false →
  callM P 102 #[(Sl.v choices3_1), (Value.func (.func 103) #[] #[])] h_4 fun rv_2 h_5 => ∃ t25_1 : Bool, rv_2 = (VB t25_1) ∧ Vars h_5 [(b_3, [(Sl.v nilSl), (Sl.v nilSl)]), (b_2, [(Sl.v l2_1), (Sl.v l2_2)]), (b_1, [(Sl.v g0_1)])] ∧
  (t25_1 = true →
  ∀ (h_6 : Heap), Fr (In [b_3]) h_5 h_6 → Vars h_6 [(b_3, [(Sl.v nilSl), (Sl.v nilSl)]), (b_2, [(Sl.v l2_1), (Sl.v l2_2)]), (b_1, [(Sl.v g0_1)])] →
  K (Value.tuple #[(Value.agg #[(Sl.v nilSl), (Sl.v nilSl)]), (VB false)]) h_6) ∧
  (t25_1 = false →
  callM P 80 #[(Value.agg #[(Sl.v l2_1), (Sl.v l2_2)])] h_5 fun rv_3 h_7 => ∃ t29_1 : Sl, ∃ t29_2 : Sl, rv_3 = (Value.agg #[(Sl.v t29_1), (Sl.v t29_2)]) ∧ Vars h_7 [(b_3, [(Sl.v nilSl), (Sl.v nilSl)]), (b_2, [(Sl.v l2_1), (Sl.v l2_2)]), (b_1, [(Sl.v g0_1)])] ∧
  ∀ (b_4 : Nat) (h_9 : Heap), h_7.size ≤ b_4 → Fr (In []) h_7 h_9 → Vars h_9 [(b_4, [(Sl.v t29_1), (Sl.v t29_2)]), (b_3, [(Sl.v nilSl), (Sl.v nilSl)]), (b_2, [(Sl.v l2_1), (Sl.v l2_2)]), (b_1, [(Sl.v g0_1)])] →
  callM P 81 #[(VP b_4 0), (Value.agg #[(Sl.v g0_1)]), (VI sink1_1), (Sl.v choices3_1)] h_9 fun rv_4 h_10 => ∃ x_1 : Sl, ∃ x_2 : Sl, ∃ t34_1 : Sl, ∃ t34_2 : Bool, rv_4 = (Value.tuple #[(Sl.v t34_1), (VB t34_2)]) ∧ Vars h_10 [(b_4, [(Sl.v x_1), (Sl.v x_2)]), (b_3, [(Sl.v nilSl), (Sl.v nilSl)]), (b_2, [(Sl.v l2_1), (Sl.v l2_2)]), (b_1, [(Sl.v g0_1)])] ∧
  ((!t34_2) = true →
  ∀ (h_11 : Heap), Fr (In [b_3]) h_10 h_11 → Vars h_11 [(b_4, [(Sl.v x_1), (Sl.v x_2)]), (b_3, [(Sl.v nilSl), (Sl.v nilSl)]), (b_2, [(Sl.v l2_1), (Sl.v l2_2)]), (b_1, [(Sl.v g0_1)])] →
  K (Value.tuple #[(Value.agg #[(Sl.v nilSl), (Sl.v nilSl)]), (VB false)]) h_11) ∧
  ((!t34_2) = false →
  ∀ (h_12 : Heap), Fr (In [b_3]) h_10 h_12 → Vars h_12 [(b_4, [(Sl.v x_1), (Sl.v x_2)]), (b_3, [(Sl.v x_1), (Sl.v x_2)]), (b_2, [(Sl.v l2_1), (Sl.v l2_2)]), (b_1, [(Sl.v g0_1)])] →
  K (Value.tuple #[(Value.agg #[(Sl.v x_1), (Sl.v x_2)]), (VB true)]) h_12))))
theorem v43 (g0_1 : Sl) (sink1_1 : Int) (l2_1 : Sl) (l2_2 : Sl) (choices3_1 : Sl) (h : Heap) (K : Value → Heap → Prop) (H : u43 Try.prog g0_1 sink1_1 l2_1 l2_2 choices3_1 h K) : callM Try.prog 43 #[(Value.agg #[(Sl.v g0_1)]), (VI sink1_1), (Value.agg #[(Sl.v l2_1), (Sl.v l2_2)]), (Sl.v choices3_1)] h K := by
  refine c43 (Value.agg #[(Sl.v g0_1)]) (VI sink1_1) (Value.agg #[(Sl.v l2_1), (Sl.v l2_2)]) (Sl.v choices3_1) h K ?_
  unfold u43 at H
  unfold t43
  have hL : Vars h [] := .nil
  refine eop_box 32 (Value.agg #[(Sl.v g0_1)]) rfl hL (fun b_1 h_1 hb_1 hf_1 hL_1 => ?_)
  refine eop_box 34 (Value.agg #[(Sl.v l2_1), (Sl.v l2_2)]) rfl hL_1 (fun b_2 h_2 hb_2 hf_2 hL_2 => ?_)
  refine eop_alloc 34 zer34 rfl hL_2 (fun b_3 h_3 hb_3 hf_3 hL_3 => ?_)
  refine rop_locA agg32 hL_3 2 rfl 0 (vs := [(Sl.v g0_1)]) rfl rfl ?_
  refine rop_locA agg34 hL_3 1 rfl 0 (vs := [(Sl.v l2_1), (Sl.v l2_2)]) rfl rfl ?_
  have H := H b_1 b_2 b_3 h_3 (Nat.le_trans (Fr.size (Fr.r (In []) _)) hb_1) (Nat.le_trans (Fr.size (Fr.no' (Fr.r (In []) _) hf_1)) hb_2) (Nat.le_trans (Fr.size (Fr.no' (Fr.no' (Fr.r (In []) _) hf_1) hf_2)) hb_3) (Fr.no' (Fr.no' (Fr.no' (Fr.r (In []) _) hf_1) hf_2) hf_3) hL_3
  refine H.mono fun rv_1 h_4 H => ?_
  obtain ⟨t16_1, rfl, hL_4, H⟩ := H
  refine pop_not t16_1 ?_
  refine guardM_sf (fun hb_4 => ?_) (fun hb_4 => ?_)
  · have H := H.2 hb_4
    refine guardM_y' hb_4 ?_
    refine pop_len choices3_1 _ _ sli25 ?_
    refine guardM_y' hb_4 ?_
    refine pop_gtr .i64 (choices3_1.n : Int) 100 ?_
    refine pop_pickf' hb_4 ?_
    refine guardM_sf (fun hb_5 => ?_) (fun hb_5 => ?_)
    · have H := H.2 hb_5
      refine guardM_y' hb_5 ?_
      refine H.mono fun rv_2 h_5 H => ?_
      obtain ⟨t25_1, rfl, hL_5, H⟩ := H
      refine pop_pickf' hb_5 ?_
      refine condM_b (fun hb_6 => ?_) (fun hb_6 => ?_)
      · have H := H.1 hb_6
        refine pop.mk' (v := (Value.agg #[(Sl.v nilSl), (Sl.v nilSl)])) (fun w => by kernel_rfl) ?_
        refine uop_loc siz34 hL_5 0 rfl 0 [(Sl.v nilSl), (Sl.v nilSl)] rfl rfl rfl (Nat.le_of_ble_eq_true rfl) (L' := [(b_3, [(Sl.v nilSl), (Sl.v nilSl)]), (b_2, [(Sl.v l2_1), (Sl.v l2_2)]), (b_1, [(Sl.v g0_1)])]) rfl (fun h_6 hf_4 hL_6 => ?_)
        refine rop_locA agg34 hL_6 0 rfl 0 (vs := [(Sl.v nilSl), (Sl.v nilSl)]) rfl rfl ?_
        have H := H  h_6  (Fr.old (Fr.r (In []) _) hf_4) hL_6
        exact H
      · have H := H.2 hb_6
        refine rop_locA agg34 hL_5 1 rfl 0 (vs := [(Sl.v l2_1), (Sl.v l2_2)]) rfl rfl ?_
        refine H.mono fun rv_3 h_7 H => ?_
        obtain ⟨t29_1, t29_2, rfl, hL_7, H⟩ := H
        refine eop_alloc 34 zer34 rfl hL_7 (fun b_4 h_8 hb_7 hf_5 hL_8 => ?_)
        refine uop_loc siz34 hL_8 0 rfl 0 [(Sl.v t29_1), (Sl.v t29_2)] rfl rfl rfl (Nat.le_of_ble_eq_true rfl) (L' := [(b_4, [(Sl.v t29_1), (Sl.v t29_2)]), (b_3, [(Sl.v nilSl), (Sl.v nilSl)]), (b_2, [(Sl.v l2_1), (Sl.v l2_2)]), (b_1, [(Sl.v g0_1)])]) rfl (fun h_9 hf_6 hL_9 => ?_)
        refine rop_locA agg32 hL_9 3 rfl 0 (vs := [(Sl.v g0_1)]) rfl rfl ?_
        have H := H b_4 h_9 (Nat.le_trans (Fr.size (Fr.r (In []) _)) hb_7) (Fr.new (Fr.no' (Fr.r (In []) _) hf_5) (Nat.le_trans (Fr.size (Fr.r (In []) _)) hb_7) hf_6) hL_9
        refine H.mono fun rv_4 h_10 H => ?_
        obtain ⟨x_1, x_2, t34_1, t34_2, rfl, hL_10, H⟩ := H
        refine pop_ext (v := (Sl.v t34_1)) rfl ?_
        refine pop_ext (v := (VB t34_2)) rfl ?_
        refine pop_not t34_2 ?_
        refine condM_b (fun hb_8 => ?_) (fun hb_8 => ?_)
        · have H := H.1 hb_8
          refine pop.mk' (v := (Value.agg #[(Sl.v nilSl), (Sl.v nilSl)])) (fun w => by kernel_rfl) ?_
          refine uop_loc siz34 hL_10 1 rfl 0 [(Sl.v nilSl), (Sl.v nilSl)] rfl rfl rfl (Nat.le_of_ble_eq_true rfl) (L' := [(b_4, [(Sl.v x_1), (Sl.v x_2)]), (b_3, [(Sl.v nilSl), (Sl.v nilSl)]), (b_2, [(Sl.v l2_1), (Sl.v l2_2)]), (b_1, [(Sl.v g0_1)])]) rfl (fun h_11 hf_7 hL_11 => ?_)
          refine rop_locA agg34 hL_11 1 rfl 0 (vs := [(Sl.v nilSl), (Sl.v nilSl)]) rfl rfl ?_
          have H := H  h_11  (Fr.old (Fr.r (In []) _) hf_7) hL_11
          exact H
        · have H := H.2 hb_8
          refine rop_locA agg34 hL_10 0 rfl 0 (vs := [(Sl.v x_1), (Sl.v x_2)]) rfl rfl ?_
          refine uop_loc siz34 hL_10 1 rfl 0 [(Sl.v x_1), (Sl.v x_2)] rfl rfl rfl (Nat.le_of_ble_eq_true rfl) (L' := [(b_4, [(Sl.v x_1), (Sl.v x_2)]), (b_3, [(Sl.v x_1), (Sl.v x_2)]), (b_2, [(Sl.v l2_1), (Sl.v l2_2)]), (b_1, [(Sl.v g0_1)])]) rfl (fun h_12 hf_8 hL_12 => ?_)
          refine rop_locA agg34 hL_12 1 rfl 0 (vs := [(Sl.v x_1), (Sl.v x_2)]) rfl rfl ?_
          have H := H  h_12  (Fr.old (Fr.r (In []) _) hf_8) hL_12
          exact H
    · have H := H.1 hb_5
      refine guardM_n' hb_5 (by decide) ?_
      refine pop_pickt' hb_5 ?_
      refine condM_t ?_
      refine pop.mk' (v := (Value.agg #[(Sl.v nilSl), (Sl.v nilSl)])) (fun w => by kernel_rfl) ?_
      refine uop_loc siz34 hL_4 0 rfl 0 [(Sl.v nilSl), (Sl.v nilSl)] rfl rfl rfl (Nat.le_of_ble_eq_true rfl) (L' := [(b_3, [(Sl.v nilSl), (Sl.v nilSl)]), (b_2, [(Sl.v l2_1), (Sl.v l2_2)]), (b_1, [(Sl.v g0_1)])]) rfl (fun h_13 hf_9 hL_13 => ?_)
      refine rop_locA agg34 hL_13 0 rfl 0 (vs := [(Sl.v nilSl), (Sl.v nilSl)]) rfl rfl ?_
      have H := H  h_13  (Fr.old (Fr.r (In []) _) hf_9) hL_13
      exact H
  · have H := H.1 hb_4
    refine guardM_n' hb_4 (by decide) ?_
    refine guardM_n' hb_4 (by decide) ?_
    refine pop_pickt' hb_4 ?_
    refine guardM_n (by decide) ?_
    refine guardM_n (by decide) ?_
    refine pop_pickt _ _ ?_
    refine condM_t ?_
    refine pop.mk' (v := (Value.agg #[(Sl.v nilSl), (Sl.v nilSl)])) (fun w => by kernel_rfl) ?_
    refine uop_loc siz34 hL_4 0 rfl 0 [(Sl.v nilSl), (Sl.v nilSl)] rfl rfl rfl (Nat.le_of_ble_eq_true rfl) (L' := [(b_3, [(Sl.v nilSl), (Sl.v nilSl)]), (b_2, [(Sl.v l2_1), (Sl.v l2_2)]), (b_1, [(Sl.v g0_1)])]) rfl (fun h_14 hf_10 hL_14 => ?_)
    refine rop_locA agg34 hL_14 0 rfl 0 (vs := [(Sl.v nilSl), (Sl.v nilSl)]) rfl rfl ?_
    have H := H  h_14  (Fr.old (Fr.r (In []) _) hf_10) hL_14
    exact H

/-! spec.EndOfLoad -/
def u44 (P : Program) (g0_1 : Sl) (sink1_1 : Int) (l2_1 : Sl) (l2_2 : Sl) (choices3_1 : Sl) (h : Heap) (K : Value → Heap → Prop) : Prop :=
  ∀ (b_1 : Nat) (b_2 : Nat) (b_3 : Nat) (h_3 : Heap), h.size ≤ b_1 → h.size ≤ b_2 → h.size ≤ b_3 → Fr (In []) h h_3 → Vars h_3 [(b_3, [(Sl.v nilSl), (Sl.v nilSl)]), (b_2, [(Sl.v l2_1), (Sl.v l2_2)]), (b_1, [(Sl.v g0_1)])] →
  callM P 76 #[(Value.agg #[(Sl.v g0_1)]), (VI sink1_1), (Value.agg #[(Sl.v l2_1), (Sl.v l2_2)])] h_3 fun rv_1 h_4 => ∃ t16_1 : Bool, rv_1 = (VB t16_1) ∧ Vars h_4 [(b_3, [(Sl.v nilSl), (Sl.v nilSl)]), (b_2, [(Sl.v l2_1), (Sl.v l2_2)]), (b_1, [(Sl.v g0_1)])] ∧
  ((!t16_1) = true →
  ∀ (h_12 : Heap), Fr (In [b_3]) h_4 h_12 → Vars h_12 [(b_3, [(Sl.v nilSl), (Sl.v nilSl)]), (b_2, [(Sl.v l2_1), (Sl.v l2_2)]), (b_1, [(Sl.v g0_1)])] →
  K (Value.tuple #[(Value.agg #[(Sl.v nilSl), (Sl.v nilSl)]), (VB false)]) h_12) ∧
  ((!t16_1) = false →
  ((decide (100 < (choices3_1.n : Int))) = true →
  ∀ (h_11 : Heap), Fr (In [b_3]) h_4 h_11 → Vars h_11 [(b_3, [(Sl.v nilSl), (Sl.v nilSl)]), (b_2, [(Sl.v l2_1), (Sl.v l2_2)]), (b_1, [(Sl.v g0_1)])] →
  K (Value.tuple #[(Value.agg #[(Sl.v nilSl), (Sl.v nilSl)]), (VB false)]) h_11) ∧
  ((decide (100 < (choices3_1.n : Int))) = false →
  callM P 104 #[(Sl.v choices3_1), (VI 0), (VI 9223372036854775807)] h_4 fun rv_2 h_5 => ∃ t25_1 : Bool, rv_2 = (VB t25_1) ∧ Vars h_5 [(b_3, [(Sl.v nilSl), (Sl.v nilSl)]), (b_2, [(Sl.v l2_1), (Sl.v l2_2)]), (b_1, [(Sl.v g0_1)])] ∧
  ((!t25_1) = true →
  ∀ (h_6 : Heap), Fr (In [b_3]) h_5 h_6 → Vars h_6 [(b_3, [(Sl.v nilSl), (Sl.v nilSl)]), (b_2, [(Sl.v l2_1), (Sl.v l2_2)]), (b_1, [(Sl.v g0_1)])] →
  K (Value.tuple #[(Value.agg #[(Sl.v nilSl), (Sl.v nilSl)]), (VB false)]) h_6) ∧
  ((!t25_1) = false →
  callM P 77 #[(Value.agg #[(Sl.v g0_1)]), (VI sink1_1), (Value.agg #[(Sl.v l2_1), (Sl.v l2_2)]), (Sl.v choices3_1)] h_5 fun rv_3 h_7 => ∃ t34_1 : Sl, ∃ t34_2 : Sl, ∃ t34_3 : Sl, ∃ t34_4 : Bool, rv_3 = (Value.tuple #[(Value.agg #[(Sl.v t34_1), (Sl.v t34_2)]), (Sl.v t34_3), (VB t34_4)]) ∧ Vars h_7 [(b_3, [(Sl.v nilSl), (Sl.v nilSl)]), (b_2, [(Sl.v l2_1), (Sl.v l2_2)]), (b_1, [(Sl.v g0_1)])] ∧
  ∀ (b_4 : Nat) (h_10 : Heap), h_7.size ≤ b_4 → Fr (In [b_3]) h_7 h_10 → Vars h_10 [(b_4, [(Sl.v t34_1), (Sl.v t34_2)]), (b_3, [(Sl.v t34_1), (Sl.v t34_2)]), (b_2, [(Sl.v l2_1), (Sl.v l2_2)]), (b_1, [(Sl.v g0_1)])] →
  K (Value.tuple #[(Value.agg #[(Sl.v t34_1), (Sl.v t34_2)]), (VB t34_4)]) h_10)))
theorem v44 (g0_1 : Sl) (sink1_1 : Int) (l2_1 : Sl) (l2_2 : Sl) (choices3_1 : Sl) (h : Heap) (K : Value → Heap → Prop) (H : u44 Try.prog g0_1 sink1_1 l2_1 l2_2 choices3_1 h K) : callM Try.prog 44 #[(Value.agg #[(Sl.v g0_1)]), (VI sink1_1), (Value.agg #[(Sl.v l2_1), (Sl.v l2_2)]), (Sl.v choices3_1)] h K := by
  refine c44 (Value.agg #[(Sl.v g0_1)]) (VI sink1_1) (Value.agg #[(Sl.v l2_1), (Sl.v l2_2)]) (Sl.v choices3_1) h K ?_
  unfold u44 at H
  unfold t44
  have hL : Vars h [] := .nil
  refine eop_box 32 (Value.agg #[(Sl.v g0_1)]) rfl hL (fun b_1 h_1 hb_1 hf_1 hL_1 => ?_)
  refine eop_box 34 (Value.agg #[(Sl.v l2_1), (Sl.v l2_2)]) rfl hL_1 (fun b_2 h_2 hb_2 hf_2 hL_2 => ?_)
  refine eop_alloc 34 zer34 rfl hL_2 (fun b_3 h_3 hb_3 hf_3 hL_3 => ?_)
  refine rop_locA agg32 hL_3 2 rfl 0 (vs := [(Sl.v g0_1)]) rfl rfl ?_
  refine rop_locA agg34 hL_3 1 rfl 0 (vs := [(Sl.v l2_1), (Sl.v l2_2)]) rfl rfl ?_
  have H := H b_1 b_2 b_3 h_3 (Nat.le_trans (Fr.size (Fr.r (In []) _)) hb_1) (Nat.le_trans (Fr.size (Fr.no' (Fr.r (In []) _) hf_1)) hb_2) (Nat.le_trans (Fr.size (Fr.no' (Fr.no' (Fr.r (In []) _) hf_1) hf_2)) hb_3) (Fr.no' (Fr.no' (Fr.no' (Fr.r (In []) _) hf_1) hf_2) hf_3) hL_3
  refine H.mono fun rv_1 h_4 H => ?_
  obtain ⟨t16_1, rfl, hL_4, H⟩ := H
  refine pop_not t16_1 ?_
  refine guardM_sf (fun hb_4 => ?_) (fun hb_4 => ?_)
  · have H := H.2 hb_4
    refine guardM_y' hb_4 ?_
    refine pop_len choices3_1 _ _ sli25 ?_
    refine guardM_y' hb_4 ?_
    refine pop_gtr .i64 (choices3_1.n : Int) 100 ?_
    refine pop_pickf' hb_4 ?_
    refine guardM_sf (fun hb_5 => ?_) (fun hb_5 => ?_)
    · have H := H.2 hb_5
      refine guardM_y' hb_5 ?_
      refine H.mono fun rv_2 h_5 H => ?_
      obtain ⟨t25_1, rfl, hL_5, H⟩ := H
      refine guardM_y' hb_5 ?_
      refine pop_not t25_1 ?_
      refine pop_pickf' hb_5 ?_
      refine condM_b (fun hb_6 => ?_) (fun hb_6 => ?_)
      · have H := H.1 hb_6
        refine pop.mk' (v := (Value.agg #[(Sl.v nilSl), (Sl.v nilSl)])) (fun w => by kernel_rfl) ?_
        refine uop_loc siz34 hL_5 0 rfl 0 [(Sl.v nilSl), (Sl.v nilSl)] rfl rfl rfl (Nat.le_of_ble_eq_true rfl) (L' := [(b_3, [(Sl.v nilSl), (Sl.v nilSl)]), (b_2, [(Sl.v l2_1), (Sl.v l2_2)]), (b_1, [(Sl.v g0_1)])]) rfl (fun h_6 hf_4 hL_6 => ?_)
        refine rop_locA agg34 hL_6 0 rfl 0 (vs := [(Sl.v nilSl), (Sl.v nilSl)]) rfl rfl ?_
        have H := H  h_6  (Fr.old (Fr.r (In []) _) hf_4) hL_6
        exact H
      · have H := H.2 hb_6
        refine rop_locA agg32 hL_5 2 rfl 0 (vs := [(Sl.v g0_1)]) rfl rfl ?_
        refine rop_locA agg34 hL_5 1 rfl 0 (vs := [(Sl.v l2_1), (Sl.v l2_2)]) rfl rfl ?_
        refine H.mono fun rv_3 h_7 H => ?_
        obtain ⟨t34_1, t34_2, t34_3, t34_4, rfl, hL_7, H⟩ := H
        refine pop_ext (v := (Value.agg #[(Sl.v t34_1), (Sl.v t34_2)])) rfl ?_
        refine pop_ext (v := (Sl.v t34_3)) rfl ?_
        refine pop_ext (v := (VB t34_4)) rfl ?_
        refine eop_alloc 34 zer34 rfl hL_7 (fun b_4 h_8 hb_7 hf_5 hL_8 => ?_)
        refine uop_loc siz34 hL_8 0 rfl 0 [(Sl.v t34_1), (Sl.v t34_2)] rfl rfl rfl (Nat.le_of_ble_eq_true rfl) (L' := [(b_4, [(Sl.v t34_1), (Sl.v t34_2)]), (b_3, [(Sl.v nilSl), (Sl.v nilSl)]), (b_2, [(Sl.v l2_1), (Sl.v l2_2)]), (b_1, [(Sl.v g0_1)])]) rfl (fun h_9 hf_6 hL_9 => ?_)
        refine rop_locA agg34 hL_9 0 rfl 0 (vs := [(Sl.v t34_1), (Sl.v t34_2)]) rfl rfl ?_
        refine uop_loc siz34 hL_9 1 rfl 0 [(Sl.v t34_1), (Sl.v t34_2)] rfl rfl rfl (Nat.le_of_ble_eq_true rfl) (L' := [(b_4, [(Sl.v t34_1), (Sl.v t34_2)]), (b_3, [(Sl.v t34_1), (Sl.v t34_2)]), (b_2, [(Sl.v l2_1), (Sl.v l2_2)]), (b_1, [(Sl.v g0_1)])]) rfl (fun h_10 hf_7 hL_10 => ?_)
        refine rop_locA agg34 hL_10 1 rfl 0 (vs := [(Sl.v t34_1), (Sl.v t34_2)]) rfl rfl ?_
        have H := H b_4 h_10 (Nat.le_trans (Fr.size (Fr.r (In []) _)) hb_7) (Fr.old (Fr.new (Fr.no' (Fr.r (In []) _) hf_5) (Nat.le_trans (Fr.size (Fr.r (In []) _)) hb_7) hf_6) hf_7) hL_10
        exact H
    · have H := H.1 hb_5
      refine guardM_n' hb_5 (by decide) ?_
      refine guardM_n' hb_5 (by decide) ?_
      refine pop_pickt' hb_5 ?_
      refine condM_t ?_
      refine pop.mk' (v := (Value.agg #[(Sl.v nilSl), (Sl.v nilSl)])) (fun w => by kernel_rfl) ?_
      refine uop_loc siz34 hL_4 0 rfl 0 [(Sl.v nilSl), (Sl.v nilSl)] rfl rfl rfl (Nat.le_of_ble_eq_true rfl) (L' := [(b_3, [(Sl.v nilSl), (Sl.v nilSl)]), (b_2, [(Sl.v l2_1), (Sl.v l2_2)]), (b_1, [(Sl.v g0_1)])]) rfl (fun h_11 hf_8 hL_11 => ?_)
      refine rop_locA agg34 hL_11 0 rfl 0 (vs := [(Sl.v nilSl), (Sl.v nilSl)]) rfl rfl ?_
      have H := H  h_11  (Fr.old (Fr.r (In []) _) hf_8) hL_11
      exact H
  · have H := H.1 hb_4
    refine guardM_n' hb_4 (by decide) ?_
    refine guardM_n' hb_4 (by decide) ?_
    refine pop_pickt' hb_4 ?_
    refine guardM_n (by decide) ?_
    refine guardM_n (by decide) ?_
    refine guardM_n (by decide) ?_
    refine pop_pickt _ _ ?_
    refine condM_t ?_
    refine pop.mk' (v := (Value.agg #[(Sl.v nilSl), (Sl.v nilSl)])) (fun w => by kernel_rfl) ?_
    refine uop_loc siz34 hL_4 0 rfl 0 [(Sl.v nilSl), (Sl.v nilSl)] rfl rfl rfl (Nat.le_of_ble_eq_true rfl) (L' := [(b_3, [(Sl.v nilSl), (Sl.v nilSl)]), (b_2, [(Sl.v l2_1), (Sl.v l2_2)]), (b_1, [(Sl.v g0_1)])]) rfl (fun h_12 hf_9 hL_12 => ?_)
    refine rop_locA agg34 hL_12 0 rfl 0 (vs := [(Sl.v nilSl), (Sl.v nilSl)]) rfl rfl ?_
    have H := H  h_12  (Fr.old (Fr.r (In []) _) hf_9) hL_12
    exact H

/-! laws.xSame -/
def u45 (P : Program) (a0_1 : Sl) (b1_1 : Sl) (h : Heap) (K : Value → Heap → Prop) : Prop :=
  ((!decide ((a0_1.n : Int) = (b1_1.n : Int))) = true →
  K (VB false) h) ∧
  ((!decide ((a0_1.n : Int) = (b1_1.n : Int))) = false →
  ∃ J_1 : Nat → Int → Heap → Prop, (∃ n0 : Nat, J_1 n0 0 h) ∧
  ∀ (n_1 : Nat) (t13_1 : Int) (h_1 : Heap), J_1 n_1 t13_1 h_1 → Vars h_1 [] →
  ((decide (t13_1 < (a0_1.n : Int))) = true →
  InB a0_1 t13_1 ∧
  ∃ t19_1 : Int, hcell h_1 (Sl.at a0_1 t13_1 1) = some (VI t19_1) ∧
  InB b1_1 t13_1 ∧
  ∃ t23_1 : Int, hcell h_1 (Sl.at b1_1 t13_1 1) = some (VI t23_1) ∧
  ((!decide (t19_1 = t23_1)) = true →
  K (VB false) h_1) ∧
  ((!decide (t19_1 = t23_1)) = false →
  ∃ m : Nat, m < n_1 ∧ J_1 m (w64 (t13_1 + 1)) h_1)) ∧
  ((decide (t13_1 < (a0_1.n : Int))) = false →
  K (VB true) h_1))
theorem v45 (a0_1 : Sl) (b1_1 : Sl) (h : Heap) (K : Value → Heap → Prop) (H : u45 Try.prog a0_1 b1_1 h K) : callM Try.prog 45 #[(Sl.v a0_1), (Sl.v b1_1)] h K := by
  refine c45 (Sl.v a0_1) (Sl.v b1_1) h K ?_
  unfold u45 at H
  unfold t45
  have hL : Vars h [] := .nil
  refine pop_len a0_1 _ _ sli25 ?_
  refine pop_len b1_1 _ _ sli25 ?_
  refine pop_ine .i64 _ _ (a0_1.n : Int) (b1_1.n : Int) ?_
  refine condM_b (fun hb_1 => ?_) (fun hb_1 => ?_)
  · have H := H.1 hb_1
    exact H
  · have H := H.2 hb_1
    refine pop_len a0_1 _ _ sli25 ?_
    obtain ⟨J_1, ⟨n_2, h0_1⟩, HB_1⟩ := H
    refine loop_intro (J := fun (n : Nat) (vs : List Value) (h' : Heap) => ∃ t13_1 : Int, vs = [(VI t13_1)] ∧ J_1 n t13_1 h' ∧ Vars h' []) n_2 ⟨0, rfl, h0_1, hL⟩ ?_
    intro I_1 mu_1 hI_1 junk_1 tv_1 h_1 hi_1
    obtain ⟨n_1, ⟨t13_1, hv, hJ_1, hL_1⟩, hn_1⟩ := hI_1 _ _ hi_1
    cases hv
    have H := HB_1 n_1 t13_1 h_1 hJ_1 hL_1
    refine pop_lss .i64 t13_1 (a0_1.n : Int) ?_
    refine condM_b (fun hb_2 => ?_) (fun hb_2 => ?_)
    · have H := H.1 hb_2
      obtain ⟨hi_2, H⟩ := H
      refine pop_index sli25 siz3 .i64 a0_1 t13_1 hi_2 ?_
      obtain ⟨t19_1, hc_2, H⟩ := H
      refine rop_one one3 (VI t19_1) hc_2 ?_
      obtain ⟨hi_3, H⟩ := H
      refine pop_index sli25 siz3 .i64 b1_1 t13_1 hi_3 ?_
      obtain ⟨t23_1, hc_1, H⟩ := H
      refine rop_one one3 (VI t23_1) hc_1 ?_
      refine pop_ine .i64 _ _ t19_1 t23_1 ?_
      refine condM_b (fun hb_3 => ?_) (fun hb_3 => ?_)
      · have H := H.1 hb_3
        exact H
      · have H := H.2 hb_3
        refine pop_add .i64 t13_1 1 ?_
        obtain ⟨m_1, hm_1, H⟩ := H
        exact hn_1 _ _ ⟨m_1, hm_1, (w64 (t13_1 + 1)), rfl, H, hL_1⟩
    · have H := H.2 hb_2
      exact H

/-! impl.IsLoad -/
def u46 (P : Program) (g0_1 : Sl) (sink1_1 : Int) (l2_1 : Sl) (l2_2 : Sl) (h : Heap) (K : Value → Heap → Prop) : Prop :=
  ∀ (b_1 : Nat) (b_2 : Nat) (h_2 : Heap), h.size ≤ b_1 → h.size ≤ b_2 → Fr (In []) h h_2 → Vars h_2 [(b_2, [(Sl.v l2_1), (Sl.v l2_2)]), (b_1, [(Sl.v g0_1)])] →
  callM P 105 #[(Value.agg #[(Sl.v g0_1)]), (VI sink1_1)] h_2 fun rv_1 h_3 => ∃ t10_1 : Bool, rv_1 = (VB t10_1) ∧ Vars h_3 [(b_2, [(Sl.v l2_1), (Sl.v l2_2)]), (b_1, [(Sl.v g0_1)])] ∧
  ((!t10_1) = true →
  K (Value.tuple #[(VB false), (VB false)]) h_3) ∧
  ((!t10_1) = false →
  callM P 79 #[(Value.agg #[(Sl.v g0_1)]), (VI sink1_1), (Value.agg #[(Sl.v l2_1), (Sl.v l2_2)])] h_3 fun rv_2 h_4 => ∃ t15_1 : Bool, rv_2 = (VB t15_1) ∧ Vars h_4 [(b_2, [(Sl.v l2_1), (Sl.v l2_2)]), (b_1, [(Sl.v g0_1)])] ∧
  K (Value.tuple #[(VB t15_1), (VB true)]) h_4)
theorem v46 (g0_1 : Sl) (sink1_1 : Int) (l2_1 : Sl) (l2_2 : Sl) (h : Heap) (K : Value → Heap → Prop) (H : u46 Try.prog g0_1 sink1_1 l2_1 l2_2 h K) : callM Try.prog 46 #[(Value.agg #[(Sl.v g0_1)]), (VI sink1_1), (Value.agg #[(Sl.v l2_1), (Sl.v l2_2)])] h K := by
  refine c46 (Value.agg #[(Sl.v g0_1)]) (VI sink1_1) (Value.agg #[(Sl.v l2_1), (Sl.v l2_2)]) h K ?_
  unfold u46 at H
  unfold t46
  have hL : Vars h [] := .nil
  refine eop_box 32 (Value.agg #[(Sl.v g0_1)]) rfl hL (fun b_1 h_1 hb_1 hf_1 hL_1 => ?_)
  refine eop_box 34 (Value.agg #[(Sl.v l2_1), (Sl.v l2_2)]) rfl hL_1 (fun b_2 h_2 hb_2 hf_2 hL_2 => ?_)
  refine rop_locA agg32 hL_2 1 rfl 0 (vs := [(Sl.v g0_1)]) rfl rfl ?_
  have H := H b_1 b_2 h_2 (Nat.le_trans (Fr.size (Fr.r (In []) _)) hb_1) (Nat.le_trans (Fr.size (Fr.no' (Fr.r (In []) _) hf_1)) hb_2) (Fr.no' (Fr.no' (Fr.r (In []) _) hf_1) hf_2) hL_2
  refine H.mono fun rv_1 h_3 H => ?_
  obtain ⟨t10_1, rfl, hL_3, H⟩ := H
  refine pop_not t10_1 ?_
  refine condM_b (fun hb_3 => ?_) (fun hb_3 => ?_)
  · have H := H.1 hb_3
    exact H
  · have H := H.2 hb_3
    refine rop_locA agg32 hL_3 1 rfl 0 (vs := [(Sl.v g0_1)]) rfl rfl ?_
    refine rop_locA agg34 hL_3 0 rfl 0 (vs := [(Sl.v l2_1), (Sl.v l2_2)]) rfl rfl ?_
    refine H.mono fun rv_2 h_4 H => ?_
    obtain ⟨t15_1, rfl, hL_4, H⟩ := H
    exact H

/-! spec.DrawMoveInOrder -/
def u47 (P : Program) (code0_1 : Sl) (h : Heap) (K : Value → Heap → Prop) : Prop :=
  ∀ (b_1 : Nat) (b_2 : Nat) (b_3 : Nat) (h_3 : Heap), h.size ≤ b_1 → h.size ≤ b_2 → h.size ≤ b_3 → Fr (In []) h h_3 → Vars h_3 [(b_3, [(Sl.v code0_1), (VI 0), (Value.int .u64 0)]), (b_2, [(Sl.v nilSl), (Sl.v nilSl)]), (b_1, [(Sl.v nilSl)])] →
  callM P 98 #[(VP b_3 0)] h_3 fun rv_1 h_4 => ∃ x_1 : Sl, ∃ x_2 : Int, ∃ x_3 : Int, ∃ t20_1 : Sl, ∃ t20_2 : Int, ∃ t20_3 : Sl, ∃ t20_4 : Sl, rv_1 = (Value.tuple #[(Value.agg #[(Sl.v t20_1)]), (VI t20_2), (Value.agg #[(Sl.v t20_3), (Sl.v t20_4)])]) ∧ Vars h_4 [(b_3, [(Sl.v x_1), (VI x_2), (Value.int .u64 x_3)]), (b_2, [(Sl.v nilSl), (Sl.v nilSl)]), (b_1, [(Sl.v nilSl)])] ∧
  ∀ (b_4 : Nat) (b_5 : Nat) (h_8 : Heap), h_4.size ≤ b_4 → h_4.size ≤ b_5 → Fr (In []) h_4 h_8 → Vars h_8 [(b_5, [(Sl.v t20_3), (Sl.v t20_4)]), (b_4, [(Sl.v t20_1)]), (b_3, [(Sl.v x_1), (VI x_2), (Value.int .u64 x_3)]), (b_2, [(Sl.v nilSl), (Sl.v nilSl)]), (b_1, [(Sl.v nilSl)])] →
  callM P 100 #[(VP b_3 0), (VI 6)] h_8 fun rv_2 h_9 => ∃ x_4 : Sl, ∃ x_5 : Int, ∃ x_6 : Int, ∃ t25_1 : Int, rv_2 = (VI t25_1) ∧ Vars h_9 [(b_5, [(Sl.v t20_3), (Sl.v t20_4)]), (b_4, [(Sl.v t20_1)]), (b_3, [(Sl.v x_4), (VI x_5), (Value.int .u64 x_6)]), (b_2, [(Sl.v nilSl), (Sl.v nilSl)]), (b_1, [(Sl.v nilSl)])] ∧
  ∃ J_1 : Nat → Sl → Int → Sl → Int → Int → Heap → Prop, (∃ n0 : Nat, J_1 n0 nilSl t25_1 x_4 x_5 x_6 h_9) ∧
  ∀ (n_1 : Nat) (order10_1 : Sl) (k11_1 : Int) (x_7 : Sl) (x_8 : Int) (x_9 : Int) (h_10 : Heap), J_1 n_1 order10_1 k11_1 x_7 x_8 x_9 h_10 → Vars h_10 [(b_5, [(Sl.v t20_3), (Sl.v t20_4)]), (b_4, [(Sl.v t20_1)]), (b_3, [(Sl.v x_7), (VI x_8), (Value.int .u64 x_9)]), (b_2, [(Sl.v nilSl), (Sl.v nilSl)]), (b_1, [(Sl.v nilSl)])] →
  ((decide (0 < k11_1)) = true →
  ∃ J_2 : Sl → Sl → Int → Int → Heap → Prop, (callM P 49 #[(Value.agg #[(Sl.v t20_1)]), (VI t20_2), (Value.agg #[(Sl.v t20_3), (Sl.v t20_4)]), (Sl.v order10_1)] h_10 fun rv_3 h_11 => ∃ t35_1 : Sl, ∃ t35_2 : Sl, ∃ t35_3 : Bool, rv_3 = (Value.tuple #[(Value.agg #[(Sl.v t35_1), (Sl.v t35_2)]), (VB t35_3)]) ∧ Vars h_11 [(b_5, [(Sl.v t20_3), (Sl.v t20_4)]), (b_4, [(Sl.v t20_1)]), (b_3, [(Sl.v x_7), (VI x_8), (Value.int .u64 x_9)]), (b_2, [(Sl.v nilSl), (Sl.v nilSl)]), (b_1, [(Sl.v nilSl)])] ∧
  (t35_3 = true →
  ∀ (b_6 : Nat) (h_13 : Heap), h_11.size ≤ b_6 → Fr (In []) h_11 h_13 → Vars h_13 [(b_6, [(Sl.v t35_1), (Sl.v t35_2)]), (b_5, [(Sl.v t20_3), (Sl.v t20_4)]), (b_4, [(Sl.v t20_1)]), (b_3, [(Sl.v x_7), (VI x_8), (Value.int .u64 x_9)]), (b_2, [(Sl.v nilSl), (Sl.v nilSl)]), (b_1, [(Sl.v nilSl)])] →
  callM P 96 #[(VI t20_2), (Sl.v t35_2)] h_13 fun rv_4 h_14 => ∃ t43_1 : Sl, rv_4 = (Sl.v t43_1) ∧ Vars h_14 [(b_6, [(Sl.v t35_1), (Sl.v t35_2)]), (b_5, [(Sl.v t20_3), (Sl.v t20_4)]), (b_4, [(Sl.v t20_1)]), (b_3, [(Sl.v x_7), (VI x_8), (Value.int .u64 x_9)]), (b_2, [(Sl.v nilSl), (Sl.v nilSl)]), (b_1, [(Sl.v nilSl)])] ∧
  ((decide (0 < (t43_1.n : Int))) = true →
  callM P 99 #[(VP b_3 0), (VI 6)] h_14 fun rv_5 h_15 => ∃ x_14 : Sl, ∃ x_15 : Int, ∃ x_16 : Int, ∃ t49_1 : Bool, rv_5 = (VB t49_1) ∧ Vars h_15 [(b_6, [(Sl.v t35_1), (Sl.v t35_2)]), (b_5, [(Sl.v t20_3), (Sl.v t20_4)]), (b_4, [(Sl.v t20_1)]), (b_3, [(Sl.v x_14), (VI x_15), (Value.int .u64 x_16)]), (b_2, [(Sl.v nilSl), (Sl.v nilSl)]), (b_1, [(Sl.v nilSl)])] ∧
  ((!t49_1) = true →
  callM P 96 #[(VI t20_2), (Sl.v t35_2)] h_15 fun rv_6 h_16 => ∃ t55_1 : Sl, rv_6 = (Sl.v t55_1) ∧ Vars h_16 [(b_6, [(Sl.v t35_1), (Sl.v t35_2)]), (b_5, [(Sl.v t20_3), (Sl.v t20_4)]), (b_4, [(Sl.v t20_1)]), (b_3, [(Sl.v x_14), (VI x_15), (Value.int .u64 x_16)]), (b_2, [(Sl.v nilSl), (Sl.v nilSl)]), (b_1, [(Sl.v nilSl)])] ∧
  callM P 100 #[(VP b_3 0), (VI (t55_1.n : Int))] h_16 fun rv_7 h_17 => ∃ x_17 : Sl, ∃ x_18 : Int, ∃ x_19 : Int, ∃ t61_1 : Int, rv_7 = (VI t61_1) ∧ Vars h_17 [(b_6, [(Sl.v t35_1), (Sl.v t35_2)]), (b_5, [(Sl.v t20_3), (Sl.v t20_4)]), (b_4, [(Sl.v t20_1)]), (b_3, [(Sl.v x_17), (VI x_18), (Value.int .u64 x_19)]), (b_2, [(Sl.v nilSl), (Sl.v nilSl)]), (b_1, [(Sl.v nilSl)])] ∧
  InB t55_1 t61_1 ∧
  ∃ t63_1 : Int, hcell h_17 (Sl.at t55_1 t61_1 1) = some (VI t63_1) ∧
  eop P (Instr.buildSlice 25 1 #[(0, (VI t63_1))]) h_17 fun rv_8 h_18 => ∃ t64_1 : Sl, rv_8 = (Sl.v t64_1) ∧ Vars h_18 [(b_6, [(Sl.v t35_1), (Sl.v t35_2)]), (b_5, [(Sl.v t20_3), (Sl.v t20_4)]), (b_4, [(Sl.v t20_1)]), (b_3, [(Sl.v x_17), (VI x_18), (Value.int .u64 x_19)]), (b_2, [(Sl.v nilSl), (Sl.v nilSl)]), (b_1, [(Sl.v nilSl)])] ∧
  eop P (appS 25 25 25 (Sl.v order10_1) (Sl.v t64_1)) h_18 fun rv_9 h_19 => ∃ t65_1 : Sl, rv_9 = (Sl.v t65_1) ∧ Vars h_19 [(b_6, [(Sl.v t35_1), (Sl.v t35_2)]), (b_5, [(Sl.v t20_3), (Sl.v t20_4)]), (b_4, [(Sl.v t20_1)]), (b_3, [(Sl.v x_17), (VI x_18), (Value.int .u64 x_19)]), (b_2, [(Sl.v nilSl), (Sl.v nilSl)]), (b_1, [(Sl.v nilSl)])] ∧
  J_2 t65_1 x_17 x_18 x_19 h_19) ∧
  ((!t49_1) = false →
  callM P 106 #[(VP b_3 0), (Value.agg #[(Sl.v t20_1)])] h_15 fun rv_10 h_20 => ∃ x_20 : Sl, ∃ x_21 : Int, ∃ x_22 : Int, ∃ t69_1 : Int, rv_10 = (VI t69_1) ∧ Vars h_20 [(b_6, [(Sl.v t35_1), (Sl.v t35_2)]), (b_5, [(Sl.v t20_3), (Sl.v t20_4)]), (b_4, [(Sl.v t20_1)]), (b_3, [(Sl.v x_20), (VI x_21), (Value.int .u64 x_22)]), (b_2, [(Sl.v nilSl), (Sl.v nilSl)]), (b_1, [(Sl.v nilSl)])] ∧
  eop P (Instr.buildSlice 25 1 #[(0, (VI t69_1))]) h_20 fun rv_11 h_21 => ∃ t70_1 : Sl, rv_11 = (Sl.v t70_1) ∧ Vars h_21 [(b_6, [(Sl.v t35_1), (Sl.v t35_2)]), (b_5, [(Sl.v t20_3), (Sl.v t20_4)]), (b_4, [(Sl.v t20_1)]), (b_3, [(Sl.v x_20), (VI x_21), (Value.int .u64 x_22)]), (b_2, [(Sl.v nilSl), (Sl.v nilSl)]), (b_1, [(Sl.v nilSl)])] ∧
  eop P (appS 25 25 25 (Sl.v order10_1) (Sl.v t70_1)) h_21 fun rv_12 h_22 => ∃ t71_1 : Sl, rv_12 = (Sl.v t71_1) ∧ Vars h_22 [(b_6, [(Sl.v t35_1), (Sl.v t35_2)]), (b_5, [(Sl.v t20_3), (Sl.v t20_4)]), (b_4, [(Sl.v t20_1)]), (b_3, [(Sl.v x_20), (VI x_21), (Value.int .u64 x_22)]), (b_2, [(Sl.v nilSl), (Sl.v nilSl)]), (b_1, [(Sl.v nilSl)])] ∧
  J_2 t71_1 x_20 x_21 x_22 h_22)) ∧
  ((decide (0 < (t43_1.n : Int))) = false →
  callM P 106 #[(VP b_3 0), (Value.agg #[(Sl.v t20_1)])] h_14 fun rv_13 h_23 => ∃ x_23 : Sl, ∃ x_24 : Int, ∃ x_25 : Int, ∃ t69_2 : Int, rv_13 = (VI t69_2) ∧ Vars h_23 [(b_6, [(Sl.v t35_1), (Sl.v t35_2)]), (b_5, [(Sl.v t20_3), (Sl.v t20_4)]), (b_4, [(Sl.v t20_1)]), (b_3, [(Sl.v x_23), (VI x_24), (Value.int .u64 x_25)]), (b_2, [(Sl.v nilSl), (Sl.v nilSl)]), (b_1, [(Sl.v nilSl)])] ∧
  eop P (Instr.buildSlice 25 1 #[(0, (VI t69_2))]) h_23 fun rv_14 h_24 => ∃ t70_2 : Sl, rv_14 = (Sl.v t70_2) ∧ Vars h_24 [(b_6, [(Sl.v t35_1), (Sl.v t35_2)]), (b_5, [(Sl.v t20_3), (Sl.v t20_4)]), (b_4, [(Sl.v t20_1)]), (b_3, [(Sl.v x_23), (VI x_24), (Value.int .u64 x_25)]), (b_2, [(Sl.v nilSl), (Sl.v nilSl)]), (b_1, [(Sl.v nilSl)])] ∧
  eop P (appS 25 25 25 (Sl.v order10_1) (Sl.v t70_2)) h_24 fun rv_15 h_25 => ∃ t71_2 : Sl, rv_15 = (Sl.v t71_2) ∧ Vars h_25 [(b_6, [(Sl.v t35_1), (Sl.v t35_2)]), (b_5, [(Sl.v t20_3), (Sl.v t20_4)]), (b_4, [(Sl.v t20_1)]), (b_3, [(Sl.v x_23), (VI x_24), (Value.int .u64 x_25)]), (b_2, [(Sl.v nilSl), (Sl.v nilSl)]), (b_1, [(Sl.v nilSl)])] ∧
  J_2 t71_2 x_23 x_24 x_25 h_25)) ∧
  (t35_3 = false →
  ∀ (b_6 : Nat) (h_13 : Heap), h_11.size ≤ b_6 → Fr (In []) h_11 h_13 → Vars h_13 [(b_6, [(Sl.v t35_1), (Sl.v t35_2)]), (b_5, [(Sl.v t20_3), (Sl.v t20_4)]), (b_4, [(Sl.v t20_1)]), (b_3, [(Sl.v x_7), (VI x_8), (Value.int .u64 x_9)]), (b_2, [(Sl.v nilSl), (Sl.v nilSl)]), (b_1, [(Sl.v nilSl)])] →
  callM P 106 #[(VP b_3 0), (Value.agg #[(Sl.v t20_1)])] h_13 fun rv_16 h_26 => ∃ x_26 : Sl, ∃ x_27 : Int, ∃ x_28 : Int, ∃ t69_3 : Int, rv_16 = (VI t69_3) ∧ Vars h_26 [(b_6, [(Sl.v t35_1), (Sl.v t35_2)]), (b_5, [(Sl.v t20_3), (Sl.v t20_4)]), (b_4, [(Sl.v t20_1)]), (b_3, [(Sl.v x_26), (VI x_27), (Value.int .u64 x_28)]), (b_2, [(Sl.v nilSl), (Sl.v nilSl)]), (b_1, [(Sl.v nilSl)])] ∧
  eop P (Instr.buildSlice 25 1 #[(0, (VI t69_3))]) h_26 fun rv_17 h_27 => ∃ t70_3 : Sl, rv_17 = (Sl.v t70_3) ∧ Vars h_27 [(b_6, [(Sl.v t35_1), (Sl.v t35_2)]), (b_5, [(Sl.v t20_3), (Sl.v t20_4)]), (b_4, [(Sl.v t20_1)]), (b_3, [(Sl.v x_26), (VI x_27), (Value.int .u64 x_28)]), (b_2, [(Sl.v nilSl), (Sl.v nilSl)]), (b_1, [(Sl.v nilSl)])] ∧
  eop P (appS 25 25 25 (Sl.v order10_1) (Sl.v t70_3)) h_27 fun rv_18 h_28 => ∃ t71_3 : Sl, rv_18 = (Sl.v t71_3) ∧ Vars h_28 [(b_6, [(Sl.v t35_1), (Sl.v t35_2)]), (b_5, [(Sl.v t20_3), (Sl.v t20_4)]), (b_4, [(Sl.v t20_1)]), (b_3, [(Sl.v x_26), (VI x_27), (Value.int .u64 x_28)]), (b_2, [(Sl.v nilSl), (Sl.v nilSl)]), (b_1, [(Sl.v nilSl)])] ∧
  J_2 t71_3 x_26 x_27 x_28 h_28)) ∧
  ∀ (x_10 : Sl) (x_11 : Sl) (x_12 : Int) (x_13 : Int) (h_29 : Heap), J_2 x_10 x_11 x_12 x_13 h_29 → Vars h_29 [(b_5, [(Sl.v t20_3), (Sl.v t20_4)]), (b_4, [(Sl.v t20_1)]), (b_3, [(Sl.v x_11), (VI x_12), (Value.int .u64 x_13)]), (b_2, [(Sl.v nilSl), (Sl.v nilSl)]), (b_1, [(Sl.v nilSl)])] →
  ∃ m : Nat, m < n_1 ∧ J_1 m x_10 (w64 (k11_1 - 1)) x_11 x_12 x_13 h_29) ∧
  ((decide (0 < k11_1)) = false →
  ∀ (h_30 : Heap), Fr (In [b_1]) h_10 h_30 → Vars h_30 [(b_5, [(Sl.v t20_3), (Sl.v t20_4)]), (b_4, [(Sl.v t20_1)]), (b_3, [(Sl.v x_7), (VI x_8), (Value.int .u64 x_9)]), (b_2, [(Sl.v nilSl), (Sl.v nilSl)]), (b_1, [(Sl.v t20_1)])] →
  ∀ (h_31 : Heap), Fr (In [b_2]) h_30 h_31 → Vars h_31 [(b_5, [(Sl.v t20_3), (Sl.v t20_4)]), (b_4, [(Sl.v t20_1)]), (b_3, [(Sl.v x_7), (VI x_8), (Value.int .u64 x_9)]), (b_2, [(Sl.v t20_3), (Sl.v t20_4)]), (b_1, [(Sl.v t20_1)])] →
  K (Value.tuple #[(Value.agg #[(Sl.v t20_1)]), (VI t20_2), (Value.agg #[(Sl.v t20_3), (Sl.v t20_4)]), (Sl.v order10_1)]) h_31)
theorem v47 (code0_1 : Sl) (h : Heap) (K : Value → Heap → Prop) (H : u47 Try.prog code0_1 h K) : callM Try.prog 47 #[(Sl.v code0_1)] h K := by
  refine c47 (Sl.v code0_1) h K ?_
  unfold u47 at H
  unfold t47
  have hL : Vars h [] := .nil
  refine eop_alloc 32 zer32 rfl hL (fun b_1 h_1 hb_1 hf_1 hL_1 => ?_)
  refine eop_alloc 34 zer34 rfl hL_1 (fun b_2 h_2 hb_2 hf_2 hL_2 => ?_)
  refine pop.mk' (v := (Value.agg #[(Sl.v code0_1), (VI 0), (Value.int .u64 0)])) (fun w => by kernel_rfl) ?_
  refine eop_box 109 (Value.agg #[(Sl.v code0_1), (VI 0), (Value.int .u64 0)]) rfl hL_2 (fun b_3 h_3 hb_3 hf_3 hL_3 => ?_)
  have H := H b_1 b_2 b_3 h_3 (Nat.le_trans (Fr.size (Fr.r (In []) _)) hb_1) (Nat.le_trans (Fr.size (Fr.no' (Fr.r (In []) _) hf_1)) hb_2) (Nat.le_trans (Fr.size (Fr.no' (Fr.no' (Fr.r (In []) _) hf_1) hf_2)) hb_3) (Fr.no' (Fr.no' (Fr.no' (Fr.r (In []) _) hf_1) hf_2) hf_3) hL_3
  refine H.mono fun rv_1 h_4 H => ?_
  obtain ⟨x_1, x_2, x_3, t20_1, t20_2, t20_3, t20_4, rfl, hL_4, H⟩ := H
  refine pop_ext (v := (Value.agg #[(Sl.v t20_1)])) rfl ?_
  refine pop_ext (v := (VI t20_2)) rfl ?_
  refine pop_ext (v := (Value.agg #[(Sl.v t20_3), (Sl.v t20_4)])) rfl ?_
  refine eop_alloc 32 zer32 rfl hL_4 (fun b_4 h_5 hb_4 hf_4 hL_5 => ?_)
  refine eop_alloc 34 zer34 rfl hL_5 (fun b_5 h_6 hb_5 hf_5 hL_6 => ?_)
  refine uop_loc siz32 hL_6 1 rfl 0 [(Sl.v t20_1)] rfl rfl rfl (Nat.le_of_ble_eq_true rfl) (L' := [(b_5, [(Sl.v nilSl), (Sl.v nilSl)]), (b_4, [(Sl.v t20_1)]), (b_3, [(Sl.v x_1), (VI x_2), (Value.int .u64 x_3)]), (b_2, [(Sl.v nilSl), (Sl.v nilSl)]), (b_1, [(Sl.v nilSl)])]) rfl (fun h_7 hf_6 hL_7 => ?_)
  refine uop_loc siz34 hL_7 0 rfl 0 [(Sl.v t20_3), (Sl.v t20_4)] rfl rfl rfl (Nat.le_of_ble_eq_true rfl) (L' := [(b_5, [(Sl.v t20_3), (Sl.v t20_4)]), (b_4, [(Sl.v t20_1)]), (b_3, [(Sl.v x_1), (VI x_2), (Value.int .u64 x_3)]), (b_2, [(Sl.v nilSl), (Sl.v nilSl)]), (b_1, [(Sl.v nilSl)])]) rfl (fun h_8 hf_7 hL_8 => ?_)
  have H := H b_4 b_5 h_8 (Nat.le_trans (Fr.size (Fr.r (In []) _)) hb_4) (Nat.le_trans (Fr.size (Fr.no' (Fr.r (In []) _) hf_4)) hb_5) (Fr.new (Fr.new (Fr.no' (Fr.no' (Fr.r (In []) _) hf_4) hf_5) (Nat.le_trans (Fr.size (Fr.r (In []) _)) hb_4) hf_6) (Nat.le_trans (Fr.size (Fr.no' (Fr.r (In []) _) hf_4)) hb_5) hf_7) hL_8
  refine H.mono fun rv_2 h_9 H => ?_
  obtain ⟨x_4, x_5, x_6, t25_1, rfl, hL_9, H⟩ := H
  obtain ⟨J_1, ⟨n_2, h0_1⟩, HB_2⟩ := H
  refine loop_intro (J := fun (n : Nat) (vs : List Value) (h' : Heap) => ∃ order10_1 : Sl, ∃ k11_1 : Int, ∃ x_7 : Sl, ∃ x_8 : Int, ∃ x_9 : Int, vs = [(Sl.v order10_1), (VI k11_1)] ∧ J_1 n order10_1 k11_1 x_7 x_8 x_9 h' ∧ Vars h' [(b_5, [(Sl.v t20_3), (Sl.v t20_4)]), (b_4, [(Sl.v t20_1)]), (b_3, [(Sl.v x_7), (VI x_8), (Value.int .u64 x_9)]), (b_2, [(Sl.v nilSl), (Sl.v nilSl)]), (b_1, [(Sl.v nilSl)])]) n_2 ⟨nilSl, t25_1, x_4, x_5, x_6, rfl, h0_1, hL_9⟩ ?_
  intro I_1 mu_1 hI_1 junk_1 tv_2 tv_3 h_10 hi_1
  obtain ⟨n_1, ⟨order10_1, k11_1, x_7, x_8, x_9, hv, hJ_1, hL_10⟩, hn_1⟩ := hI_1 _ _ hi_1
  cases hv
  have H := HB_2 n_1 order10_1 k11_1 x_7 x_8 x_9 h_10 hJ_1 hL_10
  refine pop_gtr .i64 k11_1 0 ?_
  refine condM_b (fun hb_6 => ?_) (fun hb_6 => ?_)
  · have H := H.1 hb_6
    obtain ⟨J_2, H, HB_1⟩ := H
    refine ⟨fun (vs : List Value) (h' : Heap) => ∃ x_10 : Sl, ∃ x_11 : Sl, ∃ x_12 : Int, ∃ x_13 : Int, vs = [(Sl.v x_10)] ∧ J_2 x_10 x_11 x_12 x_13 h' ∧ Vars h' [(b_5, [(Sl.v t20_3), (Sl.v t20_4)]), (b_4, [(Sl.v t20_1)]), (b_3, [(Sl.v x_11), (VI x_12), (Value.int .u64 x_13)]), (b_2, [(Sl.v nilSl), (Sl.v nilSl)]), (b_1, [(Sl.v nilSl)])], ?_, ?_⟩
    · refine rop_locA agg32 hL_10 1 rfl 0 (vs := [(Sl.v t20_1)]) rfl rfl ?_
      refine rop_locA agg34 hL_10 0 rfl 0 (vs := [(Sl.v t20_3), (Sl.v t20_4)]) rfl rfl ?_
      refine H.mono fun rv_3 h_11 H => ?_
      obtain ⟨t35_1, t35_2, t35_3, rfl, hL_11, H⟩ := H
      refine pop_ext (v := (Value.agg #[(Sl.v t35_1), (Sl.v t35_2)])) rfl ?_
      refine pop_ext (v := (VB t35_3)) rfl ?_
      refine eop_alloc 34 zer34 rfl hL_11 (fun b_6 h_12 hb_7 hf_8 hL_12 => ?_)
      refine uop_loc siz34 hL_12 0 rfl 0 [(Sl.v t35_1), (Sl.v t35_2)] rfl rfl rfl (Nat.le_of_ble_eq_true rfl) (L' := [(b_6, [(Sl.v t35_1), (Sl.v t35_2)]), (b_5, [(Sl.v t20_3), (Sl.v t20_4)]), (b_4, [(Sl.v t20_1)]), (b_3, [(Sl.v x_7), (VI x_8), (Value.int .u64 x_9)]), (b_2, [(Sl.v nilSl), (Sl.v nilSl)]), (b_1, [(Sl.v nilSl)])]) rfl (fun h_13 hf_9 hL_13 => ?_)
      refine guardM_st (fun hb_8 => ?_) (fun hb_8 => ?_)
      · have H := H.1 hb_8
        refine guardM_y' hb_8 ?_
        refine pop_field 1 fld34_1 b_6 0 ?_
        refine guardM_y' hb_8 ?_
        refine rop_loc one25 hL_13 0 rfl 1 (v := (Sl.v t35_2)) rfl ?_
        refine guardM_y' hb_8 ?_
        have H := H b_6 h_13 (Nat.le_trans (Fr.size (Fr.r (In []) _)) hb_7) (Fr.new (Fr.no' (Fr.r (In []) _) hf_8) (Nat.le_trans (Fr.size (Fr.r (In []) _)) hb_7) hf_9) hL_13
        refine H.mono fun rv_4 h_14 H => ?_
        obtain ⟨t43_1, rfl, hL_14, H⟩ := H
        refine guardM_y' hb_8 ?_
        refine pop_len t43_1 _ _ sli25 ?_
        refine guardM_y' hb_8 ?_
        refine pop_gtr .i64 (t43_1.n : Int) 0 ?_
        refine pop_pickt' hb_8 ?_
        refine guardM_st (fun hb_9 => ?_) (fun hb_9 => ?_)
        · have H := H.1 hb_9
          refine guardM_y' hb_9 ?_
          refine H.mono fun rv_5 h_15 H => ?_
          obtain ⟨x_14, x_15, x_16, t49_1, rfl, hL_15, H⟩ := H
          refine guardM_y' hb_9 ?_
          refine pop_not t49_1 ?_
          refine pop_pickt' hb_9 ?_
          refine condM_b (fun hb_10 => ?_) (fun hb_10 => ?_)
          · have H := H.1 hb_10
            refine pop_field 1 fld34_1 b_6 0 ?_
            refine rop_loc one25 hL_15 0 rfl 1 (v := (Sl.v t35_2)) rfl ?_
            refine H.mono fun rv_6 h_16 H => ?_
            obtain ⟨t55_1, rfl, hL_16, H⟩ := H
            refine pop_len t55_1 _ _ sli25 ?_
            refine H.mono fun rv_7 h_17 H => ?_
            obtain ⟨x_17, x_18, x_19, t61_1, rfl, hL_17, H⟩ := H
            obtain ⟨hi_2, H⟩ := H
            refine pop_index sli25 siz3 .i64 t55_1 t61_1 hi_2 ?_
            obtain ⟨t63_1, hc_1, H⟩ := H
            refine rop_one one3 (VI t63_1) hc_1 ?_
            refine H.mono fun rv_8 h_18 H => ?_
            obtain ⟨t64_1, rfl, hL_18, H⟩ := H
            refine H.mono fun rv_9 h_19 H => ?_
            obtain ⟨t65_1, rfl, hL_19, H⟩ := H
            exact ⟨t65_1, x_17, x_18, x_19, rfl, H, Vars.pick hL_19 [1, 2, 3, 4, 5] rfl⟩
          · have H := H.2 hb_10
            refine rop_locA agg32 hL_15 2 rfl 0 (vs := [(Sl.v t20_1)]) rfl rfl ?_
            refine H.mono fun rv_10 h_20 H => ?_
            obtain ⟨x_20, x_21, x_22, t69_1, rfl, hL_20, H⟩ := H
            refine H.mono fun rv_11 h_21 H => ?_
            obtain ⟨t70_1, rfl, hL_21, H⟩ := H
            refine H.mono fun rv_12 h_22 H => ?_
            obtain ⟨t71_1, rfl, hL_22, H⟩ := H
            exact ⟨t71_1, x_20, x_21, x_22, rfl, H, Vars.pick hL_22 [1, 2, 3, 4, 5] rfl⟩
        · have H := H.2 hb_9
          refine guardM_n' hb_9 (by decide) ?_
          refine guardM_n' hb_9 (by decide) ?_
          refine pop_pickf' hb_9 ?_
          refine condM_f ?_
          refine rop_locA agg32 hL_14 2 rfl 0 (vs := [(Sl.v t20_1)]) rfl rfl ?_
          refine H.mono fun rv_13 h_23 H => ?_
          obtain ⟨x_23, x_24, x_25, t69_2, rfl, hL_23, H⟩ := H
          refine H.mono fun rv_14 h_24 H => ?_
          obtain ⟨t70_2, rfl, hL_24, H⟩ := H
          refine H.mono fun rv_15 h_25 H => ?_
          obtain ⟨t71_2, rfl, hL_25, H⟩ := H
          exact ⟨t71_2, x_23, x_24, x_25, rfl, H, Vars.pick hL_25 [1, 2, 3, 4, 5] rfl⟩
      · have H := H.2 hb_8
        refine guardM_n' hb_8 (by decide) ?_
        refine guardM_n' hb_8 (by decide) ?_
        refine guardM_n' hb_8 (by decide) ?_
        refine guardM_n' hb_8 (by decide) ?_
        refine guardM_n' hb_8 (by decide) ?_
        refine pop_pickf' hb_8 ?_
        refine guardM_n (by decide) ?_
        refine guardM_n (by decide) ?_
        refine guardM_n (by decide) ?_
        refine pop_pickf _ _ ?_
        refine condM_f ?_
        refine rop_locA agg32 hL_13 2 rfl 0 (vs := [(Sl.v t20_1)]) rfl rfl ?_
        have H := H b_6 h_13 (Nat.le_trans (Fr.size (Fr.r (In []) _)) hb_7) (Fr.new (Fr.no' (Fr.r (In []) _) hf_8) (Nat.le_trans (Fr.size (Fr.r (In []) _)) hb_7) hf_9) hL_13
        refine H.mono fun rv_16 h_26 H => ?_
        obtain ⟨x_26, x_27, x_28, t69_3, rfl, hL_26, H⟩ := H
        refine H.mono fun rv_17 h_27 H => ?_
        obtain ⟨t70_3, rfl, hL_27, H⟩ := H
        refine H.mono fun rv_18 h_28 H => ?_
        obtain ⟨t71_3, rfl, hL_28, H⟩ := H
        exact ⟨t71_3, x_26, x_27, x_28, rfl, H, Vars.pick hL_28 [1, 2, 3, 4, 5] rfl⟩
    intro junk_2 tv_1 h_29
    rintro ⟨x_10, x_11, x_12, x_13, hv, hJ_2, hL_29⟩
    cases hv
    have H := HB_1 x_10 x_11 x_12 x_13 h_29 hJ_2 hL_29
    refine pop_sub .i64 k11_1 1 ?_
    obtain ⟨m_1, hm_1, H⟩ := H
    exact hn_1 _ _ ⟨m_1, hm_1, x_10, (w64 (k11_1 - 1)), x_11, x_12, x_13, rfl, H, hL_29⟩
  · have H := H.2 hb_6
    refine rop_locA agg32 hL_10 1 rfl 0 (vs := [(Sl.v t20_1)]) rfl rfl ?_
    refine rop_locA agg34 hL_10 0 rfl 0 (vs := [(Sl.v t20_3), (Sl.v t20_4)]) rfl rfl ?_
    refine uop_loc siz32 hL_10 4 rfl 0 [(Sl.v t20_1)] rfl rfl rfl (Nat.le_of_ble_eq_true rfl) (L' := [(b_5, [(Sl.v t20_3), (Sl.v t20_4)]), (b_4, [(Sl.v t20_1)]), (b_3, [(Sl.v x_7), (VI x_8), (Value.int .u64 x_9)]), (b_2, [(Sl.v nilSl), (Sl.v nilSl)]), (b_1, [(Sl.v t20_1)])]) rfl (fun h_30 hf_10 hL_30 => ?_)
    have H := H  h_30  (Fr.old (Fr.r (In []) _) hf_10) hL_30
    refine ⟨?_, ?_⟩
    · exact still_locA agg34 hL_30 0 rfl 0 (vs := [(Sl.v t20_3), (Sl.v t20_4)]) rfl rfl
    refine uop_loc siz34 hL_30 3 rfl 0 [(Sl.v t20_3), (Sl.v t20_4)] rfl rfl rfl (Nat.le_of_ble_eq_true rfl) (L' := [(b_5, [(Sl.v t20_3), (Sl.v t20_4)]), (b_4, [(Sl.v t20_1)]), (b_3, [(Sl.v x_7), (VI x_8), (Value.int .u64 x_9)]), (b_2, [(Sl.v t20_3), (Sl.v t20_4)]), (b_1, [(Sl.v t20_1)])]) rfl (fun h_31 hf_11 hL_31 => ?_)
    refine rop_locA agg32 hL_31 4 rfl 0 (vs := [(Sl.v t20_1)]) rfl rfl ?_
    refine rop_locA agg34 hL_31 3 rfl 0 (vs := [(Sl.v t20_3), (Sl.v t20_4)]) rfl rfl ?_
    have H := H  h_31  (Fr.old (Fr.r (In []) _) hf_11) hL_31
    exact H

end Go.Proofs.Ytbhnecochpehdaa
