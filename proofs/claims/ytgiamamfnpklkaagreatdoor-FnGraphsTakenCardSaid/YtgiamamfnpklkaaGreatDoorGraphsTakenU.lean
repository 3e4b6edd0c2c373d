/-
  The same over typed data. Written by a program.
-/
import Derived.Test.YtgiamamfnpklkaaGreatDoorGraphsTakenT
import Derived.Test.YtgiamamfnpklkaaGreatDoorM2
set_option linter.unusedVariables false
set_option linter.unusedSimpArgs false
set_option maxRecDepth 100000
set_option maxHeartbeats 16000000
namespace Go.Proofs.YtgiamamfnpklkaaGreatDoor
open Go Go.Mx
theorem agg26 : aggC Tryz.prog 26 = some 1 := by kernel_rfl
theorem boo4 : Tryz.prog.underlying 4 = some .bool := by kernel_rfl
theorem fld26_0 : fieldC Tryz.prog 26 0 = some 0 := by kernel_rfl
theorem fld59_0 : fieldC Tryz.prog 59 0 = some 0 := by kernel_rfl
theorem fld59_1 : fieldC Tryz.prog 59 1 = some 1 := by kernel_rfl
theorem fld59_2 : fieldC Tryz.prog 59 2 = some 2 := by kernel_rfl
theorem one22 : oneC Tryz.prog 22 = true := by kernel_rfl
theorem one24 : oneC Tryz.prog 24 = true := by kernel_rfl
theorem one3 : oneC Tryz.prog 3 = true := by kernel_rfl
theorem one36 : oneC Tryz.prog 36 = true := by kernel_rfl
theorem one5 : oneC Tryz.prog 5 = true := by kernel_rfl
theorem one57 : oneC Tryz.prog 57 = true := by kernel_rfl
theorem one9 : oneC Tryz.prog 9 = true := by kernel_rfl
theorem siz24 : sizeC Tryz.prog 24 = some 1 := by kernel_rfl
theorem siz26 : sizeC Tryz.prog 26 = some 1 := by kernel_rfl
theorem siz3 : sizeC Tryz.prog 3 = some 1 := by kernel_rfl
theorem siz36 : sizeC Tryz.prog 36 = some 1 := by kernel_rfl
theorem siz5 : sizeC Tryz.prog 5 = some 1 := by kernel_rfl
theorem siz57 : sizeC Tryz.prog 57 = some 1 := by kernel_rfl
theorem siz9 : sizeC Tryz.prog 9 = some 1 := by kernel_rfl
theorem sli22 : Tryz.prog.underlying 22 = some (.slice 5) := by kernel_rfl
theorem sli24 : Tryz.prog.underlying 24 = some (.slice 36) := by kernel_rfl
theorem sli36 : Tryz.prog.underlying 36 = some (.slice 3) := by kernel_rfl
theorem sli48 : Tryz.prog.underlying 48 = some (.slice 9) := by kernel_rfl
theorem str9 : Tryz.prog.underlying 9 = some .string := by kernel_rfl
theorem zer26 : zeroC Tryz.prog 26 = some (Value.agg #[(Sl.v nilSl)]) := by kernel_rfl
theorem zer3 : zeroC Tryz.prog 3 = some (VI 0) := by kernel_rfl
/-! laws.FnGraphsTaken -/
def u3 (P : Program) (code0_1 : Sl) (more1_1 : Sl) (h : Heap) (K : Value → Heap → Prop) : Prop :=
  callM P 4 #[(Sl.v code0_1), (Sl.v more1_1)] h fun rv_1 h_1 => ∃ t54_1 : Bool, rv_1 = (VB t54_1) ∧ Vars h_1 [] ∧
  (t54_1 = true →
  K (VB true) h_1) ∧
  (t54_1 = false →
  callM P 5 #[(Sl.v code0_1)] h_1 fun rv_2 h_2 => ∃ t56_1 : Sl, rv_2 = (Value.agg #[(Sl.v t56_1)]) ∧ Vars h_2 [] ∧
  ∀ (b_1 : Nat) (h_4 : Heap), h_2.size ≤ b_1 → Fr (In []) h_2 h_4 → Vars h_4 [(b_1, [(Sl.v t56_1)])] →
  callM P 6 #[(Value.agg #[(Sl.v t56_1)])] h_4 fun rv_3 h_5 => ∃ t59_1 : ByteArray, ∃ t59_2 : Bool, rv_3 = (Value.tuple #[(VS t59_1), (VB t59_2)]) ∧ Vars h_5 [(b_1, [(Sl.v t56_1)])] ∧
  callM P 7 #[(Value.agg #[(Sl.v t56_1)])] h_5 fun rv_4 h_6 => ∃ t64_1 : ByteArray, ∃ t64_2 : Bool, rv_4 = (Value.tuple #[(VS t64_1), (VB t64_2)]) ∧ Vars h_6 [(b_1, [(Sl.v t56_1)])] ∧
  callM P 8 #[(Value.agg #[(Sl.v t56_1)])] h_6 fun rv_5 h_7 => ∃ t69_1 : Int, ∃ t69_2 : Bool, rv_5 = (Value.tuple #[(VI t69_1), (VB t69_2)]) ∧ Vars h_7 [(b_1, [(Sl.v t56_1)])] ∧
  callM P 9 #[(Value.agg #[(Sl.v t56_1)])] h_7 fun rv_6 h_8 => ∃ t74_1 : Int, ∃ t74_2 : Bool, rv_6 = (Value.tuple #[(VI t74_1), (VB t74_2)]) ∧ Vars h_8 [(b_1, [(Sl.v t56_1)])] ∧
  callM P 10 #[(Value.agg #[(Sl.v t56_1)])] h_8 fun rv_7 h_9 => ∃ t79_1 : Int, ∃ t79_2 : Bool, rv_7 = (Value.tuple #[(VI t79_1), (VB t79_2)]) ∧ Vars h_9 [(b_1, [(Sl.v t56_1)])] ∧
  callM P 11 #[(Value.agg #[(Sl.v t56_1)])] h_9 fun rv_8 h_10 => ∃ t84_1 : Int, ∃ t84_2 : Bool, rv_8 = (Value.tuple #[(VI t84_1), (VB t84_2)]) ∧ Vars h_10 [(b_1, [(Sl.v t56_1)])] ∧
  ((!(t59_2 == t64_2)) = true →
  K (VB false) h_10) ∧
  ((!(t59_2 == t64_2)) = false →
  ((!(ByteArray.toList t59_1 == ByteArray.toList t64_1)) = true →
  K (VB false) h_10) ∧
  ((!(ByteArray.toList t59_1 == ByteArray.toList t64_1)) = false →
  ((!(t69_2 == t74_2)) = true →
  K (VB false) h_10) ∧
  ((!(t69_2 == t74_2)) = false →
  ((!decide (t69_1 = t74_1)) = true →
  K (VB false) h_10) ∧
  ((!decide (t69_1 = t74_1)) = false →
  ((!(t79_2 == t84_2)) = true →
  K (VB false) h_10) ∧
  ((!(t79_2 == t84_2)) = false →
  ((!decide (t79_1 = t84_1)) = true →
  K (VB false) h_10) ∧
  ((!decide (t79_1 = t84_1)) = false →
  callM P 12 #[(Value.agg #[(Sl.v t56_1)])] h_10 fun rv_9 h_11 => ∃ t118_1 : Bool, rv_9 = (VB t118_1) ∧ Vars h_11 [(b_1, [(Sl.v t56_1)])] ∧
  ((!(t59_2 == t118_1)) = true →
  K (VB false) h_11) ∧
  ((!(t59_2 == t118_1)) = false →
  callM P 12 #[(Value.agg #[(Sl.v t56_1)])] h_11 fun rv_10 h_12 => ∃ t123_1 : Bool, rv_10 = (VB t123_1) ∧ Vars h_12 [(b_1, [(Sl.v t56_1)])] ∧
  callM P 13 #[(Value.agg #[(Sl.v t56_1)])] h_12 fun rv_11 h_13 => ∃ t125_1 : Bool, rv_11 = (VB t125_1) ∧ Vars h_13 [(b_1, [(Sl.v t56_1)])] ∧
  ((!(t123_1 == t125_1)) = true →
  K (VB false) h_13) ∧
  ((!(t123_1 == t125_1)) = false →
  ((!(t69_2 == t59_2)) = true →
  K (VB false) h_13) ∧
  ((!(t69_2 == t59_2)) = false →
  ((!(t79_2 == t59_2)) = true →
  K (VB false) h_13) ∧
  ((!(t79_2 == t59_2)) = false →
  ∃ J_1 : Heap → Prop, ((t59_2 = true →
  callM P 14 #[(VS t59_1)] h_13 fun rv_12 h_14 => ∃ t141_1 : Sl, ∃ t141_2 : Bool, rv_12 = (Value.tuple #[(Value.agg #[(Sl.v t141_1)]), (VB t141_2)]) ∧ Vars h_14 [(b_1, [(Sl.v t56_1)])] ∧
  ((!t141_2) = true →
  ∀ (b_2 : Nat) (h_16 : Heap), h_14.size ≤ b_2 → Fr (In []) h_14 h_16 → Vars h_16 [(b_2, [(Sl.v t141_1)]), (b_1, [(Sl.v t56_1)])] →
  K (VB false) h_16) ∧
  ((!t141_2) = false →
  ∀ (b_2 : Nat) (h_16 : Heap), h_14.size ≤ b_2 → Fr (In []) h_14 h_16 → Vars h_16 [(b_2, [(Sl.v t141_1)]), (b_1, [(Sl.v t56_1)])] →
  callM P 15 #[(Value.agg #[(Sl.v t141_1)]), (Value.agg #[(Sl.v t56_1)])] h_16 fun rv_13 h_17 => ∃ t149_1 : Bool, rv_13 = (VB t149_1) ∧ Vars h_17 [(b_2, [(Sl.v t141_1)]), (b_1, [(Sl.v t56_1)])] ∧
  ((!t149_1) = true →
  K (VB false) h_17) ∧
  ((!t149_1) = false →
  ((!decide (t79_1 = (t56_1.n : Int))) = true →
  K (VB false) h_17) ∧
  ((!decide (t79_1 = (t56_1.n : Int))) = false →
  ∃ J_2 : Nat → Int → Int → Bool → Int → Heap → Prop, (∃ n0 : Nat, J_2 n0 0 0 true 0 h_17) ∧
  ∀ (n_1 : Nat) (leave20_1 : Int) (come21_1 : Int) (balanced22_1 : Bool) (t162_1 : Int) (h_18 : Heap), J_2 n_1 leave20_1 come21_1 balanced22_1 t162_1 h_18 → Vars h_18 [(b_2, [(Sl.v t141_1)]), (b_1, [(Sl.v t56_1)])] →
  ((decide (t162_1 < (t56_1.n : Int))) = true →
  callM P 16 #[(Value.agg #[(Sl.v t56_1)]), (VI t162_1)] h_18 fun rv_14 h_19 => ∃ t168_1 : Sl, ∃ t168_2 : Bool, rv_14 = (Value.tuple #[(Sl.v t168_1), (VB t168_2)]) ∧ Vars h_19 [(b_2, [(Sl.v t141_1)]), (b_1, [(Sl.v t56_1)])] ∧
  callM P 17 #[(Value.agg #[(Sl.v t56_1)]), (VI t162_1)] h_19 fun rv_15 h_20 => ∃ t174_1 : Int, ∃ t174_2 : Bool, rv_15 = (Value.tuple #[(VI t174_1), (VB t174_2)]) ∧ Vars h_20 [(b_2, [(Sl.v t141_1)]), (b_1, [(Sl.v t56_1)])] ∧
  ((!t168_2) = true →
  K (VB false) h_20) ∧
  ((!t168_2) = false →
  ((!t174_2) = true →
  K (VB false) h_20) ∧
  ((!t174_2) = false →
  InB t56_1 t162_1 ∧
  ∃ t189_1 : Sl, hcell h_20 (Sl.at t56_1 t162_1 1) = some (Sl.v t189_1) ∧
  callM P 18 #[(Sl.v t168_1), (Sl.v t189_1)] h_20 fun rv_16 h_21 => ∃ t190_1 : Bool, rv_16 = (VB t190_1) ∧ Vars h_21 [(b_2, [(Sl.v t141_1)]), (b_1, [(Sl.v t56_1)])] ∧
  ((!t190_1) = true →
  K (VB false) h_21) ∧
  ((!t190_1) = false →
  (balanced22_1 = true →
  ∃ m : Nat, m < n_1 ∧ J_2 m (w64 (leave20_1 + (t168_1.n : Int))) (w64 (come21_1 + t174_1)) (decide ((t168_1.n : Int) = t174_1)) (w64 (t162_1 + 1)) h_21) ∧
  (balanced22_1 = false →
  ∃ m : Nat, m < n_1 ∧ J_2 m (w64 (leave20_1 + (t168_1.n : Int))) (w64 (come21_1 + t174_1)) false (w64 (t162_1 + 1)) h_21))))) ∧
  ((decide (t162_1 < (t56_1.n : Int))) = false →
  callM P 19 #[(Value.agg #[(Sl.v t56_1)])] h_18 fun rv_17 h_22 => ∃ t210_1 : Bool, ∃ t210_2 : Bool, rv_17 = (Value.tuple #[(VB t210_1), (VB t210_2)]) ∧ Vars h_22 [(b_2, [(Sl.v t141_1)]), (b_1, [(Sl.v t56_1)])] ∧
  ((!decide (leave20_1 = t69_1)) = true →
  K (VB false) h_22) ∧
  ((!decide (leave20_1 = t69_1)) = false →
  ((!decide (come21_1 = t69_1)) = true →
  K (VB false) h_22) ∧
  ((!decide (come21_1 = t69_1)) = false →
  ((!t210_2) = true →
  K (VB false) h_22) ∧
  ((!t210_2) = false →
  ((!(t210_1 == balanced22_1)) = true →
  K (VB false) h_22) ∧
  ((!(t210_1 == balanced22_1)) = false →
  callM P 20 #[(Value.agg #[(Sl.v t56_1)])] h_22 fun rv_18 h_23 => ∃ t232_1 : Sl, ∃ t232_2 : Bool, rv_18 = (Value.tuple #[(Value.agg #[(Sl.v t232_1)]), (VB t232_2)]) ∧ Vars h_23 [(b_2, [(Sl.v t141_1)]), (b_1, [(Sl.v t56_1)])] ∧
  ∀ (b_3 : Nat) (h_25 : Heap), h_23.size ≤ b_3 → Fr (In []) h_23 h_25 → Vars h_25 [(b_3, [(Sl.v t232_1)]), (b_2, [(Sl.v t141_1)]), (b_1, [(Sl.v t56_1)])] →
  callM P 21 #[(Value.agg #[(Sl.v t56_1)])] h_25 fun rv_19 h_26 => ∃ t237_1 : Sl, ∃ t237_2 : Bool, rv_19 = (Value.tuple #[(Value.agg #[(Sl.v t237_1)]), (VB t237_2)]) ∧ Vars h_26 [(b_3, [(Sl.v t232_1)]), (b_2, [(Sl.v t141_1)]), (b_1, [(Sl.v t56_1)])] ∧
  ((!(t232_2 == t237_2)) = true →
  ∀ (b_4 : Nat) (h_28 : Heap), h_26.size ≤ b_4 → Fr (In []) h_26 h_28 → Vars h_28 [(b_4, [(Sl.v t237_1)]), (b_3, [(Sl.v t232_1)]), (b_2, [(Sl.v t141_1)]), (b_1, [(Sl.v t56_1)])] →
  K (VB false) h_28) ∧
  ((!(t232_2 == t237_2)) = false →
  ∀ (b_4 : Nat) (h_28 : Heap), h_26.size ≤ b_4 → Fr (In []) h_26 h_28 → Vars h_28 [(b_4, [(Sl.v t237_1)]), (b_3, [(Sl.v t232_1)]), (b_2, [(Sl.v t141_1)]), (b_1, [(Sl.v t56_1)])] →
  callM P 15 #[(Value.agg #[(Sl.v t232_1)]), (Value.agg #[(Sl.v t237_1)])] h_28 fun rv_20 h_29 => ∃ t246_1 : Bool, rv_20 = (VB t246_1) ∧ Vars h_29 [(b_4, [(Sl.v t237_1)]), (b_3, [(Sl.v t232_1)]), (b_2, [(Sl.v t141_1)]), (b_1, [(Sl.v t56_1)])] ∧
  ((!t246_1) = true →
  K (VB false) h_29) ∧
  ((!t246_1) = false →
  (t232_2 = true →
  callM P 8 #[(Value.agg #[(Sl.v t232_1)])] h_29 fun rv_21 h_30 => ∃ t252_1 : Int, ∃ t252_2 : Bool, rv_21 = (Value.tuple #[(VI t252_1), (VB t252_2)]) ∧ Vars h_30 [(b_4, [(Sl.v t237_1)]), (b_3, [(Sl.v t232_1)]), (b_2, [(Sl.v t141_1)]), (b_1, [(Sl.v t56_1)])] ∧
  callM P 20 #[(Value.agg #[(Sl.v t232_1)])] h_30 fun rv_22 h_31 => ∃ t257_1 : Sl, ∃ t257_2 : Bool, rv_22 = (Value.tuple #[(Value.agg #[(Sl.v t257_1)]), (VB t257_2)]) ∧ Vars h_31 [(b_4, [(Sl.v t237_1)]), (b_3, [(Sl.v t232_1)]), (b_2, [(Sl.v t141_1)]), (b_1, [(Sl.v t56_1)])] ∧
  ∀ (b_5 : Nat) (h_33 : Heap), h_31.size ≤ b_5 → Fr (In []) h_31 h_33 → Vars h_33 [(b_5, [(Sl.v t257_1)]), (b_4, [(Sl.v t237_1)]), (b_3, [(Sl.v t232_1)]), (b_2, [(Sl.v t141_1)]), (b_1, [(Sl.v t56_1)])] →
  callM P 22 #[(Value.agg #[(Sl.v t56_1)])] h_33 fun rv_23 h_34 => ∃ t262_1 : Bool, ∃ t262_2 : Bool, rv_23 = (Value.tuple #[(VB t262_1), (VB t262_2)]) ∧ Vars h_34 [(b_5, [(Sl.v t257_1)]), (b_4, [(Sl.v t237_1)]), (b_3, [(Sl.v t232_1)]), (b_2, [(Sl.v t141_1)]), (b_1, [(Sl.v t56_1)])] ∧
  callM P 22 #[(Value.agg #[(Sl.v t232_1)])] h_34 fun rv_24 h_35 => ∃ t267_1 : Bool, ∃ t267_2 : Bool, rv_24 = (Value.tuple #[(VB t267_1), (VB t267_2)]) ∧ Vars h_35 [(b_5, [(Sl.v t257_1)]), (b_4, [(Sl.v t237_1)]), (b_3, [(Sl.v t232_1)]), (b_2, [(Sl.v t141_1)]), (b_1, [(Sl.v t56_1)])] ∧
  ((!t252_2) = true →
  K (VB false) h_35) ∧
  ((!t252_2) = false →
  ((!decide (t252_1 = t69_1)) = true →
  K (VB false) h_35) ∧
  ((!decide (t252_1 = t69_1)) = false →
  ((!t257_2) = true →
  K (VB false) h_35) ∧
  ((!t257_2) = false →
  ((!t262_2) = true →
  K (VB false) h_35) ∧
  ((!t262_2) = false →
  ((!t267_2) = true →
  K (VB false) h_35) ∧
  ((!t267_2) = false →
  ((!(t262_1 == t267_1)) = true →
  K (VB false) h_35) ∧
  ((!(t262_1 == t267_1)) = false →
  ((!decide ((t257_1.n : Int) = t79_1)) = true →
  K (VB false) h_35) ∧
  ((!decide ((t257_1.n : Int) = t79_1)) = false →
  ∃ J_3 : Nat → Int → Heap → Prop, (∃ n0 : Nat, J_3 n0 0 h_35) ∧
  ∀ (n_2 : Nat) (t304_1 : Int) (h_36 : Heap), J_3 n_2 t304_1 h_36 → Vars h_36 [(b_5, [(Sl.v t257_1)]), (b_4, [(Sl.v t237_1)]), (b_3, [(Sl.v t232_1)]), (b_2, [(Sl.v t141_1)]), (b_1, [(Sl.v t56_1)])] →
  ((decide (t304_1 < (t56_1.n : Int))) = true →
  callM P 17 #[(Value.agg #[(Sl.v t232_1)]), (VI t304_1)] h_36 fun rv_25 h_37 => ∃ t310_1 : Int, ∃ t310_2 : Bool, rv_25 = (Value.tuple #[(VI t310_1), (VB t310_2)]) ∧ Vars h_37 [(b_5, [(Sl.v t257_1)]), (b_4, [(Sl.v t237_1)]), (b_3, [(Sl.v t232_1)]), (b_2, [(Sl.v t141_1)]), (b_1, [(Sl.v t56_1)])] ∧
  ((!t310_2) = true →
  K (VB false) h_37) ∧
  ((!t310_2) = false →
  InB t56_1 t304_1 ∧
  ∃ t321_1 : Sl, hcell h_37 (Sl.at t56_1 t304_1 1) = some (Sl.v t321_1) ∧
  ((!decide (t310_1 = (t321_1.n : Int))) = true →
  K (VB false) h_37) ∧
  ((!decide (t310_1 = (t321_1.n : Int))) = false →
  InB t257_1 t304_1 ∧
  ∃ t330_1 : Sl, hcell h_37 (Sl.at t257_1 t304_1 1) = some (Sl.v t330_1) ∧
  InB t56_1 t304_1 ∧
  ∃ t336_1 : Sl, hcell h_37 (Sl.at t56_1 t304_1 1) = some (Sl.v t336_1) ∧
  ((!decide ((t330_1.n : Int) = (t336_1.n : Int))) = true →
  K (VB false) h_37) ∧
  ((!decide ((t330_1.n : Int) = (t336_1.n : Int))) = false →
  ∃ m : Nat, m < n_2 ∧ J_3 m (w64 (t304_1 + 1)) h_37)))) ∧
  ((decide (t304_1 < (t56_1.n : Int))) = false →
  J_1  h_36))))))))) ∧
  (t232_2 = false →
  J_1  h_29)))))))))))) ∧
  (t59_2 = false →
  J_1  h_13)) ∧
  ∀ (h_38 : Heap), J_1  h_38 → Vars h_38 [(b_1, [(Sl.v t56_1)])] →
  callM P 23 #[(Sl.v more1_1)] h_38 fun rv_26 h_39 => ∃ t342_1 : ByteArray, rv_26 = (VS t342_1) ∧ Vars h_39 [(b_1, [(Sl.v t56_1)])] ∧
  callM P 14 #[(VS t342_1)] h_39 fun rv_27 h_40 => ∃ t345_1 : Sl, ∃ t345_2 : Bool, rv_27 = (Value.tuple #[(Value.agg #[(Sl.v t345_1)]), (VB t345_2)]) ∧ Vars h_40 [(b_1, [(Sl.v t56_1)])] ∧
  ∀ (b_6 : Nat) (h_42 : Heap), h_40.size ≤ b_6 → Fr (In []) h_40 h_42 → Vars h_42 [(b_6, [(Sl.v t345_1)]), (b_1, [(Sl.v t56_1)])] →
  callM P 24 #[(VS t342_1)] h_42 fun rv_28 h_43 => ∃ t350_1 : Sl, ∃ t350_2 : Bool, rv_28 = (Value.tuple #[(Value.agg #[(Sl.v t350_1)]), (VB t350_2)]) ∧ Vars h_43 [(b_6, [(Sl.v t345_1)]), (b_1, [(Sl.v t56_1)])] ∧
  ((!(t345_2 == t350_2)) = true →
  ∀ (b_7 : Nat) (h_45 : Heap), h_43.size ≤ b_7 → Fr (In []) h_43 h_45 → Vars h_45 [(b_7, [(Sl.v t350_1)]), (b_6, [(Sl.v t345_1)]), (b_1, [(Sl.v t56_1)])] →
  K (VB false) h_45) ∧
  ((!(t345_2 == t350_2)) = false →
  ∀ (b_7 : Nat) (h_45 : Heap), h_43.size ≤ b_7 → Fr (In []) h_43 h_45 → Vars h_45 [(b_7, [(Sl.v t350_1)]), (b_6, [(Sl.v t345_1)]), (b_1, [(Sl.v t56_1)])] →
  callM P 15 #[(Value.agg #[(Sl.v t345_1)]), (Value.agg #[(Sl.v t350_1)])] h_45 fun rv_29 h_46 => ∃ t359_1 : Bool, rv_29 = (VB t359_1) ∧ Vars h_46 [(b_7, [(Sl.v t350_1)]), (b_6, [(Sl.v t345_1)]), (b_1, [(Sl.v t56_1)])] ∧
  ((!t359_1) = true →
  K (VB false) h_46) ∧
  ((!t359_1) = false →
  (t345_2 = true →
  callM P 6 #[(Value.agg #[(Sl.v t345_1)])] h_46 fun rv_30 h_47 => ∃ t365_1 : ByteArray, ∃ t365_2 : Bool, rv_30 = (Value.tuple #[(VS t365_1), (VB t365_2)]) ∧ Vars h_47 [(b_7, [(Sl.v t350_1)]), (b_6, [(Sl.v t345_1)]), (b_1, [(Sl.v t56_1)])] ∧
  (t365_2 = true →
  K (VB (ByteArray.toList t365_1 == ByteArray.toList t342_1)) h_47) ∧
  (t365_2 = false →
  K (VB false) h_47)) ∧
  (t345_2 = false →
  K (VB true) h_46))))))))))))))
theorem v3 (code0_1 : Sl) (more1_1 : Sl) (h : Heap) (K : Value → Heap → Prop) (H : u3 Tryz.prog code0_1 more1_1 h K) : callM Tryz.prog 3 #[(Sl.v code0_1), (Sl.v more1_1)] h K := by
  refine c3 (Sl.v code0_1) (Sl.v more1_1) h K ?_
  unfold u3 at H
  unfold t3
  have hL : Vars h [] := .nil
  refine H.mono fun rv_1 h_1 H => ?_
  obtain ⟨t54_1, rfl, hL_1, H⟩ := H
  refine condM_b (fun hb_1 => ?_) (fun hb_1 => ?_)
  ·have H := H.1 hb_1
   exact H
  have H := H.2 hb_1
  refine H.mono fun rv_2 h_2 H => ?_
  obtain ⟨t56_1, rfl, hL_2, H⟩ := H
  refine eop_alloc 26 zer26 rfl hL_2 (fun b_1 h_3 hb_2 hf_1 hL_3 => ?_)
  refine uop_loc siz26 hL_3 0 rfl 0 [(Sl.v t56_1)] rfl rfl rfl (Nat.le_of_ble_eq_true rfl) (L' := [(b_1, [(Sl.v t56_1)])]) rfl (fun h_4 hf_2 hL_4 => ?_)
  refine rop_locA agg26 hL_4 0 rfl 0 (vs := [(Sl.v t56_1)]) rfl rfl ?_
  have H := H b_1 h_4 (Nat.le_trans (Fr.size (Fr.r (In []) _)) hb_2) (Fr.new (Fr.no' (Fr.r (In []) _) hf_1) (Nat.le_trans (Fr.size (Fr.r (In []) _)) hb_2) hf_2) hL_4
  refine H.mono fun rv_3 h_5 H => ?_
  obtain ⟨t59_1, t59_2, rfl, hL_5, H⟩ := H
  refine pop_ext (v := (VS t59_1)) rfl ?_
  refine pop_ext (v := (VB t59_2)) rfl ?_
  refine rop_locA agg26 hL_5 0 rfl 0 (vs := [(Sl.v t56_1)]) rfl rfl ?_
  refine H.mono fun rv_4 h_6 H => ?_
  obtain ⟨t64_1, t64_2, rfl, hL_6, H⟩ := H
  refine pop_ext (v := (VS t64_1)) rfl ?_
  refine pop_ext (v := (VB t64_2)) rfl ?_
  refine rop_locA agg26 hL_6 0 rfl 0 (vs := [(Sl.v t56_1)]) rfl rfl ?_
  refine H.mono fun rv_5 h_7 H => ?_
  obtain ⟨t69_1, t69_2, rfl, hL_7, H⟩ := H
  refine pop_ext (v := (VI t69_1)) rfl ?_
  refine pop_ext (v := (VB t69_2)) rfl ?_
  refine rop_locA agg26 hL_7 0 rfl 0 (vs := [(Sl.v t56_1)]) rfl rfl ?_
  refine H.mono fun rv_6 h_8 H => ?_
  obtain ⟨t74_1, t74_2, rfl, hL_8, H⟩ := H
  refine pop_ext (v := (VI t74_1)) rfl ?_
  refine pop_ext (v := (VB t74_2)) rfl ?_
  refine rop_locA agg26 hL_8 0 rfl 0 (vs := [(Sl.v t56_1)]) rfl rfl ?_
  refine H.mono fun rv_7 h_9 H => ?_
  obtain ⟨t79_1, t79_2, rfl, hL_9, H⟩ := H
  refine pop_ext (v := (VI t79_1)) rfl ?_
  refine pop_ext (v := (VB t79_2)) rfl ?_
  refine rop_locA agg26 hL_9 0 rfl 0 (vs := [(Sl.v t56_1)]) rfl rfl ?_
  refine H.mono fun rv_8 h_10 H => ?_
  obtain ⟨t84_1, t84_2, rfl, hL_10, H⟩ := H
  refine pop_ext (v := (VI t84_1)) rfl ?_
  refine pop_ext (v := (VB t84_2)) rfl ?_
  refine pop_bne boo4 _ _ t59_2 t64_2 ?_
  refine guardM_sf (fun hb_3 => ?_) (fun hb_3 => ?_)
  rotate_left
  ·have H := H.1 hb_3
   refine guardM_n' hb_3 (by decide) ?_
   refine guardM_n' hb_3 (by decide) ?_
   refine pop_pickt' hb_3 ?_
   refine guardM_n (by decide) ?_
   refine guardM_n (by decide) ?_
   refine guardM_n (by decide) ?_
   refine pop_pickt _ _ ?_
   refine guardM_n (by decide) ?_
   refine guardM_n (by decide) ?_
   refine guardM_n (by decide) ?_
   refine pop_pickt _ _ ?_
   refine guardM_n (by decide) ?_
   refine guardM_n (by decide) ?_
   refine guardM_n (by decide) ?_
   refine pop_pickt _ _ ?_
   refine guardM_n (by decide) ?_
   refine guardM_n (by decide) ?_
   refine guardM_n (by decide) ?_
   refine pop_pickt _ _ ?_
   refine guardM_n (by decide) ?_
   refine guardM_n (by decide) ?_
   refine guardM_n (by decide) ?_
   refine guardM_n (by decide) ?_
   refine pop_pickt _ _ ?_
   refine guardM_n (by decide) ?_
   refine guardM_n (by decide) ?_
   refine guardM_n (by decide) ?_
   refine ⟨⟨_, rfl, fun h => absurd (h.symm.trans rfl) (by decide), fun _ => rfl⟩, ?_⟩
   refine guardM_n (by decide) ?_
   refine guardM_n (by decide) ?_
   refine pop_pickt _ _ ?_
   refine guardM_n (by decide) ?_
   refine guardM_n (by decide) ?_
   refine guardM_n (by decide) ?_
   refine pop_pickt _ _ ?_
   refine guardM_n (by decide) ?_
   refine guardM_n (by decide) ?_
   refine guardM_n (by decide) ?_
   refine pop_pickt _ _ ?_
   refine condM_t ?_
   exact H
  have H := H.2 hb_3
  refine guardM_y' hb_3 ?_
  refine guardM_y' hb_3 ?_
  refine pop_sne _ _ t59_1 t64_1 ?_
  refine pop_pickf' hb_3 ?_
  refine guardM_sf (fun hb_4 => ?_) (fun hb_4 => ?_)
  rotate_left
  ·have H := H.1 hb_4
   refine guardM_n' hb_4 (by decide) ?_
   refine guardM_n' hb_4 (by decide) ?_
   refine pop_pickt' hb_4 ?_
   refine guardM_n (by decide) ?_
   refine guardM_n (by decide) ?_
   refine guardM_n (by decide) ?_
   refine pop_pickt _ _ ?_
   refine guardM_n (by decide) ?_
   refine guardM_n (by decide) ?_
   refine guardM_n (by decide) ?_
   refine pop_pickt _ _ ?_
   refine guardM_n (by decide) ?_
   refine guardM_n (by decide) ?_
   refine guardM_n (by decide) ?_
   refine pop_pickt _ _ ?_
   refine guardM_n (by decide) ?_
   refine guardM_n (by decide) ?_
   refine guardM_n (by decide) ?_
   refine guardM_n (by decide) ?_
   refine pop_pickt _ _ ?_
   refine guardM_n (by decide) ?_
   refine guardM_n (by decide) ?_
   refine guardM_n (by decide) ?_
   refine ⟨⟨_, rfl, fun h => absurd (h.symm.trans rfl) (by decide), fun _ => rfl⟩, ?_⟩
   refine guardM_n (by decide) ?_
   refine guardM_n (by decide) ?_
   refine pop_pickt _ _ ?_
   refine guardM_n (by decide) ?_
   refine guardM_n (by decide) ?_
   refine guardM_n (by decide) ?_
   refine pop_pickt _ _ ?_
   refine guardM_n (by decide) ?_
   refine guardM_n (by decide) ?_
   refine guardM_n (by decide) ?_
   refine pop_pickt _ _ ?_
   refine condM_t ?_
   exact H
  have H := H.2 hb_4
  refine guardM_y' hb_4 ?_
  refine guardM_y' hb_4 ?_
  refine pop_bne boo4 _ _ t69_2 t74_2 ?_
  refine pop_pickf' hb_4 ?_
  refine guardM_sf (fun hb_5 => ?_) (fun hb_5 => ?_)
  rotate_left
  ·have H := H.1 hb_5
   refine guardM_n' hb_5 (by decide) ?_
   refine guardM_n' hb_5 (by decide) ?_
   refine pop_pickt' hb_5 ?_
   refine guardM_n (by decide) ?_
   refine guardM_n (by decide) ?_
   refine guardM_n (by decide) ?_
   refine pop_pickt _ _ ?_
   refine guardM_n (by decide) ?_
   refine guardM_n (by decide) ?_
   refine guardM_n (by decide) ?_
   refine pop_pickt _ _ ?_
   refine guardM_n (by decide) ?_
   refine guardM_n (by decide) ?_
   refine guardM_n (by decide) ?_
   refine guardM_n (by decide) ?_
   refine pop_pickt _ _ ?_
   refine guardM_n (by decide) ?_
   refine guardM_n (by decide) ?_
   refine guardM_n (by decide) ?_
   refine ⟨⟨_, rfl, fun h => absurd (h.symm.trans rfl) (by decide), fun _ => rfl⟩, ?_⟩
   refine guardM_n (by decide) ?_
   refine guardM_n (by decide) ?_
   refine pop_pickt _ _ ?_
   refine guardM_n (by decide) ?_
   refine guardM_n (by decide) ?_
   refine guardM_n (by decide) ?_
   refine pop_pickt _ _ ?_
   refine guardM_n (by decide) ?_
   refine guardM_n (by decide) ?_
   refine guardM_n (by decide) ?_
   refine pop_pickt _ _ ?_
   refine condM_t ?_
   exact H
  have H := H.2 hb_5
  refine guardM_y' hb_5 ?_
  refine guardM_y' hb_5 ?_
  refine pop_ine .i64 _ _ t69_1 t74_1 ?_
  refine pop_pickf' hb_5 ?_
  refine guardM_sf (fun hb_6 => ?_) (fun hb_6 => ?_)
  rotate_left
  ·have H := H.1 hb_6
   refine guardM_n' hb_6 (by decide) ?_
   refine guardM_n' hb_6 (by decide) ?_
   refine pop_pickt' hb_6 ?_
   refine guardM_n (by decide) ?_
   refine guardM_n (by decide) ?_
   refine guardM_n (by decide) ?_
   refine pop_pickt _ _ ?_
   refine guardM_n (by decide) ?_
   refine guardM_n (by decide) ?_
   refine guardM_n (by decide) ?_
   refine guardM_n (by decide) ?_
   refine pop_pickt _ _ ?_
   refine guardM_n (by decide) ?_
   refine guardM_n (by decide) ?_
   refine guardM_n (by decide) ?_
   refine ⟨⟨_, rfl, fun h => absurd (h.symm.trans rfl) (by decide), fun _ => rfl⟩, ?_⟩
   refine guardM_n (by decide) ?_
   refine guardM_n (by decide) ?_
   refine pop_pickt _ _ ?_
   refine guardM_n (by decide) ?_
   refine guardM_n (by decide) ?_
   refine guardM_n (by decide) ?_
   refine pop_pickt _ _ ?_
   refine guardM_n (by decide) ?_
   refine guardM_n (by decide) ?_
   refine guardM_n (by decide) ?_
   refine pop_pickt _ _ ?_
   refine condM_t ?_
   exact H
  have H := H.2 hb_6
  refine guardM_y' hb_6 ?_
  refine guardM_y' hb_6 ?_
  refine pop_bne boo4 _ _ t79_2 t84_2 ?_
  refine pop_pickf' hb_6 ?_
  refine guardM_sf (fun hb_7 => ?_) (fun hb_7 => ?_)
  rotate_left
  ·have H := H.1 hb_7
   refine guardM_n' hb_7 (by decide) ?_
   refine guardM_n' hb_7 (by decide) ?_
   refine pop_pickt' hb_7 ?_
   refine guardM_n (by decide) ?_
   refine guardM_n (by decide) ?_
   refine guardM_n (by decide) ?_
   refine guardM_n (by decide) ?_
   refine pop_pickt _ _ ?_
   refine guardM_n (by decide) ?_
   refine guardM_n (by decide) ?_
   refine guardM_n (by decide) ?_
   refine ⟨⟨_, rfl, fun h => absurd (h.symm.trans rfl) (by decide), fun _ => rfl⟩, ?_⟩
   refine guardM_n (by decide) ?_
   refine guardM_n (by decide) ?_
   refine pop_pickt _ _ ?_
   refine guardM_n (by decide) ?_
   refine guardM_n (by decide) ?_
   refine guardM_n (by decide) ?_
   refine pop_pickt _ _ ?_
   refine guardM_n (by decide) ?_
   refine guardM_n (by decide) ?_
   refine guardM_n (by decide) ?_
   refine pop_pickt _ _ ?_
   refine condM_t ?_
   exact H
  have H := H.2 hb_7
  refine guardM_y' hb_7 ?_
  refine guardM_y' hb_7 ?_
  refine pop_ine .i64 _ _ t79_1 t84_1 ?_
  refine pop_pickf' hb_7 ?_
  refine guardM_sf (fun hb_8 => ?_) (fun hb_8 => ?_)
  rotate_left
  ·have H := H.1 hb_8
   refine guardM_n' hb_8 (by decide) ?_
   refine guardM_n' hb_8 (by decide) ?_
   refine guardM_n' hb_8 (by decide) ?_
   refine pop_pickt' hb_8 ?_
   refine guardM_n (by decide) ?_
   refine guardM_n (by decide) ?_
   refine guardM_n (by decide) ?_
   refine ⟨⟨_, rfl, fun h => absurd (h.symm.trans rfl) (by decide), fun _ => rfl⟩, ?_⟩
   refine guardM_n (by decide) ?_
   refine guardM_n (by decide) ?_
   refine pop_pickt _ _ ?_
   refine guardM_n (by decide) ?_
   refine guardM_n (by decide) ?_
   refine guardM_n (by decide) ?_
   refine pop_pickt _ _ ?_
   refine guardM_n (by decide) ?_
   refine guardM_n (by decide) ?_
   refine guardM_n (by decide) ?_
   refine pop_pickt _ _ ?_
   refine condM_t ?_
   exact H
  have H := H.2 hb_8
  refine guardM_y' hb_8 ?_
  refine rop_locA agg26 hL_10 0 rfl 0 (vs := [(Sl.v t56_1)]) rfl rfl ?_
  refine guardM_y' hb_8 ?_
  refine H.mono fun rv_9 h_11 H => ?_
  obtain ⟨t118_1, rfl, hL_11, H⟩ := H
  refine guardM_y' hb_8 ?_
  refine pop_bne boo4 _ _ t59_2 t118_1 ?_
  refine pop_pickf' hb_8 ?_
  refine guardM_sf (fun hb_9 => ?_) (fun hb_9 => ?_)
  rotate_left
  ·have H := H.1 hb_9
   refine guardM_n' hb_9 (by decide) ?_
   refine guardM_n' hb_9 (by decide) ?_
   refine ⟨⟨_, rfl, fun h => absurd (h.symm.trans hb_9) (by decide), fun _ => rfl⟩, ?_⟩
   refine guardM_n' hb_9 (by decide) ?_
   refine guardM_n' hb_9 (by decide) ?_
   refine pop_pickt' hb_9 ?_
   refine guardM_n (by decide) ?_
   refine guardM_n (by decide) ?_
   refine guardM_n (by decide) ?_
   refine pop_pickt _ _ ?_
   refine guardM_n (by decide) ?_
   refine guardM_n (by decide) ?_
   refine guardM_n (by decide) ?_
   refine pop_pickt _ _ ?_
   refine condM_t ?_
   exact H
  have H := H.2 hb_9
  refine rop_locA agg26 hL_11 0 rfl 0 (vs := [(Sl.v t56_1)]) rfl rfl ?_
  refine guardM_y' hb_9 ?_
  refine rop_locA agg26 hL_11 0 rfl 0 (vs := [(Sl.v t56_1)]) rfl rfl ?_
  refine guardM_y' hb_9 ?_
  refine H.mono fun rv_10 h_12 H => ?_
  obtain ⟨t123_1, rfl, hL_12, H⟩ := H
  refine ⟨⟨_, rfl, fun _ => ?_, fun h => absurd hb_9 h⟩, ?_⟩
  ·exact still_locA agg26 hL_12 0 rfl 0 (vs := [(Sl.v t56_1)]) rfl rfl
  refine guardM_y' hb_9 ?_
  refine H.mono fun rv_11 h_13 H => ?_
  obtain ⟨t125_1, rfl, hL_13, H⟩ := H
  refine guardM_y' hb_9 ?_
  refine pop_bne boo4 _ _ t123_1 t125_1 ?_
  refine pop_pickf' hb_9 ?_
  refine guardM_sf (fun hb_10 => ?_) (fun hb_10 => ?_)
  rotate_left
  ·have H := H.1 hb_10
   refine guardM_n' hb_10 (by decide) ?_
   refine guardM_n' hb_10 (by decide) ?_
   refine pop_pickt' hb_10 ?_
   refine guardM_n (by decide) ?_
   refine guardM_n (by decide) ?_
   refine guardM_n (by decide) ?_
   refine pop_pickt _ _ ?_
   refine condM_t ?_
   exact H
  have H := H.2 hb_10
  refine guardM_y' hb_10 ?_
  refine guardM_y' hb_10 ?_
  refine pop_bne boo4 _ _ t69_2 t59_2 ?_
  refine pop_pickf' hb_10 ?_
  refine guardM_sf (fun hb_11 => ?_) (fun hb_11 => ?_)
  rotate_left
  ·have H := H.1 hb_11
   refine guardM_n' hb_11 (by decide) ?_
   refine guardM_n' hb_11 (by decide) ?_
   refine pop_pickt' hb_11 ?_
   refine condM_t ?_
   exact H
  have H := H.2 hb_11
  refine guardM_y' hb_11 ?_
  refine guardM_y' hb_11 ?_
  refine pop_bne boo4 _ _ t79_2 t59_2 ?_
  refine pop_pickf' hb_11 ?_
  refine condM_b (fun hb_12 => ?_) (fun hb_12 => ?_)
  ·have H := H.1 hb_12
   exact H
  have H := H.2 hb_12
  obtain ⟨J_1, H, HB_3⟩ := H
  refine ⟨fun (vs : List Value) (h' : Heap) => vs = [] ∧ J_1  h' ∧ Vars h' [(b_1, [(Sl.v t56_1)])], ?_, ?_⟩
  ·refine condM_b (fun hb_13 => ?_) (fun hb_13 => ?_)
   rotate_left
   ·have H := H.2 hb_13
    exact ⟨rfl, H, hL_13⟩
   have H := H.1 hb_13
   refine H.mono fun rv_12 h_14 H => ?_
   obtain ⟨t141_1, t141_2, rfl, hL_14, H⟩ := H
   refine pop_ext (v := (Value.agg #[(Sl.v t141_1)])) rfl ?_
   refine pop_ext (v := (VB t141_2)) rfl ?_
   refine eop_alloc 26 zer26 rfl hL_14 (fun b_2 h_15 hb_14 hf_3 hL_15 => ?_)
   refine uop_loc siz26 hL_15 0 rfl 0 [(Sl.v t141_1)] rfl rfl rfl (Nat.le_of_ble_eq_true rfl) (L' := [(b_2, [(Sl.v t141_1)]), (b_1, [(Sl.v t56_1)])]) rfl (fun h_16 hf_4 hL_16 => ?_)
   refine pop_not t141_2 ?_
   refine guardM_sf (fun hb_15 => ?_) (fun hb_15 => ?_)
   rotate_left
   ·have H := H.1 hb_15
    refine guardM_n' hb_15 (by decide) ?_
    refine guardM_n' hb_15 (by decide) ?_
    refine guardM_n' hb_15 (by decide) ?_
    refine pop_pickt' hb_15 ?_
    refine guardM_n (by decide) ?_
    refine guardM_n (by decide) ?_
    refine guardM_n (by decide) ?_
    refine guardM_n (by decide) ?_
    refine guardM_n (by decide) ?_
    refine pop_pickt _ _ ?_
    refine condM_t ?_
    have H := H b_2 h_16 (Nat.le_trans (Fr.size (Fr.r (In []) _)) hb_14) (Fr.new (Fr.no' (Fr.r (In []) _) hf_3) (Nat.le_trans (Fr.size (Fr.r (In []) _)) hb_14) hf_4) hL_16
    exact H
   have H := H.2 hb_15
   refine rop_locA agg26 hL_16 0 rfl 0 (vs := [(Sl.v t141_1)]) rfl rfl ?_
   refine guardM_y' hb_15 ?_
   refine rop_locA agg26 hL_16 1 rfl 0 (vs := [(Sl.v t56_1)]) rfl rfl ?_
   refine guardM_y' hb_15 ?_
   have H := H b_2 h_16 (Nat.le_trans (Fr.size (Fr.r (In []) _)) hb_14) (Fr.new (Fr.no' (Fr.r (In []) _) hf_3) (Nat.le_trans (Fr.size (Fr.r (In []) _)) hb_14) hf_4) hL_16
   refine H.mono fun rv_13 h_17 H => ?_
   obtain ⟨t149_1, rfl, hL_17, H⟩ := H
   refine guardM_y' hb_15 ?_
   refine pop_not t149_1 ?_
   refine pop_pickf' hb_15 ?_
   refine guardM_sf (fun hb_16 => ?_) (fun hb_16 => ?_)
   rotate_left
   ·have H := H.1 hb_16
    refine guardM_n' hb_16 (by decide) ?_
    refine guardM_n' hb_16 (by decide) ?_
    refine guardM_n' hb_16 (by decide) ?_
    refine guardM_n' hb_16 (by decide) ?_
    refine pop_pickt' hb_16 ?_
    refine condM_t ?_
    exact H
   have H := H.2 hb_16
   refine guardM_y' hb_16 ?_
   refine pop_field 0 fld26_0 b_1 0 ?_
   refine guardM_y' hb_16 ?_
   refine rop_loc one24 hL_17 1 rfl 0 (v := (Sl.v t56_1)) rfl ?_
   refine guardM_y' hb_16 ?_
   refine pop_len t56_1 _ _ sli24 ?_
   refine guardM_y' hb_16 ?_
   refine pop_ine .i64 _ _ t79_1 (t56_1.n : Int) ?_
   refine pop_pickf' hb_16 ?_
   refine condM_b (fun hb_17 => ?_) (fun hb_17 => ?_)
   ·have H := H.1 hb_17
    exact H
   have H := H.2 hb_17
   refine pop_field 0 fld26_0 b_1 0 ?_
   refine rop_loc one24 hL_17 1 rfl 0 (v := (Sl.v t56_1)) rfl ?_
   refine pop_len t56_1 _ _ sli24 ?_
   obtain ⟨J_2, ⟨n_4, h0_2⟩, HB_2⟩ := H
   refine loop_intro (J := fun (n : Nat) (vs : List Value) (h' : Heap) => ∃ leave20_1 : Int, ∃ come21_1 : Int, ∃ balanced22_1 : Bool, ∃ t162_1 : Int, vs = [(VI leave20_1), (VI come21_1), (VB balanced22_1), (VI t162_1)] ∧ J_2 n leave20_1 come21_1 balanced22_1 t162_1 h' ∧ Vars h' [(b_2, [(Sl.v t141_1)]), (b_1, [(Sl.v t56_1)])]) n_4 ⟨0, 0, true, 0, rfl, h0_2, hL_17⟩ ?_
   intro I_2 mu_2 hI_2 junk_1 tv_2 tv_3 tv_4 tv_5 h_18 hi_1
   obtain ⟨n_1, ⟨leave20_1, come21_1, balanced22_1, t162_1, hv, hJ_1, hL_18⟩, hn_1⟩ := hI_2 _ _ hi_1
   cases hv
   have H := HB_2 n_1 leave20_1 come21_1 balanced22_1 t162_1 h_18 hJ_1 hL_18
   refine pop_lss .i64 t162_1 (t56_1.n : Int) ?_
   refine condM_b (fun hb_18 => ?_) (fun hb_18 => ?_)
   ·have H := H.1 hb_18
    refine rop_locA agg26 hL_18 1 rfl 0 (vs := [(Sl.v t56_1)]) rfl rfl ?_
    refine H.mono fun rv_14 h_19 H => ?_
    obtain ⟨t168_1, t168_2, rfl, hL_19, H⟩ := H
    refine pop_ext (v := (Sl.v t168_1)) rfl ?_
    refine pop_ext (v := (VB t168_2)) rfl ?_
    refine rop_locA agg26 hL_19 1 rfl 0 (vs := [(Sl.v t56_1)]) rfl rfl ?_
    refine H.mono fun rv_15 h_20 H => ?_
    obtain ⟨t174_1, t174_2, rfl, hL_20, H⟩ := H
    refine pop_ext (v := (VI t174_1)) rfl ?_
    refine pop_ext (v := (VB t174_2)) rfl ?_
    refine pop_not t168_2 ?_
    refine guardM_sf (fun hb_19 => ?_) (fun hb_19 => ?_)
    rotate_left
    ·have H := H.1 hb_19
     refine guardM_n' hb_19 (by decide) ?_
     refine pop_pickt' hb_19 ?_
     refine guardM_n (by decide) ?_
     refine guardM_n (by decide) ?_
     refine guardM_n (by decide) ?_
     refine guardM_n (by decide) ?_
     refine guardM_n (by decide) ?_
     refine guardM_n (by decide) ?_
     refine guardM_n (by decide) ?_
     refine guardM_n (by decide) ?_
     refine pop_pickt _ _ ?_
     refine condM_t ?_
     exact H
    have H := H.2 hb_19
    refine guardM_y' hb_19 ?_
    refine pop_not t174_2 ?_
    refine pop_pickf' hb_19 ?_
    refine guardM_sf (fun hb_20 => ?_) (fun hb_20 => ?_)
    rotate_left
    ·have H := H.1 hb_20
     refine guardM_n' hb_20 (by decide) ?_
     refine guardM_n' hb_20 (by decide) ?_
     refine guardM_n' hb_20 (by decide) ?_
     refine guardM_n' hb_20 (by decide) ?_
     refine guardM_n' hb_20 (by decide) ?_
     refine guardM_n' hb_20 (by decide) ?_
     refine guardM_n' hb_20 (by decide) ?_
     refine pop_pickt' hb_20 ?_
     refine condM_t ?_
     exact H
    have H := H.2 hb_20
    refine guardM_y' hb_20 ?_
    refine pop_field 0 fld26_0 b_1 0 ?_
    refine guardM_y' hb_20 ?_
    refine rop_loc one24 hL_20 1 rfl 0 (v := (Sl.v t56_1)) rfl ?_
    refine guardM_y' hb_20 ?_
    refine guardM_y' hb_20 ?_
    obtain ⟨hi_2, H⟩ := H
    refine pop_index sli24 siz36 .i64 t56_1 t162_1 hi_2 ?_
    refine guardM_y' hb_20 ?_
    obtain ⟨t189_1, hc_1, H⟩ := H
    refine rop_one one36 (Sl.v t189_1) hc_1 ?_
    refine guardM_y' hb_20 ?_
    refine H.mono fun rv_16 h_21 H => ?_
    obtain ⟨t190_1, rfl, hL_21, H⟩ := H
    refine guardM_y' hb_20 ?_
    refine pop_not t190_1 ?_
    refine pop_pickf' hb_20 ?_
    refine condM_b (fun hb_21 => ?_) (fun hb_21 => ?_)
    ·have H := H.1 hb_21
     exact H
    have H := H.2 hb_21
    refine pop_len t168_1 _ _ sli36 ?_
    refine pop_add .i64 leave20_1 (t168_1.n : Int) ?_
    refine pop_add .i64 come21_1 t174_1 ?_
    refine guardM_st (fun hb_22 => ?_) (fun hb_22 => ?_)
    rotate_left
    ·have H := H.2 hb_22
     refine guardM_n' hb_22 (by decide) ?_
     refine guardM_n' hb_22 (by decide) ?_
     refine guardM_n' hb_22 (by decide) ?_
     refine pop_pickf' hb_22 ?_
     refine pop_add .i64 t162_1 1 ?_
     obtain ⟨m_2, hm_2, H⟩ := H
     exact hn_1 _ _ ⟨m_2, hm_2, (w64 (leave20_1 + (t168_1.n : Int))), (w64 (come21_1 + t174_1)), false, (w64 (t162_1 + 1)), rfl, H, hL_21⟩
    have H := H.1 hb_22
    refine guardM_y' hb_22 ?_
    refine pop_len t168_1 _ _ sli36 ?_
    refine guardM_y' hb_22 ?_
    refine guardM_y' hb_22 ?_
    refine pop_ieq .i64 _ _ (t168_1.n : Int) t174_1 ?_
    refine pop_pickt' hb_22 ?_
    refine pop_add .i64 t162_1 1 ?_
    obtain ⟨m_1, hm_1, H⟩ := H
    exact hn_1 _ _ ⟨m_1, hm_1, (w64 (leave20_1 + (t168_1.n : Int))), (w64 (come21_1 + t174_1)), (decide ((t168_1.n : Int) = t174_1)), (w64 (t162_1 + 1)), rfl, H, hL_21⟩
   have H := H.2 hb_18
   refine rop_locA agg26 hL_18 1 rfl 0 (vs := [(Sl.v t56_1)]) rfl rfl ?_
   refine H.mono fun rv_17 h_22 H => ?_
   obtain ⟨t210_1, t210_2, rfl, hL_22, H⟩ := H
   refine pop_ext (v := (VB t210_1)) rfl ?_
   refine pop_ext (v := (VB t210_2)) rfl ?_
   refine pop_ine .i64 _ _ leave20_1 t69_1 ?_
   refine guardM_sf (fun hb_23 => ?_) (fun hb_23 => ?_)
   rotate_left
   ·have H := H.1 hb_23
    refine guardM_n' hb_23 (by decide) ?_
    refine guardM_n' hb_23 (by decide) ?_
    refine pop_pickt' hb_23 ?_
    refine guardM_n (by decide) ?_
    refine guardM_n (by decide) ?_
    refine pop_pickt _ _ ?_
    refine guardM_n (by decide) ?_
    refine guardM_n (by decide) ?_
    refine guardM_n (by decide) ?_
    refine pop_pickt _ _ ?_
    refine condM_t ?_
    exact H
   have H := H.2 hb_23
   refine guardM_y' hb_23 ?_
   refine guardM_y' hb_23 ?_
   refine pop_ine .i64 _ _ come21_1 t69_1 ?_
   refine pop_pickf' hb_23 ?_
   refine guardM_sf (fun hb_24 => ?_) (fun hb_24 => ?_)
   rotate_left
   ·have H := H.1 hb_24
    refine guardM_n' hb_24 (by decide) ?_
    refine pop_pickt' hb_24 ?_
    refine guardM_n (by decide) ?_
    refine guardM_n (by decide) ?_
    refine guardM_n (by decide) ?_
    refine pop_pickt _ _ ?_
    refine condM_t ?_
    exact H
   have H := H.2 hb_24
   refine guardM_y' hb_24 ?_
   refine pop_not t210_2 ?_
   refine pop_pickf' hb_24 ?_
   refine guardM_sf (fun hb_25 => ?_) (fun hb_25 => ?_)
   rotate_left
   ·have H := H.1 hb_25
    refine guardM_n' hb_25 (by decide) ?_
    refine guardM_n' hb_25 (by decide) ?_
    refine pop_pickt' hb_25 ?_
    refine condM_t ?_
    exact H
   have H := H.2 hb_25
   refine guardM_y' hb_25 ?_
   refine guardM_y' hb_25 ?_
   refine pop_bne boo4 _ _ t210_1 balanced22_1 ?_
   refine pop_pickf' hb_25 ?_
   refine condM_b (fun hb_26 => ?_) (fun hb_26 => ?_)
   ·have H := H.1 hb_26
    exact H
   have H := H.2 hb_26
   refine rop_locA agg26 hL_22 1 rfl 0 (vs := [(Sl.v t56_1)]) rfl rfl ?_
   refine H.mono fun rv_18 h_23 H => ?_
   obtain ⟨t232_1, t232_2, rfl, hL_23, H⟩ := H
   refine pop_ext (v := (Value.agg #[(Sl.v t232_1)])) rfl ?_
   refine pop_ext (v := (VB t232_2)) rfl ?_
   refine eop_alloc 26 zer26 rfl hL_23 (fun b_3 h_24 hb_27 hf_5 hL_24 => ?_)
   refine uop_loc siz26 hL_24 0 rfl 0 [(Sl.v t232_1)] rfl rfl rfl (Nat.le_of_ble_eq_true rfl) (L' := [(b_3, [(Sl.v t232_1)]), (b_2, [(Sl.v t141_1)]), (b_1, [(Sl.v t56_1)])]) rfl (fun h_25 hf_6 hL_25 => ?_)
   refine rop_locA agg26 hL_25 2 rfl 0 (vs := [(Sl.v t56_1)]) rfl rfl ?_
   have H := H b_3 h_25 (Nat.le_trans (Fr.size (Fr.r (In []) _)) hb_27) (Fr.new (Fr.no' (Fr.r (In []) _) hf_5) (Nat.le_trans (Fr.size (Fr.r (In []) _)) hb_27) hf_6) hL_25
   refine H.mono fun rv_19 h_26 H => ?_
   obtain ⟨t237_1, t237_2, rfl, hL_26, H⟩ := H
   refine pop_ext (v := (Value.agg #[(Sl.v t237_1)])) rfl ?_
   refine pop_ext (v := (VB t237_2)) rfl ?_
   refine eop_alloc 26 zer26 rfl hL_26 (fun b_4 h_27 hb_28 hf_7 hL_27 => ?_)
   refine uop_loc siz26 hL_27 0 rfl 0 [(Sl.v t237_1)] rfl rfl rfl (Nat.le_of_ble_eq_true rfl) (L' := [(b_4, [(Sl.v t237_1)]), (b_3, [(Sl.v t232_1)]), (b_2, [(Sl.v t141_1)]), (b_1, [(Sl.v t56_1)])]) rfl (fun h_28 hf_8 hL_28 => ?_)
   refine pop_bne boo4 _ _ t232_2 t237_2 ?_
   refine guardM_sf (fun hb_29 => ?_) (fun hb_29 => ?_)
   rotate_left
   ·have H := H.1 hb_29
    refine guardM_n' hb_29 (by decide) ?_
    refine guardM_n' hb_29 (by decide) ?_
    refine guardM_n' hb_29 (by decide) ?_
    refine pop_pickt' hb_29 ?_
    refine condM_t ?_
    have H := H b_4 h_28 (Nat.le_trans (Fr.size (Fr.r (In []) _)) hb_28) (Fr.new (Fr.no' (Fr.r (In []) _) hf_7) (Nat.le_trans (Fr.size (Fr.r (In []) _)) hb_28) hf_8) hL_28
    exact H
   have H := H.2 hb_29
   refine rop_locA agg26 hL_28 1 rfl 0 (vs := [(Sl.v t232_1)]) rfl rfl ?_
   refine guardM_y' hb_29 ?_
   refine rop_locA agg26 hL_28 0 rfl 0 (vs := [(Sl.v t237_1)]) rfl rfl ?_
   refine guardM_y' hb_29 ?_
   have H := H b_4 h_28 (Nat.le_trans (Fr.size (Fr.r (In []) _)) hb_28) (Fr.new (Fr.no' (Fr.r (In []) _) hf_7) (Nat.le_trans (Fr.size (Fr.r (In []) _)) hb_28) hf_8) hL_28
   refine H.mono fun rv_20 h_29 H => ?_
   obtain ⟨t246_1, rfl, hL_29, H⟩ := H
   refine guardM_y' hb_29 ?_
   refine pop_not t246_1 ?_
   refine pop_pickf' hb_29 ?_
   refine condM_b (fun hb_30 => ?_) (fun hb_30 => ?_)
   ·have H := H.1 hb_30
    exact H
   have H := H.2 hb_30
   refine condM_b (fun hb_31 => ?_) (fun hb_31 => ?_)
   rotate_left
   ·have H := H.2 hb_31
    exact ⟨rfl, H, Vars.pick hL_29 [3] rfl⟩
   have H := H.1 hb_31
   refine rop_locA agg26 hL_29 1 rfl 0 (vs := [(Sl.v t232_1)]) rfl rfl ?_
   refine H.mono fun rv_21 h_30 H => ?_
   obtain ⟨t252_1, t252_2, rfl, hL_30, H⟩ := H
   refine pop_ext (v := (VI t252_1)) rfl ?_
   refine pop_ext (v := (VB t252_2)) rfl ?_
   refine rop_locA agg26 hL_30 1 rfl 0 (vs := [(Sl.v t232_1)]) rfl rfl ?_
   refine H.mono fun rv_22 h_31 H => ?_
   obtain ⟨t257_1, t257_2, rfl, hL_31, H⟩ := H
   refine pop_ext (v := (Value.agg #[(Sl.v t257_1)])) rfl ?_
   refine pop_ext (v := (VB t257_2)) rfl ?_
   refine eop_alloc 26 zer26 rfl hL_31 (fun b_5 h_32 hb_32 hf_9 hL_32 => ?_)
   refine uop_loc siz26 hL_32 0 rfl 0 [(Sl.v t257_1)] rfl rfl rfl (Nat.le_of_ble_eq_true rfl) (L' := [(b_5, [(Sl.v t257_1)]), (b_4, [(Sl.v t237_1)]), (b_3, [(Sl.v t232_1)]), (b_2, [(Sl.v t141_1)]), (b_1, [(Sl.v t56_1)])]) rfl (fun h_33 hf_10 hL_33 => ?_)
   refine rop_locA agg26 hL_33 4 rfl 0 (vs := [(Sl.v t56_1)]) rfl rfl ?_
   have H := H b_5 h_33 (Nat.le_trans (Fr.size (Fr.r (In []) _)) hb_32) (Fr.new (Fr.no' (Fr.r (In []) _) hf_9) (Nat.le_trans (Fr.size (Fr.r (In []) _)) hb_32) hf_10) hL_33
   refine H.mono fun rv_23 h_34 H => ?_
   obtain ⟨t262_1, t262_2, rfl, hL_34, H⟩ := H
   refine pop_ext (v := (VB t262_1)) rfl ?_
   refine pop_ext (v := (VB t262_2)) rfl ?_
   refine rop_locA agg26 hL_34 2 rfl 0 (vs := [(Sl.v t232_1)]) rfl rfl ?_
   refine H.mono fun rv_24 h_35 H => ?_
   obtain ⟨t267_1, t267_2, rfl, hL_35, H⟩ := H
   refine pop_ext (v := (VB t267_1)) rfl ?_
   refine pop_ext (v := (VB t267_2)) rfl ?_
   refine pop_not t252_2 ?_
   refine guardM_sf (fun hb_33 => ?_) (fun hb_33 => ?_)
   rotate_left
   ·have H := H.1 hb_33
    refine guardM_n' hb_33 (by decide) ?_
    refine guardM_n' hb_33 (by decide) ?_
    refine pop_pickt' hb_33 ?_
    refine guardM_n (by decide) ?_
    refine guardM_n (by decide) ?_
    refine pop_pickt _ _ ?_
    refine guardM_n (by decide) ?_
    refine guardM_n (by decide) ?_
    refine pop_pickt _ _ ?_
    refine guardM_n (by decide) ?_
    refine guardM_n (by decide) ?_
    refine pop_pickt _ _ ?_
    refine guardM_n (by decide) ?_
    refine guardM_n (by decide) ?_
    refine guardM_n (by decide) ?_
    refine pop_pickt _ _ ?_
    refine guardM_n (by decide) ?_
    refine guardM_n (by decide) ?_
    refine guardM_n (by decide) ?_
    refine guardM_n (by decide) ?_
    refine guardM_n (by decide) ?_
    refine pop_pickt _ _ ?_
    refine condM_t ?_
    exact H
   have H := H.2 hb_33
   refine guardM_y' hb_33 ?_
   refine guardM_y' hb_33 ?_
   refine pop_ine .i64 _ _ t252_1 t69_1 ?_
   refine pop_pickf' hb_33 ?_
   refine guardM_sf (fun hb_34 => ?_) (fun hb_34 => ?_)
   rotate_left
   ·have H := H.1 hb_34
    refine guardM_n' hb_34 (by decide) ?_
    refine pop_pickt' hb_34 ?_
    refine guardM_n (by decide) ?_
    refine guardM_n (by decide) ?_
    refine pop_pickt _ _ ?_
    refine guardM_n (by decide) ?_
    refine guardM_n (by decide) ?_
    refine pop_pickt _ _ ?_
    refine guardM_n (by decide) ?_
    refine guardM_n (by decide) ?_
    refine guardM_n (by decide) ?_
    refine pop_pickt _ _ ?_
    refine guardM_n (by decide) ?_
    refine guardM_n (by decide) ?_
    refine guardM_n (by decide) ?_
    refine guardM_n (by decide) ?_
    refine guardM_n (by decide) ?_
    refine pop_pickt _ _ ?_
    refine condM_t ?_
    exact H
   have H := H.2 hb_34
   refine guardM_y' hb_34 ?_
   refine pop_not t257_2 ?_
   refine pop_pickf' hb_34 ?_
   refine guardM_sf (fun hb_35 => ?_) (fun hb_35 => ?_)
   rotate_left
   ·have H := H.1 hb_35
    refine guardM_n' hb_35 (by decide) ?_
    refine pop_pickt' hb_35 ?_
    refine guardM_n (by decide) ?_
    refine guardM_n (by decide) ?_
    refine pop_pickt _ _ ?_
    refine guardM_n (by decide) ?_
    refine guardM_n (by decide) ?_
    refine guardM_n (by decide) ?_
    refine pop_pickt _ _ ?_
    refine guardM_n (by decide) ?_
    refine guardM_n (by decide) ?_
    refine guardM_n (by decide) ?_
    refine guardM_n (by decide) ?_
    refine guardM_n (by decide) ?_
    refine pop_pickt _ _ ?_
    refine condM_t ?_
    exact H
   have H := H.2 hb_35
   refine guardM_y' hb_35 ?_
   refine pop_not t262_2 ?_
   refine pop_pickf' hb_35 ?_
   refine guardM_sf (fun hb_36 => ?_) (fun hb_36 => ?_)
   rotate_left
   ·have H := H.1 hb_36
    refine guardM_n' hb_36 (by decide) ?_
    refine pop_pickt' hb_36 ?_
    refine guardM_n (by decide) ?_
    refine guardM_n (by decide) ?_
    refine guardM_n (by decide) ?_
    refine pop_pickt _ _ ?_
    refine guardM_n (by decide) ?_
    refine guardM_n (by decide) ?_
    refine guardM_n (by decide) ?_
    refine guardM_n (by decide) ?_
    refine guardM_n (by decide) ?_
    refine pop_pickt _ _ ?_
    refine condM_t ?_
    exact H
   have H := H.2 hb_36
   refine guardM_y' hb_36 ?_
   refine pop_not t267_2 ?_
   refine pop_pickf' hb_36 ?_
   refine guardM_sf (fun hb_37 => ?_) (fun hb_37 => ?_)
   rotate_left
   ·have H := H.1 hb_37
    refine guardM_n' hb_37 (by decide) ?_
    refine guardM_n' hb_37 (by decide) ?_
    refine pop_pickt' hb_37 ?_
    refine guardM_n (by decide) ?_
    refine guardM_n (by decide) ?_
    refine guardM_n (by decide) ?_
    refine guardM_n (by decide) ?_
    refine guardM_n (by decide) ?_
    refine pop_pickt _ _ ?_
    refine condM_t ?_
    exact H
   have H := H.2 hb_37
   refine guardM_y' hb_37 ?_
   refine guardM_y' hb_37 ?_
   refine pop_bne boo4 _ _ t262_1 t267_1 ?_
   refine pop_pickf' hb_37 ?_
   refine guardM_sf (fun hb_38 => ?_) (fun hb_38 => ?_)
   rotate_left
   ·have H := H.1 hb_38
    refine guardM_n' hb_38 (by decide) ?_
    refine guardM_n' hb_38 (by decide) ?_
    refine guardM_n' hb_38 (by decide) ?_
    refine guardM_n' hb_38 (by decide) ?_
    refine pop_pickt' hb_38 ?_
    refine condM_t ?_
    exact H
   have H := H.2 hb_38
   refine pop_field 0 fld26_0 b_5 0 ?_
   refine guardM_y' hb_38 ?_
   refine rop_loc one24 hL_35 0 rfl 0 (v := (Sl.v t257_1)) rfl ?_
   refine guardM_y' hb_38 ?_
   refine pop_len t257_1 _ _ sli24 ?_
   refine guardM_y' hb_38 ?_
   refine guardM_y' hb_38 ?_
   refine pop_ine .i64 _ _ (t257_1.n : Int) t79_1 ?_
   refine pop_pickf' hb_38 ?_
   refine condM_b (fun hb_39 => ?_) (fun hb_39 => ?_)
   ·have H := H.1 hb_39
    exact H
   have H := H.2 hb_39
   refine pop_field 0 fld26_0 b_1 0 ?_
   refine rop_loc one24 hL_35 4 rfl 0 (v := (Sl.v t56_1)) rfl ?_
   refine pop_len t56_1 _ _ sli24 ?_
   obtain ⟨J_3, ⟨n_3, h0_1⟩, HB_1⟩ := H
   refine loop_intro (J := fun (n : Nat) (vs : List Value) (h' : Heap) => ∃ t304_1 : Int, vs = [(VI t304_1)] ∧ J_3 n t304_1 h' ∧ Vars h' [(b_5, [(Sl.v t257_1)]), (b_4, [(Sl.v t237_1)]), (b_3, [(Sl.v t232_1)]), (b_2, [(Sl.v t141_1)]), (b_1, [(Sl.v t56_1)])]) n_3 ⟨0, rfl, h0_1, hL_35⟩ ?_
   intro I_1 mu_1 hI_1 junk_2 tv_1 h_36 hi_3
   obtain ⟨n_2, ⟨t304_1, hv, hJ_2, hL_36⟩, hn_2⟩ := hI_1 _ _ hi_3
   cases hv
   have H := HB_1 n_2 t304_1 h_36 hJ_2 hL_36
   refine pop_lss .i64 t304_1 (t56_1.n : Int) ?_
   refine condM_b (fun hb_40 => ?_) (fun hb_40 => ?_)
   rotate_left
   ·have H := H.2 hb_40
    exact ⟨rfl, H, Vars.pick hL_36 [4] rfl⟩
   have H := H.1 hb_40
   refine rop_locA agg26 hL_36 2 rfl 0 (vs := [(Sl.v t232_1)]) rfl rfl ?_
   refine H.mono fun rv_25 h_37 H => ?_
   obtain ⟨t310_1, t310_2, rfl, hL_37, H⟩ := H
   refine pop_ext (v := (VI t310_1)) rfl ?_
   refine pop_ext (v := (VB t310_2)) rfl ?_
   refine pop_not t310_2 ?_
   refine guardM_sf (fun hb_41 => ?_) (fun hb_41 => ?_)
   rotate_left
   ·have H := H.1 hb_41
    refine guardM_n' hb_41 (by decide) ?_
    refine guardM_n' hb_41 (by decide) ?_
    refine guardM_n' hb_41 (by decide) ?_
    refine guardM_n' hb_41 (by decide) ?_
    refine guardM_n' hb_41 (by decide) ?_
    refine guardM_n' hb_41 (by decide) ?_
    refine guardM_n' hb_41 (by decide) ?_
    refine pop_pickt' hb_41 ?_
    refine guardM_n (by decide) ?_
    refine guardM_n (by decide) ?_
    refine guardM_n (by decide) ?_
    refine guardM_n (by decide) ?_
    refine guardM_n (by decide) ?_
    refine guardM_n (by decide) ?_
    refine guardM_n (by decide) ?_
    refine guardM_n (by decide) ?_
    refine guardM_n (by decide) ?_
    refine guardM_n (by decide) ?_
    refine guardM_n (by decide) ?_
    refine guardM_n (by decide) ?_
    refine guardM_n (by decide) ?_
    refine pop_pickt _ _ ?_
    refine condM_t ?_
    exact H
   have H := H.2 hb_41
   refine guardM_y' hb_41 ?_
   refine pop_field 0 fld26_0 b_1 0 ?_
   refine guardM_y' hb_41 ?_
   refine rop_loc one24 hL_37 4 rfl 0 (v := (Sl.v t56_1)) rfl ?_
   refine guardM_y' hb_41 ?_
   refine guardM_y' hb_41 ?_
   obtain ⟨hi_4, H⟩ := H
   refine pop_index sli24 siz36 .i64 t56_1 t304_1 hi_4 ?_
   refine guardM_y' hb_41 ?_
   obtain ⟨t321_1, hc_4, H⟩ := H
   refine rop_one one36 (Sl.v t321_1) hc_4 ?_
   refine guardM_y' hb_41 ?_
   refine pop_len t321_1 _ _ sli36 ?_
   refine guardM_y' hb_41 ?_
   refine pop_ine .i64 _ _ t310_1 (t321_1.n : Int) ?_
   refine pop_pickf' hb_41 ?_
   refine guardM_sf (fun hb_42 => ?_) (fun hb_42 => ?_)
   rotate_left
   ·have H := H.1 hb_42
    refine guardM_n' hb_42 (by decide) ?_
    refine guardM_n' hb_42 (by decide) ?_
    refine guardM_n' hb_42 (by decide) ?_
    refine guardM_n' hb_42 (by decide) ?_
    refine guardM_n' hb_42 (by decide) ?_
    refine guardM_n' hb_42 (by decide) ?_
    refine guardM_n' hb_42 (by decide) ?_
    refine guardM_n' hb_42 (by decide) ?_
    refine guardM_n' hb_42 (by decide) ?_
    refine guardM_n' hb_42 (by decide) ?_
    refine guardM_n' hb_42 (by decide) ?_
    refine guardM_n' hb_42 (by decide) ?_
    refine pop_pickt' hb_42 ?_
    refine condM_t ?_
    exact H
   have H := H.2 hb_42
   refine pop_field 0 fld26_0 b_5 0 ?_
   refine guardM_y' hb_42 ?_
   refine rop_loc one24 hL_37 0 rfl 0 (v := (Sl.v t257_1)) rfl ?_
   refine guardM_y' hb_42 ?_
   refine guardM_y' hb_42 ?_
   obtain ⟨hi_5, H⟩ := H
   refine pop_index sli24 siz36 .i64 t257_1 t304_1 hi_5 ?_
   refine guardM_y' hb_42 ?_
   obtain ⟨t330_1, hc_3, H⟩ := H
   refine rop_one one36 (Sl.v t330_1) hc_3 ?_
   refine guardM_y' hb_42 ?_
   refine pop_len t330_1 _ _ sli36 ?_
   refine guardM_y' hb_42 ?_
   refine pop_field 0 fld26_0 b_1 0 ?_
   refine guardM_y' hb_42 ?_
   refine rop_loc one24 hL_37 4 rfl 0 (v := (Sl.v t56_1)) rfl ?_
   refine guardM_y' hb_42 ?_
   refine guardM_y' hb_42 ?_
   obtain ⟨hi_6, H⟩ := H
   refine pop_index sli24 siz36 .i64 t56_1 t304_1 hi_6 ?_
   refine guardM_y' hb_42 ?_
   obtain ⟨t336_1, hc_2, H⟩ := H
   refine rop_one one36 (Sl.v t336_1) hc_2 ?_
   refine guardM_y' hb_42 ?_
   refine pop_len t336_1 _ _ sli36 ?_
   refine guardM_y' hb_42 ?_
   refine pop_ine .i64 _ _ (t330_1.n : Int) (t336_1.n : Int) ?_
   refine pop_pickf' hb_42 ?_
   refine condM_b (fun hb_43 => ?_) (fun hb_43 => ?_)
   ·have H := H.1 hb_43
    exact H
   have H := H.2 hb_43
   refine pop_add .i64 t304_1 1 ?_
   obtain ⟨m_3, hm_3, H⟩ := H
   exact hn_2 _ _ ⟨m_3, hm_3, (w64 (t304_1 + 1)), rfl, H, hL_37⟩
  intro junk_3  h_38
  rintro ⟨hv, hJ_3, hL_38⟩
  have H := HB_3  h_38 hJ_3 hL_38
  refine H.mono fun rv_26 h_39 H => ?_
  obtain ⟨t342_1, rfl, hL_39, H⟩ := H
  refine H.mono fun rv_27 h_40 H => ?_
  obtain ⟨t345_1, t345_2, rfl, hL_40, H⟩ := H
  refine pop_ext (v := (Value.agg #[(Sl.v t345_1)])) rfl ?_
  refine pop_ext (v := (VB t345_2)) rfl ?_
  refine eop_alloc 26 zer26 rfl hL_40 (fun b_6 h_41 hb_44 hf_11 hL_41 => ?_)
  refine uop_loc siz26 hL_41 0 rfl 0 [(Sl.v t345_1)] rfl rfl rfl (Nat.le_of_ble_eq_true rfl) (L' := [(b_6, [(Sl.v t345_1)]), (b_1, [(Sl.v t56_1)])]) rfl (fun h_42 hf_12 hL_42 => ?_)
  have H := H b_6 h_42 (Nat.le_trans (Fr.size (Fr.r (In []) _)) hb_44) (Fr.new (Fr.no' (Fr.r (In []) _) hf_11) (Nat.le_trans (Fr.size (Fr.r (In []) _)) hb_44) hf_12) hL_42
  refine H.mono fun rv_28 h_43 H => ?_
  obtain ⟨t350_1, t350_2, rfl, hL_43, H⟩ := H
  refine pop_ext (v := (Value.agg #[(Sl.v t350_1)])) rfl ?_
  refine pop_ext (v := (VB t350_2)) rfl ?_
  refine eop_alloc 26 zer26 rfl hL_43 (fun b_7 h_44 hb_45 hf_13 hL_44 => ?_)
  refine uop_loc siz26 hL_44 0 rfl 0 [(Sl.v t350_1)] rfl rfl rfl (Nat.le_of_ble_eq_true rfl) (L' := [(b_7, [(Sl.v t350_1)]), (b_6, [(Sl.v t345_1)]), (b_1, [(Sl.v t56_1)])]) rfl (fun h_45 hf_14 hL_45 => ?_)
  refine pop_bne boo4 _ _ t345_2 t350_2 ?_
  refine guardM_sf (fun hb_46 => ?_) (fun hb_46 => ?_)
  rotate_left
  ·have H := H.1 hb_46
   refine guardM_n' hb_46 (by decide) ?_
   refine guardM_n' hb_46 (by decide) ?_
   refine guardM_n' hb_46 (by decide) ?_
   refine pop_pickt' hb_46 ?_
   refine condM_t ?_
   have H := H b_7 h_45 (Nat.le_trans (Fr.size (Fr.r (In []) _)) hb_45) (Fr.new (Fr.no' (Fr.r (In []) _) hf_13) (Nat.le_trans (Fr.size (Fr.r (In []) _)) hb_45) hf_14) hL_45
   exact H
  have H := H.2 hb_46
  refine rop_locA agg26 hL_45 1 rfl 0 (vs := [(Sl.v t345_1)]) rfl rfl ?_
  refine guardM_y' hb_46 ?_
  refine rop_locA agg26 hL_45 0 rfl 0 (vs := [(Sl.v t350_1)]) rfl rfl ?_
  refine guardM_y' hb_46 ?_
  have H := H b_7 h_45 (Nat.le_trans (Fr.size (Fr.r (In []) _)) hb_45) (Fr.new (Fr.no' (Fr.r (In []) _) hf_13) (Nat.le_trans (Fr.size (Fr.r (In []) _)) hb_45) hf_14) hL_45
  refine H.mono fun rv_29 h_46 H => ?_
  obtain ⟨t359_1, rfl, hL_46, H⟩ := H
  refine guardM_y' hb_46 ?_
  refine pop_not t359_1 ?_
  refine pop_pickf' hb_46 ?_
  refine condM_b (fun hb_47 => ?_) (fun hb_47 => ?_)
  ·have H := H.1 hb_47
   exact H
  have H := H.2 hb_47
  refine condM_b (fun hb_48 => ?_) (fun hb_48 => ?_)
  rotate_left
  ·have H := H.2 hb_48
   exact H
  have H := H.1 hb_48
  refine rop_locA agg26 hL_46 1 rfl 0 (vs := [(Sl.v t345_1)]) rfl rfl ?_
  refine H.mono fun rv_30 h_47 H => ?_
  obtain ⟨t365_1, t365_2, rfl, hL_47, H⟩ := H
  refine pop_ext (v := (VS t365_1)) rfl ?_
  refine pop_ext (v := (VB t365_2)) rfl ?_
  refine guardM_st (fun hb_49 => ?_) (fun hb_49 => ?_)
  rotate_left
  ·have H := H.2 hb_49
   refine guardM_n' hb_49 (by decide) ?_
   refine guardM_n' hb_49 (by decide) ?_
   refine pop_pickf' hb_49 ?_
   exact H
  have H := H.1 hb_49
  refine guardM_y' hb_49 ?_
  refine guardM_y' hb_49 ?_
  refine pop_seq _ _ t365_1 t342_1 ?_
  refine pop_pickt' hb_49 ?_
  exact H

/-! laws.big -/
def u4 (P : Program) (code0_1 : Sl) (more1_1 : Sl) (h : Heap) (K : Value → Heap → Prop) : Prop :=
  ((decide (1048576 < (code0_1.n : Int))) = true →
  K (VB true) h) ∧
  ((decide (1048576 < (code0_1.n : Int))) = false →
  K (VB (decide ((w64 (1048576 - (code0_1.n : Int))) < (more1_1.n : Int)))) h)
theorem v4 (code0_1 : Sl) (more1_1 : Sl) (h : Heap) (K : Value → Heap → Prop) (H : u4 Tryz.prog code0_1 more1_1 h K) : callM Tryz.prog 4 #[(Sl.v code0_1), (Sl.v more1_1)] h K := by
  refine c4 (Sl.v code0_1) (Sl.v more1_1) h K ?_
  unfold u4 at H
  unfold t4
  have hL : Vars h [] := .nil
  refine pop_len code0_1 _ _ sli22 ?_
  refine pop_gtr .i64 (code0_1.n : Int) 1048576 ?_
  refine guardM_sf (fun hb_1 => ?_) (fun hb_1 => ?_)
  rotate_left
  ·have H := H.1 hb_1
   refine guardM_n' hb_1 (by decide) ?_
   refine guardM_n' hb_1 (by decide) ?_
   refine guardM_n' hb_1 (by decide) ?_
   refine guardM_n' hb_1 (by decide) ?_
   refine guardM_n' hb_1 (by decide) ?_
   refine pop_pickt' hb_1 ?_
   exact H
  have H := H.2 hb_1
  refine guardM_y' hb_1 ?_
  refine pop_len more1_1 _ _ sli22 ?_
  refine guardM_y' hb_1 ?_
  refine guardM_y' hb_1 ?_
  refine pop_len code0_1 _ _ sli22 ?_
  refine guardM_y' hb_1 ?_
  refine pop_sub .i64 1048576 (code0_1.n : Int) ?_
  refine guardM_y' hb_1 ?_
  refine pop_gtr .i64 (more1_1.n : Int) (w64 (1048576 - (code0_1.n : Int))) ?_
  refine pop_pickf' hb_1 ?_
  exact H

/-! spec.DrawGraphText -/
def u5 (P : Program) (code0_1 : Sl) (h : Heap) (K : Value → Heap → Prop) : Prop :=
  ∀ (b_1 : Nat) (h_1 : Heap), h.size ≤ b_1 → Fr (In []) h h_1 → Vars h_1 [(b_1, [(Sl.v nilSl)])] →
  callM P 25 #[(Sl.v code0_1)] h_1 fun rv_1 h_2 => ∃ t4_1 : Sl, rv_1 = (Value.agg #[(Sl.v t4_1)]) ∧ Vars h_2 [(b_1, [(Sl.v nilSl)])] ∧
  ∀ (h_3 : Heap), Fr (In [b_1]) h_2 h_3 → Vars h_3 [(b_1, [(Sl.v t4_1)])] →
  K (Value.agg #[(Sl.v t4_1)]) h_3
theorem v5 (code0_1 : Sl) (h : Heap) (K : Value → Heap → Prop) (H : u5 Tryz.prog code0_1 h K) : callM Tryz.prog 5 #[(Sl.v code0_1)] h K := by
  refine c5 (Sl.v code0_1) h K ?_
  unfold u5 at H
  unfold t5
  have hL : Vars h [] := .nil
  refine eop_alloc 26 zer26 rfl hL (fun b_1 h_1 hb_1 hf_1 hL_1 => ?_)
  have H := H b_1 h_1 (Nat.le_trans (Fr.size (Fr.r (In []) _)) hb_1) (Fr.no' (Fr.r (In []) _) hf_1) hL_1
  refine H.mono fun rv_1 h_2 H => ?_
  obtain ⟨t4_1, rfl, hL_2, H⟩ := H
  refine uop_loc siz26 hL_2 0 rfl 0 [(Sl.v t4_1)] rfl rfl rfl (Nat.le_of_ble_eq_true rfl) (L' := [(b_1, [(Sl.v t4_1)])]) rfl (fun h_3 hf_2 hL_3 => ?_)
  refine rop_locA agg26 hL_3 0 rfl 0 (vs := [(Sl.v t4_1)]) rfl rfl ?_
  have H := H  h_3  (Fr.old (Fr.r (In []) _) hf_2) hL_3
  exact H

/-! impl.GraphText -/
def u6 (P : Program) (g0_1 : Sl) (h : Heap) (K : Value → Heap → Prop) : Prop :=
  ∀ (b_1 : Nat) (h_1 : Heap), h.size ≤ b_1 → Fr (In []) h h_1 → Vars h_1 [(b_1, [(Sl.v g0_1)])] →
  callM P 26 #[(Value.agg #[(Sl.v g0_1)])] h_1 fun rv_1 h_2 => ∃ t5_1 : Bool, rv_1 = (VB t5_1) ∧ Vars h_2 [(b_1, [(Sl.v g0_1)])] ∧
  ((!t5_1) = true →
  K (Value.tuple #[(VS ({ data := #[] })), (VB false)]) h_2) ∧
  ((!t5_1) = false →
  callM P 27 #[(Value.agg #[(Sl.v g0_1)])] h_2 fun rv_2 h_3 => ∃ t8_1 : ByteArray, rv_2 = (VS t8_1) ∧ Vars h_3 [(b_1, [(Sl.v g0_1)])] ∧
  K (Value.tuple #[(VS t8_1), (VB true)]) h_3)
theorem v6 (g0_1 : Sl) (h : Heap) (K : Value → Heap → Prop) (H : u6 Tryz.prog g0_1 h K) : callM Tryz.prog 6 #[(Value.agg #[(Sl.v g0_1)])] h K := by
  refine c6 (Value.agg #[(Sl.v g0_1)]) h K ?_
  unfold u6 at H
  unfold t6
  have hL : Vars h [] := .nil
  refine eop_box 26 (Value.agg #[(Sl.v g0_1)]) rfl hL (fun b_1 h_1 hb_1 hf_1 hL_1 => ?_)
  refine rop_locA agg26 hL_1 0 rfl 0 (vs := [(Sl.v g0_1)]) rfl rfl ?_
  have H := H b_1 h_1 (Nat.le_trans (Fr.size (Fr.r (In []) _)) hb_1) (Fr.no' (Fr.r (In []) _) hf_1) hL_1
  refine H.mono fun rv_1 h_2 H => ?_
  obtain ⟨t5_1, rfl, hL_2, H⟩ := H
  refine pop_not t5_1 ?_
  refine condM_b (fun hb_2 => ?_) (fun hb_2 => ?_)
  ·have H := H.1 hb_2
   exact H
  have H := H.2 hb_2
  refine rop_locA agg26 hL_2 0 rfl 0 (vs := [(Sl.v g0_1)]) rfl rfl ?_
  refine H.mono fun rv_2 h_3 H => ?_
  obtain ⟨t8_1, rfl, hL_3, H⟩ := H
  exact H

/-! spec.GraphText -/
def u7 (P : Program) (g0_1 : Sl) (h : Heap) (K : Value → Heap → Prop) : Prop :=
  ∀ (b_1 : Nat) (h_1 : Heap), h.size ≤ b_1 → Fr (In []) h h_1 → Vars h_1 [(b_1, [(Sl.v g0_1)])] →
  callM P 28 #[(Value.agg #[(Sl.v g0_1)])] h_1 fun rv_1 h_2 => ∃ t5_1 : Bool, rv_1 = (VB t5_1) ∧ Vars h_2 [(b_1, [(Sl.v g0_1)])] ∧
  ((!t5_1) = true →
  K (Value.tuple #[(VS ({ data := #[] })), (VB false)]) h_2) ∧
  ((!t5_1) = false →
  callM P 29 #[(Value.agg #[(Sl.v g0_1)])] h_2 fun rv_2 h_3 => ∃ t8_1 : ByteArray, rv_2 = (VS t8_1) ∧ Vars h_3 [(b_1, [(Sl.v g0_1)])] ∧
  K (Value.tuple #[(VS t8_1), (VB true)]) h_3)
theorem v7 (g0_1 : Sl) (h : Heap) (K : Value → Heap → Prop) (H : u7 Tryz.prog g0_1 h K) : callM Tryz.prog 7 #[(Value.agg #[(Sl.v g0_1)])] h K := by
  refine c7 (Value.agg #[(Sl.v g0_1)]) h K ?_
  unfold u7 at H
  unfold t7
  have hL : Vars h [] := .nil
  refine eop_box 26 (Value.agg #[(Sl.v g0_1)]) rfl hL (fun b_1 h_1 hb_1 hf_1 hL_1 => ?_)
  refine rop_locA agg26 hL_1 0 rfl 0 (vs := [(Sl.v g0_1)]) rfl rfl ?_
  have H := H b_1 h_1 (Nat.le_trans (Fr.size (Fr.r (In []) _)) hb_1) (Fr.no' (Fr.r (In []) _) hf_1) hL_1
  refine H.mono fun rv_1 h_2 H => ?_
  obtain ⟨t5_1, rfl, hL_2, H⟩ := H
  refine pop_not t5_1 ?_
  refine condM_b (fun hb_2 => ?_) (fun hb_2 => ?_)
  ·have H := H.1 hb_2
   exact H
  have H := H.2 hb_2
  refine rop_locA agg26 hL_2 0 rfl 0 (vs := [(Sl.v g0_1)]) rfl rfl ?_
  refine H.mono fun rv_2 h_3 H => ?_
  obtain ⟨t8_1, rfl, hL_3, H⟩ := H
  exact H

/-! impl.CountExits -/
def u8 (P : Program) (g0_1 : Sl) (h : Heap) (K : Value → Heap → Prop) : Prop :=
  ∀ (b_1 : Nat) (h_1 : Heap), h.size ≤ b_1 → Fr (In []) h h_1 → Vars h_1 [(b_1, [(Sl.v g0_1)])] →
  callM P 26 #[(Value.agg #[(Sl.v g0_1)])] h_1 fun rv_1 h_2 => ∃ t5_1 : Bool, rv_1 = (VB t5_1) ∧ Vars h_2 [(b_1, [(Sl.v g0_1)])] ∧
  ((!t5_1) = true →
  K (Value.tuple #[(VI 0), (VB false)]) h_2) ∧
  ((!t5_1) = false →
  callM P 30 #[(Sl.v g0_1)] h_2 fun rv_2 h_3 => ∃ t9_1 : Sl, rv_2 = (Sl.v t9_1) ∧ Vars h_3 [(b_1, [(Sl.v g0_1)])] ∧
  K (Value.tuple #[(VI (t9_1.n : Int)), (VB true)]) h_3)
theorem v8 (g0_1 : Sl) (h : Heap) (K : Value → Heap → Prop) (H : u8 Tryz.prog g0_1 h K) : callM Tryz.prog 8 #[(Value.agg #[(Sl.v g0_1)])] h K := by
  refine c8 (Value.agg #[(Sl.v g0_1)]) h K ?_
  unfold u8 at H
  unfold t8
  have hL : Vars h [] := .nil
  refine eop_box 26 (Value.agg #[(Sl.v g0_1)]) rfl hL (fun b_1 h_1 hb_1 hf_1 hL_1 => ?_)
  refine rop_locA agg26 hL_1 0 rfl 0 (vs := [(Sl.v g0_1)]) rfl rfl ?_
  have H := H b_1 h_1 (Nat.le_trans (Fr.size (Fr.r (In []) _)) hb_1) (Fr.no' (Fr.r (In []) _) hf_1) hL_1
  refine H.mono fun rv_1 h_2 H => ?_
  obtain ⟨t5_1, rfl, hL_2, H⟩ := H
  refine pop_not t5_1 ?_
  refine condM_b (fun hb_2 => ?_) (fun hb_2 => ?_)
  ·have H := H.1 hb_2
   exact H
  have H := H.2 hb_2
  refine pop_field 0 fld26_0 b_1 0 ?_
  refine rop_loc one24 hL_2 0 rfl 0 (v := (Sl.v g0_1)) rfl ?_
  refine H.mono fun rv_2 h_3 H => ?_
  obtain ⟨t9_1, rfl, hL_3, H⟩ := H
  refine pop_len t9_1 _ _ sli36 ?_
  exact H

/-! spec.CountExits -/
def u9 (P : Program) (g0_1 : Sl) (h : Heap) (K : Value → Heap → Prop) : Prop :=
  ∀ (b_1 : Nat) (h_1 : Heap), h.size ≤ b_1 → Fr (In []) h h_1 → Vars h_1 [(b_1, [(Sl.v g0_1)])] →
  callM P 28 #[(Value.agg #[(Sl.v g0_1)])] h_1 fun rv_1 h_2 => ∃ t5_1 : Bool, rv_1 = (VB t5_1) ∧ Vars h_2 [(b_1, [(Sl.v g0_1)])] ∧
  ((!t5_1) = true →
  K (Value.tuple #[(VI 0), (VB false)]) h_2) ∧
  ((!t5_1) = false →
  callM P 31 #[(Value.agg #[(Sl.v g0_1)])] h_2 fun rv_2 h_3 => ∃ t8_1 : Int, rv_2 = (VI t8_1) ∧ Vars h_3 [(b_1, [(Sl.v g0_1)])] ∧
  K (Value.tuple #[(VI t8_1), (VB true)]) h_3)
theorem v9 (g0_1 : Sl) (h : Heap) (K : Value → Heap → Prop) (H : u9 Tryz.prog g0_1 h K) : callM Tryz.prog 9 #[(Value.agg #[(Sl.v g0_1)])] h K := by
  refine c9 (Value.agg #[(Sl.v g0_1)]) h K ?_
  unfold u9 at H
  unfold t9
  have hL : Vars h [] := .nil
  refine eop_box 26 (Value.agg #[(Sl.v g0_1)]) rfl hL (fun b_1 h_1 hb_1 hf_1 hL_1 => ?_)
  refine rop_locA agg26 hL_1 0 rfl 0 (vs := [(Sl.v g0_1)]) rfl rfl ?_
  have H := H b_1 h_1 (Nat.le_trans (Fr.size (Fr.r (In []) _)) hb_1) (Fr.no' (Fr.r (In []) _) hf_1) hL_1
  refine H.mono fun rv_1 h_2 H => ?_
  obtain ⟨t5_1, rfl, hL_2, H⟩ := H
  refine pop_not t5_1 ?_
  refine condM_b (fun hb_2 => ?_) (fun hb_2 => ?_)
  ·have H := H.1 hb_2
   exact H
  have H := H.2 hb_2
  refine rop_locA agg26 hL_2 0 rfl 0 (vs := [(Sl.v g0_1)]) rfl rfl ?_
  refine H.mono fun rv_2 h_3 H => ?_
  obtain ⟨t8_1, rfl, hL_3, H⟩ := H
  exact H

/-! impl.PlacesOf -/
def u10 (P : Program) (g0_1 : Sl) (h : Heap) (K : Value → Heap → Prop) : Prop :=
  ∀ (b_1 : Nat) (h_1 : Heap), h.size ≤ b_1 → Fr (In []) h h_1 → Vars h_1 [(b_1, [(Sl.v g0_1)])] →
  callM P 26 #[(Value.agg #[(Sl.v g0_1)])] h_1 fun rv_1 h_2 => ∃ t5_1 : Bool, rv_1 = (VB t5_1) ∧ Vars h_2 [(b_1, [(Sl.v g0_1)])] ∧
  ((!t5_1) = true →
  K (Value.tuple #[(VI 0), (VB false)]) h_2) ∧
  ((!t5_1) = false →
  K (Value.tuple #[(VI (g0_1.n : Int)), (VB true)]) h_2)
theorem v10 (g0_1 : Sl) (h : Heap) (K : Value → Heap → Prop) (H : u10 Tryz.prog g0_1 h K) : callM Tryz.prog 10 #[(Value.agg #[(Sl.v g0_1)])] h K := by
  refine c10 (Value.agg #[(Sl.v g0_1)]) h K ?_
  unfold u10 at H
  unfold t10
  have hL : Vars h [] := .nil
  refine eop_box 26 (Value.agg #[(Sl.v g0_1)]) rfl hL (fun b_1 h_1 hb_1 hf_1 hL_1 => ?_)
  refine rop_locA agg26 hL_1 0 rfl 0 (vs := [(Sl.v g0_1)]) rfl rfl ?_
  have H := H b_1 h_1 (Nat.le_trans (Fr.size (Fr.r (In []) _)) hb_1) (Fr.no' (Fr.r (In []) _) hf_1) hL_1
  refine H.mono fun rv_1 h_2 H => ?_
  obtain ⟨t5_1, rfl, hL_2, H⟩ := H
  refine pop_not t5_1 ?_
  refine condM_b (fun hb_2 => ?_) (fun hb_2 => ?_)
  ·have H := H.1 hb_2
   exact H
  have H := H.2 hb_2
  refine pop_field 0 fld26_0 b_1 0 ?_
  refine rop_loc one24 hL_2 0 rfl 0 (v := (Sl.v g0_1)) rfl ?_
  refine pop_len g0_1 _ _ sli24 ?_
  exact H

/-! spec.PlacesOf -/
def u11 (P : Program) (g0_1 : Sl) (h : Heap) (K : Value → Heap → Prop) : Prop :=
  ∀ (b_1 : Nat) (h_1 : Heap), h.size ≤ b_1 → Fr (In []) h h_1 → Vars h_1 [(b_1, [(Sl.v g0_1)])] →
  callM P 28 #[(Value.agg #[(Sl.v g0_1)])] h_1 fun rv_1 h_2 => ∃ t5_1 : Bool, rv_1 = (VB t5_1) ∧ Vars h_2 [(b_1, [(Sl.v g0_1)])] ∧
  ((!t5_1) = true →
  K (Value.tuple #[(VI 0), (VB false)]) h_2) ∧
  ((!t5_1) = false →
  K (Value.tuple #[(VI (g0_1.n : Int)), (VB true)]) h_2)
theorem v11 (g0_1 : Sl) (h : Heap) (K : Value → Heap → Prop) (H : u11 Tryz.prog g0_1 h K) : callM Tryz.prog 11 #[(Value.agg #[(Sl.v g0_1)])] h K := by
  refine c11 (Value.agg #[(Sl.v g0_1)]) h K ?_
  unfold u11 at H
  unfold t11
  have hL : Vars h [] := .nil
  refine eop_box 26 (Value.agg #[(Sl.v g0_1)]) rfl hL (fun b_1 h_1 hb_1 hf_1 hL_1 => ?_)
  refine rop_locA agg26 hL_1 0 rfl 0 (vs := [(Sl.v g0_1)]) rfl rfl ?_
  have H := H b_1 h_1 (Nat.le_trans (Fr.size (Fr.r (In []) _)) hb_1) (Fr.no' (Fr.r (In []) _) hf_1) hL_1
  refine H.mono fun rv_1 h_2 H => ?_
  obtain ⟨t5_1, rfl, hL_2, H⟩ := H
  refine pop_not t5_1 ?_
  refine condM_b (fun hb_2 => ?_) (fun hb_2 => ?_)
  ·have H := H.1 hb_2
   exact H
  have H := H.2 hb_2
  refine pop_field 0 fld26_0 b_1 0 ?_
  refine rop_loc one24 hL_2 0 rfl 0 (v := (Sl.v g0_1)) rfl ?_
  refine pop_len g0_1 _ _ sli24 ?_
  exact H

/-! impl.IsGraph -/
def u12 (P : Program) (g0_1 : Sl) (h : Heap) (K : Value → Heap → Prop) : Prop :=
  ∀ (b_1 : Nat) (h_1 : Heap), h.size ≤ b_1 → Fr (In []) h h_1 → Vars h_1 [(b_1, [(Sl.v g0_1)])] →
  callM P 26 #[(Value.agg #[(Sl.v g0_1)])] h_1 fun rv_1 h_2 => ∃ t4_1 : Bool, rv_1 = (VB t4_1) ∧ Vars h_2 [(b_1, [(Sl.v g0_1)])] ∧
  K (VB t4_1) h_2
theorem v12 (g0_1 : Sl) (h : Heap) (K : Value → Heap → Prop) (H : u12 Tryz.prog g0_1 h K) : callM Tryz.prog 12 #[(Value.agg #[(Sl.v g0_1)])] h K := by
  refine c12 (Value.agg #[(Sl.v g0_1)]) h K ?_
  unfold u12 at H
  unfold t12
  have hL : Vars h [] := .nil
  refine eop_box 26 (Value.agg #[(Sl.v g0_1)]) rfl hL (fun b_1 h_1 hb_1 hf_1 hL_1 => ?_)
  refine rop_locA agg26 hL_1 0 rfl 0 (vs := [(Sl.v g0_1)]) rfl rfl ?_
  have H := H b_1 h_1 (Nat.le_trans (Fr.size (Fr.r (In []) _)) hb_1) (Fr.no' (Fr.r (In []) _) hf_1) hL_1
  refine H.mono fun rv_1 h_2 H => ?_
  obtain ⟨t4_1, rfl, hL_2, H⟩ := H
  exact H

/-! spec.IsGraph -/
def u13 (P : Program) (g0_1 : Sl) (h : Heap) (K : Value → Heap → Prop) : Prop :=
  ∀ (b_1 : Nat) (h_1 : Heap), h.size ≤ b_1 → Fr (In []) h h_1 → Vars h_1 [(b_1, [(Sl.v g0_1)])] →
  callM P 28 #[(Value.agg #[(Sl.v g0_1)])] h_1 fun rv_1 h_2 => ∃ t4_1 : Bool, rv_1 = (VB t4_1) ∧ Vars h_2 [(b_1, [(Sl.v g0_1)])] ∧
  K (VB t4_1) h_2
theorem v13 (g0_1 : Sl) (h : Heap) (K : Value → Heap → Prop) (H : u13 Tryz.prog g0_1 h K) : callM Tryz.prog 13 #[(Value.agg #[(Sl.v g0_1)])] h K := by
  refine c13 (Value.agg #[(Sl.v g0_1)]) h K ?_
  unfold u13 at H
  unfold t13
  have hL : Vars h [] := .nil
  refine eop_box 26 (Value.agg #[(Sl.v g0_1)]) rfl hL (fun b_1 h_1 hb_1 hf_1 hL_1 => ?_)
  refine rop_locA agg26 hL_1 0 rfl 0 (vs := [(Sl.v g0_1)]) rfl rfl ?_
  have H := H b_1 h_1 (Nat.le_trans (Fr.size (Fr.r (In []) _)) hb_1) (Fr.no' (Fr.r (In []) _) hf_1) hL_1
  refine H.mono fun rv_1 h_2 H => ?_
  obtain ⟨t4_1, rfl, hL_2, H⟩ := H
  exact H

/-! impl.ParseGraph -/
def u14 (P : Program) (s0_1 : ByteArray) (h : Heap) (K : Value → Heap → Prop) : Prop :=
  ∀ (b_1 : Nat) (b_2 : Nat) (h_3 : Heap), h.size ≤ b_1 → h.size ≤ b_2 → Fr (In []) h h_3 → Vars h_3 [(b_2, [(Sl.v nilSl)]), (b_1, [(Sl.v nilSl)])] →
  callM P 32 #[(VS s0_1), (VS ({ data := #[59] }))] h_3 fun rv_1 h_4 => ∃ t11_1 : Sl, rv_1 = (Sl.v t11_1) ∧ Vars h_4 [(b_2, [(Sl.v nilSl)]), (b_1, [(Sl.v nilSl)])] ∧
  ∃ J_1 : Nat → Int → Sl → Heap → Prop, (∃ n0 : Nat, J_1 n0 0 nilSl h_4) ∧
  ∀ (n_1 : Nat) (t13_1 : Int) (x_1 : Sl) (h_5 : Heap), J_1 n_1 t13_1 x_1 h_5 → Vars h_5 [(b_2, [(Sl.v x_1)]), (b_1, [(Sl.v nilSl)])] →
  ((decide (t13_1 < (t11_1.n : Int))) = true →
  InB t11_1 t13_1 ∧
  ∃ t16_1 : ByteArray, hcell h_5 (Sl.at t11_1 t13_1 1) = some (VS t16_1) ∧
  callM P 33 #[(VS t16_1)] h_5 fun rv_2 h_6 => ∃ t19_1 : Sl, ∃ t19_2 : Bool, rv_2 = (Value.tuple #[(Sl.v t19_1), (VB t19_2)]) ∧ Vars h_6 [(b_2, [(Sl.v x_1)]), (b_1, [(Sl.v nilSl)])] ∧
  ((!t19_2) = true →
  ∀ (h_7 : Heap), Fr (In [b_1]) h_6 h_7 → Vars h_7 [(b_2, [(Sl.v x_1)]), (b_1, [(Sl.v nilSl)])] →
  K (Value.tuple #[(Value.agg #[(Sl.v nilSl)]), (VB false)]) h_7) ∧
  ((!t19_2) = false →
  eop P (Instr.buildSlice 24 1 #[(0, (Sl.v t19_1))]) h_6 fun rv_3 h_8 => ∃ t28_1 : Sl, rv_3 = (Sl.v t28_1) ∧ Vars h_8 [(b_2, [(Sl.v x_1)]), (b_1, [(Sl.v nilSl)])] ∧
  eop P (appS 24 24 24 (Sl.v x_1) (Sl.v t28_1)) h_8 fun rv_4 h_9 => ∃ t29_1 : Sl, rv_4 = (Sl.v t29_1) ∧ Vars h_9 [(b_2, [(Sl.v x_1)]), (b_1, [(Sl.v nilSl)])] ∧
  ∀ (h_10 : Heap), Fr (In [b_2]) h_9 h_10 → Vars h_10 [(b_2, [(Sl.v t29_1)]), (b_1, [(Sl.v nilSl)])] →
  ∃ m : Nat, m < n_1 ∧ J_1 m (w64 (t13_1 + 1)) t29_1 h_10)) ∧
  ((decide (t13_1 < (t11_1.n : Int))) = false →
  callM P 34 #[(Value.agg #[(Sl.v x_1)])] h_5 fun rv_5 h_11 => ∃ t33_1 : Sl, ∃ t33_2 : Bool, rv_5 = (Value.tuple #[(Value.agg #[(Sl.v t33_1)]), (VB t33_2)]) ∧ Vars h_11 [(b_2, [(Sl.v x_1)]), (b_1, [(Sl.v nilSl)])] ∧
  ∀ (h_12 : Heap), Fr (In [b_1]) h_11 h_12 → Vars h_12 [(b_2, [(Sl.v x_1)]), (b_1, [(Sl.v t33_1)])] →
  K (Value.tuple #[(Value.agg #[(Sl.v t33_1)]), (VB t33_2)]) h_12)
theorem v14 (s0_1 : ByteArray) (h : Heap) (K : Value → Heap → Prop) (H : u14 Tryz.prog s0_1 h K) : callM Tryz.prog 14 #[(VS s0_1)] h K := by
  refine c14 (VS s0_1) h K ?_
  unfold u14 at H
  unfold t14
  have hL : Vars h [] := .nil
  refine eop_alloc 26 zer26 rfl hL (fun b_1 h_1 hb_1 hf_1 hL_1 => ?_)
  refine pop.mk' (v := (Value.agg #[(Sl.v nilSl)])) (fun w => by kernel_rfl) ?_
  refine eop_alloc 26 zer26 rfl hL_1 (fun b_2 h_2 hb_2 hf_2 hL_2 => ?_)
  refine uop_loc siz26 hL_2 0 rfl 0 [(Sl.v nilSl)] rfl rfl rfl (Nat.le_of_ble_eq_true rfl) (L' := [(b_2, [(Sl.v nilSl)]), (b_1, [(Sl.v nilSl)])]) rfl (fun h_3 hf_3 hL_3 => ?_)
  have H := H b_1 b_2 h_3 (Nat.le_trans (Fr.size (Fr.r (In []) _)) hb_1) (Nat.le_trans (Fr.size (Fr.no' (Fr.r (In []) _) hf_1)) hb_2) (Fr.new (Fr.no' (Fr.no' (Fr.r (In []) _) hf_1) hf_2) (Nat.le_trans (Fr.size (Fr.no' (Fr.r (In []) _) hf_1)) hb_2) hf_3) hL_3
  refine H.mono fun rv_1 h_4 H => ?_
  obtain ⟨t11_1, rfl, hL_4, H⟩ := H
  refine pop_len t11_1 _ _ sli48 ?_
  obtain ⟨J_1, ⟨n_2, h0_1⟩, HB_1⟩ := H
  refine loop_intro (J := fun (n : Nat) (vs : List Value) (h' : Heap) => ∃ t13_1 : Int, ∃ x_1 : Sl, vs = [(VI t13_1)] ∧ J_1 n t13_1 x_1 h' ∧ Vars h' [(b_2, [(Sl.v x_1)]), (b_1, [(Sl.v nilSl)])]) n_2 ⟨0, nilSl, rfl, h0_1, hL_4⟩ ?_
  intro I_1 mu_1 hI_1 junk_1 tv_1 h_5 hi_1
  obtain ⟨n_1, ⟨t13_1, x_1, hv, hJ_1, hL_5⟩, hn_1⟩ := hI_1 _ _ hi_1
  cases hv
  have H := HB_1 n_1 t13_1 x_1 h_5 hJ_1 hL_5
  refine pop_lss .i64 t13_1 (t11_1.n : Int) ?_
  refine condM_b (fun hb_3 => ?_) (fun hb_3 => ?_)
  rotate_left
  ·have H := H.2 hb_3
   refine rop_locA agg26 hL_5 0 rfl 0 (vs := [(Sl.v x_1)]) rfl rfl ?_
   refine H.mono fun rv_5 h_11 H => ?_
   obtain ⟨t33_1, t33_2, rfl, hL_11, H⟩ := H
   refine pop_ext (v := (Value.agg #[(Sl.v t33_1)])) rfl ?_
   refine pop_ext (v := (VB t33_2)) rfl ?_
   refine uop_loc siz26 hL_11 1 rfl 0 [(Sl.v t33_1)] rfl rfl rfl (Nat.le_of_ble_eq_true rfl) (L' := [(b_2, [(Sl.v x_1)]), (b_1, [(Sl.v t33_1)])]) rfl (fun h_12 hf_6 hL_12 => ?_)
   refine rop_locA agg26 hL_12 1 rfl 0 (vs := [(Sl.v t33_1)]) rfl rfl ?_
   have H := H  h_12  (Fr.old (Fr.r (In []) _) hf_6) hL_12
   exact H
  have H := H.1 hb_3
  obtain ⟨hi_2, H⟩ := H
  refine pop_index sli48 siz9 .i64 t11_1 t13_1 hi_2 ?_
  obtain ⟨t16_1, hc_1, H⟩ := H
  refine rop_one one9 (VS t16_1) hc_1 ?_
  refine H.mono fun rv_2 h_6 H => ?_
  obtain ⟨t19_1, t19_2, rfl, hL_6, H⟩ := H
  refine pop_ext (v := (Sl.v t19_1)) rfl ?_
  refine pop_ext (v := (VB t19_2)) rfl ?_
  refine pop_not t19_2 ?_
  refine condM_b (fun hb_4 => ?_) (fun hb_4 => ?_)
  ·have H := H.1 hb_4
   refine pop.mk' (v := (Value.agg #[(Sl.v nilSl)])) (fun w => by kernel_rfl) ?_
   refine uop_loc siz26 hL_6 1 rfl 0 [(Sl.v nilSl)] rfl rfl rfl (Nat.le_of_ble_eq_true rfl) (L' := [(b_2, [(Sl.v x_1)]), (b_1, [(Sl.v nilSl)])]) rfl (fun h_7 hf_4 hL_7 => ?_)
   refine rop_locA agg26 hL_7 1 rfl 0 (vs := [(Sl.v nilSl)]) rfl rfl ?_
   have H := H  h_7  (Fr.old (Fr.r (In []) _) hf_4) hL_7
   exact H
  have H := H.2 hb_4
  refine pop_field 0 fld26_0 b_2 0 ?_
  refine rop_loc one24 hL_6 0 rfl 0 (v := (Sl.v x_1)) rfl ?_
  refine H.mono fun rv_3 h_8 H => ?_
  obtain ⟨t28_1, rfl, hL_8, H⟩ := H
  refine H.mono fun rv_4 h_9 H => ?_
  obtain ⟨t29_1, rfl, hL_9, H⟩ := H
  refine pop_field 0 fld26_0 b_2 0 ?_
  refine uop_loc siz24 hL_9 0 rfl 0 [(Sl.v t29_1)] rfl rfl rfl (Nat.le_of_ble_eq_true rfl) (L' := [(b_2, [(Sl.v t29_1)]), (b_1, [(Sl.v nilSl)])]) rfl (fun h_10 hf_5 hL_10 => ?_)
  refine pop_add .i64 t13_1 1 ?_
  have H := H  h_10  (Fr.old (Fr.r (In []) _) hf_5) hL_10
  obtain ⟨m_1, hm_1, H⟩ := H
  exact hn_1 _ _ ⟨m_1, hm_1, (w64 (t13_1 + 1)), t29_1, rfl, H, hL_10⟩

/-! laws.wGraph -/
def u15 (P : Program) (a0_1 : Sl) (b1_1 : Sl) (h : Heap) (K : Value → Heap → Prop) : Prop :=
  ∀ (b_1 : Nat) (b_2 : Nat) (h_2 : Heap), h.size ≤ b_1 → h.size ≤ b_2 → Fr (In []) h h_2 → Vars h_2 [(b_2, [(Sl.v b1_1)]), (b_1, [(Sl.v a0_1)])] →
  callM P 35 #[(Sl.v a0_1), (Sl.v b1_1)] h_2 fun rv_1 h_3 => ∃ t9_1 : Bool, rv_1 = (VB t9_1) ∧ Vars h_3 [(b_2, [(Sl.v b1_1)]), (b_1, [(Sl.v a0_1)])] ∧
  K (VB t9_1) h_3
theorem v15 (a0_1 : Sl) (b1_1 : Sl) (h : Heap) (K : Value → Heap → Prop) (H : u15 Tryz.prog a0_1 b1_1 h K) : callM Tryz.prog 15 #[(Value.agg #[(Sl.v a0_1)]), (Value.agg #[(Sl.v b1_1)])] h K := by
  refine c15 (Value.agg #[(Sl.v a0_1)]) (Value.agg #[(Sl.v b1_1)]) h K ?_
  unfold u15 at H
  unfold t15
  have hL : Vars h [] := .nil
  refine eop_box 26 (Value.agg #[(Sl.v a0_1)]) rfl hL (fun b_1 h_1 hb_1 hf_1 hL_1 => ?_)
  refine eop_box 26 (Value.agg #[(Sl.v b1_1)]) rfl hL_1 (fun b_2 h_2 hb_2 hf_2 hL_2 => ?_)
  refine pop_field 0 fld26_0 b_1 0 ?_
  refine rop_loc one24 hL_2 1 rfl 0 (v := (Sl.v a0_1)) rfl ?_
  refine pop_field 0 fld26_0 b_2 0 ?_
  refine rop_loc one24 hL_2 0 rfl 0 (v := (Sl.v b1_1)) rfl ?_
  have H := H b_1 b_2 h_2 (Nat.le_trans (Fr.size (Fr.r (In []) _)) hb_1) (Nat.le_trans (Fr.size (Fr.no' (Fr.r (In []) _) hf_1)) hb_2) (Fr.no' (Fr.no' (Fr.r (In []) _) hf_1) hf_2) hL_2
  refine H.mono fun rv_1 h_3 H => ?_
  obtain ⟨t9_1, rfl, hL_3, H⟩ := H
  exact H

/-! impl.ExitsOf -/
def u16 (P : Program) (g0_1 : Sl) (p1_1 : Int) (h : Heap) (K : Value → Heap → Prop) : Prop :=
  ∀ (b_1 : Nat) (h_1 : Heap), h.size ≤ b_1 → Fr (In []) h h_1 → Vars h_1 [(b_1, [(Sl.v g0_1)])] →
  eop P (Instr.buildSlice 36 1 #[(0, (VI p1_1))]) h_1 fun rv_1 h_2 => ∃ t8_1 : Sl, rv_1 = (Sl.v t8_1) ∧ Vars h_2 [(b_1, [(Sl.v g0_1)])] ∧
  callM P 36 #[(Value.agg #[(Sl.v g0_1)]), (Sl.v t8_1)] h_2 fun rv_2 h_3 => ∃ t9_1 : Bool, rv_2 = (VB t9_1) ∧ Vars h_3 [(b_1, [(Sl.v g0_1)])] ∧
  ((!t9_1) = true →
  K (Value.tuple #[(Sl.v nilSl), (VB false)]) h_3) ∧
  ((!t9_1) = false →
  InB g0_1 p1_1 ∧
  ∃ t15_1 : Sl, hcell h_3 (Sl.at g0_1 p1_1 1) = some (Sl.v t15_1) ∧
  callM P 37 #[(Sl.v t15_1)] h_3 fun rv_3 h_4 => ∃ t16_1 : Sl, rv_3 = (Sl.v t16_1) ∧ Vars h_4 [(b_1, [(Sl.v g0_1)])] ∧
  K (Value.tuple #[(Sl.v t16_1), (VB true)]) h_4)
theorem v16 (g0_1 : Sl) (p1_1 : Int) (h : Heap) (K : Value → Heap → Prop) (H : u16 Tryz.prog g0_1 p1_1 h K) : callM Tryz.prog 16 #[(Value.agg #[(Sl.v g0_1)]), (VI p1_1)] h K := by
  refine c16 (Value.agg #[(Sl.v g0_1)]) (VI p1_1) h K ?_
  unfold u16 at H
  unfold t16
  have hL : Vars h [] := .nil
  refine eop_box 26 (Value.agg #[(Sl.v g0_1)]) rfl hL (fun b_1 h_1 hb_1 hf_1 hL_1 => ?_)
  refine rop_locA agg26 hL_1 0 rfl 0 (vs := [(Sl.v g0_1)]) rfl rfl ?_
  have H := H b_1 h_1 (Nat.le_trans (Fr.size (Fr.r (In []) _)) hb_1) (Fr.no' (Fr.r (In []) _) hf_1) hL_1
  refine H.mono fun rv_1 h_2 H => ?_
  obtain ⟨t8_1, rfl, hL_2, H⟩ := H
  refine H.mono fun rv_2 h_3 H => ?_
  obtain ⟨t9_1, rfl, hL_3, H⟩ := H
  refine pop_not t9_1 ?_
  refine condM_b (fun hb_2 => ?_) (fun hb_2 => ?_)
  ·have H := H.1 hb_2
   exact H
  have H := H.2 hb_2
  refine pop_field 0 fld26_0 b_1 0 ?_
  refine rop_loc one24 hL_3 0 rfl 0 (v := (Sl.v g0_1)) rfl ?_
  obtain ⟨hi_1, H⟩ := H
  refine pop_index sli24 siz36 .i64 g0_1 p1_1 hi_1 ?_
  obtain ⟨t15_1, hc_1, H⟩ := H
  refine rop_one one36 (Sl.v t15_1) hc_1 ?_
  refine H.mono fun rv_3 h_4 H => ?_
  obtain ⟨t16_1, rfl, hL_4, H⟩ := H
  exact H

/-! impl.EntriesOf -/
def u17 (P : Program) (g0_1 : Sl) (p1_1 : Int) (h : Heap) (K : Value → Heap → Prop) : Prop :=
  ∀ (b_1 : Nat) (h_1 : Heap), h.size ≤ b_1 → Fr (In []) h h_1 → Vars h_1 [(b_1, [(Sl.v g0_1)])] →
  eop P (Instr.buildSlice 36 1 #[(0, (VI p1_1))]) h_1 fun rv_1 h_2 => ∃ t8_1 : Sl, rv_1 = (Sl.v t8_1) ∧ Vars h_2 [(b_1, [(Sl.v g0_1)])] ∧
  callM P 36 #[(Value.agg #[(Sl.v g0_1)]), (Sl.v t8_1)] h_2 fun rv_2 h_3 => ∃ t9_1 : Bool, rv_2 = (VB t9_1) ∧ Vars h_3 [(b_1, [(Sl.v g0_1)])] ∧
  ((!t9_1) = true →
  K (Value.tuple #[(VI 0), (VB false)]) h_3) ∧
  ((!t9_1) = false →
  callM P 38 #[(Value.agg #[(Sl.v g0_1)]), (VI p1_1)] h_3 fun rv_3 h_4 => ∃ t13_1 : Int, rv_3 = (VI t13_1) ∧ Vars h_4 [(b_1, [(Sl.v g0_1)])] ∧
  K (Value.tuple #[(VI t13_1), (VB true)]) h_4)
theorem v17 (g0_1 : Sl) (p1_1 : Int) (h : Heap) (K : Value → Heap → Prop) (H : u17 Tryz.prog g0_1 p1_1 h K) : callM Tryz.prog 17 #[(Value.agg #[(Sl.v g0_1)]), (VI p1_1)] h K := by
  refine c17 (Value.agg #[(Sl.v g0_1)]) (VI p1_1) h K ?_
  unfold u17 at H
  unfold t17
  have hL : Vars h [] := .nil
  refine eop_box 26 (Value.agg #[(Sl.v g0_1)]) rfl hL (fun b_1 h_1 hb_1 hf_1 hL_1 => ?_)
  refine rop_locA agg26 hL_1 0 rfl 0 (vs := [(Sl.v g0_1)]) rfl rfl ?_
  have H := H b_1 h_1 (Nat.le_trans (Fr.size (Fr.r (In []) _)) hb_1) (Fr.no' (Fr.r (In []) _) hf_1) hL_1
  refine H.mono fun rv_1 h_2 H => ?_
  obtain ⟨t8_1, rfl, hL_2, H⟩ := H
  refine H.mono fun rv_2 h_3 H => ?_
  obtain ⟨t9_1, rfl, hL_3, H⟩ := H
  refine pop_not t9_1 ?_
  refine condM_b (fun hb_2 => ?_) (fun hb_2 => ?_)
  ·have H := H.1 hb_2
   exact H
  have H := H.2 hb_2
  refine rop_locA agg26 hL_3 0 rfl 0 (vs := [(Sl.v g0_1)]) rfl rfl ?_
  refine H.mono fun rv_3 h_4 H => ?_
  obtain ⟨t13_1, rfl, hL_4, H⟩ := H
  exact H

/-! laws.wSame -/
def u18 (P : Program) (a0_1 : Sl) (b1_1 : Sl) (h : Heap) (K : Value → Heap → Prop) : Prop :=
  ((!decide ((a0_1.n : Int) = (b1_1.n : Int))) = true →
  K (VB false) h) ∧
  ((!decide ((a0_1.n : Int) = (b1_1.n : Int))) = false →
  ∃ J_1 : Nat → Int → Heap → Prop, (∃ n0 : Nat, J_1 n0 0 h) ∧
  ∀ (n_1 : Nat) (t13_1 : Int) (h_1 : Heap), J_1 n_1 t13_1 h_1 → Vars h_1 [] →
  ((decide (t13_1 < (a0_1.n : Int))) = true →
  InB a0_1 t13_1 ∧
  ∃ t19_1 : Int, hcell h_1 (Sl.at a0_1 t13_1 1) = some (VI t19_1) ∧
  InB b1_1 t13_1 ∧
  ∃ t23_1 : Int, hcell h_1 (Sl.at b1_1 t13_1 1) = some (VI t23_1) ∧
  ((!decide (t19_1 = t23_1)) = true →
  K (VB false) h_1) ∧
  ((!decide (t19_1 = t23_1)) = false →
  ∃ m : Nat, m < n_1 ∧ J_1 m (w64 (t13_1 + 1)) h_1)) ∧
  ((decide (t13_1 < (a0_1.n : Int))) = false →
  K (VB true) h_1))
theorem v18 (a0_1 : Sl) (b1_1 : Sl) (h : Heap) (K : Value → Heap → Prop) (H : u18 Tryz.prog a0_1 b1_1 h K) : callM Tryz.prog 18 #[(Sl.v a0_1), (Sl.v b1_1)] h K := by
  refine c18 (Sl.v a0_1) (Sl.v b1_1) h K ?_
  unfold u18 at H
  unfold t18
  have hL : Vars h [] := .nil
  refine pop_len a0_1 _ _ sli36 ?_
  refine pop_len b1_1 _ _ sli36 ?_
  refine pop_ine .i64 _ _ (a0_1.n : Int) (b1_1.n : Int) ?_
  refine condM_b (fun hb_1 => ?_) (fun hb_1 => ?_)
  ·have H := H.1 hb_1
   exact H
  have H := H.2 hb_1
  refine pop_len a0_1 _ _ sli36 ?_
  obtain ⟨J_1, ⟨n_2, h0_1⟩, HB_1⟩ := H
  refine loop_intro (J := fun (n : Nat) (vs : List Value) (h' : Heap) => ∃ t13_1 : Int, vs = [(VI t13_1)] ∧ J_1 n t13_1 h' ∧ Vars h' []) n_2 ⟨0, rfl, h0_1, hL⟩ ?_
  intro I_1 mu_1 hI_1 junk_1 tv_1 h_1 hi_1
  obtain ⟨n_1, ⟨t13_1, hv, hJ_1, hL_1⟩, hn_1⟩ := hI_1 _ _ hi_1
  cases hv
  have H := HB_1 n_1 t13_1 h_1 hJ_1 hL_1
  refine pop_lss .i64 t13_1 (a0_1.n : Int) ?_
  refine condM_b (fun hb_2 => ?_) (fun hb_2 => ?_)
  rotate_left
  ·have H := H.2 hb_2
   exact H
  have H := H.1 hb_2
  obtain ⟨hi_2, H⟩ := H
  refine pop_index sli36 siz3 .i64 a0_1 t13_1 hi_2 ?_
  obtain ⟨t19_1, hc_2, H⟩ := H
  refine rop_one one3 (VI t19_1) hc_2 ?_
  obtain ⟨hi_3, H⟩ := H
  refine pop_index sli36 siz3 .i64 b1_1 t13_1 hi_3 ?_
  obtain ⟨t23_1, hc_1, H⟩ := H
  refine rop_one one3 (VI t23_1) hc_1 ?_
  refine pop_ine .i64 _ _ t19_1 t23_1 ?_
  refine condM_b (fun hb_3 => ?_) (fun hb_3 => ?_)
  ·have H := H.1 hb_3
   exact H
  have H := H.2 hb_3
  refine pop_add .i64 t13_1 1 ?_
  obtain ⟨m_1, hm_1, H⟩ := H
  exact hn_1 _ _ ⟨m_1, hm_1, (w64 (t13_1 + 1)), rfl, H, hL_1⟩

/-! impl.IsBalanced -/
def u19 (P : Program) (g0_1 : Sl) (h : Heap) (K : Value → Heap → Prop) : Prop :=
  ∀ (b_1 : Nat) (h_1 : Heap), h.size ≤ b_1 → Fr (In []) h h_1 → Vars h_1 [(b_1, [(Sl.v g0_1)])] →
  callM P 26 #[(Value.agg #[(Sl.v g0_1)])] h_1 fun rv_1 h_2 => ∃ t5_1 : Bool, rv_1 = (VB t5_1) ∧ Vars h_2 [(b_1, [(Sl.v g0_1)])] ∧
  ((!t5_1) = true →
  K (Value.tuple #[(VB false), (VB false)]) h_2) ∧
  ((!t5_1) = false →
  callM P 39 #[(Value.agg #[(Sl.v g0_1)])] h_2 fun rv_2 h_3 => ∃ t8_1 : Bool, rv_2 = (VB t8_1) ∧ Vars h_3 [(b_1, [(Sl.v g0_1)])] ∧
  K (Value.tuple #[(VB t8_1), (VB true)]) h_3)
theorem v19 (g0_1 : Sl) (h : Heap) (K : Value → Heap → Prop) (H : u19 Tryz.prog g0_1 h K) : callM Tryz.prog 19 #[(Value.agg #[(Sl.v g0_1)])] h K := by
  refine c19 (Value.agg #[(Sl.v g0_1)]) h K ?_
  unfold u19 at H
  unfold t19
  have hL : Vars h [] := .nil
  refine eop_box 26 (Value.agg #[(Sl.v g0_1)]) rfl hL (fun b_1 h_1 hb_1 hf_1 hL_1 => ?_)
  refine rop_locA agg26 hL_1 0 rfl 0 (vs := [(Sl.v g0_1)]) rfl rfl ?_
  have H := H b_1 h_1 (Nat.le_trans (Fr.size (Fr.r (In []) _)) hb_1) (Fr.no' (Fr.r (In []) _) hf_1) hL_1
  refine H.mono fun rv_1 h_2 H => ?_
  obtain ⟨t5_1, rfl, hL_2, H⟩ := H
  refine pop_not t5_1 ?_
  refine condM_b (fun hb_2 => ?_) (fun hb_2 => ?_)
  ·have H := H.1 hb_2
   exact H
  have H := H.2 hb_2
  refine rop_locA agg26 hL_2 0 rfl 0 (vs := [(Sl.v g0_1)]) rfl rfl ?_
  refine H.mono fun rv_2 h_3 H => ?_
  obtain ⟨t8_1, rfl, hL_3, H⟩ := H
  exact H

/-! impl.ReverseGraph -/
def u20 (P : Program) (g0_1 : Sl) (h : Heap) (K : Value → Heap → Prop) : Prop :=
  ∀ (b_1 : Nat) (b_2 : Nat) (h_2 : Heap), h.size ≤ b_1 → h.size ≤ b_2 → Fr (In []) h h_2 → Vars h_2 [(b_2, [(Sl.v nilSl)]), (b_1, [(Sl.v g0_1)])] →
  callM P 26 #[(Value.agg #[(Sl.v g0_1)])] h_2 fun rv_1 h_3 => ∃ t10_1 : Bool, rv_1 = (VB t10_1) ∧ Vars h_3 [(b_2, [(Sl.v nilSl)]), (b_1, [(Sl.v g0_1)])] ∧
  ((!t10_1) = true →
  ∀ (h_4 : Heap), Fr (In [b_2]) h_3 h_4 → Vars h_4 [(b_2, [(Sl.v nilSl)]), (b_1, [(Sl.v g0_1)])] →
  K (Value.tuple #[(Value.agg #[(Sl.v nilSl)]), (VB false)]) h_4) ∧
  ((!t10_1) = false →
  eop P (Instr.makeSlice 24 (VI (g0_1.n : Int)) (VI (g0_1.n : Int))) h_3 fun rv_2 h_5 => ∃ t16_1 : Sl, rv_2 = (Sl.v t16_1) ∧ Vars h_5 [(b_2, [(Sl.v nilSl)]), (b_1, [(Sl.v g0_1)])] ∧
  ∀ (b_3 : Nat) (h_7 : Heap), h_5.size ≤ b_3 → Fr (In []) h_5 h_7 → Vars h_7 [(b_3, [(Sl.v t16_1)]), (b_2, [(Sl.v nilSl)]), (b_1, [(Sl.v g0_1)])] →
  ∃ J_1 : Nat → Int → Heap → Prop, (∃ n0 : Nat, J_1 n0 0 h_7) ∧
  ∀ (n_1 : Nat) (t21_1 : Int) (h_8 : Heap), J_1 n_1 t21_1 h_8 → Vars h_8 [(b_3, [(Sl.v t16_1)]), (b_2, [(Sl.v nilSl)]), (b_1, [(Sl.v g0_1)])] →
  ((decide (t21_1 < (g0_1.n : Int))) = true →
  InB g0_1 t21_1 ∧
  ∃ t25_1 : Sl, hcell h_8 (Sl.at g0_1 t21_1 1) = some (Sl.v t25_1) ∧
  ∃ J_2 : Nat → Int → Heap → Prop, (∃ n0 : Nat, J_2 n0 0 h_8) ∧
  ∀ (n_2 : Nat) (t28_1 : Int) (h_9 : Heap), J_2 n_2 t28_1 h_9 → Vars h_9 [(b_3, [(Sl.v t16_1)]), (b_2, [(Sl.v nilSl)]), (b_1, [(Sl.v g0_1)])] →
  ((decide (t28_1 < (t25_1.n : Int))) = true →
  InB t25_1 t28_1 ∧
  ∃ t31_1 : Int, hcell h_9 (Sl.at t25_1 t28_1 1) = some (VI t31_1) ∧
  InB t16_1 t31_1 ∧
  ∃ t39_1 : Sl, hcell h_9 (Sl.at t16_1 t31_1 1) = some (Sl.v t39_1) ∧
  eop P (Instr.buildSlice 36 1 #[(0, (VI t21_1))]) h_9 fun rv_3 h_10 => ∃ t41_1 : Sl, rv_3 = (Sl.v t41_1) ∧ Vars h_10 [(b_3, [(Sl.v t16_1)]), (b_2, [(Sl.v nilSl)]), (b_1, [(Sl.v g0_1)])] ∧
  hcell h_10 (Sl.at t16_1 t31_1 1) = some (Sl.v t39_1) ∧
  eop P (appS 36 36 36 (Sl.v t39_1) (Sl.v t41_1)) h_10 fun rv_4 h_11 => ∃ t42_1 : Sl, rv_4 = (Sl.v t42_1) ∧ Vars h_11 [(b_3, [(Sl.v t16_1)]), (b_2, [(Sl.v nilSl)]), (b_1, [(Sl.v g0_1)])] ∧
  InB t16_1 t31_1 ∧
  Writable h_11 (Sl.at t16_1 t31_1 1) ∧ Vars (hset h_11 (Sl.at t16_1 t31_1 1) (Sl.v t42_1)) [(b_3, [(Sl.v t16_1)]), (b_2, [(Sl.v nilSl)]), (b_1, [(Sl.v g0_1)])] ∧
  ∀ h_12 : Heap, h_12 = hset h_11 (Sl.at t16_1 t31_1 1) (Sl.v t42_1) → Vars h_12 [(b_3, [(Sl.v t16_1)]), (b_2, [(Sl.v nilSl)]), (b_1, [(Sl.v g0_1)])] →
  ∃ m : Nat, m < n_2 ∧ J_2 m (w64 (t28_1 + 1)) h_12) ∧
  ((decide (t28_1 < (t25_1.n : Int))) = false →
  ∃ m : Nat, m < n_1 ∧ J_1 m (w64 (t21_1 + 1)) h_9)) ∧
  ((decide (t21_1 < (g0_1.n : Int))) = false →
  callM P 34 #[(Value.agg #[(Sl.v t16_1)])] h_8 fun rv_5 h_13 => ∃ t47_1 : Sl, ∃ t47_2 : Bool, rv_5 = (Value.tuple #[(Value.agg #[(Sl.v t47_1)]), (VB t47_2)]) ∧ Vars h_13 [(b_3, [(Sl.v t16_1)]), (b_2, [(Sl.v nilSl)]), (b_1, [(Sl.v g0_1)])] ∧
  ∀ (h_14 : Heap), Fr (In [b_2]) h_13 h_14 → Vars h_14 [(b_3, [(Sl.v t16_1)]), (b_2, [(Sl.v t47_1)]), (b_1, [(Sl.v g0_1)])] →
  K (Value.tuple #[(Value.agg #[(Sl.v t47_1)]), (VB t47_2)]) h_14))
theorem v20 (g0_1 : Sl) (h : Heap) (K : Value → Heap → Prop) (H : u20 Tryz.prog g0_1 h K) : callM Tryz.prog 20 #[(Value.agg #[(Sl.v g0_1)])] h K := by
  refine c20 (Value.agg #[(Sl.v g0_1)]) h K ?_
  unfold u20 at H
  unfold t20
  have hL : Vars h [] := .nil
  refine eop_box 26 (Value.agg #[(Sl.v g0_1)]) rfl hL (fun b_1 h_1 hb_1 hf_1 hL_1 => ?_)
  refine eop_alloc 26 zer26 rfl hL_1 (fun b_2 h_2 hb_2 hf_2 hL_2 => ?_)
  refine rop_locA agg26 hL_2 1 rfl 0 (vs := [(Sl.v g0_1)]) rfl rfl ?_
  have H := H b_1 b_2 h_2 (Nat.le_trans (Fr.size (Fr.r (In []) _)) hb_1) (Nat.le_trans (Fr.size (Fr.no' (Fr.r (In []) _) hf_1)) hb_2) (Fr.no' (Fr.no' (Fr.r (In []) _) hf_1) hf_2) hL_2
  refine H.mono fun rv_1 h_3 H => ?_
  obtain ⟨t10_1, rfl, hL_3, H⟩ := H
  refine pop_not t10_1 ?_
  refine condM_b (fun hb_3 => ?_) (fun hb_3 => ?_)
  ·have H := H.1 hb_3
   refine pop.mk' (v := (Value.agg #[(Sl.v nilSl)])) (fun w => by kernel_rfl) ?_
   refine uop_loc siz26 hL_3 0 rfl 0 [(Sl.v nilSl)] rfl rfl rfl (Nat.le_of_ble_eq_true rfl) (L' := [(b_2, [(Sl.v nilSl)]), (b_1, [(Sl.v g0_1)])]) rfl (fun h_4 hf_3 hL_4 => ?_)
   refine rop_locA agg26 hL_4 0 rfl 0 (vs := [(Sl.v nilSl)]) rfl rfl ?_
   have H := H  h_4  (Fr.old (Fr.r (In []) _) hf_3) hL_4
   exact H
  have H := H.2 hb_3
  refine pop_field 0 fld26_0 b_1 0 ?_
  refine rop_loc one24 hL_3 1 rfl 0 (v := (Sl.v g0_1)) rfl ?_
  refine pop_len g0_1 _ _ sli24 ?_
  refine H.mono fun rv_2 h_5 H => ?_
  obtain ⟨t16_1, rfl, hL_5, H⟩ := H
  refine pop.mk' (v := (Value.agg #[(Sl.v t16_1)])) (fun w => by kernel_rfl) ?_
  refine eop_alloc 26 zer26 rfl hL_5 (fun b_3 h_6 hb_4 hf_4 hL_6 => ?_)
  refine uop_loc siz26 hL_6 0 rfl 0 [(Sl.v t16_1)] rfl rfl rfl (Nat.le_of_ble_eq_true rfl) (L' := [(b_3, [(Sl.v t16_1)]), (b_2, [(Sl.v nilSl)]), (b_1, [(Sl.v g0_1)])]) rfl (fun h_7 hf_5 hL_7 => ?_)
  refine pop_field 0 fld26_0 b_1 0 ?_
  refine rop_loc one24 hL_7 2 rfl 0 (v := (Sl.v g0_1)) rfl ?_
  refine pop_len g0_1 _ _ sli24 ?_
  have H := H b_3 h_7 (Nat.le_trans (Fr.size (Fr.r (In []) _)) hb_4) (Fr.new (Fr.no' (Fr.r (In []) _) hf_4) (Nat.le_trans (Fr.size (Fr.r (In []) _)) hb_4) hf_5) hL_7
  obtain ⟨J_1, ⟨n_4, h0_2⟩, HB_2⟩ := H
  refine loop_intro (J := fun (n : Nat) (vs : List Value) (h' : Heap) => ∃ t21_1 : Int, vs = [(VI t21_1)] ∧ J_1 n t21_1 h' ∧ Vars h' [(b_3, [(Sl.v t16_1)]), (b_2, [(Sl.v nilSl)]), (b_1, [(Sl.v g0_1)])]) n_4 ⟨0, rfl, h0_2, hL_7⟩ ?_
  intro I_2 mu_2 hI_2 junk_1 tv_2 h_8 hi_1
  obtain ⟨n_1, ⟨t21_1, hv, hJ_1, hL_8⟩, hn_1⟩ := hI_2 _ _ hi_1
  cases hv
  have H := HB_2 n_1 t21_1 h_8 hJ_1 hL_8
  refine pop_lss .i64 t21_1 (g0_1.n : Int) ?_
  refine condM_b (fun hb_5 => ?_) (fun hb_5 => ?_)
  rotate_left
  ·have H := H.2 hb_5
   refine rop_locA agg26 hL_8 0 rfl 0 (vs := [(Sl.v t16_1)]) rfl rfl ?_
   refine H.mono fun rv_5 h_13 H => ?_
   obtain ⟨t47_1, t47_2, rfl, hL_13, H⟩ := H
   refine pop_ext (v := (Value.agg #[(Sl.v t47_1)])) rfl ?_
   refine pop_ext (v := (VB t47_2)) rfl ?_
   refine uop_loc siz26 hL_13 1 rfl 0 [(Sl.v t47_1)] rfl rfl rfl (Nat.le_of_ble_eq_true rfl) (L' := [(b_3, [(Sl.v t16_1)]), (b_2, [(Sl.v t47_1)]), (b_1, [(Sl.v g0_1)])]) rfl (fun h_14 hf_6 hL_14 => ?_)
   refine rop_locA agg26 hL_14 1 rfl 0 (vs := [(Sl.v t47_1)]) rfl rfl ?_
   have H := H  h_14  (Fr.old (Fr.r (In []) _) hf_6) hL_14
   exact H
  have H := H.1 hb_5
  obtain ⟨hi_2, H⟩ := H
  refine pop_index sli24 siz36 .i64 g0_1 t21_1 hi_2 ?_
  obtain ⟨t25_1, hc_4, H⟩ := H
  refine rop_one one36 (Sl.v t25_1) hc_4 ?_
  refine pop_len t25_1 _ _ sli36 ?_
  obtain ⟨J_2, ⟨n_3, h0_1⟩, HB_1⟩ := H
  refine loop_intro (J := fun (n : Nat) (vs : List Value) (h' : Heap) => ∃ t28_1 : Int, vs = [(VI t28_1)] ∧ J_2 n t28_1 h' ∧ Vars h' [(b_3, [(Sl.v t16_1)]), (b_2, [(Sl.v nilSl)]), (b_1, [(Sl.v g0_1)])]) n_3 ⟨0, rfl, h0_1, hL_8⟩ ?_
  intro I_1 mu_1 hI_1 junk_2 tv_1 h_9 hi_3
  obtain ⟨n_2, ⟨t28_1, hv, hJ_2, hL_9⟩, hn_2⟩ := hI_1 _ _ hi_3
  cases hv
  have H := HB_1 n_2 t28_1 h_9 hJ_2 hL_9
  refine pop_lss .i64 t28_1 (t25_1.n : Int) ?_
  refine condM_b (fun hb_6 => ?_) (fun hb_6 => ?_)
  rotate_left
  ·have H := H.2 hb_6
   refine pop_add .i64 t21_1 1 ?_
   obtain ⟨m_2, hm_2, H⟩ := H
   exact hn_1 _ _ ⟨m_2, hm_2, (w64 (t21_1 + 1)), rfl, H, hL_9⟩
  have H := H.1 hb_6
  obtain ⟨hi_4, H⟩ := H
  refine pop_index sli36 siz3 .i64 t25_1 t28_1 hi_4 ?_
  obtain ⟨t31_1, hc_3, H⟩ := H
  refine rop_one one3 (VI t31_1) hc_3 ?_
  refine pop_field 0 fld26_0 b_3 0 ?_
  refine rop_loc one24 hL_9 0 rfl 0 (v := (Sl.v t16_1)) rfl ?_
  refine pop_field 0 fld26_0 b_3 0 ?_
  refine rop_loc one24 hL_9 0 rfl 0 (v := (Sl.v t16_1)) rfl ?_
  obtain ⟨hi_5, H⟩ := H
  refine pop_index sli24 siz36 .i64 t16_1 t31_1 hi_5 ?_
  obtain ⟨t39_1, hc_2, H⟩ := H
  refine rop_one one36 (Sl.v t39_1) hc_2 ?_
  refine H.mono fun rv_3 h_10 H => ?_
  obtain ⟨t41_1, rfl, hL_10, H⟩ := H
  refine ⟨?_, ?_⟩
  ·exact still_one one36 H.1
  obtain ⟨hc_1, H⟩ := H
  refine ⟨?_, ?_⟩
  ·exact still_loc one24 hL_10 0 rfl 0 (v := (Sl.v t16_1)) rfl
  refine ⟨?_, ?_⟩
  ·exact still_loc one24 hL_10 0 rfl 0 (v := (Sl.v t16_1)) rfl
  refine H.mono fun rv_4 h_11 H => ?_
  obtain ⟨t42_1, rfl, hL_11, H⟩ := H
  refine ⟨?_, ?_⟩
  ·exact still_loc one24 hL_11 0 rfl 0 (v := (Sl.v t16_1)) rfl
  refine ⟨?_, ?_⟩
  ·exact still_loc one24 hL_11 0 rfl 0 (v := (Sl.v t16_1)) rfl
  obtain ⟨hi_6, H⟩ := H
  refine pop_index sli24 siz36 .i64 t16_1 t31_1 hi_6 ?_
  obtain ⟨hw_1, hL_12, H⟩ := H
  refine uop_cell (v := (Sl.v t42_1)) siz36 hw_1 rfl (fun h_12 he_1 => ?_)
  rw [← he_1] at hL_12
  have H := H h_12 he_1 hL_12
  refine pop_add .i64 t28_1 1 ?_
  obtain ⟨m_1, hm_1, H⟩ := H
  exact hn_2 _ _ ⟨m_1, hm_1, (w64 (t28_1 + 1)), rfl, H, hL_12⟩

/-! spec.ReverseGraph -/
def u21 (P : Program) (g0_1 : Sl) (h : Heap) (K : Value → Heap → Prop) : Prop :=
  ∀ (b_1 : Nat) (b_2 : Nat) (h_2 : Heap), h.size ≤ b_1 → h.size ≤ b_2 → Fr (In []) h h_2 → Vars h_2 [(b_2, [(Sl.v nilSl)]), (b_1, [(Sl.v g0_1)])] →
  callM P 28 #[(Value.agg #[(Sl.v g0_1)])] h_2 fun rv_1 h_3 => ∃ t10_1 : Bool, rv_1 = (VB t10_1) ∧ Vars h_3 [(b_2, [(Sl.v nilSl)]), (b_1, [(Sl.v g0_1)])] ∧
  ((!t10_1) = true →
  ∀ (h_4 : Heap), Fr (In [b_2]) h_3 h_4 → Vars h_4 [(b_2, [(Sl.v nilSl)]), (b_1, [(Sl.v g0_1)])] →
  K (Value.tuple #[(Value.agg #[(Sl.v nilSl)]), (VB false)]) h_4) ∧
  ((!t10_1) = false →
  eop P (Instr.makeSlice 24 (VI (g0_1.n : Int)) (VI (g0_1.n : Int))) h_3 fun rv_2 h_5 => ∃ t16_1 : Sl, rv_2 = (Sl.v t16_1) ∧ Vars h_5 [(b_2, [(Sl.v nilSl)]), (b_1, [(Sl.v g0_1)])] ∧
  ∀ (b_3 : Nat) (h_7 : Heap), h_5.size ≤ b_3 → Fr (In []) h_5 h_7 → Vars h_7 [(b_3, [(Sl.v t16_1)]), (b_2, [(Sl.v nilSl)]), (b_1, [(Sl.v g0_1)])] →
  ∃ J_1 : Nat → Int → Heap → Prop, (∃ n0 : Nat, J_1 n0 0 h_7) ∧
  ∀ (n_1 : Nat) (t21_1 : Int) (h_8 : Heap), J_1 n_1 t21_1 h_8 → Vars h_8 [(b_3, [(Sl.v t16_1)]), (b_2, [(Sl.v nilSl)]), (b_1, [(Sl.v g0_1)])] →
  ((decide (t21_1 < (g0_1.n : Int))) = true →
  InB g0_1 t21_1 ∧
  ∃ t25_1 : Sl, hcell h_8 (Sl.at g0_1 t21_1 1) = some (Sl.v t25_1) ∧
  ∃ J_2 : Nat → Int → Heap → Prop, (∃ n0 : Nat, J_2 n0 0 h_8) ∧
  ∀ (n_2 : Nat) (t28_1 : Int) (h_9 : Heap), J_2 n_2 t28_1 h_9 → Vars h_9 [(b_3, [(Sl.v t16_1)]), (b_2, [(Sl.v nilSl)]), (b_1, [(Sl.v g0_1)])] →
  ((decide (t28_1 < (t25_1.n : Int))) = true →
  InB t25_1 t28_1 ∧
  ∃ t31_1 : Int, hcell h_9 (Sl.at t25_1 t28_1 1) = some (VI t31_1) ∧
  InB t16_1 t31_1 ∧
  ∃ t39_1 : Sl, hcell h_9 (Sl.at t16_1 t31_1 1) = some (Sl.v t39_1) ∧
  eop P (Instr.buildSlice 36 1 #[(0, (VI t21_1))]) h_9 fun rv_3 h_10 => ∃ t41_1 : Sl, rv_3 = (Sl.v t41_1) ∧ Vars h_10 [(b_3, [(Sl.v t16_1)]), (b_2, [(Sl.v nilSl)]), (b_1, [(Sl.v g0_1)])] ∧
  hcell h_10 (Sl.at t16_1 t31_1 1) = some (Sl.v t39_1) ∧
  eop P (appS 36 36 36 (Sl.v t39_1) (Sl.v t41_1)) h_10 fun rv_4 h_11 => ∃ t42_1 : Sl, rv_4 = (Sl.v t42_1) ∧ Vars h_11 [(b_3, [(Sl.v t16_1)]), (b_2, [(Sl.v nilSl)]), (b_1, [(Sl.v g0_1)])] ∧
  InB t16_1 t31_1 ∧
  Writable h_11 (Sl.at t16_1 t31_1 1) ∧ Vars (hset h_11 (Sl.at t16_1 t31_1 1) (Sl.v t42_1)) [(b_3, [(Sl.v t16_1)]), (b_2, [(Sl.v nilSl)]), (b_1, [(Sl.v g0_1)])] ∧
  ∀ h_12 : Heap, h_12 = hset h_11 (Sl.at t16_1 t31_1 1) (Sl.v t42_1) → Vars h_12 [(b_3, [(Sl.v t16_1)]), (b_2, [(Sl.v nilSl)]), (b_1, [(Sl.v g0_1)])] →
  ∃ m : Nat, m < n_2 ∧ J_2 m (w64 (t28_1 + 1)) h_12) ∧
  ((decide (t28_1 < (t25_1.n : Int))) = false →
  ∃ m : Nat, m < n_1 ∧ J_1 m (w64 (t21_1 + 1)) h_9)) ∧
  ((decide (t21_1 < (g0_1.n : Int))) = false →
  callM P 40 #[(Value.agg #[(Sl.v t16_1)])] h_8 fun rv_5 h_13 => ∃ t47_1 : Sl, ∃ t47_2 : Bool, rv_5 = (Value.tuple #[(Value.agg #[(Sl.v t47_1)]), (VB t47_2)]) ∧ Vars h_13 [(b_3, [(Sl.v t16_1)]), (b_2, [(Sl.v nilSl)]), (b_1, [(Sl.v g0_1)])] ∧
  ∀ (h_14 : Heap), Fr (In [b_2]) h_13 h_14 → Vars h_14 [(b_3, [(Sl.v t16_1)]), (b_2, [(Sl.v t47_1)]), (b_1, [(Sl.v g0_1)])] →
  K (Value.tuple #[(Value.agg #[(Sl.v t47_1)]), (VB t47_2)]) h_14))
theorem v21 (g0_1 : Sl) (h : Heap) (K : Value → Heap → Prop) (H : u21 Tryz.prog g0_1 h K) : callM Tryz.prog 21 #[(Value.agg #[(Sl.v g0_1)])] h K := by
  refine c21 (Value.agg #[(Sl.v g0_1)]) h K ?_
  unfold u21 at H
  unfold t21
  have hL : Vars h [] := .nil
  refine eop_box 26 (Value.agg #[(Sl.v g0_1)]) rfl hL (fun b_1 h_1 hb_1 hf_1 hL_1 => ?_)
  refine eop_alloc 26 zer26 rfl hL_1 (fun b_2 h_2 hb_2 hf_2 hL_2 => ?_)
  refine rop_locA agg26 hL_2 1 rfl 0 (vs := [(Sl.v g0_1)]) rfl rfl ?_
  have H := H b_1 b_2 h_2 (Nat.le_trans (Fr.size (Fr.r (In []) _)) hb_1) (Nat.le_trans (Fr.size (Fr.no' (Fr.r (In []) _) hf_1)) hb_2) (Fr.no' (Fr.no' (Fr.r (In []) _) hf_1) hf_2) hL_2
  refine H.mono fun rv_1 h_3 H => ?_
  obtain ⟨t10_1, rfl, hL_3, H⟩ := H
  refine pop_not t10_1 ?_
  refine condM_b (fun hb_3 => ?_) (fun hb_3 => ?_)
  ·have H := H.1 hb_3
   refine pop.mk' (v := (Value.agg #[(Sl.v nilSl)])) (fun w => by kernel_rfl) ?_
   refine uop_loc siz26 hL_3 0 rfl 0 [(Sl.v nilSl)] rfl rfl rfl (Nat.le_of_ble_eq_true rfl) (L' := [(b_2, [(Sl.v nilSl)]), (b_1, [(Sl.v g0_1)])]) rfl (fun h_4 hf_3 hL_4 => ?_)
   refine rop_locA agg26 hL_4 0 rfl 0 (vs := [(Sl.v nilSl)]) rfl rfl ?_
   have H := H  h_4  (Fr.old (Fr.r (In []) _) hf_3) hL_4
   exact H
  have H := H.2 hb_3
  refine pop_field 0 fld26_0 b_1 0 ?_
  refine rop_loc one24 hL_3 1 rfl 0 (v := (Sl.v g0_1)) rfl ?_
  refine pop_len g0_1 _ _ sli24 ?_
  refine H.mono fun rv_2 h_5 H => ?_
  obtain ⟨t16_1, rfl, hL_5, H⟩ := H
  refine pop.mk' (v := (Value.agg #[(Sl.v t16_1)])) (fun w => by kernel_rfl) ?_
  refine eop_alloc 26 zer26 rfl hL_5 (fun b_3 h_6 hb_4 hf_4 hL_6 => ?_)
  refine uop_loc siz26 hL_6 0 rfl 0 [(Sl.v t16_1)] rfl rfl rfl (Nat.le_of_ble_eq_true rfl) (L' := [(b_3, [(Sl.v t16_1)]), (b_2, [(Sl.v nilSl)]), (b_1, [(Sl.v g0_1)])]) rfl (fun h_7 hf_5 hL_7 => ?_)
  refine pop_field 0 fld26_0 b_1 0 ?_
  refine rop_loc one24 hL_7 2 rfl 0 (v := (Sl.v g0_1)) rfl ?_
  refine pop_len g0_1 _ _ sli24 ?_
  have H := H b_3 h_7 (Nat.le_trans (Fr.size (Fr.r (In []) _)) hb_4) (Fr.new (Fr.no' (Fr.r (In []) _) hf_4) (Nat.le_trans (Fr.size (Fr.r (In []) _)) hb_4) hf_5) hL_7
  obtain ⟨J_1, ⟨n_4, h0_2⟩, HB_2⟩ := H
  refine loop_intro (J := fun (n : Nat) (vs : List Value) (h' : Heap) => ∃ t21_1 : Int, vs = [(VI t21_1)] ∧ J_1 n t21_1 h' ∧ Vars h' [(b_3, [(Sl.v t16_1)]), (b_2, [(Sl.v nilSl)]), (b_1, [(Sl.v g0_1)])]) n_4 ⟨0, rfl, h0_2, hL_7⟩ ?_
  intro I_2 mu_2 hI_2 junk_1 tv_2 h_8 hi_1
  obtain ⟨n_1, ⟨t21_1, hv, hJ_1, hL_8⟩, hn_1⟩ := hI_2 _ _ hi_1
  cases hv
  have H := HB_2 n_1 t21_1 h_8 hJ_1 hL_8
  refine pop_lss .i64 t21_1 (g0_1.n : Int) ?_
  refine condM_b (fun hb_5 => ?_) (fun hb_5 => ?_)
  rotate_left
  ·have H := H.2 hb_5
   refine rop_locA agg26 hL_8 0 rfl 0 (vs := [(Sl.v t16_1)]) rfl rfl ?_
   refine H.mono fun rv_5 h_13 H => ?_
   obtain ⟨t47_1, t47_2, rfl, hL_13, H⟩ := H
   refine pop_ext (v := (Value.agg #[(Sl.v t47_1)])) rfl ?_
   refine pop_ext (v := (VB t47_2)) rfl ?_
   refine uop_loc siz26 hL_13 1 rfl 0 [(Sl.v t47_1)] rfl rfl rfl (Nat.le_of_ble_eq_true rfl) (L' := [(b_3, [(Sl.v t16_1)]), (b_2, [(Sl.v t47_1)]), (b_1, [(Sl.v g0_1)])]) rfl (fun h_14 hf_6 hL_14 => ?_)
   refine rop_locA agg26 hL_14 1 rfl 0 (vs := [(Sl.v t47_1)]) rfl rfl ?_
   have H := H  h_14  (Fr.old (Fr.r (In []) _) hf_6) hL_14
   exact H
  have H := H.1 hb_5
  obtain ⟨hi_2, H⟩ := H
  refine pop_index sli24 siz36 .i64 g0_1 t21_1 hi_2 ?_
  obtain ⟨t25_1, hc_4, H⟩ := H
  refine rop_one one36 (Sl.v t25_1) hc_4 ?_
  refine pop_len t25_1 _ _ sli36 ?_
  obtain ⟨J_2, ⟨n_3, h0_1⟩, HB_1⟩ := H
  refine loop_intro (J := fun (n : Nat) (vs : List Value) (h' : Heap) => ∃ t28_1 : Int, vs = [(VI t28_1)] ∧ J_2 n t28_1 h' ∧ Vars h' [(b_3, [(Sl.v t16_1)]), (b_2, [(Sl.v nilSl)]), (b_1, [(Sl.v g0_1)])]) n_3 ⟨0, rfl, h0_1, hL_8⟩ ?_
  intro I_1 mu_1 hI_1 junk_2 tv_1 h_9 hi_3
  obtain ⟨n_2, ⟨t28_1, hv, hJ_2, hL_9⟩, hn_2⟩ := hI_1 _ _ hi_3
  cases hv
  have H := HB_1 n_2 t28_1 h_9 hJ_2 hL_9
  refine pop_lss .i64 t28_1 (t25_1.n : Int) ?_
  refine condM_b (fun hb_6 => ?_) (fun hb_6 => ?_)
  rotate_left
  ·have H := H.2 hb_6
   refine pop_add .i64 t21_1 1 ?_
   obtain ⟨m_2, hm_2, H⟩ := H
   exact hn_1 _ _ ⟨m_2, hm_2, (w64 (t21_1 + 1)), rfl, H, hL_9⟩
  have H := H.1 hb_6
  obtain ⟨hi_4, H⟩ := H
  refine pop_index sli36 siz3 .i64 t25_1 t28_1 hi_4 ?_
  obtain ⟨t31_1, hc_3, H⟩ := H
  refine rop_one one3 (VI t31_1) hc_3 ?_
  refine pop_field 0 fld26_0 b_3 0 ?_
  refine rop_loc one24 hL_9 0 rfl 0 (v := (Sl.v t16_1)) rfl ?_
  refine pop_field 0 fld26_0 b_3 0 ?_
  refine rop_loc one24 hL_9 0 rfl 0 (v := (Sl.v t16_1)) rfl ?_
  obtain ⟨hi_5, H⟩ := H
  refine pop_index sli24 siz36 .i64 t16_1 t31_1 hi_5 ?_
  obtain ⟨t39_1, hc_2, H⟩ := H
  refine rop_one one36 (Sl.v t39_1) hc_2 ?_
  refine H.mono fun rv_3 h_10 H => ?_
  obtain ⟨t41_1, rfl, hL_10, H⟩ := H
  refine ⟨?_, ?_⟩
  ·exact still_one one36 H.1
  obtain ⟨hc_1, H⟩ := H
  refine ⟨?_, ?_⟩
  ·exact still_loc one24 hL_10 0 rfl 0 (v := (Sl.v t16_1)) rfl
  refine ⟨?_, ?_⟩
  ·exact still_loc one24 hL_10 0 rfl 0 (v := (Sl.v t16_1)) rfl
  refine H.mono fun rv_4 h_11 H => ?_
  obtain ⟨t42_1, rfl, hL_11, H⟩ := H
  refine ⟨?_, ?_⟩
  ·exact still_loc one24 hL_11 0 rfl 0 (v := (Sl.v t16_1)) rfl
  refine ⟨?_, ?_⟩
  ·exact still_loc one24 hL_11 0 rfl 0 (v := (Sl.v t16_1)) rfl
  obtain ⟨hi_6, H⟩ := H
  refine pop_index sli24 siz36 .i64 t16_1 t31_1 hi_6 ?_
  obtain ⟨hw_1, hL_12, H⟩ := H
  refine uop_cell (v := (Sl.v t42_1)) siz36 hw_1 rfl (fun h_12 he_1 => ?_)
  rw [← he_1] at hL_12
  have H := H h_12 he_1 hL_12
  refine pop_add .i64 t28_1 1 ?_
  obtain ⟨m_1, hm_1, H⟩ := H
  exact hn_2 _ _ ⟨m_1, hm_1, (w64 (t28_1 + 1)), rfl, H, hL_12⟩

/-! impl.IsStrong -/
def u22 (P : Program) (g0_1 : Sl) (h : Heap) (K : Value → Heap → Prop) : Prop :=
  ∀ (b_1 : Nat) (h_1 : Heap), h.size ≤ b_1 → Fr (In []) h h_1 → Vars h_1 [(b_1, [(Sl.v g0_1)])] →
  callM P 26 #[(Value.agg #[(Sl.v g0_1)])] h_1 fun rv_1 h_2 => ∃ t5_1 : Bool, rv_1 = (VB t5_1) ∧ Vars h_2 [(b_1, [(Sl.v g0_1)])] ∧
  ((!t5_1) = true →
  K (Value.tuple #[(VB false), (VB false)]) h_2) ∧
  ((!t5_1) = false →
  callM P 41 #[(Value.agg #[(Sl.v g0_1)])] h_2 fun rv_2 h_3 => ∃ t8_1 : Bool, rv_2 = (VB t8_1) ∧ Vars h_3 [(b_1, [(Sl.v g0_1)])] ∧
  K (Value.tuple #[(VB t8_1), (VB true)]) h_3)
theorem v22 (g0_1 : Sl) (h : Heap) (K : Value → Heap → Prop) (H : u22 Tryz.prog g0_1 h K) : callM Tryz.prog 22 #[(Value.agg #[(Sl.v g0_1)])] h K := by
  refine c22 (Value.agg #[(Sl.v g0_1)]) h K ?_
  unfold u22 at H
  unfold t22
  have hL : Vars h [] := .nil
  refine eop_box 26 (Value.agg #[(Sl.v g0_1)]) rfl hL (fun b_1 h_1 hb_1 hf_1 hL_1 => ?_)
  refine rop_locA agg26 hL_1 0 rfl 0 (vs := [(Sl.v g0_1)]) rfl rfl ?_
  have H := H b_1 h_1 (Nat.le_trans (Fr.size (Fr.r (In []) _)) hb_1) (Fr.no' (Fr.r (In []) _) hf_1) hL_1
  refine H.mono fun rv_1 h_2 H => ?_
  obtain ⟨t5_1, rfl, hL_2, H⟩ := H
  refine pop_not t5_1 ?_
  refine condM_b (fun hb_2 => ?_) (fun hb_2 => ?_)
  ·have H := H.1 hb_2
   exact H
  have H := H.2 hb_2
  refine rop_locA agg26 hL_2 0 rfl 0 (vs := [(Sl.v g0_1)]) rfl rfl ?_
  refine H.mono fun rv_2 h_3 H => ?_
  obtain ⟨t8_1, rfl, hL_3, H⟩ := H
  exact H

/-! spec.DrawParseGraph -/
def u23 (P : Program) (code0_1 : Sl) (h : Heap) (K : Value → Heap → Prop) : Prop :=
  ∀ (b_1 : Nat) (h_1 : Heap), h.size ≤ b_1 → Fr (In []) h h_1 → Vars h_1 [(b_1, [(Sl.v code0_1), (VI 0), (Value.int .u64 0)])] →
  callM P 42 #[(VP b_1 0), (VI 5)] h_1 fun rv_1 h_2 => ∃ x_1 : Sl, ∃ x_2 : Int, ∃ x_3 : Int, ∃ t9_1 : Sl, rv_1 = (Value.agg #[(Sl.v t9_1)]) ∧ Vars h_2 [(b_1, [(Sl.v x_1), (VI x_2), (Value.int .u64 x_3)])] ∧
  callM P 29 #[(Value.agg #[(Sl.v t9_1)])] h_2 fun rv_2 h_3 => ∃ t10_1 : ByteArray, rv_2 = (VS t10_1) ∧ Vars h_3 [(b_1, [(Sl.v x_1), (VI x_2), (Value.int .u64 x_3)])] ∧
  callM P 43 #[(VP b_1 0), (VI 3)] h_3 fun rv_3 h_4 => ∃ x_4 : Sl, ∃ x_5 : Int, ∃ x_6 : Int, ∃ t12_1 : Bool, rv_3 = (VB t12_1) ∧ Vars h_4 [(b_1, [(Sl.v x_4), (VI x_5), (Value.int .u64 x_6)])] ∧
  (t12_1 = true →
  callM P 44 #[(VP b_1 0), (VS t10_1), (VS ({ data := #[48, 49, 50, 51, 52, 53, 54, 55, 59, 44, 45, 32] }))] h_4 fun rv_4 h_5 => ∃ x_7 : Sl, ∃ x_8 : Int, ∃ x_9 : Int, ∃ t15_1 : ByteArray, rv_4 = (VS t15_1) ∧ Vars h_5 [(b_1, [(Sl.v x_7), (VI x_8), (Value.int .u64 x_9)])] ∧
  K (VS t15_1) h_5) ∧
  (t12_1 = false →
  K (VS t10_1) h_4)
theorem v23 (code0_1 : Sl) (h : Heap) (K : Value → Heap → Prop) (H : u23 Tryz.prog code0_1 h K) : callM Tryz.prog 23 #[(Sl.v code0_1)] h K := by
  refine c23 (Sl.v code0_1) h K ?_
  unfold u23 at H
  unfold t23
  have hL : Vars h [] := .nil
  refine pop.mk' (v := (Value.agg #[(Sl.v code0_1), (VI 0), (Value.int .u64 0)])) (fun w => by kernel_rfl) ?_
  refine eop_box 59 (Value.agg #[(Sl.v code0_1), (VI 0), (Value.int .u64 0)]) rfl hL (fun b_1 h_1 hb_1 hf_1 hL_1 => ?_)
  have H := H b_1 h_1 (Nat.le_trans (Fr.size (Fr.r (In []) _)) hb_1) (Fr.no' (Fr.r (In []) _) hf_1) hL_1
  refine H.mono fun rv_1 h_2 H => ?_
  obtain ⟨x_1, x_2, x_3, t9_1, rfl, hL_2, H⟩ := H
  refine H.mono fun rv_2 h_3 H => ?_
  obtain ⟨t10_1, rfl, hL_3, H⟩ := H
  refine H.mono fun rv_3 h_4 H => ?_
  obtain ⟨x_4, x_5, x_6, t12_1, rfl, hL_4, H⟩ := H
  refine condM_b (fun hb_2 => ?_) (fun hb_2 => ?_)
  rotate_left
  ·have H := H.2 hb_2
   exact H
  have H := H.1 hb_2
  refine H.mono fun rv_4 h_5 H => ?_
  obtain ⟨x_7, x_8, x_9, t15_1, rfl, hL_5, H⟩ := H
  exact H

/-! spec.ParseGraph -/
def u24 (P : Program) (s0_1 : ByteArray) (h : Heap) (K : Value → Heap → Prop) : Prop :=
  ∀ (b_1 : Nat) (h_1 : Heap), h.size ≤ b_1 → Fr (In []) h h_1 → Vars h_1 [(b_1, [(Sl.v nilSl)])] →
  callM P 45 #[(VS s0_1)] h_1 fun rv_1 h_2 => ∃ t5_1 : Sl, ∃ t5_2 : Bool, rv_1 = (Value.tuple #[(Value.agg #[(Sl.v t5_1)]), (VB t5_2)]) ∧ Vars h_2 [(b_1, [(Sl.v nilSl)])] ∧
  ∀ (h_3 : Heap), Fr (In [b_1]) h_2 h_3 → Vars h_3 [(b_1, [(Sl.v t5_1)])] →
  K (Value.tuple #[(Value.agg #[(Sl.v t5_1)]), (VB t5_2)]) h_3
theorem v24 (s0_1 : ByteArray) (h : Heap) (K : Value → Heap → Prop) (H : u24 Tryz.prog s0_1 h K) : callM Tryz.prog 24 #[(VS s0_1)] h K := by
  refine c24 (VS s0_1) h K ?_
  unfold u24 at H
  unfold t24
  have hL : Vars h [] := .nil
  refine eop_alloc 26 zer26 rfl hL (fun b_1 h_1 hb_1 hf_1 hL_1 => ?_)
  have H := H b_1 h_1 (Nat.le_trans (Fr.size (Fr.r (In []) _)) hb_1) (Fr.no' (Fr.r (In []) _) hf_1) hL_1
  refine H.mono fun rv_1 h_2 H => ?_
  obtain ⟨t5_1, t5_2, rfl, hL_2, H⟩ := H
  refine pop_ext (v := (Value.agg #[(Sl.v t5_1)])) rfl ?_
  refine pop_ext (v := (VB t5_2)) rfl ?_
  refine uop_loc siz26 hL_2 0 rfl 0 [(Sl.v t5_1)] rfl rfl rfl (Nat.le_of_ble_eq_true rfl) (L' := [(b_1, [(Sl.v t5_1)])]) rfl (fun h_3 hf_2 hL_3 => ?_)
  refine rop_locA agg26 hL_3 0 rfl 0 (vs := [(Sl.v t5_1)]) rfl rfl ?_
  have H := H  h_3  (Fr.old (Fr.r (In []) _) hf_2) hL_3
  exact H

/-! spec.DrawIsGraph -/
def u25 (P : Program) (code0_1 : Sl) (h : Heap) (K : Value → Heap → Prop) : Prop :=
  ∀ (b_1 : Nat) (b_2 : Nat) (h_2 : Heap), h.size ≤ b_1 → h.size ≤ b_2 → Fr (In []) h h_2 → Vars h_2 [(b_2, [(Sl.v code0_1), (VI 0), (Value.int .u64 0)]), (b_1, [(Sl.v nilSl)])] →
  callM P 46 #[(VP b_2 0)] h_2 fun rv_1 h_3 => ∃ x_1 : Sl, ∃ x_2 : Int, ∃ x_3 : Int, ∃ t8_1 : Sl, rv_1 = (Value.agg #[(Sl.v t8_1)]) ∧ Vars h_3 [(b_2, [(Sl.v x_1), (VI x_2), (Value.int .u64 x_3)]), (b_1, [(Sl.v nilSl)])] ∧
  ∀ (h_4 : Heap), Fr (In [b_1]) h_3 h_4 → Vars h_4 [(b_2, [(Sl.v x_1), (VI x_2), (Value.int .u64 x_3)]), (b_1, [(Sl.v t8_1)])] →
  K (Value.agg #[(Sl.v t8_1)]) h_4
theorem v25 (code0_1 : Sl) (h : Heap) (K : Value → Heap → Prop) (H : u25 Tryz.prog code0_1 h K) : callM Tryz.prog 25 #[(Sl.v code0_1)] h K := by
  refine c25 (Sl.v code0_1) h K ?_
  unfold u25 at H
  unfold t25
  have hL : Vars h [] := .nil
  refine eop_alloc 26 zer26 rfl hL (fun b_1 h_1 hb_1 hf_1 hL_1 => ?_)
  refine pop.mk' (v := (Value.agg #[(Sl.v code0_1), (VI 0), (Value.int .u64 0)])) (fun w => by kernel_rfl) ?_
  refine eop_box 59 (Value.agg #[(Sl.v code0_1), (VI 0), (Value.int .u64 0)]) rfl hL_1 (fun b_2 h_2 hb_2 hf_2 hL_2 => ?_)
  have H := H b_1 b_2 h_2 (Nat.le_trans (Fr.size (Fr.r (In []) _)) hb_1) (Nat.le_trans (Fr.size (Fr.no' (Fr.r (In []) _) hf_1)) hb_2) (Fr.no' (Fr.no' (Fr.r (In []) _) hf_1) hf_2) hL_2
  refine H.mono fun rv_1 h_3 H => ?_
  obtain ⟨x_1, x_2, x_3, t8_1, rfl, hL_3, H⟩ := H
  refine uop_loc siz26 hL_3 1 rfl 0 [(Sl.v t8_1)] rfl rfl rfl (Nat.le_of_ble_eq_true rfl) (L' := [(b_2, [(Sl.v x_1), (VI x_2), (Value.int .u64 x_3)]), (b_1, [(Sl.v t8_1)])]) rfl (fun h_4 hf_3 hL_4 => ?_)
  refine rop_locA agg26 hL_4 1 rfl 0 (vs := [(Sl.v t8_1)]) rfl rfl ?_
  have H := H  h_4  (Fr.old (Fr.r (In []) _) hf_3) hL_4
  exact H

/-! impl.isGraph -/
def u26 (P : Program) (g0_1 : Sl) (h : Heap) (K : Value → Heap → Prop) : Prop :=
  ∀ (b_1 : Nat) (b_2 : Nat) (h_3 : Heap), h.size ≤ b_1 → h.size ≤ b_2 → Fr (In []) h h_3 → Vars h_3 [(b_2, [(VI (g0_1.n : Int))]), (b_1, [(Sl.v g0_1)])] →
  callM P 47 #[(VI (g0_1.n : Int)), (VI 1), (VI 8)] h_3 fun rv_1 h_4 => ∃ t10_1 : Bool, rv_1 = (VB t10_1) ∧ Vars h_4 [(b_2, [(VI (g0_1.n : Int))]), (b_1, [(Sl.v g0_1)])] ∧
  ((!t10_1) = true →
  K (VB false) h_4) ∧
  ((!t10_1) = false →
  ∃ J_1 : Nat → Int → Int → Heap → Prop, (∃ n0 : Nat, J_1 n0 0 (g0_1.n : Int) h_4) ∧
  ∀ (n_1 : Nat) (t15_1 : Int) (x_1 : Int) (h_5 : Heap), J_1 n_1 t15_1 x_1 h_5 → Vars h_5 [(b_2, [(VI x_1)]), (b_1, [(Sl.v g0_1)])] →
  ((decide (t15_1 < (g0_1.n : Int))) = true →
  InB g0_1 t15_1 ∧
  ∃ t18_1 : Sl, hcell h_5 (Sl.at g0_1 t15_1 1) = some (Sl.v t18_1) ∧
  ((decide (5 < (t18_1.n : Int))) = true →
  K (VB false) h_5) ∧
  ((decide (5 < (t18_1.n : Int))) = false →
  callM P 48 #[(Sl.v t18_1), (Value.func (Fn.func 49) #[] #[(VP b_2 0)])] h_5 fun rv_2 h_6 => ∃ x_2 : Int, ∃ t25_1 : Bool, rv_2 = (VB t25_1) ∧ Vars h_6 [(b_2, [(VI x_2)]), (b_1, [(Sl.v g0_1)])] ∧
  (t25_1 = true →
  K (VB false) h_6) ∧
  (t25_1 = false →
  ∃ m : Nat, m < n_1 ∧ J_1 m (w64 (t15_1 + 1)) x_2 h_6))) ∧
  ((decide (t15_1 < (g0_1.n : Int))) = false →
  K (VB true) h_5))
theorem v26 (g0_1 : Sl) (h : Heap) (K : Value → Heap → Prop) (H : u26 Tryz.prog g0_1 h K) : callM Tryz.prog 26 #[(Value.agg #[(Sl.v g0_1)])] h K := by
  refine c26 (Value.agg #[(Sl.v g0_1)]) h K ?_
  unfold u26 at H
  unfold t26
  have hL : Vars h [] := .nil
  refine eop_box 26 (Value.agg #[(Sl.v g0_1)]) rfl hL (fun b_1 h_1 hb_1 hf_1 hL_1 => ?_)
  refine pop_field 0 fld26_0 b_1 0 ?_
  refine rop_loc one24 hL_1 0 rfl 0 (v := (Sl.v g0_1)) rfl ?_
  refine pop_len g0_1 _ _ sli24 ?_
  refine eop_alloc 3 zer3 rfl hL_1 (fun b_2 h_2 hb_2 hf_2 hL_2 => ?_)
  refine uop_loc siz3 hL_2 0 rfl 0 [(VI (g0_1.n : Int))] rfl rfl rfl (Nat.le_of_ble_eq_true rfl) (L' := [(b_2, [(VI (g0_1.n : Int))]), (b_1, [(Sl.v g0_1)])]) rfl (fun h_3 hf_3 hL_3 => ?_)
  refine rop_loc one3 hL_3 0 rfl 0 (v := (VI (g0_1.n : Int))) rfl ?_
  have H := H b_1 b_2 h_3 (Nat.le_trans (Fr.size (Fr.r (In []) _)) hb_1) (Nat.le_trans (Fr.size (Fr.no' (Fr.r (In []) _) hf_1)) hb_2) (Fr.new (Fr.no' (Fr.no' (Fr.r (In []) _) hf_1) hf_2) (Nat.le_trans (Fr.size (Fr.no' (Fr.r (In []) _) hf_1)) hb_2) hf_3) hL_3
  refine H.mono fun rv_1 h_4 H => ?_
  obtain ⟨t10_1, rfl, hL_4, H⟩ := H
  refine pop_not t10_1 ?_
  refine condM_b (fun hb_3 => ?_) (fun hb_3 => ?_)
  ·have H := H.1 hb_3
   exact H
  have H := H.2 hb_3
  refine pop_field 0 fld26_0 b_1 0 ?_
  refine rop_loc one24 hL_4 1 rfl 0 (v := (Sl.v g0_1)) rfl ?_
  refine pop_len g0_1 _ _ sli24 ?_
  obtain ⟨J_1, ⟨n_2, h0_1⟩, HB_1⟩ := H
  refine loop_intro (J := fun (n : Nat) (vs : List Value) (h' : Heap) => ∃ t15_1 : Int, ∃ x_1 : Int, vs = [(VI t15_1)] ∧ J_1 n t15_1 x_1 h' ∧ Vars h' [(b_2, [(VI x_1)]), (b_1, [(Sl.v g0_1)])]) n_2 ⟨0, (g0_1.n : Int), rfl, h0_1, hL_4⟩ ?_
  intro I_1 mu_1 hI_1 junk_1 tv_1 h_5 hi_1
  obtain ⟨n_1, ⟨t15_1, x_1, hv, hJ_1, hL_5⟩, hn_1⟩ := hI_1 _ _ hi_1
  cases hv
  have H := HB_1 n_1 t15_1 x_1 h_5 hJ_1 hL_5
  refine pop_lss .i64 t15_1 (g0_1.n : Int) ?_
  refine condM_b (fun hb_4 => ?_) (fun hb_4 => ?_)
  rotate_left
  ·have H := H.2 hb_4
   exact H
  have H := H.1 hb_4
  obtain ⟨hi_2, H⟩ := H
  refine pop_index sli24 siz36 .i64 g0_1 t15_1 hi_2 ?_
  obtain ⟨t18_1, hc_1, H⟩ := H
  refine rop_one one36 (Sl.v t18_1) hc_1 ?_
  refine pop_len t18_1 _ _ sli36 ?_
  refine pop_gtr .i64 (t18_1.n : Int) 5 ?_
  refine guardM_sf (fun hb_5 => ?_) (fun hb_5 => ?_)
  rotate_left
  ·have H := H.1 hb_5
   refine guardM_n' hb_5 (by decide) ?_
   refine guardM_n' hb_5 (by decide) ?_
   refine pop_pickt' hb_5 ?_
   refine condM_t ?_
   exact H
  have H := H.2 hb_5
  refine guardM_y' hb_5 ?_
  refine pop_func _ _ _ ?_
  refine guardM_y' hb_5 ?_
  refine H.mono fun rv_2 h_6 H => ?_
  obtain ⟨x_2, t25_1, rfl, hL_6, H⟩ := H
  refine pop_pickf' hb_5 ?_
  refine condM_b (fun hb_6 => ?_) (fun hb_6 => ?_)
  ·have H := H.1 hb_6
   exact H
  have H := H.2 hb_6
  refine pop_add .i64 t15_1 1 ?_
  obtain ⟨m_1, hm_1, H⟩ := H
  exact hn_1 _ _ ⟨m_1, hm_1, (w64 (t15_1 + 1)), x_2, rfl, H, hL_6⟩

/-! impl.graphText -/
def u27 (P : Program) (g0_1 : Sl) (h : Heap) (K : Value → Heap → Prop) : Prop :=
  ∀ (b_1 : Nat) (h_1 : Heap), h.size ≤ b_1 → Fr (In []) h h_1 → Vars h_1 [(b_1, [(Sl.v g0_1)])] →
  eop P (Instr.buildSlice 48 0 #[]) h_1 fun rv_1 h_2 => ∃ t6_1 : Sl, rv_1 = (Sl.v t6_1) ∧ Vars h_2 [(b_1, [(Sl.v g0_1)])] ∧
  ∃ J_1 : Nat → Sl → Int → Heap → Prop, (∃ n0 : Nat, J_1 n0 t6_1 0 h_2) ∧
  ∀ (n_1 : Nat) (lists3_1 : Sl) (t10_1 : Int) (h_3 : Heap), J_1 n_1 lists3_1 t10_1 h_3 → Vars h_3 [(b_1, [(Sl.v g0_1)])] →
  ((decide (t10_1 < (g0_1.n : Int))) = true →
  InB g0_1 t10_1 ∧
  ∃ t13_1 : Sl, hcell h_3 (Sl.at g0_1 t10_1 1) = some (Sl.v t13_1) ∧
  callM P 50 #[(Sl.v t13_1)] h_3 fun rv_2 h_4 => ∃ t16_1 : ByteArray, rv_2 = (VS t16_1) ∧ Vars h_4 [(b_1, [(Sl.v g0_1)])] ∧
  eop P (Instr.buildSlice 48 1 #[(0, (VS t16_1))]) h_4 fun rv_3 h_5 => ∃ t17_1 : Sl, rv_3 = (Sl.v t17_1) ∧ Vars h_5 [(b_1, [(Sl.v g0_1)])] ∧
  eop P (appS 48 48 48 (Sl.v lists3_1) (Sl.v t17_1)) h_5 fun rv_4 h_6 => ∃ t18_1 : Sl, rv_4 = (Sl.v t18_1) ∧ Vars h_6 [(b_1, [(Sl.v g0_1)])] ∧
  ∃ m : Nat, m < n_1 ∧ J_1 m t18_1 (w64 (t10_1 + 1)) h_6) ∧
  ((decide (t10_1 < (g0_1.n : Int))) = false →
  callM P 51 #[(Sl.v lists3_1), (VS ({ data := #[59] }))] h_3 fun rv_5 h_7 => ∃ t21_1 : ByteArray, rv_5 = (VS t21_1) ∧ Vars h_7 [(b_1, [(Sl.v g0_1)])] ∧
  K (VS t21_1) h_7)
theorem v27 (g0_1 : Sl) (h : Heap) (K : Value → Heap → Prop) (H : u27 Tryz.prog g0_1 h K) : callM Tryz.prog 27 #[(Value.agg #[(Sl.v g0_1)])] h K := by
  refine c27 (Value.agg #[(Sl.v g0_1)]) h K ?_
  unfold u27 at H
  unfold t27
  have hL : Vars h [] := .nil
  refine eop_box 26 (Value.agg #[(Sl.v g0_1)]) rfl hL (fun b_1 h_1 hb_1 hf_1 hL_1 => ?_)
  have H := H b_1 h_1 (Nat.le_trans (Fr.size (Fr.r (In []) _)) hb_1) (Fr.no' (Fr.r (In []) _) hf_1) hL_1
  refine H.mono fun rv_1 h_2 H => ?_
  obtain ⟨t6_1, rfl, hL_2, H⟩ := H
  refine pop_field 0 fld26_0 b_1 0 ?_
  refine rop_loc one24 hL_2 0 rfl 0 (v := (Sl.v g0_1)) rfl ?_
  refine pop_len g0_1 _ _ sli24 ?_
  obtain ⟨J_1, ⟨n_2, h0_1⟩, HB_1⟩ := H
  refine loop_intro (J := fun (n : Nat) (vs : List Value) (h' : Heap) => ∃ lists3_1 : Sl, ∃ t10_1 : Int, vs = [(Sl.v lists3_1), (VI t10_1)] ∧ J_1 n lists3_1 t10_1 h' ∧ Vars h' [(b_1, [(Sl.v g0_1)])]) n_2 ⟨t6_1, 0, rfl, h0_1, hL_2⟩ ?_
  intro I_1 mu_1 hI_1 junk_1 tv_1 tv_2 h_3 hi_1
  obtain ⟨n_1, ⟨lists3_1, t10_1, hv, hJ_1, hL_3⟩, hn_1⟩ := hI_1 _ _ hi_1
  cases hv
  have H := HB_1 n_1 lists3_1 t10_1 h_3 hJ_1 hL_3
  refine pop_lss .i64 t10_1 (g0_1.n : Int) ?_
  refine condM_b (fun hb_2 => ?_) (fun hb_2 => ?_)
  rotate_left
  ·have H := H.2 hb_2
   refine H.mono fun rv_5 h_7 H => ?_
   obtain ⟨t21_1, rfl, hL_7, H⟩ := H
   exact H
  have H := H.1 hb_2
  obtain ⟨hi_2, H⟩ := H
  refine pop_index sli24 siz36 .i64 g0_1 t10_1 hi_2 ?_
  obtain ⟨t13_1, hc_1, H⟩ := H
  refine rop_one one36 (Sl.v t13_1) hc_1 ?_
  refine H.mono fun rv_2 h_4 H => ?_
  obtain ⟨t16_1, rfl, hL_4, H⟩ := H
  refine H.mono fun rv_3 h_5 H => ?_
  obtain ⟨t17_1, rfl, hL_5, H⟩ := H
  refine H.mono fun rv_4 h_6 H => ?_
  obtain ⟨t18_1, rfl, hL_6, H⟩ := H
  refine pop_add .i64 t10_1 1 ?_
  obtain ⟨m_1, hm_1, H⟩ := H
  exact hn_1 _ _ ⟨m_1, hm_1, t18_1, (w64 (t10_1 + 1)), rfl, H, hL_6⟩

/-! spec.grGood -/
def u28 (P : Program) (g0_1 : Sl) (h : Heap) (K : Value → Heap → Prop) : Prop :=
  ∀ (b_1 : Nat) (h_1 : Heap), h.size ≤ b_1 → Fr (In []) h h_1 → Vars h_1 [(b_1, [(Sl.v g0_1)])] →
  callM P 52 #[(VI (g0_1.n : Int)), (VI 1), (VI 8)] h_1 fun rv_1 h_2 => ∃ t10_1 : Bool, rv_1 = (VB t10_1) ∧ Vars h_2 [(b_1, [(Sl.v g0_1)])] ∧
  ((!t10_1) = true →
  K (VB false) h_2) ∧
  ((!t10_1) = false →
  ∃ J_1 : Nat → Int → Heap → Prop, (∃ n0 : Nat, J_1 n0 0 h_2) ∧
  ∀ (n_1 : Nat) (t15_1 : Int) (h_3 : Heap), J_1 n_1 t15_1 h_3 → Vars h_3 [(b_1, [(Sl.v g0_1)])] →
  ((decide (t15_1 < (g0_1.n : Int))) = true →
  InB g0_1 t15_1 ∧
  ∃ t18_1 : Sl, hcell h_3 (Sl.at g0_1 t15_1 1) = some (Sl.v t18_1) ∧
  ((decide (5 < (t18_1.n : Int))) = true →
  K (VB false) h_3) ∧
  ((decide (5 < (t18_1.n : Int))) = false →
  callM P 53 #[(Sl.v t18_1), (VI 0), (VI (w64 ((g0_1.n : Int) - 1)))] h_3 fun rv_2 h_4 => ∃ t26_1 : Bool, rv_2 = (VB t26_1) ∧ Vars h_4 [(b_1, [(Sl.v g0_1)])] ∧
  ((!t26_1) = true →
  K (VB false) h_4) ∧
  ((!t26_1) = false →
  ∃ m : Nat, m < n_1 ∧ J_1 m (w64 (t15_1 + 1)) h_4))) ∧
  ((decide (t15_1 < (g0_1.n : Int))) = false →
  K (VB true) h_3))
theorem v28 (g0_1 : Sl) (h : Heap) (K : Value → Heap → Prop) (H : u28 Tryz.prog g0_1 h K) : callM Tryz.prog 28 #[(Value.agg #[(Sl.v g0_1)])] h K := by
  refine c28 (Value.agg #[(Sl.v g0_1)]) h K ?_
  unfold u28 at H
  unfold t28
  have hL : Vars h [] := .nil
  refine eop_box 26 (Value.agg #[(Sl.v g0_1)]) rfl hL (fun b_1 h_1 hb_1 hf_1 hL_1 => ?_)
  refine pop_field 0 fld26_0 b_1 0 ?_
  refine rop_loc one24 hL_1 0 rfl 0 (v := (Sl.v g0_1)) rfl ?_
  refine pop_len g0_1 _ _ sli24 ?_
  have H := H b_1 h_1 (Nat.le_trans (Fr.size (Fr.r (In []) _)) hb_1) (Fr.no' (Fr.r (In []) _) hf_1) hL_1
  refine H.mono fun rv_1 h_2 H => ?_
  obtain ⟨t10_1, rfl, hL_2, H⟩ := H
  refine pop_not t10_1 ?_
  refine condM_b (fun hb_2 => ?_) (fun hb_2 => ?_)
  ·have H := H.1 hb_2
   exact H
  have H := H.2 hb_2
  refine pop_field 0 fld26_0 b_1 0 ?_
  refine rop_loc one24 hL_2 0 rfl 0 (v := (Sl.v g0_1)) rfl ?_
  refine pop_len g0_1 _ _ sli24 ?_
  obtain ⟨J_1, ⟨n_2, h0_1⟩, HB_1⟩ := H
  refine loop_intro (J := fun (n : Nat) (vs : List Value) (h' : Heap) => ∃ t15_1 : Int, vs = [(VI t15_1)] ∧ J_1 n t15_1 h' ∧ Vars h' [(b_1, [(Sl.v g0_1)])]) n_2 ⟨0, rfl, h0_1, hL_2⟩ ?_
  intro I_1 mu_1 hI_1 junk_1 tv_1 h_3 hi_1
  obtain ⟨n_1, ⟨t15_1, hv, hJ_1, hL_3⟩, hn_1⟩ := hI_1 _ _ hi_1
  cases hv
  have H := HB_1 n_1 t15_1 h_3 hJ_1 hL_3
  refine pop_lss .i64 t15_1 (g0_1.n : Int) ?_
  refine condM_b (fun hb_3 => ?_) (fun hb_3 => ?_)
  rotate_left
  ·have H := H.2 hb_3
   exact H
  have H := H.1 hb_3
  obtain ⟨hi_2, H⟩ := H
  refine pop_index sli24 siz36 .i64 g0_1 t15_1 hi_2 ?_
  obtain ⟨t18_1, hc_1, H⟩ := H
  refine rop_one one36 (Sl.v t18_1) hc_1 ?_
  refine pop_len t18_1 _ _ sli36 ?_
  refine pop_gtr .i64 (t18_1.n : Int) 5 ?_
  refine guardM_sf (fun hb_4 => ?_) (fun hb_4 => ?_)
  rotate_left
  ·have H := H.1 hb_4
   refine guardM_n' hb_4 (by decide) ?_
   refine guardM_n' hb_4 (by decide) ?_
   refine guardM_n' hb_4 (by decide) ?_
   refine guardM_n' hb_4 (by decide) ?_
   refine pop_pickt' hb_4 ?_
   refine condM_t ?_
   exact H
  have H := H.2 hb_4
  refine guardM_y' hb_4 ?_
  refine guardM_y' hb_4 ?_
  refine pop_sub .i64 (g0_1.n : Int) 1 ?_
  refine guardM_y' hb_4 ?_
  refine H.mono fun rv_2 h_4 H => ?_
  obtain ⟨t26_1, rfl, hL_4, H⟩ := H
  refine guardM_y' hb_4 ?_
  refine pop_not t26_1 ?_
  refine pop_pickf' hb_4 ?_
  refine condM_b (fun hb_5 => ?_) (fun hb_5 => ?_)
  ·have H := H.1 hb_5
   exact H
  have H := H.2 hb_5
  refine pop_add .i64 t15_1 1 ?_
  obtain ⟨m_1, hm_1, H⟩ := H
  exact hn_1 _ _ ⟨m_1, hm_1, (w64 (t15_1 + 1)), rfl, H, hL_4⟩

/-! spec.grText -/
def u29 (P : Program) (g0_1 : Sl) (h : Heap) (K : Value → Heap → Prop) : Prop :=
  ∀ (b_1 : Nat) (h_1 : Heap), h.size ≤ b_1 → Fr (In []) h h_1 → Vars h_1 [(b_1, [(Sl.v g0_1)])] →
  ∃ J_1 : Nat → ByteArray → Int → Heap → Prop, (∃ n0 : Nat, J_1 n0 ({ data := #[] }) 0 h_1) ∧
  ∀ (n_1 : Nat) (out3_1 : ByteArray) (t11_1 : Int) (h_2 : Heap), J_1 n_1 out3_1 t11_1 h_2 → Vars h_2 [(b_1, [(Sl.v g0_1)])] →
  ((decide (t11_1 < (g0_1.n : Int))) = true →
  InB g0_1 t11_1 ∧
  ∃ t15_1 : Sl, hcell h_2 (Sl.at g0_1 t11_1 1) = some (Sl.v t15_1) ∧
  ∃ J_2 : ByteArray → Heap → Prop, (((decide (0 < t11_1)) = true →
  ByteArray.size out3_1 + ByteArray.size ({ data := #[59] }) ≤ 9223372036854775807 ∧
  J_2 (out3_1 ++ ({ data := #[59] })) h_2) ∧
  ((decide (0 < t11_1)) = false →
  J_2 out3_1 h_2)) ∧
  ∀ (x_1 : ByteArray) (h_3 : Heap), J_2 x_1 h_3 → Vars h_3 [(b_1, [(Sl.v g0_1)])] →
  ∃ J_3 : ByteArray → Heap → Prop, (((decide ((t15_1.n : Int) = 0)) = true →
  ByteArray.size x_1 + ByteArray.size ({ data := #[45] }) ≤ 9223372036854775807 ∧
  J_3 (x_1 ++ ({ data := #[45] })) h_3) ∧
  ((decide ((t15_1.n : Int) = 0)) = false →
  J_3 x_1 h_3)) ∧
  ∀ (x_2 : ByteArray) (h_4 : Heap), J_3 x_2 h_4 → Vars h_4 [(b_1, [(Sl.v g0_1)])] →
  ∃ J_4 : Nat → ByteArray → Int → Heap → Prop, (∃ n0 : Nat, J_4 n0 x_2 0 h_4) ∧
  ∀ (n_2 : Nat) (out3_2 : ByteArray) (t27_1 : Int) (h_5 : Heap), J_4 n_2 out3_2 t27_1 h_5 → Vars h_5 [(b_1, [(Sl.v g0_1)])] →
  ((decide (t27_1 < (t15_1.n : Int))) = true →
  InB t15_1 t27_1 ∧
  ∃ t31_1 : Int, hcell h_5 (Sl.at t15_1 t27_1 1) = some (VI t31_1) ∧
  ∃ J_5 : ByteArray → Heap → Prop, (((decide (0 < t27_1)) = true →
  ByteArray.size out3_2 + ByteArray.size ({ data := #[44] }) ≤ 9223372036854775807 ∧
  J_5 (out3_2 ++ ({ data := #[44] })) h_5) ∧
  ((decide (0 < t27_1)) = false →
  J_5 out3_2 h_5)) ∧
  ∀ (x_3 : ByteArray) (h_6 : Heap), J_5 x_3 h_6 → Vars h_6 [(b_1, [(Sl.v g0_1)])] →
  callM P 54 #[(VI t31_1)] h_6 fun rv_1 h_7 => ∃ t38_1 : ByteArray, rv_1 = (VS t38_1) ∧ Vars h_7 [(b_1, [(Sl.v g0_1)])] ∧
  ByteArray.size x_3 + ByteArray.size t38_1 ≤ 9223372036854775807 ∧
  ∃ m : Nat, m < n_2 ∧ J_4 m (x_3 ++ t38_1) (w64 (t27_1 + 1)) h_7) ∧
  ((decide (t27_1 < (t15_1.n : Int))) = false →
  ∃ m : Nat, m < n_1 ∧ J_1 m out3_2 (w64 (t11_1 + 1)) h_5)) ∧
  ((decide (t11_1 < (g0_1.n : Int))) = false →
  K (VS out3_1) h_2)
theorem v29 (g0_1 : Sl) (h : Heap) (K : Value → Heap → Prop) (H : u29 Tryz.prog g0_1 h K) : callM Tryz.prog 29 #[(Value.agg #[(Sl.v g0_1)])] h K := by
  refine c29 (Value.agg #[(Sl.v g0_1)]) h K ?_
  unfold u29 at H
  unfold t29
  have hL : Vars h [] := .nil
  refine eop_box 26 (Value.agg #[(Sl.v g0_1)]) rfl hL (fun b_1 h_1 hb_1 hf_1 hL_1 => ?_)
  refine pop_field 0 fld26_0 b_1 0 ?_
  refine rop_loc one24 hL_1 0 rfl 0 (v := (Sl.v g0_1)) rfl ?_
  refine pop_len g0_1 _ _ sli24 ?_
  have H := H b_1 h_1 (Nat.le_trans (Fr.size (Fr.r (In []) _)) hb_1) (Fr.no' (Fr.r (In []) _) hf_1) hL_1
  obtain ⟨J_1, ⟨n_4, h0_2⟩, HB_5⟩ := H
  refine loop_intro (J := fun (n : Nat) (vs : List Value) (h' : Heap) => ∃ out3_1 : ByteArray, ∃ t11_1 : Int, vs = [(VS out3_1), (VI t11_1)] ∧ J_1 n out3_1 t11_1 h' ∧ Vars h' [(b_1, [(Sl.v g0_1)])]) n_4 ⟨({ data := #[] }), 0, rfl, h0_2, hL_1⟩ ?_
  intro I_2 mu_2 hI_2 junk_1 tv_6 tv_7 h_2 hi_1
  obtain ⟨n_1, ⟨out3_1, t11_1, hv, hJ_1, hL_2⟩, hn_1⟩ := hI_2 _ _ hi_1
  cases hv
  have H := HB_5 n_1 out3_1 t11_1 h_2 hJ_1 hL_2
  refine pop_lss .i64 t11_1 (g0_1.n : Int) ?_
  refine condM_b (fun hb_2 => ?_) (fun hb_2 => ?_)
  rotate_left
  ·have H := H.2 hb_2
   exact H
  have H := H.1 hb_2
  obtain ⟨hi_2, H⟩ := H
  refine pop_index sli24 siz36 .i64 g0_1 t11_1 hi_2 ?_
  obtain ⟨t15_1, hc_2, H⟩ := H
  refine rop_one one36 (Sl.v t15_1) hc_2 ?_
  obtain ⟨J_2, H, HB_4⟩ := H
  refine ⟨fun (vs : List Value) (h' : Heap) => ∃ x_1 : ByteArray, vs = [(VS x_1)] ∧ J_2 x_1 h' ∧ Vars h' [(b_1, [(Sl.v g0_1)])], ?_, ?_⟩
  ·refine pop_gtr .i64 t11_1 0 ?_
   refine condM_b (fun hb_3 => ?_) (fun hb_3 => ?_)
   rotate_left
   ·have H := H.2 hb_3
    exact ⟨out3_1, rfl, H, hL_2⟩
   have H := H.1 hb_3
   obtain ⟨hz_1, H⟩ := H
   refine pop_sadd out3_1 ({ data := #[59] }) hz_1 ?_
   exact ⟨(out3_1 ++ ({ data := #[59] })), rfl, H, hL_2⟩
  intro junk_2 tv_1 h_3
  rintro ⟨x_1, hv, hJ_2, hL_3⟩
  cases hv
  have H := HB_4 x_1 h_3 hJ_2 hL_3
  obtain ⟨J_3, H, HB_3⟩ := H
  refine ⟨fun (vs : List Value) (h' : Heap) => ∃ x_2 : ByteArray, vs = [(VS x_2)] ∧ J_3 x_2 h' ∧ Vars h' [(b_1, [(Sl.v g0_1)])], ?_, ?_⟩
  ·refine pop_len t15_1 _ _ sli36 ?_
   refine pop_ieq .i64 _ _ (t15_1.n : Int) 0 ?_
   refine condM_b (fun hb_4 => ?_) (fun hb_4 => ?_)
   rotate_left
   ·have H := H.2 hb_4
    exact ⟨x_1, rfl, H, hL_3⟩
   have H := H.1 hb_4
   obtain ⟨hz_2, H⟩ := H
   refine pop_sadd x_1 ({ data := #[45] }) hz_2 ?_
   exact ⟨(x_1 ++ ({ data := #[45] })), rfl, H, hL_3⟩
  intro junk_3 tv_2 h_4
  rintro ⟨x_2, hv, hJ_3, hL_4⟩
  cases hv
  have H := HB_3 x_2 h_4 hJ_3 hL_4
  refine pop_len t15_1 _ _ sli36 ?_
  obtain ⟨J_4, ⟨n_3, h0_1⟩, HB_2⟩ := H
  refine loop_intro (J := fun (n : Nat) (vs : List Value) (h' : Heap) => ∃ out3_2 : ByteArray, ∃ t27_1 : Int, vs = [(VS out3_2), (VI t27_1)] ∧ J_4 n out3_2 t27_1 h' ∧ Vars h' [(b_1, [(Sl.v g0_1)])]) n_3 ⟨x_2, 0, rfl, h0_1, hL_4⟩ ?_
  intro I_1 mu_1 hI_1 junk_4 tv_4 tv_5 h_5 hi_3
  obtain ⟨n_2, ⟨out3_2, t27_1, hv, hJ_4, hL_5⟩, hn_2⟩ := hI_1 _ _ hi_3
  cases hv
  have H := HB_2 n_2 out3_2 t27_1 h_5 hJ_4 hL_5
  refine pop_lss .i64 t27_1 (t15_1.n : Int) ?_
  refine condM_b (fun hb_5 => ?_) (fun hb_5 => ?_)
  rotate_left
  ·have H := H.2 hb_5
   refine pop_add .i64 t11_1 1 ?_
   obtain ⟨m_2, hm_2, H⟩ := H
   exact hn_1 _ _ ⟨m_2, hm_2, out3_2, (w64 (t11_1 + 1)), rfl, H, hL_5⟩
  have H := H.1 hb_5
  obtain ⟨hi_4, H⟩ := H
  refine pop_index sli36 siz3 .i64 t15_1 t27_1 hi_4 ?_
  obtain ⟨t31_1, hc_1, H⟩ := H
  refine rop_one one3 (VI t31_1) hc_1 ?_
  obtain ⟨J_5, H, HB_1⟩ := H
  refine ⟨fun (vs : List Value) (h' : Heap) => ∃ x_3 : ByteArray, vs = [(VS x_3)] ∧ J_5 x_3 h' ∧ Vars h' [(b_1, [(Sl.v g0_1)])], ?_, ?_⟩
  ·refine pop_gtr .i64 t27_1 0 ?_
   refine condM_b (fun hb_6 => ?_) (fun hb_6 => ?_)
   rotate_left
   ·have H := H.2 hb_6
    exact ⟨out3_2, rfl, H, hL_5⟩
   have H := H.1 hb_6
   obtain ⟨hz_3, H⟩ := H
   refine pop_sadd out3_2 ({ data := #[44] }) hz_3 ?_
   exact ⟨(out3_2 ++ ({ data := #[44] })), rfl, H, hL_5⟩
  intro junk_5 tv_3 h_6
  rintro ⟨x_3, hv, hJ_5, hL_6⟩
  cases hv
  have H := HB_1 x_3 h_6 hJ_5 hL_6
  refine H.mono fun rv_1 h_7 H => ?_
  obtain ⟨t38_1, rfl, hL_7, H⟩ := H
  obtain ⟨hz_4, H⟩ := H
  refine pop_sadd x_3 t38_1 hz_4 ?_
  refine pop_add .i64 t27_1 1 ?_
  obtain ⟨m_1, hm_1, H⟩ := H
  exact hn_2 _ _ ⟨m_1, hm_1, (x_3 ++ t38_1), (w64 (t27_1 + 1)), rfl, H, hL_7⟩

/-! slices.Concat[[]int,int] -/
def u30 (P : Program) (slices0_1 : Sl) (h : Heap) (K : Value → Heap → Prop) : Prop :=
  ∃ J_1 : Nat → Int → Int → Heap → Prop, (∃ n0 : Nat, J_1 n0 0 0 h) ∧
  ∀ (n_1 : Nat) (size3_1 : Int) (t11_1 : Int) (h_1 : Heap), J_1 n_1 size3_1 t11_1 h_1 → Vars h_1 [] →
  ((decide (t11_1 < (slices0_1.n : Int))) = true →
  InB slices0_1 t11_1 ∧
  ∃ t14_1 : Sl, hcell h_1 (Sl.at slices0_1 t11_1 1) = some (Sl.v t14_1) ∧
  ((decide ((w64 (size3_1 + (t14_1.n : Int))) < 0)) = true →
  pop P (Instr.makeInterface 9 (Value.string { data := #[108, 101, 110, 32, 111, 117, 116, 32, 111, 102, 32, 114, 97, 110, 103, 101] })) fun rv_1 => ∃ t21_1 : Value, rv_1 = t21_1 ∧ 
  False) ∧
  ((decide ((w64 (size3_1 + (t14_1.n : Int))) < 0)) = false →
  ∃ m : Nat, m < n_1 ∧ J_1 m (w64 (size3_1 + (t14_1.n : Int))) (w64 (t11_1 + 1)) h_1)) ∧
  ((decide (t11_1 < (slices0_1.n : Int))) = false →
  callM P 55 #[(Sl.v nilSl), (VI size3_1)] h_1 fun rv_2 h_2 => ∃ t24_1 : Sl, rv_2 = (Sl.v t24_1) ∧ Vars h_2 [] ∧
  ∃ J_2 : Nat → Sl → Int → Heap → Prop, (∃ n0 : Nat, J_2 n0 t24_1 0 h_2) ∧
  ∀ (n_2 : Nat) (newslice6_1 : Sl) (t27_1 : Int) (h_3 : Heap), J_2 n_2 newslice6_1 t27_1 h_3 → Vars h_3 [] →
  ((decide (t27_1 < (slices0_1.n : Int))) = true →
  InB slices0_1 t27_1 ∧
  ∃ t30_1 : Sl, hcell h_3 (Sl.at slices0_1 t27_1 1) = some (Sl.v t30_1) ∧
  eop P (appS 36 36 36 (Sl.v newslice6_1) (Sl.v t30_1)) h_3 fun rv_3 h_4 => ∃ t33_1 : Sl, rv_3 = (Sl.v t33_1) ∧ Vars h_4 [] ∧
  ∃ m : Nat, m < n_2 ∧ J_2 m t33_1 (w64 (t27_1 + 1)) h_4) ∧
  ((decide (t27_1 < (slices0_1.n : Int))) = false →
  K (Sl.v newslice6_1) h_3))
theorem v30 (slices0_1 : Sl) (h : Heap) (K : Value → Heap → Prop) (H : u30 Tryz.prog slices0_1 h K) : callM Tryz.prog 30 #[(Sl.v slices0_1)] h K := by
  refine c30 (Sl.v slices0_1) h K ?_
  unfold u30 at H
  unfold t30
  have hL : Vars h [] := .nil
  refine pop_len slices0_1 _ _ sli24 ?_
  obtain ⟨J_1, ⟨n_4, h0_2⟩, HB_2⟩ := H
  refine loop_intro (J := fun (n : Nat) (vs : List Value) (h' : Heap) => ∃ size3_1 : Int, ∃ t11_1 : Int, vs = [(VI size3_1), (VI t11_1)] ∧ J_1 n size3_1 t11_1 h' ∧ Vars h' []) n_4 ⟨0, 0, rfl, h0_2, hL⟩ ?_
  intro I_2 mu_2 hI_2 junk_1 tv_3 tv_4 h_1 hi_1
  obtain ⟨n_1, ⟨size3_1, t11_1, hv, hJ_1, hL_1⟩, hn_1⟩ := hI_2 _ _ hi_1
  cases hv
  have H := HB_2 n_1 size3_1 t11_1 h_1 hJ_1 hL_1
  refine pop_lss .i64 t11_1 (slices0_1.n : Int) ?_
  refine condM_b (fun hb_1 => ?_) (fun hb_1 => ?_)
  ·have H := H.1 hb_1
   obtain ⟨hi_2, H⟩ := H
   refine pop_index sli24 siz36 .i64 slices0_1 t11_1 hi_2 ?_
   obtain ⟨t14_1, hc_1, H⟩ := H
   refine rop_one one36 (Sl.v t14_1) hc_1 ?_
   refine pop_len t14_1 _ _ sli36 ?_
   refine pop_add .i64 size3_1 (t14_1.n : Int) ?_
   refine pop_lss .i64 (w64 (size3_1 + (t14_1.n : Int))) 0 ?_
   refine condM_b (fun hb_2 => ?_) (fun hb_2 => ?_)
   ·have H := H.1 hb_2
    refine H.mono fun rv_1 H => ?_
    obtain ⟨t21_1, rfl, H⟩ := H
    exact H.elim
   have H := H.2 hb_2
   refine pop_add .i64 t11_1 1 ?_
   obtain ⟨m_1, hm_1, H⟩ := H
   exact hn_1 _ _ ⟨m_1, hm_1, (w64 (size3_1 + (t14_1.n : Int))), (w64 (t11_1 + 1)), rfl, H, hL_1⟩
  have H := H.2 hb_1
  refine H.mono fun rv_2 h_2 H => ?_
  obtain ⟨t24_1, rfl, hL_2, H⟩ := H
  refine pop_len slices0_1 _ _ sli24 ?_
  obtain ⟨J_2, ⟨n_3, h0_1⟩, HB_1⟩ := H
  refine loop_intro (J := fun (n : Nat) (vs : List Value) (h' : Heap) => ∃ newslice6_1 : Sl, ∃ t27_1 : Int, vs = [(Sl.v newslice6_1), (VI t27_1)] ∧ J_2 n newslice6_1 t27_1 h' ∧ Vars h' []) n_3 ⟨t24_1, 0, rfl, h0_1, hL_2⟩ ?_
  intro I_1 mu_1 hI_1 junk_2 tv_1 tv_2 h_3 hi_3
  obtain ⟨n_2, ⟨newslice6_1, t27_1, hv, hJ_2, hL_3⟩, hn_2⟩ := hI_1 _ _ hi_3
  cases hv
  have H := HB_1 n_2 newslice6_1 t27_1 h_3 hJ_2 hL_3
  refine pop_lss .i64 t27_1 (slices0_1.n : Int) ?_
  refine condM_b (fun hb_3 => ?_) (fun hb_3 => ?_)
  rotate_left
  ·have H := H.2 hb_3
   exact H
  have H := H.1 hb_3
  obtain ⟨hi_4, H⟩ := H
  refine pop_index sli24 siz36 .i64 slices0_1 t27_1 hi_4 ?_
  obtain ⟨t30_1, hc_2, H⟩ := H
  refine rop_one one36 (Sl.v t30_1) hc_2 ?_
  refine H.mono fun rv_3 h_4 H => ?_
  obtain ⟨t33_1, rfl, hL_4, H⟩ := H
  refine pop_add .i64 t27_1 1 ?_
  obtain ⟨m_2, hm_2, H⟩ := H
  exact hn_2 _ _ ⟨m_2, hm_2, t33_1, (w64 (t27_1 + 1)), rfl, H, hL_4⟩

/-! spec.grCount -/
def u31 (P : Program) (g0_1 : Sl) (h : Heap) (K : Value → Heap → Prop) : Prop :=
  ∀ (b_1 : Nat) (h_1 : Heap), h.size ≤ b_1 → Fr (In []) h h_1 → Vars h_1 [(b_1, [(Sl.v g0_1)])] →
  ∃ J_1 : Nat → Int → Int → Heap → Prop, (∃ n0 : Nat, J_1 n0 0 0 h_1) ∧
  ∀ (n_1 : Nat) (n3_1 : Int) (t9_1 : Int) (h_2 : Heap), J_1 n_1 n3_1 t9_1 h_2 → Vars h_2 [(b_1, [(Sl.v g0_1)])] →
  ((decide (t9_1 < (g0_1.n : Int))) = true →
  InB g0_1 t9_1 ∧
  ∃ t12_1 : Sl, hcell h_2 (Sl.at g0_1 t9_1 1) = some (Sl.v t12_1) ∧
  ∃ m : Nat, m < n_1 ∧ J_1 m (w64 (n3_1 + (t12_1.n : Int))) (w64 (t9_1 + 1)) h_2) ∧
  ((decide (t9_1 < (g0_1.n : Int))) = false →
  K (VI n3_1) h_2)
theorem v31 (g0_1 : Sl) (h : Heap) (K : Value → Heap → Prop) (H : u31 Tryz.prog g0_1 h K) : callM Tryz.prog 31 #[(Value.agg #[(Sl.v g0_1)])] h K := by
  refine c31 (Value.agg #[(Sl.v g0_1)]) h K ?_
  unfold u31 at H
  unfold t31
  have hL : Vars h [] := .nil
  refine eop_box 26 (Value.agg #[(Sl.v g0_1)]) rfl hL (fun b_1 h_1 hb_1 hf_1 hL_1 => ?_)
  refine pop_field 0 fld26_0 b_1 0 ?_
  refine rop_loc one24 hL_1 0 rfl 0 (v := (Sl.v g0_1)) rfl ?_
  refine pop_len g0_1 _ _ sli24 ?_
  have H := H b_1 h_1 (Nat.le_trans (Fr.size (Fr.r (In []) _)) hb_1) (Fr.no' (Fr.r (In []) _) hf_1) hL_1
  obtain ⟨J_1, ⟨n_2, h0_1⟩, HB_1⟩ := H
  refine loop_intro (J := fun (n : Nat) (vs : List Value) (h' : Heap) => ∃ n3_1 : Int, ∃ t9_1 : Int, vs = [(VI n3_1), (VI t9_1)] ∧ J_1 n n3_1 t9_1 h' ∧ Vars h' [(b_1, [(Sl.v g0_1)])]) n_2 ⟨0, 0, rfl, h0_1, hL_1⟩ ?_
  intro I_1 mu_1 hI_1 junk_1 tv_1 tv_2 h_2 hi_1
  obtain ⟨n_1, ⟨n3_1, t9_1, hv, hJ_1, hL_2⟩, hn_1⟩ := hI_1 _ _ hi_1
  cases hv
  have H := HB_1 n_1 n3_1 t9_1 h_2 hJ_1 hL_2
  refine pop_lss .i64 t9_1 (g0_1.n : Int) ?_
  refine condM_b (fun hb_2 => ?_) (fun hb_2 => ?_)
  rotate_left
  ·have H := H.2 hb_2
   exact H
  have H := H.1 hb_2
  obtain ⟨hi_2, H⟩ := H
  refine pop_index sli24 siz36 .i64 g0_1 t9_1 hi_2 ?_
  obtain ⟨t12_1, hc_1, H⟩ := H
  refine rop_one one36 (Sl.v t12_1) hc_1 ?_
  refine pop_len t12_1 _ _ sli36 ?_
  refine pop_add .i64 n3_1 (t12_1.n : Int) ?_
  refine pop_add .i64 t9_1 1 ?_
  obtain ⟨m_1, hm_1, H⟩ := H
  exact hn_1 _ _ ⟨m_1, hm_1, (w64 (n3_1 + (t12_1.n : Int))), (w64 (t9_1 + 1)), rfl, H, hL_2⟩

/-! impl.readList -/
def u33 (P : Program) (s0_1 : ByteArray) (h : Heap) (K : Value → Heap → Prop) : Prop :=
  eop P (Instr.buildSlice 36 0 #[]) h fun rv_1 h_1 => ∃ t9_1 : Sl, rv_1 = (Sl.v t9_1) ∧ Vars h_1 [] ∧
  ((ByteArray.toList s0_1 == ByteArray.toList ({ data := #[45] })) = true →
  K (Value.tuple #[(Sl.v t9_1), (VB true)]) h_1) ∧
  ((ByteArray.toList s0_1 == ByteArray.toList ({ data := #[45] })) = false →
  callM P 32 #[(VS s0_1), (VS ({ data := #[44] }))] h_1 fun rv_2 h_2 => ∃ t14_1 : Sl, rv_2 = (Sl.v t14_1) ∧ Vars h_2 [] ∧
  ∃ J_1 : Nat → Sl → Int → Heap → Prop, (∃ n0 : Nat, J_1 n0 t9_1 0 h_2) ∧
  ∀ (n_1 : Nat) (out4_1 : Sl) (t16_1 : Int) (h_3 : Heap), J_1 n_1 out4_1 t16_1 h_3 → Vars h_3 [] →
  ((decide (t16_1 < (t14_1.n : Int))) = true →
  InB t14_1 t16_1 ∧
  ∃ t19_1 : ByteArray, hcell h_3 (Sl.at t14_1 t16_1 1) = some (VS t19_1) ∧
  callM P 57 #[(VS t19_1)] h_3 fun rv_3 h_4 => ∃ t22_1 : Int, ∃ t22_2 : Value, rv_3 = (Value.tuple #[(VI t22_1), t22_2]) ∧ Vars h_4 [] ∧
  pop P (binE .neq 73 (.tmp 25) (.const Value.nilIface) t22_2 Value.nilIface) fun rv_4 => ∃ t26_1 : Bool, rv_4 = (VB t26_1) ∧ 
  (t26_1 = true →
  K (Value.tuple #[(Sl.v nilSl), (VB false)]) h_4) ∧
  (t26_1 = false →
  callM P 58 #[(VI t22_1)] h_4 fun rv_5 h_5 => ∃ t29_1 : ByteArray, rv_5 = (VS t29_1) ∧ Vars h_5 [] ∧
  ((!(ByteArray.toList t29_1 == ByteArray.toList t19_1)) = true →
  K (Value.tuple #[(Sl.v nilSl), (VB false)]) h_5) ∧
  ((!(ByteArray.toList t29_1 == ByteArray.toList t19_1)) = false →
  eop P (Instr.buildSlice 36 1 #[(0, (VI t22_1))]) h_5 fun rv_6 h_6 => ∃ t35_1 : Sl, rv_6 = (Sl.v t35_1) ∧ Vars h_6 [] ∧
  eop P (appS 36 36 36 (Sl.v out4_1) (Sl.v t35_1)) h_6 fun rv_7 h_7 => ∃ t36_1 : Sl, rv_7 = (Sl.v t36_1) ∧ Vars h_7 [] ∧
  ∃ m : Nat, m < n_1 ∧ J_1 m t36_1 (w64 (t16_1 + 1)) h_7))) ∧
  ((decide (t16_1 < (t14_1.n : Int))) = false →
  K (Value.tuple #[(Sl.v out4_1), (VB true)]) h_3))
theorem v33 (s0_1 : ByteArray) (h : Heap) (K : Value → Heap → Prop) (H : u33 Tryz.prog s0_1 h K) : callM Tryz.prog 33 #[(VS s0_1)] h K := by
  refine c33 (VS s0_1) h K ?_
  unfold u33 at H
  unfold t33
  have hL : Vars h [] := .nil
  refine H.mono fun rv_1 h_1 H => ?_
  obtain ⟨t9_1, rfl, hL_1, H⟩ := H
  refine pop_seq _ _ s0_1 ({ data := #[45] }) ?_
  refine condM_b (fun hb_1 => ?_) (fun hb_1 => ?_)
  ·have H := H.1 hb_1
   exact H
  have H := H.2 hb_1
  refine H.mono fun rv_2 h_2 H => ?_
  obtain ⟨t14_1, rfl, hL_2, H⟩ := H
  refine pop_len t14_1 _ _ sli48 ?_
  obtain ⟨J_1, ⟨n_2, h0_1⟩, HB_1⟩ := H
  refine loop_intro (J := fun (n : Nat) (vs : List Value) (h' : Heap) => ∃ out4_1 : Sl, ∃ t16_1 : Int, vs = [(Sl.v out4_1), (VI t16_1)] ∧ J_1 n out4_1 t16_1 h' ∧ Vars h' []) n_2 ⟨t9_1, 0, rfl, h0_1, hL_2⟩ ?_
  intro I_1 mu_1 hI_1 junk_1 tv_1 tv_2 h_3 hi_1
  obtain ⟨n_1, ⟨out4_1, t16_1, hv, hJ_1, hL_3⟩, hn_1⟩ := hI_1 _ _ hi_1
  cases hv
  have H := HB_1 n_1 out4_1 t16_1 h_3 hJ_1 hL_3
  refine pop_lss .i64 t16_1 (t14_1.n : Int) ?_
  refine condM_b (fun hb_2 => ?_) (fun hb_2 => ?_)
  rotate_left
  ·have H := H.2 hb_2
   exact H
  have H := H.1 hb_2
  obtain ⟨hi_2, H⟩ := H
  refine pop_index sli48 siz9 .i64 t14_1 t16_1 hi_2 ?_
  obtain ⟨t19_1, hc_1, H⟩ := H
  refine rop_one one9 (VS t19_1) hc_1 ?_
  refine H.mono fun rv_3 h_4 H => ?_
  obtain ⟨t22_1, t22_2, rfl, hL_4, H⟩ := H
  refine pop_ext (v := (VI t22_1)) rfl ?_
  refine pop_ext (v := t22_2) rfl ?_
  refine H.mono fun rv_4 H => ?_
  obtain ⟨t26_1, rfl, H⟩ := H
  refine guardM_sf (fun hb_3 => ?_) (fun hb_3 => ?_)
  rotate_left
  ·have H := H.1 hb_3
   refine guardM_n' hb_3 (by decide) ?_
   refine guardM_n' hb_3 (by decide) ?_
   refine guardM_n' hb_3 (by decide) ?_
   refine pop_pickt' hb_3 ?_
   refine condM_t ?_
   exact H
  have H := H.2 hb_3
  refine guardM_y' hb_3 ?_
  refine H.mono fun rv_5 h_5 H => ?_
  obtain ⟨t29_1, rfl, hL_5, H⟩ := H
  refine guardM_y' hb_3 ?_
  refine guardM_y' hb_3 ?_
  refine pop_sne _ _ t29_1 t19_1 ?_
  refine pop_pickf' hb_3 ?_
  refine condM_b (fun hb_4 => ?_) (fun hb_4 => ?_)
  ·have H := H.1 hb_4
   exact H
  have H := H.2 hb_4
  refine H.mono fun rv_6 h_6 H => ?_
  obtain ⟨t35_1, rfl, hL_6, H⟩ := H
  refine H.mono fun rv_7 h_7 H => ?_
  obtain ⟨t36_1, rfl, hL_7, H⟩ := H
  refine pop_add .i64 t16_1 1 ?_
  obtain ⟨m_1, hm_1, H⟩ := H
  exact hn_1 _ _ ⟨m_1, hm_1, t36_1, (w64 (t16_1 + 1)), rfl, H, hL_7⟩

/-! impl.told -/
def u34 (P : Program) (g0_1 : Sl) (h : Heap) (K : Value → Heap → Prop) : Prop :=
  ∀ (b_1 : Nat) (b_2 : Nat) (h_2 : Heap), h.size ≤ b_1 → h.size ≤ b_2 → Fr (In []) h h_2 → Vars h_2 [(b_2, [(Sl.v nilSl)]), (b_1, [(Sl.v g0_1)])] →
  callM P 26 #[(Value.agg #[(Sl.v g0_1)])] h_2 fun rv_1 h_3 => ∃ t5_1 : Bool, rv_1 = (VB t5_1) ∧ Vars h_3 [(b_2, [(Sl.v nilSl)]), (b_1, [(Sl.v g0_1)])] ∧
  ((!t5_1) = true →
  ∀ (h_4 : Heap), Fr (In [b_2]) h_3 h_4 → Vars h_4 [(b_2, [(Sl.v nilSl)]), (b_1, [(Sl.v g0_1)])] →
  K (Value.tuple #[(Value.agg #[(Sl.v nilSl)]), (VB false)]) h_4) ∧
  ((!t5_1) = false →
  ∀ (h_5 : Heap), Fr (In [b_2]) h_3 h_5 → Vars h_5 [(b_2, [(Sl.v g0_1)]), (b_1, [(Sl.v g0_1)])] →
  K (Value.tuple #[(Value.agg #[(Sl.v g0_1)]), (VB true)]) h_5)
theorem v34 (g0_1 : Sl) (h : Heap) (K : Value → Heap → Prop) (H : u34 Tryz.prog g0_1 h K) : callM Tryz.prog 34 #[(Value.agg #[(Sl.v g0_1)])] h K := by
  refine c34 (Value.agg #[(Sl.v g0_1)]) h K ?_
  unfold u34 at H
  unfold t34
  have hL : Vars h [] := .nil
  refine eop_box 26 (Value.agg #[(Sl.v g0_1)]) rfl hL (fun b_1 h_1 hb_1 hf_1 hL_1 => ?_)
  refine eop_alloc 26 zer26 rfl hL_1 (fun b_2 h_2 hb_2 hf_2 hL_2 => ?_)
  refine rop_locA agg26 hL_2 1 rfl 0 (vs := [(Sl.v g0_1)]) rfl rfl ?_
  have H := H b_1 b_2 h_2 (Nat.le_trans (Fr.size (Fr.r (In []) _)) hb_1) (Nat.le_trans (Fr.size (Fr.no' (Fr.r (In []) _) hf_1)) hb_2) (Fr.no' (Fr.no' (Fr.r (In []) _) hf_1) hf_2) hL_2
  refine H.mono fun rv_1 h_3 H => ?_
  obtain ⟨t5_1, rfl, hL_3, H⟩ := H
  refine pop_not t5_1 ?_
  refine condM_b (fun hb_3 => ?_) (fun hb_3 => ?_)
  ·have H := H.1 hb_3
   refine pop.mk' (v := (Value.agg #[(Sl.v nilSl)])) (fun w => by kernel_rfl) ?_
   refine uop_loc siz26 hL_3 0 rfl 0 [(Sl.v nilSl)] rfl rfl rfl (Nat.le_of_ble_eq_true rfl) (L' := [(b_2, [(Sl.v nilSl)]), (b_1, [(Sl.v g0_1)])]) rfl (fun h_4 hf_3 hL_4 => ?_)
   refine rop_locA agg26 hL_4 0 rfl 0 (vs := [(Sl.v nilSl)]) rfl rfl ?_
   have H := H  h_4  (Fr.old (Fr.r (In []) _) hf_3) hL_4
   exact H
  have H := H.2 hb_3
  refine rop_locA agg26 hL_3 1 rfl 0 (vs := [(Sl.v g0_1)]) rfl rfl ?_
  refine uop_loc siz26 hL_3 0 rfl 0 [(Sl.v g0_1)] rfl rfl rfl (Nat.le_of_ble_eq_true rfl) (L' := [(b_2, [(Sl.v g0_1)]), (b_1, [(Sl.v g0_1)])]) rfl (fun h_5 hf_4 hL_5 => ?_)
  refine rop_locA agg26 hL_5 0 rfl 0 (vs := [(Sl.v g0_1)]) rfl rfl ?_
  have H := H  h_5  (Fr.old (Fr.r (In []) _) hf_4) hL_5
  exact H

/-! laws.wRows -/
def u35 (P : Program) (a0_1 : Sl) (b1_1 : Sl) (h : Heap) (K : Value → Heap → Prop) : Prop :=
  ((!decide ((a0_1.n : Int) = (b1_1.n : Int))) = true →
  K (VB false) h) ∧
  ((!decide ((a0_1.n : Int) = (b1_1.n : Int))) = false →
  ∃ J_1 : Nat → Int → Heap → Prop, (∃ n0 : Nat, J_1 n0 0 h) ∧
  ∀ (n_1 : Nat) (t13_1 : Int) (h_1 : Heap), J_1 n_1 t13_1 h_1 → Vars h_1 [] →
  ((decide (t13_1 < (a0_1.n : Int))) = true →
  InB a0_1 t13_1 ∧
  ∃ t19_1 : Sl, hcell h_1 (Sl.at a0_1 t13_1 1) = some (Sl.v t19_1) ∧
  InB b1_1 t13_1 ∧
  ∃ t23_1 : Sl, hcell h_1 (Sl.at b1_1 t13_1 1) = some (Sl.v t23_1) ∧
  callM P 18 #[(Sl.v t19_1), (Sl.v t23_1)] h_1 fun rv_1 h_2 => ∃ t24_1 : Bool, rv_1 = (VB t24_1) ∧ Vars h_2 [] ∧
  ((!t24_1) = true →
  K (VB false) h_2) ∧
  ((!t24_1) = false →
  ∃ m : Nat, m < n_1 ∧ J_1 m (w64 (t13_1 + 1)) h_2)) ∧
  ((decide (t13_1 < (a0_1.n : Int))) = false →
  K (VB true) h_1))
theorem v35 (a0_1 : Sl) (b1_1 : Sl) (h : Heap) (K : Value → Heap → Prop) (H : u35 Tryz.prog a0_1 b1_1 h K) : callM Tryz.prog 35 #[(Sl.v a0_1), (Sl.v b1_1)] h K := by
  refine c35 (Sl.v a0_1) (Sl.v b1_1) h K ?_
  unfold u35 at H
  unfold t35
  have hL : Vars h [] := .nil
  refine pop_len a0_1 _ _ sli24 ?_
  refine pop_len b1_1 _ _ sli24 ?_
  refine pop_ine .i64 _ _ (a0_1.n : Int) (b1_1.n : Int) ?_
  refine condM_b (fun hb_1 => ?_) (fun hb_1 => ?_)
  ·have H := H.1 hb_1
   exact H
  have H := H.2 hb_1
  refine pop_len a0_1 _ _ sli24 ?_
  obtain ⟨J_1, ⟨n_2, h0_1⟩, HB_1⟩ := H
  refine loop_intro (J := fun (n : Nat) (vs : List Value) (h' : Heap) => ∃ t13_1 : Int, vs = [(VI t13_1)] ∧ J_1 n t13_1 h' ∧ Vars h' []) n_2 ⟨0, rfl, h0_1, hL⟩ ?_
  intro I_1 mu_1 hI_1 junk_1 tv_1 h_1 hi_1
  obtain ⟨n_1, ⟨t13_1, hv, hJ_1, hL_1⟩, hn_1⟩ := hI_1 _ _ hi_1
  cases hv
  have H := HB_1 n_1 t13_1 h_1 hJ_1 hL_1
  refine pop_lss .i64 t13_1 (a0_1.n : Int) ?_
  refine condM_b (fun hb_2 => ?_) (fun hb_2 => ?_)
  rotate_left
  ·have H := H.2 hb_2
   exact H
  have H := H.1 hb_2
  obtain ⟨hi_2, H⟩ := H
  refine pop_index sli24 siz36 .i64 a0_1 t13_1 hi_2 ?_
  obtain ⟨t19_1, hc_2, H⟩ := H
  refine rop_one one36 (Sl.v t19_1) hc_2 ?_
  obtain ⟨hi_3, H⟩ := H
  refine pop_index sli24 siz36 .i64 b1_1 t13_1 hi_3 ?_
  obtain ⟨t23_1, hc_1, H⟩ := H
  refine rop_one one36 (Sl.v t23_1) hc_1 ?_
  refine H.mono fun rv_1 h_2 H => ?_
  obtain ⟨t24_1, rfl, hL_2, H⟩ := H
  refine pop_not t24_1 ?_
  refine condM_b (fun hb_3 => ?_) (fun hb_3 => ?_)
  ·have H := H.1 hb_3
   exact H
  have H := H.2 hb_3
  refine pop_add .i64 t13_1 1 ?_
  obtain ⟨m_1, hm_1, H⟩ := H
  exact hn_1 _ _ ⟨m_1, hm_1, (w64 (t13_1 + 1)), rfl, H, hL_2⟩

/-! impl.has -/
def u36 (P : Program) (g0_1 : Sl) (places1_1 : Sl) (h : Heap) (K : Value → Heap → Prop) : Prop :=
  ∀ (b_1 : Nat) (h_1 : Heap), h.size ≤ b_1 → Fr (In []) h h_1 → Vars h_1 [(b_1, [(Sl.v g0_1)])] →
  callM P 26 #[(Value.agg #[(Sl.v g0_1)])] h_1 fun rv_1 h_2 => ∃ t6_1 : Bool, rv_1 = (VB t6_1) ∧ Vars h_2 [(b_1, [(Sl.v g0_1)])] ∧
  (t6_1 = true →
  callM P 48 #[(Sl.v places1_1), (Value.func (Fn.func 59) #[] #[(VP b_1 0)])] h_2 fun rv_2 h_3 => ∃ x_1 : Sl, ∃ t10_1 : Bool, rv_2 = (VB t10_1) ∧ Vars h_3 [(b_1, [(Sl.v x_1)])] ∧
  K (VB (!t10_1)) h_3) ∧
  (t6_1 = false →
  K (VB false) h_2)
theorem v36 (g0_1 : Sl) (places1_1 : Sl) (h : Heap) (K : Value → Heap → Prop) (H : u36 Tryz.prog g0_1 places1_1 h K) : callM Tryz.prog 36 #[(Value.agg #[(Sl.v g0_1)]), (Sl.v places1_1)] h K := by
  refine c36 (Value.agg #[(Sl.v g0_1)]) (Sl.v places1_1) h K ?_
  unfold u36 at H
  unfold t36
  have hL : Vars h [] := .nil
  refine eop_box 26 (Value.agg #[(Sl.v g0_1)]) rfl hL (fun b_1 h_1 hb_1 hf_1 hL_1 => ?_)
  refine rop_locA agg26 hL_1 0 rfl 0 (vs := [(Sl.v g0_1)]) rfl rfl ?_
  have H := H b_1 h_1 (Nat.le_trans (Fr.size (Fr.r (In []) _)) hb_1) (Fr.no' (Fr.r (In []) _) hf_1) hL_1
  refine H.mono fun rv_1 h_2 H => ?_
  obtain ⟨t6_1, rfl, hL_2, H⟩ := H
  refine guardM_st (fun hb_2 => ?_) (fun hb_2 => ?_)
  rotate_left
  ·have H := H.2 hb_2
   refine guardM_n' hb_2 (by decide) ?_
   refine guardM_n' hb_2 (by decide) ?_
   refine guardM_n' hb_2 (by decide) ?_
   refine pop_pickf' hb_2 ?_
   exact H
  have H := H.1 hb_2
  refine guardM_y' hb_2 ?_
  refine pop_func _ _ _ ?_
  refine guardM_y' hb_2 ?_
  refine H.mono fun rv_2 h_3 H => ?_
  obtain ⟨x_1, t10_1, rfl, hL_3, H⟩ := H
  refine guardM_y' hb_2 ?_
  refine pop_not t10_1 ?_
  refine pop_pickt' hb_2 ?_
  exact H

/-! slices.Clone[[]int,int] -/
def u37 (P : Program) (s0_1 : Sl) (h : Heap) (K : Value → Heap → Prop) : Prop :=
  pop P (binE .eql 36 (.tmp 3) (.const (Value.slice none 0 0)) (Sl.v s0_1) (Value.slice none 0 0)) fun rv_1 => ∃ t4_1 : Bool, rv_1 = (VB t4_1) ∧ 
  (t4_1 = true →
  K (Sl.v nilSl) h) ∧
  (t4_1 = false →
  eop P (Instr.buildSlice 36 0 #[]) h fun rv_2 h_1 => ∃ t5_1 : Sl, rv_2 = (Sl.v t5_1) ∧ Vars h_1 [] ∧
  eop P (appS 36 36 36 (Sl.v t5_1) (Sl.v s0_1)) h_1 fun rv_3 h_2 => ∃ t7_1 : Sl, rv_3 = (Sl.v t7_1) ∧ Vars h_2 [] ∧
  K (Sl.v t7_1) h_2)
theorem v37 (s0_1 : Sl) (h : Heap) (K : Value → Heap → Prop) (H : u37 Tryz.prog s0_1 h K) : callM Tryz.prog 37 #[(Sl.v s0_1)] h K := by
  refine c37 (Sl.v s0_1) h K ?_
  unfold u37 at H
  unfold t37
  have hL : Vars h [] := .nil
  refine H.mono fun rv_1 H => ?_
  obtain ⟨t4_1, rfl, H⟩ := H
  refine condM_b (fun hb_1 => ?_) (fun hb_1 => ?_)
  ·have H := H.1 hb_1
   exact H
  have H := H.2 hb_1
  refine H.mono fun rv_2 h_1 H => ?_
  obtain ⟨t5_1, rfl, hL_1, H⟩ := H
  refine H.mono fun rv_3 h_2 H => ?_
  obtain ⟨t7_1, rfl, hL_2, H⟩ := H
  exact H

/-! (impl.Graph).entries -/
def u38 (P : Program) (g0_1 : Sl) (p1_1 : Int) (h : Heap) (K : Value → Heap → Prop) : Prop :=
  ∀ (b_1 : Nat) (h_1 : Heap), h.size ≤ b_1 → Fr (In []) h h_1 → Vars h_1 [(b_1, [(Sl.v g0_1)])] →
  callM P 30 #[(Sl.v g0_1)] h_1 fun rv_1 h_2 => ∃ t10_1 : Sl, rv_1 = (Sl.v t10_1) ∧ Vars h_2 [(b_1, [(Sl.v g0_1)])] ∧
  ∃ J_1 : Nat → Int → Int → Heap → Prop, (∃ n0 : Nat, J_1 n0 0 0 h_2) ∧
  ∀ (n_1 : Nat) (many5_1 : Int) (t12_1 : Int) (h_3 : Heap), J_1 n_1 many5_1 t12_1 h_3 → Vars h_3 [(b_1, [(Sl.v g0_1)])] →
  ((decide (t12_1 < (t10_1.n : Int))) = true →
  InB t10_1 t12_1 ∧
  ∃ t15_1 : Int, hcell h_3 (Sl.at t10_1 t12_1 1) = some (VI t15_1) ∧
  ((decide (t15_1 = p1_1)) = true →
  ∃ m : Nat, m < n_1 ∧ J_1 m (w64 (many5_1 + 1)) (w64 (t12_1 + 1)) h_3) ∧
  ((decide (t15_1 = p1_1)) = false →
  ∃ m : Nat, m < n_1 ∧ J_1 m many5_1 (w64 (t12_1 + 1)) h_3)) ∧
  ((decide (t12_1 < (t10_1.n : Int))) = false →
  K (VI many5_1) h_3)
theorem v38 (g0_1 : Sl) (p1_1 : Int) (h : Heap) (K : Value → Heap → Prop) (H : u38 Tryz.prog g0_1 p1_1 h K) : callM Tryz.prog 38 #[(Value.agg #[(Sl.v g0_1)]), (VI p1_1)] h K := by
  refine c38 (Value.agg #[(Sl.v g0_1)]) (VI p1_1) h K ?_
  unfold u38 at H
  unfold t38
  have hL : Vars h [] := .nil
  refine eop_box 26 (Value.agg #[(Sl.v g0_1)]) rfl hL (fun b_1 h_1 hb_1 hf_1 hL_1 => ?_)
  refine pop_field 0 fld26_0 b_1 0 ?_
  refine rop_loc one24 hL_1 0 rfl 0 (v := (Sl.v g0_1)) rfl ?_
  have H := H b_1 h_1 (Nat.le_trans (Fr.size (Fr.r (In []) _)) hb_1) (Fr.no' (Fr.r (In []) _) hf_1) hL_1
  refine H.mono fun rv_1 h_2 H => ?_
  obtain ⟨t10_1, rfl, hL_2, H⟩ := H
  refine pop_len t10_1 _ _ sli36 ?_
  obtain ⟨J_1, ⟨n_2, h0_1⟩, HB_1⟩ := H
  refine loop_intro (J := fun (n : Nat) (vs : List Value) (h' : Heap) => ∃ many5_1 : Int, ∃ t12_1 : Int, vs = [(VI many5_1), (VI t12_1)] ∧ J_1 n many5_1 t12_1 h' ∧ Vars h' [(b_1, [(Sl.v g0_1)])]) n_2 ⟨0, 0, rfl, h0_1, hL_2⟩ ?_
  intro I_1 mu_1 hI_1 junk_1 tv_1 tv_2 h_3 hi_1
  obtain ⟨n_1, ⟨many5_1, t12_1, hv, hJ_1, hL_3⟩, hn_1⟩ := hI_1 _ _ hi_1
  cases hv
  have H := HB_1 n_1 many5_1 t12_1 h_3 hJ_1 hL_3
  refine pop_lss .i64 t12_1 (t10_1.n : Int) ?_
  refine condM_b (fun hb_2 => ?_) (fun hb_2 => ?_)
  rotate_left
  ·have H := H.2 hb_2
   exact H
  have H := H.1 hb_2
  obtain ⟨hi_2, H⟩ := H
  refine pop_index sli36 siz3 .i64 t10_1 t12_1 hi_2 ?_
  obtain ⟨t15_1, hc_1, H⟩ := H
  refine rop_one one3 (VI t15_1) hc_1 ?_
  refine pop_ieq .i64 _ _ t15_1 p1_1 ?_
  refine condM_b (fun hb_3 => ?_) (fun hb_3 => ?_)
  rotate_left
  ·have H := H.2 hb_3
   refine pop_add .i64 t12_1 1 ?_
   obtain ⟨m_2, hm_2, H⟩ := H
   exact hn_1 _ _ ⟨m_2, hm_2, many5_1, (w64 (t12_1 + 1)), rfl, H, hL_3⟩
  have H := H.1 hb_3
  refine pop_add .i64 many5_1 1 ?_
  refine pop_add .i64 t12_1 1 ?_
  obtain ⟨m_1, hm_1, H⟩ := H
  exact hn_1 _ _ ⟨m_1, hm_1, (w64 (many5_1 + 1)), (w64 (t12_1 + 1)), rfl, H, hL_3⟩

/-! (impl.Graph).isBalanced -/
def u39 (P : Program) (g0_1 : Sl) (h : Heap) (K : Value → Heap → Prop) : Prop :=
  ∀ (b_1 : Nat) (h_1 : Heap), h.size ≤ b_1 → Fr (In []) h h_1 → Vars h_1 [(b_1, [(Sl.v g0_1)])] →
  ∃ J_1 : Nat → Int → Heap → Prop, (∃ n0 : Nat, J_1 n0 0 h_1) ∧
  ∀ (n_1 : Nat) (t8_1 : Int) (h_2 : Heap), J_1 n_1 t8_1 h_2 → Vars h_2 [(b_1, [(Sl.v g0_1)])] →
  ((decide (t8_1 < (g0_1.n : Int))) = true →
  InB g0_1 t8_1 ∧
  ∃ t12_1 : Sl, hcell h_2 (Sl.at g0_1 t8_1 1) = some (Sl.v t12_1) ∧
  callM P 38 #[(Value.agg #[(Sl.v g0_1)]), (VI t8_1)] h_2 fun rv_1 h_3 => ∃ t17_1 : Int, rv_1 = (VI t17_1) ∧ Vars h_3 [(b_1, [(Sl.v g0_1)])] ∧
  ((!decide ((t12_1.n : Int) = t17_1)) = true →
  K (VB false) h_3) ∧
  ((!decide ((t12_1.n : Int) = t17_1)) = false →
  ∃ m : Nat, m < n_1 ∧ J_1 m (w64 (t8_1 + 1)) h_3)) ∧
  ((decide (t8_1 < (g0_1.n : Int))) = false →
  K (VB true) h_2)
theorem v39 (g0_1 : Sl) (h : Heap) (K : Value → Heap → Prop) (H : u39 Tryz.prog g0_1 h K) : callM Tryz.prog 39 #[(Value.agg #[(Sl.v g0_1)])] h K := by
  refine c39 (Value.agg #[(Sl.v g0_1)]) h K ?_
  unfold u39 at H
  unfold t39
  have hL : Vars h [] := .nil
  refine eop_box 26 (Value.agg #[(Sl.v g0_1)]) rfl hL (fun b_1 h_1 hb_1 hf_1 hL_1 => ?_)
  refine pop_field 0 fld26_0 b_1 0 ?_
  refine rop_loc one24 hL_1 0 rfl 0 (v := (Sl.v g0_1)) rfl ?_
  refine pop_len g0_1 _ _ sli24 ?_
  have H := H b_1 h_1 (Nat.le_trans (Fr.size (Fr.r (In []) _)) hb_1) (Fr.no' (Fr.r (In []) _) hf_1) hL_1
  obtain ⟨J_1, ⟨n_2, h0_1⟩, HB_1⟩ := H
  refine loop_intro (J := fun (n : Nat) (vs : List Value) (h' : Heap) => ∃ t8_1 : Int, vs = [(VI t8_1)] ∧ J_1 n t8_1 h' ∧ Vars h' [(b_1, [(Sl.v g0_1)])]) n_2 ⟨0, rfl, h0_1, hL_1⟩ ?_
  intro I_1 mu_1 hI_1 junk_1 tv_1 h_2 hi_1
  obtain ⟨n_1, ⟨t8_1, hv, hJ_1, hL_2⟩, hn_1⟩ := hI_1 _ _ hi_1
  cases hv
  have H := HB_1 n_1 t8_1 h_2 hJ_1 hL_2
  refine pop_lss .i64 t8_1 (g0_1.n : Int) ?_
  refine condM_b (fun hb_2 => ?_) (fun hb_2 => ?_)
  rotate_left
  ·have H := H.2 hb_2
   exact H
  have H := H.1 hb_2
  obtain ⟨hi_2, H⟩ := H
  refine pop_index sli24 siz36 .i64 g0_1 t8_1 hi_2 ?_
  obtain ⟨t12_1, hc_1, H⟩ := H
  refine rop_one one36 (Sl.v t12_1) hc_1 ?_
  refine pop_len t12_1 _ _ sli36 ?_
  refine rop_locA agg26 hL_2 0 rfl 0 (vs := [(Sl.v g0_1)]) rfl rfl ?_
  refine H.mono fun rv_1 h_3 H => ?_
  obtain ⟨t17_1, rfl, hL_3, H⟩ := H
  refine pop_ine .i64 _ _ (t12_1.n : Int) t17_1 ?_
  refine condM_b (fun hb_3 => ?_) (fun hb_3 => ?_)
  ·have H := H.1 hb_3
   exact H
  have H := H.2 hb_3
  refine pop_add .i64 t8_1 1 ?_
  obtain ⟨m_1, hm_1, H⟩ := H
  exact hn_1 _ _ ⟨m_1, hm_1, (w64 (t8_1 + 1)), rfl, H, hL_3⟩

/-! spec.grIf -/
def u40 (P : Program) (g0_1 : Sl) (h : Heap) (K : Value → Heap → Prop) : Prop :=
  ∀ (b_1 : Nat) (b_2 : Nat) (h_2 : Heap), h.size ≤ b_1 → h.size ≤ b_2 → Fr (In []) h h_2 → Vars h_2 [(b_2, [(Sl.v nilSl)]), (b_1, [(Sl.v g0_1)])] →
  callM P 28 #[(Value.agg #[(Sl.v g0_1)])] h_2 fun rv_1 h_3 => ∃ t5_1 : Bool, rv_1 = (VB t5_1) ∧ Vars h_3 [(b_2, [(Sl.v nilSl)]), (b_1, [(Sl.v g0_1)])] ∧
  ((!t5_1) = true →
  ∀ (h_4 : Heap), Fr (In [b_2]) h_3 h_4 → Vars h_4 [(b_2, [(Sl.v nilSl)]), (b_1, [(Sl.v g0_1)])] →
  K (Value.tuple #[(Value.agg #[(Sl.v nilSl)]), (VB false)]) h_4) ∧
  ((!t5_1) = false →
  ∀ (h_5 : Heap), Fr (In [b_2]) h_3 h_5 → Vars h_5 [(b_2, [(Sl.v g0_1)]), (b_1, [(Sl.v g0_1)])] →
  K (Value.tuple #[(Value.agg #[(Sl.v g0_1)]), (VB true)]) h_5)
theorem v40 (g0_1 : Sl) (h : Heap) (K : Value → Heap → Prop) (H : u40 Tryz.prog g0_1 h K) : callM Tryz.prog 40 #[(Value.agg #[(Sl.v g0_1)])] h K := by
  refine c40 (Value.agg #[(Sl.v g0_1)]) h K ?_
  unfold u40 at H
  unfold t40
  have hL : Vars h [] := .nil
  refine eop_box 26 (Value.agg #[(Sl.v g0_1)]) rfl hL (fun b_1 h_1 hb_1 hf_1 hL_1 => ?_)
  refine eop_alloc 26 zer26 rfl hL_1 (fun b_2 h_2 hb_2 hf_2 hL_2 => ?_)
  refine rop_locA agg26 hL_2 1 rfl 0 (vs := [(Sl.v g0_1)]) rfl rfl ?_
  have H := H b_1 b_2 h_2 (Nat.le_trans (Fr.size (Fr.r (In []) _)) hb_1) (Nat.le_trans (Fr.size (Fr.no' (Fr.r (In []) _) hf_1)) hb_2) (Fr.no' (Fr.no' (Fr.r (In []) _) hf_1) hf_2) hL_2
  refine H.mono fun rv_1 h_3 H => ?_
  obtain ⟨t5_1, rfl, hL_3, H⟩ := H
  refine pop_not t5_1 ?_
  refine condM_b (fun hb_3 => ?_) (fun hb_3 => ?_)
  ·have H := H.1 hb_3
   refine pop.mk' (v := (Value.agg #[(Sl.v nilSl)])) (fun w => by kernel_rfl) ?_
   refine uop_loc siz26 hL_3 0 rfl 0 [(Sl.v nilSl)] rfl rfl rfl (Nat.le_of_ble_eq_true rfl) (L' := [(b_2, [(Sl.v nilSl)]), (b_1, [(Sl.v g0_1)])]) rfl (fun h_4 hf_3 hL_4 => ?_)
   refine rop_locA agg26 hL_4 0 rfl 0 (vs := [(Sl.v nilSl)]) rfl rfl ?_
   have H := H  h_4  (Fr.old (Fr.r (In []) _) hf_3) hL_4
   exact H
  have H := H.2 hb_3
  refine rop_locA agg26 hL_3 1 rfl 0 (vs := [(Sl.v g0_1)]) rfl rfl ?_
  refine uop_loc siz26 hL_3 0 rfl 0 [(Sl.v g0_1)] rfl rfl rfl (Nat.le_of_ble_eq_true rfl) (L' := [(b_2, [(Sl.v g0_1)]), (b_1, [(Sl.v g0_1)])]) rfl (fun h_5 hf_4 hL_5 => ?_)
  refine rop_locA agg26 hL_5 0 rfl 0 (vs := [(Sl.v g0_1)]) rfl rfl ?_
  have H := H  h_5  (Fr.old (Fr.r (In []) _) hf_4) hL_5
  exact H

/-! (impl.Graph).isStrong -/
def u41 (P : Program) (g0_1 : Sl) (h : Heap) (K : Value → Heap → Prop) : Prop :=
  ∀ (b_1 : Nat) (h_1 : Heap), h.size ≤ b_1 → Fr (In []) h h_1 → Vars h_1 [(b_1, [(Sl.v g0_1)])] →
  ∃ J_1 : Nat → Int → Heap → Prop, (∃ n0 : Nat, J_1 n0 0 h_1) ∧
  ∀ (n_1 : Nat) (t7_1 : Int) (h_2 : Heap), J_1 n_1 t7_1 h_2 → Vars h_2 [(b_1, [(Sl.v g0_1)])] →
  ((decide (t7_1 < (g0_1.n : Int))) = true →
  callM P 60 #[(Value.agg #[(Sl.v g0_1)]), (VI t7_1)] h_2 fun rv_1 h_3 => ∃ t12_1 : Sl, rv_1 = (Sl.v t12_1) ∧ Vars h_3 [(b_1, [(Sl.v g0_1)])] ∧
  ((!decide ((t12_1.n : Int) = (g0_1.n : Int))) = true →
  K (VB false) h_3) ∧
  ((!decide ((t12_1.n : Int) = (g0_1.n : Int))) = false →
  ∃ m : Nat, m < n_1 ∧ J_1 m (w64 (t7_1 + 1)) h_3)) ∧
  ((decide (t7_1 < (g0_1.n : Int))) = false →
  K (VB true) h_2)
theorem v41 (g0_1 : Sl) (h : Heap) (K : Value → Heap → Prop) (H : u41 Tryz.prog g0_1 h K) : callM Tryz.prog 41 #[(Value.agg #[(Sl.v g0_1)])] h K := by
  refine c41 (Value.agg #[(Sl.v g0_1)]) h K ?_
  unfold u41 at H
  unfold t41
  have hL : Vars h [] := .nil
  refine eop_box 26 (Value.agg #[(Sl.v g0_1)]) rfl hL (fun b_1 h_1 hb_1 hf_1 hL_1 => ?_)
  refine pop_field 0 fld26_0 b_1 0 ?_
  refine rop_loc one24 hL_1 0 rfl 0 (v := (Sl.v g0_1)) rfl ?_
  refine pop_len g0_1 _ _ sli24 ?_
  have H := H b_1 h_1 (Nat.le_trans (Fr.size (Fr.r (In []) _)) hb_1) (Fr.no' (Fr.r (In []) _) hf_1) hL_1
  obtain ⟨J_1, ⟨n_2, h0_1⟩, HB_1⟩ := H
  refine loop_intro (J := fun (n : Nat) (vs : List Value) (h' : Heap) => ∃ t7_1 : Int, vs = [(VI t7_1)] ∧ J_1 n t7_1 h' ∧ Vars h' [(b_1, [(Sl.v g0_1)])]) n_2 ⟨0, rfl, h0_1, hL_1⟩ ?_
  intro I_1 mu_1 hI_1 junk_1 tv_1 h_2 hi_1
  obtain ⟨n_1, ⟨t7_1, hv, hJ_1, hL_2⟩, hn_1⟩ := hI_1 _ _ hi_1
  cases hv
  have H := HB_1 n_1 t7_1 h_2 hJ_1 hL_2
  refine pop_lss .i64 t7_1 (g0_1.n : Int) ?_
  refine condM_b (fun hb_2 => ?_) (fun hb_2 => ?_)
  rotate_left
  ·have H := H.2 hb_2
   exact H
  have H := H.1 hb_2
  refine rop_locA agg26 hL_2 0 rfl 0 (vs := [(Sl.v g0_1)]) rfl rfl ?_
  refine pop_field 0 fld26_0 b_1 0 ?_
  refine rop_loc one24 hL_2 0 rfl 0 (v := (Sl.v g0_1)) rfl ?_
  refine pop_len g0_1 _ _ sli24 ?_
  refine H.mono fun rv_1 h_3 H => ?_
  obtain ⟨t12_1, rfl, hL_3, H⟩ := H
  refine ⟨?_, ?_⟩
  ·exact still_loc one24 hL_3 0 rfl 0 (v := (Sl.v g0_1)) rfl
  refine pop_len t12_1 _ _ sli36 ?_
  refine pop_ine .i64 _ _ (t12_1.n : Int) (g0_1.n : Int) ?_
  refine condM_b (fun hb_3 => ?_) (fun hb_3 => ?_)
  ·have H := H.1 hb_3
   exact H
  have H := H.2 hb_3
  refine pop_add .i64 t7_1 1 ?_
  obtain ⟨m_1, hm_1, H⟩ := H
  exact hn_1 _ _ ⟨m_1, hm_1, (w64 (t7_1 + 1)), rfl, H, hL_3⟩

/-! (*spec.l1Cur).sureGraph -/
def u42 (P : Program) (b_1 : Nat) (c0_1 : Sl) (c0_2 : Int) (c0_3 : Int) (most1_1 : Int) (h : Heap) (K : Value → Heap → Prop) : Prop :=
  ∀ (b_2 : Nat) (h_1 : Heap), h.size ≤ b_2 → Fr (In []) h h_1 → Vars h_1 [(b_2, [(Sl.v nilSl)]), (b_1, [(Sl.v c0_1), (VI c0_2), (Value.int .u64 c0_3)])] →
  callM P 61 #[(VP b_1 0), (VI most1_1)] h_1 fun rv_1 h_2 => ∃ x_1 : Sl, ∃ x_2 : Int, ∃ x_3 : Int, ∃ t13_1 : Int, rv_1 = (VI t13_1) ∧ Vars h_2 [(b_2, [(Sl.v nilSl)]), (b_1, [(Sl.v x_1), (VI x_2), (Value.int .u64 x_3)])] ∧
  callM P 43 #[(VP b_1 0), (VI 4)] h_2 fun rv_2 h_3 => ∃ x_4 : Sl, ∃ x_5 : Int, ∃ x_6 : Int, ∃ t16_1 : Bool, rv_2 = (VB t16_1) ∧ Vars h_3 [(b_2, [(Sl.v nilSl)]), (b_1, [(Sl.v x_4), (VI x_5), (Value.int .u64 x_6)])] ∧
  (t16_1 = true →
  callM P 43 #[(VP b_1 0), (VI 2)] h_3 fun rv_3 h_4 => ∃ x_7 : Sl, ∃ x_8 : Int, ∃ x_9 : Int, ∃ t19_1 : Bool, rv_3 = (VB t19_1) ∧ Vars h_4 [(b_2, [(Sl.v nilSl)]), (b_1, [(Sl.v x_7), (VI x_8), (Value.int .u64 x_9)])] ∧
  callM P 62 #[(VI (w64 (1 + t13_1))), (VB t19_1)] h_4 fun rv_4 h_5 => ∃ t20_1 : Sl, rv_4 = (Value.agg #[(Sl.v t20_1)]) ∧ Vars h_5 [(b_2, [(Sl.v nilSl)]), (b_1, [(Sl.v x_7), (VI x_8), (Value.int .u64 x_9)])] ∧
  ∀ (h_6 : Heap), Fr (In [b_2]) h_5 h_6 → Vars h_6 [(b_2, [(Sl.v t20_1)]), (b_1, [(Sl.v x_7), (VI x_8), (Value.int .u64 x_9)])] →
  K (Value.agg #[(Sl.v t20_1)]) h_6) ∧
  (t16_1 = false →
  ∀ (b_3 : Nat) (h_8 : Heap), h_3.size ≤ b_3 → Fr (In []) h_3 h_8 → Vars h_8 [(b_3, [(Sl.v nilSl)]), (b_2, [(Sl.v nilSl)]), (b_1, [(Sl.v x_4), (VI x_5), (Value.int .u64 x_6)])] →
  ∃ J_1 : Nat → Int → Sl → Sl → Int → Int → Heap → Prop, (∃ n0 : Nat, J_1 n0 0 nilSl x_4 x_5 x_6 h_8) ∧
  ∀ (n_1 : Nat) (p7_1 : Int) (x_10 : Sl) (x_11 : Sl) (x_12 : Int) (x_13 : Int) (h_9 : Heap), J_1 n_1 p7_1 x_10 x_11 x_12 x_13 h_9 → Vars h_9 [(b_3, [(Sl.v x_10)]), (b_2, [(Sl.v nilSl)]), (b_1, [(Sl.v x_11), (VI x_12), (Value.int .u64 x_13)])] →
  ((decide (p7_1 < (w64 (1 + t13_1)))) = true →
  callM P 61 #[(VP b_1 0), (VI 3)] h_9 fun rv_5 h_10 => ∃ x_14 : Sl, ∃ x_15 : Int, ∃ x_16 : Int, ∃ t28_1 : Int, rv_5 = (VI t28_1) ∧ Vars h_10 [(b_3, [(Sl.v x_10)]), (b_2, [(Sl.v nilSl)]), (b_1, [(Sl.v x_14), (VI x_15), (Value.int .u64 x_16)])] ∧
  ∃ J_2 : Nat → Sl → Int → Sl → Int → Int → Heap → Prop, (∃ n0 : Nat, J_2 n0 nilSl (w64 (1 + t28_1)) x_14 x_15 x_16 h_10) ∧
  ∀ (n_2 : Nat) (list8_1 : Sl) (k9_1 : Int) (x_17 : Sl) (x_18 : Int) (x_19 : Int) (h_11 : Heap), J_2 n_2 list8_1 k9_1 x_17 x_18 x_19 h_11 → Vars h_11 [(b_3, [(Sl.v x_10)]), (b_2, [(Sl.v nilSl)]), (b_1, [(Sl.v x_17), (VI x_18), (Value.int .u64 x_19)])] →
  ((decide (0 < k9_1)) = true →
  callM P 61 #[(VP b_1 0), (VI (w64 (1 + t13_1)))] h_11 fun rv_6 h_12 => ∃ x_20 : Sl, ∃ x_21 : Int, ∃ x_22 : Int, ∃ t37_1 : Int, rv_6 = (VI t37_1) ∧ Vars h_12 [(b_3, [(Sl.v x_10)]), (b_2, [(Sl.v nilSl)]), (b_1, [(Sl.v x_20), (VI x_21), (Value.int .u64 x_22)])] ∧
  eop P (Instr.buildSlice 36 1 #[(0, (VI t37_1))]) h_12 fun rv_7 h_13 => ∃ t38_1 : Sl, rv_7 = (Sl.v t38_1) ∧ Vars h_13 [(b_3, [(Sl.v x_10)]), (b_2, [(Sl.v nilSl)]), (b_1, [(Sl.v x_20), (VI x_21), (Value.int .u64 x_22)])] ∧
  eop P (appS 36 36 36 (Sl.v list8_1) (Sl.v t38_1)) h_13 fun rv_8 h_14 => ∃ t39_1 : Sl, rv_8 = (Sl.v t39_1) ∧ Vars h_14 [(b_3, [(Sl.v x_10)]), (b_2, [(Sl.v nilSl)]), (b_1, [(Sl.v x_20), (VI x_21), (Value.int .u64 x_22)])] ∧
  ∃ m : Nat, m < n_2 ∧ J_2 m t39_1 (w64 (k9_1 - 1)) x_20 x_21 x_22 h_14) ∧
  ((decide (0 < k9_1)) = false →
  ∃ J_3 : Sl → Sl → Int → Int → Heap → Prop, (callM P 43 #[(VP b_1 0), (VI 8)] h_11 fun rv_9 h_15 => ∃ x_27 : Sl, ∃ x_28 : Int, ∃ x_29 : Int, ∃ t41_1 : Bool, rv_9 = (VB t41_1) ∧ Vars h_15 [(b_3, [(Sl.v x_10)]), (b_2, [(Sl.v nilSl)]), (b_1, [(Sl.v x_27), (VI x_28), (Value.int .u64 x_29)])] ∧
  (t41_1 = true →
  J_3 nilSl x_27 x_28 x_29 h_15) ∧
  (t41_1 = false →
  J_3 list8_1 x_27 x_28 x_29 h_15)) ∧
  ∀ (x_23 : Sl) (x_24 : Sl) (x_25 : Int) (x_26 : Int) (h_16 : Heap), J_3 x_23 x_24 x_25 x_26 h_16 → Vars h_16 [(b_3, [(Sl.v x_10)]), (b_2, [(Sl.v nilSl)]), (b_1, [(Sl.v x_24), (VI x_25), (Value.int .u64 x_26)])] →
  eop P (Instr.buildSlice 24 1 #[(0, (Sl.v x_23))]) h_16 fun rv_10 h_17 => ∃ t45_1 : Sl, rv_10 = (Sl.v t45_1) ∧ Vars h_17 [(b_3, [(Sl.v x_10)]), (b_2, [(Sl.v nilSl)]), (b_1, [(Sl.v x_24), (VI x_25), (Value.int .u64 x_26)])] ∧
  eop P (appS 24 24 24 (Sl.v x_10) (Sl.v t45_1)) h_17 fun rv_11 h_18 => ∃ t46_1 : Sl, rv_11 = (Sl.v t46_1) ∧ Vars h_18 [(b_3, [(Sl.v x_10)]), (b_2, [(Sl.v nilSl)]), (b_1, [(Sl.v x_24), (VI x_25), (Value.int .u64 x_26)])] ∧
  ∀ (h_19 : Heap), Fr (In [b_3]) h_18 h_19 → Vars h_19 [(b_3, [(Sl.v t46_1)]), (b_2, [(Sl.v nilSl)]), (b_1, [(Sl.v x_24), (VI x_25), (Value.int .u64 x_26)])] →
  ∃ m : Nat, m < n_1 ∧ J_1 m (w64 (p7_1 + 1)) t46_1 x_24 x_25 x_26 h_19)) ∧
  ((decide (p7_1 < (w64 (1 + t13_1)))) = false →
  callM P 43 #[(VP b_1 0), (VI 2)] h_9 fun rv_12 h_20 => ∃ x_30 : Sl, ∃ x_31 : Int, ∃ x_32 : Int, ∃ t49_1 : Bool, rv_12 = (VB t49_1) ∧ Vars h_20 [(b_3, [(Sl.v x_10)]), (b_2, [(Sl.v nilSl)]), (b_1, [(Sl.v x_30), (VI x_31), (Value.int .u64 x_32)])] ∧
  (t49_1 = true →
  ∃ J_4 : Nat → Int → Heap → Prop, (∃ n0 : Nat, J_4 n0 0 h_20) ∧
  ∀ (n_4 : Nat) (t53_1 : Int) (h_21 : Heap), J_4 n_4 t53_1 h_21 → Vars h_21 [(b_3, [(Sl.v x_10)]), (b_2, [(Sl.v nilSl)]), (b_1, [(Sl.v x_30), (VI x_31), (Value.int .u64 x_32)])] →
  ((decide (t53_1 < (x_10.n : Int))) = true →
  InB x_10 t53_1 ∧
  ∃ t63_1 : Sl, hcell h_21 (Sl.at x_10 t53_1 1) = some (Sl.v t63_1) ∧
  (w64 (1 + t13_1)) ≠ 0 ∧
  eop P (Instr.buildSlice 36 1 #[(0, (VI (Int.tmod (w64 (t53_1 + 1)) (w64 (1 + t13_1)))))]) h_21 fun rv_13 h_22 => ∃ t68_1 : Sl, rv_13 = (Sl.v t68_1) ∧ Vars h_22 [(b_3, [(Sl.v x_10)]), (b_2, [(Sl.v nilSl)]), (b_1, [(Sl.v x_30), (VI x_31), (Value.int .u64 x_32)])] ∧
  hcell h_22 (Sl.at x_10 t53_1 1) = some (Sl.v t63_1) ∧
  eop P (appS 36 36 36 (Sl.v t63_1) (Sl.v t68_1)) h_22 fun rv_14 h_23 => ∃ t69_1 : Sl, rv_14 = (Sl.v t69_1) ∧ Vars h_23 [(b_3, [(Sl.v x_10)]), (b_2, [(Sl.v nilSl)]), (b_1, [(Sl.v x_30), (VI x_31), (Value.int .u64 x_32)])] ∧
  InB x_10 t53_1 ∧
  Writable h_23 (Sl.at x_10 t53_1 1) ∧ Vars (hset h_23 (Sl.at x_10 t53_1 1) (Sl.v t69_1)) [(b_3, [(Sl.v x_10)]), (b_2, [(Sl.v nilSl)]), (b_1, [(Sl.v x_30), (VI x_31), (Value.int .u64 x_32)])] ∧
  ∀ h_24 : Heap, h_24 = hset h_23 (Sl.at x_10 t53_1 1) (Sl.v t69_1) → Vars h_24 [(b_3, [(Sl.v x_10)]), (b_2, [(Sl.v nilSl)]), (b_1, [(Sl.v x_30), (VI x_31), (Value.int .u64 x_32)])] →
  ∃ m : Nat, m < n_4 ∧ J_4 m (w64 (t53_1 + 1)) h_24) ∧
  ((decide (t53_1 < (x_10.n : Int))) = false →
  ∀ (h_25 : Heap), Fr (In [b_2]) h_21 h_25 → Vars h_25 [(b_3, [(Sl.v x_10)]), (b_2, [(Sl.v x_10)]), (b_1, [(Sl.v x_30), (VI x_31), (Value.int .u64 x_32)])] →
  K (Value.agg #[(Sl.v x_10)]) h_25)) ∧
  (t49_1 = false →
  ∀ (h_26 : Heap), Fr (In [b_2]) h_20 h_26 → Vars h_26 [(b_3, [(Sl.v x_10)]), (b_2, [(Sl.v x_10)]), (b_1, [(Sl.v x_30), (VI x_31), (Value.int .u64 x_32)])] →
  K (Value.agg #[(Sl.v x_10)]) h_26)))
theorem v42 (b_1 : Nat) (c0_1 : Sl) (c0_2 : Int) (c0_3 : Int) (most1_1 : Int) (h : Heap) (K : Value → Heap → Prop) (hL : Vars h [(b_1, [(Sl.v c0_1), (VI c0_2), (Value.int .u64 c0_3)])]) (H : u42 Tryz.prog b_1 c0_1 c0_2 c0_3 most1_1 h K) : callM Tryz.prog 42 #[(VP b_1 0), (VI most1_1)] h K := by
  refine c42 (VP b_1 0) (VI most1_1) h K ?_
  unfold u42 at H
  unfold t42
  refine eop_alloc 26 zer26 rfl hL (fun b_2 h_1 hb_1 hf_1 hL_1 => ?_)
  have H := H b_2 h_1 (Nat.le_trans (Fr.size (Fr.r (In []) _)) hb_1) (Fr.no' (Fr.r (In []) _) hf_1) hL_1
  refine H.mono fun rv_1 h_2 H => ?_
  obtain ⟨x_1, x_2, x_3, t13_1, rfl, hL_2, H⟩ := H
  refine pop_add .i64 1 t13_1 ?_
  refine H.mono fun rv_2 h_3 H => ?_
  obtain ⟨x_4, x_5, x_6, t16_1, rfl, hL_3, H⟩ := H
  refine condM_b (fun hb_2 => ?_) (fun hb_2 => ?_)
  ·have H := H.1 hb_2
   refine H.mono fun rv_3 h_4 H => ?_
   obtain ⟨x_7, x_8, x_9, t19_1, rfl, hL_4, H⟩ := H
   refine H.mono fun rv_4 h_5 H => ?_
   obtain ⟨t20_1, rfl, hL_5, H⟩ := H
   refine uop_loc siz26 hL_5 0 rfl 0 [(Sl.v t20_1)] rfl rfl rfl (Nat.le_of_ble_eq_true rfl) (L' := [(b_2, [(Sl.v t20_1)]), (b_1, [(Sl.v x_7), (VI x_8), (Value.int .u64 x_9)])]) rfl (fun h_6 hf_2 hL_6 => ?_)
   refine rop_locA agg26 hL_6 0 rfl 0 (vs := [(Sl.v t20_1)]) rfl rfl ?_
   have H := H  h_6  (Fr.old (Fr.r (In []) _) hf_2) hL_6
   exact H
  have H := H.2 hb_2
  refine pop.mk' (v := (Value.agg #[(Sl.v nilSl)])) (fun w => by kernel_rfl) ?_
  refine eop_alloc 26 zer26 rfl hL_3 (fun b_3 h_7 hb_3 hf_3 hL_7 => ?_)
  refine uop_loc siz26 hL_7 0 rfl 0 [(Sl.v nilSl)] rfl rfl rfl (Nat.le_of_ble_eq_true rfl) (L' := [(b_3, [(Sl.v nilSl)]), (b_2, [(Sl.v nilSl)]), (b_1, [(Sl.v x_4), (VI x_5), (Value.int .u64 x_6)])]) rfl (fun h_8 hf_4 hL_8 => ?_)
  have H := H b_3 h_8 (Nat.le_trans (Fr.size (Fr.r (In []) _)) hb_3) (Fr.new (Fr.no' (Fr.r (In []) _) hf_3) (Nat.le_trans (Fr.size (Fr.r (In []) _)) hb_3) hf_4) hL_8
  obtain ⟨J_1, ⟨n_6, h0_3⟩, HB_4⟩ := H
  refine loop_intro (J := fun (n : Nat) (vs : List Value) (h' : Heap) => ∃ p7_1 : Int, ∃ x_10 : Sl, ∃ x_11 : Sl, ∃ x_12 : Int, ∃ x_13 : Int, vs = [(VI p7_1)] ∧ J_1 n p7_1 x_10 x_11 x_12 x_13 h' ∧ Vars h' [(b_3, [(Sl.v x_10)]), (b_2, [(Sl.v nilSl)]), (b_1, [(Sl.v x_11), (VI x_12), (Value.int .u64 x_13)])]) n_6 ⟨0, nilSl, x_4, x_5, x_6, rfl, h0_3, hL_8⟩ ?_
  intro I_3 mu_3 hI_3 junk_1 tv_5 h_9 hi_1
  obtain ⟨n_1, ⟨p7_1, x_10, x_11, x_12, x_13, hv, hJ_1, hL_9⟩, hn_1⟩ := hI_3 _ _ hi_1
  cases hv
  have H := HB_4 n_1 p7_1 x_10 x_11 x_12 x_13 h_9 hJ_1 hL_9
  refine pop_lss .i64 p7_1 (w64 (1 + t13_1)) ?_
  refine condM_b (fun hb_4 => ?_) (fun hb_4 => ?_)
  ·have H := H.1 hb_4
   refine H.mono fun rv_5 h_10 H => ?_
   obtain ⟨x_14, x_15, x_16, t28_1, rfl, hL_10, H⟩ := H
   refine pop_add .i64 1 t28_1 ?_
   obtain ⟨J_2, ⟨n_3, h0_1⟩, HB_2⟩ := H
   refine loop_intro (J := fun (n : Nat) (vs : List Value) (h' : Heap) => ∃ list8_1 : Sl, ∃ k9_1 : Int, ∃ x_17 : Sl, ∃ x_18 : Int, ∃ x_19 : Int, vs = [(Sl.v list8_1), (VI k9_1)] ∧ J_2 n list8_1 k9_1 x_17 x_18 x_19 h' ∧ Vars h' [(b_3, [(Sl.v x_10)]), (b_2, [(Sl.v nilSl)]), (b_1, [(Sl.v x_17), (VI x_18), (Value.int .u64 x_19)])]) n_3 ⟨nilSl, (w64 (1 + t28_1)), x_14, x_15, x_16, rfl, h0_1, hL_10⟩ ?_
   intro I_1 mu_1 hI_1 junk_2 tv_2 tv_3 h_11 hi_2
   obtain ⟨n_2, ⟨list8_1, k9_1, x_17, x_18, x_19, hv, hJ_2, hL_11⟩, hn_2⟩ := hI_1 _ _ hi_2
   cases hv
   have H := HB_2 n_2 list8_1 k9_1 x_17 x_18 x_19 h_11 hJ_2 hL_11
   refine pop_gtr .i64 k9_1 0 ?_
   refine condM_b (fun hb_5 => ?_) (fun hb_5 => ?_)
   ·have H := H.1 hb_5
    refine H.mono fun rv_6 h_12 H => ?_
    obtain ⟨x_20, x_21, x_22, t37_1, rfl, hL_12, H⟩ := H
    refine H.mono fun rv_7 h_13 H => ?_
    obtain ⟨t38_1, rfl, hL_13, H⟩ := H
    refine H.mono fun rv_8 h_14 H => ?_
    obtain ⟨t39_1, rfl, hL_14, H⟩ := H
    refine pop_sub .i64 k9_1 1 ?_
    obtain ⟨m_1, hm_1, H⟩ := H
    exact hn_2 _ _ ⟨m_1, hm_1, t39_1, (w64 (k9_1 - 1)), x_20, x_21, x_22, rfl, H, hL_14⟩
   have H := H.2 hb_5
   obtain ⟨J_3, H, HB_1⟩ := H
   refine ⟨fun (vs : List Value) (h' : Heap) => ∃ x_23 : Sl, ∃ x_24 : Sl, ∃ x_25 : Int, ∃ x_26 : Int, vs = [(Sl.v x_23)] ∧ J_3 x_23 x_24 x_25 x_26 h' ∧ Vars h' [(b_3, [(Sl.v x_10)]), (b_2, [(Sl.v nilSl)]), (b_1, [(Sl.v x_24), (VI x_25), (Value.int .u64 x_26)])], ?_, ?_⟩
   ·refine H.mono fun rv_9 h_15 H => ?_
    obtain ⟨x_27, x_28, x_29, t41_1, rfl, hL_15, H⟩ := H
    refine condM_b (fun hb_6 => ?_) (fun hb_6 => ?_)
    ·have H := H.1 hb_6
     exact ⟨nilSl, x_27, x_28, x_29, rfl, H, hL_15⟩
    have H := H.2 hb_6
    exact ⟨list8_1, x_27, x_28, x_29, rfl, H, hL_15⟩
   intro junk_3 tv_1 h_16
   rintro ⟨x_23, x_24, x_25, x_26, hv, hJ_3, hL_16⟩
   cases hv
   have H := HB_1 x_23 x_24 x_25 x_26 h_16 hJ_3 hL_16
   refine pop_field 0 fld26_0 b_3 0 ?_
   refine rop_loc one24 hL_16 0 rfl 0 (v := (Sl.v x_10)) rfl ?_
   refine H.mono fun rv_10 h_17 H => ?_
   obtain ⟨t45_1, rfl, hL_17, H⟩ := H
   refine H.mono fun rv_11 h_18 H => ?_
   obtain ⟨t46_1, rfl, hL_18, H⟩ := H
   refine pop_field 0 fld26_0 b_3 0 ?_
   refine uop_loc siz24 hL_18 0 rfl 0 [(Sl.v t46_1)] rfl rfl rfl (Nat.le_of_ble_eq_true rfl) (L' := [(b_3, [(Sl.v t46_1)]), (b_2, [(Sl.v nilSl)]), (b_1, [(Sl.v x_24), (VI x_25), (Value.int .u64 x_26)])]) rfl (fun h_19 hf_5 hL_19 => ?_)
   refine pop_add .i64 p7_1 1 ?_
   have H := H  h_19  (Fr.old (Fr.r (In []) _) hf_5) hL_19
   obtain ⟨m_2, hm_2, H⟩ := H
   exact hn_1 _ _ ⟨m_2, hm_2, (w64 (p7_1 + 1)), t46_1, x_24, x_25, x_26, rfl, H, hL_19⟩
  have H := H.2 hb_4
  refine H.mono fun rv_12 h_20 H => ?_
  obtain ⟨x_30, x_31, x_32, t49_1, rfl, hL_20, H⟩ := H
  refine condM_b (fun hb_7 => ?_) (fun hb_7 => ?_)
  rotate_left
  ·have H := H.2 hb_7
   refine rop_locA agg26 hL_20 0 rfl 0 (vs := [(Sl.v x_10)]) rfl rfl ?_
   refine uop_loc siz26 hL_20 1 rfl 0 [(Sl.v x_10)] rfl rfl rfl (Nat.le_of_ble_eq_true rfl) (L' := [(b_3, [(Sl.v x_10)]), (b_2, [(Sl.v x_10)]), (b_1, [(Sl.v x_30), (VI x_31), (Value.int .u64 x_32)])]) rfl (fun h_26 hf_7 hL_26 => ?_)
   refine rop_locA agg26 hL_26 1 rfl 0 (vs := [(Sl.v x_10)]) rfl rfl ?_
   have H := H  h_26  (Fr.old (Fr.r (In []) _) hf_7) hL_26
   exact H
  have H := H.1 hb_7
  refine pop_field 0 fld26_0 b_3 0 ?_
  refine rop_loc one24 hL_20 0 rfl 0 (v := (Sl.v x_10)) rfl ?_
  refine pop_len x_10 _ _ sli24 ?_
  obtain ⟨J_4, ⟨n_5, h0_2⟩, HB_3⟩ := H
  refine loop_intro (J := fun (n : Nat) (vs : List Value) (h' : Heap) => ∃ t53_1 : Int, vs = [(VI t53_1)] ∧ J_4 n t53_1 h' ∧ Vars h' [(b_3, [(Sl.v x_10)]), (b_2, [(Sl.v nilSl)]), (b_1, [(Sl.v x_30), (VI x_31), (Value.int .u64 x_32)])]) n_5 ⟨0, rfl, h0_2, hL_20⟩ ?_
  intro I_2 mu_2 hI_2 junk_4 tv_4 h_21 hi_3
  obtain ⟨n_4, ⟨t53_1, hv, hJ_4, hL_21⟩, hn_3⟩ := hI_2 _ _ hi_3
  cases hv
  have H := HB_3 n_4 t53_1 h_21 hJ_4 hL_21
  refine pop_lss .i64 t53_1 (x_10.n : Int) ?_
  refine condM_b (fun hb_8 => ?_) (fun hb_8 => ?_)
  rotate_left
  ·have H := H.2 hb_8
   refine rop_locA agg26 hL_21 0 rfl 0 (vs := [(Sl.v x_10)]) rfl rfl ?_
   refine uop_loc siz26 hL_21 1 rfl 0 [(Sl.v x_10)] rfl rfl rfl (Nat.le_of_ble_eq_true rfl) (L' := [(b_3, [(Sl.v x_10)]), (b_2, [(Sl.v x_10)]), (b_1, [(Sl.v x_30), (VI x_31), (Value.int .u64 x_32)])]) rfl (fun h_25 hf_6 hL_25 => ?_)
   refine rop_locA agg26 hL_25 1 rfl 0 (vs := [(Sl.v x_10)]) rfl rfl ?_
   have H := H  h_25  (Fr.old (Fr.r (In []) _) hf_6) hL_25
   exact H
  have H := H.1 hb_8
  refine pop_field 0 fld26_0 b_3 0 ?_
  refine rop_loc one24 hL_21 0 rfl 0 (v := (Sl.v x_10)) rfl ?_
  refine pop_field 0 fld26_0 b_3 0 ?_
  refine rop_loc one24 hL_21 0 rfl 0 (v := (Sl.v x_10)) rfl ?_
  obtain ⟨hi_4, H⟩ := H
  refine pop_index sli24 siz36 .i64 x_10 t53_1 hi_4 ?_
  obtain ⟨t63_1, hc_2, H⟩ := H
  refine rop_one one36 (Sl.v t63_1) hc_2 ?_
  refine pop_add .i64 t53_1 1 ?_
  obtain ⟨hz_1, H⟩ := H
  refine pop_rem .i64 (w64 (t53_1 + 1)) (w64 (1 + t13_1)) hz_1 ?_
  refine H.mono fun rv_13 h_22 H => ?_
  obtain ⟨t68_1, rfl, hL_22, H⟩ := H
  refine ⟨?_, ?_⟩
  ·exact still_one one36 H.1
  obtain ⟨hc_1, H⟩ := H
  refine ⟨?_, ?_⟩
  ·exact still_loc one24 hL_22 0 rfl 0 (v := (Sl.v x_10)) rfl
  refine ⟨?_, ?_⟩
  ·exact still_loc one24 hL_22 0 rfl 0 (v := (Sl.v x_10)) rfl
  refine H.mono fun rv_14 h_23 H => ?_
  obtain ⟨t69_1, rfl, hL_23, H⟩ := H
  refine ⟨?_, ?_⟩
  ·exact still_loc one24 hL_23 0 rfl 0 (v := (Sl.v x_10)) rfl
  refine ⟨?_, ?_⟩
  ·exact still_loc one24 hL_23 0 rfl 0 (v := (Sl.v x_10)) rfl
  obtain ⟨hi_5, H⟩ := H
  refine pop_index sli24 siz36 .i64 x_10 t53_1 hi_5 ?_
  obtain ⟨hw_1, hL_24, H⟩ := H
  refine uop_cell (v := (Sl.v t69_1)) siz36 hw_1 rfl (fun h_24 he_1 => ?_)
  rw [← he_1] at hL_24
  have H := H h_24 he_1 hL_24
  refine pop_add .i64 t53_1 1 ?_
  obtain ⟨m_3, hm_3, H⟩ := H
  exact hn_3 _ _ ⟨m_3, hm_3, (w64 (t53_1 + 1)), rfl, H, hL_24⟩

/-! (*spec.l1Cur).one -/
def u43 (P : Program) (b_1 : Nat) (c0_1 : Sl) (c0_2 : Int) (c0_3 : Int) (n1_1 : Int) (h : Heap) (K : Value → Heap → Prop) : Prop :=
  callM P 61 #[(VP b_1 0), (VI n1_1)] h fun rv_1 h_1 => ∃ x_1 : Sl, ∃ x_2 : Int, ∃ x_3 : Int, ∃ t7_1 : Int, rv_1 = (VI t7_1) ∧ Vars h_1 [(b_1, [(Sl.v x_1), (VI x_2), (Value.int .u64 x_3)])] ∧
  K (VB (decide (t7_1 = 0))) h_1
theorem v43 (b_1 : Nat) (c0_1 : Sl) (c0_2 : Int) (c0_3 : Int) (n1_1 : Int) (h : Heap) (K : Value → Heap → Prop) (hL : Vars h [(b_1, [(Sl.v c0_1), (VI c0_2), (Value.int .u64 c0_3)])]) (H : u43 Tryz.prog b_1 c0_1 c0_2 c0_3 n1_1 h K) : callM Tryz.prog 43 #[(VP b_1 0), (VI n1_1)] h K := by
  refine c43 (VP b_1 0) (VI n1_1) h K ?_
  unfold u43 at H
  unfold t43
  refine H.mono fun rv_1 h_1 H => ?_
  obtain ⟨x_1, x_2, x_3, t7_1, rfl, hL_1, H⟩ := H
  refine pop_ieq .i64 _ _ t7_1 0 ?_
  exact H

/-! (*spec.l1Cur).spoilt -/
def u44 (P : Program) (b_1 : Nat) (c0_1 : Sl) (c0_2 : Int) (c0_3 : Int) (t1_1 : ByteArray) (with2_1 : ByteArray) (h : Heap) (K : Value → Heap → Prop) : Prop :=
  callM P 61 #[(VP b_1 0), (VI 2)] h fun rv_1 h_1 => ∃ x_1 : Sl, ∃ x_2 : Int, ∃ x_3 : Int, ∃ t11_1 : Int, rv_1 = (VI t11_1) ∧ Vars h_1 [(b_1, [(Sl.v x_1), (VI x_2), (Value.int .u64 x_3)])] ∧
  ∃ J_1 : Nat → ByteArray → Int → Sl → Int → Int → Heap → Prop, (∃ n0 : Nat, J_1 n0 t1_1 (w64 (1 + t11_1)) x_1 x_2 x_3 h_1) ∧
  ∀ (n_1 : Nat) (t1_2 : ByteArray) (n7_1 : Int) (x_4 : Sl) (x_5 : Int) (x_6 : Int) (h_2 : Heap), J_1 n_1 t1_2 n7_1 x_4 x_5 x_6 h_2 → Vars h_2 [(b_1, [(Sl.v x_4), (VI x_5), (Value.int .u64 x_6)])] →
  ((decide (0 < n7_1)) = true →
  ((decide (0 < (t1_2.size : Int))) = true →
  ∃ J_2 : ByteArray → Sl → Int → Int → Heap → Prop, (callM P 61 #[(VP b_1 0), (VI (t1_2.size : Int))] h_2 fun rv_2 h_3 => ∃ x_11 : Sl, ∃ x_12 : Int, ∃ x_13 : Int, ∃ t25_1 : Int, rv_2 = (VI t25_1) ∧ Vars h_3 [(b_1, [(Sl.v x_11), (VI x_12), (Value.int .u64 x_13)])] ∧
  callM P 61 #[(VP b_1 0), (VI (with2_1.size : Int))] h_3 fun rv_3 h_4 => ∃ x_14 : Sl, ∃ x_15 : Int, ∃ x_16 : Int, ∃ t30_1 : Int, rv_3 = (VI t30_1) ∧ Vars h_4 [(b_1, [(Sl.v x_14), (VI x_15), (Value.int .u64 x_16)])] ∧
  pop P (Instr.index 9 (VS with2_1) (VI t30_1)) fun rv_4 => ∃ t31_1 : Int, rv_4 = (Value.int .u8 t31_1) ∧ 
  eop P (Instr.buildSlice 22 1 #[(0, (Value.int .u8 t31_1))]) h_4 fun rv_5 h_5 => ∃ t32_1 : Sl, rv_5 = (Sl.v t32_1) ∧ Vars h_5 [(b_1, [(Sl.v x_14), (VI x_15), (Value.int .u64 x_16)])] ∧
  rop P (convert 22 9 (Sl.v t32_1)) h_5 fun rv_6 => ∃ t33_1 : ByteArray, rv_6 = (VS t33_1) ∧ 
  callM P 61 #[(VP b_1 0), (VI 3)] h_5 fun rv_7 h_6 => ∃ x_17 : Sl, ∃ x_18 : Int, ∃ x_19 : Int, ∃ t35_1 : Int, rv_7 = (VI t35_1) ∧ Vars h_6 [(b_1, [(Sl.v x_17), (VI x_18), (Value.int .u64 x_19)])] ∧
  ((decide (t35_1 = 0)) = true →
  pop P (Instr.sliceAt 9 (VS t1_2) none (some (VI t25_1)) none) fun rv_8 => ∃ t48_1 : ByteArray, rv_8 = (VS t48_1) ∧ 
  ByteArray.size t48_1 + ByteArray.size t33_1 ≤ 9223372036854775807 ∧
  pop P (Instr.sliceAt 9 (VS t1_2) (some (VI t25_1)) none none) fun rv_9 => ∃ t53_1 : ByteArray, rv_9 = (VS t53_1) ∧ 
  ByteArray.size (t48_1 ++ t33_1) + ByteArray.size t53_1 ≤ 9223372036854775807 ∧
  J_2 ((t48_1 ++ t33_1) ++ t53_1) x_17 x_18 x_19 h_6) ∧
  ((decide (t35_1 = 0)) = false →
  ((decide (t35_1 = 1)) = true →
  pop P (Instr.sliceAt 9 (VS t1_2) none (some (VI t25_1)) none) fun rv_10 => ∃ t59_1 : ByteArray, rv_10 = (VS t59_1) ∧ 
  ByteArray.size t59_1 + ByteArray.size t33_1 ≤ 9223372036854775807 ∧
  pop P (Instr.sliceAt 9 (VS t1_2) (some (VI (w64 (t25_1 + 1)))) none none) fun rv_11 => ∃ t65_1 : ByteArray, rv_11 = (VS t65_1) ∧ 
  ByteArray.size (t59_1 ++ t33_1) + ByteArray.size t65_1 ≤ 9223372036854775807 ∧
  J_2 ((t59_1 ++ t33_1) ++ t65_1) x_17 x_18 x_19 h_6) ∧
  ((decide (t35_1 = 1)) = false →
  pop P (Instr.sliceAt 9 (VS t1_2) none (some (VI t25_1)) none) fun rv_12 => ∃ t38_1 : ByteArray, rv_12 = (VS t38_1) ∧ 
  pop P (Instr.sliceAt 9 (VS t1_2) (some (VI (w64 (t25_1 + 1)))) none none) fun rv_13 => ∃ t42_1 : ByteArray, rv_13 = (VS t42_1) ∧ 
  ByteArray.size t38_1 + ByteArray.size t42_1 ≤ 9223372036854775807 ∧
  J_2 (t38_1 ++ t42_1) x_17 x_18 x_19 h_6))) ∧
  ∀ (x_7 : ByteArray) (x_8 : Sl) (x_9 : Int) (x_10 : Int) (h_7 : Heap), J_2 x_7 x_8 x_9 x_10 h_7 → Vars h_7 [(b_1, [(Sl.v x_8), (VI x_9), (Value.int .u64 x_10)])] →
  ∃ m : Nat, m < n_1 ∧ J_1 m x_7 (w64 (n7_1 - 1)) x_8 x_9 x_10 h_7) ∧
  ((decide (0 < (t1_2.size : Int))) = false →
  K (VS t1_2) h_2)) ∧
  ((decide (0 < n7_1)) = false →
  K (VS t1_2) h_2)
theorem v44 (b_1 : Nat) (c0_1 : Sl) (c0_2 : Int) (c0_3 : Int) (t1_1 : ByteArray) (with2_1 : ByteArray) (h : Heap) (K : Value → Heap → Prop) (hL : Vars h [(b_1, [(Sl.v c0_1), (VI c0_2), (Value.int .u64 c0_3)])]) (H : u44 Tryz.prog b_1 c0_1 c0_2 c0_3 t1_1 with2_1 h K) : callM Tryz.prog 44 #[(VP b_1 0), (VS t1_1), (VS with2_1)] h K := by
  refine c44 (VP b_1 0) (VS t1_1) (VS with2_1) h K ?_
  unfold u44 at H
  unfold t44
  refine H.mono fun rv_1 h_1 H => ?_
  obtain ⟨x_1, x_2, x_3, t11_1, rfl, hL_1, H⟩ := H
  refine pop_add .i64 1 t11_1 ?_
  obtain ⟨J_1, ⟨n_2, h0_1⟩, HB_2⟩ := H
  refine loop_intro (J := fun (n : Nat) (vs : List Value) (h' : Heap) => ∃ t1_2 : ByteArray, ∃ n7_1 : Int, ∃ x_4 : Sl, ∃ x_5 : Int, ∃ x_6 : Int, vs = [(VS t1_2), (VI n7_1)] ∧ J_1 n t1_2 n7_1 x_4 x_5 x_6 h' ∧ Vars h' [(b_1, [(Sl.v x_4), (VI x_5), (Value.int .u64 x_6)])]) n_2 ⟨t1_1, (w64 (1 + t11_1)), x_1, x_2, x_3, rfl, h0_1, hL_1⟩ ?_
  intro I_1 mu_1 hI_1 junk_1 tv_2 tv_3 h_2 hi_1
  obtain ⟨n_1, ⟨t1_2, n7_1, x_4, x_5, x_6, hv, hJ_1, hL_2⟩, hn_1⟩ := hI_1 _ _ hi_1
  cases hv
  have H := HB_2 n_1 t1_2 n7_1 x_4 x_5 x_6 h_2 hJ_1 hL_2
  refine pop_gtr .i64 n7_1 0 ?_
  refine guardM_st (fun hb_1 => ?_) (fun hb_1 => ?_)
  rotate_left
  ·have H := H.2 hb_1
   refine guardM_n' hb_1 (by decide) ?_
   refine guardM_n' hb_1 (by decide) ?_
   refine pop_pickf' hb_1 ?_
   refine condM_f ?_
   exact H
  have H := H.1 hb_1
  refine guardM_y' hb_1 ?_
  refine pop_slen t1_2 _ str9 ?_
  refine guardM_y' hb_1 ?_
  refine pop_gtr .i64 (t1_2.size : Int) 0 ?_
  refine pop_pickt' hb_1 ?_
  refine condM_b (fun hb_2 => ?_) (fun hb_2 => ?_)
  rotate_left
  ·have H := H.2 hb_2
   exact H
  have H := H.1 hb_2
  obtain ⟨J_2, H, HB_1⟩ := H
  refine ⟨fun (vs : List Value) (h' : Heap) => ∃ x_7 : ByteArray, ∃ x_8 : Sl, ∃ x_9 : Int, ∃ x_10 : Int, vs = [(VS x_7)] ∧ J_2 x_7 x_8 x_9 x_10 h' ∧ Vars h' [(b_1, [(Sl.v x_8), (VI x_9), (Value.int .u64 x_10)])], ?_, ?_⟩
  ·refine pop_slen t1_2 _ str9 ?_
   refine H.mono fun rv_2 h_3 H => ?_
   obtain ⟨x_11, x_12, x_13, t25_1, rfl, hL_3, H⟩ := H
   refine pop_slen with2_1 _ str9 ?_
   refine H.mono fun rv_3 h_4 H => ?_
   obtain ⟨x_14, x_15, x_16, t30_1, rfl, hL_4, H⟩ := H
   refine H.mono fun rv_4 H => ?_
   obtain ⟨t31_1, rfl, H⟩ := H
   refine H.mono fun rv_5 h_5 H => ?_
   obtain ⟨t32_1, rfl, hL_5, H⟩ := H
   refine H.mono fun rv_6 H => ?_
   obtain ⟨t33_1, rfl, H⟩ := H
   refine H.mono fun rv_7 h_6 H => ?_
   obtain ⟨x_17, x_18, x_19, t35_1, rfl, hL_6, H⟩ := H
   refine pop_ieq .i64 _ _ t35_1 0 ?_
   refine condM_b (fun hb_3 => ?_) (fun hb_3 => ?_)
   ·have H := H.1 hb_3
    refine H.mono fun rv_8 H => ?_
    obtain ⟨t48_1, rfl, H⟩ := H
    obtain ⟨hz_1, H⟩ := H
    refine pop_sadd t48_1 t33_1 hz_1 ?_
    refine H.mono fun rv_9 H => ?_
    obtain ⟨t53_1, rfl, H⟩ := H
    obtain ⟨hz_2, H⟩ := H
    refine pop_sadd (t48_1 ++ t33_1) t53_1 hz_2 ?_
    exact ⟨((t48_1 ++ t33_1) ++ t53_1), x_17, x_18, x_19, rfl, H, hL_6⟩
   have H := H.2 hb_3
   refine pop_ieq .i64 _ _ t35_1 1 ?_
   refine condM_b (fun hb_4 => ?_) (fun hb_4 => ?_)
   rotate_left
   ·have H := H.2 hb_4
    refine H.mono fun rv_12 H => ?_
    obtain ⟨t38_1, rfl, H⟩ := H
    refine pop_add .i64 t25_1 1 ?_
    refine H.mono fun rv_13 H => ?_
    obtain ⟨t42_1, rfl, H⟩ := H
    obtain ⟨hz_5, H⟩ := H
    refine pop_sadd t38_1 t42_1 hz_5 ?_
    exact ⟨(t38_1 ++ t42_1), x_17, x_18, x_19, rfl, H, hL_6⟩
   have H := H.1 hb_4
   refine H.mono fun rv_10 H => ?_
   obtain ⟨t59_1, rfl, H⟩ := H
   obtain ⟨hz_3, H⟩ := H
   refine pop_sadd t59_1 t33_1 hz_3 ?_
   refine pop_add .i64 t25_1 1 ?_
   refine H.mono fun rv_11 H => ?_
   obtain ⟨t65_1, rfl, H⟩ := H
   obtain ⟨hz_4, H⟩ := H
   refine pop_sadd (t59_1 ++ t33_1) t65_1 hz_4 ?_
   exact ⟨((t59_1 ++ t33_1) ++ t65_1), x_17, x_18, x_19, rfl, H, hL_6⟩
  intro junk_2 tv_1 h_7
  rintro ⟨x_7, x_8, x_9, x_10, hv, hJ_2, hL_7⟩
  cases hv
  have H := HB_1 x_7 x_8 x_9 x_10 h_7 hJ_2 hL_7
  refine pop_sub .i64 n7_1 1 ?_
  obtain ⟨m_1, hm_1, H⟩ := H
  exact hn_1 _ _ ⟨m_1, hm_1, x_7, (w64 (n7_1 - 1)), x_8, x_9, x_10, rfl, H, hL_7⟩

/-! spec.grParse -/
def u45 (P : Program) (s0_1 : ByteArray) (h : Heap) (K : Value → Heap → Prop) : Prop :=
  ((decide (200 < (s0_1.size : Int))) = true →
  ∀ (b_1 : Nat) (h_2 : Heap), h.size ≤ b_1 → Fr (In []) h h_2 → Vars h_2 [(b_1, [(Sl.v nilSl)])] →
  K (Value.tuple #[(Value.agg #[(Sl.v nilSl)]), (VB false)]) h_2) ∧
  ((decide (200 < (s0_1.size : Int))) = false →
  ∀ (b_1 : Nat) (b_2 : Nat) (h_4 : Heap), h.size ≤ b_1 → h.size ≤ b_2 → Fr (In []) h h_4 → Vars h_4 [(b_2, [(Sl.v nilSl)]), (b_1, [(Sl.v nilSl)])] →
  ∃ J_1 : Nat → Sl → Int → Sl → Heap → Prop, (∃ n0 : Nat, J_1 n0 nilSl 0 nilSl h_4) ∧
  ∀ (n_1 : Nat) (list5_1 : Sl) (i6_1 : Int) (x_1 : Sl) (h_5 : Heap), J_1 n_1 list5_1 i6_1 x_1 h_5 → Vars h_5 [(b_2, [(Sl.v x_1)]), (b_1, [(Sl.v nilSl)])] →
  ((decide (i6_1 < (s0_1.size : Int))) = true →
  ∃ J_2 : Sl → Sl → Heap → Prop, (pop P (Instr.index 9 (VS s0_1) (VI i6_1)) fun rv_1 => ∃ t21_1 : Int, rv_1 = (Value.int .u8 t21_1) ∧ 
  ((decide (48 ≤ t21_1)) = true →
  ((decide (t21_1 ≤ 55)) = true →
  rop P (convert 5 3 (Value.int .u8 (IntKind.wrap .u8 (t21_1 - 48)))) h_5 fun rv_2 => ∃ t32_1 : Int, rv_2 = (VI t32_1) ∧ 
  eop P (Instr.buildSlice 36 1 #[(0, (VI t32_1))]) h_5 fun rv_3 h_6 => ∃ t33_1 : Sl, rv_3 = (Sl.v t33_1) ∧ Vars h_6 [(b_2, [(Sl.v x_1)]), (b_1, [(Sl.v nilSl)])] ∧
  eop P (appS 36 36 36 (Sl.v list5_1) (Sl.v t33_1)) h_6 fun rv_4 h_7 => ∃ t34_1 : Sl, rv_4 = (Sl.v t34_1) ∧ Vars h_7 [(b_2, [(Sl.v x_1)]), (b_1, [(Sl.v nilSl)])] ∧
  J_2 t34_1 x_1 h_7) ∧
  ((decide (t21_1 ≤ 55)) = false →
  ((decide (t21_1 = 59)) = true →
  eop P (Instr.buildSlice 24 1 #[(0, (Sl.v list5_1))]) h_5 fun rv_5 h_8 => ∃ t41_1 : Sl, rv_5 = (Sl.v t41_1) ∧ Vars h_8 [(b_2, [(Sl.v x_1)]), (b_1, [(Sl.v nilSl)])] ∧
  eop P (appS 24 24 24 (Sl.v x_1) (Sl.v t41_1)) h_8 fun rv_6 h_9 => ∃ t42_1 : Sl, rv_6 = (Sl.v t42_1) ∧ Vars h_9 [(b_2, [(Sl.v x_1)]), (b_1, [(Sl.v nilSl)])] ∧
  ∀ (h_10 : Heap), Fr (In [b_2]) h_9 h_10 → Vars h_10 [(b_2, [(Sl.v t42_1)]), (b_1, [(Sl.v nilSl)])] →
  J_2 nilSl t42_1 h_10) ∧
  ((decide (t21_1 = 59)) = false →
  J_2 list5_1 x_1 h_5))) ∧
  ((decide (48 ≤ t21_1)) = false →
  ((decide (t21_1 = 59)) = true →
  eop P (Instr.buildSlice 24 1 #[(0, (Sl.v list5_1))]) h_5 fun rv_7 h_11 => ∃ t41_2 : Sl, rv_7 = (Sl.v t41_2) ∧ Vars h_11 [(b_2, [(Sl.v x_1)]), (b_1, [(Sl.v nilSl)])] ∧
  eop P (appS 24 24 24 (Sl.v x_1) (Sl.v t41_2)) h_11 fun rv_8 h_12 => ∃ t42_2 : Sl, rv_8 = (Sl.v t42_2) ∧ Vars h_12 [(b_2, [(Sl.v x_1)]), (b_1, [(Sl.v nilSl)])] ∧
  ∀ (h_13 : Heap), Fr (In [b_2]) h_12 h_13 → Vars h_13 [(b_2, [(Sl.v t42_2)]), (b_1, [(Sl.v nilSl)])] →
  J_2 nilSl t42_2 h_13) ∧
  ((decide (t21_1 = 59)) = false →
  J_2 list5_1 x_1 h_5))) ∧
  ∀ (x_2 : Sl) (x_3 : Sl) (h_14 : Heap), J_2 x_2 x_3 h_14 → Vars h_14 [(b_2, [(Sl.v x_3)]), (b_1, [(Sl.v nilSl)])] →
  ∃ m : Nat, m < n_1 ∧ J_1 m x_2 (w64 (i6_1 + 1)) x_3 h_14) ∧
  ((decide (i6_1 < (s0_1.size : Int))) = false →
  eop P (Instr.buildSlice 24 1 #[(0, (Sl.v list5_1))]) h_5 fun rv_9 h_15 => ∃ t47_1 : Sl, rv_9 = (Sl.v t47_1) ∧ Vars h_15 [(b_2, [(Sl.v x_1)]), (b_1, [(Sl.v nilSl)])] ∧
  eop P (appS 24 24 24 (Sl.v x_1) (Sl.v t47_1)) h_15 fun rv_10 h_16 => ∃ t48_1 : Sl, rv_10 = (Sl.v t48_1) ∧ Vars h_16 [(b_2, [(Sl.v x_1)]), (b_1, [(Sl.v nilSl)])] ∧
  ∀ (h_17 : Heap), Fr (In [b_2]) h_16 h_17 → Vars h_17 [(b_2, [(Sl.v t48_1)]), (b_1, [(Sl.v nilSl)])] →
  callM P 28 #[(Value.agg #[(Sl.v t48_1)])] h_17 fun rv_11 h_18 => ∃ t51_1 : Bool, rv_11 = (VB t51_1) ∧ Vars h_18 [(b_2, [(Sl.v t48_1)]), (b_1, [(Sl.v nilSl)])] ∧
  ((!t51_1) = true →
  ∀ (h_22 : Heap), Fr (In [b_1]) h_18 h_22 → Vars h_22 [(b_2, [(Sl.v t48_1)]), (b_1, [(Sl.v nilSl)])] →
  K (Value.tuple #[(Value.agg #[(Sl.v nilSl)]), (VB false)]) h_22) ∧
  ((!t51_1) = false →
  callM P 29 #[(Value.agg #[(Sl.v t48_1)])] h_18 fun rv_12 h_19 => ∃ t55_1 : ByteArray, rv_12 = (VS t55_1) ∧ Vars h_19 [(b_2, [(Sl.v t48_1)]), (b_1, [(Sl.v nilSl)])] ∧
  ((!(ByteArray.toList t55_1 == ByteArray.toList s0_1)) = true →
  ∀ (h_20 : Heap), Fr (In [b_1]) h_19 h_20 → Vars h_20 [(b_2, [(Sl.v t48_1)]), (b_1, [(Sl.v nilSl)])] →
  K (Value.tuple #[(Value.agg #[(Sl.v nilSl)]), (VB false)]) h_20) ∧
  ((!(ByteArray.toList t55_1 == ByteArray.toList s0_1)) = false →
  ∀ (h_21 : Heap), Fr (In [b_1]) h_19 h_21 → Vars h_21 [(b_2, [(Sl.v t48_1)]), (b_1, [(Sl.v t48_1)])] →
  K (Value.tuple #[(Value.agg #[(Sl.v t48_1)]), (VB true)]) h_21))))
theorem v45 (s0_1 : ByteArray) (h : Heap) (K : Value → Heap → Prop) (H : u45 Tryz.prog s0_1 h K) : callM Tryz.prog 45 #[(VS s0_1)] h K := by
  refine c45 (VS s0_1) h K ?_
  unfold u45 at H
  unfold t45
  have hL : Vars h [] := .nil
  refine eop_alloc 26 zer26 rfl hL (fun b_1 h_1 hb_1 hf_1 hL_1 => ?_)
  refine pop_slen s0_1 _ str9 ?_
  refine pop_gtr .i64 (s0_1.size : Int) 200 ?_
  refine condM_b (fun hb_2 => ?_) (fun hb_2 => ?_)
  ·have H := H.1 hb_2
   refine pop.mk' (v := (Value.agg #[(Sl.v nilSl)])) (fun w => by kernel_rfl) ?_
   refine uop_loc siz26 hL_1 0 rfl 0 [(Sl.v nilSl)] rfl rfl rfl (Nat.le_of_ble_eq_true rfl) (L' := [(b_1, [(Sl.v nilSl)])]) rfl (fun h_2 hf_2 hL_2 => ?_)
   refine rop_locA agg26 hL_2 0 rfl 0 (vs := [(Sl.v nilSl)]) rfl rfl ?_
   have H := H b_1 h_2 (Nat.le_trans (Fr.size (Fr.r (In []) _)) hb_1) (Fr.new (Fr.no' (Fr.r (In []) _) hf_1) (Nat.le_trans (Fr.size (Fr.r (In []) _)) hb_1) hf_2) hL_2
   exact H
  have H := H.2 hb_2
  refine pop.mk' (v := (Value.agg #[(Sl.v nilSl)])) (fun w => by kernel_rfl) ?_
  refine eop_alloc 26 zer26 rfl hL_1 (fun b_2 h_3 hb_3 hf_3 hL_3 => ?_)
  refine uop_loc siz26 hL_3 0 rfl 0 [(Sl.v nilSl)] rfl rfl rfl (Nat.le_of_ble_eq_true rfl) (L' := [(b_2, [(Sl.v nilSl)]), (b_1, [(Sl.v nilSl)])]) rfl (fun h_4 hf_4 hL_4 => ?_)
  have H := H b_1 b_2 h_4 (Nat.le_trans (Fr.size (Fr.r (In []) _)) hb_1) (Nat.le_trans (Fr.size (Fr.no' (Fr.r (In []) _) hf_1)) hb_3) (Fr.new (Fr.no' (Fr.no' (Fr.r (In []) _) hf_1) hf_3) (Nat.le_trans (Fr.size (Fr.no' (Fr.r (In []) _) hf_1)) hb_3) hf_4) hL_4
  obtain ⟨J_1, ⟨n_2, h0_1⟩, HB_2⟩ := H
  refine loop_intro (J := fun (n : Nat) (vs : List Value) (h' : Heap) => ∃ list5_1 : Sl, ∃ i6_1 : Int, ∃ x_1 : Sl, vs = [(Sl.v list5_1), (VI i6_1)] ∧ J_1 n list5_1 i6_1 x_1 h' ∧ Vars h' [(b_2, [(Sl.v x_1)]), (b_1, [(Sl.v nilSl)])]) n_2 ⟨nilSl, 0, nilSl, rfl, h0_1, hL_4⟩ ?_
  intro I_1 mu_1 hI_1 junk_1 tv_2 tv_3 h_5 hi_1
  obtain ⟨n_1, ⟨list5_1, i6_1, x_1, hv, hJ_1, hL_5⟩, hn_1⟩ := hI_1 _ _ hi_1
  cases hv
  have H := HB_2 n_1 list5_1 i6_1 x_1 h_5 hJ_1 hL_5
  refine pop_slen s0_1 _ str9 ?_
  refine pop_lss .i64 i6_1 (s0_1.size : Int) ?_
  refine condM_b (fun hb_4 => ?_) (fun hb_4 => ?_)
  rotate_left
  ·have H := H.2 hb_4
   refine pop_field 0 fld26_0 b_2 0 ?_
   refine rop_loc one24 hL_5 0 rfl 0 (v := (Sl.v x_1)) rfl ?_
   refine H.mono fun rv_9 h_15 H => ?_
   obtain ⟨t47_1, rfl, hL_15, H⟩ := H
   refine H.mono fun rv_10 h_16 H => ?_
   obtain ⟨t48_1, rfl, hL_16, H⟩ := H
   refine pop_field 0 fld26_0 b_2 0 ?_
   refine uop_loc siz24 hL_16 0 rfl 0 [(Sl.v t48_1)] rfl rfl rfl (Nat.le_of_ble_eq_true rfl) (L' := [(b_2, [(Sl.v t48_1)]), (b_1, [(Sl.v nilSl)])]) rfl (fun h_17 hf_7 hL_17 => ?_)
   refine rop_locA agg26 hL_17 0 rfl 0 (vs := [(Sl.v t48_1)]) rfl rfl ?_
   have H := H  h_17  (Fr.old (Fr.r (In []) _) hf_7) hL_17
   refine H.mono fun rv_11 h_18 H => ?_
   obtain ⟨t51_1, rfl, hL_18, H⟩ := H
   refine pop_not t51_1 ?_
   refine guardM_sf (fun hb_9 => ?_) (fun hb_9 => ?_)
   rotate_left
   ·have H := H.1 hb_9
    refine guardM_n' hb_9 (by decide) ?_
    refine guardM_n' hb_9 (by decide) ?_
    refine guardM_n' hb_9 (by decide) ?_
    refine pop_pickt' hb_9 ?_
    refine condM_t ?_
    refine pop.mk' (v := (Value.agg #[(Sl.v nilSl)])) (fun w => by kernel_rfl) ?_
    refine uop_loc siz26 hL_18 1 rfl 0 [(Sl.v nilSl)] rfl rfl rfl (Nat.le_of_ble_eq_true rfl) (L' := [(b_2, [(Sl.v t48_1)]), (b_1, [(Sl.v nilSl)])]) rfl (fun h_22 hf_10 hL_22 => ?_)
    refine rop_locA agg26 hL_22 1 rfl 0 (vs := [(Sl.v nilSl)]) rfl rfl ?_
    have H := H  h_22  (Fr.old (Fr.r (In []) _) hf_10) hL_22
    exact H
   have H := H.2 hb_9
   refine rop_locA agg26 hL_18 0 rfl 0 (vs := [(Sl.v t48_1)]) rfl rfl ?_
   refine guardM_y' hb_9 ?_
   refine H.mono fun rv_12 h_19 H => ?_
   obtain ⟨t55_1, rfl, hL_19, H⟩ := H
   refine guardM_y' hb_9 ?_
   refine guardM_y' hb_9 ?_
   refine pop_sne _ _ t55_1 s0_1 ?_
   refine pop_pickf' hb_9 ?_
   refine condM_b (fun hb_10 => ?_) (fun hb_10 => ?_)
   ·have H := H.1 hb_10
    refine pop.mk' (v := (Value.agg #[(Sl.v nilSl)])) (fun w => by kernel_rfl) ?_
    refine uop_loc siz26 hL_19 1 rfl 0 [(Sl.v nilSl)] rfl rfl rfl (Nat.le_of_ble_eq_true rfl) (L' := [(b_2, [(Sl.v t48_1)]), (b_1, [(Sl.v nilSl)])]) rfl (fun h_20 hf_8 hL_20 => ?_)
    refine rop_locA agg26 hL_20 1 rfl 0 (vs := [(Sl.v nilSl)]) rfl rfl ?_
    have H := H  h_20  (Fr.old (Fr.r (In []) _) hf_8) hL_20
    exact H
   have H := H.2 hb_10
   refine rop_locA agg26 hL_19 0 rfl 0 (vs := [(Sl.v t48_1)]) rfl rfl ?_
   refine uop_loc siz26 hL_19 1 rfl 0 [(Sl.v t48_1)] rfl rfl rfl (Nat.le_of_ble_eq_true rfl) (L' := [(b_2, [(Sl.v t48_1)]), (b_1, [(Sl.v t48_1)])]) rfl (fun h_21 hf_9 hL_21 => ?_)
   refine rop_locA agg26 hL_21 1 rfl 0 (vs := [(Sl.v t48_1)]) rfl rfl ?_
   have H := H  h_21  (Fr.old (Fr.r (In []) _) hf_9) hL_21
   exact H
  have H := H.1 hb_4
  obtain ⟨J_2, H, HB_1⟩ := H
  refine ⟨fun (vs : List Value) (h' : Heap) => ∃ x_2 : Sl, ∃ x_3 : Sl, vs = [(Sl.v x_2)] ∧ J_2 x_2 x_3 h' ∧ Vars h' [(b_2, [(Sl.v x_3)]), (b_1, [(Sl.v nilSl)])], ?_, ?_⟩
  ·refine H.mono fun rv_1 H => ?_
   obtain ⟨t21_1, rfl, H⟩ := H
   refine pop_geq .u8 t21_1 48 ?_
   refine guardM_st (fun hb_5 => ?_) (fun hb_5 => ?_)
   rotate_left
   ·have H := H.2 hb_5
    refine guardM_n' hb_5 (by decide) ?_
    refine pop_pickf' hb_5 ?_
    refine condM_f ?_
    refine pop_ieq .u8 _ _ t21_1 59 ?_
    refine condM_b (fun hb_8 => ?_) (fun hb_8 => ?_)
    rotate_left
    ·have H := H.2 hb_8
     exact ⟨list5_1, x_1, rfl, H, hL_5⟩
    have H := H.1 hb_8
    refine pop_field 0 fld26_0 b_2 0 ?_
    refine rop_loc one24 hL_5 0 rfl 0 (v := (Sl.v x_1)) rfl ?_
    refine H.mono fun rv_7 h_11 H => ?_
    obtain ⟨t41_2, rfl, hL_11, H⟩ := H
    refine H.mono fun rv_8 h_12 H => ?_
    obtain ⟨t42_2, rfl, hL_12, H⟩ := H
    refine pop_field 0 fld26_0 b_2 0 ?_
    refine uop_loc siz24 hL_12 0 rfl 0 [(Sl.v t42_2)] rfl rfl rfl (Nat.le_of_ble_eq_true rfl) (L' := [(b_2, [(Sl.v t42_2)]), (b_1, [(Sl.v nilSl)])]) rfl (fun h_13 hf_6 hL_13 => ?_)
    have H := H  h_13  (Fr.old (Fr.r (In []) _) hf_6) hL_13
    exact ⟨nilSl, t42_2, rfl, H, hL_13⟩
   have H := H.1 hb_5
   refine guardM_y' hb_5 ?_
   refine pop_leq .u8 t21_1 55 ?_
   refine pop_pickt' hb_5 ?_
   refine condM_b (fun hb_6 => ?_) (fun hb_6 => ?_)
   ·have H := H.1 hb_6
    refine pop_sub .u8 t21_1 48 ?_
    refine H.mono fun rv_2 H => ?_
    obtain ⟨t32_1, rfl, H⟩ := H
    refine H.mono fun rv_3 h_6 H => ?_
    obtain ⟨t33_1, rfl, hL_6, H⟩ := H
    refine H.mono fun rv_4 h_7 H => ?_
    obtain ⟨t34_1, rfl, hL_7, H⟩ := H
    exact ⟨t34_1, x_1, rfl, H, hL_7⟩
   have H := H.2 hb_6
   refine pop_ieq .u8 _ _ t21_1 59 ?_
   refine condM_b (fun hb_7 => ?_) (fun hb_7 => ?_)
   rotate_left
   ·have H := H.2 hb_7
    exact ⟨list5_1, x_1, rfl, H, hL_5⟩
   have H := H.1 hb_7
   refine pop_field 0 fld26_0 b_2 0 ?_
   refine rop_loc one24 hL_5 0 rfl 0 (v := (Sl.v x_1)) rfl ?_
   refine H.mono fun rv_5 h_8 H => ?_
   obtain ⟨t41_1, rfl, hL_8, H⟩ := H
   refine H.mono fun rv_6 h_9 H => ?_
   obtain ⟨t42_1, rfl, hL_9, H⟩ := H
   refine pop_field 0 fld26_0 b_2 0 ?_
   refine uop_loc siz24 hL_9 0 rfl 0 [(Sl.v t42_1)] rfl rfl rfl (Nat.le_of_ble_eq_true rfl) (L' := [(b_2, [(Sl.v t42_1)]), (b_1, [(Sl.v nilSl)])]) rfl (fun h_10 hf_5 hL_10 => ?_)
   have H := H  h_10  (Fr.old (Fr.r (In []) _) hf_5) hL_10
   exact ⟨nilSl, t42_1, rfl, H, hL_10⟩
  intro junk_2 tv_1 h_14
  rintro ⟨x_2, x_3, hv, hJ_2, hL_14⟩
  cases hv
  have H := HB_1 x_2 x_3 h_14 hJ_2 hL_14
  refine pop_add .i64 i6_1 1 ?_
  obtain ⟨m_1, hm_1, H⟩ := H
  exact hn_1 _ _ ⟨m_1, hm_1, x_2, (w64 (i6_1 + 1)), x_3, rfl, H, hL_14⟩

/-! (*spec.l1Cur).graph -/
def u46 (P : Program) (b_1 : Nat) (c0_1 : Sl) (c0_2 : Int) (c0_3 : Int) (h : Heap) (K : Value → Heap → Prop) : Prop :=
  ∀ (b_2 : Nat) (h_1 : Heap), h.size ≤ b_2 → Fr (In []) h h_1 → Vars h_1 [(b_2, [(Sl.v nilSl)]), (b_1, [(Sl.v c0_1), (VI c0_2), (Value.int .u64 c0_3)])] →
  callM P 42 #[(VP b_1 0), (VI 6)] h_1 fun rv_1 h_2 => ∃ x_1 : Sl, ∃ x_2 : Int, ∃ x_3 : Int, ∃ t5_1 : Sl, rv_1 = (Value.agg #[(Sl.v t5_1)]) ∧ Vars h_2 [(b_2, [(Sl.v nilSl)]), (b_1, [(Sl.v x_1), (VI x_2), (Value.int .u64 x_3)])] ∧
  ∀ (b_3 : Nat) (h_4 : Heap), h_2.size ≤ b_3 → Fr (In []) h_2 h_4 → Vars h_4 [(b_3, [(Sl.v t5_1)]), (b_2, [(Sl.v nilSl)]), (b_1, [(Sl.v x_1), (VI x_2), (Value.int .u64 x_3)])] →
  callM P 61 #[(VP b_1 0), (VI 16)] h_4 fun rv_2 h_5 => ∃ x_4 : Sl, ∃ x_5 : Int, ∃ x_6 : Int, ∃ t7_1 : Int, rv_2 = (VI t7_1) ∧ Vars h_5 [(b_3, [(Sl.v t5_1)]), (b_2, [(Sl.v nilSl)]), (b_1, [(Sl.v x_4), (VI x_5), (Value.int .u64 x_6)])] ∧
  ((decide (t7_1 = 0)) = true →
  InB t5_1 0 ∧
  ∃ t15_1 : Sl, hcell h_5 (Sl.at t5_1 0 1) = some (Sl.v t15_1) ∧
  eop P (Instr.buildSlice 36 3 #[(0, (Value.int IntKind.i64 (-1))), (1, (VI (t5_1.n : Int))), (2, (Value.int IntKind.i64 4611686018427387904))]) h_5 fun rv_3 h_6 => ∃ t20_1 : Sl, rv_3 = (Sl.v t20_1) ∧ Vars h_6 [(b_3, [(Sl.v t5_1)]), (b_2, [(Sl.v nilSl)]), (b_1, [(Sl.v x_4), (VI x_5), (Value.int .u64 x_6)])] ∧
  hcell h_6 (Sl.at t5_1 0 1) = some (Sl.v t15_1) ∧
  callM P 63 #[(VP b_1 0), (Sl.v t20_1)] h_6 fun rv_4 h_7 => ∃ x_7 : Sl, ∃ x_8 : Int, ∃ x_9 : Int, ∃ t21_1 : Int, rv_4 = (VI t21_1) ∧ Vars h_7 [(b_3, [(Sl.v t5_1)]), (b_2, [(Sl.v nilSl)]), (b_1, [(Sl.v x_7), (VI x_8), (Value.int .u64 x_9)])] ∧
  hcell h_7 (Sl.at t5_1 0 1) = some (Sl.v t15_1) ∧
  eop P (Instr.buildSlice 36 1 #[(0, (VI t21_1))]) h_7 fun rv_5 h_8 => ∃ t22_1 : Sl, rv_5 = (Sl.v t22_1) ∧ Vars h_8 [(b_3, [(Sl.v t5_1)]), (b_2, [(Sl.v nilSl)]), (b_1, [(Sl.v x_7), (VI x_8), (Value.int .u64 x_9)])] ∧
  hcell h_8 (Sl.at t5_1 0 1) = some (Sl.v t15_1) ∧
  eop P (appS 36 36 36 (Sl.v t15_1) (Sl.v t22_1)) h_8 fun rv_6 h_9 => ∃ t23_1 : Sl, rv_6 = (Sl.v t23_1) ∧ Vars h_9 [(b_3, [(Sl.v t5_1)]), (b_2, [(Sl.v nilSl)]), (b_1, [(Sl.v x_7), (VI x_8), (Value.int .u64 x_9)])] ∧
  InB t5_1 0 ∧
  Writable h_9 (Sl.at t5_1 0 1) ∧ Vars (hset h_9 (Sl.at t5_1 0 1) (Sl.v t23_1)) [(b_3, [(Sl.v t5_1)]), (b_2, [(Sl.v nilSl)]), (b_1, [(Sl.v x_7), (VI x_8), (Value.int .u64 x_9)])] ∧
  ∀ h_10 : Heap, h_10 = hset h_9 (Sl.at t5_1 0 1) (Sl.v t23_1) → Vars h_10 [(b_3, [(Sl.v t5_1)]), (b_2, [(Sl.v nilSl)]), (b_1, [(Sl.v x_7), (VI x_8), (Value.int .u64 x_9)])] →
  ∀ (h_11 : Heap), Fr (In [b_2]) h_10 h_11 → Vars h_11 [(b_3, [(Sl.v t5_1)]), (b_2, [(Sl.v t5_1)]), (b_1, [(Sl.v x_7), (VI x_8), (Value.int .u64 x_9)])] →
  K (Value.agg #[(Sl.v t5_1)]) h_11) ∧
  ((decide (t7_1 = 0)) = false →
  ((decide (t7_1 = 1)) = true →
  callM P 61 #[(VP b_1 0), (VI 2)] h_5 fun rv_7 h_12 => ∃ x_10 : Sl, ∃ x_11 : Int, ∃ x_12 : Int, ∃ t30_1 : Int, rv_7 = (VI t30_1) ∧ Vars h_12 [(b_3, [(Sl.v t5_1)]), (b_2, [(Sl.v nilSl)]), (b_1, [(Sl.v x_10), (VI x_11), (Value.int .u64 x_12)])] ∧
  eop P (Instr.makeSlice 36 (VI (w64 (5 + t30_1))) (VI (w64 (5 + t30_1)))) h_12 fun rv_8 h_13 => ∃ t32_1 : Sl, rv_8 = (Sl.v t32_1) ∧ Vars h_13 [(b_3, [(Sl.v t5_1)]), (b_2, [(Sl.v nilSl)]), (b_1, [(Sl.v x_10), (VI x_11), (Value.int .u64 x_12)])] ∧
  InB t5_1 0 ∧
  Writable h_13 (Sl.at t5_1 0 1) ∧ Vars (hset h_13 (Sl.at t5_1 0 1) (Sl.v t32_1)) [(b_3, [(Sl.v t5_1)]), (b_2, [(Sl.v nilSl)]), (b_1, [(Sl.v x_10), (VI x_11), (Value.int .u64 x_12)])] ∧
  ∀ h_14 : Heap, h_14 = hset h_13 (Sl.at t5_1 0 1) (Sl.v t32_1) → Vars h_14 [(b_3, [(Sl.v t5_1)]), (b_2, [(Sl.v nilSl)]), (b_1, [(Sl.v x_10), (VI x_11), (Value.int .u64 x_12)])] →
  ∀ (h_15 : Heap), Fr (In [b_2]) h_14 h_15 → Vars h_15 [(b_3, [(Sl.v t5_1)]), (b_2, [(Sl.v t5_1)]), (b_1, [(Sl.v x_10), (VI x_11), (Value.int .u64 x_12)])] →
  K (Value.agg #[(Sl.v t5_1)]) h_15) ∧
  ((decide (t7_1 = 1)) = false →
  ((decide (t7_1 = 2)) = true →
  ∃ J_1 : Nat → Sl → Sl → Int → Int → Heap → Prop, (∃ n0 : Nat, J_1 n0 t5_1 x_4 x_5 x_6 h_5) ∧
  ∀ (n_1 : Nat) (x_13 : Sl) (x_14 : Sl) (x_15 : Int) (x_16 : Int) (h_16 : Heap), J_1 n_1 x_13 x_14 x_15 x_16 h_16 → Vars h_16 [(b_3, [(Sl.v x_13)]), (b_2, [(Sl.v nilSl)]), (b_1, [(Sl.v x_14), (VI x_15), (Value.int .u64 x_16)])] →
  callM P 61 #[(VP b_1 0), (VI 2)] h_16 fun rv_9 h_17 => ∃ x_17 : Sl, ∃ x_18 : Int, ∃ x_19 : Int, ∃ t40_1 : Int, rv_9 = (VI t40_1) ∧ Vars h_17 [(b_3, [(Sl.v x_13)]), (b_2, [(Sl.v nilSl)]), (b_1, [(Sl.v x_17), (VI x_18), (Value.int .u64 x_19)])] ∧
  ((decide ((x_13.n : Int) < (w64 (8 + t40_1)))) = true →
  eop P (Instr.buildSlice 36 1 #[(0, (Value.int IntKind.i64 0))]) h_17 fun rv_10 h_18 => ∃ t45_1 : Sl, rv_10 = (Sl.v t45_1) ∧ Vars h_18 [(b_3, [(Sl.v x_13)]), (b_2, [(Sl.v nilSl)]), (b_1, [(Sl.v x_17), (VI x_18), (Value.int .u64 x_19)])] ∧
  eop P (Instr.buildSlice 24 1 #[(0, (Sl.v t45_1))]) h_18 fun rv_11 h_19 => ∃ t46_1 : Sl, rv_11 = (Sl.v t46_1) ∧ Vars h_19 [(b_3, [(Sl.v x_13)]), (b_2, [(Sl.v nilSl)]), (b_1, [(Sl.v x_17), (VI x_18), (Value.int .u64 x_19)])] ∧
  eop P (appS 24 24 24 (Sl.v x_13) (Sl.v t46_1)) h_19 fun rv_12 h_20 => ∃ t47_1 : Sl, rv_12 = (Sl.v t47_1) ∧ Vars h_20 [(b_3, [(Sl.v x_13)]), (b_2, [(Sl.v nilSl)]), (b_1, [(Sl.v x_17), (VI x_18), (Value.int .u64 x_19)])] ∧
  ∀ (h_21 : Heap), Fr (In [b_3]) h_20 h_21 → Vars h_21 [(b_3, [(Sl.v t47_1)]), (b_2, [(Sl.v nilSl)]), (b_1, [(Sl.v x_17), (VI x_18), (Value.int .u64 x_19)])] →
  ∃ m : Nat, m < n_1 ∧ J_1 m t47_1 x_17 x_18 x_19 h_21) ∧
  ((decide ((x_13.n : Int) < (w64 (8 + t40_1)))) = false →
  ∀ (h_22 : Heap), Fr (In [b_2]) h_17 h_22 → Vars h_22 [(b_3, [(Sl.v x_13)]), (b_2, [(Sl.v x_13)]), (b_1, [(Sl.v x_17), (VI x_18), (Value.int .u64 x_19)])] →
  K (Value.agg #[(Sl.v x_13)]) h_22)) ∧
  ((decide (t7_1 = 2)) = false →
  ((decide (t7_1 = 3)) = true →
  ∀ (h_24 : Heap), Fr (In [b_2, b_3]) h_5 h_24 → Vars h_24 [(b_3, [(Sl.v nilSl)]), (b_2, [(Sl.v nilSl)]), (b_1, [(Sl.v x_4), (VI x_5), (Value.int .u64 x_6)])] →
  K (Value.agg #[(Sl.v nilSl)]) h_24) ∧
  ((decide (t7_1 = 3)) = false →
  ∀ (h_25 : Heap), Fr (In [b_2]) h_5 h_25 → Vars h_25 [(b_3, [(Sl.v t5_1)]), (b_2, [(Sl.v t5_1)]), (b_1, [(Sl.v x_4), (VI x_5), (Value.int .u64 x_6)])] →
  K (Value.agg #[(Sl.v t5_1)]) h_25))))
theorem v46 (b_1 : Nat) (c0_1 : Sl) (c0_2 : Int) (c0_3 : Int) (h : Heap) (K : Value → Heap → Prop) (hL : Vars h [(b_1, [(Sl.v c0_1), (VI c0_2), (Value.int .u64 c0_3)])]) (H : u46 Tryz.prog b_1 c0_1 c0_2 c0_3 h K) : callM Tryz.prog 46 #[(VP b_1 0)] h K := by
  refine c46 (VP b_1 0) h K ?_
  unfold u46 at H
  unfold t46
  refine eop_alloc 26 zer26 rfl hL (fun b_2 h_1 hb_1 hf_1 hL_1 => ?_)
  have H := H b_2 h_1 (Nat.le_trans (Fr.size (Fr.r (In []) _)) hb_1) (Fr.no' (Fr.r (In []) _) hf_1) hL_1
  refine H.mono fun rv_1 h_2 H => ?_
  obtain ⟨x_1, x_2, x_3, t5_1, rfl, hL_2, H⟩ := H
  refine eop_alloc 26 zer26 rfl hL_2 (fun b_3 h_3 hb_2 hf_2 hL_3 => ?_)
  refine uop_loc siz26 hL_3 0 rfl 0 [(Sl.v t5_1)] rfl rfl rfl (Nat.le_of_ble_eq_true rfl) (L' := [(b_3, [(Sl.v t5_1)]), (b_2, [(Sl.v nilSl)]), (b_1, [(Sl.v x_1), (VI x_2), (Value.int .u64 x_3)])]) rfl (fun h_4 hf_3 hL_4 => ?_)
  have H := H b_3 h_4 (Nat.le_trans (Fr.size (Fr.r (In []) _)) hb_2) (Fr.new (Fr.no' (Fr.r (In []) _) hf_2) (Nat.le_trans (Fr.size (Fr.r (In []) _)) hb_2) hf_3) hL_4
  refine H.mono fun rv_2 h_5 H => ?_
  obtain ⟨x_4, x_5, x_6, t7_1, rfl, hL_5, H⟩ := H
  refine pop_ieq .i64 _ _ t7_1 0 ?_
  refine condM_b (fun hb_3 => ?_) (fun hb_3 => ?_)
  ·have H := H.1 hb_3
   refine pop_field 0 fld26_0 b_3 0 ?_
   refine rop_loc one24 hL_5 0 rfl 0 (v := (Sl.v t5_1)) rfl ?_
   refine pop_field 0 fld26_0 b_3 0 ?_
   refine rop_loc one24 hL_5 0 rfl 0 (v := (Sl.v t5_1)) rfl ?_
   obtain ⟨hi_1, H⟩ := H
   refine pop_index sli24 siz36 .i64 t5_1 0 hi_1 ?_
   obtain ⟨t15_1, hc_4, H⟩ := H
   refine rop_one one36 (Sl.v t15_1) hc_4 ?_
   refine pop_field 0 fld26_0 b_3 0 ?_
   refine rop_loc one24 hL_5 0 rfl 0 (v := (Sl.v t5_1)) rfl ?_
   refine pop_len t5_1 _ _ sli24 ?_
   refine H.mono fun rv_3 h_6 H => ?_
   obtain ⟨t20_1, rfl, hL_6, H⟩ := H
   refine ⟨?_, ?_⟩
   ·exact still_loc one24 hL_6 0 rfl 0 (v := (Sl.v t5_1)) rfl
   refine ⟨?_, ?_⟩
   ·exact still_one one36 H.1
   obtain ⟨hc_1, H⟩ := H
   refine ⟨?_, ?_⟩
   ·exact still_loc one24 hL_6 0 rfl 0 (v := (Sl.v t5_1)) rfl
   refine ⟨?_, ?_⟩
   ·exact still_loc one24 hL_6 0 rfl 0 (v := (Sl.v t5_1)) rfl
   refine H.mono fun rv_4 h_7 H => ?_
   obtain ⟨x_7, x_8, x_9, t21_1, rfl, hL_7, H⟩ := H
   refine ⟨?_, ?_⟩
   ·exact still_loc one24 hL_7 0 rfl 0 (v := (Sl.v t5_1)) rfl
   refine ⟨?_, ?_⟩
   ·exact still_one one36 H.1
   obtain ⟨hc_2, H⟩ := H
   refine ⟨?_, ?_⟩
   ·exact still_loc one24 hL_7 0 rfl 0 (v := (Sl.v t5_1)) rfl
   refine ⟨?_, ?_⟩
   ·exact still_loc one24 hL_7 0 rfl 0 (v := (Sl.v t5_1)) rfl
   refine H.mono fun rv_5 h_8 H => ?_
   obtain ⟨t22_1, rfl, hL_8, H⟩ := H
   refine ⟨?_, ?_⟩
   ·exact still_loc one24 hL_8 0 rfl 0 (v := (Sl.v t5_1)) rfl
   refine ⟨?_, ?_⟩
   ·exact still_one one36 H.1
   obtain ⟨hc_3, H⟩ := H
   refine ⟨?_, ?_⟩
   ·exact still_loc one24 hL_8 0 rfl 0 (v := (Sl.v t5_1)) rfl
   refine ⟨?_, ?_⟩
   ·exact still_loc one24 hL_8 0 rfl 0 (v := (Sl.v t5_1)) rfl
   refine H.mono fun rv_6 h_9 H => ?_
   obtain ⟨t23_1, rfl, hL_9, H⟩ := H
   refine ⟨?_, ?_⟩
   ·exact still_loc one24 hL_9 0 rfl 0 (v := (Sl.v t5_1)) rfl
   refine ⟨?_, ?_⟩
   ·exact still_loc one24 hL_9 0 rfl 0 (v := (Sl.v t5_1)) rfl
   refine ⟨?_, ?_⟩
   ·exact still_loc one24 hL_9 0 rfl 0 (v := (Sl.v t5_1)) rfl
   obtain ⟨hi_2, H⟩ := H
   refine pop_index sli24 siz36 .i64 t5_1 0 hi_2 ?_
   obtain ⟨hw_1, hL_10, H⟩ := H
   refine uop_cell (v := (Sl.v t23_1)) siz36 hw_1 rfl (fun h_10 he_1 => ?_)
   rw [← he_1] at hL_10
   have H := H h_10 he_1 hL_10
   refine rop_locA agg26 hL_10 0 rfl 0 (vs := [(Sl.v t5_1)]) rfl rfl ?_
   refine uop_loc siz26 hL_10 1 rfl 0 [(Sl.v t5_1)] rfl rfl rfl (Nat.le_of_ble_eq_true rfl) (L' := [(b_3, [(Sl.v t5_1)]), (b_2, [(Sl.v t5_1)]), (b_1, [(Sl.v x_7), (VI x_8), (Value.int .u64 x_9)])]) rfl (fun h_11 hf_4 hL_11 => ?_)
   refine rop_locA agg26 hL_11 1 rfl 0 (vs := [(Sl.v t5_1)]) rfl rfl ?_
   have H := H  h_11  (Fr.old (Fr.r (In []) _) hf_4) hL_11
   exact H
  have H := H.2 hb_3
  refine pop_ieq .i64 _ _ t7_1 1 ?_
  refine condM_b (fun hb_4 => ?_) (fun hb_4 => ?_)
  ·have H := H.1 hb_4
   refine pop_field 0 fld26_0 b_3 0 ?_
   refine rop_loc one24 hL_5 0 rfl 0 (v := (Sl.v t5_1)) rfl ?_
   refine H.mono fun rv_7 h_12 H => ?_
   obtain ⟨x_10, x_11, x_12, t30_1, rfl, hL_12, H⟩ := H
   refine ⟨?_, ?_⟩
   ·exact still_loc one24 hL_12 0 rfl 0 (v := (Sl.v t5_1)) rfl
   refine pop_add .i64 5 t30_1 ?_
   refine H.mono fun rv_8 h_13 H => ?_
   obtain ⟨t32_1, rfl, hL_13, H⟩ := H
   refine ⟨?_, ?_⟩
   ·exact still_loc one24 hL_13 0 rfl 0 (v := (Sl.v t5_1)) rfl
   obtain ⟨hi_3, H⟩ := H
   refine pop_index sli24 siz36 .i64 t5_1 0 hi_3 ?_
   obtain ⟨hw_2, hL_14, H⟩ := H
   refine uop_cell (v := (Sl.v t32_1)) siz36 hw_2 rfl (fun h_14 he_2 => ?_)
   rw [← he_2] at hL_14
   have H := H h_14 he_2 hL_14
   refine rop_locA agg26 hL_14 0 rfl 0 (vs := [(Sl.v t5_1)]) rfl rfl ?_
   refine uop_loc siz26 hL_14 1 rfl 0 [(Sl.v t5_1)] rfl rfl rfl (Nat.le_of_ble_eq_true rfl) (L' := [(b_3, [(Sl.v t5_1)]), (b_2, [(Sl.v t5_1)]), (b_1, [(Sl.v x_10), (VI x_11), (Value.int .u64 x_12)])]) rfl (fun h_15 hf_5 hL_15 => ?_)
   refine rop_locA agg26 hL_15 1 rfl 0 (vs := [(Sl.v t5_1)]) rfl rfl ?_
   have H := H  h_15  (Fr.old (Fr.r (In []) _) hf_5) hL_15
   exact H
  have H := H.2 hb_4
  refine pop_ieq .i64 _ _ t7_1 2 ?_
  refine condM_b (fun hb_5 => ?_) (fun hb_5 => ?_)
  rotate_left
  ·have H := H.2 hb_5
   refine pop_ieq .i64 _ _ t7_1 3 ?_
   refine condM_b (fun hb_7 => ?_) (fun hb_7 => ?_)
   rotate_left
   ·have H := H.2 hb_7
    refine rop_locA agg26 hL_5 0 rfl 0 (vs := [(Sl.v t5_1)]) rfl rfl ?_
    refine uop_loc siz26 hL_5 1 rfl 0 [(Sl.v t5_1)] rfl rfl rfl (Nat.le_of_ble_eq_true rfl) (L' := [(b_3, [(Sl.v t5_1)]), (b_2, [(Sl.v t5_1)]), (b_1, [(Sl.v x_4), (VI x_5), (Value.int .u64 x_6)])]) rfl (fun h_25 hf_10 hL_25 => ?_)
    refine rop_locA agg26 hL_25 1 rfl 0 (vs := [(Sl.v t5_1)]) rfl rfl ?_
    have H := H  h_25  (Fr.old (Fr.r (In []) _) hf_10) hL_25
    exact H
   have H := H.1 hb_7
   refine pop.mk' (v := (Value.agg #[(Sl.v nilSl)])) (fun w => by kernel_rfl) ?_
   refine uop_loc siz26 hL_5 0 rfl 0 [(Sl.v nilSl)] rfl rfl rfl (Nat.le_of_ble_eq_true rfl) (L' := [(b_3, [(Sl.v nilSl)]), (b_2, [(Sl.v nilSl)]), (b_1, [(Sl.v x_4), (VI x_5), (Value.int .u64 x_6)])]) rfl (fun h_23 hf_8 hL_23 => ?_)
   refine rop_locA agg26 hL_23 0 rfl 0 (vs := [(Sl.v nilSl)]) rfl rfl ?_
   refine uop_loc siz26 hL_23 1 rfl 0 [(Sl.v nilSl)] rfl rfl rfl (Nat.le_of_ble_eq_true rfl) (L' := [(b_3, [(Sl.v nilSl)]), (b_2, [(Sl.v nilSl)]), (b_1, [(Sl.v x_4), (VI x_5), (Value.int .u64 x_6)])]) rfl (fun h_24 hf_9 hL_24 => ?_)
   refine rop_locA agg26 hL_24 1 rfl 0 (vs := [(Sl.v nilSl)]) rfl rfl ?_
   have H := H  h_24  (Fr.old (Fr.old (Fr.r (In []) _) hf_8) hf_9) hL_24
   exact H
  have H := H.1 hb_5
  obtain ⟨J_1, ⟨n_2, h0_1⟩, HB_1⟩ := H
  refine loop_intro (J := fun (n : Nat) (vs : List Value) (h' : Heap) => ∃ x_13 : Sl, ∃ x_14 : Sl, ∃ x_15 : Int, ∃ x_16 : Int, vs = [] ∧ J_1 n x_13 x_14 x_15 x_16 h' ∧ Vars h' [(b_3, [(Sl.v x_13)]), (b_2, [(Sl.v nilSl)]), (b_1, [(Sl.v x_14), (VI x_15), (Value.int .u64 x_16)])]) n_2 ⟨t5_1, x_4, x_5, x_6, rfl, h0_1, hL_5⟩ ?_
  intro I_1 mu_1 hI_1 junk_1  h_16 hi_4
  obtain ⟨n_1, ⟨x_13, x_14, x_15, x_16, hv, hJ_1, hL_16⟩, hn_1⟩ := hI_1 _ _ hi_4
  cases hv
  have H := HB_1 n_1 x_13 x_14 x_15 x_16 h_16 hJ_1 hL_16
  refine pop_field 0 fld26_0 b_3 0 ?_
  refine rop_loc one24 hL_16 0 rfl 0 (v := (Sl.v x_13)) rfl ?_
  refine pop_len x_13 _ _ sli24 ?_
  refine H.mono fun rv_9 h_17 H => ?_
  obtain ⟨x_17, x_18, x_19, t40_1, rfl, hL_17, H⟩ := H
  refine ⟨?_, ?_⟩
  ·exact still_loc one24 hL_17 0 rfl 0 (v := (Sl.v x_13)) rfl
  refine pop_add .i64 8 t40_1 ?_
  refine pop_lss .i64 (x_13.n : Int) (w64 (8 + t40_1)) ?_
  refine condM_b (fun hb_6 => ?_) (fun hb_6 => ?_)
  rotate_left
  ·have H := H.2 hb_6
   refine rop_locA agg26 hL_17 0 rfl 0 (vs := [(Sl.v x_13)]) rfl rfl ?_
   refine uop_loc siz26 hL_17 1 rfl 0 [(Sl.v x_13)] rfl rfl rfl (Nat.le_of_ble_eq_true rfl) (L' := [(b_3, [(Sl.v x_13)]), (b_2, [(Sl.v x_13)]), (b_1, [(Sl.v x_17), (VI x_18), (Value.int .u64 x_19)])]) rfl (fun h_22 hf_7 hL_22 => ?_)
   refine rop_locA agg26 hL_22 1 rfl 0 (vs := [(Sl.v x_13)]) rfl rfl ?_
   have H := H  h_22  (Fr.old (Fr.r (In []) _) hf_7) hL_22
   exact H
  have H := H.1 hb_6
  refine pop_field 0 fld26_0 b_3 0 ?_
  refine rop_loc one24 hL_17 0 rfl 0 (v := (Sl.v x_13)) rfl ?_
  refine H.mono fun rv_10 h_18 H => ?_
  obtain ⟨t45_1, rfl, hL_18, H⟩ := H
  refine H.mono fun rv_11 h_19 H => ?_
  obtain ⟨t46_1, rfl, hL_19, H⟩ := H
  refine H.mono fun rv_12 h_20 H => ?_
  obtain ⟨t47_1, rfl, hL_20, H⟩ := H
  refine pop_field 0 fld26_0 b_3 0 ?_
  refine uop_loc siz24 hL_20 0 rfl 0 [(Sl.v t47_1)] rfl rfl rfl (Nat.le_of_ble_eq_true rfl) (L' := [(b_3, [(Sl.v t47_1)]), (b_2, [(Sl.v nilSl)]), (b_1, [(Sl.v x_17), (VI x_18), (Value.int .u64 x_19)])]) rfl (fun h_21 hf_6 hL_21 => ?_)
  have H := H  h_21  (Fr.old (Fr.r (In []) _) hf_6) hL_21
  obtain ⟨m_1, hm_1, H⟩ := H
  exact hn_1 _ _ ⟨m_1, hm_1, t47_1, x_17, x_18, x_19, rfl, H, hL_21⟩

/-! impl.in -/
def u47 (P : Program) (n0_1 : Int) (low1_1 : Int) (high2_1 : Int) (h : Heap) (K : Value → Heap → Prop) : Prop :=
  ((decide (low1_1 ≤ n0_1)) = true →
  K (VB (decide (n0_1 ≤ high2_1))) h) ∧
  ((decide (low1_1 ≤ n0_1)) = false →
  K (VB false) h)
theorem v47 (n0_1 : Int) (low1_1 : Int) (high2_1 : Int) (h : Heap) (K : Value → Heap → Prop) (H : u47 Tryz.prog n0_1 low1_1 high2_1 h K) : callM Tryz.prog 47 #[(VI n0_1), (VI low1_1), (VI high2_1)] h K := by
  refine c47 (VI n0_1) (VI low1_1) (VI high2_1) h K ?_
  unfold u47 at H
  unfold t47
  have hL : Vars h [] := .nil
  refine pop_leq .i64 low1_1 n0_1 ?_
  refine guardM_st (fun hb_1 => ?_) (fun hb_1 => ?_)
  rotate_left
  ·have H := H.2 hb_1
   refine guardM_n' hb_1 (by decide) ?_
   refine guardM_n' hb_1 (by decide) ?_
   refine pop_pickf' hb_1 ?_
   exact H
  have H := H.1 hb_1
  refine guardM_y' hb_1 ?_
  refine guardM_y' hb_1 ?_
  refine pop_leq .i64 n0_1 high2_1 ?_
  refine pop_pickt' hb_1 ?_
  exact H

/-! slices.ContainsFunc[[]int,int] -/
def u48 (P : Program) (s0_1 : Sl) (f1_1 : Value) (h : Heap) (K : Value → Heap → Prop) : Prop :=
  callM P 64 #[(Sl.v s0_1), f1_1] h fun rv_1 h_1 => ∃ t7_1 : Int, rv_1 = (VI t7_1) ∧ Vars h_1 [] ∧
  K (VB (decide (0 ≤ t7_1))) h_1
theorem v48 (s0_1 : Sl) (f1_1 : Value) (h : Heap) (K : Value → Heap → Prop) (H : u48 Tryz.prog s0_1 f1_1 h K) : callM Tryz.prog 48 #[(Sl.v s0_1), f1_1] h K := by
  refine c48 (Sl.v s0_1) f1_1 h K ?_
  unfold u48 at H
  unfold t48
  have hL : Vars h [] := .nil
  refine H.mono fun rv_1 h_1 H => ?_
  obtain ⟨t7_1, rfl, hL_1, H⟩ := H
  refine pop_geq .i64 t7_1 0 ?_
  exact H

/-! impl.isGraph$1 -/
def u49 (P : Program) (q0_1 : Int) (b_1 : Nat) (t1_1 : Int) (h : Heap) (K : Value → Heap → Prop) : Prop :=
  callM P 47 #[(VI q0_1), (VI 0), (VI (w64 (t1_1 - 1)))] h fun rv_1 h_1 => ∃ t7_1 : Bool, rv_1 = (VB t7_1) ∧ Vars h_1 [(b_1, [(VI t1_1)])] ∧
  K (VB (!t7_1)) h_1
theorem v49 (q0_1 : Int) (b_1 : Nat) (t1_1 : Int) (h : Heap) (K : Value → Heap → Prop) (hL : Vars h [(b_1, [(VI t1_1)])]) (H : u49 Tryz.prog q0_1 b_1 t1_1 h K) : callM Tryz.prog 49 #[(VI q0_1), (VP b_1 0)] h K := by
  refine c49 (VI q0_1) (VP b_1 0) h K ?_
  unfold u49 at H
  unfold t49
  refine rop_loc one3 hL 0 rfl 0 (v := (VI t1_1)) rfl ?_
  refine pop_sub .i64 t1_1 1 ?_
  refine H.mono fun rv_1 h_1 H => ?_
  obtain ⟨t7_1, rfl, hL_1, H⟩ := H
  refine pop_not t7_1 ?_
  exact H

/-! impl.listText -/
def u50 (P : Program) (list0_1 : Sl) (h : Heap) (K : Value → Heap → Prop) : Prop :=
  ((decide ((list0_1.n : Int) = 0)) = true →
  K (VS ({ data := #[45] })) h) ∧
  ((decide ((list0_1.n : Int) = 0)) = false →
  eop P (Instr.buildSlice 48 0 #[]) h fun rv_1 h_1 => ∃ t9_1 : Sl, rv_1 = (Sl.v t9_1) ∧ Vars h_1 [] ∧
  ∃ J_1 : Nat → Sl → Int → Heap → Prop, (∃ n0 : Nat, J_1 n0 t9_1 0 h_1) ∧
  ∀ (n_1 : Nat) (words3_1 : Sl) (t12_1 : Int) (h_2 : Heap), J_1 n_1 words3_1 t12_1 h_2 → Vars h_2 [] →
  ((decide (t12_1 < (list0_1.n : Int))) = true →
  InB list0_1 t12_1 ∧
  ∃ t15_1 : Int, hcell h_2 (Sl.at list0_1 t12_1 1) = some (VI t15_1) ∧
  callM P 58 #[(VI t15_1)] h_2 fun rv_2 h_3 => ∃ t18_1 : ByteArray, rv_2 = (VS t18_1) ∧ Vars h_3 [] ∧
  eop P (Instr.buildSlice 48 1 #[(0, (VS t18_1))]) h_3 fun rv_3 h_4 => ∃ t19_1 : Sl, rv_3 = (Sl.v t19_1) ∧ Vars h_4 [] ∧
  eop P (appS 48 48 48 (Sl.v words3_1) (Sl.v t19_1)) h_4 fun rv_4 h_5 => ∃ t20_1 : Sl, rv_4 = (Sl.v t20_1) ∧ Vars h_5 [] ∧
  ∃ m : Nat, m < n_1 ∧ J_1 m t20_1 (w64 (t12_1 + 1)) h_5) ∧
  ((decide (t12_1 < (list0_1.n : Int))) = false →
  callM P 51 #[(Sl.v words3_1), (VS ({ data := #[44] }))] h_2 fun rv_5 h_6 => ∃ t23_1 : ByteArray, rv_5 = (VS t23_1) ∧ Vars h_6 [] ∧
  K (VS t23_1) h_6))
theorem v50 (list0_1 : Sl) (h : Heap) (K : Value → Heap → Prop) (H : u50 Tryz.prog list0_1 h K) : callM Tryz.prog 50 #[(Sl.v list0_1)] h K := by
  refine c50 (Sl.v list0_1) h K ?_
  unfold u50 at H
  unfold t50
  have hL : Vars h [] := .nil
  refine pop_len list0_1 _ _ sli36 ?_
  refine pop_ieq .i64 _ _ (list0_1.n : Int) 0 ?_
  refine condM_b (fun hb_1 => ?_) (fun hb_1 => ?_)
  ·have H := H.1 hb_1
   exact H
  have H := H.2 hb_1
  refine H.mono fun rv_1 h_1 H => ?_
  obtain ⟨t9_1, rfl, hL_1, H⟩ := H
  refine pop_len list0_1 _ _ sli36 ?_
  obtain ⟨J_1, ⟨n_2, h0_1⟩, HB_1⟩ := H
  refine loop_intro (J := fun (n : Nat) (vs : List Value) (h' : Heap) => ∃ words3_1 : Sl, ∃ t12_1 : Int, vs = [(Sl.v words3_1), (VI t12_1)] ∧ J_1 n words3_1 t12_1 h' ∧ Vars h' []) n_2 ⟨t9_1, 0, rfl, h0_1, hL_1⟩ ?_
  intro I_1 mu_1 hI_1 junk_1 tv_1 tv_2 h_2 hi_1
  obtain ⟨n_1, ⟨words3_1, t12_1, hv, hJ_1, hL_2⟩, hn_1⟩ := hI_1 _ _ hi_1
  cases hv
  have H := HB_1 n_1 words3_1 t12_1 h_2 hJ_1 hL_2
  refine pop_lss .i64 t12_1 (list0_1.n : Int) ?_
  refine condM_b (fun hb_2 => ?_) (fun hb_2 => ?_)
  rotate_left
  ·have H := H.2 hb_2
   refine H.mono fun rv_5 h_6 H => ?_
   obtain ⟨t23_1, rfl, hL_6, H⟩ := H
   exact H
  have H := H.1 hb_2
  obtain ⟨hi_2, H⟩ := H
  refine pop_index sli36 siz3 .i64 list0_1 t12_1 hi_2 ?_
  obtain ⟨t15_1, hc_1, H⟩ := H
  refine rop_one one3 (VI t15_1) hc_1 ?_
  refine H.mono fun rv_2 h_3 H => ?_
  obtain ⟨t18_1, rfl, hL_3, H⟩ := H
  refine H.mono fun rv_3 h_4 H => ?_
  obtain ⟨t19_1, rfl, hL_4, H⟩ := H
  refine H.mono fun rv_4 h_5 H => ?_
  obtain ⟨t20_1, rfl, hL_5, H⟩ := H
  refine pop_add .i64 t12_1 1 ?_
  obtain ⟨m_1, hm_1, H⟩ := H
  exact hn_1 _ _ ⟨m_1, hm_1, t20_1, (w64 (t12_1 + 1)), rfl, H, hL_5⟩

/-! spec.l1In -/
def u52 (P : Program) (n0_1 : Int) (lo1_1 : Int) (hi2_1 : Int) (h : Heap) (K : Value → Heap → Prop) : Prop :=
  ((decide (lo1_1 ≤ n0_1)) = true →
  K (VB (decide (n0_1 ≤ hi2_1))) h) ∧
  ((decide (lo1_1 ≤ n0_1)) = false →
  K (VB false) h)
theorem v52 (n0_1 : Int) (lo1_1 : Int) (hi2_1 : Int) (h : Heap) (K : Value → Heap → Prop) (H : u52 Tryz.prog n0_1 lo1_1 hi2_1 h K) : callM Tryz.prog 52 #[(VI n0_1), (VI lo1_1), (VI hi2_1)] h K := by
  refine c52 (VI n0_1) (VI lo1_1) (VI hi2_1) h K ?_
  unfold u52 at H
  unfold t52
  have hL : Vars h [] := .nil
  refine pop_geq .i64 n0_1 lo1_1 ?_
  refine guardM_st (fun hb_1 => ?_) (fun hb_1 => ?_)
  rotate_left
  ·have H := H.2 hb_1
   refine guardM_n' hb_1 (by decide) ?_
   refine guardM_n' hb_1 (by decide) ?_
   refine pop_pickf' hb_1 ?_
   exact H
  have H := H.1 hb_1
  refine guardM_y' hb_1 ?_
  refine guardM_y' hb_1 ?_
  refine pop_leq .i64 n0_1 hi2_1 ?_
  refine pop_pickt' hb_1 ?_
  exact H

/-! spec.l1All -/
def u53 (P : Program) (l0_1 : Sl) (lo1_1 : Int) (hi2_1 : Int) (h : Heap) (K : Value → Heap → Prop) : Prop :=
  ∃ J_1 : Nat → Int → Heap → Prop, (∃ n0 : Nat, J_1 n0 0 h) ∧
  ∀ (n_1 : Nat) (t11_1 : Int) (h_1 : Heap), J_1 n_1 t11_1 h_1 → Vars h_1 [] →
  ((decide (t11_1 < (l0_1.n : Int))) = true →
  InB l0_1 t11_1 ∧
  ∃ t14_1 : Int, hcell h_1 (Sl.at l0_1 t11_1 1) = some (VI t14_1) ∧
  callM P 52 #[(VI t14_1), (VI lo1_1), (VI hi2_1)] h_1 fun rv_1 h_2 => ∃ t18_1 : Bool, rv_1 = (VB t18_1) ∧ Vars h_2 [] ∧
  ((!t18_1) = true →
  K (VB false) h_2) ∧
  ((!t18_1) = false →
  ∃ m : Nat, m < n_1 ∧ J_1 m (w64 (t11_1 + 1)) h_2)) ∧
  ((decide (t11_1 < (l0_1.n : Int))) = false →
  K (VB true) h_1)
theorem v53 (l0_1 : Sl) (lo1_1 : Int) (hi2_1 : Int) (h : Heap) (K : Value → Heap → Prop) (H : u53 Tryz.prog l0_1 lo1_1 hi2_1 h K) : callM Tryz.prog 53 #[(Sl.v l0_1), (VI lo1_1), (VI hi2_1)] h K := by
  refine c53 (Sl.v l0_1) (VI lo1_1) (VI hi2_1) h K ?_
  unfold u53 at H
  unfold t53
  have hL : Vars h [] := .nil
  refine pop_len l0_1 _ _ sli36 ?_
  obtain ⟨J_1, ⟨n_2, h0_1⟩, HB_1⟩ := H
  refine loop_intro (J := fun (n : Nat) (vs : List Value) (h' : Heap) => ∃ t11_1 : Int, vs = [(VI t11_1)] ∧ J_1 n t11_1 h' ∧ Vars h' []) n_2 ⟨0, rfl, h0_1, hL⟩ ?_
  intro I_1 mu_1 hI_1 junk_1 tv_1 h_1 hi_1
  obtain ⟨n_1, ⟨t11_1, hv, hJ_1, hL_1⟩, hn_1⟩ := hI_1 _ _ hi_1
  cases hv
  have H := HB_1 n_1 t11_1 h_1 hJ_1 hL_1
  refine pop_lss .i64 t11_1 (l0_1.n : Int) ?_
  refine condM_b (fun hb_1 => ?_) (fun hb_1 => ?_)
  rotate_left
  ·have H := H.2 hb_1
   exact H
  have H := H.1 hb_1
  obtain ⟨hi_2, H⟩ := H
  refine pop_index sli36 siz3 .i64 l0_1 t11_1 hi_2 ?_
  obtain ⟨t14_1, hc_1, H⟩ := H
  refine rop_one one3 (VI t14_1) hc_1 ?_
  refine H.mono fun rv_1 h_2 H => ?_
  obtain ⟨t18_1, rfl, hL_2, H⟩ := H
  refine pop_not t18_1 ?_
  refine condM_b (fun hb_2 => ?_) (fun hb_2 => ?_)
  ·have H := H.1 hb_2
   exact H
  have H := H.2 hb_2
  refine pop_add .i64 t11_1 1 ?_
  obtain ⟨m_1, hm_1, H⟩ := H
  exact hn_1 _ _ ⟨m_1, hm_1, (w64 (t11_1 + 1)), rfl, H, hL_2⟩

/-! spec.l1Num -/
def u54 (P : Program) (n0_1 : Int) (h : Heap) (K : Value → Heap → Prop) : Prop :=
  ((decide (n0_1 < 10)) = true →
  rop P (convert 3 5 (VI (w64 (48 + n0_1)))) h fun rv_1 => ∃ t7_1 : Int, rv_1 = (Value.int .u8 t7_1) ∧ 
  eop P (Instr.buildSlice 22 1 #[(0, (Value.int .u8 t7_1))]) h fun rv_2 h_1 => ∃ t8_1 : Sl, rv_2 = (Sl.v t8_1) ∧ Vars h_1 [] ∧
  rop P (convert 22 9 (Sl.v t8_1)) h_1 fun rv_3 => ∃ t9_1 : ByteArray, rv_3 = (VS t9_1) ∧ 
  K (VS t9_1) h_1) ∧
  ((decide (n0_1 < 10)) = false →
  rop P (convert 3 5 (VI (w64 (48 + (Int.tmod n0_1 10))))) h fun rv_4 => ∃ t16_1 : Int, rv_4 = (Value.int .u8 t16_1) ∧ 
  (callM P 54 #[(VI (w64 (Int.tdiv n0_1 10)))] h fun rv_5 h_2 => ∃ t12_1 : ByteArray, rv_5 = (VS t12_1) ∧ Vars h_2 [] ∧
  (∀ w : World, w.heap = h_2 → (convert 3 5 (VI (w64 (48 + (Int.tmod n0_1 10))))).run P w = .ok (Value.int .u8 t16_1) w) ∧
  eop P (Instr.buildSlice 22 1 #[(0, (Value.int .u8 t16_1))]) h_2 fun rv_6 h_3 => ∃ t17_1 : Sl, rv_6 = (Sl.v t17_1) ∧ Vars h_3 [] ∧
  rop P (convert 22 9 (Sl.v t17_1)) h_3 fun rv_7 => ∃ t18_1 : ByteArray, rv_7 = (VS t18_1) ∧ 
  ByteArray.size t12_1 + ByteArray.size t18_1 ≤ 9223372036854775807 ∧
  K (VS (t12_1 ++ t18_1)) h_3) ∧
  (eop P (Instr.buildSlice 22 1 #[(0, (Value.int .u8 t16_1))]) h fun rv_8 h_4 => ∃ t17_2 : Sl, rv_8 = (Sl.v t17_2) ∧ Vars h_4 [] ∧
  rop P (convert 22 9 (Sl.v t17_2)) h_4 fun rv_9 => ∃ t18_2 : ByteArray, rv_9 = (VS t18_2) ∧ 
  callM P 54 #[(VI (w64 (Int.tdiv n0_1 10)))] h_4 fun rv_10 h_5 => ∃ t12_2 : ByteArray, rv_10 = (VS t12_2) ∧ Vars h_5 [] ∧
  (∀ w : World, w.heap = h_5 → (convert 22 9 (Sl.v t17_2)).run P w = .ok (VS t18_2) w) ∧
  ByteArray.size t12_2 + ByteArray.size t18_2 ≤ 9223372036854775807 ∧
  K (VS (t12_2 ++ t18_2)) h_5))
theorem v54 (n0_1 : Int) (h : Heap) (K : Value → Heap → Prop) (H : u54 Tryz.prog n0_1 h K) : callM Tryz.prog 54 #[(VI n0_1)] h K := by
  refine c54 (VI n0_1) h K ?_
  unfold u54 at H
  unfold t54
  have hL : Vars h [] := .nil
  refine pop_lss .i64 n0_1 10 ?_
  refine condM_b (fun hb_1 => ?_) (fun hb_1 => ?_)
  ·have H := H.1 hb_1
   refine pop_add .i64 48 n0_1 ?_
   refine H.mono fun rv_1 H => ?_
   obtain ⟨t7_1, rfl, H⟩ := H
   refine H.mono fun rv_2 h_1 H => ?_
   obtain ⟨t8_1, rfl, hL_1, H⟩ := H
   refine H.mono fun rv_3 H => ?_
   obtain ⟨t9_1, rfl, H⟩ := H
   exact H
  have H := H.2 hb_1
  refine pop_quo .i64 n0_1 10 (by decide) ?_
  refine pop_rem .i64 n0_1 10 (by decide) ?_
  refine pop_add .i64 48 (Int.tmod n0_1 10) ?_
  refine H.mono fun rv_4 H => ?_
  obtain ⟨t16_1, rfl, H⟩ := H
  refine ⟨?_, ?_⟩
  ·have H := H.1
   refine H.mono fun rv_5 h_2 H => ?_
   obtain ⟨t12_1, rfl, hL_2, H⟩ := H
   refine ⟨?_, ?_⟩
   ·exact H.1
   obtain ⟨hc_1, H⟩ := H
   refine H.mono fun rv_6 h_3 H => ?_
   obtain ⟨t17_1, rfl, hL_3, H⟩ := H
   refine H.mono fun rv_7 H => ?_
   obtain ⟨t18_1, rfl, H⟩ := H
   obtain ⟨hz_1, H⟩ := H
   refine pop_sadd t12_1 t18_1 hz_1 ?_
   exact H
  have H := H.2
  refine H.mono fun rv_8 h_4 H => ?_
  obtain ⟨t17_2, rfl, hL_4, H⟩ := H
  refine H.mono fun rv_9 H => ?_
  obtain ⟨t18_2, rfl, H⟩ := H
  refine H.mono fun rv_10 h_5 H => ?_
  obtain ⟨t12_2, rfl, hL_5, H⟩ := H
  refine ⟨?_, ?_⟩
  ·exact H.1
  obtain ⟨hc_2, H⟩ := H
  obtain ⟨hz_2, H⟩ := H
  refine pop_sadd t12_2 t18_2 hz_2 ?_
  exact H

/-! slices.Grow[[]int,int] -/
def u55 (P : Program) (s0_1 : Sl) (n1_1 : Int) (h : Heap) (K : Value → Heap → Prop) : Prop :=
  ∃ J_1 : Heap → Prop, (((decide (n1_1 < 0)) = true →
  pop P (Instr.makeInterface 9 (Value.string { data := #[99, 97, 110, 110, 111, 116, 32, 98, 101, 32, 110, 101, 103, 97, 116, 105, 118, 101] })) fun rv_1 => ∃ t7_1 : Value, rv_1 = t7_1 ∧ 
  False) ∧
  ((decide (n1_1 < 0)) = false →
  J_1  h)) ∧
  ∀ (h_1 : Heap), J_1  h_1 → Vars h_1 [] →
  pop P (Builtin.cap_ #[36] 3 #[(Sl.v s0_1)]) fun rv_2 => ∃ t10_1 : Int, rv_2 = (VI t10_1) ∧ 
  ((decide (0 < (w64 (n1_1 - (w64 (t10_1 - (s0_1.n : Int))))))) = true →
  pop P (Builtin.cap_ #[36] 3 #[(Sl.v s0_1)]) fun rv_3 => ∃ t19_1 : Int, rv_3 = (VI t19_1) ∧ 
  pop P (Instr.sliceAt 36 (Sl.v s0_1) none (some (VI t19_1)) none) fun rv_4 => ∃ t20_1 : Sl, rv_4 = (Sl.v t20_1) ∧ 
  eop P (appS 36 3 36 (Sl.v t20_1) (VI (w64 (n1_1 - (w64 (t10_1 - (s0_1.n : Int))))))) h_1 fun rv_5 h_2 => ∃ t22_1 : Sl, rv_5 = (Sl.v t22_1) ∧ Vars h_2 [] ∧
  pop P (Instr.sliceAt 36 (Sl.v t22_1) none (some (VI (s0_1.n : Int))) none) fun rv_6 => ∃ t25_1 : Sl, rv_6 = (Sl.v t25_1) ∧ 
  K (Sl.v t25_1) h_2) ∧
  ((decide (0 < (w64 (n1_1 - (w64 (t10_1 - (s0_1.n : Int))))))) = false →
  K (Sl.v s0_1) h_1)
theorem v55 (s0_1 : Sl) (n1_1 : Int) (h : Heap) (K : Value → Heap → Prop) (H : u55 Tryz.prog s0_1 n1_1 h K) : callM Tryz.prog 55 #[(Sl.v s0_1), (VI n1_1)] h K := by
  refine c55 (Sl.v s0_1) (VI n1_1) h K ?_
  unfold u55 at H
  unfold t55
  have hL : Vars h [] := .nil
  obtain ⟨J_1, H, HB_1⟩ := H
  refine ⟨fun (vs : List Value) (h' : Heap) => vs = [] ∧ J_1  h' ∧ Vars h' [], ?_, ?_⟩
  ·refine pop_lss .i64 n1_1 0 ?_
   refine condM_b (fun hb_1 => ?_) (fun hb_1 => ?_)
   rotate_left
   ·have H := H.2 hb_1
    exact ⟨rfl, H, hL⟩
   have H := H.1 hb_1
   refine H.mono fun rv_1 H => ?_
   obtain ⟨t7_1, rfl, H⟩ := H
   exact H.elim
  intro junk_1  h_1
  rintro ⟨hv, hJ_1, hL_1⟩
  have H := HB_1  h_1 hJ_1 hL_1
  refine H.mono fun rv_2 H => ?_
  obtain ⟨t10_1, rfl, H⟩ := H
  refine pop_len s0_1 _ _ sli36 ?_
  refine pop_sub .i64 t10_1 (s0_1.n : Int) ?_
  refine pop_sub .i64 n1_1 (w64 (t10_1 - (s0_1.n : Int))) ?_
  refine pop_gtr .i64 (w64 (n1_1 - (w64 (t10_1 - (s0_1.n : Int))))) 0 ?_
  refine condM_b (fun hb_2 => ?_) (fun hb_2 => ?_)
  rotate_left
  ·have H := H.2 hb_2
   exact H
  have H := H.1 hb_2
  refine H.mono fun rv_3 H => ?_
  obtain ⟨t19_1, rfl, H⟩ := H
  refine H.mono fun rv_4 H => ?_
  obtain ⟨t20_1, rfl, H⟩ := H
  refine H.mono fun rv_5 h_2 H => ?_
  obtain ⟨t22_1, rfl, hL_2, H⟩ := H
  refine pop_len s0_1 _ _ sli36 ?_
  refine H.mono fun rv_6 H => ?_
  obtain ⟨t25_1, rfl, H⟩ := H
  exact H

/-! impl.has$1 -/
def u59 (P : Program) (p0_1 : Int) (b_1 : Nat) (t1_1 : Sl) (h : Heap) (K : Value → Heap → Prop) : Prop :=
  callM P 47 #[(VI p0_1), (VI 0), (VI (w64 ((t1_1.n : Int) - 1)))] h fun rv_1 h_1 => ∃ t9_1 : Bool, rv_1 = (VB t9_1) ∧ Vars h_1 [(b_1, [(Sl.v t1_1)])] ∧
  K (VB (!t9_1)) h_1
theorem v59 (p0_1 : Int) (b_1 : Nat) (t1_1 : Sl) (h : Heap) (K : Value → Heap → Prop) (hL : Vars h [(b_1, [(Sl.v t1_1)])]) (H : u59 Tryz.prog p0_1 b_1 t1_1 h K) : callM Tryz.prog 59 #[(VI p0_1), (VP b_1 0)] h K := by
  refine c59 (VI p0_1) (VP b_1 0) h K ?_
  unfold u59 at H
  unfold t59
  refine pop_field 0 fld26_0 b_1 0 ?_
  refine rop_loc one24 hL 0 rfl 0 (v := (Sl.v t1_1)) rfl ?_
  refine pop_len t1_1 _ _ sli24 ?_
  refine pop_sub .i64 (t1_1.n : Int) 1 ?_
  refine H.mono fun rv_1 h_1 H => ?_
  obtain ⟨t9_1, rfl, hL_1, H⟩ := H
  refine pop_not t9_1 ?_
  exact H

/-! (impl.Graph).reach -/
def u60 (P : Program) (g0_1 : Sl) (p1_1 : Int) (h : Heap) (K : Value → Heap → Prop) : Prop :=
  ∀ (b_1 : Nat) (h_1 : Heap), h.size ≤ b_1 → Fr (In []) h h_1 → Vars h_1 [(b_1, [(Sl.v g0_1)])] →
  eop P (Instr.buildSlice 36 0 #[]) h_1 fun rv_1 h_2 => ∃ t8_1 : Sl, rv_1 = (Sl.v t8_1) ∧ Vars h_2 [(b_1, [(Sl.v g0_1)])] ∧
  callM P 74 #[(Value.agg #[(Sl.v g0_1)]), (VI p1_1)] h_2 fun rv_2 h_3 => ∃ t11_1 : Sl, rv_2 = (Sl.v t11_1) ∧ Vars h_3 [(b_1, [(Sl.v g0_1)])] ∧
  ∃ J_1 : Nat → Sl → Int → Heap → Prop, (∃ n0 : Nat, J_1 n0 t8_1 0 h_3) ∧
  ∀ (n_1 : Nat) (out5_1 : Sl) (t13_1 : Int) (h_4 : Heap), J_1 n_1 out5_1 t13_1 h_4 → Vars h_4 [(b_1, [(Sl.v g0_1)])] →
  ((decide (t13_1 < (t11_1.n : Int))) = true →
  InB t11_1 t13_1 ∧
  ∃ t17_1 : Int, hcell h_4 (Sl.at t11_1 t13_1 1) = some (VI t17_1) ∧
  ((decide (0 ≤ t17_1)) = true →
  eop P (Instr.buildSlice 36 1 #[(0, (VI t13_1))]) h_4 fun rv_3 h_5 => ∃ t22_1 : Sl, rv_3 = (Sl.v t22_1) ∧ Vars h_5 [(b_1, [(Sl.v g0_1)])] ∧
  eop P (appS 36 36 36 (Sl.v out5_1) (Sl.v t22_1)) h_5 fun rv_4 h_6 => ∃ t23_1 : Sl, rv_4 = (Sl.v t23_1) ∧ Vars h_6 [(b_1, [(Sl.v g0_1)])] ∧
  ∃ m : Nat, m < n_1 ∧ J_1 m t23_1 (w64 (t13_1 + 1)) h_6) ∧
  ((decide (0 ≤ t17_1)) = false →
  ∃ m : Nat, m < n_1 ∧ J_1 m out5_1 (w64 (t13_1 + 1)) h_4)) ∧
  ((decide (t13_1 < (t11_1.n : Int))) = false →
  K (Sl.v out5_1) h_4)
theorem v60 (g0_1 : Sl) (p1_1 : Int) (h : Heap) (K : Value → Heap → Prop) (H : u60 Tryz.prog g0_1 p1_1 h K) : callM Tryz.prog 60 #[(Value.agg #[(Sl.v g0_1)]), (VI p1_1)] h K := by
  refine c60 (Value.agg #[(Sl.v g0_1)]) (VI p1_1) h K ?_
  unfold u60 at H
  unfold t60
  have hL : Vars h [] := .nil
  refine eop_box 26 (Value.agg #[(Sl.v g0_1)]) rfl hL (fun b_1 h_1 hb_1 hf_1 hL_1 => ?_)
  have H := H b_1 h_1 (Nat.le_trans (Fr.size (Fr.r (In []) _)) hb_1) (Fr.no' (Fr.r (In []) _) hf_1) hL_1
  refine H.mono fun rv_1 h_2 H => ?_
  obtain ⟨t8_1, rfl, hL_2, H⟩ := H
  refine rop_locA agg26 hL_2 0 rfl 0 (vs := [(Sl.v g0_1)]) rfl rfl ?_
  refine H.mono fun rv_2 h_3 H => ?_
  obtain ⟨t11_1, rfl, hL_3, H⟩ := H
  refine pop_len t11_1 _ _ sli36 ?_
  obtain ⟨J_1, ⟨n_2, h0_1⟩, HB_1⟩ := H
  refine loop_intro (J := fun (n : Nat) (vs : List Value) (h' : Heap) => ∃ out5_1 : Sl, ∃ t13_1 : Int, vs = [(Sl.v out5_1), (VI t13_1)] ∧ J_1 n out5_1 t13_1 h' ∧ Vars h' [(b_1, [(Sl.v g0_1)])]) n_2 ⟨t8_1, 0, rfl, h0_1, hL_3⟩ ?_
  intro I_1 mu_1 hI_1 junk_1 tv_1 tv_2 h_4 hi_1
  obtain ⟨n_1, ⟨out5_1, t13_1, hv, hJ_1, hL_4⟩, hn_1⟩ := hI_1 _ _ hi_1
  cases hv
  have H := HB_1 n_1 out5_1 t13_1 h_4 hJ_1 hL_4
  refine pop_lss .i64 t13_1 (t11_1.n : Int) ?_
  refine condM_b (fun hb_2 => ?_) (fun hb_2 => ?_)
  rotate_left
  ·have H := H.2 hb_2
   exact H
  have H := H.1 hb_2
  obtain ⟨hi_2, H⟩ := H
  refine pop_index sli36 siz3 .i64 t11_1 t13_1 hi_2 ?_
  obtain ⟨t17_1, hc_1, H⟩ := H
  refine rop_one one3 (VI t17_1) hc_1 ?_
  refine pop_geq .i64 t17_1 0 ?_
  refine condM_b (fun hb_3 => ?_) (fun hb_3 => ?_)
  rotate_left
  ·have H := H.2 hb_3
   refine pop_add .i64 t13_1 1 ?_
   obtain ⟨m_2, hm_2, H⟩ := H
   exact hn_1 _ _ ⟨m_2, hm_2, out5_1, (w64 (t13_1 + 1)), rfl, H, hL_4⟩
  have H := H.1 hb_3
  refine H.mono fun rv_3 h_5 H => ?_
  obtain ⟨t22_1, rfl, hL_5, H⟩ := H
  refine H.mono fun rv_4 h_6 H => ?_
  obtain ⟨t23_1, rfl, hL_6, H⟩ := H
  refine pop_add .i64 t13_1 1 ?_
  obtain ⟨m_1, hm_1, H⟩ := H
  exact hn_1 _ _ ⟨m_1, hm_1, t23_1, (w64 (t13_1 + 1)), rfl, H, hL_6⟩

/-! (*spec.l1Cur).pick -/
def u61 (P : Program) (b_1 : Nat) (c0_1 : Sl) (c0_2 : Int) (c0_3 : Int) (n1_1 : Int) (h : Heap) (K : Value → Heap → Prop) : Prop :=
  ((decide (n1_1 ≤ 1)) = true →
  K (VI 0) h) ∧
  ((decide (n1_1 ≤ 1)) = false →
  callM P 75 #[(VP b_1 0)] h fun rv_1 h_1 => ∃ x_1 : Sl, ∃ x_2 : Int, ∃ x_3 : Int, ∃ t9_1 : Int, rv_1 = (VI t9_1) ∧ Vars h_1 [(b_1, [(Sl.v x_1), (VI x_2), (Value.int .u64 x_3)])] ∧
  ∃ J_1 : Int → Sl → Int → Int → Heap → Prop, (((decide (200 < n1_1)) = true →
  callM P 75 #[(VP b_1 0)] h_1 fun rv_2 h_2 => ∃ x_8 : Sl, ∃ x_9 : Int, ∃ x_10 : Int, ∃ t15_1 : Int, rv_2 = (VI t15_1) ∧ Vars h_2 [(b_1, [(Sl.v x_8), (VI x_9), (Value.int .u64 x_10)])] ∧
  J_1 (w64 ((w64 (t9_1 * 256)) + t15_1)) x_8 x_9 x_10 h_2) ∧
  ((decide (200 < n1_1)) = false →
  J_1 t9_1 x_1 x_2 x_3 h_1)) ∧
  ∀ (x_4 : Int) (x_5 : Sl) (x_6 : Int) (x_7 : Int) (h_3 : Heap), J_1 x_4 x_5 x_6 x_7 h_3 → Vars h_3 [(b_1, [(Sl.v x_5), (VI x_6), (Value.int .u64 x_7)])] →
  n1_1 ≠ 0 ∧
  K (VI (Int.tmod x_4 n1_1)) h_3)
theorem v61 (b_1 : Nat) (c0_1 : Sl) (c0_2 : Int) (c0_3 : Int) (n1_1 : Int) (h : Heap) (K : Value → Heap → Prop) (hL : Vars h [(b_1, [(Sl.v c0_1), (VI c0_2), (Value.int .u64 c0_3)])]) (H : u61 Tryz.prog b_1 c0_1 c0_2 c0_3 n1_1 h K) : callM Tryz.prog 61 #[(VP b_1 0), (VI n1_1)] h K := by
  refine c61 (VP b_1 0) (VI n1_1) h K ?_
  unfold u61 at H
  unfold t61
  refine pop_leq .i64 n1_1 1 ?_
  refine condM_b (fun hb_1 => ?_) (fun hb_1 => ?_)
  ·have H := H.1 hb_1
   exact H
  have H := H.2 hb_1
  refine H.mono fun rv_1 h_1 H => ?_
  obtain ⟨x_1, x_2, x_3, t9_1, rfl, hL_1, H⟩ := H
  obtain ⟨J_1, H, HB_1⟩ := H
  refine ⟨fun (vs : List Value) (h' : Heap) => ∃ x_4 : Int, ∃ x_5 : Sl, ∃ x_6 : Int, ∃ x_7 : Int, vs = [(VI x_4)] ∧ J_1 x_4 x_5 x_6 x_7 h' ∧ Vars h' [(b_1, [(Sl.v x_5), (VI x_6), (Value.int .u64 x_7)])], ?_, ?_⟩
  ·refine pop_gtr .i64 n1_1 200 ?_
   refine condM_b (fun hb_2 => ?_) (fun hb_2 => ?_)
   rotate_left
   ·have H := H.2 hb_2
    exact ⟨t9_1, x_1, x_2, x_3, rfl, H, hL_1⟩
   have H := H.1 hb_2
   refine pop_mul .i64 t9_1 256 ?_
   refine H.mono fun rv_2 h_2 H => ?_
   obtain ⟨x_8, x_9, x_10, t15_1, rfl, hL_2, H⟩ := H
   refine pop_add .i64 (w64 (t9_1 * 256)) t15_1 ?_
   exact ⟨(w64 ((w64 (t9_1 * 256)) + t15_1)), x_8, x_9, x_10, rfl, H, hL_2⟩
  intro junk_1 tv_1 h_3
  rintro ⟨x_4, x_5, x_6, x_7, hv, hJ_1, hL_3⟩
  cases hv
  have H := HB_1 x_4 x_5 x_6 x_7 h_3 hJ_1 hL_3
  obtain ⟨hz_1, H⟩ := H
  refine pop_rem .i64 x_4 n1_1 hz_1 ?_
  exact H

/-! spec.grCycle -/
def u62 (P : Program) (n0_1 : Int) (both1_1 : Bool) (h : Heap) (K : Value → Heap → Prop) : Prop :=
  ∀ (b_1 : Nat) (b_2 : Nat) (h_3 : Heap), h.size ≤ b_1 → h.size ≤ b_2 → Fr (In []) h h_3 → Vars h_3 [(b_2, [(Sl.v nilSl)]), (b_1, [(Sl.v nilSl)])] →
  ∃ J_1 : Nat → Int → Sl → Heap → Prop, (∃ n0 : Nat, J_1 n0 0 nilSl h_3) ∧
  ∀ (n_1 : Nat) (p6_1 : Int) (x_1 : Sl) (h_4 : Heap), J_1 n_1 p6_1 x_1 h_4 → Vars h_4 [(b_2, [(Sl.v x_1)]), (b_1, [(Sl.v nilSl)])] →
  ((decide (p6_1 < n0_1)) = true →
  n0_1 ≠ 0 ∧
  eop P (Instr.buildSlice 36 1 #[(0, (VI (Int.tmod (w64 (p6_1 + 1)) n0_1)))]) h_4 fun rv_1 h_5 => ∃ t18_1 : Sl, rv_1 = (Sl.v t18_1) ∧ Vars h_5 [(b_2, [(Sl.v x_1)]), (b_1, [(Sl.v nilSl)])] ∧
  ∃ J_2 : Sl → Heap → Prop, ((both1_1 = true →
  n0_1 ≠ 0 ∧
  eop P (Instr.buildSlice 36 1 #[(0, (VI (Int.tmod (w64 ((w64 (p6_1 + n0_1)) - 1)) n0_1)))]) h_5 fun rv_2 h_6 => ∃ t27_1 : Sl, rv_2 = (Sl.v t27_1) ∧ Vars h_6 [(b_2, [(Sl.v x_1)]), (b_1, [(Sl.v nilSl)])] ∧
  eop P (appS 36 36 36 (Sl.v t18_1) (Sl.v t27_1)) h_6 fun rv_3 h_7 => ∃ t28_1 : Sl, rv_3 = (Sl.v t28_1) ∧ Vars h_7 [(b_2, [(Sl.v x_1)]), (b_1, [(Sl.v nilSl)])] ∧
  J_2 t28_1 h_7) ∧
  (both1_1 = false →
  J_2 t18_1 h_5)) ∧
  ∀ (x_2 : Sl) (h_8 : Heap), J_2 x_2 h_8 → Vars h_8 [(b_2, [(Sl.v x_1)]), (b_1, [(Sl.v nilSl)])] →
  eop P (Instr.buildSlice 24 1 #[(0, (Sl.v x_2))]) h_8 fun rv_4 h_9 => ∃ t32_1 : Sl, rv_4 = (Sl.v t32_1) ∧ Vars h_9 [(b_2, [(Sl.v x_1)]), (b_1, [(Sl.v nilSl)])] ∧
  eop P (appS 24 24 24 (Sl.v x_1) (Sl.v t32_1)) h_9 fun rv_5 h_10 => ∃ t33_1 : Sl, rv_5 = (Sl.v t33_1) ∧ Vars h_10 [(b_2, [(Sl.v x_1)]), (b_1, [(Sl.v nilSl)])] ∧
  ∀ (h_11 : Heap), Fr (In [b_2]) h_10 h_11 → Vars h_11 [(b_2, [(Sl.v t33_1)]), (b_1, [(Sl.v nilSl)])] →
  ∃ m : Nat, m < n_1 ∧ J_1 m (w64 (p6_1 + 1)) t33_1 h_11) ∧
  ((decide (p6_1 < n0_1)) = false →
  ∀ (h_12 : Heap), Fr (In [b_1]) h_4 h_12 → Vars h_12 [(b_2, [(Sl.v x_1)]), (b_1, [(Sl.v x_1)])] →
  K (Value.agg #[(Sl.v x_1)]) h_12)
theorem v62 (n0_1 : Int) (both1_1 : Bool) (h : Heap) (K : Value → Heap → Prop) (H : u62 Tryz.prog n0_1 both1_1 h K) : callM Tryz.prog 62 #[(VI n0_1), (VB both1_1)] h K := by
  refine c62 (VI n0_1) (VB both1_1) h K ?_
  unfold u62 at H
  unfold t62
  have hL : Vars h [] := .nil
  refine eop_alloc 26 zer26 rfl hL (fun b_1 h_1 hb_1 hf_1 hL_1 => ?_)
  refine pop.mk' (v := (Value.agg #[(Sl.v nilSl)])) (fun w => by kernel_rfl) ?_
  refine eop_alloc 26 zer26 rfl hL_1 (fun b_2 h_2 hb_2 hf_2 hL_2 => ?_)
  refine uop_loc siz26 hL_2 0 rfl 0 [(Sl.v nilSl)] rfl rfl rfl (Nat.le_of_ble_eq_true rfl) (L' := [(b_2, [(Sl.v nilSl)]), (b_1, [(Sl.v nilSl)])]) rfl (fun h_3 hf_3 hL_3 => ?_)
  have H := H b_1 b_2 h_3 (Nat.le_trans (Fr.size (Fr.r (In []) _)) hb_1) (Nat.le_trans (Fr.size (Fr.no' (Fr.r (In []) _) hf_1)) hb_2) (Fr.new (Fr.no' (Fr.no' (Fr.r (In []) _) hf_1) hf_2) (Nat.le_trans (Fr.size (Fr.no' (Fr.r (In []) _) hf_1)) hb_2) hf_3) hL_3
  obtain ⟨J_1, ⟨n_2, h0_1⟩, HB_2⟩ := H
  refine loop_intro (J := fun (n : Nat) (vs : List Value) (h' : Heap) => ∃ p6_1 : Int, ∃ x_1 : Sl, vs = [(VI p6_1)] ∧ J_1 n p6_1 x_1 h' ∧ Vars h' [(b_2, [(Sl.v x_1)]), (b_1, [(Sl.v nilSl)])]) n_2 ⟨0, nilSl, rfl, h0_1, hL_3⟩ ?_
  intro I_1 mu_1 hI_1 junk_1 tv_2 h_4 hi_1
  obtain ⟨n_1, ⟨p6_1, x_1, hv, hJ_1, hL_4⟩, hn_1⟩ := hI_1 _ _ hi_1
  cases hv
  have H := HB_2 n_1 p6_1 x_1 h_4 hJ_1 hL_4
  refine pop_lss .i64 p6_1 n0_1 ?_
  refine condM_b (fun hb_3 => ?_) (fun hb_3 => ?_)
  rotate_left
  ·have H := H.2 hb_3
   refine rop_locA agg26 hL_4 0 rfl 0 (vs := [(Sl.v x_1)]) rfl rfl ?_
   refine uop_loc siz26 hL_4 1 rfl 0 [(Sl.v x_1)] rfl rfl rfl (Nat.le_of_ble_eq_true rfl) (L' := [(b_2, [(Sl.v x_1)]), (b_1, [(Sl.v x_1)])]) rfl (fun h_12 hf_5 hL_12 => ?_)
   refine rop_locA agg26 hL_12 1 rfl 0 (vs := [(Sl.v x_1)]) rfl rfl ?_
   have H := H  h_12  (Fr.old (Fr.r (In []) _) hf_5) hL_12
   exact H
  have H := H.1 hb_3
  refine pop_add .i64 p6_1 1 ?_
  obtain ⟨hz_1, H⟩ := H
  refine pop_rem .i64 (w64 (p6_1 + 1)) n0_1 hz_1 ?_
  refine H.mono fun rv_1 h_5 H => ?_
  obtain ⟨t18_1, rfl, hL_5, H⟩ := H
  obtain ⟨J_2, H, HB_1⟩ := H
  refine ⟨fun (vs : List Value) (h' : Heap) => ∃ x_2 : Sl, vs = [(Sl.v x_2)] ∧ J_2 x_2 h' ∧ Vars h' [(b_2, [(Sl.v x_1)]), (b_1, [(Sl.v nilSl)])], ?_, ?_⟩
  ·refine condM_b (fun hb_4 => ?_) (fun hb_4 => ?_)
   rotate_left
   ·have H := H.2 hb_4
    exact ⟨t18_1, rfl, H, hL_5⟩
   have H := H.1 hb_4
   refine pop_add .i64 p6_1 n0_1 ?_
   refine pop_sub .i64 (w64 (p6_1 + n0_1)) 1 ?_
   obtain ⟨hz_2, H⟩ := H
   refine pop_rem .i64 (w64 ((w64 (p6_1 + n0_1)) - 1)) n0_1 hz_2 ?_
   refine H.mono fun rv_2 h_6 H => ?_
   obtain ⟨t27_1, rfl, hL_6, H⟩ := H
   refine H.mono fun rv_3 h_7 H => ?_
   obtain ⟨t28_1, rfl, hL_7, H⟩ := H
   exact ⟨t28_1, rfl, H, hL_7⟩
  intro junk_2 tv_1 h_8
  rintro ⟨x_2, hv, hJ_2, hL_8⟩
  cases hv
  have H := HB_1 x_2 h_8 hJ_2 hL_8
  refine pop_field 0 fld26_0 b_2 0 ?_
  refine rop_loc one24 hL_8 0 rfl 0 (v := (Sl.v x_1)) rfl ?_
  refine H.mono fun rv_4 h_9 H => ?_
  obtain ⟨t32_1, rfl, hL_9, H⟩ := H
  refine H.mono fun rv_5 h_10 H => ?_
  obtain ⟨t33_1, rfl, hL_10, H⟩ := H
  refine pop_field 0 fld26_0 b_2 0 ?_
  refine uop_loc siz24 hL_10 0 rfl 0 [(Sl.v t33_1)] rfl rfl rfl (Nat.le_of_ble_eq_true rfl) (L' := [(b_2, [(Sl.v t33_1)]), (b_1, [(Sl.v nilSl)])]) rfl (fun h_11 hf_4 hL_11 => ?_)
  refine pop_add .i64 p6_1 1 ?_
  have H := H  h_11  (Fr.old (Fr.r (In []) _) hf_4) hL_11
  obtain ⟨m_1, hm_1, H⟩ := H
  exact hn_1 _ _ ⟨m_1, hm_1, (w64 (p6_1 + 1)), t33_1, rfl, H, hL_11⟩

/-! (*spec.l1Cur).among -/
def u63 (P : Program) (b_1 : Nat) (c0_1 : Sl) (c0_2 : Int) (c0_3 : Int) (list1_1 : Sl) (h : Heap) (K : Value → Heap → Prop) : Prop :=
  callM P 61 #[(VP b_1 0), (VI (list1_1.n : Int))] h fun rv_1 h_1 => ∃ x_1 : Sl, ∃ x_2 : Int, ∃ x_3 : Int, ∃ t9_1 : Int, rv_1 = (VI t9_1) ∧ Vars h_1 [(b_1, [(Sl.v x_1), (VI x_2), (Value.int .u64 x_3)])] ∧
  InB list1_1 t9_1 ∧
  ∃ t11_1 : Int, hcell h_1 (Sl.at list1_1 t9_1 1) = some (VI t11_1) ∧
  K (VI t11_1) h_1
theorem v63 (b_1 : Nat) (c0_1 : Sl) (c0_2 : Int) (c0_3 : Int) (list1_1 : Sl) (h : Heap) (K : Value → Heap → Prop) (hL : Vars h [(b_1, [(Sl.v c0_1), (VI c0_2), (Value.int .u64 c0_3)])]) (H : u63 Tryz.prog b_1 c0_1 c0_2 c0_3 list1_1 h K) : callM Tryz.prog 63 #[(VP b_1 0), (Sl.v list1_1)] h K := by
  refine c63 (VP b_1 0) (Sl.v list1_1) h K ?_
  unfold u63 at H
  unfold t63
  refine pop_len list1_1 _ _ sli36 ?_
  refine H.mono fun rv_1 h_1 H => ?_
  obtain ⟨x_1, x_2, x_3, t9_1, rfl, hL_1, H⟩ := H
  obtain ⟨hi_1, H⟩ := H
  refine pop_index sli36 siz3 .i64 list1_1 t9_1 hi_1 ?_
  obtain ⟨t11_1, hc_1, H⟩ := H
  refine rop_one one3 (VI t11_1) hc_1 ?_
  exact H

/-! slices.IndexFunc[[]int,int] -/
def u64 (P : Program) (s0_1 : Sl) (f1_1 : Value) (h : Heap) (K : Value → Heap → Prop) : Prop :=
  ∃ J_1 : Nat → Int → Heap → Prop, (∃ n0 : Nat, J_1 n0 0 h) ∧
  ∀ (n_1 : Nat) (t8_1 : Int) (h_1 : Heap), J_1 n_1 t8_1 h_1 → Vars h_1 [] →
  ((decide (t8_1 < (s0_1.n : Int))) = true →
  InB s0_1 t8_1 ∧
  ∃ t15_1 : Int, hcell h_1 (Sl.at s0_1 t8_1 1) = some (VI t15_1) ∧
  callV P f1_1 [(VI t15_1)] h_1 fun rv_1 h_2 => ∃ t16_1 : Bool, rv_1 = (VB t16_1) ∧ Vars h_2 [] ∧
  (t16_1 = true →
  K (VI t8_1) h_2) ∧
  (t16_1 = false →
  ∃ m : Nat, m < n_1 ∧ J_1 m (w64 (t8_1 + 1)) h_2)) ∧
  ((decide (t8_1 < (s0_1.n : Int))) = false →
  K (VI (-1)) h_1)
theorem v64 (s0_1 : Sl) (f1_1 : Value) (h : Heap) (K : Value → Heap → Prop) (H : u64 Tryz.prog s0_1 f1_1 h K) : callM Tryz.prog 64 #[(Sl.v s0_1), f1_1] h K := by
  refine c64 (Sl.v s0_1) f1_1 h K ?_
  unfold u64 at H
  unfold t64
  have hL : Vars h [] := .nil
  refine pop_len s0_1 _ _ sli36 ?_
  obtain ⟨J_1, ⟨n_2, h0_1⟩, HB_1⟩ := H
  refine loop_intro (J := fun (n : Nat) (vs : List Value) (h' : Heap) => ∃ t8_1 : Int, vs = [(VI t8_1)] ∧ J_1 n t8_1 h' ∧ Vars h' []) n_2 ⟨0, rfl, h0_1, hL⟩ ?_
  intro I_1 mu_1 hI_1 junk_1 tv_1 h_1 hi_1
  obtain ⟨n_1, ⟨t8_1, hv, hJ_1, hL_1⟩, hn_1⟩ := hI_1 _ _ hi_1
  cases hv
  have H := HB_1 n_1 t8_1 h_1 hJ_1 hL_1
  refine pop_lss .i64 t8_1 (s0_1.n : Int) ?_
  refine condM_b (fun hb_1 => ?_) (fun hb_1 => ?_)
  rotate_left
  ·have H := H.2 hb_1
   exact H
  have H := H.1 hb_1
  obtain ⟨hi_2, H⟩ := H
  refine pop_index sli36 siz3 .i64 s0_1 t8_1 hi_2 ?_
  obtain ⟨t15_1, hc_1, H⟩ := H
  refine rop_one one3 (VI t15_1) hc_1 ?_
  refine H.mono fun rv_1 h_2 H => ?_
  obtain ⟨t16_1, rfl, hL_2, H⟩ := H
  refine condM_b (fun hb_2 => ?_) (fun hb_2 => ?_)
  ·have H := H.1 hb_2
   exact H
  have H := H.2 hb_2
  refine pop_add .i64 t8_1 1 ?_
  obtain ⟨m_1, hm_1, H⟩ := H
  exact hn_1 _ _ ⟨m_1, hm_1, (w64 (t8_1 + 1)), rfl, H, hL_2⟩

/-! (impl.Graph).lengths -/
def u74 (P : Program) (g0_1 : Sl) (p1_1 : Int) (h : Heap) (K : Value → Heap → Prop) : Prop :=
  ∀ (b_1 : Nat) (h_1 : Heap), h.size ≤ b_1 → Fr (In []) h h_1 → Vars h_1 [(b_1, [(Sl.v g0_1)])] →
  eop P (Instr.buildSlice 36 1 #[(0, (Value.int IntKind.i64 (-1)))]) h_1 fun rv_1 h_2 => ∃ t9_1 : Sl, rv_1 = (Sl.v t9_1) ∧ Vars h_2 [(b_1, [(Sl.v g0_1)])] ∧
  callM P 88 #[(Sl.v t9_1), (VI (g0_1.n : Int))] h_2 fun rv_2 h_3 => ∃ t13_1 : Sl, rv_2 = (Sl.v t13_1) ∧ Vars h_3 [(b_1, [(Sl.v g0_1)])] ∧
  InB t13_1 p1_1 ∧
  Writable h_3 (Sl.at t13_1 p1_1 1) ∧ Vars (hset h_3 (Sl.at t13_1 p1_1 1) (VI 0)) [(b_1, [(Sl.v g0_1)])] ∧
  ∀ h_4 : Heap, h_4 = hset h_3 (Sl.at t13_1 p1_1 1) (VI 0) → Vars h_4 [(b_1, [(Sl.v g0_1)])] →
  eop P (Instr.buildSlice 36 1 #[(0, (VI p1_1))]) h_4 fun rv_3 h_5 => ∃ t18_1 : Sl, rv_3 = (Sl.v t18_1) ∧ Vars h_5 [(b_1, [(Sl.v g0_1)])] ∧
  ∃ J_1 : Nat → Sl → Heap → Prop, (∃ n0 : Nat, J_1 n0 t18_1 h_5) ∧
  ∀ (n_1 : Nat) (list6_1 : Sl) (h_6 : Heap), J_1 n_1 list6_1 h_6 → Vars h_6 [(b_1, [(Sl.v g0_1)])] →
  ((decide (0 < (list6_1.n : Int))) = true →
  InB list6_1 0 ∧
  ∃ t28_1 : Int, hcell h_6 (Sl.at list6_1 0 1) = some (VI t28_1) ∧
  InB g0_1 t28_1 ∧
  ∃ t30_1 : Sl, hcell h_6 (Sl.at g0_1 t28_1 1) = some (Sl.v t30_1) ∧
  ∃ J_2 : Nat → Sl → Int → Heap → Prop, (∃ n0 : Nat, J_2 n0 list6_1 0 h_6) ∧
  ∀ (n_2 : Nat) (list6_2 : Sl) (t32_1 : Int) (h_7 : Heap), J_2 n_2 list6_2 t32_1 h_7 → Vars h_7 [(b_1, [(Sl.v g0_1)])] →
  ((decide (t32_1 < (t30_1.n : Int))) = true →
  InB t30_1 t32_1 ∧
  ∃ t35_1 : Int, hcell h_7 (Sl.at t30_1 t32_1 1) = some (VI t35_1) ∧
  InB t13_1 t35_1 ∧
  ∃ t39_1 : Int, hcell h_7 (Sl.at t13_1 t35_1 1) = some (VI t39_1) ∧
  ((decide (t39_1 < 0)) = true →
  InB list6_2 0 ∧
  ∃ t46_1 : Int, hcell h_7 (Sl.at list6_2 0 1) = some (VI t46_1) ∧
  InB t13_1 t46_1 ∧
  ∃ t48_1 : Int, hcell h_7 (Sl.at t13_1 t46_1 1) = some (VI t48_1) ∧
  InB t13_1 t35_1 ∧
  Writable h_7 (Sl.at t13_1 t35_1 1) ∧ Vars (hset h_7 (Sl.at t13_1 t35_1 1) (VI (w64 (t48_1 + 1)))) [(b_1, [(Sl.v g0_1)])] ∧
  ∀ h_8 : Heap, h_8 = hset h_7 (Sl.at t13_1 t35_1 1) (VI (w64 (t48_1 + 1))) → Vars h_8 [(b_1, [(Sl.v g0_1)])] →
  eop P (Instr.buildSlice 36 1 #[(0, (VI t35_1))]) h_8 fun rv_4 h_9 => ∃ t53_1 : Sl, rv_4 = (Sl.v t53_1) ∧ Vars h_9 [(b_1, [(Sl.v g0_1)])] ∧
  eop P (appS 36 36 36 (Sl.v list6_2) (Sl.v t53_1)) h_9 fun rv_5 h_10 => ∃ t54_1 : Sl, rv_5 = (Sl.v t54_1) ∧ Vars h_10 [(b_1, [(Sl.v g0_1)])] ∧
  ∃ m : Nat, m < n_2 ∧ J_2 m t54_1 (w64 (t32_1 + 1)) h_10) ∧
  ((decide (t39_1 < 0)) = false →
  ∃ m : Nat, m < n_2 ∧ J_2 m list6_2 (w64 (t32_1 + 1)) h_7)) ∧
  ((decide (t32_1 < (t30_1.n : Int))) = false →
  pop P (Instr.sliceAt 36 (Sl.v list6_2) (some (Value.int IntKind.i64 1)) none none) fun rv_6 => ∃ t23_1 : Sl, rv_6 = (Sl.v t23_1) ∧ 
  ∃ m : Nat, m < n_1 ∧ J_1 m t23_1 h_7)) ∧
  ((decide (0 < (list6_1.n : Int))) = false →
  K (Sl.v t13_1) h_6)
theorem v74 (g0_1 : Sl) (p1_1 : Int) (h : Heap) (K : Value → Heap → Prop) (H : u74 Tryz.prog g0_1 p1_1 h K) : callM Tryz.prog 74 #[(Value.agg #[(Sl.v g0_1)]), (VI p1_1)] h K := by
  refine c74 (Value.agg #[(Sl.v g0_1)]) (VI p1_1) h K ?_
  unfold u74 at H
  unfold t74
  have hL : Vars h [] := .nil
  refine eop_box 26 (Value.agg #[(Sl.v g0_1)]) rfl hL (fun b_1 h_1 hb_1 hf_1 hL_1 => ?_)
  have H := H b_1 h_1 (Nat.le_trans (Fr.size (Fr.r (In []) _)) hb_1) (Fr.no' (Fr.r (In []) _) hf_1) hL_1
  refine H.mono fun rv_1 h_2 H => ?_
  obtain ⟨t9_1, rfl, hL_2, H⟩ := H
  refine pop_field 0 fld26_0 b_1 0 ?_
  refine rop_loc one24 hL_2 0 rfl 0 (v := (Sl.v g0_1)) rfl ?_
  refine pop_len g0_1 _ _ sli24 ?_
  refine H.mono fun rv_2 h_3 H => ?_
  obtain ⟨t13_1, rfl, hL_3, H⟩ := H
  obtain ⟨hi_1, H⟩ := H
  refine pop_index sli36 siz3 .i64 t13_1 p1_1 hi_1 ?_
  obtain ⟨hw_1, hL_4, H⟩ := H
  refine uop_cell (v := (VI 0)) siz3 hw_1 rfl (fun h_4 he_1 => ?_)
  rw [← he_1] at hL_4
  have H := H h_4 he_1 hL_4
  refine H.mono fun rv_3 h_5 H => ?_
  obtain ⟨t18_1, rfl, hL_5, H⟩ := H
  obtain ⟨J_1, ⟨n_4, h0_2⟩, HB_2⟩ := H
  refine loop_intro (J := fun (n : Nat) (vs : List Value) (h' : Heap) => ∃ list6_1 : Sl, vs = [(Sl.v list6_1)] ∧ J_1 n list6_1 h' ∧ Vars h' [(b_1, [(Sl.v g0_1)])]) n_4 ⟨t18_1, rfl, h0_2, hL_5⟩ ?_
  intro I_2 mu_2 hI_2 junk_1 tv_3 h_6 hi_2
  obtain ⟨n_1, ⟨list6_1, hv, hJ_1, hL_6⟩, hn_1⟩ := hI_2 _ _ hi_2
  cases hv
  have H := HB_2 n_1 list6_1 h_6 hJ_1 hL_6
  refine pop_len list6_1 _ _ sli36 ?_
  refine pop_gtr .i64 (list6_1.n : Int) 0 ?_
  refine condM_b (fun hb_2 => ?_) (fun hb_2 => ?_)
  rotate_left
  ·have H := H.2 hb_2
   exact H
  have H := H.1 hb_2
  refine pop_field 0 fld26_0 b_1 0 ?_
  refine rop_loc one24 hL_6 0 rfl 0 (v := (Sl.v g0_1)) rfl ?_
  obtain ⟨hi_3, H⟩ := H
  refine pop_index sli36 siz3 .i64 list6_1 0 hi_3 ?_
  obtain ⟨t28_1, hc_6, H⟩ := H
  refine rop_one one3 (VI t28_1) hc_6 ?_
  obtain ⟨hi_4, H⟩ := H
  refine pop_index sli24 siz36 .i64 g0_1 t28_1 hi_4 ?_
  obtain ⟨t30_1, hc_5, H⟩ := H
  refine rop_one one36 (Sl.v t30_1) hc_5 ?_
  refine pop_len t30_1 _ _ sli36 ?_
  obtain ⟨J_2, ⟨n_3, h0_1⟩, HB_1⟩ := H
  refine loop_intro (J := fun (n : Nat) (vs : List Value) (h' : Heap) => ∃ list6_2 : Sl, ∃ t32_1 : Int, vs = [(Sl.v list6_2), (VI t32_1)] ∧ J_2 n list6_2 t32_1 h' ∧ Vars h' [(b_1, [(Sl.v g0_1)])]) n_3 ⟨list6_1, 0, rfl, h0_1, hL_6⟩ ?_
  intro I_1 mu_1 hI_1 junk_2 tv_1 tv_2 h_7 hi_5
  obtain ⟨n_2, ⟨list6_2, t32_1, hv, hJ_2, hL_7⟩, hn_2⟩ := hI_1 _ _ hi_5
  cases hv
  have H := HB_1 n_2 list6_2 t32_1 h_7 hJ_2 hL_7
  refine pop_lss .i64 t32_1 (t30_1.n : Int) ?_
  refine condM_b (fun hb_3 => ?_) (fun hb_3 => ?_)
  rotate_left
  ·have H := H.2 hb_3
   refine H.mono fun rv_6 H => ?_
   obtain ⟨t23_1, rfl, H⟩ := H
   obtain ⟨m_3, hm_3, H⟩ := H
   exact hn_1 _ _ ⟨m_3, hm_3, t23_1, rfl, H, hL_7⟩
  have H := H.1 hb_3
  obtain ⟨hi_6, H⟩ := H
  refine pop_index sli36 siz3 .i64 t30_1 t32_1 hi_6 ?_
  obtain ⟨t35_1, hc_4, H⟩ := H
  refine rop_one one3 (VI t35_1) hc_4 ?_
  obtain ⟨hi_7, H⟩ := H
  refine pop_index sli36 siz3 .i64 t13_1 t35_1 hi_7 ?_
  obtain ⟨t39_1, hc_3, H⟩ := H
  refine rop_one one3 (VI t39_1) hc_3 ?_
  refine pop_lss .i64 t39_1 0 ?_
  refine condM_b (fun hb_4 => ?_) (fun hb_4 => ?_)
  rotate_left
  ·have H := H.2 hb_4
   refine pop_add .i64 t32_1 1 ?_
   obtain ⟨m_2, hm_2, H⟩ := H
   exact hn_2 _ _ ⟨m_2, hm_2, list6_2, (w64 (t32_1 + 1)), rfl, H, hL_7⟩
  have H := H.1 hb_4
  obtain ⟨hi_8, H⟩ := H
  refine pop_index sli36 siz3 .i64 list6_2 0 hi_8 ?_
  obtain ⟨t46_1, hc_2, H⟩ := H
  refine rop_one one3 (VI t46_1) hc_2 ?_
  obtain ⟨hi_9, H⟩ := H
  refine pop_index sli36 siz3 .i64 t13_1 t46_1 hi_9 ?_
  obtain ⟨t48_1, hc_1, H⟩ := H
  refine rop_one one3 (VI t48_1) hc_1 ?_
  refine pop_add .i64 t48_1 1 ?_
  obtain ⟨hi_10, H⟩ := H
  refine pop_index sli36 siz3 .i64 t13_1 t35_1 hi_10 ?_
  obtain ⟨hw_2, hL_8, H⟩ := H
  refine uop_cell (v := (VI (w64 (t48_1 + 1)))) siz3 hw_2 rfl (fun h_8 he_2 => ?_)
  rw [← he_2] at hL_8
  have H := H h_8 he_2 hL_8
  refine H.mono fun rv_4 h_9 H => ?_
  obtain ⟨t53_1, rfl, hL_9, H⟩ := H
  refine H.mono fun rv_5 h_10 H => ?_
  obtain ⟨t54_1, rfl, hL_10, H⟩ := H
  refine pop_add .i64 t32_1 1 ?_
  obtain ⟨m_1, hm_1, H⟩ := H
  exact hn_2 _ _ ⟨m_1, hm_1, t54_1, (w64 (t32_1 + 1)), rfl, H, hL_10⟩

/-! (*spec.l1Cur).next -/
def u75 (P : Program) (b_1 : Nat) (c0_1 : Sl) (c0_2 : Int) (c0_3 : Int) (h : Heap) (K : Value → Heap → Prop) : Prop :=
  ∃ J_1 : Int → Heap → Prop, (((decide (c0_2 < (c0_1.n : Int))) = true →
  InB c0_1 c0_2 ∧
  ∃ t23_1 : Int, hcell h (Sl.at c0_1 c0_2 1) = some (Value.int .u8 t23_1) ∧
  rop P (convert 5 3 (Value.int .u8 t23_1)) h fun rv_1 => ∃ t24_1 : Int, rv_1 = (VI t24_1) ∧ 
  J_1 t24_1 h) ∧
  ((decide (c0_2 < (c0_1.n : Int))) = false →
  J_1 0 h)) ∧
  ∀ (x_1 : Int) (h_1 : Heap), J_1 x_1 h_1 → Vars h_1 [(b_1, [(Sl.v c0_1), (VI c0_2), (Value.int .u64 c0_3)])] →
  ∀ (h_2 : Heap), Fr (In [b_1]) h_1 h_2 → Vars h_2 [(b_1, [(Sl.v c0_1), (VI (w64 (c0_2 + 1))), (Value.int .u64 c0_3)])] →
  rop P (convert 3 57 (VI x_1)) h_2 fun rv_2 => ∃ t39_1 : Int, rv_2 = (Value.int .u64 t39_1) ∧ 
  ((decide ((w64 (c0_2 + 1)) ≤ (c0_1.n : Int))) = true →
  ∀ (h_3 : Heap), Fr (In [b_1]) h_2 h_3 → Vars h_3 [(b_1, [(Sl.v c0_1), (VI (w64 (c0_2 + 1))), (Value.int .u64 (IntKind.wrap .u64 ((IntKind.wrap .u64 ((IntKind.wrap .u64 (c0_3 * 6364136223846793005)) + t39_1)) + 1442695040888963407)))])] →
  K (VI x_1) h_3) ∧
  ((decide ((w64 (c0_2 + 1)) ≤ (c0_1.n : Int))) = false →
  pop P (binA .shr 57 (Value.int .u64 (IntKind.wrap .u64 ((IntKind.wrap .u64 ((IntKind.wrap .u64 (c0_3 * 6364136223846793005)) + t39_1)) + 1442695040888963407))) (Value.int IntKind.u64 40)) fun rv_3 => ∃ t59_1 : Int, rv_3 = (Value.int .u64 t59_1) ∧ 
  pop P (binA .and 57 (Value.int .u64 t59_1) (Value.int IntKind.u64 255)) fun rv_4 => ∃ t60_1 : Int, rv_4 = (Value.int .u64 t60_1) ∧ 
  ∀ (h_3 : Heap), Fr (In [b_1]) h_2 h_3 → Vars h_3 [(b_1, [(Sl.v c0_1), (VI (w64 (c0_2 + 1))), (Value.int .u64 (IntKind.wrap .u64 ((IntKind.wrap .u64 ((IntKind.wrap .u64 (c0_3 * 6364136223846793005)) + t39_1)) + 1442695040888963407)))])] →
  rop P (convert 57 3 (Value.int .u64 t60_1)) h_3 fun rv_5 => ∃ t61_1 : Int, rv_5 = (VI t61_1) ∧ 
  K (VI t61_1) h_3)
theorem v75 (b_1 : Nat) (c0_1 : Sl) (c0_2 : Int) (c0_3 : Int) (h : Heap) (K : Value → Heap → Prop) (hL : Vars h [(b_1, [(Sl.v c0_1), (VI c0_2), (Value.int .u64 c0_3)])]) (H : u75 Tryz.prog b_1 c0_1 c0_2 c0_3 h K) : callM Tryz.prog 75 #[(VP b_1 0)] h K := by
  refine c75 (VP b_1 0) h K ?_
  unfold u75 at H
  unfold t75
  obtain ⟨J_1, H, HB_1⟩ := H
  refine ⟨fun (vs : List Value) (h' : Heap) => ∃ x_1 : Int, vs = [(VI x_1)] ∧ J_1 x_1 h' ∧ Vars h' [(b_1, [(Sl.v c0_1), (VI c0_2), (Value.int .u64 c0_3)])], ?_, ?_⟩
  ·refine pop_nil _ ?_
   refine pop_field 1 fld59_1 b_1 0 ?_
   refine rop_loc one3 hL 0 rfl 1 (v := (VI c0_2)) rfl ?_
   refine pop_nil _ ?_
   refine pop_field 0 fld59_0 b_1 0 ?_
   refine rop_loc one22 hL 0 rfl 0 (v := (Sl.v c0_1)) rfl ?_
   refine pop_len c0_1 _ _ sli22 ?_
   refine pop_lss .i64 c0_2 (c0_1.n : Int) ?_
   refine condM_b (fun hb_1 => ?_) (fun hb_1 => ?_)
   rotate_left
   ·have H := H.2 hb_1
    exact ⟨0, rfl, H, hL⟩
   have H := H.1 hb_1
   refine pop_nil _ ?_
   refine pop_field 0 fld59_0 b_1 0 ?_
   refine rop_loc one22 hL 0 rfl 0 (v := (Sl.v c0_1)) rfl ?_
   refine pop_nil _ ?_
   refine pop_field 1 fld59_1 b_1 0 ?_
   refine rop_loc one3 hL 0 rfl 1 (v := (VI c0_2)) rfl ?_
   obtain ⟨hi_1, H⟩ := H
   refine pop_index sli22 siz5 .i64 c0_1 c0_2 hi_1 ?_
   obtain ⟨t23_1, hc_1, H⟩ := H
   refine rop_one one5 (Value.int .u8 t23_1) hc_1 ?_
   refine H.mono fun rv_1 H => ?_
   obtain ⟨t24_1, rfl, H⟩ := H
   exact ⟨t24_1, rfl, H, hL⟩
  intro junk_1 tv_1 h_1
  rintro ⟨x_1, hv, hJ_1, hL_1⟩
  cases hv
  have H := HB_1 x_1 h_1 hJ_1 hL_1
  refine pop_nil _ ?_
  refine pop_field 1 fld59_1 b_1 0 ?_
  refine rop_loc one3 hL_1 0 rfl 1 (v := (VI c0_2)) rfl ?_
  refine pop_add .i64 c0_2 1 ?_
  refine pop_nil _ ?_
  refine pop_field 1 fld59_1 b_1 0 ?_
  refine uop_loc siz3 hL_1 0 rfl 1 [(VI (w64 (c0_2 + 1)))] rfl rfl rfl (Nat.le_of_ble_eq_true rfl) (L' := [(b_1, [(Sl.v c0_1), (VI (w64 (c0_2 + 1))), (Value.int .u64 c0_3)])]) rfl (fun h_2 hf_1 hL_2 => ?_)
  refine pop_nil _ ?_
  refine pop_field 2 fld59_2 b_1 0 ?_
  refine rop_loc one57 hL_2 0 rfl 2 (v := (Value.int .u64 c0_3)) rfl ?_
  refine pop_mul .u64 c0_3 6364136223846793005 ?_
  have H := H  h_2  (Fr.old (Fr.r (In []) _) hf_1) hL_2
  refine H.mono fun rv_2 H => ?_
  obtain ⟨t39_1, rfl, H⟩ := H
  refine pop_add .u64 (IntKind.wrap .u64 (c0_3 * 6364136223846793005)) t39_1 ?_
  refine pop_add .u64 (IntKind.wrap .u64 ((IntKind.wrap .u64 (c0_3 * 6364136223846793005)) + t39_1)) 1442695040888963407 ?_
  refine pop_nil _ ?_
  refine pop_field 2 fld59_2 b_1 0 ?_
  refine uop_loc siz57 hL_2 0 rfl 2 [(Value.int .u64 (IntKind.wrap .u64 ((IntKind.wrap .u64 ((IntKind.wrap .u64 (c0_3 * 6364136223846793005)) + t39_1)) + 1442695040888963407)))] rfl rfl rfl (Nat.le_of_ble_eq_true rfl) (L' := [(b_1, [(Sl.v c0_1), (VI (w64 (c0_2 + 1))), (Value.int .u64 (IntKind.wrap .u64 ((IntKind.wrap .u64 ((IntKind.wrap .u64 (c0_3 * 6364136223846793005)) + t39_1)) + 1442695040888963407)))])]) rfl (fun h_3 hf_2 hL_3 => ?_)
  refine pop_nil _ ?_
  refine pop_field 1 fld59_1 b_1 0 ?_
  refine rop_loc one3 hL_3 0 rfl 1 (v := (VI (w64 (c0_2 + 1)))) rfl ?_
  refine pop_nil _ ?_
  refine pop_field 0 fld59_0 b_1 0 ?_
  refine rop_loc one22 hL_3 0 rfl 0 (v := (Sl.v c0_1)) rfl ?_
  refine pop_len c0_1 _ _ sli22 ?_
  refine pop_leq .i64 (w64 (c0_2 + 1)) (c0_1.n : Int) ?_
  refine condM_b (fun hb_2 => ?_) (fun hb_2 => ?_)
  ·have H := H.1 hb_2
   have H := H  h_3  (Fr.old (Fr.r (In []) _) hf_2) hL_3
   exact H
  have H := H.2 hb_2
  refine pop_nil _ ?_
  refine pop_field 2 fld59_2 b_1 0 ?_
  refine rop_loc one57 hL_3 0 rfl 2 (v := (Value.int .u64 (IntKind.wrap .u64 ((IntKind.wrap .u64 ((IntKind.wrap .u64 (c0_3 * 6364136223846793005)) + t39_1)) + 1442695040888963407)))) rfl ?_
  refine H.mono fun rv_3 H => ?_
  obtain ⟨t59_1, rfl, H⟩ := H
  refine H.mono fun rv_4 H => ?_
  obtain ⟨t60_1, rfl, H⟩ := H
  have H := H  h_3  (Fr.old (Fr.r (In []) _) hf_2) hL_3
  refine H.mono fun rv_5 H => ?_
  obtain ⟨t61_1, rfl, H⟩ := H
  exact H

/-! slices.Repeat[[]int,int] -/
def u88 (P : Program) (x0_1 : Sl) (count1_1 : Int) (h : Heap) (K : Value → Heap → Prop) : Prop :=
  ∃ J_1 : Heap → Prop, (((decide (count1_1 < 0)) = true →
  pop P (Instr.makeInterface 9 (Value.string { data := #[99, 97, 110, 110, 111, 116, 32, 98, 101, 32, 110, 101, 103, 97, 116, 105, 118, 101] })) fun rv_1 => ∃ t11_1 : Value, rv_1 = t11_1 ∧ 
  False) ∧
  ((decide (count1_1 < 0)) = false →
  J_1  h)) ∧
  ∀ (h_1 : Heap), J_1  h_1 → Vars h_1 [] →
  rop P (convert 3 101 (VI (x0_1.n : Int))) h_1 fun rv_2 => ∃ t15_1 : Int, rv_2 = (Value.int .u64 t15_1) ∧ 
  rop P (convert 3 101 (VI count1_1)) h_1 fun rv_3 => ∃ t17_1 : Int, rv_3 = (Value.int .u64 t17_1) ∧ 
  callM P 103 #[(Value.int .u64 t15_1), (Value.int .u64 t17_1)] h_1 fun rv_4 h_2 => ∃ t18_1 : Int, ∃ t18_2 : Int, rv_4 = (Value.tuple #[(Value.int .u64 t18_1), (Value.int .u64 t18_2)]) ∧ Vars h_2 [] ∧
  ∃ J_2 : Heap → Prop, (((decide (0 < t18_1)) = true →
  pop P (Instr.makeInterface 9 (Value.string { data := #[116, 104, 101, 32, 114, 101, 115, 117, 108, 116, 32, 111, 102, 32, 40, 108, 101, 110, 40, 120, 41, 32, 42, 32, 99, 111, 117, 110, 116, 41, 32, 111, 118, 101, 114, 102, 108, 111, 119, 115] })) fun rv_6 => ∃ t27_2 : Value, rv_6 = t27_2 ∧ 
  False) ∧
  ((decide (0 < t18_1)) = false →
  ((decide (9223372036854775807 < t18_2)) = true →
  pop P (Instr.makeInterface 9 (Value.string { data := #[116, 104, 101, 32, 114, 101, 115, 117, 108, 116, 32, 111, 102, 32, 40, 108, 101, 110, 40, 120, 41, 32, 42, 32, 99, 111, 117, 110, 116, 41, 32, 111, 118, 101, 114, 102, 108, 111, 119, 115] })) fun rv_5 => ∃ t27_1 : Value, rv_5 = t27_1 ∧ 
  False) ∧
  ((decide (9223372036854775807 < t18_2)) = false →
  J_2  h_2))) ∧
  ∀ (h_3 : Heap), J_2  h_3 → Vars h_3 [] →
  rop P (convert 101 3 (Value.int .u64 t18_2)) h_3 fun rv_7 => ∃ t29_1 : Int, rv_7 = (VI t29_1) ∧ 
  eop P (Instr.makeSlice 36 (VI t29_1) (VI t29_1)) h_3 fun rv_8 h_4 => ∃ t30_1 : Sl, rv_8 = (Sl.v t30_1) ∧ Vars h_4 [] ∧
  eop P (Builtin.copy_ #[36, 36] 3 #[(Sl.v t30_1), (Sl.v x0_1)]) h_4 fun rv_9 h_5 => ∃ t33_1 : Int, rv_9 = (VI t33_1) ∧ Vars h_5 [] ∧
  ∃ J_3 : Nat → Int → Heap → Prop, (∃ n0 : Nat, J_3 n0 t33_1 h_5) ∧
  ∀ (n_1 : Nat) (n8_1 : Int) (h_6 : Heap), J_3 n_1 n8_1 h_6 → Vars h_6 [] →
  ((decide (n8_1 < (t30_1.n : Int))) = true →
  pop P (Instr.sliceAt 36 (Sl.v t30_1) (some (VI n8_1)) none none) fun rv_10 => ∃ t41_1 : Sl, rv_10 = (Sl.v t41_1) ∧ 
  pop P (Instr.sliceAt 36 (Sl.v t30_1) none (some (VI n8_1)) none) fun rv_11 => ∃ t44_1 : Sl, rv_11 = (Sl.v t44_1) ∧ 
  eop P (Builtin.copy_ #[36, 36] 3 #[(Sl.v t41_1), (Sl.v t44_1)]) h_6 fun rv_12 h_7 => ∃ t45_1 : Int, rv_12 = (VI t45_1) ∧ Vars h_7 [] ∧
  ∃ m : Nat, m < n_1 ∧ J_3 m (w64 (n8_1 + t45_1)) h_7) ∧
  ((decide (n8_1 < (t30_1.n : Int))) = false →
  K (Sl.v t30_1) h_6)
theorem v88 (x0_1 : Sl) (count1_1 : Int) (h : Heap) (K : Value → Heap → Prop) (H : u88 Tryz.prog x0_1 count1_1 h K) : callM Tryz.prog 88 #[(Sl.v x0_1), (VI count1_1)] h K := by
  refine c88 (Sl.v x0_1) (VI count1_1) h K ?_
  unfold u88 at H
  unfold t88
  have hL : Vars h [] := .nil
  obtain ⟨J_1, H, HB_3⟩ := H
  refine ⟨fun (vs : List Value) (h' : Heap) => vs = [] ∧ J_1  h' ∧ Vars h' [], ?_, ?_⟩
  ·refine pop_lss .i64 count1_1 0 ?_
   refine condM_b (fun hb_1 => ?_) (fun hb_1 => ?_)
   rotate_left
   ·have H := H.2 hb_1
    exact ⟨rfl, H, hL⟩
   have H := H.1 hb_1
   refine H.mono fun rv_1 H => ?_
   obtain ⟨t11_1, rfl, H⟩ := H
   exact H.elim
  intro junk_1  h_1
  rintro ⟨hv, hJ_1, hL_1⟩
  have H := HB_3  h_1 hJ_1 hL_1
  refine pop_len x0_1 _ _ sli36 ?_
  refine H.mono fun rv_2 H => ?_
  obtain ⟨t15_1, rfl, H⟩ := H
  refine H.mono fun rv_3 H => ?_
  obtain ⟨t17_1, rfl, H⟩ := H
  refine H.mono fun rv_4 h_2 H => ?_
  obtain ⟨t18_1, t18_2, rfl, hL_2, H⟩ := H
  refine pop_ext (v := (Value.int .u64 t18_1)) rfl ?_
  refine pop_ext (v := (Value.int .u64 t18_2)) rfl ?_
  obtain ⟨J_2, H, HB_2⟩ := H
  refine ⟨fun (vs : List Value) (h' : Heap) => vs = [] ∧ J_2  h' ∧ Vars h' [], ?_, ?_⟩
  ·refine pop_gtr .u64 t18_1 0 ?_
   refine guardM_sf (fun hb_2 => ?_) (fun hb_2 => ?_)
   rotate_left
   ·have H := H.1 hb_2
    refine guardM_n' hb_2 (by decide) ?_
    refine pop_pickt' hb_2 ?_
    refine condM_t ?_
    refine H.mono fun rv_6 H => ?_
    obtain ⟨t27_2, rfl, H⟩ := H
    exact H.elim
   have H := H.2 hb_2
   refine guardM_y' hb_2 ?_
   refine pop_gtr .u64 t18_2 9223372036854775807 ?_
   refine pop_pickf' hb_2 ?_
   refine condM_b (fun hb_3 => ?_) (fun hb_3 => ?_)
   rotate_left
   ·have H := H.2 hb_3
    exact ⟨rfl, H, hL_2⟩
   have H := H.1 hb_3
   refine H.mono fun rv_5 H => ?_
   obtain ⟨t27_1, rfl, H⟩ := H
   exact H.elim
  intro junk_2  h_3
  rintro ⟨hv, hJ_2, hL_3⟩
  have H := HB_2  h_3 hJ_2 hL_3
  refine H.mono fun rv_7 H => ?_
  obtain ⟨t29_1, rfl, H⟩ := H
  refine H.mono fun rv_8 h_4 H => ?_
  obtain ⟨t30_1, rfl, hL_4, H⟩ := H
  refine H.mono fun rv_9 h_5 H => ?_
  obtain ⟨t33_1, rfl, hL_5, H⟩ := H
  obtain ⟨J_3, ⟨n_2, h0_1⟩, HB_1⟩ := H
  refine loop_intro (J := fun (n : Nat) (vs : List Value) (h' : Heap) => ∃ n8_1 : Int, vs = [(VI n8_1)] ∧ J_3 n n8_1 h' ∧ Vars h' []) n_2 ⟨t33_1, rfl, h0_1, hL_5⟩ ?_
  intro I_1 mu_1 hI_1 junk_3 tv_1 h_6 hi_1
  obtain ⟨n_1, ⟨n8_1, hv, hJ_3, hL_6⟩, hn_1⟩ := hI_1 _ _ hi_1
  cases hv
  have H := HB_1 n_1 n8_1 h_6 hJ_3 hL_6
  refine pop_len t30_1 _ _ sli36 ?_
  refine pop_lss .i64 n8_1 (t30_1.n : Int) ?_
  refine condM_b (fun hb_4 => ?_) (fun hb_4 => ?_)
  rotate_left
  ·have H := H.2 hb_4
   exact H
  have H := H.1 hb_4
  refine H.mono fun rv_10 H => ?_
  obtain ⟨t41_1, rfl, H⟩ := H
  refine H.mono fun rv_11 H => ?_
  obtain ⟨t44_1, rfl, H⟩ := H
  refine H.mono fun rv_12 h_7 H => ?_
  obtain ⟨t45_1, rfl, hL_7, H⟩ := H
  refine pop_add .i64 n8_1 t45_1 ?_
  obtain ⟨m_1, hm_1, H⟩ := H
  exact hn_1 _ _ ⟨m_1, hm_1, (w64 (n8_1 + t45_1)), rfl, H, hL_7⟩

/-! math/bits.Mul -/
def u103 (P : Program) (x0_1 : Int) (y1_1 : Int) (h : Heap) (K : Value → Heap → Prop) : Prop :=
  callM P 114 #[(Value.int .u64 x0_1), (Value.int .u64 y1_1)] h fun rv_1 h_1 => ∃ t25_1 : Int, ∃ t25_2 : Int, rv_1 = (Value.tuple #[(Value.int .u64 t25_1), (Value.int .u64 t25_2)]) ∧ Vars h_1 [] ∧
  K (Value.tuple #[(Value.int .u64 t25_1), (Value.int .u64 t25_2)]) h_1
theorem v103 (x0_1 : Int) (y1_1 : Int) (h : Heap) (K : Value → Heap → Prop) (H : u103 Tryz.prog x0_1 y1_1 h K) : callM Tryz.prog 103 #[(Value.int .u64 x0_1), (Value.int .u64 y1_1)] h K := by
  refine c103 (Value.int .u64 x0_1) (Value.int .u64 y1_1) h K ?_
  unfold u103 at H
  unfold t103
  have hL : Vars h [] := .nil
  refine condM_f ?_
  refine H.mono fun rv_1 h_1 H => ?_
  obtain ⟨t25_1, t25_2, rfl, hL_1, H⟩ := H
  refine pop_ext (v := (Value.int .u64 t25_1)) rfl ?_
  refine pop_ext (v := (Value.int .u64 t25_2)) rfl ?_
  exact H

/-! math/bits.Mul32 -/
def u113 (P : Program) (x0_1 : Int) (y1_1 : Int) (h : Heap) (K : Value → Heap → Prop) : Prop :=
  rop P (convert 122 57 (Value.int .u32 x0_1)) h fun rv_1 => ∃ t8_1 : Int, rv_1 = (Value.int .u64 t8_1) ∧ 
  rop P (convert 122 57 (Value.int .u32 y1_1)) h fun rv_2 => ∃ t10_1 : Int, rv_2 = (Value.int .u64 t10_1) ∧ 
  pop P (binA .shr 57 (Value.int .u64 (IntKind.wrap .u64 (t8_1 * t10_1))) (Value.int IntKind.u64 32)) fun rv_3 => ∃ t13_1 : Int, rv_3 = (Value.int .u64 t13_1) ∧ 
  rop P (convert 57 122 (Value.int .u64 t13_1)) h fun rv_4 => ∃ t14_1 : Int, rv_4 = (Value.int .u32 t14_1) ∧ 
  rop P (convert 57 122 (Value.int .u64 (IntKind.wrap .u64 (t8_1 * t10_1)))) h fun rv_5 => ∃ t16_1 : Int, rv_5 = (Value.int .u32 t16_1) ∧ 
  K (Value.tuple #[(Value.int .u32 t14_1), (Value.int .u32 t16_1)]) h
theorem v113 (x0_1 : Int) (y1_1 : Int) (h : Heap) (K : Value → Heap → Prop) (H : u113 Tryz.prog x0_1 y1_1 h K) : callM Tryz.prog 113 #[(Value.int .u32 x0_1), (Value.int .u32 y1_1)] h K := by
  refine c113 (Value.int .u32 x0_1) (Value.int .u32 y1_1) h K ?_
  unfold u113 at H
  unfold t113
  have hL : Vars h [] := .nil
  refine H.mono fun rv_1 H => ?_
  obtain ⟨t8_1, rfl, H⟩ := H
  refine H.mono fun rv_2 H => ?_
  obtain ⟨t10_1, rfl, H⟩ := H
  refine pop_mul .u64 t8_1 t10_1 ?_
  refine H.mono fun rv_3 H => ?_
  obtain ⟨t13_1, rfl, H⟩ := H
  refine H.mono fun rv_4 H => ?_
  obtain ⟨t14_1, rfl, H⟩ := H
  refine H.mono fun rv_5 H => ?_
  obtain ⟨t16_1, rfl, H⟩ := H
  exact H

/-! math/bits.Mul64 -/
def u114 (P : Program) (x0_1 : Int) (y1_1 : Int) (h : Heap) (K : Value → Heap → Prop) : Prop :=
  pop P (binA .and 57 (Value.int .u64 x0_1) (Value.int IntKind.u64 4294967295)) fun rv_1 => ∃ t15_1 : Int, rv_1 = (Value.int .u64 t15_1) ∧ 
  pop P (binA .shr 57 (Value.int .u64 x0_1) (Value.int IntKind.u64 32)) fun rv_2 => ∃ t17_1 : Int, rv_2 = (Value.int .u64 t17_1) ∧ 
  pop P (binA .and 57 (Value.int .u64 y1_1) (Value.int IntKind.u64 4294967295)) fun rv_3 => ∃ t19_1 : Int, rv_3 = (Value.int .u64 t19_1) ∧ 
  pop P (binA .shr 57 (Value.int .u64 y1_1) (Value.int IntKind.u64 32)) fun rv_4 => ∃ t21_1 : Int, rv_4 = (Value.int .u64 t21_1) ∧ 
  pop P (binA .shr 57 (Value.int .u64 (IntKind.wrap .u64 (t15_1 * t19_1))) (Value.int IntKind.u64 32)) fun rv_5 => ∃ t29_1 : Int, rv_5 = (Value.int .u64 t29_1) ∧ 
  pop P (binA .and 57 (Value.int .u64 (IntKind.wrap .u64 ((IntKind.wrap .u64 (t17_1 * t19_1)) + t29_1))) (Value.int IntKind.u64 4294967295)) fun rv_6 => ∃ t32_1 : Int, rv_6 = (Value.int .u64 t32_1) ∧ 
  pop P (binA .shr 57 (Value.int .u64 (IntKind.wrap .u64 ((IntKind.wrap .u64 (t17_1 * t19_1)) + t29_1))) (Value.int IntKind.u64 32)) fun rv_7 => ∃ t34_1 : Int, rv_7 = (Value.int .u64 t34_1) ∧ 
  pop P (binA .shr 57 (Value.int .u64 (IntKind.wrap .u64 (t32_1 + (IntKind.wrap .u64 (t15_1 * t21_1))))) (Value.int IntKind.u64 32)) fun rv_8 => ∃ t46_1 : Int, rv_8 = (Value.int .u64 t46_1) ∧ 
  K (Value.tuple #[(Value.int .u64 (IntKind.wrap .u64 ((IntKind.wrap .u64 ((IntKind.wrap .u64 (t17_1 * t21_1)) + t34_1)) + t46_1))), (Value.int .u64 (IntKind.wrap .u64 (x0_1 * y1_1)))]) h
theorem v114 (x0_1 : Int) (y1_1 : Int) (h : Heap) (K : Value → Heap → Prop) (H : u114 Tryz.prog x0_1 y1_1 h K) : callM Tryz.prog 114 #[(Value.int .u64 x0_1), (Value.int .u64 y1_1)] h K := by
  refine c114 (Value.int .u64 x0_1) (Value.int .u64 y1_1) h K ?_
  unfold u114 at H
  unfold t114
  have hL : Vars h [] := .nil
  refine H.mono fun rv_1 H => ?_
  obtain ⟨t15_1, rfl, H⟩ := H
  refine H.mono fun rv_2 H => ?_
  obtain ⟨t17_1, rfl, H⟩ := H
  refine H.mono fun rv_3 H => ?_
  obtain ⟨t19_1, rfl, H⟩ := H
  refine H.mono fun rv_4 H => ?_
  obtain ⟨t21_1, rfl, H⟩ := H
  refine pop_mul .u64 t15_1 t19_1 ?_
  refine pop_mul .u64 t17_1 t19_1 ?_
  refine H.mono fun rv_5 H => ?_
  obtain ⟨t29_1, rfl, H⟩ := H
  refine pop_add .u64 (IntKind.wrap .u64 (t17_1 * t19_1)) t29_1 ?_
  refine H.mono fun rv_6 H => ?_
  obtain ⟨t32_1, rfl, H⟩ := H
  refine H.mono fun rv_7 H => ?_
  obtain ⟨t34_1, rfl, H⟩ := H
  refine pop_mul .u64 t15_1 t21_1 ?_
  refine pop_add .u64 t32_1 (IntKind.wrap .u64 (t15_1 * t21_1)) ?_
  refine pop_mul .u64 t17_1 t21_1 ?_
  refine pop_add .u64 (IntKind.wrap .u64 (t17_1 * t21_1)) t34_1 ?_
  refine H.mono fun rv_8 H => ?_
  obtain ⟨t46_1, rfl, H⟩ := H
  refine pop_add .u64 (IntKind.wrap .u64 ((IntKind.wrap .u64 (t17_1 * t21_1)) + t34_1)) t46_1 ?_
  refine pop_mul .u64 x0_1 y1_1 ?_
  exact H

end Go.Proofs.YtgiamamfnpklkaaGreatDoor
