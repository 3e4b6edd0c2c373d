/-
  What each function that the law 'FnExactStacksText' comes to asks of the heap, named; tied to the loaded program by the kernel. Written by a program.
-/
import Derived.Test.YtkjkfjkapbpgiaaDoorProg
import Derived.Test.YtkjkfjkapbpgiaaDoorM1
set_option linter.unusedVariables false
namespace Go.Proofs.YtkjkfjkapbpgiaaDoor
open Go Go.Mx
theorem mixed : Tryd.prog.follows .mixedOrders = true := by kernel_rfl
/-! laws.FnExactStacksText -/
def t3 (P : Program) (aS0_1 : Value) (h : Heap) (K : Value → Heap → Prop) : Prop :=
  eop P (Instr.box 24 aS0_1) h fun aS1_1 h_1 =>
  rop P (Instr.loadAt 24 aS1_1) h_1 fun t9_1 =>
  callM P 7 #[t9_1, (Value.int IntKind.i64 1048576)] h_1 fun t11_1 h_2 =>
  pop P (binA .lss 3 t11_1 (Value.int IntKind.i64 0)) fun t13_1 =>
  condM t13_1
  (K (Value.bool true) h_2)
  (rop P (Instr.loadAt 24 aS1_1) h_2 fun t15_1 =>
  callM P 9 #[t15_1] h_2 fun t16_1 h_3 =>
  callM P 8 #[t16_1] h_3 fun t17_1 h_4 =>
  pop P (Instr.extract t17_1 0) fun t18_1 =>
  pop P (Instr.extract t17_1 1) fun t19_1 =>
  rop P (Instr.loadAt 24 aS1_1) h_4 fun t20_1 =>
  callM P 9 #[t20_1] h_4 fun t21_1 h_5 =>
  eop P (Instr.alloc 28 true (.tuple #[])) h_5 fun x06_1 h_6 =>
  uop P (Instr.storeAt 28 x06_1 t21_1) h_6 fun u_1 h_7 =>
  rop P (Instr.loadAt 28 x06_1) h_7 fun t23_1 =>
  callM P 10 #[t23_1] h_7 fun t24_1 h_8 =>
  pop P (Instr.extract t24_1 0) fun t25_1 =>
  pop P (Instr.extract t24_1 1) fun t26_1 =>
  pop P (binE .neq 9 (.tmp 27) (.tmp 28) t25_1 t18_1) fun t29_1 =>
  guardM (asG t29_1 false) false (fun k_1 => k_1 t26_1 h_8) h_8 fun t31_1 h_9 =>
  guardM (asG t29_1 false) false (fun k_2 => k_2 t19_1 h_9) h_9 fun t32_1 h_10 =>
  guardM (asG t29_1 false) false (fun k_3 => pop P (binE .neq 4 (.tmp 31) (.tmp 32) t31_1 t32_1) fun t33_1 =>
  k_3 t33_1 h_10) h_10 fun t33_2 h_11 =>
  pop P (pickS t29_1 (Value.bool true) t33_2) fun t34_1 =>
  condM t34_1
  (K (Value.bool false) h_11)
  (rop P (Instr.loadAt 28 x06_1) h_11 fun t35_1 =>
  rop P (Instr.loadAt 24 aS1_1) h_11 fun t36_1 =>
  callM P 9 #[t36_1] h_11 fun t37_1 h_12 =>
  (∀ w : World, w.heap = h_12 → (Instr.loadAt 28 x06_1).run P w = .ok t35_1 w) ∧
  callM P 11 #[t35_1, t37_1] h_12 fun t38_1 h_13 =>
  pop P (Op.unary .not t38_1) fun t39_1 =>
  condM t39_1
  (K (Value.bool false) h_13)
  (K (Value.bool true) h_13)))
theorem e3 (aS0_1 : Value) (h : Heap) (K : Value → Heap → Prop) : wpA Tryd.prog 40 (anOf []) (bodyOf Tryd.f3) 1 (fun A h => resA Tryd.prog A h K [.tmp 2]) (fun _ _ _ => False) (fun A h => resA Tryd.prog A h K [.tmp 2]) (aargs [aS0_1] 0) h = t3 Tryd.prog aS0_1 h K := by kernel_rfl
theorem c3 (aS0_1 : Value) (h : Heap) (K : Value → Heap → Prop) (H : t3 Tryd.prog aS0_1 h K) : callM Tryd.prog 3 #[aS0_1] h K :=
  callM_of_wpA mixed (fn := Tryd.f3) Tryd.func3 (c := bodyOf Tryd.f3) rfl (of_decide_eq_true (by kernel_rfl)) (anOf []) 39 40 (by kernel_rfl) rfl [.tmp 2] (by kernel_rfl) (args := [aS0_1]) (by rw [e3]; exact H)

/-! laws.szStacks -/
def t7 (P : Program) (a0_1 : Value) (left1_1 : Value) (h : Heap) (K : Value → Heap → Prop) : Prop :=
  eop P (Instr.box 24 a0_1) h fun a2_1 h_1 =>
  pop P (Instr.fieldAt 24 a2_1 0) fun t5_1 =>
  rop P (Instr.loadAt 22 t5_1) h_1 fun t6_1 =>
  callM P 50 #[t6_1, left1_1] h_1 fun t8_1 h_2 =>
  pop P (binA .lss 3 t8_1 (Value.int IntKind.i64 0)) fun t10_1 =>
  condM t10_1
  (K (Value.int IntKind.i64 (-1)) h_2)
  (K t8_1 h_2)
theorem e7 (a0_1 : Value) (left1_1 : Value) (h : Heap) (K : Value → Heap → Prop) : wpA Tryd.prog 12 (anOf []) (bodyOf Tryd.f7) 1 (fun A h => resA Tryd.prog A h K [.tmp 4]) (fun _ _ _ => False) (fun A h => resA Tryd.prog A h K [.tmp 4]) (aargs [a0_1, left1_1] 0) h = t7 Tryd.prog a0_1 left1_1 h K := by kernel_rfl
theorem c7 (a0_1 : Value) (left1_1 : Value) (h : Heap) (K : Value → Heap → Prop) (H : t7 Tryd.prog a0_1 left1_1 h K) : callM Tryd.prog 7 #[a0_1, left1_1] h K :=
  callM_of_wpA mixed (fn := Tryd.f7) Tryd.func7 (c := bodyOf Tryd.f7) rfl (of_decide_eq_true (by kernel_rfl)) (anOf []) 10 12 (by kernel_rfl) rfl [.tmp 4] (by kernel_rfl) (args := [a0_1, left1_1]) (by rw [e7]; exact H)

/-! spec.StacksText -/
def t8 (P : Program) (s0_1 : Value) (h : Heap) (K : Value → Heap → Prop) : Prop :=
  eop P (Instr.box 28 s0_1) h fun s1_1 h_1 =>
  pop P (Instr.fieldAt 28 s1_1 0) fun t10_1 =>
  rop P (Instr.loadAt 22 t10_1) h_1 fun t11_1 =>
  pop P (lenS 22 3 t11_1) fun t12_1 =>
  callM P 51 #[t12_1, (Value.int IntKind.i64 1), (Value.int IntKind.i64 8)] h_1 fun t13_1 h_2 =>
  pop P (Op.unary .not t13_1) fun t14_1 =>
  condM t14_1
  (K (.tuple #[(Value.string { data := #[] }), (Value.bool false)]) h_2)
  (pop P (Instr.fieldAt 28 s1_1 0) fun t15_1 =>
  rop P (Instr.loadAt 22 t15_1) h_2 fun t16_1 =>
  pop P (lenS 22 3 t16_1) fun t17_1 =>
  ∃ (I_1 : List Value → Heap → Prop) (μ_1 : List Value → Heap → Nat), I_1 [(Value.string { data := #[] }), (Value.bool false), (Value.int IntKind.i64 0)] h_2 ∧
  ∀ (junk_1 : Nat → Value) (out4_1 : Value) (empty5_1 : Value) (t18_1 : Value) (h_3 : Heap), I_1 [out4_1, empty5_1, t18_1] h_3 →
  pop P (binA .lss 3 t18_1 t17_1) fun t19_1 =>
  condM t19_1
  (pop P (Instr.indexAt 22 t16_1 t18_1) fun t21_1 =>
  rop P (Instr.loadAt 34 t21_1) h_3 fun t22_1 =>
  pop P (lenS 34 3 t22_1) fun t24_1 =>
  pop P (binA .gtr 3 t24_1 (Value.int IntKind.i64 12)) fun t25_1 =>
  guardM (asG t25_1 false) false (fun k_1 => k_1 t22_1 h_3) h_3 fun t27_1 h_4 =>
  guardM (asG t25_1 false) false (fun k_2 => callM P 52 #[t27_1, (Value.int IntKind.i64 0), (Value.int IntKind.i64 4)] h_4 fun t28_1 h_5 =>
  k_2 t28_1 h_5) h_4 fun t28_2 h_6 =>
  guardM (asG t25_1 false) false (fun k_3 => pop P (Op.unary .not t28_2) fun t29_1 =>
  k_3 t29_1 h_6) h_6 fun t29_2 h_7 =>
  pop P (pickS t25_1 (Value.bool true) t29_2) fun t30_1 =>
  condM t30_1
  (K (.tuple #[(Value.string { data := #[] }), (Value.bool false)]) h_7)
  (∃ J_1 : List Value → Heap → Prop, (pop P (binA .gtr 3 t18_1 (Value.int IntKind.i64 0)) fun t32_1 =>
  condM t32_1
  (pop P (binA .add 9 out4_1 (Value.string { data := #[59] })) fun t34_1 =>
  J_1 [t34_1] h_7)
  (J_1 [out4_1] h_7)) ∧
  ∀ (junk_2 : Nat → Value) (out4_2 : Value) (h_8 : Heap), J_1 [out4_2] h_8 →
  ∃ J_2 : List Value → Heap → Prop, (pop P (lenS 34 3 t22_1) fun t36_1 =>
  pop P (binE .eql 3 (.tmp 36) (.const (Value.int IntKind.i64 0)) t36_1 (Value.int IntKind.i64 0)) fun t37_1 =>
  condM t37_1
  (pop P (binA .add 9 out4_2 (Value.string { data := #[45] })) fun t39_1 =>
  J_2 [t39_1, (Value.bool true)] h_8)
  (J_2 [out4_2, empty5_1] h_8)) ∧
  ∀ (junk_3 : Nat → Value) (out4_3 : Value) (empty5_2 : Value) (h_9 : Heap), J_2 [out4_3, empty5_2] h_9 →
  pop P (lenS 34 3 t22_1) fun t41_1 =>
  ∃ (I_2 : List Value → Heap → Prop) (μ_2 : List Value → Heap → Nat), I_2 [out4_3, (Value.int IntKind.i64 0)] h_9 ∧
  ∀ (junk_4 : Nat → Value) (out4_4 : Value) (t42_1 : Value) (h_10 : Heap), I_2 [out4_4, t42_1] h_10 →
  pop P (binA .lss 3 t42_1 t41_1) fun t43_1 =>
  condM t43_1
  (pop P (Instr.indexAt 34 t22_1 t42_1) fun t45_1 =>
  rop P (Instr.loadAt 3 t45_1) h_10 fun t46_1 =>
  ∃ J_3 : List Value → Heap → Prop, (pop P (binA .gtr 3 t42_1 (Value.int IntKind.i64 0)) fun t48_1 =>
  condM t48_1
  (pop P (binA .add 9 out4_4 (Value.string { data := #[44] })) fun t50_1 =>
  J_3 [t50_1] h_10)
  (J_3 [out4_4] h_10)) ∧
  ∀ (junk_5 : Nat → Value) (out4_5 : Value) (h_11 : Heap), J_3 [out4_5] h_11 →
  callM P 53 #[t46_1] h_11 fun t53_1 h_12 =>
  pop P (binA .add 9 out4_5 t53_1) fun t54_1 =>
  pop P (binA .add 3 t42_1 (Value.int IntKind.i64 1)) fun t55_1 =>
  I_2 [t54_1, t55_1] h_12 ∧ μ_2 [t54_1, t55_1] h_12 < μ_2 [out4_4, t42_1] h_10)
  (pop P (binA .add 3 t18_1 (Value.int IntKind.i64 1)) fun t56_1 =>
  I_1 [out4_4, empty5_2, t56_1] h_10 ∧ μ_1 [out4_4, empty5_2, t56_1] h_10 < μ_1 [out4_1, empty5_1, t18_1] h_3)))
  (pop P (Op.unary .not empty5_1) fun t58_1 =>
  condM t58_1
  (K (.tuple #[(Value.string { data := #[] }), (Value.bool false)]) h_3)
  (K (.tuple #[out4_1, (Value.bool true)]) h_3)))
theorem e8 (s0_1 : Value) (h : Heap) (K : Value → Heap → Prop) : wpA Tryd.prog 60 (anOf [(122, [4, 5, 18]), (15667, [4]), (31335, [4, 5]), (250686, [4, 42]), (16043929, [4])]) (bodyOf Tryd.f8) 1 (fun A h => resA Tryd.prog A h K [.tmp 2, .tmp 3]) (fun _ _ _ => False) (fun A h => resA Tryd.prog A h K [.tmp 2, .tmp 3]) (aargs [s0_1] 0) h = t8 Tryd.prog s0_1 h K := by kernel_rfl
theorem c8 (s0_1 : Value) (h : Heap) (K : Value → Heap → Prop) (H : t8 Tryd.prog s0_1 h K) : callM Tryd.prog 8 #[s0_1] h K :=
  callM_of_wpA mixed (fn := Tryd.f8) Tryd.func8 (c := bodyOf Tryd.f8) rfl (of_decide_eq_true (by kernel_rfl)) (anOf [(122, [4, 5, 18]), (15667, [4]), (31335, [4, 5]), (250686, [4, 42]), (16043929, [4])]) 59 60 (by kernel_rfl) rfl [.tmp 2, .tmp 3] (by kernel_rfl) (args := [s0_1]) (by rw [e8]; exact H)

/-! laws.toStacks -/
def t9 (P : Program) (a0_1 : Value) (h : Heap) (K : Value → Heap → Prop) : Prop :=
  eop P (Instr.box 24 a0_1) h fun a1_1 h_1 =>
  eop P (Instr.alloc 28 true (.tuple #[])) h_1 fun t2_1 h_2 =>
  eop P (Instr.alloc 28 true (.tuple #[])) h_2 fun out3_1 h_3 =>
  pop P (Instr.fieldAt 24 a1_1 0) fun t4_1 =>
  rop P (Instr.loadAt 22 t4_1) h_3 fun t5_1 =>
  callM P 54 #[t5_1] h_3 fun t6_1 h_4 =>
  pop P (Instr.fieldAt 28 out3_1 0) fun t7_1 =>
  uop P (Instr.storeAt 22 t7_1 t6_1) h_4 fun u_1 h_5 =>
  rop P (Instr.loadAt 28 out3_1) h_5 fun t8_1 =>
  uop P (Instr.storeAt 28 t2_1 t8_1) h_5 fun u_2 h_6 =>
  rop P (Instr.loadAt 28 t2_1) h_6 fun r_1 =>
  K r_1 h_6
theorem e9 (a0_1 : Value) (h : Heap) (K : Value → Heap → Prop) : wpA Tryd.prog 9 (anOf []) (bodyOf Tryd.f9) 1 (fun A h => resA Tryd.prog A h K [.cell 2 28]) (fun _ _ _ => False) (fun A h => resA Tryd.prog A h K [.cell 2 28]) (aargs [a0_1] 0) h = t9 Tryd.prog a0_1 h K := by kernel_rfl
theorem c9 (a0_1 : Value) (h : Heap) (K : Value → Heap → Prop) (H : t9 Tryd.prog a0_1 h K) : callM Tryd.prog 9 #[a0_1] h K :=
  callM_of_wpA mixed (fn := Tryd.f9) Tryd.func9 (c := bodyOf Tryd.f9) rfl (of_decide_eq_true (by kernel_rfl)) (anOf []) 8 9 (by kernel_rfl) rfl [.cell 2 28] (by kernel_rfl) (args := [a0_1]) (by rw [e9]; exact H)

/-! impl.StacksText -/
def t10 (P : Program) (s0_1 : Value) (h : Heap) (K : Value → Heap → Prop) : Prop :=
  eop P (Instr.box 28 s0_1) h fun s1_1 h_1 =>
  pop P (Instr.fieldAt 28 s1_1 0) fun t8_1 =>
  rop P (Instr.loadAt 22 t8_1) h_1 fun t9_1 =>
  pop P (lenS 22 3 t9_1) fun t10_1 =>
  callM P 55 #[t10_1, (Value.int IntKind.i64 1), (Value.int IntKind.i64 8)] h_1 fun t11_1 h_2 =>
  pop P (Op.unary .not t11_1) fun t12_1 =>
  condM t12_1
  (K (.tuple #[(Value.string { data := #[] }), (Value.bool false)]) h_2)
  (eop P (Instr.buildSlice 79 0 #[]) h_2 fun t13_1 h_3 =>
  pop P (Instr.fieldAt 28 s1_1 0) fun t14_1 =>
  rop P (Instr.loadAt 22 t14_1) h_3 fun t15_1 =>
  pop P (lenS 22 3 t15_1) fun t16_1 =>
  ∃ (I_1 : List Value → Heap → Prop) (μ_1 : List Value → Heap → Nat), I_1 [(Value.bool false), t13_1, (Value.int IntKind.i64 0)] h_3 ∧
  ∀ (junk_1 : Nat → Value) (empty4_1 : Value) (words5_1 : Value) (t17_1 : Value) (h_4 : Heap), I_1 [empty4_1, words5_1, t17_1] h_4 →
  pop P (binA .lss 3 t17_1 t16_1) fun t18_1 =>
  condM t18_1
  (pop P (Instr.indexAt 22 t15_1 t17_1) fun t19_1 =>
  rop P (Instr.loadAt 34 t19_1) h_4 fun t20_1 =>
  pop P (lenS 34 3 t20_1) fun t22_1 =>
  pop P (binA .gtr 3 t22_1 (Value.int IntKind.i64 12)) fun t23_1 =>
  guardM (asG t23_1 false) false (fun k_1 => k_1 t20_1 h_4) h_4 fun t25_1 h_5 =>
  guardM (asG t23_1 false) false (fun k_2 => callM P 56 #[t25_1, (.func (.func 57) #[] #[])] h_5 fun t26_1 h_6 =>
  k_2 t26_1 h_6) h_5 fun t26_2 h_7 =>
  pop P (pickS t23_1 (Value.bool true) t26_2) fun t27_1 =>
  condM t27_1
  (K (.tuple #[(Value.string { data := #[] }), (Value.bool false)]) h_7)
  (guardM (asG empty4_1 false) false (fun k_3 => k_3 t20_1 h_7) h_7 fun t30_1 h_8 =>
  guardM (asG empty4_1 false) false (fun k_4 => pop P (lenS 34 3 t30_1) fun t31_1 =>
  k_4 t31_1 h_8) h_8 fun t31_2 h_9 =>
  guardM (asG empty4_1 false) false (fun k_5 => pop P (binE .eql 3 (.tmp 31) (.const (Value.int IntKind.i64 0)) t31_2 (Value.int IntKind.i64 0)) fun t32_1 =>
  k_5 t32_1 h_9) h_9 fun t32_2 h_10 =>
  pop P (pickS empty4_1 (Value.bool true) t32_2) fun t33_1 =>
  callM P 58 #[t20_1] h_10 fun t36_1 h_11 =>
  eop P (Instr.buildSlice 79 1 #[(0, t36_1)]) h_11 fun t37_1 h_12 =>
  eop P (appS 79 79 79 words5_1 t37_1) h_12 fun t38_1 h_13 =>
  pop P (binA .add 3 t17_1 (Value.int IntKind.i64 1)) fun t39_1 =>
  I_1 [t33_1, t38_1, t39_1] h_13 ∧ μ_1 [t33_1, t38_1, t39_1] h_13 < μ_1 [empty4_1, words5_1, t17_1] h_4))
  (pop P (Op.unary .not empty4_1) fun t41_1 =>
  condM t41_1
  (K (.tuple #[(Value.string { data := #[] }), (Value.bool false)]) h_4)
  (callM P 59 #[words5_1, (Value.string { data := #[59] })] h_4 fun t43_1 h_14 =>
  K (.tuple #[t43_1, (Value.bool true)]) h_14)))
theorem e10 (s0_1 : Value) (h : Heap) (K : Value → Heap → Prop) : wpA Tryd.prog 44 (anOf [(122, [4, 5, 17])]) (bodyOf Tryd.f10) 1 (fun A h => resA Tryd.prog A h K [.tmp 2, .tmp 3]) (fun _ _ _ => False) (fun A h => resA Tryd.prog A h K [.tmp 2, .tmp 3]) (aargs [s0_1] 0) h = t10 Tryd.prog s0_1 h K := by kernel_rfl
theorem c10 (s0_1 : Value) (h : Heap) (K : Value → Heap → Prop) (H : t10 Tryd.prog s0_1 h K) : callM Tryd.prog 10 #[s0_1] h K :=
  callM_of_wpA mixed (fn := Tryd.f10) Tryd.func10 (c := bodyOf Tryd.f10) rfl (of_decide_eq_true (by kernel_rfl)) (anOf [(122, [4, 5, 17])]) 43 44 (by kernel_rfl) rfl [.tmp 2, .tmp 3] (by kernel_rfl) (args := [s0_1]) (by rw [e10]; exact H)

/-! laws.eqStacks -/
def t11 (P : Program) (a0_1 : Value) (b1_1 : Value) (h : Heap) (K : Value → Heap → Prop) : Prop :=
  eop P (Instr.box 28 a0_1) h fun a2_1 h_1 =>
  eop P (Instr.box 28 b1_1) h_1 fun b3_1 h_2 =>
  pop P (Instr.fieldAt 28 a2_1 0) fun t5_1 =>
  rop P (Instr.loadAt 22 t5_1) h_2 fun t6_1 =>
  pop P (Instr.fieldAt 28 b3_1 0) fun t7_1 =>
  rop P (Instr.loadAt 22 t7_1) h_2 fun t8_1 =>
  callM P 60 #[t6_1, t8_1] h_2 fun t9_1 h_3 =>
  pop P (Op.unary .not t9_1) fun t10_1 =>
  condM t10_1
  (K (Value.bool false) h_3)
  (K (Value.bool true) h_3)
theorem e11 (a0_1 : Value) (b1_1 : Value) (h : Heap) (K : Value → Heap → Prop) : wpA Tryd.prog 11 (anOf []) (bodyOf Tryd.f11) 1 (fun A h => resA Tryd.prog A h K [.tmp 4]) (fun _ _ _ => False) (fun A h => resA Tryd.prog A h K [.tmp 4]) (aargs [a0_1, b1_1] 0) h = t11 Tryd.prog a0_1 b1_1 h K := by kernel_rfl
theorem c11 (a0_1 : Value) (b1_1 : Value) (h : Heap) (K : Value → Heap → Prop) (H : t11 Tryd.prog a0_1 b1_1 h K) : callM Tryd.prog 11 #[a0_1, b1_1] h K :=
  callM_of_wpA mixed (fn := Tryd.f11) Tryd.func11 (c := bodyOf Tryd.f11) rfl (of_decide_eq_true (by kernel_rfl)) (anOf []) 9 11 (by kernel_rfl) rfl [.tmp 4] (by kernel_rfl) (args := [a0_1, b1_1]) (by rw [e11]; exact H)

/-! laws.eqIntS -/
def t46 (P : Program) (a0_1 : Value) (b1_1 : Value) (h : Heap) (K : Value → Heap → Prop) : Prop :=
  pop P (lenS 34 3 a0_1) fun t7_1 =>
  pop P (lenS 34 3 b1_1) fun t9_1 =>
  pop P (binE .neq 3 (.tmp 7) (.tmp 9) t7_1 t9_1) fun t10_1 =>
  condM t10_1
  (K (Value.bool false) h)
  (∃ (I_1 : List Value → Heap → Prop) (μ_1 : List Value → Heap → Nat), I_1 [(Value.int IntKind.i64 0)] h ∧
  ∀ (junk_1 : Nat → Value) (i5_1 : Value) (h_1 : Heap), I_1 [i5_1] h_1 →
  pop P (lenS 34 3 a0_1) fun t13_1 =>
  pop P (binA .lss 3 i5_1 t13_1) fun t14_1 =>
  condM t14_1
  (pop P (Instr.indexAt 34 a0_1 i5_1) fun t19_1 =>
  rop P (Instr.loadAt 3 t19_1) h_1 fun t20_1 =>
  pop P (Instr.indexAt 34 b1_1 i5_1) fun t23_1 =>
  rop P (Instr.loadAt 3 t23_1) h_1 fun t24_1 =>
  pop P (binE .neq 3 (.tmp 20) (.tmp 24) t20_1 t24_1) fun t25_1 =>
  condM t25_1
  (K (Value.bool false) h_1)
  (pop P (binA .add 3 i5_1 (Value.int IntKind.i64 1)) fun t16_1 =>
  I_1 [t16_1] h_1 ∧ μ_1 [t16_1] h_1 < μ_1 [i5_1] h_1))
  (K (Value.bool true) h_1))
theorem e46 (a0_1 : Value) (b1_1 : Value) (h : Heap) (K : Value → Heap → Prop) : wpA Tryd.prog 26 (anOf [(58, [5])]) (bodyOf Tryd.f46) 1 (fun A h => resA Tryd.prog A h K [.tmp 4]) (fun _ _ _ => False) (fun A h => resA Tryd.prog A h K [.tmp 4]) (aargs [a0_1, b1_1] 0) h = t46 Tryd.prog a0_1 b1_1 h K := by kernel_rfl
theorem c46 (a0_1 : Value) (b1_1 : Value) (h : Heap) (K : Value → Heap → Prop) (H : t46 Tryd.prog a0_1 b1_1 h K) : callM Tryd.prog 46 #[a0_1, b1_1] h K :=
  callM_of_wpA mixed (fn := Tryd.f46) Tryd.func46 (c := bodyOf Tryd.f46) rfl (of_decide_eq_true (by kernel_rfl)) (anOf [(58, [5])]) 24 26 (by kernel_rfl) rfl [.tmp 4] (by kernel_rfl) (args := [a0_1, b1_1]) (by rw [e46]; exact H)

/-! laws.szIntSS -/
def t50 (P : Program) (a0_1 : Value) (left1_1 : Value) (h : Heap) (K : Value → Heap → Prop) : Prop :=
  pop P (lenS 22 3 a0_1) fun t8_1 =>
  pop P (binA .sub 3 left1_1 t8_1) fun t9_1 =>
  pop P (binA .lss 3 t9_1 (Value.int IntKind.i64 0)) fun t11_1 =>
  condM t11_1
  (K (Value.int IntKind.i64 (-1)) h)
  (∃ (I_1 : List Value → Heap → Prop) (μ_1 : List Value → Heap → Nat), I_1 [t9_1, (Value.int IntKind.i64 0)] h ∧
  ∀ (junk_1 : Nat → Value) (left1_2 : Value) (i5_1 : Value) (h_1 : Heap), I_1 [left1_2, i5_1] h_1 →
  pop P (lenS 22 3 a0_1) fun t14_1 =>
  pop P (binA .lss 3 i5_1 t14_1) fun t15_1 =>
  condM t15_1
  (pop P (Instr.indexAt 22 a0_1 i5_1) fun t20_1 =>
  rop P (Instr.loadAt 34 t20_1) h_1 fun t21_1 =>
  callM P 61 #[t21_1, left1_2] h_1 fun t23_1 h_2 =>
  pop P (binA .lss 3 t23_1 (Value.int IntKind.i64 0)) fun t25_1 =>
  condM t25_1
  (K (Value.int IntKind.i64 (-1)) h_2)
  (pop P (binA .add 3 i5_1 (Value.int IntKind.i64 1)) fun t17_1 =>
  I_1 [t23_1, t17_1] h_2 ∧ μ_1 [t23_1, t17_1] h_2 < μ_1 [left1_2, i5_1] h_1))
  (K left1_2 h_1))
theorem e50 (a0_1 : Value) (left1_1 : Value) (h : Heap) (K : Value → Heap → Prop) : wpA Tryd.prog 27 (anOf [(122, [1, 5])]) (bodyOf Tryd.f50) 1 (fun A h => resA Tryd.prog A h K [.tmp 4]) (fun _ _ _ => False) (fun A h => resA Tryd.prog A h K [.tmp 4]) (aargs [a0_1, left1_1] 0) h = t50 Tryd.prog a0_1 left1_1 h K := by kernel_rfl
theorem c50 (a0_1 : Value) (left1_1 : Value) (h : Heap) (K : Value → Heap → Prop) (H : t50 Tryd.prog a0_1 left1_1 h K) : callM Tryd.prog 50 #[a0_1, left1_1] h K :=
  callM_of_wpA mixed (fn := Tryd.f50) Tryd.func50 (c := bodyOf Tryd.f50) rfl (of_decide_eq_true (by kernel_rfl)) (anOf [(122, [1, 5])]) 25 27 (by kernel_rfl) rfl [.tmp 4] (by kernel_rfl) (args := [a0_1, left1_1]) (by rw [e50]; exact H)

/-! spec.l1In -/
def t51 (P : Program) (n0_1 : Value) (lo1_1 : Value) (hi2_1 : Value) (h : Heap) (K : Value → Heap → Prop) : Prop :=
  pop P (binA .geq 3 n0_1 lo1_1) fun t9_1 =>
  guardM (asG t9_1 true) true (fun k_1 => k_1 n0_1 h) h fun t11_1 h_1 =>
  guardM (asG t9_1 true) true (fun k_2 => k_2 hi2_1 h_1) h_1 fun t12_1 h_2 =>
  guardM (asG t9_1 true) true (fun k_3 => pop P (binA .leq 3 t11_1 t12_1) fun t13_1 =>
  k_3 t13_1 h_2) h_2 fun t13_2 h_3 =>
  pop P (pickS t9_1 t13_2 (Value.bool false)) fun t14_1 =>
  K t14_1 h_3
theorem e51 (n0_1 : Value) (lo1_1 : Value) (hi2_1 : Value) (h : Heap) (K : Value → Heap → Prop) : wpA Tryd.prog 15 (anOf []) (bodyOf Tryd.f51) 1 (fun A h => resA Tryd.prog A h K [.tmp 6]) (fun _ _ _ => False) (fun A h => resA Tryd.prog A h K [.tmp 6]) (aargs [n0_1, lo1_1, hi2_1] 0) h = t51 Tryd.prog n0_1 lo1_1 hi2_1 h K := by kernel_rfl
theorem c51 (n0_1 : Value) (lo1_1 : Value) (hi2_1 : Value) (h : Heap) (K : Value → Heap → Prop) (H : t51 Tryd.prog n0_1 lo1_1 hi2_1 h K) : callM Tryd.prog 51 #[n0_1, lo1_1, hi2_1] h K :=
  callM_of_wpA mixed (fn := Tryd.f51) Tryd.func51 (c := bodyOf Tryd.f51) rfl (of_decide_eq_true (by kernel_rfl)) (anOf []) 12 15 (by kernel_rfl) rfl [.tmp 6] (by kernel_rfl) (args := [n0_1, lo1_1, hi2_1]) (by rw [e51]; exact H)

/-! spec.l1All -/
def t52 (P : Program) (l0_1 : Value) (lo1_1 : Value) (hi2_1 : Value) (h : Heap) (K : Value → Heap → Prop) : Prop :=
  pop P (lenS 34 3 l0_1) fun t10_1 =>
  ∃ (I_1 : List Value → Heap → Prop) (μ_1 : List Value → Heap → Nat), I_1 [(Value.int IntKind.i64 0)] h ∧
  ∀ (junk_1 : Nat → Value) (t11_1 : Value) (h_1 : Heap), I_1 [t11_1] h_1 →
  pop P (binA .lss 3 t11_1 t10_1) fun t12_1 =>
  condM t12_1
  (pop P (Instr.indexAt 34 l0_1 t11_1) fun t13_1 =>
  rop P (Instr.loadAt 3 t13_1) h_1 fun t14_1 =>
  callM P 51 #[t14_1, lo1_1, hi2_1] h_1 fun t18_1 h_2 =>
  pop P (Op.unary .not t18_1) fun t19_1 =>
  condM t19_1
  (K (Value.bool false) h_2)
  (pop P (binA .add 3 t11_1 (Value.int IntKind.i64 1)) fun t20_1 =>
  I_1 [t20_1] h_2 ∧ μ_1 [t20_1] h_2 < μ_1 [t11_1] h_1))
  (K (Value.bool true) h_1)
theorem e52 (l0_1 : Value) (lo1_1 : Value) (hi2_1 : Value) (h : Heap) (K : Value → Heap → Prop) : wpA Tryd.prog 21 (anOf [(26, [11])]) (bodyOf Tryd.f52) 1 (fun A h => resA Tryd.prog A h K [.tmp 6]) (fun _ _ _ => False) (fun A h => resA Tryd.prog A h K [.tmp 6]) (aargs [l0_1, lo1_1, hi2_1] 0) h = t52 Tryd.prog l0_1 lo1_1 hi2_1 h K := by kernel_rfl
theorem c52 (l0_1 : Value) (lo1_1 : Value) (hi2_1 : Value) (h : Heap) (K : Value → Heap → Prop) (H : t52 Tryd.prog l0_1 lo1_1 hi2_1 h K) : callM Tryd.prog 52 #[l0_1, lo1_1, hi2_1] h K :=
  callM_of_wpA mixed (fn := Tryd.f52) Tryd.func52 (c := bodyOf Tryd.f52) rfl (of_decide_eq_true (by kernel_rfl)) (anOf [(26, [11])]) 18 21 (by kernel_rfl) rfl [.tmp 6] (by kernel_rfl) (args := [l0_1, lo1_1, hi2_1]) (by rw [e52]; exact H)

/-! spec.l1Num -/
def t53 (P : Program) (n0_1 : Value) (h : Heap) (K : Value → Heap → Prop) : Prop :=
  pop P (binA .lss 3 n0_1 (Value.int IntKind.i64 10)) fun t4_1 =>
  condM t4_1
  (pop P (binA .add 3 (Value.int IntKind.i64 48) n0_1) fun t6_1 =>
  rop P (convert 3 5 t6_1) h fun t7_1 =>
  eop P (Instr.buildSlice 48 1 #[(0, t7_1)]) h fun t8_1 h_1 =>
  rop P (convert 48 9 t8_1) h_1 fun t9_1 =>
  K t9_1 h_1)
  (pop P (binA .quo 3 n0_1 (Value.int IntKind.i64 10)) fun t11_1 =>
  pop P (binA .rem 3 n0_1 (Value.int IntKind.i64 10)) fun t14_1 =>
  pop P (binA .add 3 (Value.int IntKind.i64 48) t14_1) fun t15_1 =>
  rop P (convert 3 5 t15_1) h fun t16_1 =>
  (callM P 53 #[t11_1] h fun t12_1 h_2 =>
  (∀ w : World, w.heap = h_2 → (convert 3 5 t15_1).run P w = .ok t16_1 w) ∧
  eop P (Instr.buildSlice 48 1 #[(0, t16_1)]) h_2 fun t17_1 h_3 =>
  rop P (convert 48 9 t17_1) h_3 fun t18_1 =>
  pop P (binA .add 9 t12_1 t18_1) fun t19_1 =>
  K t19_1 h_3) ∧
  (eop P (Instr.buildSlice 48 1 #[(0, t16_1)]) h fun t17_2 h_4 =>
  rop P (convert 48 9 t17_2) h_4 fun t18_2 =>
  callM P 53 #[t11_1] h_4 fun t12_2 h_5 =>
  (∀ w : World, w.heap = h_5 → (convert 48 9 t17_2).run P w = .ok t18_2 w) ∧
  pop P (binA .add 9 t12_2 t18_2) fun t19_2 =>
  K t19_2 h_5))
theorem e53 (n0_1 : Value) (h : Heap) (K : Value → Heap → Prop) : wpA Tryd.prog 20 (anOf []) (bodyOf Tryd.f53) 1 (fun A h => resA Tryd.prog A h K [.tmp 2]) (fun _ _ _ => False) (fun A h => resA Tryd.prog A h K [.tmp 2]) (aargs [n0_1] 0) h = t53 Tryd.prog n0_1 h K := by kernel_rfl
theorem c53 (n0_1 : Value) (h : Heap) (K : Value → Heap → Prop) (H : t53 Tryd.prog n0_1 h K) : callM Tryd.prog 53 #[n0_1] h K :=
  callM_of_wpA mixed (fn := Tryd.f53) Tryd.func53 (c := bodyOf Tryd.f53) rfl (of_decide_eq_true (by kernel_rfl)) (anOf []) 19 20 (by kernel_rfl) rfl [.tmp 2] (by kernel_rfl) (args := [n0_1]) (by rw [e53]; exact H)

/-! laws.toIntSS -/
def t54 (P : Program) (a0_1 : Value) (h : Heap) (K : Value → Heap → Prop) : Prop :=
  pop P (lenS 22 3 a0_1) fun t6_1 =>
  eop P (Instr.makeSlice 22 t6_1 t6_1) h fun t7_1 h_1 =>
  ∃ (I_1 : List Value → Heap → Prop) (μ_1 : List Value → Heap → Nat), I_1 [(Value.int IntKind.i64 0)] h_1 ∧
  ∀ (junk_1 : Nat → Value) (i4_1 : Value) (h_2 : Heap), I_1 [i4_1] h_2 →
  pop P (lenS 22 3 a0_1) fun t10_1 =>
  pop P (binA .lss 3 i4_1 t10_1) fun t11_1 =>
  condM t11_1
  (pop P (Instr.indexAt 22 a0_1 i4_1) fun t18_1 =>
  rop P (Instr.loadAt 34 t18_1) h_2 fun t19_1 =>
  callM P 64 #[t19_1] h_2 fun t20_1 h_3 =>
  pop P (Instr.indexAt 22 t7_1 i4_1) fun t21_1 =>
  uop P (Instr.storeAt 34 t21_1 t20_1) h_3 fun u_1 h_4 =>
  pop P (binA .add 3 i4_1 (Value.int IntKind.i64 1)) fun t13_1 =>
  I_1 [t13_1] h_4 ∧ μ_1 [t13_1] h_4 < μ_1 [i4_1] h_2)
  (K t7_1 h_2)
theorem e54 (a0_1 : Value) (h : Heap) (K : Value → Heap → Prop) : wpA Tryd.prog 23 (anOf [(58, [4])]) (bodyOf Tryd.f54) 1 (fun A h => resA Tryd.prog A h K [.tmp 2]) (fun _ _ _ => False) (fun A h => resA Tryd.prog A h K [.tmp 2]) (aargs [a0_1] 0) h = t54 Tryd.prog a0_1 h K := by kernel_rfl
theorem c54 (a0_1 : Value) (h : Heap) (K : Value → Heap → Prop) (H : t54 Tryd.prog a0_1 h K) : callM Tryd.prog 54 #[a0_1] h K :=
  callM_of_wpA mixed (fn := Tryd.f54) Tryd.func54 (c := bodyOf Tryd.f54) rfl (of_decide_eq_true (by kernel_rfl)) (anOf [(58, [4])]) 22 23 (by kernel_rfl) rfl [.tmp 2] (by kernel_rfl) (args := [a0_1]) (by rw [e54]; exact H)

/-! impl.in -/
def t55 (P : Program) (n0_1 : Value) (low1_1 : Value) (high2_1 : Value) (h : Heap) (K : Value → Heap → Prop) : Prop :=
  pop P (binA .leq 3 low1_1 n0_1) fun t9_1 =>
  guardM (asG t9_1 true) true (fun k_1 => k_1 n0_1 h) h fun t11_1 h_1 =>
  guardM (asG t9_1 true) true (fun k_2 => k_2 high2_1 h_1) h_1 fun t12_1 h_2 =>
  guardM (asG t9_1 true) true (fun k_3 => pop P (binA .leq 3 t11_1 t12_1) fun t13_1 =>
  k_3 t13_1 h_2) h_2 fun t13_2 h_3 =>
  pop P (pickS t9_1 t13_2 (Value.bool false)) fun t14_1 =>
  K t14_1 h_3
theorem e55 (n0_1 : Value) (low1_1 : Value) (high2_1 : Value) (h : Heap) (K : Value → Heap → Prop) : wpA Tryd.prog 15 (anOf []) (bodyOf Tryd.f55) 1 (fun A h => resA Tryd.prog A h K [.tmp 6]) (fun _ _ _ => False) (fun A h => resA Tryd.prog A h K [.tmp 6]) (aargs [n0_1, low1_1, high2_1] 0) h = t55 Tryd.prog n0_1 low1_1 high2_1 h K := by kernel_rfl
theorem c55 (n0_1 : Value) (low1_1 : Value) (high2_1 : Value) (h : Heap) (K : Value → Heap → Prop) (H : t55 Tryd.prog n0_1 low1_1 high2_1 h K) : callM Tryd.prog 55 #[n0_1, low1_1, high2_1] h K :=
  callM_of_wpA mixed (fn := Tryd.f55) Tryd.func55 (c := bodyOf Tryd.f55) rfl (of_decide_eq_true (by kernel_rfl)) (anOf []) 12 15 (by kernel_rfl) rfl [.tmp 6] (by kernel_rfl) (args := [n0_1, low1_1, high2_1]) (by rw [e55]; exact H)

/-! slices.ContainsFunc[[]int,int] -/
def t56 (P : Program) (s0_1 : Value) (f1_1 : Value) (h : Heap) (K : Value → Heap → Prop) : Prop :=
  callM P 95 #[s0_1, f1_1] h fun t7_1 h_1 =>
  pop P (binA .geq 3 t7_1 (Value.int IntKind.i64 0)) fun t8_1 =>
  K t8_1 h_1
theorem e56 (s0_1 : Value) (f1_1 : Value) (h : Heap) (K : Value → Heap → Prop) : wpA Tryd.prog 9 (anOf []) (bodyOf Tryd.f56) 1 (fun A h => resA Tryd.prog A h K [.tmp 4]) (fun _ _ _ => False) (fun A h => resA Tryd.prog A h K [.tmp 4]) (aargs [s0_1, f1_1] 0) h = t56 Tryd.prog s0_1 f1_1 h K := by kernel_rfl
theorem c56 (s0_1 : Value) (f1_1 : Value) (h : Heap) (K : Value → Heap → Prop) (H : t56 Tryd.prog s0_1 f1_1 h K) : callM Tryd.prog 56 #[s0_1, f1_1] h K :=
  callM_of_wpA mixed (fn := Tryd.f56) Tryd.func56 (c := bodyOf Tryd.f56) rfl (of_decide_eq_true (by kernel_rfl)) (anOf []) 7 9 (by kernel_rfl) rfl [.tmp 4] (by kernel_rfl) (args := [s0_1, f1_1]) (by rw [e56]; exact H)

/-! impl.StacksText$1 -/
def t57 (P : Program) (k0_1 : Value) (h : Heap) (K : Value → Heap → Prop) : Prop :=
  callM P 55 #[k0_1, (Value.int IntKind.i64 0), (Value.int IntKind.i64 4)] h fun t4_1 h_1 =>
  pop P (Op.unary .not t4_1) fun t5_1 =>
  K t5_1 h_1
theorem e57 (k0_1 : Value) (h : Heap) (K : Value → Heap → Prop) : wpA Tryd.prog 6 (anOf []) (bodyOf Tryd.f57) 1 (fun A h => resA Tryd.prog A h K [.tmp 2]) (fun _ _ _ => False) (fun A h => resA Tryd.prog A h K [.tmp 2]) (aargs [k0_1] 0) h = t57 Tryd.prog k0_1 h K := by kernel_rfl
theorem c57 (k0_1 : Value) (h : Heap) (K : Value → Heap → Prop) (H : t57 Tryd.prog k0_1 h K) : callM Tryd.prog 57 #[k0_1] h K :=
  callM_of_wpA mixed (fn := Tryd.f57) Tryd.func57 (c := bodyOf Tryd.f57) rfl (of_decide_eq_true (by kernel_rfl)) (anOf []) 5 6 (by kernel_rfl) rfl [.tmp 2] (by kernel_rfl) (args := [k0_1]) (by rw [e57]; exact H)

/-! impl.listText -/
def t58 (P : Program) (list0_1 : Value) (h : Heap) (K : Value → Heap → Prop) : Prop :=
  pop P (lenS 34 3 list0_1) fun t7_1 =>
  pop P (binE .eql 3 (.tmp 7) (.const (Value.int IntKind.i64 0)) t7_1 (Value.int IntKind.i64 0)) fun t8_1 =>
  condM t8_1
  (K (Value.string { data := #[45] }) h)
  (eop P (Instr.buildSlice 79 0 #[]) h fun t9_1 h_1 =>
  pop P (lenS 34 3 list0_1) fun t11_1 =>
  ∃ (I_1 : List Value → Heap → Prop) (μ_1 : List Value → Heap → Nat), I_1 [t9_1, (Value.int IntKind.i64 0)] h_1 ∧
  ∀ (junk_1 : Nat → Value) (words3_1 : Value) (t12_1 : Value) (h_2 : Heap), I_1 [words3_1, t12_1] h_2 →
  pop P (binA .lss 3 t12_1 t11_1) fun t13_1 =>
  condM t13_1
  (pop P (Instr.indexAt 34 list0_1 t12_1) fun t14_1 =>
  rop P (Instr.loadAt 3 t14_1) h_2 fun t15_1 =>
  callM P 96 #[t15_1] h_2 fun t18_1 h_3 =>
  eop P (Instr.buildSlice 79 1 #[(0, t18_1)]) h_3 fun t19_1 h_4 =>
  eop P (appS 79 79 79 words3_1 t19_1) h_4 fun t20_1 h_5 =>
  pop P (binA .add 3 t12_1 (Value.int IntKind.i64 1)) fun t21_1 =>
  I_1 [t20_1, t21_1] h_5 ∧ μ_1 [t20_1, t21_1] h_5 < μ_1 [words3_1, t12_1] h_2)
  (callM P 59 #[words3_1, (Value.string { data := #[44] })] h_2 fun t23_1 h_6 =>
  K t23_1 h_6))
theorem e58 (list0_1 : Value) (h : Heap) (K : Value → Heap → Prop) : wpA Tryd.prog 24 (anOf [(122, [3, 12])]) (bodyOf Tryd.f58) 1 (fun A h => resA Tryd.prog A h K [.tmp 2]) (fun _ _ _ => False) (fun A h => resA Tryd.prog A h K [.tmp 2]) (aargs [list0_1] 0) h = t58 Tryd.prog list0_1 h K := by kernel_rfl
theorem c58 (list0_1 : Value) (h : Heap) (K : Value → Heap → Prop) (H : t58 Tryd.prog list0_1 h K) : callM Tryd.prog 58 #[list0_1] h K :=
  callM_of_wpA mixed (fn := Tryd.f58) Tryd.func58 (c := bodyOf Tryd.f58) rfl (of_decide_eq_true (by kernel_rfl)) (anOf [(122, [3, 12])]) 23 24 (by kernel_rfl) rfl [.tmp 2] (by kernel_rfl) (args := [list0_1]) (by rw [e58]; exact H)

/-! laws.eqIntSS -/
def t60 (P : Program) (a0_1 : Value) (b1_1 : Value) (h : Heap) (K : Value → Heap → Prop) : Prop :=
  pop P (lenS 22 3 a0_1) fun t7_1 =>
  pop P (lenS 22 3 b1_1) fun t9_1 =>
  pop P (binE .neq 3 (.tmp 7) (.tmp 9) t7_1 t9_1) fun t10_1 =>
  condM t10_1
  (K (Value.bool false) h)
  (∃ (I_1 : List Value → Heap → Prop) (μ_1 : List Value → Heap → Nat), I_1 [(Value.int IntKind.i64 0)] h ∧
  ∀ (junk_1 : Nat → Value) (i5_1 : Value) (h_1 : Heap), I_1 [i5_1] h_1 →
  pop P (lenS 22 3 a0_1) fun t13_1 =>
  pop P (binA .lss 3 i5_1 t13_1) fun t14_1 =>
  condM t14_1
  (pop P (Instr.indexAt 22 a0_1 i5_1) fun t19_1 =>
  rop P (Instr.loadAt 34 t19_1) h_1 fun t20_1 =>
  pop P (Instr.indexAt 22 b1_1 i5_1) fun t23_1 =>
  rop P (Instr.loadAt 34 t23_1) h_1 fun t24_1 =>
  callM P 46 #[t20_1, t24_1] h_1 fun t25_1 h_2 =>
  pop P (Op.unary .not t25_1) fun t26_1 =>
  condM t26_1
  (K (Value.bool false) h_2)
  (pop P (binA .add 3 i5_1 (Value.int IntKind.i64 1)) fun t16_1 =>
  I_1 [t16_1] h_2 ∧ μ_1 [t16_1] h_2 < μ_1 [i5_1] h_1))
  (K (Value.bool true) h_1))
theorem e60 (a0_1 : Value) (b1_1 : Value) (h : Heap) (K : Value → Heap → Prop) : wpA Tryd.prog 27 (anOf [(58, [5])]) (bodyOf Tryd.f60) 1 (fun A h => resA Tryd.prog A h K [.tmp 4]) (fun _ _ _ => False) (fun A h => resA Tryd.prog A h K [.tmp 4]) (aargs [a0_1, b1_1] 0) h = t60 Tryd.prog a0_1 b1_1 h K := by kernel_rfl
theorem c60 (a0_1 : Value) (b1_1 : Value) (h : Heap) (K : Value → Heap → Prop) (H : t60 Tryd.prog a0_1 b1_1 h K) : callM Tryd.prog 60 #[a0_1, b1_1] h K :=
  callM_of_wpA mixed (fn := Tryd.f60) Tryd.func60 (c := bodyOf Tryd.f60) rfl (of_decide_eq_true (by kernel_rfl)) (anOf [(58, [5])]) 25 27 (by kernel_rfl) rfl [.tmp 4] (by kernel_rfl) (args := [a0_1, b1_1]) (by rw [e60]; exact H)

/-! laws.szIntS -/
def t61 (P : Program) (a0_1 : Value) (left1_1 : Value) (h : Heap) (K : Value → Heap → Prop) : Prop :=
  pop P (lenS 34 3 a0_1) fun t7_1 =>
  pop P (binA .sub 3 left1_1 t7_1) fun t8_1 =>
  pop P (binA .lss 3 t8_1 (Value.int IntKind.i64 0)) fun t10_1 =>
  condM t10_1
  (K (Value.int IntKind.i64 (-1)) h)
  (K t8_1 h)
theorem e61 (a0_1 : Value) (left1_1 : Value) (h : Heap) (K : Value → Heap → Prop) : wpA Tryd.prog 12 (anOf []) (bodyOf Tryd.f61) 1 (fun A h => resA Tryd.prog A h K [.tmp 4]) (fun _ _ _ => False) (fun A h => resA Tryd.prog A h K [.tmp 4]) (aargs [a0_1, left1_1] 0) h = t61 Tryd.prog a0_1 left1_1 h K := by kernel_rfl
theorem c61 (a0_1 : Value) (left1_1 : Value) (h : Heap) (K : Value → Heap → Prop) (H : t61 Tryd.prog a0_1 left1_1 h K) : callM Tryd.prog 61 #[a0_1, left1_1] h K :=
  callM_of_wpA mixed (fn := Tryd.f61) Tryd.func61 (c := bodyOf Tryd.f61) rfl (of_decide_eq_true (by kernel_rfl)) (anOf []) 10 12 (by kernel_rfl) rfl [.tmp 4] (by kernel_rfl) (args := [a0_1, left1_1]) (by rw [e61]; exact H)

/-! laws.toIntS -/
def t64 (P : Program) (a0_1 : Value) (h : Heap) (K : Value → Heap → Prop) : Prop :=
  pop P (lenS 34 3 a0_1) fun t6_1 =>
  eop P (Instr.makeSlice 34 t6_1 t6_1) h fun t7_1 h_1 =>
  ∃ (I_1 : List Value → Heap → Prop) (μ_1 : List Value → Heap → Nat), I_1 [(Value.int IntKind.i64 0)] h_1 ∧
  ∀ (junk_1 : Nat → Value) (i4_1 : Value) (h_2 : Heap), I_1 [i4_1] h_2 →
  pop P (lenS 34 3 a0_1) fun t10_1 =>
  pop P (binA .lss 3 i4_1 t10_1) fun t11_1 =>
  condM t11_1
  (pop P (Instr.indexAt 34 a0_1 i4_1) fun t18_1 =>
  rop P (Instr.loadAt 3 t18_1) h_2 fun t19_1 =>
  pop P (Instr.indexAt 34 t7_1 i4_1) fun t20_1 =>
  uop P (Instr.storeAt 3 t20_1 t19_1) h_2 fun u_1 h_3 =>
  pop P (binA .add 3 i4_1 (Value.int IntKind.i64 1)) fun t13_1 =>
  I_1 [t13_1] h_3 ∧ μ_1 [t13_1] h_3 < μ_1 [i4_1] h_2)
  (K t7_1 h_2)
theorem e64 (a0_1 : Value) (h : Heap) (K : Value → Heap → Prop) : wpA Tryd.prog 22 (anOf [(58, [4])]) (bodyOf Tryd.f64) 1 (fun A h => resA Tryd.prog A h K [.tmp 2]) (fun _ _ _ => False) (fun A h => resA Tryd.prog A h K [.tmp 2]) (aargs [a0_1] 0) h = t64 Tryd.prog a0_1 h K := by kernel_rfl
theorem c64 (a0_1 : Value) (h : Heap) (K : Value → Heap → Prop) (H : t64 Tryd.prog a0_1 h K) : callM Tryd.prog 64 #[a0_1] h K :=
  callM_of_wpA mixed (fn := Tryd.f64) Tryd.func64 (c := bodyOf Tryd.f64) rfl (of_decide_eq_true (by kernel_rfl)) (anOf [(58, [4])]) 21 22 (by kernel_rfl) rfl [.tmp 2] (by kernel_rfl) (args := [a0_1]) (by rw [e64]; exact H)

/-! slices.IndexFunc[[]int,int] -/
def t95 (P : Program) (s0_1 : Value) (f1_1 : Value) (h : Heap) (K : Value → Heap → Prop) : Prop :=
  pop P (lenS 34 3 s0_1) fun t7_1 =>
  ∃ (I_1 : List Value → Heap → Prop) (μ_1 : List Value → Heap → Nat), I_1 [(Value.int IntKind.i64 0)] h ∧
  ∀ (junk_1 : Nat → Value) (t8_1 : Value) (h_1 : Heap), I_1 [t8_1] h_1 →
  pop P (binA .lss 3 t8_1 t7_1) fun t9_1 =>
  condM t9_1
  (pop P (Instr.indexAt 34 s0_1 t8_1) fun t14_1 =>
  rop P (Instr.loadAt 3 t14_1) h_1 fun t15_1 =>
  callV P f1_1 [t15_1] h_1 fun t16_1 h_2 =>
  condM t16_1
  (K t8_1 h_2)
  (pop P (binA .add 3 t8_1 (Value.int IntKind.i64 1)) fun t18_1 =>
  I_1 [t18_1] h_2 ∧ μ_1 [t18_1] h_2 < μ_1 [t8_1] h_1))
  (K (Value.int IntKind.i64 (-1)) h_1)
theorem e95 (s0_1 : Value) (f1_1 : Value) (h : Heap) (K : Value → Heap → Prop) : wpA Tryd.prog 19 (anOf [(26, [8])]) (bodyOf Tryd.f95) 1 (fun A h => resA Tryd.prog A h K [.tmp 4]) (fun _ _ _ => False) (fun A h => resA Tryd.prog A h K [.tmp 4]) (aargs [s0_1, f1_1] 0) h = t95 Tryd.prog s0_1 f1_1 h K := by kernel_rfl
theorem c95 (s0_1 : Value) (f1_1 : Value) (h : Heap) (K : Value → Heap → Prop) (H : t95 Tryd.prog s0_1 f1_1 h K) : callM Tryd.prog 95 #[s0_1, f1_1] h K :=
  callM_of_wpA mixed (fn := Tryd.f95) Tryd.func95 (c := bodyOf Tryd.f95) rfl (of_decide_eq_true (by kernel_rfl)) (anOf [(26, [8])]) 17 19 (by kernel_rfl) rfl [.tmp 4] (by kernel_rfl) (args := [s0_1, f1_1]) (by rw [e95]; exact H)

end Go.Proofs.YtkjkfjkapbpgiaaDoor
