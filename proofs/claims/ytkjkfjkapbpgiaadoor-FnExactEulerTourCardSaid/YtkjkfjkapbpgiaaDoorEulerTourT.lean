/-
  What each function that the law 'FnExactEulerTour' comes to asks of the heap, named; tied to the loaded program by the kernel. Written by a program.
-/
import Derived.Test.YtkjkfjkapbpgiaaDoorProg
import Derived.Test.YtkjkfjkapbpgiaaDoorM1
set_option linter.unusedVariables false
namespace Go.Proofs.YtkjkfjkapbpgiaaDoor
open Go Go.Mx
theorem mixed : Tryd.prog.follows .mixedOrders = true := by kernel_rfl
/-! laws.FnExactEulerTour -/
def t6 (P : Program) (aG0_1 : Value) (aP1_1 : Value) (h : Heap) (K : Value → Heap → Prop) : Prop :=
  eop P (Instr.box 33 aG0_1) h fun aG2_1 h_1 =>
  rop P (Instr.loadAt 33 aG2_1) h_1 fun t16_1 =>
  callM P 12 #[t16_1, (Value.int IntKind.i64 1048576)] h_1 fun t18_1 h_2 =>
  pop P (binA .lss 3 t18_1 (Value.int IntKind.i64 0)) fun t20_1 =>
  condM t20_1
  (K (Value.bool true) h_2)
  (rop P (Instr.loadAt 33 aG2_1) h_2 fun t22_1 =>
  callM P 15 #[t22_1] h_2 fun t23_1 h_3 =>
  callM P 44 #[t23_1, aP1_1] h_3 fun t25_1 h_4 =>
  pop P (Instr.extract t25_1 0) fun t26_1 =>
  pop P (Instr.extract t25_1 1) fun t27_1 =>
  rop P (Instr.loadAt 33 aG2_1) h_4 fun t28_1 =>
  callM P 15 #[t28_1] h_4 fun t29_1 h_5 =>
  eop P (Instr.alloc 41 true (.tuple #[])) h_5 fun x08_1 h_6 =>
  uop P (Instr.storeAt 41 x08_1 t29_1) h_6 fun u_1 h_7 =>
  rop P (Instr.loadAt 41 x08_1) h_7 fun t31_1 =>
  callM P 45 #[t31_1, aP1_1] h_7 fun t33_1 h_8 =>
  pop P (Instr.extract t33_1 0) fun t34_1 =>
  pop P (Instr.extract t33_1 1) fun t35_1 =>
  callM P 46 #[t34_1, t26_1] h_8 fun t38_1 h_9 =>
  pop P (Op.unary .not t38_1) fun t39_1 =>
  guardM (asG t39_1 false) false (fun k_1 => k_1 t35_1 h_9) h_9 fun t41_1 h_10 =>
  guardM (asG t39_1 false) false (fun k_2 => k_2 t27_1 h_10) h_10 fun t42_1 h_11 =>
  guardM (asG t39_1 false) false (fun k_3 => pop P (binE .neq 4 (.tmp 41) (.tmp 42) t41_1 t42_1) fun t43_1 =>
  k_3 t43_1 h_11) h_11 fun t43_2 h_12 =>
  pop P (pickS t39_1 (Value.bool true) t43_2) fun t44_1 =>
  condM t44_1
  (K (Value.bool false) h_12)
  (rop P (Instr.loadAt 41 x08_1) h_12 fun t45_1 =>
  rop P (Instr.loadAt 33 aG2_1) h_12 fun t46_1 =>
  callM P 15 #[t46_1] h_12 fun t47_1 h_13 =>
  (∀ w : World, w.heap = h_13 → (Instr.loadAt 41 x08_1).run P w = .ok t45_1 w) ∧
  callM P 18 #[t45_1, t47_1] h_13 fun t48_1 h_14 =>
  pop P (Op.unary .not t48_1) fun t49_1 =>
  condM t49_1
  (K (Value.bool false) h_14)
  (rop P (Instr.loadAt 41 x08_1) h_14 fun t50_1 =>
  callM P 47 #[t50_1, (Value.int IntKind.i64 1)] h_14 fun t52_1 h_15 =>
  pop P (binA .lss 3 t52_1 (Value.int IntKind.i64 0)) fun t54_1 =>
  guardM (asG t54_1 false) false (fun k_4 => k_4 t34_1 h_15) h_15 fun t56_1 h_16 =>
  guardM (asG t54_1 false) false (fun k_5 => k_5 t26_1 h_16) h_16 fun t57_1 h_17 =>
  guardM (asG t54_1 false) false (fun k_6 => callM P 46 #[t56_1, t57_1] h_17 fun t58_1 h_18 =>
  k_6 t58_1 h_18) h_17 fun t58_2 h_19 =>
  guardM (asG t54_1 false) false (fun k_7 => pop P (Op.unary .not t58_2) fun t59_1 =>
  k_7 t59_1 h_19) h_19 fun t59_2 h_20 =>
  pop P (pickS t54_1 (Value.bool true) t59_2) fun t60_1 =>
  guardM (asG t60_1 false) false (fun k_8 => k_8 t35_1 h_20) h_20 fun t62_1 h_21 =>
  guardM (asG t60_1 false) false (fun k_9 => k_9 t27_1 h_21) h_21 fun t63_1 h_22 =>
  guardM (asG t60_1 false) false (fun k_10 => pop P (binE .neq 4 (.tmp 62) (.tmp 63) t62_1 t63_1) fun t64_1 =>
  k_10 t64_1 h_22) h_22 fun t64_2 h_23 =>
  pop P (pickS t60_1 (Value.bool true) t64_2) fun t65_1 =>
  condM t65_1
  (K (Value.bool false) h_23)
  (callM P 48 #[t34_1, (Value.int IntKind.i64 1)] h_23 fun t68_1 h_24 =>
  callM P 49 #[t34_1, (Value.int IntKind.i64 1)] h_24 fun t71_1 h_25 =>
  pop P (binA .lss 3 t71_1 (Value.int IntKind.i64 0)) fun t73_1 =>
  condM t73_1
  (K (Value.bool false) h_25)
  (pop P (binE .neq 3 (.tmp 74) (.tmp 75) t71_1 t68_1) fun t76_1 =>
  condM t76_1
  (K (Value.bool false) h_25)
  (rop P (Instr.loadAt 33 aG2_1) h_25 fun t78_1 =>
  callM P 15 #[t78_1] h_25 fun t79_1 h_26 =>
  callM P 45 #[t79_1, aP1_1] h_26 fun t81_1 h_27 =>
  pop P (Instr.extract t81_1 0) fun t82_1 =>
  pop P (Instr.extract t81_1 1) fun t83_1 =>
  callM P 46 #[t82_1, t26_1] h_27 fun t86_1 h_28 =>
  pop P (Op.unary .not t86_1) fun t87_1 =>
  guardM (asG t87_1 false) false (fun k_11 => k_11 t83_1 h_28) h_28 fun t89_1 h_29 =>
  guardM (asG t87_1 false) false (fun k_12 => k_12 t27_1 h_29) h_29 fun t90_1 h_30 =>
  guardM (asG t87_1 false) false (fun k_13 => pop P (binE .neq 4 (.tmp 89) (.tmp 90) t89_1 t90_1) fun t91_1 =>
  k_13 t91_1 h_30) h_30 fun t91_2 h_31 =>
  pop P (pickS t87_1 (Value.bool true) t91_2) fun t92_1 =>
  condM t92_1
  (K (Value.bool false) h_31)
  (callM P 49 #[t34_1, (Value.int IntKind.i64 1)] h_31 fun t95_1 h_32 =>
  pop P (binA .lss 3 t95_1 (Value.int IntKind.i64 0)) fun t97_1 =>
  condM t97_1
  (K (Value.bool false) h_32)
  (pop P (binE .neq 3 (.tmp 98) (.tmp 99) t95_1 t68_1) fun t100_1 =>
  condM t100_1
  (K (Value.bool false) h_32)
  (K (Value.bool true) h_32)))))))))
theorem e6 (aG0_1 : Value) (aP1_1 : Value) (h : Heap) (K : Value → Heap → Prop) : wpA Tryd.prog 101 (anOf []) (bodyOf Tryd.f6) 1 (fun A h => resA Tryd.prog A h K [.tmp 4]) (fun _ _ _ => False) (fun A h => resA Tryd.prog A h K [.tmp 4]) (aargs [aG0_1, aP1_1] 0) h = t6 Tryd.prog aG0_1 aP1_1 h K := by kernel_rfl
theorem c6 (aG0_1 : Value) (aP1_1 : Value) (h : Heap) (K : Value → Heap → Prop) (H : t6 Tryd.prog aG0_1 aP1_1 h K) : callM Tryd.prog 6 #[aG0_1, aP1_1] h K :=
  callM_of_wpA mixed (fn := Tryd.f6) Tryd.func6 (c := bodyOf Tryd.f6) rfl (of_decide_eq_true (by kernel_rfl)) (anOf []) 99 101 (by kernel_rfl) rfl [.tmp 4] (by kernel_rfl) (args := [aG0_1, aP1_1]) (by rw [e6]; exact H)

/-! laws.szGraph -/
def t12 (P : Program) (a0_1 : Value) (left1_1 : Value) (h : Heap) (K : Value → Heap → Prop) : Prop :=
  eop P (Instr.box 33 a0_1) h fun a2_1 h_1 =>
  pop P (Instr.fieldAt 33 a2_1 0) fun t5_1 =>
  rop P (Instr.loadAt 22 t5_1) h_1 fun t6_1 =>
  callM P 50 #[t6_1, left1_1] h_1 fun t8_1 h_2 =>
  pop P (binA .lss 3 t8_1 (Value.int IntKind.i64 0)) fun t10_1 =>
  condM t10_1
  (K (Value.int IntKind.i64 (-1)) h_2)
  (K t8_1 h_2)
theorem e12 (a0_1 : Value) (left1_1 : Value) (h : Heap) (K : Value → Heap → Prop) : wpA Tryd.prog 12 (anOf []) (bodyOf Tryd.f12) 1 (fun A h => resA Tryd.prog A h K [.tmp 4]) (fun _ _ _ => False) (fun A h => resA Tryd.prog A h K [.tmp 4]) (aargs [a0_1, left1_1] 0) h = t12 Tryd.prog a0_1 left1_1 h K := by kernel_rfl
theorem c12 (a0_1 : Value) (left1_1 : Value) (h : Heap) (K : Value → Heap → Prop) (H : t12 Tryd.prog a0_1 left1_1 h K) : callM Tryd.prog 12 #[a0_1, left1_1] h K :=
  callM_of_wpA mixed (fn := Tryd.f12) Tryd.func12 (c := bodyOf Tryd.f12) rfl (of_decide_eq_true (by kernel_rfl)) (anOf []) 10 12 (by kernel_rfl) rfl [.tmp 4] (by kernel_rfl) (args := [a0_1, left1_1]) (by rw [e12]; exact H)

/-! laws.toGraph -/
def t15 (P : Program) (a0_1 : Value) (h : Heap) (K : Value → Heap → Prop) : Prop :=
  eop P (Instr.box 33 a0_1) h fun a1_1 h_1 =>
  eop P (Instr.alloc 41 true (.tuple #[])) h_1 fun t2_1 h_2 =>
  eop P (Instr.alloc 41 true (.tuple #[])) h_2 fun out3_1 h_3 =>
  pop P (Instr.fieldAt 33 a1_1 0) fun t4_1 =>
  rop P (Instr.loadAt 22 t4_1) h_3 fun t5_1 =>
  callM P 54 #[t5_1] h_3 fun t6_1 h_4 =>
  pop P (Instr.fieldAt 41 out3_1 0) fun t7_1 =>
  uop P (Instr.storeAt 22 t7_1 t6_1) h_4 fun u_1 h_5 =>
  rop P (Instr.loadAt 41 out3_1) h_5 fun t8_1 =>
  uop P (Instr.storeAt 41 t2_1 t8_1) h_5 fun u_2 h_6 =>
  rop P (Instr.loadAt 41 t2_1) h_6 fun r_1 =>
  K r_1 h_6
theorem e15 (a0_1 : Value) (h : Heap) (K : Value → Heap → Prop) : wpA Tryd.prog 9 (anOf []) (bodyOf Tryd.f15) 1 (fun A h => resA Tryd.prog A h K [.cell 2 41]) (fun _ _ _ => False) (fun A h => resA Tryd.prog A h K [.cell 2 41]) (aargs [a0_1] 0) h = t15 Tryd.prog a0_1 h K := by kernel_rfl
theorem c15 (a0_1 : Value) (h : Heap) (K : Value → Heap → Prop) (H : t15 Tryd.prog a0_1 h K) : callM Tryd.prog 15 #[a0_1] h K :=
  callM_of_wpA mixed (fn := Tryd.f15) Tryd.func15 (c := bodyOf Tryd.f15) rfl (of_decide_eq_true (by kernel_rfl)) (anOf []) 8 9 (by kernel_rfl) rfl [.cell 2 41] (by kernel_rfl) (args := [a0_1]) (by rw [e15]; exact H)

/-! laws.eqGraph -/
def t18 (P : Program) (a0_1 : Value) (b1_1 : Value) (h : Heap) (K : Value → Heap → Prop) : Prop :=
  eop P (Instr.box 41 a0_1) h fun a2_1 h_1 =>
  eop P (Instr.box 41 b1_1) h_1 fun b3_1 h_2 =>
  pop P (Instr.fieldAt 41 a2_1 0) fun t5_1 =>
  rop P (Instr.loadAt 22 t5_1) h_2 fun t6_1 =>
  pop P (Instr.fieldAt 41 b3_1 0) fun t7_1 =>
  rop P (Instr.loadAt 22 t7_1) h_2 fun t8_1 =>
  callM P 60 #[t6_1, t8_1] h_2 fun t9_1 h_3 =>
  pop P (Op.unary .not t9_1) fun t10_1 =>
  condM t10_1
  (K (Value.bool false) h_3)
  (K (Value.bool true) h_3)
theorem e18 (a0_1 : Value) (b1_1 : Value) (h : Heap) (K : Value → Heap → Prop) : wpA Tryd.prog 11 (anOf []) (bodyOf Tryd.f18) 1 (fun A h => resA Tryd.prog A h K [.tmp 4]) (fun _ _ _ => False) (fun A h => resA Tryd.prog A h K [.tmp 4]) (aargs [a0_1, b1_1] 0) h = t18 Tryd.prog a0_1 b1_1 h K := by kernel_rfl
theorem c18 (a0_1 : Value) (b1_1 : Value) (h : Heap) (K : Value → Heap → Prop) (H : t18 Tryd.prog a0_1 b1_1 h K) : callM Tryd.prog 18 #[a0_1, b1_1] h K :=
  callM_of_wpA mixed (fn := Tryd.f18) Tryd.func18 (c := bodyOf Tryd.f18) rfl (of_decide_eq_true (by kernel_rfl)) (anOf []) 9 11 (by kernel_rfl) rfl [.tmp 4] (by kernel_rfl) (args := [a0_1, b1_1]) (by rw [e18]; exact H)

/-! spec.EulerTour -/
def t44 (P : Program) (g0_1 : Value) (p1_1 : Value) (h : Heap) (K : Value → Heap → Prop) : Prop :=
  eop P (Instr.box 41 g0_1) h fun g2_1 h_1 =>
  rop P (Instr.loadAt 41 g2_1) h_1 fun t12_1 =>
  callM P 83 #[t12_1, p1_1] h_1 fun t14_1 h_2 =>
  pop P (Op.unary .not t14_1) fun t15_1 =>
  guardM (asG t15_1 false) false (fun k_1 => rop P (Instr.loadAt 41 g2_1) h_2 fun t17_1 =>
  k_1 t17_1 h_2) h_2 fun t17_2 h_3 =>
  guardM (asG t15_1 false) false (fun k_2 => callM P 84 #[t17_2] h_3 fun t18_1 h_4 =>
  k_2 t18_1 h_4) h_3 fun t18_2 h_5 =>
  guardM (asG t15_1 false) false (fun k_3 => pop P (Op.unary .not t18_2) fun t19_1 =>
  k_3 t19_1 h_5) h_5 fun t19_2 h_6 =>
  pop P (pickS t15_1 (Value.bool true) t19_2) fun t20_1 =>
  guardM (asG t20_1 false) false (fun k_4 => rop P (Instr.loadAt 41 g2_1) h_6 fun t22_1 =>
  k_4 t22_1 h_6) h_6 fun t22_2 h_7 =>
  guardM (asG t20_1 false) false (fun k_5 => callM P 85 #[t22_2] h_7 fun t23_1 h_8 =>
  k_5 t23_1 h_8) h_7 fun t23_2 h_9 =>
  guardM (asG t20_1 false) false (fun k_6 => pop P (Op.unary .not t23_2) fun t24_1 =>
  k_6 t24_1 h_9) h_9 fun t24_2 h_10 =>
  pop P (pickS t20_1 (Value.bool true) t24_2) fun t25_1 =>
  guardM (asG t25_1 false) false (fun k_7 => rop P (Instr.loadAt 41 g2_1) h_10 fun t27_1 =>
  k_7 t27_1 h_10) h_10 fun t27_2 h_11 =>
  guardM (asG t25_1 false) false (fun k_8 => callM P 86 #[t27_2] h_11 fun t28_1 h_12 =>
  k_8 t28_1 h_12) h_11 fun t28_2 h_13 =>
  guardM (asG t25_1 false) false (fun k_9 => pop P (binE .eql 3 (.tmp 28) (.const (Value.int IntKind.i64 0)) t28_2 (Value.int IntKind.i64 0)) fun t29_1 =>
  k_9 t29_1 h_13) h_13 fun t29_2 h_14 =>
  pop P (pickS t25_1 (Value.bool true) t29_2) fun t30_1 =>
  condM t30_1
  (K (.tuple #[(Value.slice none 0 0), (Value.bool false)]) h_14)
  (∃ J_1 : List Value → Heap → Prop, (rop P (Instr.loadAt 41 g2_1) h_14 fun t32_1 =>
  pop P (Instr.fieldAt 41 g2_1 0) fun t33_1 =>
  rop P (Instr.loadAt 22 t33_1) h_14 fun t34_1 =>
  pop P (lenS 22 3 t34_1) fun t35_1 =>
  (eop P (Instr.makeSlice 34 t35_1 t35_1) h_14 fun t36_1 h_15 =>
  (∀ w : World, w.heap = h_15 → (Instr.loadAt 22 t33_1).run P w = .ok t34_1 w) ∧
  (∀ w : World, w.heap = h_15 → (Instr.loadAt 41 g2_1).run P w = .ok t32_1 w) ∧
  pop P (Instr.build 43 #[(0, t36_1), (1, p1_1)]) fun t38_1 =>
  (callM P 63 #[t32_1, t38_1] h_15 fun t39_1 h_16 =>
  (∀ w : World, w.heap = h_16 → (Instr.loadAt 22 t33_1).run P w = .ok t34_1 w) ∧
  pop P (Instr.extract t39_1 0) fun t40_1 =>
  pop P (Instr.extract t39_1 1) fun t41_1 =>
  pop P (Instr.extract t39_1 2) fun t42_1 =>
  eop P (Instr.alloc 43 true (.tuple #[])) h_16 fun w7_1 h_17 =>
  (∀ w : World, w.heap = h_17 → (Instr.loadAt 22 t33_1).run P w = .ok t34_1 w) ∧
  uop P (Instr.storeAt 43 w7_1 t41_1) h_17 fun u_1 h_18 =>
  J_1 [w7_1, t42_1] h_18) ∧
  (eop P (Instr.alloc 43 true (.tuple #[])) h_15 fun w7_2 h_19 =>
  (∀ w : World, w.heap = h_19 → (Instr.loadAt 22 t33_1).run P w = .ok t34_1 w) ∧
  (∀ w : World, w.heap = h_19 → (Instr.loadAt 41 g2_1).run P w = .ok t32_1 w) ∧
  callM P 63 #[t32_1, t38_1] h_19 fun t39_2 h_20 =>
  (∀ w : World, w.heap = h_20 → (Instr.loadAt 22 t33_1).run P w = .ok t34_1 w) ∧
  pop P (Instr.extract t39_2 0) fun t40_2 =>
  pop P (Instr.extract t39_2 1) fun t41_2 =>
  pop P (Instr.extract t39_2 2) fun t42_2 =>
  uop P (Instr.storeAt 43 w7_2 t41_2) h_20 fun u_2 h_21 =>
  J_1 [w7_2, t42_2] h_21)) ∧
  (eop P (Instr.alloc 43 true (.tuple #[])) h_14 fun w7_3 h_22 =>
  (∀ w : World, w.heap = h_22 → (Instr.loadAt 22 t33_1).run P w = .ok t34_1 w) ∧
  (∀ w : World, w.heap = h_22 → (Instr.loadAt 41 g2_1).run P w = .ok t32_1 w) ∧
  eop P (Instr.makeSlice 34 t35_1 t35_1) h_22 fun t36_2 h_23 =>
  (∀ w : World, w.heap = h_23 → (Instr.loadAt 22 t33_1).run P w = .ok t34_1 w) ∧
  (∀ w : World, w.heap = h_23 → (Instr.loadAt 41 g2_1).run P w = .ok t32_1 w) ∧
  pop P (Instr.build 43 #[(0, t36_2), (1, p1_1)]) fun t38_2 =>
  callM P 63 #[t32_1, t38_2] h_23 fun t39_3 h_24 =>
  (∀ w : World, w.heap = h_24 → (Instr.loadAt 22 t33_1).run P w = .ok t34_1 w) ∧
  pop P (Instr.extract t39_3 0) fun t40_3 =>
  pop P (Instr.extract t39_3 1) fun t41_3 =>
  pop P (Instr.extract t39_3 2) fun t42_3 =>
  uop P (Instr.storeAt 43 w7_3 t41_3) h_24 fun u_3 h_25 =>
  J_1 [w7_3, t42_3] h_25)) ∧
  ∀ (junk_1 : Nat → Value) (w7_4 : Value) (period8_1 : Value) (h_26 : Heap), J_1 [w7_4, period8_1] h_26 →
  pop P (binE .eql 3 (.tmp 43) (.const (Value.int IntKind.i64 0)) period8_1 (Value.int IntKind.i64 0)) fun t44_1 =>
  condM t44_1
  (K (.tuple #[(Value.slice none 0 0), (Value.bool false)]) h_26)
  (∃ (I_1 : List Value → Heap → Prop) (μ_1 : List Value → Heap → Nat), I_1 [(Value.int IntKind.i64 0)] h_26 ∧
  ∀ (junk_2 : Nat → Value) (n9_1 : Value) (h_27 : Heap), I_1 [n9_1] h_27 →
  pop P (binA .lss 3 n9_1 period8_1) fun t47_1 =>
  guardM (asG t47_1 true) true (fun k_10 => pop P (Instr.fieldAt 43 w7_4 1) fun t49_1 =>
  k_10 t49_1 h_27) h_27 fun t49_2 h_28 =>
  guardM (asG t47_1 true) true (fun k_11 => rop P (Instr.loadAt 3 t49_2) h_28 fun t50_1 =>
  k_11 t50_1 h_28) h_28 fun t50_2 h_29 =>
  guardM (asG t47_1 true) true (fun k_12 => k_12 p1_1 h_29) h_29 fun t51_1 h_30 =>
  guardM (asG t47_1 true) true (fun k_13 => pop P (binE .neq 3 (.tmp 50) (.tmp 51) t50_2 t51_1) fun t52_1 =>
  k_13 t52_1 h_30) h_30 fun t52_2 h_31 =>
  pop P (pickS t47_1 t52_2 (Value.bool false)) fun t53_1 =>
  condM t53_1
  (rop P (Instr.loadAt 41 g2_1) h_31 fun t57_1 =>
  rop P (Instr.loadAt 43 w7_4) h_31 fun t58_1 =>
  callM P 80 #[t57_1, t58_1] h_31 fun t59_1 h_32 =>
  pop P (Instr.extract t59_1 0) fun t60_1 =>
  pop P (Instr.extract t59_1 1) fun t61_1 =>
  uop P (Instr.storeAt 43 w7_4 t60_1) h_32 fun u_4 h_33 =>
  pop P (binA .add 3 n9_1 (Value.int IntKind.i64 1)) fun t55_1 =>
  I_1 [t55_1] h_33 ∧ μ_1 [t55_1] h_33 < μ_1 [n9_1] h_27)
  (rop P (Instr.loadAt 41 g2_1) h_31 fun t63_1 =>
  rop P (Instr.loadAt 43 w7_4) h_31 fun t64_1 =>
  callM P 74 #[t63_1, t64_1, period8_1] h_31 fun t66_1 h_34 =>
  pop P (Instr.extract t66_1 0) fun t67_1 =>
  pop P (Instr.extract t66_1 1) fun t68_1 =>
  eop P (Instr.alloc 96 true (.tuple #[])) h_34 fun r10_1 h_35 =>
  uop P (Instr.storeAt 96 r10_1 t67_1) h_35 fun u_5 h_36 =>
  pop P (Op.unary .not t68_1) fun t70_1 =>
  guardM (asG t70_1 false) false (fun k_14 => pop P (Instr.fieldAt 43 w7_4 1) fun t72_1 =>
  k_14 t72_1 h_36) h_36 fun t72_2 h_37 =>
  guardM (asG t70_1 false) false (fun k_15 => rop P (Instr.loadAt 3 t72_2) h_37 fun t73_1 =>
  k_15 t73_1 h_37) h_37 fun t73_2 h_38 =>
  guardM (asG t70_1 false) false (fun k_16 => k_16 p1_1 h_38) h_38 fun t74_1 h_39 =>
  guardM (asG t70_1 false) false (fun k_17 => pop P (binE .neq 3 (.tmp 73) (.tmp 74) t73_2 t74_1) fun t75_1 =>
  k_17 t75_1 h_39) h_39 fun t75_2 h_40 =>
  pop P (pickS t70_1 (Value.bool true) t75_2) fun t76_1 =>
  condM t76_1
  (K (.tuple #[(Value.slice none 0 0), (Value.bool false)]) h_40)
  (pop P (Instr.fieldAt 96 r10_1 1) fun t77_1 =>
  rop P (Instr.loadAt 34 t77_1) h_40 fun t78_1 =>
  K (.tuple #[t78_1, (Value.bool true)]) h_40))))
theorem e44 (g0_1 : Value) (p1_1 : Value) (h : Heap) (K : Value → Heap → Prop) : wpA Tryd.prog 79 (anOf [(7, [7, 8]), (250, [9])]) (bodyOf Tryd.f44) 1 (fun A h => resA Tryd.prog A h K [.tmp 4, .tmp 5]) (fun _ _ _ => False) (fun A h => resA Tryd.prog A h K [.tmp 4, .tmp 5]) (aargs [g0_1, p1_1] 0) h = t44 Tryd.prog g0_1 p1_1 h K := by kernel_rfl
theorem c44 (g0_1 : Value) (p1_1 : Value) (h : Heap) (K : Value → Heap → Prop) (H : t44 Tryd.prog g0_1 p1_1 h K) : callM Tryd.prog 44 #[g0_1, p1_1] h K :=
  callM_of_wpA mixed (fn := Tryd.f44) Tryd.func44 (c := bodyOf Tryd.f44) rfl (of_decide_eq_true (by kernel_rfl)) (anOf [(7, [7, 8]), (250, [9])]) 77 79 (by kernel_rfl) rfl [.tmp 4, .tmp 5] (by kernel_rfl) (args := [g0_1, p1_1]) (by rw [e44]; exact H)

/-! impl.EulerTour -/
def t45 (P : Program) (g0_1 : Value) (p1_1 : Value) (h : Heap) (K : Value → Heap → Prop) : Prop :=
  eop P (Instr.box 41 g0_1) h fun g2_1 h_1 =>
  rop P (Instr.loadAt 41 g2_1) h_1 fun t12_1 =>
  eop P (Instr.buildSlice 34 1 #[(0, p1_1)]) h_1 fun t14_1 h_2 =>
  callM P 87 #[t12_1, t14_1] h_2 fun t15_1 h_3 =>
  pop P (Op.unary .not t15_1) fun t16_1 =>
  guardM (asG t16_1 false) false (fun k_1 => rop P (Instr.loadAt 41 g2_1) h_3 fun t18_1 =>
  k_1 t18_1 h_3) h_3 fun t18_2 h_4 =>
  guardM (asG t16_1 false) false (fun k_2 => callM P 88 #[t18_2] h_4 fun t19_1 h_5 =>
  k_2 t19_1 h_5) h_4 fun t19_2 h_6 =>
  guardM (asG t16_1 false) false (fun k_3 => pop P (Op.unary .not t19_2) fun t20_1 =>
  k_3 t20_1 h_6) h_6 fun t20_2 h_7 =>
  pop P (pickS t16_1 (Value.bool true) t20_2) fun t21_1 =>
  guardM (asG t21_1 false) false (fun k_4 => rop P (Instr.loadAt 41 g2_1) h_7 fun t23_1 =>
  k_4 t23_1 h_7) h_7 fun t23_2 h_8 =>
  guardM (asG t21_1 false) false (fun k_5 => callM P 89 #[t23_2] h_8 fun t24_1 h_9 =>
  k_5 t24_1 h_9) h_8 fun t24_2 h_10 =>
  guardM (asG t21_1 false) false (fun k_6 => pop P (Op.unary .not t24_2) fun t25_1 =>
  k_6 t25_1 h_10) h_10 fun t25_2 h_11 =>
  pop P (pickS t21_1 (Value.bool true) t25_2) fun t26_1 =>
  condM t26_1
  (K (.tuple #[(Value.slice none 0 0), (Value.bool false)]) h_11)
  (pop P (Instr.fieldAt 41 g2_1 0) fun t27_1 =>
  rop P (Instr.loadAt 22 t27_1) h_11 fun t28_1 =>
  callM P 90 #[t28_1] h_11 fun t29_1 h_12 =>
  pop P (lenS 34 3 t29_1) fun t30_1 =>
  pop P (Instr.fieldAt 41 g2_1 0) fun t31_1 =>
  rop P (Instr.loadAt 22 t31_1) h_12 fun t32_1 =>
  pop P (lenS 22 3 t32_1) fun t33_1 =>
  eop P (Instr.makeSlice 34 t33_1 t33_1) h_12 fun t34_1 h_13 =>
  pop P (Instr.build 43 #[(0, t34_1), (1, p1_1)]) fun t36_1 =>
  eop P (Instr.alloc 43 true (.tuple #[])) h_13 fun w7_1 h_14 =>
  uop P (Instr.storeAt 43 w7_1 t36_1) h_14 fun u_1 h_15 =>
  rop P (Instr.loadAt 41 g2_1) h_15 fun t38_1 =>
  rop P (Instr.loadAt 43 w7_1) h_15 fun t39_1 =>
  callM P 66 #[t38_1, t39_1] h_15 fun t40_1 h_16 =>
  pop P (Instr.extract t40_1 0) fun t41_1 =>
  pop P (Instr.extract t40_1 1) fun t42_1 =>
  pop P (Instr.extract t40_1 2) fun t43_1 =>
  pop P (binE .eql 3 (.tmp 44) (.const (Value.int IntKind.i64 0)) t30_1 (Value.int IntKind.i64 0)) fun t45_1 =>
  guardM (asG t45_1 false) false (fun k_7 => k_7 t43_1 h_16) h_16 fun t47_1 h_17 =>
  guardM (asG t45_1 false) false (fun k_8 => pop P (Op.unary .not t47_1) fun t48_1 =>
  k_8 t48_1 h_17) h_17 fun t48_2 h_18 =>
  pop P (pickS t45_1 (Value.bool true) t48_2) fun t49_1 =>
  condM t49_1
  (K (.tuple #[(Value.slice none 0 0), (Value.bool false)]) h_18)
  (rop P (Instr.loadAt 41 g2_1) h_18 fun t50_1 =>
  callM P 71 #[t50_1, w7_1, t41_1, (.func (.func 91) #[] #[])] h_18 fun t52_1 h_19 =>
  ∃ (I_1 : List Value → Heap → Prop) (μ_1 : List Value → Heap → Nat), I_1 [] h_19 ∧
  ∀ (junk_1 : Nat → Value) (h_20 : Heap), I_1 [] h_20 →
  pop P (Instr.fieldAt 43 w7_1 1) fun t53_1 =>
  rop P (Instr.loadAt 3 t53_1) h_20 fun t54_1 =>
  pop P (binE .neq 3 (.tmp 54) (.tmp 55) t54_1 p1_1) fun t56_1 =>
  condM t56_1
  (rop P (Instr.loadAt 41 g2_1) h_20 fun t57_1 =>
  callM P 92 #[t57_1, w7_1] h_20 fun t58_1 h_21 =>
  I_1 [] h_21 ∧ μ_1 [] h_21 < μ_1 [] h_20)
  (eop P (Instr.buildSlice 34 1 #[(0, p1_1)]) h_20 fun t60_1 h_22 =>
  eop P (Instr.alloc 34 true (.tuple #[])) h_22 fun out11_1 h_23 =>
  uop P (Instr.storeAt 34 out11_1 t60_1) h_23 fun u_2 h_24 =>
  rop P (Instr.loadAt 41 g2_1) h_24 fun t61_1 =>
  pop P (Instr.makeFunc (Fn.func 93) #[] #[out11_1, w7_1]) fun t63_1 =>
  callM P 71 #[t61_1, w7_1, t30_1, t63_1] h_24 fun t64_1 h_25 =>
  rop P (Instr.loadAt 34 out11_1) h_25 fun t65_1 =>
  K (.tuple #[t65_1, (Value.bool true)]) h_25)))
theorem e45 (g0_1 : Value) (p1_1 : Value) (h : Heap) (K : Value → Heap → Prop) : wpA Tryd.prog 66 (anOf [(1020, [])]) (bodyOf Tryd.f45) 1 (fun A h => resA Tryd.prog A h K [.tmp 4, .tmp 5]) (fun _ _ _ => False) (fun A h => resA Tryd.prog A h K [.tmp 4, .tmp 5]) (aargs [g0_1, p1_1] 0) h = t45 Tryd.prog g0_1 p1_1 h K := by kernel_rfl
theorem c45 (g0_1 : Value) (p1_1 : Value) (h : Heap) (K : Value → Heap → Prop) (H : t45 Tryd.prog g0_1 p1_1 h K) : callM Tryd.prog 45 #[g0_1, p1_1] h K :=
  callM_of_wpA mixed (fn := Tryd.f45) Tryd.func45 (c := bodyOf Tryd.f45) rfl (of_decide_eq_true (by kernel_rfl)) (anOf [(1020, [])]) 64 66 (by kernel_rfl) rfl [.tmp 4, .tmp 5] (by kernel_rfl) (args := [g0_1, p1_1]) (by rw [e45]; exact H)

/-! laws.eqIntS -/
def t46 (P : Program) (a0_1 : Value) (b1_1 : Value) (h : Heap) (K : Value → Heap → Prop) : Prop :=
  pop P (lenS 34 3 a0_1) fun t7_1 =>
  pop P (lenS 34 3 b1_1) fun t9_1 =>
  pop P (binE .neq 3 (.tmp 7) (.tmp 9) t7_1 t9_1) fun t10_1 =>
  condM t10_1
  (K (Value.bool false) h)
  (∃ (I_1 : List Value → Heap → Prop) (μ_1 : List Value → Heap → Nat), I_1 [(Value.int IntKind.i64 0)] h ∧
  ∀ (junk_1 : Nat → Value) (i5_1 : Value) (h_1 : Heap), I_1 [i5_1] h_1 →
  pop P (lenS 34 3 a0_1) fun t13_1 =>
  pop P (binA .lss 3 i5_1 t13_1) fun t14_1 =>
  condM t14_1
  (pop P (Instr.indexAt 34 a0_1 i5_1) fun t19_1 =>
  rop P (Instr.loadAt 3 t19_1) h_1 fun t20_1 =>
  pop P (Instr.indexAt 34 b1_1 i5_1) fun t23_1 =>
  rop P (Instr.loadAt 3 t23_1) h_1 fun t24_1 =>
  pop P (binE .neq 3 (.tmp 20) (.tmp 24) t20_1 t24_1) fun t25_1 =>
  condM t25_1
  (K (Value.bool false) h_1)
  (pop P (binA .add 3 i5_1 (Value.int IntKind.i64 1)) fun t16_1 =>
  I_1 [t16_1] h_1 ∧ μ_1 [t16_1] h_1 < μ_1 [i5_1] h_1))
  (K (Value.bool true) h_1))
theorem e46 (a0_1 : Value) (b1_1 : Value) (h : Heap) (K : Value → Heap → Prop) : wpA Tryd.prog 26 (anOf [(58, [5])]) (bodyOf Tryd.f46) 1 (fun A h => resA Tryd.prog A h K [.tmp 4]) (fun _ _ _ => False) (fun A h => resA Tryd.prog A h K [.tmp 4]) (aargs [a0_1, b1_1] 0) h = t46 Tryd.prog a0_1 b1_1 h K := by kernel_rfl
theorem c46 (a0_1 : Value) (b1_1 : Value) (h : Heap) (K : Value → Heap → Prop) (H : t46 Tryd.prog a0_1 b1_1 h K) : callM Tryd.prog 46 #[a0_1, b1_1] h K :=
  callM_of_wpA mixed (fn := Tryd.f46) Tryd.func46 (c := bodyOf Tryd.f46) rfl (of_decide_eq_true (by kernel_rfl)) (anOf [(58, [5])]) 24 26 (by kernel_rfl) rfl [.tmp 4] (by kernel_rfl) (args := [a0_1, b1_1]) (by rw [e46]; exact H)

/-! laws.markGraph -/
def t47 (P : Program) (a0_1 : Value) (k1_1 : Value) (h : Heap) (K : Value → Heap → Prop) : Prop :=
  eop P (Instr.box 41 a0_1) h fun a2_1 h_1 =>
  pop P (Instr.fieldAt 41 a2_1 0) fun t5_1 =>
  rop P (Instr.loadAt 22 t5_1) h_1 fun t6_1 =>
  callM P 94 #[t6_1, k1_1] h_1 fun t8_1 h_2 =>
  K t8_1 h_2
theorem e47 (a0_1 : Value) (k1_1 : Value) (h : Heap) (K : Value → Heap → Prop) : wpA Tryd.prog 10 (anOf []) (bodyOf Tryd.f47) 1 (fun A h => resA Tryd.prog A h K [.tmp 4]) (fun _ _ _ => False) (fun A h => resA Tryd.prog A h K [.tmp 4]) (aargs [a0_1, k1_1] 0) h = t47 Tryd.prog a0_1 k1_1 h K := by kernel_rfl
theorem c47 (a0_1 : Value) (k1_1 : Value) (h : Heap) (K : Value → Heap → Prop) (H : t47 Tryd.prog a0_1 k1_1 h K) : callM Tryd.prog 47 #[a0_1, k1_1] h K :=
  callM_of_wpA mixed (fn := Tryd.f47) Tryd.func47 (c := bodyOf Tryd.f47) rfl (of_decide_eq_true (by kernel_rfl)) (anOf []) 8 10 (by kernel_rfl) rfl [.tmp 4] (by kernel_rfl) (args := [a0_1, k1_1]) (by rw [e47]; exact H)

/-! laws.markIntS -/
def t48 (P : Program) (a0_1 : Value) (k1_1 : Value) (h : Heap) (K : Value → Heap → Prop) : Prop :=
  ∃ (I_1 : List Value → Heap → Prop) (μ_1 : List Value → Heap → Nat), I_1 [k1_1, (Value.int IntKind.i64 0)] h ∧
  ∀ (junk_1 : Nat → Value) (k1_2 : Value) (i5_1 : Value) (h_1 : Heap), I_1 [k1_2, i5_1] h_1 →
  pop P (lenS 34 3 a0_1) fun t8_1 =>
  pop P (binA .lss 3 i5_1 t8_1) fun t9_1 =>
  condM t9_1
  (pop P (Instr.indexAt 34 a0_1 i5_1) fun t15_1 =>
  uop P (Instr.storeAt 3 t15_1 k1_2) h_1 fun u_1 h_2 =>
  pop P (binA .add 3 k1_2 (Value.int IntKind.i64 1)) fun t17_1 =>
  pop P (binA .add 3 i5_1 (Value.int IntKind.i64 1)) fun t11_1 =>
  I_1 [t17_1, t11_1] h_2 ∧ μ_1 [t17_1, t11_1] h_2 < μ_1 [k1_2, i5_1] h_1)
  (K k1_2 h_1)
theorem e48 (a0_1 : Value) (k1_1 : Value) (h : Heap) (K : Value → Heap → Prop) : wpA Tryd.prog 19 (anOf [(26, [1, 5])]) (bodyOf Tryd.f48) 1 (fun A h => resA Tryd.prog A h K [.tmp 4]) (fun _ _ _ => False) (fun A h => resA Tryd.prog A h K [.tmp 4]) (aargs [a0_1, k1_1] 0) h = t48 Tryd.prog a0_1 k1_1 h K := by kernel_rfl
theorem c48 (a0_1 : Value) (k1_1 : Value) (h : Heap) (K : Value → Heap → Prop) (H : t48 Tryd.prog a0_1 k1_1 h K) : callM Tryd.prog 48 #[a0_1, k1_1] h K :=
  callM_of_wpA mixed (fn := Tryd.f48) Tryd.func48 (c := bodyOf Tryd.f48) rfl (of_decide_eq_true (by kernel_rfl)) (anOf [(26, [1, 5])]) 17 19 (by kernel_rfl) rfl [.tmp 4] (by kernel_rfl) (args := [a0_1, k1_1]) (by rw [e48]; exact H)

/-! laws.heldIntS -/
def t49 (P : Program) (a0_1 : Value) (k1_1 : Value) (h : Heap) (K : Value → Heap → Prop) : Prop :=
  ∃ (I_1 : List Value → Heap → Prop) (μ_1 : List Value → Heap → Nat), I_1 [k1_1, (Value.int IntKind.i64 0)] h ∧
  ∀ (junk_1 : Nat → Value) (k1_2 : Value) (i5_1 : Value) (h_1 : Heap), I_1 [k1_2, i5_1] h_1 →
  pop P (lenS 34 3 a0_1) fun t8_1 =>
  pop P (binA .lss 3 i5_1 t8_1) fun t9_1 =>
  condM t9_1
  (pop P (Instr.indexAt 34 a0_1 i5_1) fun t14_1 =>
  rop P (Instr.loadAt 3 t14_1) h_1 fun t15_1 =>
  pop P (binE .neq 3 (.tmp 15) (.tmp 16) t15_1 k1_2) fun t17_1 =>
  condM t17_1
  (K (Value.int IntKind.i64 (-1)) h_1)
  (pop P (binA .add 3 k1_2 (Value.int IntKind.i64 1)) fun t19_1 =>
  pop P (binA .add 3 i5_1 (Value.int IntKind.i64 1)) fun t11_1 =>
  I_1 [t19_1, t11_1] h_1 ∧ μ_1 [t19_1, t11_1] h_1 < μ_1 [k1_2, i5_1] h_1))
  (K k1_2 h_1)
theorem e49 (a0_1 : Value) (k1_1 : Value) (h : Heap) (K : Value → Heap → Prop) : wpA Tryd.prog 21 (anOf [(26, [1, 5])]) (bodyOf Tryd.f49) 1 (fun A h => resA Tryd.prog A h K [.tmp 4]) (fun _ _ _ => False) (fun A h => resA Tryd.prog A h K [.tmp 4]) (aargs [a0_1, k1_1] 0) h = t49 Tryd.prog a0_1 k1_1 h K := by kernel_rfl
theorem c49 (a0_1 : Value) (k1_1 : Value) (h : Heap) (K : Value → Heap → Prop) (H : t49 Tryd.prog a0_1 k1_1 h K) : callM Tryd.prog 49 #[a0_1, k1_1] h K :=
  callM_of_wpA mixed (fn := Tryd.f49) Tryd.func49 (c := bodyOf Tryd.f49) rfl (of_decide_eq_true (by kernel_rfl)) (anOf [(26, [1, 5])]) 19 21 (by kernel_rfl) rfl [.tmp 4] (by kernel_rfl) (args := [a0_1, k1_1]) (by rw [e49]; exact H)

/-! laws.szIntSS -/
def t50 (P : Program) (a0_1 : Value) (left1_1 : Value) (h : Heap) (K : Value → Heap → Prop) : Prop :=
  pop P (lenS 22 3 a0_1) fun t8_1 =>
  pop P (binA .sub 3 left1_1 t8_1) fun t9_1 =>
  pop P (binA .lss 3 t9_1 (Value.int IntKind.i64 0)) fun t11_1 =>
  condM t11_1
  (K (Value.int IntKind.i64 (-1)) h)
  (∃ (I_1 : List Value → Heap → Prop) (μ_1 : List Value → Heap → Nat), I_1 [t9_1, (Value.int IntKind.i64 0)] h ∧
  ∀ (junk_1 : Nat → Value) (left1_2 : Value) (i5_1 : Value) (h_1 : Heap), I_1 [left1_2, i5_1] h_1 →
  pop P (lenS 22 3 a0_1) fun t14_1 =>
  pop P (binA .lss 3 i5_1 t14_1) fun t15_1 =>
  condM t15_1
  (pop P (Instr.indexAt 22 a0_1 i5_1) fun t20_1 =>
  rop P (Instr.loadAt 34 t20_1) h_1 fun t21_1 =>
  callM P 61 #[t21_1, left1_2] h_1 fun t23_1 h_2 =>
  pop P (binA .lss 3 t23_1 (Value.int IntKind.i64 0)) fun t25_1 =>
  condM t25_1
  (K (Value.int IntKind.i64 (-1)) h_2)
  (pop P (binA .add 3 i5_1 (Value.int IntKind.i64 1)) fun t17_1 =>
  I_1 [t23_1, t17_1] h_2 ∧ μ_1 [t23_1, t17_1] h_2 < μ_1 [left1_2, i5_1] h_1))
  (K left1_2 h_1))
theorem e50 (a0_1 : Value) (left1_1 : Value) (h : Heap) (K : Value → Heap → Prop) : wpA Tryd.prog 27 (anOf [(122, [1, 5])]) (bodyOf Tryd.f50) 1 (fun A h => resA Tryd.prog A h K [.tmp 4]) (fun _ _ _ => False) (fun A h => resA Tryd.prog A h K [.tmp 4]) (aargs [a0_1, left1_1] 0) h = t50 Tryd.prog a0_1 left1_1 h K := by kernel_rfl
theorem c50 (a0_1 : Value) (left1_1 : Value) (h : Heap) (K : Value → Heap → Prop) (H : t50 Tryd.prog a0_1 left1_1 h K) : callM Tryd.prog 50 #[a0_1, left1_1] h K :=
  callM_of_wpA mixed (fn := Tryd.f50) Tryd.func50 (c := bodyOf Tryd.f50) rfl (of_decide_eq_true (by kernel_rfl)) (anOf [(122, [1, 5])]) 25 27 (by kernel_rfl) rfl [.tmp 4] (by kernel_rfl) (args := [a0_1, left1_1]) (by rw [e50]; exact H)

/-! spec.l1In -/
def t51 (P : Program) (n0_1 : Value) (lo1_1 : Value) (hi2_1 : Value) (h : Heap) (K : Value → Heap → Prop) : Prop :=
  pop P (binA .geq 3 n0_1 lo1_1) fun t9_1 =>
  guardM (asG t9_1 true) true (fun k_1 => k_1 n0_1 h) h fun t11_1 h_1 =>
  guardM (asG t9_1 true) true (fun k_2 => k_2 hi2_1 h_1) h_1 fun t12_1 h_2 =>
  guardM (asG t9_1 true) true (fun k_3 => pop P (binA .leq 3 t11_1 t12_1) fun t13_1 =>
  k_3 t13_1 h_2) h_2 fun t13_2 h_3 =>
  pop P (pickS t9_1 t13_2 (Value.bool false)) fun t14_1 =>
  K t14_1 h_3
theorem e51 (n0_1 : Value) (lo1_1 : Value) (hi2_1 : Value) (h : Heap) (K : Value → Heap → Prop) : wpA Tryd.prog 15 (anOf []) (bodyOf Tryd.f51) 1 (fun A h => resA Tryd.prog A h K [.tmp 6]) (fun _ _ _ => False) (fun A h => resA Tryd.prog A h K [.tmp 6]) (aargs [n0_1, lo1_1, hi2_1] 0) h = t51 Tryd.prog n0_1 lo1_1 hi2_1 h K := by kernel_rfl
theorem c51 (n0_1 : Value) (lo1_1 : Value) (hi2_1 : Value) (h : Heap) (K : Value → Heap → Prop) (H : t51 Tryd.prog n0_1 lo1_1 hi2_1 h K) : callM Tryd.prog 51 #[n0_1, lo1_1, hi2_1] h K :=
  callM_of_wpA mixed (fn := Tryd.f51) Tryd.func51 (c := bodyOf Tryd.f51) rfl (of_decide_eq_true (by kernel_rfl)) (anOf []) 12 15 (by kernel_rfl) rfl [.tmp 6] (by kernel_rfl) (args := [n0_1, lo1_1, hi2_1]) (by rw [e51]; exact H)

/-! spec.l1All -/
def t52 (P : Program) (l0_1 : Value) (lo1_1 : Value) (hi2_1 : Value) (h : Heap) (K : Value → Heap → Prop) : Prop :=
  pop P (lenS 34 3 l0_1) fun t10_1 =>
  ∃ (I_1 : List Value → Heap → Prop) (μ_1 : List Value → Heap → Nat), I_1 [(Value.int IntKind.i64 0)] h ∧
  ∀ (junk_1 : Nat → Value) (t11_1 : Value) (h_1 : Heap), I_1 [t11_1] h_1 →
  pop P (binA .lss 3 t11_1 t10_1) fun t12_1 =>
  condM t12_1
  (pop P (Instr.indexAt 34 l0_1 t11_1) fun t13_1 =>
  rop P (Instr.loadAt 3 t13_1) h_1 fun t14_1 =>
  callM P 51 #[t14_1, lo1_1, hi2_1] h_1 fun t18_1 h_2 =>
  pop P (Op.unary .not t18_1) fun t19_1 =>
  condM t19_1
  (K (Value.bool false) h_2)
  (pop P (binA .add 3 t11_1 (Value.int IntKind.i64 1)) fun t20_1 =>
  I_1 [t20_1] h_2 ∧ μ_1 [t20_1] h_2 < μ_1 [t11_1] h_1))
  (K (Value.bool true) h_1)
theorem e52 (l0_1 : Value) (lo1_1 : Value) (hi2_1 : Value) (h : Heap) (K : Value → Heap → Prop) : wpA Tryd.prog 21 (anOf [(26, [11])]) (bodyOf Tryd.f52) 1 (fun A h => resA Tryd.prog A h K [.tmp 6]) (fun _ _ _ => False) (fun A h => resA Tryd.prog A h K [.tmp 6]) (aargs [l0_1, lo1_1, hi2_1] 0) h = t52 Tryd.prog l0_1 lo1_1 hi2_1 h K := by kernel_rfl
theorem c52 (l0_1 : Value) (lo1_1 : Value) (hi2_1 : Value) (h : Heap) (K : Value → Heap → Prop) (H : t52 Tryd.prog l0_1 lo1_1 hi2_1 h K) : callM Tryd.prog 52 #[l0_1, lo1_1, hi2_1] h K :=
  callM_of_wpA mixed (fn := Tryd.f52) Tryd.func52 (c := bodyOf Tryd.f52) rfl (of_decide_eq_true (by kernel_rfl)) (anOf [(26, [11])]) 18 21 (by kernel_rfl) rfl [.tmp 6] (by kernel_rfl) (args := [l0_1, lo1_1, hi2_1]) (by rw [e52]; exact H)

/-! laws.toIntSS -/
def t54 (P : Program) (a0_1 : Value) (h : Heap) (K : Value → Heap → Prop) : Prop :=
  pop P (lenS 22 3 a0_1) fun t6_1 =>
  eop P (Instr.makeSlice 22 t6_1 t6_1) h fun t7_1 h_1 =>
  ∃ (I_1 : List Value → Heap → Prop) (μ_1 : List Value → Heap → Nat), I_1 [(Value.int IntKind.i64 0)] h_1 ∧
  ∀ (junk_1 : Nat → Value) (i4_1 : Value) (h_2 : Heap), I_1 [i4_1] h_2 →
  pop P (lenS 22 3 a0_1) fun t10_1 =>
  pop P (binA .lss 3 i4_1 t10_1) fun t11_1 =>
  condM t11_1
  (pop P (Instr.indexAt 22 a0_1 i4_1) fun t18_1 =>
  rop P (Instr.loadAt 34 t18_1) h_2 fun t19_1 =>
  callM P 64 #[t19_1] h_2 fun t20_1 h_3 =>
  pop P (Instr.indexAt 22 t7_1 i4_1) fun t21_1 =>
  uop P (Instr.storeAt 34 t21_1 t20_1) h_3 fun u_1 h_4 =>
  pop P (binA .add 3 i4_1 (Value.int IntKind.i64 1)) fun t13_1 =>
  I_1 [t13_1] h_4 ∧ μ_1 [t13_1] h_4 < μ_1 [i4_1] h_2)
  (K t7_1 h_2)
theorem e54 (a0_1 : Value) (h : Heap) (K : Value → Heap → Prop) : wpA Tryd.prog 23 (anOf [(58, [4])]) (bodyOf Tryd.f54) 1 (fun A h => resA Tryd.prog A h K [.tmp 2]) (fun _ _ _ => False) (fun A h => resA Tryd.prog A h K [.tmp 2]) (aargs [a0_1] 0) h = t54 Tryd.prog a0_1 h K := by kernel_rfl
theorem c54 (a0_1 : Value) (h : Heap) (K : Value → Heap → Prop) (H : t54 Tryd.prog a0_1 h K) : callM Tryd.prog 54 #[a0_1] h K :=
  callM_of_wpA mixed (fn := Tryd.f54) Tryd.func54 (c := bodyOf Tryd.f54) rfl (of_decide_eq_true (by kernel_rfl)) (anOf [(58, [4])]) 22 23 (by kernel_rfl) rfl [.tmp 2] (by kernel_rfl) (args := [a0_1]) (by rw [e54]; exact H)

/-! impl.in -/
def t55 (P : Program) (n0_1 : Value) (low1_1 : Value) (high2_1 : Value) (h : Heap) (K : Value → Heap → Prop) : Prop :=
  pop P (binA .leq 3 low1_1 n0_1) fun t9_1 =>
  guardM (asG t9_1 true) true (fun k_1 => k_1 n0_1 h) h fun t11_1 h_1 =>
  guardM (asG t9_1 true) true (fun k_2 => k_2 high2_1 h_1) h_1 fun t12_1 h_2 =>
  guardM (asG t9_1 true) true (fun k_3 => pop P (binA .leq 3 t11_1 t12_1) fun t13_1 =>
  k_3 t13_1 h_2) h_2 fun t13_2 h_3 =>
  pop P (pickS t9_1 t13_2 (Value.bool false)) fun t14_1 =>
  K t14_1 h_3
theorem e55 (n0_1 : Value) (low1_1 : Value) (high2_1 : Value) (h : Heap) (K : Value → Heap → Prop) : wpA Tryd.prog 15 (anOf []) (bodyOf Tryd.f55) 1 (fun A h => resA Tryd.prog A h K [.tmp 6]) (fun _ _ _ => False) (fun A h => resA Tryd.prog A h K [.tmp 6]) (aargs [n0_1, low1_1, high2_1] 0) h = t55 Tryd.prog n0_1 low1_1 high2_1 h K := by kernel_rfl
theorem c55 (n0_1 : Value) (low1_1 : Value) (high2_1 : Value) (h : Heap) (K : Value → Heap → Prop) (H : t55 Tryd.prog n0_1 low1_1 high2_1 h K) : callM Tryd.prog 55 #[n0_1, low1_1, high2_1] h K :=
  callM_of_wpA mixed (fn := Tryd.f55) Tryd.func55 (c := bodyOf Tryd.f55) rfl (of_decide_eq_true (by kernel_rfl)) (anOf []) 12 15 (by kernel_rfl) rfl [.tmp 6] (by kernel_rfl) (args := [n0_1, low1_1, high2_1]) (by rw [e55]; exact H)

/-! slices.ContainsFunc[[]int,int] -/
def t56 (P : Program) (s0_1 : Value) (f1_1 : Value) (h : Heap) (K : Value → Heap → Prop) : Prop :=
  callM P 95 #[s0_1, f1_1] h fun t7_1 h_1 =>
  pop P (binA .geq 3 t7_1 (Value.int IntKind.i64 0)) fun t8_1 =>
  K t8_1 h_1
theorem e56 (s0_1 : Value) (f1_1 : Value) (h : Heap) (K : Value → Heap → Prop) : wpA Tryd.prog 9 (anOf []) (bodyOf Tryd.f56) 1 (fun A h => resA Tryd.prog A h K [.tmp 4]) (fun _ _ _ => False) (fun A h => resA Tryd.prog A h K [.tmp 4]) (aargs [s0_1, f1_1] 0) h = t56 Tryd.prog s0_1 f1_1 h K := by kernel_rfl
theorem c56 (s0_1 : Value) (f1_1 : Value) (h : Heap) (K : Value → Heap → Prop) (H : t56 Tryd.prog s0_1 f1_1 h K) : callM Tryd.prog 56 #[s0_1, f1_1] h K :=
  callM_of_wpA mixed (fn := Tryd.f56) Tryd.func56 (c := bodyOf Tryd.f56) rfl (of_decide_eq_true (by kernel_rfl)) (anOf []) 7 9 (by kernel_rfl) rfl [.tmp 4] (by kernel_rfl) (args := [s0_1, f1_1]) (by rw [e56]; exact H)

/-! impl.listText -/
def t58 (P : Program) (list0_1 : Value) (h : Heap) (K : Value → Heap → Prop) : Prop :=
  pop P (lenS 34 3 list0_1) fun t7_1 =>
  pop P (binE .eql 3 (.tmp 7) (.const (Value.int IntKind.i64 0)) t7_1 (Value.int IntKind.i64 0)) fun t8_1 =>
  condM t8_1
  (K (Value.string { data := #[45] }) h)
  (eop P (Instr.buildSlice 79 0 #[]) h fun t9_1 h_1 =>
  pop P (lenS 34 3 list0_1) fun t11_1 =>
  ∃ (I_1 : List Value → Heap → Prop) (μ_1 : List Value → Heap → Nat), I_1 [t9_1, (Value.int IntKind.i64 0)] h_1 ∧
  ∀ (junk_1 : Nat → Value) (words3_1 : Value) (t12_1 : Value) (h_2 : Heap), I_1 [words3_1, t12_1] h_2 →
  pop P (binA .lss 3 t12_1 t11_1) fun t13_1 =>
  condM t13_1
  (pop P (Instr.indexAt 34 list0_1 t12_1) fun t14_1 =>
  rop P (Instr.loadAt 3 t14_1) h_2 fun t15_1 =>
  callM P 96 #[t15_1] h_2 fun t18_1 h_3 =>
  eop P (Instr.buildSlice 79 1 #[(0, t18_1)]) h_3 fun t19_1 h_4 =>
  eop P (appS 79 79 79 words3_1 t19_1) h_4 fun t20_1 h_5 =>
  pop P (binA .add 3 t12_1 (Value.int IntKind.i64 1)) fun t21_1 =>
  I_1 [t20_1, t21_1] h_5 ∧ μ_1 [t20_1, t21_1] h_5 < μ_1 [words3_1, t12_1] h_2)
  (callM P 59 #[words3_1, (Value.string { data := #[44] })] h_2 fun t23_1 h_6 =>
  K t23_1 h_6))
theorem e58 (list0_1 : Value) (h : Heap) (K : Value → Heap → Prop) : wpA Tryd.prog 24 (anOf [(122, [3, 12])]) (bodyOf Tryd.f58) 1 (fun A h => resA Tryd.prog A h K [.tmp 2]) (fun _ _ _ => False) (fun A h => resA Tryd.prog A h K [.tmp 2]) (aargs [list0_1] 0) h = t58 Tryd.prog list0_1 h K := by kernel_rfl
theorem c58 (list0_1 : Value) (h : Heap) (K : Value → Heap → Prop) (H : t58 Tryd.prog list0_1 h K) : callM Tryd.prog 58 #[list0_1] h K :=
  callM_of_wpA mixed (fn := Tryd.f58) Tryd.func58 (c := bodyOf Tryd.f58) rfl (of_decide_eq_true (by kernel_rfl)) (anOf [(122, [3, 12])]) 23 24 (by kernel_rfl) rfl [.tmp 2] (by kernel_rfl) (args := [list0_1]) (by rw [e58]; exact H)

/-! laws.eqIntSS -/
def t60 (P : Program) (a0_1 : Value) (b1_1 : Value) (h : Heap) (K : Value → Heap → Prop) : Prop :=
  pop P (lenS 22 3 a0_1) fun t7_1 =>
  pop P (lenS 22 3 b1_1) fun t9_1 =>
  pop P (binE .neq 3 (.tmp 7) (.tmp 9) t7_1 t9_1) fun t10_1 =>
  condM t10_1
  (K (Value.bool false) h)
  (∃ (I_1 : List Value → Heap → Prop) (μ_1 : List Value → Heap → Nat), I_1 [(Value.int IntKind.i64 0)] h ∧
  ∀ (junk_1 : Nat → Value) (i5_1 : Value) (h_1 : Heap), I_1 [i5_1] h_1 →
  pop P (lenS 22 3 a0_1) fun t13_1 =>
  pop P (binA .lss 3 i5_1 t13_1) fun t14_1 =>
  condM t14_1
  (pop P (Instr.indexAt 22 a0_1 i5_1) fun t19_1 =>
  rop P (Instr.loadAt 34 t19_1) h_1 fun t20_1 =>
  pop P (Instr.indexAt 22 b1_1 i5_1) fun t23_1 =>
  rop P (Instr.loadAt 34 t23_1) h_1 fun t24_1 =>
  callM P 46 #[t20_1, t24_1] h_1 fun t25_1 h_2 =>
  pop P (Op.unary .not t25_1) fun t26_1 =>
  condM t26_1
  (K (Value.bool false) h_2)
  (pop P (binA .add 3 i5_1 (Value.int IntKind.i64 1)) fun t16_1 =>
  I_1 [t16_1] h_2 ∧ μ_1 [t16_1] h_2 < μ_1 [i5_1] h_1))
  (K (Value.bool true) h_1))
theorem e60 (a0_1 : Value) (b1_1 : Value) (h : Heap) (K : Value → Heap → Prop) : wpA Tryd.prog 27 (anOf [(58, [5])]) (bodyOf Tryd.f60) 1 (fun A h => resA Tryd.prog A h K [.tmp 4]) (fun _ _ _ => False) (fun A h => resA Tryd.prog A h K [.tmp 4]) (aargs [a0_1, b1_1] 0) h = t60 Tryd.prog a0_1 b1_1 h K := by kernel_rfl
theorem c60 (a0_1 : Value) (b1_1 : Value) (h : Heap) (K : Value → Heap → Prop) (H : t60 Tryd.prog a0_1 b1_1 h K) : callM Tryd.prog 60 #[a0_1, b1_1] h K :=
  callM_of_wpA mixed (fn := Tryd.f60) Tryd.func60 (c := bodyOf Tryd.f60) rfl (of_decide_eq_true (by kernel_rfl)) (anOf [(58, [5])]) 25 27 (by kernel_rfl) rfl [.tmp 4] (by kernel_rfl) (args := [a0_1, b1_1]) (by rw [e60]; exact H)

/-! laws.szIntS -/
def t61 (P : Program) (a0_1 : Value) (left1_1 : Value) (h : Heap) (K : Value → Heap → Prop) : Prop :=
  pop P (lenS 34 3 a0_1) fun t7_1 =>
  pop P (binA .sub 3 left1_1 t7_1) fun t8_1 =>
  pop P (binA .lss 3 t8_1 (Value.int IntKind.i64 0)) fun t10_1 =>
  condM t10_1
  (K (Value.int IntKind.i64 (-1)) h)
  (K t8_1 h)
theorem e61 (a0_1 : Value) (left1_1 : Value) (h : Heap) (K : Value → Heap → Prop) : wpA Tryd.prog 12 (anOf []) (bodyOf Tryd.f61) 1 (fun A h => resA Tryd.prog A h K [.tmp 4]) (fun _ _ _ => False) (fun A h => resA Tryd.prog A h K [.tmp 4]) (aargs [a0_1, left1_1] 0) h = t61 Tryd.prog a0_1 left1_1 h K := by kernel_rfl
theorem c61 (a0_1 : Value) (left1_1 : Value) (h : Heap) (K : Value → Heap → Prop) (H : t61 Tryd.prog a0_1 left1_1 h K) : callM Tryd.prog 61 #[a0_1, left1_1] h K :=
  callM_of_wpA mixed (fn := Tryd.f61) Tryd.func61 (c := bodyOf Tryd.f61) rfl (of_decide_eq_true (by kernel_rfl)) (anOf []) 10 12 (by kernel_rfl) rfl [.tmp 4] (by kernel_rfl) (args := [a0_1, left1_1]) (by rw [e61]; exact H)

/-! spec.waPeriod -/
def t63 (P : Program) (g0_1 : Value) (w1_1 : Value) (h : Heap) (K : Value → Heap → Prop) : Prop :=
  eop P (Instr.box 41 g0_1) h fun g2_1 h_1 =>
  eop P (Instr.box 43 w1_1) h_1 fun w3_1 h_2 =>
  eop P (Instr.alloc 43 true (.tuple #[])) h_2 fun t5_1 h_3 =>
  ∃ J_1 : List Value → Heap → Prop, (rop P (Instr.loadAt 43 w3_1) h_3 fun t22_1 =>
  rop P (Instr.loadAt 43 w3_1) h_3 fun t23_1 =>
  (eop P (Instr.alloc 43 true (.tuple #[])) h_3 fun slow7_1 h_4 =>
  (∀ w : World, w.heap = h_4 → (Instr.loadAt 43 w3_1).run P w = .ok t23_1 w) ∧
  (∀ w : World, w.heap = h_4 → (Instr.loadAt 43 w3_1).run P w = .ok t22_1 w) ∧
  eop P (Instr.alloc 43 true (.tuple #[])) h_4 fun fast8_1 h_5 =>
  (∀ w : World, w.heap = h_5 → (Instr.loadAt 43 w3_1).run P w = .ok t23_1 w) ∧
  (∀ w : World, w.heap = h_5 → (Instr.loadAt 43 w3_1).run P w = .ok t22_1 w) ∧
  uop P (Instr.storeAt 43 slow7_1 t22_1) h_5 fun u_1 h_6 =>
  (∀ w : World, w.heap = h_6 → (Instr.loadAt 43 w3_1).run P w = .ok t23_1 w) ∧
  uop P (Instr.storeAt 43 fast8_1 t23_1) h_6 fun u_2 h_7 =>
  J_1 [slow7_1, fast8_1] h_7) ∧
  (eop P (Instr.alloc 43 true (.tuple #[])) h_3 fun fast8_2 h_8 =>
  (∀ w : World, w.heap = h_8 → (Instr.loadAt 43 w3_1).run P w = .ok t23_1 w) ∧
  (∀ w : World, w.heap = h_8 → (Instr.loadAt 43 w3_1).run P w = .ok t22_1 w) ∧
  eop P (Instr.alloc 43 true (.tuple #[])) h_8 fun slow7_2 h_9 =>
  (∀ w : World, w.heap = h_9 → (Instr.loadAt 43 w3_1).run P w = .ok t23_1 w) ∧
  (∀ w : World, w.heap = h_9 → (Instr.loadAt 43 w3_1).run P w = .ok t22_1 w) ∧
  uop P (Instr.storeAt 43 slow7_2 t22_1) h_9 fun u_3 h_10 =>
  (∀ w : World, w.heap = h_10 → (Instr.loadAt 43 w3_1).run P w = .ok t23_1 w) ∧
  uop P (Instr.storeAt 43 fast8_2 t23_1) h_10 fun u_4 h_11 =>
  J_1 [slow7_2, fast8_2] h_11)) ∧
  ∀ (junk_1 : Nat → Value) (slow7_3 : Value) (fast8_3 : Value) (h_12 : Heap), J_1 [slow7_3, fast8_3] h_12 →
  ∃ (I_1 : List Value → Heap → Prop) (μ_1 : List Value → Heap → Nat), I_1 [(Value.bool false), (Value.int IntKind.i64 1)] h_12 ∧
  ∀ (junk_2 : Nat → Value) (met9_1 : Value) (n10_1 : Value) (h_13 : Heap), I_1 [met9_1, n10_1] h_13 →
  pop P (binA .mul 3 (Value.int IntKind.i64 2) n10_1) fun t25_1 =>
  pop P (binA .leq 3 t25_1 (Value.int IntKind.i64 4000)) fun t26_1 =>
  guardM (asG t26_1 true) true (fun k_1 => k_1 met9_1 h_13) h_13 fun t28_1 h_14 =>
  guardM (asG t26_1 true) true (fun k_2 => pop P (Op.unary .not t28_1) fun t29_1 =>
  k_2 t29_1 h_14) h_14 fun t29_2 h_15 =>
  pop P (pickS t26_1 t29_2 (Value.bool false)) fun t30_1 =>
  condM t30_1
  (rop P (Instr.loadAt 41 g2_1) h_15 fun t34_1 =>
  rop P (Instr.loadAt 43 slow7_3) h_15 fun t35_1 =>
  callM P 80 #[t34_1, t35_1] h_15 fun t36_1 h_16 =>
  pop P (Instr.extract t36_1 0) fun t37_1 =>
  pop P (Instr.extract t36_1 1) fun t38_1 =>
  eop P (Instr.alloc 43 true (.tuple #[])) h_16 fun one11_1 h_17 =>
  uop P (Instr.storeAt 43 one11_1 t37_1) h_17 fun u_5 h_18 =>
  rop P (Instr.loadAt 41 g2_1) h_18 fun t40_1 =>
  rop P (Instr.loadAt 43 fast8_3) h_18 fun t41_1 =>
  callM P 80 #[t40_1, t41_1] h_18 fun t42_1 h_19 =>
  pop P (Instr.extract t42_1 0) fun t43_1 =>
  pop P (Instr.extract t42_1 1) fun t44_1 =>
  eop P (Instr.alloc 43 true (.tuple #[])) h_19 fun two13_1 h_20 =>
  uop P (Instr.storeAt 43 two13_1 t43_1) h_20 fun u_6 h_21 =>
  pop P (Op.unary .not t38_1) fun t46_1 =>
  guardM (asG t46_1 false) false (fun k_3 => k_3 t44_1 h_21) h_21 fun t48_1 h_22 =>
  guardM (asG t46_1 false) false (fun k_4 => pop P (Op.unary .not t48_1) fun t49_1 =>
  k_4 t49_1 h_22) h_22 fun t49_2 h_23 =>
  pop P (pickS t46_1 (Value.bool true) t49_2) fun t50_1 =>
  condM t50_1
  (rop P (Instr.loadAt 43 w3_1) h_23 fun t51_1 =>
  uop P (Instr.storeAt 43 t5_1 t51_1) h_23 fun u_7 h_24 =>
  rop P (Instr.loadAt 43 t5_1) h_24 fun r_1 =>
  K (.tuple #[(Value.int IntKind.i64 0), r_1, (Value.int IntKind.i64 0)]) h_24)
  (rop P (Instr.loadAt 41 g2_1) h_23 fun t53_1 =>
  rop P (Instr.loadAt 43 two13_1) h_23 fun t54_1 =>
  callM P 80 #[t53_1, t54_1] h_23 fun t55_1 h_25 =>
  pop P (Instr.extract t55_1 0) fun t56_1 =>
  pop P (Instr.extract t55_1 1) fun t57_1 =>
  eop P (Instr.alloc 43 true (.tuple #[])) h_25 fun three15_1 h_26 =>
  uop P (Instr.storeAt 43 three15_1 t56_1) h_26 fun u_8 h_27 =>
  pop P (Op.unary .not t57_1) fun t59_1 =>
  condM t59_1
  (rop P (Instr.loadAt 43 w3_1) h_27 fun t60_1 =>
  uop P (Instr.storeAt 43 t5_1 t60_1) h_27 fun u_9 h_28 =>
  rop P (Instr.loadAt 43 t5_1) h_28 fun r_2 =>
  K (.tuple #[(Value.int IntKind.i64 0), r_2, (Value.int IntKind.i64 0)]) h_28)
  (rop P (Instr.loadAt 43 one11_1) h_27 fun t61_1 =>
  uop P (Instr.storeAt 43 slow7_3 t61_1) h_27 fun u_10 h_29 =>
  rop P (Instr.loadAt 43 three15_1) h_29 fun t62_1 =>
  uop P (Instr.storeAt 43 fast8_3 t62_1) h_29 fun u_11 h_30 =>
  rop P (Instr.loadAt 43 slow7_3) h_30 fun t63_1 =>
  rop P (Instr.loadAt 43 fast8_3) h_30 fun t64_1 =>
  callM P 101 #[t63_1, t64_1] h_30 fun t65_1 h_31 =>
  pop P (binA .add 3 n10_1 (Value.int IntKind.i64 1)) fun t32_1 =>
  I_1 [t65_1, t32_1] h_31 ∧ μ_1 [t65_1, t32_1] h_31 < μ_1 [met9_1, n10_1] h_13)))
  (pop P (Op.unary .not met9_1) fun t67_1 =>
  condM t67_1
  (rop P (Instr.loadAt 43 w3_1) h_15 fun t68_1 =>
  uop P (Instr.storeAt 43 t5_1 t68_1) h_15 fun u_12 h_32 =>
  rop P (Instr.loadAt 43 t5_1) h_32 fun r_3 =>
  K (.tuple #[(Value.int IntKind.i64 0), r_3, (Value.int IntKind.i64 0)]) h_32)
  (rop P (Instr.loadAt 41 g2_1) h_15 fun t69_1 =>
  rop P (Instr.loadAt 43 slow7_3) h_15 fun t70_1 =>
  callM P 102 #[t69_1, t70_1, (Value.int IntKind.i64 2000)] h_15 fun t71_1 h_33 =>
  pop P (binE .eql 3 (.tmp 72) (.const (Value.int IntKind.i64 0)) t71_1 (Value.int IntKind.i64 0)) fun t73_1 =>
  condM t73_1
  (rop P (Instr.loadAt 43 w3_1) h_33 fun t74_1 =>
  uop P (Instr.storeAt 43 t5_1 t74_1) h_33 fun u_13 h_34 =>
  rop P (Instr.loadAt 43 t5_1) h_34 fun r_4 =>
  K (.tuple #[(Value.int IntKind.i64 0), r_4, (Value.int IntKind.i64 0)]) h_34)
  (∃ J_2 : List Value → Heap → Prop, (rop P (Instr.loadAt 43 w3_1) h_33 fun t75_1 =>
  rop P (Instr.loadAt 43 w3_1) h_33 fun t76_1 =>
  (eop P (Instr.alloc 43 true (.tuple #[])) h_33 fun first18_1 h_35 =>
  (∀ w : World, w.heap = h_35 → (Instr.loadAt 43 w3_1).run P w = .ok t76_1 w) ∧
  (∀ w : World, w.heap = h_35 → (Instr.loadAt 43 w3_1).run P w = .ok t75_1 w) ∧
  eop P (Instr.alloc 43 true (.tuple #[])) h_35 fun second19_1 h_36 =>
  (∀ w : World, w.heap = h_36 → (Instr.loadAt 43 w3_1).run P w = .ok t76_1 w) ∧
  (∀ w : World, w.heap = h_36 → (Instr.loadAt 43 w3_1).run P w = .ok t75_1 w) ∧
  uop P (Instr.storeAt 43 first18_1 t75_1) h_36 fun u_14 h_37 =>
  (∀ w : World, w.heap = h_37 → (Instr.loadAt 43 w3_1).run P w = .ok t76_1 w) ∧
  uop P (Instr.storeAt 43 second19_1 t76_1) h_37 fun u_15 h_38 =>
  J_2 [first18_1, second19_1] h_38) ∧
  (eop P (Instr.alloc 43 true (.tuple #[])) h_33 fun second19_2 h_39 =>
  (∀ w : World, w.heap = h_39 → (Instr.loadAt 43 w3_1).run P w = .ok t76_1 w) ∧
  (∀ w : World, w.heap = h_39 → (Instr.loadAt 43 w3_1).run P w = .ok t75_1 w) ∧
  eop P (Instr.alloc 43 true (.tuple #[])) h_39 fun first18_2 h_40 =>
  (∀ w : World, w.heap = h_40 → (Instr.loadAt 43 w3_1).run P w = .ok t76_1 w) ∧
  (∀ w : World, w.heap = h_40 → (Instr.loadAt 43 w3_1).run P w = .ok t75_1 w) ∧
  uop P (Instr.storeAt 43 first18_2 t75_1) h_40 fun u_16 h_41 =>
  (∀ w : World, w.heap = h_41 → (Instr.loadAt 43 w3_1).run P w = .ok t76_1 w) ∧
  uop P (Instr.storeAt 43 second19_2 t76_1) h_41 fun u_17 h_42 =>
  J_2 [first18_2, second19_2] h_42)) ∧
  ∀ (junk_3 : Nat → Value) (first18_3 : Value) (second19_3 : Value) (h_43 : Heap), J_2 [first18_3, second19_3] h_43 →
  ∃ (I_2 : List Value → Heap → Prop) (μ_2 : List Value → Heap → Nat), I_2 [(Value.int IntKind.i64 0)] h_43 ∧
  ∀ (junk_4 : Nat → Value) (n20_1 : Value) (h_44 : Heap), I_2 [n20_1] h_44 →
  pop P (binA .lss 3 n20_1 t71_1) fun t79_1 =>
  condM t79_1
  (rop P (Instr.loadAt 41 g2_1) h_44 fun t83_1 =>
  rop P (Instr.loadAt 43 second19_3) h_44 fun t84_1 =>
  callM P 80 #[t83_1, t84_1] h_44 fun t85_1 h_45 =>
  pop P (Instr.extract t85_1 0) fun t86_1 =>
  pop P (Instr.extract t85_1 1) fun t87_1 =>
  uop P (Instr.storeAt 43 second19_3 t86_1) h_45 fun u_18 h_46 =>
  pop P (binA .add 3 n20_1 (Value.int IntKind.i64 1)) fun t81_1 =>
  I_2 [t81_1] h_46 ∧ μ_2 [t81_1] h_46 < μ_2 [n20_1] h_44)
  (∃ (I_3 : List Value → Heap → Prop) (μ_3 : List Value → Heap → Nat), I_3 [(Value.int IntKind.i64 0)] h_44 ∧
  ∀ (junk_5 : Nat → Value) (start21_1 : Value) (h_47 : Heap), I_3 [start21_1] h_47 →
  rop P (Instr.loadAt 43 first18_3) h_47 fun t88_1 =>
  rop P (Instr.loadAt 43 second19_3) h_47 fun t89_1 =>
  callM P 101 #[t88_1, t89_1] h_47 fun t90_1 h_48 =>
  pop P (Op.unary .not t90_1) fun t91_1 =>
  guardM (asG t91_1 true) true (fun k_5 => k_5 start21_1 h_48) h_48 fun t93_1 h_49 =>
  guardM (asG t91_1 true) true (fun k_6 => pop P (binA .leq 3 t93_1 (Value.int IntKind.i64 2000)) fun t94_1 =>
  k_6 t94_1 h_49) h_49 fun t94_2 h_50 =>
  pop P (pickS t91_1 t94_2 (Value.bool false)) fun t95_1 =>
  condM t95_1
  (rop P (Instr.loadAt 41 g2_1) h_50 fun t97_1 =>
  rop P (Instr.loadAt 43 first18_3) h_50 fun t98_1 =>
  callM P 80 #[t97_1, t98_1] h_50 fun t99_1 h_51 =>
  pop P (Instr.extract t99_1 0) fun t100_1 =>
  pop P (Instr.extract t99_1 1) fun t101_1 =>
  uop P (Instr.storeAt 43 first18_3 t100_1) h_51 fun u_19 h_52 =>
  rop P (Instr.loadAt 41 g2_1) h_52 fun t103_1 =>
  rop P (Instr.loadAt 43 second19_3) h_52 fun t104_1 =>
  callM P 80 #[t103_1, t104_1] h_52 fun t105_1 h_53 =>
  pop P (Instr.extract t105_1 0) fun t106_1 =>
  pop P (Instr.extract t105_1 1) fun t107_1 =>
  uop P (Instr.storeAt 43 second19_3 t106_1) h_53 fun u_20 h_54 =>
  pop P (binA .add 3 start21_1 (Value.int IntKind.i64 1)) fun t109_1 =>
  I_3 [t109_1] h_54 ∧ μ_3 [t109_1] h_54 < μ_3 [start21_1] h_47)
  (pop P (binA .add 3 start21_1 t71_1) fun t112_1 =>
  pop P (binA .gtr 3 t112_1 (Value.int IntKind.i64 2000)) fun t113_1 =>
  condM t113_1
  (rop P (Instr.loadAt 43 w3_1) h_50 fun t114_1 =>
  uop P (Instr.storeAt 43 t5_1 t114_1) h_50 fun u_21 h_55 =>
  rop P (Instr.loadAt 43 t5_1) h_55 fun r_5 =>
  K (.tuple #[(Value.int IntKind.i64 0), r_5, (Value.int IntKind.i64 0)]) h_55)
  (rop P (Instr.loadAt 43 first18_3) h_50 fun t116_1 =>
  uop P (Instr.storeAt 43 t5_1 t116_1) h_50 fun u_22 h_56 =>
  rop P (Instr.loadAt 43 t5_1) h_56 fun r_6 =>
  K (.tuple #[start21_1, r_6, t71_1]) h_56))))))
theorem e63 (g0_1 : Value) (w1_1 : Value) (h : Heap) (K : Value → Heap → Prop) : wpA Tryd.prog 118 (anOf [(3, [7, 8]), (122, [9, 10]), (255, [18, 19]), (4090, [20]), (8188, [21])]) (bodyOf Tryd.f63) 1 (fun A h => resA Tryd.prog A h K [.tmp 4, .cell 5 43, .tmp 6]) (fun _ _ _ => False) (fun A h => resA Tryd.prog A h K [.tmp 4, .cell 5 43, .tmp 6]) (aargs [g0_1, w1_1] 0) h = t63 Tryd.prog g0_1 w1_1 h K := by kernel_rfl
theorem c63 (g0_1 : Value) (w1_1 : Value) (h : Heap) (K : Value → Heap → Prop) (H : t63 Tryd.prog g0_1 w1_1 h K) : callM Tryd.prog 63 #[g0_1, w1_1] h K :=
  callM_of_wpA mixed (fn := Tryd.f63) Tryd.func63 (c := bodyOf Tryd.f63) rfl (of_decide_eq_true (by kernel_rfl)) (anOf [(3, [7, 8]), (122, [9, 10]), (255, [18, 19]), (4090, [20]), (8188, [21])]) 116 118 (by kernel_rfl) rfl [.tmp 4, .cell 5 43, .tmp 6] (by kernel_rfl) (args := [g0_1, w1_1]) (by rw [e63]; exact H)

/-! laws.toIntS -/
def t64 (P : Program) (a0_1 : Value) (h : Heap) (K : Value → Heap → Prop) : Prop :=
  pop P (lenS 34 3 a0_1) fun t6_1 =>
  eop P (Instr.makeSlice 34 t6_1 t6_1) h fun t7_1 h_1 =>
  ∃ (I_1 : List Value → Heap → Prop) (μ_1 : List Value → Heap → Nat), I_1 [(Value.int IntKind.i64 0)] h_1 ∧
  ∀ (junk_1 : Nat → Value) (i4_1 : Value) (h_2 : Heap), I_1 [i4_1] h_2 →
  pop P (lenS 34 3 a0_1) fun t10_1 =>
  pop P (binA .lss 3 i4_1 t10_1) fun t11_1 =>
  condM t11_1
  (pop P (Instr.indexAt 34 a0_1 i4_1) fun t18_1 =>
  rop P (Instr.loadAt 3 t18_1) h_2 fun t19_1 =>
  pop P (Instr.indexAt 34 t7_1 i4_1) fun t20_1 =>
  uop P (Instr.storeAt 3 t20_1 t19_1) h_2 fun u_1 h_3 =>
  pop P (binA .add 3 i4_1 (Value.int IntKind.i64 1)) fun t13_1 =>
  I_1 [t13_1] h_3 ∧ μ_1 [t13_1] h_3 < μ_1 [i4_1] h_2)
  (K t7_1 h_2)
theorem e64 (a0_1 : Value) (h : Heap) (K : Value → Heap → Prop) : wpA Tryd.prog 22 (anOf [(58, [4])]) (bodyOf Tryd.f64) 1 (fun A h => resA Tryd.prog A h K [.tmp 2]) (fun _ _ _ => False) (fun A h => resA Tryd.prog A h K [.tmp 2]) (aargs [a0_1] 0) h = t64 Tryd.prog a0_1 h K := by kernel_rfl
theorem c64 (a0_1 : Value) (h : Heap) (K : Value → Heap → Prop) (H : t64 Tryd.prog a0_1 h K) : callM Tryd.prog 64 #[a0_1] h K :=
  callM_of_wpA mixed (fn := Tryd.f64) Tryd.func64 (c := bodyOf Tryd.f64) rfl (of_decide_eq_true (by kernel_rfl)) (anOf [(58, [4])]) 21 22 (by kernel_rfl) rfl [.tmp 2] (by kernel_rfl) (args := [a0_1]) (by rw [e64]; exact H)

/-! (impl.Graph).period -/
def t66 (P : Program) (g0_1 : Value) (w1_1 : Value) (h : Heap) (K : Value → Heap → Prop) : Prop :=
  eop P (Instr.box 41 g0_1) h fun g2_1 h_1 =>
  eop P (Instr.box 43 w1_1) h_1 fun w3_1 h_2 =>
  eop P (Instr.makeMap 118 none) h_2 fun t13_1 h_3 =>
  rop P (Instr.loadAt 43 w3_1) h_3 fun t14_1 =>
  callM P 69 #[t14_1] h_3 fun t15_1 h_4 =>
  eop P (Instr.alloc 43 true (.tuple #[])) h_4 fun now8_1 h_5 =>
  uop P (Instr.storeAt 43 now8_1 t15_1) h_5 fun u_1 h_6 =>
  ∃ J_1 : List Value → Heap → Prop, (∃ (I_1 : List Value → Heap → Prop) (μ_1 : List Value → Heap → Nat), I_1 [(Value.int IntKind.i64 0)] h_6 ∧
  ∀ (junk_1 : Nat → Value) (n9_1 : Value) (h_7 : Heap), I_1 [n9_1] h_7 →
  pop P (binA .leq 3 n9_1 (Value.int IntKind.i64 2000)) fun t17_1 =>
  condM t17_1
  (rop P (Instr.loadAt 43 now8_1) h_7 fun t20_1 =>
  callM P 82 #[t20_1] h_7 fun t21_1 h_8 =>
  rop P (Instr.lookup 118 t13_1 t21_1 true) h_8 fun t25_1 =>
  pop P (Instr.extract t25_1 0) fun t26_1 =>
  pop P (Instr.extract t25_1 1) fun t27_1 =>
  condM t27_1
  (pop P (binA .sub 3 n9_1 t26_1) fun t32_1 =>
  K (.tuple #[t26_1, t32_1, (Value.bool true)]) h_8)
  (uop P (Instr.mapUpdate 118 t13_1 t21_1 n9_1) h_8 fun u_2 h_9 =>
  rop P (Instr.loadAt 41 g2_1) h_9 fun t36_1 =>
  callM P 92 #[t36_1, now8_1] h_9 fun t37_1 h_10 =>
  pop P (Op.unary .not t37_1) fun t38_1 =>
  condM t38_1
  (J_1 [] h_10)
  (pop P (binA .add 3 n9_1 (Value.int IntKind.i64 1)) fun t19_1 =>
  I_1 [t19_1] h_10 ∧ μ_1 [t19_1] h_10 < μ_1 [n9_1] h_7)))
  (J_1 [] h_7)) ∧
  ∀ (junk_2 : Nat → Value) (h_11 : Heap), J_1 [] h_11 →
  K (.tuple #[(Value.int IntKind.i64 0), (Value.int IntKind.i64 0), (Value.bool false)]) h_11
theorem e66 (g0_1 : Value) (w1_1 : Value) (h : Heap) (K : Value → Heap → Prop) : wpA Tryd.prog 39 (anOf [(7, []), (58, [9])]) (bodyOf Tryd.f66) 1 (fun A h => resA Tryd.prog A h K [.tmp 4, .tmp 5, .tmp 6]) (fun _ _ _ => False) (fun A h => resA Tryd.prog A h K [.tmp 4, .tmp 5, .tmp 6]) (aargs [g0_1, w1_1] 0) h = t66 Tryd.prog g0_1 w1_1 h K := by kernel_rfl
theorem c66 (g0_1 : Value) (w1_1 : Value) (h : Heap) (K : Value → Heap → Prop) (H : t66 Tryd.prog g0_1 w1_1 h K) : callM Tryd.prog 66 #[g0_1, w1_1] h K :=
  callM_of_wpA mixed (fn := Tryd.f66) Tryd.func66 (c := bodyOf Tryd.f66) rfl (of_decide_eq_true (by kernel_rfl)) (anOf [(7, []), (58, [9])]) 37 39 (by kernel_rfl) rfl [.tmp 4, .tmp 5, .tmp 6] (by kernel_rfl) (args := [g0_1, w1_1]) (by rw [e66]; exact H)

/-! (impl.Walk).copied -/
def t69 (P : Program) (w0_1 : Value) (h : Heap) (K : Value → Heap → Prop) : Prop :=
  eop P (Instr.box 43 w0_1) h fun w1_1 h_1 =>
  eop P (Instr.alloc 43 true (.tuple #[])) h_1 fun t2_1 h_2 =>
  pop P (Instr.fieldAt 43 w1_1 0) fun t3_1 =>
  rop P (Instr.loadAt 34 t3_1) h_2 fun t4_1 =>
  pop P (Instr.fieldAt 43 w1_1 1) fun t6_1 =>
  rop P (Instr.loadAt 3 t6_1) h_2 fun t7_1 =>
  callM P 105 #[t4_1] h_2 fun t5_1 h_3 =>
  (∀ w : World, w.heap = h_3 → (Instr.loadAt 3 t6_1).run P w = .ok t7_1 w) ∧
  pop P (Instr.build 43 #[(0, t5_1), (1, t7_1)]) fun t8_1 =>
  uop P (Instr.storeAt 43 t2_1 t8_1) h_3 fun u_1 h_4 =>
  rop P (Instr.loadAt 43 t2_1) h_4 fun r_1 =>
  K r_1 h_4
theorem e69 (w0_1 : Value) (h : Heap) (K : Value → Heap → Prop) : wpA Tryd.prog 9 (anOf []) (bodyOf Tryd.f69) 1 (fun A h => resA Tryd.prog A h K [.cell 2 43]) (fun _ _ _ => False) (fun A h => resA Tryd.prog A h K [.cell 2 43]) (aargs [w0_1] 0) h = t69 Tryd.prog w0_1 h K := by kernel_rfl
theorem c69 (w0_1 : Value) (h : Heap) (K : Value → Heap → Prop) (H : t69 Tryd.prog w0_1 h K) : callM Tryd.prog 69 #[w0_1] h K :=
  callM_of_wpA mixed (fn := Tryd.f69) Tryd.func69 (c := bodyOf Tryd.f69) rfl (of_decide_eq_true (by kernel_rfl)) (anOf []) 8 9 (by kernel_rfl) rfl [.cell 2 43] (by kernel_rfl) (args := [w0_1]) (by rw [e69]; exact H)

/-! (impl.Graph).run -/
def t71 (P : Program) (g0_1 : Value) (w1_1 : Value) (n2_1 : Value) (with3_1 : Value) (h : Heap) (K : Value → Heap → Prop) : Prop :=
  eop P (Instr.box 41 g0_1) h fun g4_1 h_1 =>
  ∃ (I_1 : List Value → Heap → Prop) (μ_1 : List Value → Heap → Nat), I_1 [(Value.int IntKind.i64 0)] h_1 ∧
  ∀ (junk_1 : Nat → Value) (t11_1 : Value) (h_2 : Heap), I_1 [t11_1] h_2 →
  pop P (binA .lss 3 t11_1 n2_1) fun t12_1 =>
  condM t12_1
  (pop P (nilS w1_1) fun t14_1 =>
  pop P (Instr.fieldAt 43 t14_1 1) fun t15_1 =>
  rop P (Instr.loadAt 3 t15_1) h_2 fun t16_1 =>
  rop P (Instr.loadAt 41 g4_1) h_2 fun t17_1 =>
  callM P 92 #[t17_1, w1_1] h_2 fun t19_1 h_3 =>
  pop P (Op.unary .not t19_1) fun t20_1 =>
  condM t20_1
  (K (Value.bool false) h_3)
  (callV P with3_1 [t16_1] h_3 fun t23_1 h_4 =>
  pop P (binA .add 3 t11_1 (Value.int IntKind.i64 1)) fun t24_1 =>
  I_1 [t24_1] h_4 ∧ μ_1 [t24_1] h_4 < μ_1 [t11_1] h_2))
  (K (Value.bool true) h_2)
theorem e71 (g0_1 : Value) (w1_1 : Value) (n2_1 : Value) (with3_1 : Value) (h : Heap) (K : Value → Heap → Prop) : wpA Tryd.prog 25 (anOf [(26, [11])]) (bodyOf Tryd.f71) 1 (fun A h => resA Tryd.prog A h K [.tmp 8]) (fun _ _ _ => False) (fun A h => resA Tryd.prog A h K [.tmp 8]) (aargs [g0_1, w1_1, n2_1, with3_1] 0) h = t71 Tryd.prog g0_1 w1_1 n2_1 with3_1 h K := by kernel_rfl
theorem c71 (g0_1 : Value) (w1_1 : Value) (n2_1 : Value) (with3_1 : Value) (h : Heap) (K : Value → Heap → Prop) (H : t71 Tryd.prog g0_1 w1_1 n2_1 with3_1 h K) : callM Tryd.prog 71 #[g0_1, w1_1, n2_1, with3_1] h K :=
  callM_of_wpA mixed (fn := Tryd.f71) Tryd.func71 (c := bodyOf Tryd.f71) rfl (of_decide_eq_true (by kernel_rfl)) (anOf [(26, [11])]) 21 25 (by kernel_rfl) rfl [.tmp 8] (by kernel_rfl) (args := [g0_1, w1_1, n2_1, with3_1]) (by rw [e71]; exact H)

/-! spec.waGo -/
def t74 (P : Program) (g0_1 : Value) (w1_1 : Value) (n2_1 : Value) (h : Heap) (K : Value → Heap → Prop) : Prop :=
  eop P (Instr.box 41 g0_1) h fun g3_1 h_1 =>
  eop P (Instr.box 43 w1_1) h_1 fun w4_1 h_2 =>
  eop P (Instr.alloc 96 true (.tuple #[])) h_2 fun t6_1 h_3 =>
  ∃ J_1 : List Value → Heap → Prop, (rop P (Instr.loadAt 43 w4_1) h_3 fun t14_1 =>
  pop P (Instr.fieldAt 43 w4_1 1) fun t15_1 =>
  rop P (Instr.loadAt 3 t15_1) h_3 fun t16_1 =>
  pop P (Instr.fieldAt 41 g3_1 0) fun t18_1 =>
  rop P (Instr.loadAt 22 t18_1) h_3 fun t19_1 =>
  pop P (lenS 22 3 t19_1) fun t20_1 =>
  (eop P (Instr.buildSlice 34 1 #[(0, t16_1)]) h_3 fun t17_1 h_4 =>
  (∀ w : World, w.heap = h_4 → (Instr.loadAt 22 t18_1).run P w = .ok t19_1 w) ∧
  (∀ w : World, w.heap = h_4 → (Instr.loadAt 43 w4_1).run P w = .ok t14_1 w) ∧
  (eop P (Instr.makeSlice 34 t20_1 t20_1) h_4 fun t21_1 h_5 =>
  (∀ w : World, w.heap = h_5 → (Instr.loadAt 22 t18_1).run P w = .ok t19_1 w) ∧
  (∀ w : World, w.heap = h_5 → (Instr.loadAt 43 w4_1).run P w = .ok t14_1 w) ∧
  pop P (Instr.build 96 #[(0, t14_1), (1, t17_1), (2, t21_1)]) fun t22_1 =>
  eop P (Instr.alloc 96 true (.tuple #[])) h_5 fun r8_1 h_6 =>
  (∀ w : World, w.heap = h_6 → (Instr.loadAt 22 t18_1).run P w = .ok t19_1 w) ∧
  (∀ w : World, w.heap = h_6 → (Instr.loadAt 43 w4_1).run P w = .ok t14_1 w) ∧
  uop P (Instr.storeAt 96 r8_1 t22_1) h_6 fun u_1 h_7 =>
  J_1 [r8_1] h_7) ∧
  (eop P (Instr.alloc 96 true (.tuple #[])) h_4 fun r8_2 h_8 =>
  (∀ w : World, w.heap = h_8 → (Instr.loadAt 22 t18_1).run P w = .ok t19_1 w) ∧
  (∀ w : World, w.heap = h_8 → (Instr.loadAt 43 w4_1).run P w = .ok t14_1 w) ∧
  eop P (Instr.makeSlice 34 t20_1 t20_1) h_8 fun t21_2 h_9 =>
  (∀ w : World, w.heap = h_9 → (Instr.loadAt 22 t18_1).run P w = .ok t19_1 w) ∧
  (∀ w : World, w.heap = h_9 → (Instr.loadAt 43 w4_1).run P w = .ok t14_1 w) ∧
  pop P (Instr.build 96 #[(0, t14_1), (1, t17_1), (2, t21_2)]) fun t22_2 =>
  uop P (Instr.storeAt 96 r8_2 t22_2) h_9 fun u_2 h_10 =>
  J_1 [r8_2] h_10)) ∧
  (eop P (Instr.makeSlice 34 t20_1 t20_1) h_3 fun t21_3 h_11 =>
  (∀ w : World, w.heap = h_11 → (Instr.loadAt 22 t18_1).run P w = .ok t19_1 w) ∧
  (∀ w : World, w.heap = h_11 → (Instr.loadAt 3 t15_1).run P w = .ok t16_1 w) ∧
  (∀ w : World, w.heap = h_11 → (Instr.loadAt 43 w4_1).run P w = .ok t14_1 w) ∧
  (eop P (Instr.buildSlice 34 1 #[(0, t16_1)]) h_11 fun t17_2 h_12 =>
  (∀ w : World, w.heap = h_12 → (Instr.loadAt 22 t18_1).run P w = .ok t19_1 w) ∧
  (∀ w : World, w.heap = h_12 → (Instr.loadAt 43 w4_1).run P w = .ok t14_1 w) ∧
  pop P (Instr.build 96 #[(0, t14_1), (1, t17_2), (2, t21_3)]) fun t22_3 =>
  eop P (Instr.alloc 96 true (.tuple #[])) h_12 fun r8_3 h_13 =>
  (∀ w : World, w.heap = h_13 → (Instr.loadAt 22 t18_1).run P w = .ok t19_1 w) ∧
  (∀ w : World, w.heap = h_13 → (Instr.loadAt 43 w4_1).run P w = .ok t14_1 w) ∧
  uop P (Instr.storeAt 96 r8_3 t22_3) h_13 fun u_3 h_14 =>
  J_1 [r8_3] h_14) ∧
  (eop P (Instr.alloc 96 true (.tuple #[])) h_11 fun r8_4 h_15 =>
  (∀ w : World, w.heap = h_15 → (Instr.loadAt 22 t18_1).run P w = .ok t19_1 w) ∧
  (∀ w : World, w.heap = h_15 → (Instr.loadAt 3 t15_1).run P w = .ok t16_1 w) ∧
  (∀ w : World, w.heap = h_15 → (Instr.loadAt 43 w4_1).run P w = .ok t14_1 w) ∧
  eop P (Instr.buildSlice 34 1 #[(0, t16_1)]) h_15 fun t17_3 h_16 =>
  (∀ w : World, w.heap = h_16 → (Instr.loadAt 22 t18_1).run P w = .ok t19_1 w) ∧
  (∀ w : World, w.heap = h_16 → (Instr.loadAt 43 w4_1).run P w = .ok t14_1 w) ∧
  pop P (Instr.build 96 #[(0, t14_1), (1, t17_3), (2, t21_3)]) fun t22_4 =>
  uop P (Instr.storeAt 96 r8_4 t22_4) h_16 fun u_4 h_17 =>
  J_1 [r8_4] h_17)) ∧
  (eop P (Instr.alloc 96 true (.tuple #[])) h_3 fun r8_5 h_18 =>
  (∀ w : World, w.heap = h_18 → (Instr.loadAt 22 t18_1).run P w = .ok t19_1 w) ∧
  (∀ w : World, w.heap = h_18 → (Instr.loadAt 3 t15_1).run P w = .ok t16_1 w) ∧
  (∀ w : World, w.heap = h_18 → (Instr.loadAt 43 w4_1).run P w = .ok t14_1 w) ∧
  (eop P (Instr.buildSlice 34 1 #[(0, t16_1)]) h_18 fun t17_4 h_19 =>
  (∀ w : World, w.heap = h_19 → (Instr.loadAt 22 t18_1).run P w = .ok t19_1 w) ∧
  (∀ w : World, w.heap = h_19 → (Instr.loadAt 43 w4_1).run P w = .ok t14_1 w) ∧
  eop P (Instr.makeSlice 34 t20_1 t20_1) h_19 fun t21_4 h_20 =>
  (∀ w : World, w.heap = h_20 → (Instr.loadAt 22 t18_1).run P w = .ok t19_1 w) ∧
  (∀ w : World, w.heap = h_20 → (Instr.loadAt 43 w4_1).run P w = .ok t14_1 w) ∧
  pop P (Instr.build 96 #[(0, t14_1), (1, t17_4), (2, t21_4)]) fun t22_5 =>
  uop P (Instr.storeAt 96 r8_5 t22_5) h_20 fun u_5 h_21 =>
  J_1 [r8_5] h_21) ∧
  (eop P (Instr.makeSlice 34 t20_1 t20_1) h_18 fun t21_5 h_22 =>
  (∀ w : World, w.heap = h_22 → (Instr.loadAt 22 t18_1).run P w = .ok t19_1 w) ∧
  (∀ w : World, w.heap = h_22 → (Instr.loadAt 3 t15_1).run P w = .ok t16_1 w) ∧
  (∀ w : World, w.heap = h_22 → (Instr.loadAt 43 w4_1).run P w = .ok t14_1 w) ∧
  eop P (Instr.buildSlice 34 1 #[(0, t16_1)]) h_22 fun t17_5 h_23 =>
  (∀ w : World, w.heap = h_23 → (Instr.loadAt 22 t18_1).run P w = .ok t19_1 w) ∧
  (∀ w : World, w.heap = h_23 → (Instr.loadAt 43 w4_1).run P w = .ok t14_1 w) ∧
  pop P (Instr.build 96 #[(0, t14_1), (1, t17_5), (2, t21_5)]) fun t22_6 =>
  uop P (Instr.storeAt 96 r8_5 t22_6) h_23 fun u_6 h_24 =>
  J_1 [r8_5] h_24))) ∧
  ∀ (junk_1 : Nat → Value) (r8_6 : Value) (h_25 : Heap), J_1 [r8_6] h_25 →
  pop P (Instr.fieldAt 41 g3_1 0) fun t23_1 =>
  rop P (Instr.loadAt 22 t23_1) h_25 fun t24_1 =>
  pop P (lenS 22 3 t24_1) fun t25_1 =>
  ∃ (I_1 : List Value → Heap → Prop) (μ_1 : List Value → Heap → Nat), I_1 [(Value.int IntKind.i64 0)] h_25 ∧
  ∀ (junk_2 : Nat → Value) (t26_1 : Value) (h_26 : Heap), I_1 [t26_1] h_26 →
  pop P (binA .lss 3 t26_1 t25_1) fun t27_1 =>
  condM t27_1
  (pop P (Instr.indexAt 22 t24_1 t26_1) fun t28_1 =>
  rop P (Instr.loadAt 34 t28_1) h_26 fun t29_1 =>
  pop P (Instr.fieldAt 96 r8_6 3) fun t30_1 =>
  rop P (Instr.loadAt 22 t30_1) h_26 fun t31_1 =>
  pop P (lenS 34 3 t29_1) fun t33_1 =>
  eop P (Instr.makeSlice 34 t33_1 t33_1) h_26 fun t34_1 h_27 =>
  (∀ w : World, w.heap = h_27 → (Instr.loadAt 22 t30_1).run P w = .ok t31_1 w) ∧
  eop P (Instr.buildSlice 22 1 #[(0, t34_1)]) h_27 fun t35_1 h_28 =>
  (∀ w : World, w.heap = h_28 → (Instr.loadAt 22 t30_1).run P w = .ok t31_1 w) ∧
  eop P (appS 22 22 22 t31_1 t35_1) h_28 fun t36_1 h_29 =>
  pop P (Instr.fieldAt 96 r8_6 3) fun t37_1 =>
  uop P (Instr.storeAt 22 t37_1 t36_1) h_29 fun u_7 h_30 =>
  pop P (binA .add 3 t26_1 (Value.int IntKind.i64 1)) fun t38_1 =>
  I_1 [t38_1] h_30 ∧ μ_1 [t38_1] h_30 < μ_1 [t26_1] h_26)
  (∃ (I_2 : List Value → Heap → Prop) (μ_2 : List Value → Heap → Nat), I_2 [n2_1] h_26 ∧
  ∀ (junk_3 : Nat → Value) (n2_2 : Value) (h_31 : Heap), I_2 [n2_2] h_31 →
  pop P (binA .gtr 3 n2_2 (Value.int IntKind.i64 0)) fun t40_1 =>
  condM t40_1
  (rop P (Instr.loadAt 41 g3_1) h_31 fun t44_1 =>
  pop P (Instr.fieldAt 96 r8_6 0) fun t45_1 =>
  rop P (Instr.loadAt 43 t45_1) h_31 fun t46_1 =>
  callM P 80 #[t44_1, t46_1] h_31 fun t47_1 h_32 =>
  pop P (Instr.extract t47_1 0) fun t48_1 =>
  pop P (Instr.extract t47_1 1) fun t49_1 =>
  eop P (Instr.alloc 43 true (.tuple #[])) h_32 fun next11_1 h_33 =>
  uop P (Instr.storeAt 43 next11_1 t48_1) h_33 fun u_8 h_34 =>
  pop P (Op.unary .not t49_1) fun t51_1 =>
  condM t51_1
  (pop P (Instr.build 96 #[]) fun t52_1 =>
  uop P (Instr.storeAt 96 t6_1 t52_1) h_34 fun u_9 h_35 =>
  rop P (Instr.loadAt 96 t6_1) h_35 fun r_1 =>
  K (.tuple #[r_1, (Value.bool false)]) h_35)
  (pop P (Instr.fieldAt 96 r8_6 3) fun t53_1 =>
  rop P (Instr.loadAt 22 t53_1) h_34 fun t54_1 =>
  pop P (Instr.fieldAt 96 r8_6 0) fun t55_1 =>
  pop P (Instr.fieldAt 43 t55_1 1) fun t56_1 =>
  rop P (Instr.loadAt 3 t56_1) h_34 fun t57_1 =>
  pop P (Instr.indexAt 22 t54_1 t57_1) fun t58_1 =>
  rop P (Instr.loadAt 34 t58_1) h_34 fun t59_1 =>
  pop P (Instr.fieldAt 43 next11_1 0) fun t61_1 =>
  rop P (Instr.loadAt 34 t61_1) h_34 fun t62_1 =>
  pop P (Instr.fieldAt 96 r8_6 0) fun t63_1 =>
  pop P (Instr.fieldAt 43 t63_1 1) fun t64_1 =>
  rop P (Instr.loadAt 3 t64_1) h_34 fun t65_1 =>
  pop P (Instr.indexAt 34 t62_1 t65_1) fun t66_1 =>
  rop P (Instr.loadAt 3 t66_1) h_34 fun t67_1 =>
  pop P (Instr.indexAt 34 t59_1 t67_1) fun t68_1 =>
  rop P (Instr.loadAt 3 t68_1) h_34 fun t69_1 =>
  pop P (binA .add 3 t69_1 (Value.int IntKind.i64 1)) fun t70_1 =>
  pop P (Instr.indexAt 34 t59_1 t67_1) fun t71_1 =>
  uop P (Instr.storeAt 3 t71_1 t70_1) h_34 fun u_10 h_36 =>
  pop P (Instr.fieldAt 96 r8_6 2) fun t72_1 =>
  rop P (Instr.loadAt 34 t72_1) h_36 fun t73_1 =>
  pop P (Instr.fieldAt 43 next11_1 1) fun t74_1 =>
  rop P (Instr.loadAt 3 t74_1) h_36 fun t75_1 =>
  pop P (Instr.indexAt 34 t73_1 t75_1) fun t76_1 =>
  rop P (Instr.loadAt 3 t76_1) h_36 fun t77_1 =>
  pop P (binA .add 3 t77_1 (Value.int IntKind.i64 1)) fun t78_1 =>
  pop P (Instr.indexAt 34 t73_1 t75_1) fun t79_1 =>
  uop P (Instr.storeAt 3 t79_1 t78_1) h_36 fun u_11 h_37 =>
  pop P (Instr.fieldAt 96 r8_6 1) fun t80_1 =>
  rop P (Instr.loadAt 34 t80_1) h_37 fun t81_1 =>
  pop P (Instr.fieldAt 43 next11_1 1) fun t82_1 =>
  rop P (Instr.loadAt 3 t82_1) h_37 fun t83_1 =>
  eop P (Instr.buildSlice 34 1 #[(0, t83_1)]) h_37 fun t84_1 h_38 =>
  eop P (appS 34 34 34 t81_1 t84_1) h_38 fun t85_1 h_39 =>
  pop P (Instr.fieldAt 96 r8_6 1) fun t86_1 =>
  uop P (Instr.storeAt 34 t86_1 t85_1) h_39 fun u_12 h_40 =>
  rop P (Instr.loadAt 43 next11_1) h_40 fun t87_1 =>
  pop P (Instr.fieldAt 96 r8_6 0) fun t88_1 =>
  uop P (Instr.storeAt 43 t88_1 t87_1) h_40 fun u_13 h_41 =>
  pop P (binA .sub 3 n2_2 (Value.int IntKind.i64 1)) fun t42_1 =>
  I_2 [t42_1] h_41 ∧ μ_2 [t42_1] h_41 < μ_2 [n2_2] h_31))
  (rop P (Instr.loadAt 96 r8_6) h_31 fun t89_1 =>
  uop P (Instr.storeAt 96 t6_1 t89_1) h_31 fun u_14 h_42 =>
  rop P (Instr.loadAt 96 t6_1) h_42 fun r_2 =>
  K (.tuple #[r_2, (Value.bool true)]) h_42))
theorem e74 (g0_1 : Value) (w1_1 : Value) (n2_1 : Value) (h : Heap) (K : Value → Heap → Prop) : wpA Tryd.prog 90 (anOf [(3, [8]), (58, [26]), (60, [2])]) (bodyOf Tryd.f74) 1 (fun A h => resA Tryd.prog A h K [.cell 6 96, .tmp 7]) (fun _ _ _ => False) (fun A h => resA Tryd.prog A h K [.cell 6 96, .tmp 7]) (aargs [g0_1, w1_1, n2_1] 0) h = t74 Tryd.prog g0_1 w1_1 n2_1 h K := by kernel_rfl
theorem c74 (g0_1 : Value) (w1_1 : Value) (n2_1 : Value) (h : Heap) (K : Value → Heap → Prop) (H : t74 Tryd.prog g0_1 w1_1 n2_1 h K) : callM Tryd.prog 74 #[g0_1, w1_1, n2_1] h K :=
  callM_of_wpA mixed (fn := Tryd.f74) Tryd.func74 (c := bodyOf Tryd.f74) rfl (of_decide_eq_true (by kernel_rfl)) (anOf [(3, [8]), (58, [26]), (60, [2])]) 87 90 (by kernel_rfl) rfl [.cell 6 96, .tmp 7] (by kernel_rfl) (args := [g0_1, w1_1, n2_1]) (by rw [e74]; exact H)

/-! spec.l1Own -/
def t77 (P : Program) (l0_1 : Value) (h : Heap) (K : Value → Heap → Prop) : Prop :=
  eop P (Instr.buildSlice 34 0 #[]) h fun t3_1 h_1 =>
  eop P (appS 34 34 34 t3_1 l0_1) h_1 fun t5_1 h_2 =>
  K t5_1 h_2
theorem e77 (l0_1 : Value) (h : Heap) (K : Value → Heap → Prop) : wpA Tryd.prog 6 (anOf []) (bodyOf Tryd.f77) 1 (fun A h => resA Tryd.prog A h K [.tmp 2]) (fun _ _ _ => False) (fun A h => resA Tryd.prog A h K [.tmp 2]) (aargs [l0_1] 0) h = t77 Tryd.prog l0_1 h K := by kernel_rfl
theorem c77 (l0_1 : Value) (h : Heap) (K : Value → Heap → Prop) (H : t77 Tryd.prog l0_1 h K) : callM Tryd.prog 77 #[l0_1] h K :=
  callM_of_wpA mixed (fn := Tryd.f77) Tryd.func77 (c := bodyOf Tryd.f77) rfl (of_decide_eq_true (by kernel_rfl)) (anOf []) 5 6 (by kernel_rfl) rfl [.tmp 2] (by kernel_rfl) (args := [l0_1]) (by rw [e77]; exact H)

/-! spec.waStep -/
def t80 (P : Program) (g0_1 : Value) (w1_1 : Value) (h : Heap) (K : Value → Heap → Prop) : Prop :=
  eop P (Instr.box 41 g0_1) h fun g2_1 h_1 =>
  eop P (Instr.box 43 w1_1) h_1 fun w3_1 h_2 =>
  eop P (Instr.alloc 43 true (.tuple #[])) h_2 fun t4_1 h_3 =>
  pop P (Instr.fieldAt 41 g2_1 0) fun t9_1 =>
  rop P (Instr.loadAt 22 t9_1) h_3 fun t10_1 =>
  pop P (Instr.fieldAt 43 w3_1 1) fun t11_1 =>
  rop P (Instr.loadAt 3 t11_1) h_3 fun t12_1 =>
  pop P (Instr.indexAt 22 t10_1 t12_1) fun t13_1 =>
  rop P (Instr.loadAt 34 t13_1) h_3 fun t14_1 =>
  pop P (lenS 34 3 t14_1) fun t16_1 =>
  pop P (binE .eql 3 (.tmp 16) (.const (Value.int IntKind.i64 0)) t16_1 (Value.int IntKind.i64 0)) fun t17_1 =>
  condM t17_1
  (rop P (Instr.loadAt 43 w3_1) h_3 fun t18_1 =>
  uop P (Instr.storeAt 43 t4_1 t18_1) h_3 fun u_1 h_4 =>
  rop P (Instr.loadAt 43 t4_1) h_4 fun r_1 =>
  K (.tuple #[r_1, (Value.bool false)]) h_4)
  (pop P (Instr.fieldAt 43 w3_1 0) fun t19_1 =>
  rop P (Instr.loadAt 34 t19_1) h_3 fun t20_1 =>
  callM P 77 #[t20_1] h_3 fun t21_1 h_5 =>
  pop P (Instr.build 43 #[(0, t21_1)]) fun t22_1 =>
  eop P (Instr.alloc 43 true (.tuple #[])) h_5 fun out7_1 h_6 =>
  uop P (Instr.storeAt 43 out7_1 t22_1) h_6 fun u_2 h_7 =>
  pop P (Instr.fieldAt 43 w3_1 0) fun t23_1 =>
  rop P (Instr.loadAt 34 t23_1) h_7 fun t24_1 =>
  pop P (Instr.fieldAt 43 w3_1 1) fun t25_1 =>
  rop P (Instr.loadAt 3 t25_1) h_7 fun t26_1 =>
  pop P (Instr.indexAt 34 t24_1 t26_1) fun t27_1 =>
  rop P (Instr.loadAt 3 t27_1) h_7 fun t28_1 =>
  pop P (binA .add 3 t28_1 (Value.int IntKind.i64 1)) fun t29_1 =>
  pop P (lenS 34 3 t14_1) fun t31_1 =>
  pop P (binA .rem 3 t29_1 t31_1) fun t32_1 =>
  pop P (Instr.fieldAt 43 out7_1 0) fun t33_1 =>
  rop P (Instr.loadAt 34 t33_1) h_7 fun t34_1 =>
  pop P (Instr.fieldAt 43 w3_1 1) fun t35_1 =>
  rop P (Instr.loadAt 3 t35_1) h_7 fun t36_1 =>
  pop P (Instr.indexAt 34 t34_1 t36_1) fun t38_1 =>
  uop P (Instr.storeAt 3 t38_1 t32_1) h_7 fun u_3 h_8 =>
  pop P (Instr.indexAt 34 t14_1 t32_1) fun t41_1 =>
  rop P (Instr.loadAt 3 t41_1) h_8 fun t42_1 =>
  pop P (Instr.fieldAt 43 out7_1 1) fun t43_1 =>
  uop P (Instr.storeAt 3 t43_1 t42_1) h_8 fun u_4 h_9 =>
  rop P (Instr.loadAt 43 out7_1) h_9 fun t44_1 =>
  uop P (Instr.storeAt 43 t4_1 t44_1) h_9 fun u_5 h_10 =>
  rop P (Instr.loadAt 43 t4_1) h_10 fun r_2 =>
  K (.tuple #[r_2, (Value.bool true)]) h_10)
theorem e80 (g0_1 : Value) (w1_1 : Value) (h : Heap) (K : Value → Heap → Prop) : wpA Tryd.prog 45 (anOf []) (bodyOf Tryd.f80) 1 (fun A h => resA Tryd.prog A h K [.cell 4 43, .tmp 5]) (fun _ _ _ => False) (fun A h => resA Tryd.prog A h K [.cell 4 43, .tmp 5]) (aargs [g0_1, w1_1] 0) h = t80 Tryd.prog g0_1 w1_1 h K := by kernel_rfl
theorem c80 (g0_1 : Value) (w1_1 : Value) (h : Heap) (K : Value → Heap → Prop) (H : t80 Tryd.prog g0_1 w1_1 h K) : callM Tryd.prog 80 #[g0_1, w1_1] h K :=
  callM_of_wpA mixed (fn := Tryd.f80) Tryd.func80 (c := bodyOf Tryd.f80) rfl (of_decide_eq_true (by kernel_rfl)) (anOf []) 43 45 (by kernel_rfl) rfl [.cell 4 43, .tmp 5] (by kernel_rfl) (args := [g0_1, w1_1]) (by rw [e80]; exact H)

/-! impl.walkText -/
def t82 (P : Program) (w0_1 : Value) (h : Heap) (K : Value → Heap → Prop) : Prop :=
  eop P (Instr.box 43 w0_1) h fun w1_1 h_1 =>
  pop P (Instr.fieldAt 43 w1_1 1) fun t3_1 =>
  rop P (Instr.loadAt 3 t3_1) h_1 fun t4_1 =>
  pop P (Instr.fieldAt 43 w1_1 0) fun t7_1 =>
  rop P (Instr.loadAt 34 t7_1) h_1 fun t8_1 =>
  callM P 96 #[t4_1] h_1 fun t5_1 h_2 =>
  (∀ w : World, w.heap = h_2 → (Instr.loadAt 34 t7_1).run P w = .ok t8_1 w) ∧
  pop P (binA .add 9 t5_1 (Value.string { data := #[58] })) fun t6_1 =>
  callM P 58 #[t8_1] h_2 fun t9_1 h_3 =>
  pop P (binA .add 9 t6_1 t9_1) fun t10_1 =>
  K t10_1 h_3
theorem e82 (w0_1 : Value) (h : Heap) (K : Value → Heap → Prop) : wpA Tryd.prog 11 (anOf []) (bodyOf Tryd.f82) 1 (fun A h => resA Tryd.prog A h K [.tmp 2]) (fun _ _ _ => False) (fun A h => resA Tryd.prog A h K [.tmp 2]) (aargs [w0_1] 0) h = t82 Tryd.prog w0_1 h K := by kernel_rfl
theorem c82 (w0_1 : Value) (h : Heap) (K : Value → Heap → Prop) (H : t82 Tryd.prog w0_1 h K) : callM Tryd.prog 82 #[w0_1] h K :=
  callM_of_wpA mixed (fn := Tryd.f82) Tryd.func82 (c := bodyOf Tryd.f82) rfl (of_decide_eq_true (by kernel_rfl)) (anOf []) 10 11 (by kernel_rfl) rfl [.tmp 2] (by kernel_rfl) (args := [w0_1]) (by rw [e82]; exact H)

/-! spec.grPlace -/
def t83 (P : Program) (g0_1 : Value) (p1_1 : Value) (h : Heap) (K : Value → Heap → Prop) : Prop :=
  eop P (Instr.box 41 g0_1) h fun g2_1 h_1 =>
  rop P (Instr.loadAt 41 g2_1) h_1 fun t5_1 =>
  callM P 106 #[t5_1] h_1 fun t6_1 h_2 =>
  guardM (asG t6_1 true) true (fun k_1 => k_1 p1_1 h_2) h_2 fun t8_1 h_3 =>
  guardM (asG t6_1 true) true (fun k_2 => pop P (Instr.fieldAt 41 g2_1 0) fun t9_1 =>
  k_2 t9_1 h_3) h_3 fun t9_2 h_4 =>
  guardM (asG t6_1 true) true (fun k_3 => rop P (Instr.loadAt 22 t9_2) h_4 fun t10_1 =>
  k_3 t10_1 h_4) h_4 fun t10_2 h_5 =>
  guardM (asG t6_1 true) true (fun k_4 => pop P (lenS 22 3 t10_2) fun t11_1 =>
  k_4 t11_1 h_5) h_5 fun t11_2 h_6 =>
  guardM (asG t6_1 true) true (fun k_5 => pop P (binA .sub 3 t11_2 (Value.int IntKind.i64 1)) fun t12_1 =>
  k_5 t12_1 h_6) h_6 fun t12_2 h_7 =>
  guardM (asG t6_1 true) true (fun k_6 => callM P 51 #[t8_1, (Value.int IntKind.i64 0), t12_2] h_7 fun t13_1 h_8 =>
  k_6 t13_1 h_8) h_7 fun t13_2 h_9 =>
  pop P (pickS t6_1 t13_2 (Value.bool false)) fun t14_1 =>
  K t14_1 h_9
theorem e83 (g0_1 : Value) (p1_1 : Value) (h : Heap) (K : Value → Heap → Prop) : wpA Tryd.prog 15 (anOf []) (bodyOf Tryd.f83) 1 (fun A h => resA Tryd.prog A h K [.tmp 4]) (fun _ _ _ => False) (fun A h => resA Tryd.prog A h K [.tmp 4]) (aargs [g0_1, p1_1] 0) h = t83 Tryd.prog g0_1 p1_1 h K := by kernel_rfl
theorem c83 (g0_1 : Value) (p1_1 : Value) (h : Heap) (K : Value → Heap → Prop) (H : t83 Tryd.prog g0_1 p1_1 h K) : callM Tryd.prog 83 #[g0_1, p1_1] h K :=
  callM_of_wpA mixed (fn := Tryd.f83) Tryd.func83 (c := bodyOf Tryd.f83) rfl (of_decide_eq_true (by kernel_rfl)) (anOf []) 13 15 (by kernel_rfl) rfl [.tmp 4] (by kernel_rfl) (args := [g0_1, p1_1]) (by rw [e83]; exact H)

/-! spec.grStrong -/
def t84 (P : Program) (g0_1 : Value) (h : Heap) (K : Value → Heap → Prop) : Prop :=
  eop P (Instr.box 41 g0_1) h fun g1_1 h_1 =>
  pop P (Instr.fieldAt 41 g1_1 0) fun t4_1 =>
  rop P (Instr.loadAt 22 t4_1) h_1 fun t5_1 =>
  pop P (lenS 22 3 t5_1) fun t6_1 =>
  ∃ (I_1 : List Value → Heap → Prop) (μ_1 : List Value → Heap → Nat), I_1 [(Value.int IntKind.i64 0)] h_1 ∧
  ∀ (junk_1 : Nat → Value) (t7_1 : Value) (h_2 : Heap), I_1 [t7_1] h_2 →
  pop P (binA .lss 3 t7_1 t6_1) fun t8_1 =>
  condM t8_1
  (rop P (Instr.loadAt 41 g1_1) h_2 fun t10_1 =>
  pop P (Instr.fieldAt 41 g1_1 0) fun t14_1 =>
  rop P (Instr.loadAt 22 t14_1) h_2 fun t15_1 =>
  pop P (lenS 22 3 t15_1) fun t16_1 =>
  callM P 107 #[t10_1, t7_1] h_2 fun t12_1 h_3 =>
  (∀ w : World, w.heap = h_3 → (Instr.loadAt 22 t14_1).run P w = .ok t15_1 w) ∧
  pop P (lenS 34 3 t12_1) fun t13_1 =>
  pop P (binE .neq 3 (.tmp 13) (.tmp 16) t13_1 t16_1) fun t17_1 =>
  condM t17_1
  (K (Value.bool false) h_3)
  (pop P (binA .add 3 t7_1 (Value.int IntKind.i64 1)) fun t18_1 =>
  I_1 [t18_1] h_3 ∧ μ_1 [t18_1] h_3 < μ_1 [t7_1] h_2))
  (K (Value.bool true) h_2)
theorem e84 (g0_1 : Value) (h : Heap) (K : Value → Heap → Prop) : wpA Tryd.prog 19 (anOf [(26, [7])]) (bodyOf Tryd.f84) 1 (fun A h => resA Tryd.prog A h K [.tmp 2]) (fun _ _ _ => False) (fun A h => resA Tryd.prog A h K [.tmp 2]) (aargs [g0_1] 0) h = t84 Tryd.prog g0_1 h K := by kernel_rfl
theorem c84 (g0_1 : Value) (h : Heap) (K : Value → Heap → Prop) (H : t84 Tryd.prog g0_1 h K) : callM Tryd.prog 84 #[g0_1] h K :=
  callM_of_wpA mixed (fn := Tryd.f84) Tryd.func84 (c := bodyOf Tryd.f84) rfl (of_decide_eq_true (by kernel_rfl)) (anOf [(26, [7])]) 18 19 (by kernel_rfl) rfl [.tmp 2] (by kernel_rfl) (args := [g0_1]) (by rw [e84]; exact H)

/-! spec.grBalanced -/
def t85 (P : Program) (g0_1 : Value) (h : Heap) (K : Value → Heap → Prop) : Prop :=
  eop P (Instr.box 41 g0_1) h fun g1_1 h_1 =>
  pop P (Instr.fieldAt 41 g1_1 0) fun t5_1 =>
  rop P (Instr.loadAt 22 t5_1) h_1 fun t6_1 =>
  pop P (lenS 22 3 t6_1) fun t7_1 =>
  ∃ (I_1 : List Value → Heap → Prop) (μ_1 : List Value → Heap → Nat), I_1 [(Value.int IntKind.i64 0)] h_1 ∧
  ∀ (junk_1 : Nat → Value) (t8_1 : Value) (h_2 : Heap), I_1 [t8_1] h_2 →
  pop P (binA .lss 3 t8_1 t7_1) fun t9_1 =>
  condM t9_1
  (pop P (Instr.indexAt 22 t6_1 t8_1) fun t11_1 =>
  rop P (Instr.loadAt 34 t11_1) h_2 fun t12_1 =>
  pop P (lenS 34 3 t12_1) fun t14_1 =>
  rop P (Instr.loadAt 41 g1_1) h_2 fun t15_1 =>
  callM P 108 #[t15_1, t8_1] h_2 fun t17_1 h_3 =>
  pop P (binE .neq 3 (.tmp 14) (.tmp 17) t14_1 t17_1) fun t18_1 =>
  condM t18_1
  (K (Value.bool false) h_3)
  (pop P (binA .add 3 t8_1 (Value.int IntKind.i64 1)) fun t19_1 =>
  I_1 [t19_1] h_3 ∧ μ_1 [t19_1] h_3 < μ_1 [t8_1] h_2))
  (K (Value.bool true) h_2)
theorem e85 (g0_1 : Value) (h : Heap) (K : Value → Heap → Prop) : wpA Tryd.prog 20 (anOf [(26, [8])]) (bodyOf Tryd.f85) 1 (fun A h => resA Tryd.prog A h K [.tmp 2]) (fun _ _ _ => False) (fun A h => resA Tryd.prog A h K [.tmp 2]) (aargs [g0_1] 0) h = t85 Tryd.prog g0_1 h K := by kernel_rfl
theorem c85 (g0_1 : Value) (h : Heap) (K : Value → Heap → Prop) (H : t85 Tryd.prog g0_1 h K) : callM Tryd.prog 85 #[g0_1] h K :=
  callM_of_wpA mixed (fn := Tryd.f85) Tryd.func85 (c := bodyOf Tryd.f85) rfl (of_decide_eq_true (by kernel_rfl)) (anOf [(26, [8])]) 19 20 (by kernel_rfl) rfl [.tmp 2] (by kernel_rfl) (args := [g0_1]) (by rw [e85]; exact H)

/-! spec.grCount -/
def t86 (P : Program) (g0_1 : Value) (h : Heap) (K : Value → Heap → Prop) : Prop :=
  eop P (Instr.box 41 g0_1) h fun g1_1 h_1 =>
  pop P (Instr.fieldAt 41 g1_1 0) fun t6_1 =>
  rop P (Instr.loadAt 22 t6_1) h_1 fun t7_1 =>
  pop P (lenS 22 3 t7_1) fun t8_1 =>
  ∃ (I_1 : List Value → Heap → Prop) (μ_1 : List Value → Heap → Nat), I_1 [(Value.int IntKind.i64 0), (Value.int IntKind.i64 0)] h_1 ∧
  ∀ (junk_1 : Nat → Value) (n3_1 : Value) (t9_1 : Value) (h_2 : Heap), I_1 [n3_1, t9_1] h_2 →
  pop P (binA .lss 3 t9_1 t8_1) fun t10_1 =>
  condM t10_1
  (pop P (Instr.indexAt 22 t7_1 t9_1) fun t11_1 =>
  rop P (Instr.loadAt 34 t11_1) h_2 fun t12_1 =>
  pop P (lenS 34 3 t12_1) fun t15_1 =>
  pop P (binA .add 3 n3_1 t15_1) fun t16_1 =>
  pop P (binA .add 3 t9_1 (Value.int IntKind.i64 1)) fun t17_1 =>
  I_1 [t16_1, t17_1] h_2 ∧ μ_1 [t16_1, t17_1] h_2 < μ_1 [n3_1, t9_1] h_2)
  (K n3_1 h_2)
theorem e86 (g0_1 : Value) (h : Heap) (K : Value → Heap → Prop) : wpA Tryd.prog 19 (anOf [(58, [3, 9])]) (bodyOf Tryd.f86) 1 (fun A h => resA Tryd.prog A h K [.tmp 2]) (fun _ _ _ => False) (fun A h => resA Tryd.prog A h K [.tmp 2]) (aargs [g0_1] 0) h = t86 Tryd.prog g0_1 h K := by kernel_rfl
theorem c86 (g0_1 : Value) (h : Heap) (K : Value → Heap → Prop) (H : t86 Tryd.prog g0_1 h K) : callM Tryd.prog 86 #[g0_1] h K :=
  callM_of_wpA mixed (fn := Tryd.f86) Tryd.func86 (c := bodyOf Tryd.f86) rfl (of_decide_eq_true (by kernel_rfl)) (anOf [(58, [3, 9])]) 18 19 (by kernel_rfl) rfl [.tmp 2] (by kernel_rfl) (args := [g0_1]) (by rw [e86]; exact H)

/-! impl.has -/
def t87 (P : Program) (g0_1 : Value) (places1_1 : Value) (h : Heap) (K : Value → Heap → Prop) : Prop :=
  eop P (Instr.box 41 g0_1) h fun g2_1 h_1 =>
  rop P (Instr.loadAt 41 g2_1) h_1 fun t5_1 =>
  callM P 109 #[t5_1] h_1 fun t6_1 h_2 =>
  guardM (asG t6_1 true) true (fun k_1 => k_1 places1_1 h_2) h_2 fun t8_1 h_3 =>
  guardM (asG t6_1 true) true (fun k_2 => pop P (Instr.makeFunc (Fn.func 110) #[] #[g2_1]) fun t9_1 =>
  k_2 t9_1 h_3) h_3 fun t9_2 h_4 =>
  guardM (asG t6_1 true) true (fun k_3 => callM P 56 #[t8_1, t9_2] h_4 fun t10_1 h_5 =>
  k_3 t10_1 h_5) h_4 fun t10_2 h_6 =>
  guardM (asG t6_1 true) true (fun k_4 => pop P (Op.unary .not t10_2) fun t11_1 =>
  k_4 t11_1 h_6) h_6 fun t11_2 h_7 =>
  pop P (pickS t6_1 t11_2 (Value.bool false)) fun t12_1 =>
  K t12_1 h_7
theorem e87 (g0_1 : Value) (places1_1 : Value) (h : Heap) (K : Value → Heap → Prop) : wpA Tryd.prog 13 (anOf []) (bodyOf Tryd.f87) 1 (fun A h => resA Tryd.prog A h K [.tmp 4]) (fun _ _ _ => False) (fun A h => resA Tryd.prog A h K [.tmp 4]) (aargs [g0_1, places1_1] 0) h = t87 Tryd.prog g0_1 places1_1 h K := by kernel_rfl
theorem c87 (g0_1 : Value) (places1_1 : Value) (h : Heap) (K : Value → Heap → Prop) (H : t87 Tryd.prog g0_1 places1_1 h K) : callM Tryd.prog 87 #[g0_1, places1_1] h K :=
  callM_of_wpA mixed (fn := Tryd.f87) Tryd.func87 (c := bodyOf Tryd.f87) rfl (of_decide_eq_true (by kernel_rfl)) (anOf []) 11 13 (by kernel_rfl) rfl [.tmp 4] (by kernel_rfl) (args := [g0_1, places1_1]) (by rw [e87]; exact H)

/-! (impl.Graph).isStrong -/
def t88 (P : Program) (g0_1 : Value) (h : Heap) (K : Value → Heap → Prop) : Prop :=
  eop P (Instr.box 41 g0_1) h fun g1_1 h_1 =>
  pop P (Instr.fieldAt 41 g1_1 0) fun t4_1 =>
  rop P (Instr.loadAt 22 t4_1) h_1 fun t5_1 =>
  pop P (lenS 22 3 t5_1) fun t6_1 =>
  ∃ (I_1 : List Value → Heap → Prop) (μ_1 : List Value → Heap → Nat), I_1 [(Value.int IntKind.i64 0)] h_1 ∧
  ∀ (junk_1 : Nat → Value) (t7_1 : Value) (h_2 : Heap), I_1 [t7_1] h_2 →
  pop P (binA .lss 3 t7_1 t6_1) fun t8_1 =>
  condM t8_1
  (rop P (Instr.loadAt 41 g1_1) h_2 fun t10_1 =>
  pop P (Instr.fieldAt 41 g1_1 0) fun t14_1 =>
  rop P (Instr.loadAt 22 t14_1) h_2 fun t15_1 =>
  pop P (lenS 22 3 t15_1) fun t16_1 =>
  callM P 111 #[t10_1, t7_1] h_2 fun t12_1 h_3 =>
  (∀ w : World, w.heap = h_3 → (Instr.loadAt 22 t14_1).run P w = .ok t15_1 w) ∧
  pop P (lenS 34 3 t12_1) fun t13_1 =>
  pop P (binE .neq 3 (.tmp 13) (.tmp 16) t13_1 t16_1) fun t17_1 =>
  condM t17_1
  (K (Value.bool false) h_3)
  (pop P (binA .add 3 t7_1 (Value.int IntKind.i64 1)) fun t18_1 =>
  I_1 [t18_1] h_3 ∧ μ_1 [t18_1] h_3 < μ_1 [t7_1] h_2))
  (K (Value.bool true) h_2)
theorem e88 (g0_1 : Value) (h : Heap) (K : Value → Heap → Prop) : wpA Tryd.prog 19 (anOf [(26, [7])]) (bodyOf Tryd.f88) 1 (fun A h => resA Tryd.prog A h K [.tmp 2]) (fun _ _ _ => False) (fun A h => resA Tryd.prog A h K [.tmp 2]) (aargs [g0_1] 0) h = t88 Tryd.prog g0_1 h K := by kernel_rfl
theorem c88 (g0_1 : Value) (h : Heap) (K : Value → Heap → Prop) (H : t88 Tryd.prog g0_1 h K) : callM Tryd.prog 88 #[g0_1] h K :=
  callM_of_wpA mixed (fn := Tryd.f88) Tryd.func88 (c := bodyOf Tryd.f88) rfl (of_decide_eq_true (by kernel_rfl)) (anOf [(26, [7])]) 18 19 (by kernel_rfl) rfl [.tmp 2] (by kernel_rfl) (args := [g0_1]) (by rw [e88]; exact H)

/-! (impl.Graph).isBalanced -/
def t89 (P : Program) (g0_1 : Value) (h : Heap) (K : Value → Heap → Prop) : Prop :=
  eop P (Instr.box 41 g0_1) h fun g1_1 h_1 =>
  pop P (Instr.fieldAt 41 g1_1 0) fun t5_1 =>
  rop P (Instr.loadAt 22 t5_1) h_1 fun t6_1 =>
  pop P (lenS 22 3 t6_1) fun t7_1 =>
  ∃ (I_1 : List Value → Heap → Prop) (μ_1 : List Value → Heap → Nat), I_1 [(Value.int IntKind.i64 0)] h_1 ∧
  ∀ (junk_1 : Nat → Value) (t8_1 : Value) (h_2 : Heap), I_1 [t8_1] h_2 →
  pop P (binA .lss 3 t8_1 t7_1) fun t9_1 =>
  condM t9_1
  (pop P (Instr.indexAt 22 t6_1 t8_1) fun t11_1 =>
  rop P (Instr.loadAt 34 t11_1) h_2 fun t12_1 =>
  pop P (lenS 34 3 t12_1) fun t14_1 =>
  rop P (Instr.loadAt 41 g1_1) h_2 fun t15_1 =>
  callM P 112 #[t15_1, t8_1] h_2 fun t17_1 h_3 =>
  pop P (binE .neq 3 (.tmp 14) (.tmp 17) t14_1 t17_1) fun t18_1 =>
  condM t18_1
  (K (Value.bool false) h_3)
  (pop P (binA .add 3 t8_1 (Value.int IntKind.i64 1)) fun t19_1 =>
  I_1 [t19_1] h_3 ∧ μ_1 [t19_1] h_3 < μ_1 [t8_1] h_2))
  (K (Value.bool true) h_2)
theorem e89 (g0_1 : Value) (h : Heap) (K : Value → Heap → Prop) : wpA Tryd.prog 20 (anOf [(26, [8])]) (bodyOf Tryd.f89) 1 (fun A h => resA Tryd.prog A h K [.tmp 2]) (fun _ _ _ => False) (fun A h => resA Tryd.prog A h K [.tmp 2]) (aargs [g0_1] 0) h = t89 Tryd.prog g0_1 h K := by kernel_rfl
theorem c89 (g0_1 : Value) (h : Heap) (K : Value → Heap → Prop) (H : t89 Tryd.prog g0_1 h K) : callM Tryd.prog 89 #[g0_1] h K :=
  callM_of_wpA mixed (fn := Tryd.f89) Tryd.func89 (c := bodyOf Tryd.f89) rfl (of_decide_eq_true (by kernel_rfl)) (anOf [(26, [8])]) 19 20 (by kernel_rfl) rfl [.tmp 2] (by kernel_rfl) (args := [g0_1]) (by rw [e89]; exact H)

/-! slices.Concat[[]int,int] -/
def t90 (P : Program) (slices0_1 : Value) (h : Heap) (K : Value → Heap → Prop) : Prop :=
  pop P (lenS 22 3 slices0_1) fun t10_1 =>
  ∃ (I_1 : List Value → Heap → Prop) (μ_1 : List Value → Heap → Nat), I_1 [(Value.int IntKind.i64 0), (Value.int IntKind.i64 0)] h ∧
  ∀ (junk_1 : Nat → Value) (size3_1 : Value) (t11_1 : Value) (h_1 : Heap), I_1 [size3_1, t11_1] h_1 →
  pop P (binA .lss 3 t11_1 t10_1) fun t12_1 =>
  condM t12_1
  (pop P (Instr.indexAt 22 slices0_1 t11_1) fun t13_1 =>
  rop P (Instr.loadAt 34 t13_1) h_1 fun t14_1 =>
  pop P (lenS 34 3 t14_1) fun t17_1 =>
  pop P (binA .add 3 size3_1 t17_1) fun t18_1 =>
  pop P (binA .lss 3 t18_1 (Value.int IntKind.i64 0)) fun t20_1 =>
  condM t20_1
  (pop P (Instr.makeInterface 9 (Value.string { data := #[108, 101, 110, 32, 111, 117, 116, 32, 111, 102, 32, 114, 97, 110, 103, 101] })) fun t21_1 =>
  False)
  (pop P (binA .add 3 t11_1 (Value.int IntKind.i64 1)) fun t22_1 =>
  I_1 [t18_1, t22_1] h_1 ∧ μ_1 [t18_1, t22_1] h_1 < μ_1 [size3_1, t11_1] h_1))
  (callM P 113 #[(Value.slice none 0 0), size3_1] h_1 fun t24_1 h_2 =>
  pop P (lenS 22 3 slices0_1) fun t26_1 =>
  ∃ (I_2 : List Value → Heap → Prop) (μ_2 : List Value → Heap → Nat), I_2 [t24_1, (Value.int IntKind.i64 0)] h_2 ∧
  ∀ (junk_2 : Nat → Value) (newslice6_1 : Value) (t27_1 : Value) (h_3 : Heap), I_2 [newslice6_1, t27_1] h_3 →
  pop P (binA .lss 3 t27_1 t26_1) fun t28_1 =>
  condM t28_1
  (pop P (Instr.indexAt 22 slices0_1 t27_1) fun t29_1 =>
  rop P (Instr.loadAt 34 t29_1) h_3 fun t30_1 =>
  eop P (appS 34 34 34 newslice6_1 t30_1) h_3 fun t33_1 h_4 =>
  pop P (binA .add 3 t27_1 (Value.int IntKind.i64 1)) fun t34_1 =>
  I_2 [t33_1, t34_1] h_4 ∧ μ_2 [t33_1, t34_1] h_4 < μ_2 [newslice6_1, t27_1] h_3)
  (K newslice6_1 h_3))
theorem e90 (slices0_1 : Value) (h : Heap) (K : Value → Heap → Prop) : wpA Tryd.prog 36 (anOf [(58, [3, 11]), (250, [6, 27])]) (bodyOf Tryd.f90) 1 (fun A h => resA Tryd.prog A h K [.tmp 2]) (fun _ _ _ => False) (fun A h => resA Tryd.prog A h K [.tmp 2]) (aargs [slices0_1] 0) h = t90 Tryd.prog slices0_1 h K := by kernel_rfl
theorem c90 (slices0_1 : Value) (h : Heap) (K : Value → Heap → Prop) (H : t90 Tryd.prog slices0_1 h K) : callM Tryd.prog 90 #[slices0_1] h K :=
  callM_of_wpA mixed (fn := Tryd.f90) Tryd.func90 (c := bodyOf Tryd.f90) rfl (of_decide_eq_true (by kernel_rfl)) (anOf [(58, [3, 11]), (250, [6, 27])]) 35 36 (by kernel_rfl) rfl [.tmp 2] (by kernel_rfl) (args := [slices0_1]) (by rw [e90]; exact H)

/-! impl.EulerTour$1 -/
def t91 (P : Program) (t0_1 : Value) (h : Heap) (K : Value → Heap → Prop) : Prop :=
  K (.tuple #[]) h
theorem e91 (t0_1 : Value) (h : Heap) (K : Value → Heap → Prop) : wpA Tryd.prog 2 (anOf []) (bodyOf Tryd.f91) 1 (fun A h => resA Tryd.prog A h K []) (fun _ _ _ => False) (fun A h => resA Tryd.prog A h K []) (aargs [t0_1] 0) h = t91 Tryd.prog t0_1 h K := by kernel_rfl
theorem c91 (t0_1 : Value) (h : Heap) (K : Value → Heap → Prop) (H : t91 Tryd.prog t0_1 h K) : callM Tryd.prog 91 #[t0_1] h K :=
  callM_of_wpA mixed (fn := Tryd.f91) Tryd.func91 (c := bodyOf Tryd.f91) rfl (of_decide_eq_true (by kernel_rfl)) (anOf []) 1 2 (by kernel_rfl) rfl [] (by kernel_rfl) (args := [t0_1]) (by rw [e91]; exact H)

/-! (impl.Graph).step -/
def t92 (P : Program) (g0_1 : Value) (w1_1 : Value) (h : Heap) (K : Value → Heap → Prop) : Prop :=
  eop P (Instr.box 41 g0_1) h fun g2_1 h_1 =>
  pop P (Instr.fieldAt 41 g2_1 0) fun t6_1 =>
  rop P (Instr.loadAt 22 t6_1) h_1 fun t7_1 =>
  pop P (nilS w1_1) fun t9_1 =>
  pop P (Instr.fieldAt 43 t9_1 1) fun t10_1 =>
  rop P (Instr.loadAt 3 t10_1) h_1 fun t11_1 =>
  pop P (Instr.indexAt 22 t7_1 t11_1) fun t12_1 =>
  rop P (Instr.loadAt 34 t12_1) h_1 fun t13_1 =>
  pop P (lenS 34 3 t13_1) fun t15_1 =>
  pop P (binE .eql 3 (.tmp 15) (.const (Value.int IntKind.i64 0)) t15_1 (Value.int IntKind.i64 0)) fun t16_1 =>
  condM t16_1
  (K (Value.bool false) h_1)
  (pop P (nilS w1_1) fun t18_1 =>
  pop P (Instr.fieldAt 43 t18_1 0) fun t19_1 =>
  rop P (Instr.loadAt 34 t19_1) h_1 fun t20_1 =>
  pop P (nilS w1_1) fun t22_1 =>
  pop P (Instr.fieldAt 43 t22_1 1) fun t23_1 =>
  rop P (Instr.loadAt 3 t23_1) h_1 fun t24_1 =>
  pop P (nilS w1_1) fun t26_1 =>
  pop P (Instr.fieldAt 43 t26_1 0) fun t27_1 =>
  rop P (Instr.loadAt 34 t27_1) h_1 fun t28_1 =>
  pop P (nilS w1_1) fun t30_1 =>
  pop P (Instr.fieldAt 43 t30_1 1) fun t31_1 =>
  rop P (Instr.loadAt 3 t31_1) h_1 fun t32_1 =>
  pop P (Instr.indexAt 34 t28_1 t32_1) fun t33_1 =>
  rop P (Instr.loadAt 3 t33_1) h_1 fun t34_1 =>
  pop P (binA .add 3 t34_1 (Value.int IntKind.i64 1)) fun t35_1 =>
  pop P (lenS 34 3 t13_1) fun t37_1 =>
  pop P (binA .rem 3 t35_1 t37_1) fun t38_1 =>
  pop P (Instr.indexAt 34 t20_1 t24_1) fun t39_1 =>
  uop P (Instr.storeAt 3 t39_1 t38_1) h_1 fun u_1 h_2 =>
  pop P (nilS w1_1) fun t43_1 =>
  pop P (Instr.fieldAt 43 t43_1 0) fun t44_1 =>
  rop P (Instr.loadAt 34 t44_1) h_2 fun t45_1 =>
  pop P (nilS w1_1) fun t47_1 =>
  pop P (Instr.fieldAt 43 t47_1 1) fun t48_1 =>
  rop P (Instr.loadAt 3 t48_1) h_2 fun t49_1 =>
  pop P (Instr.indexAt 34 t45_1 t49_1) fun t50_1 =>
  rop P (Instr.loadAt 3 t50_1) h_2 fun t51_1 =>
  pop P (Instr.indexAt 34 t13_1 t51_1) fun t52_1 =>
  rop P (Instr.loadAt 3 t52_1) h_2 fun t53_1 =>
  pop P (nilS w1_1) fun t54_1 =>
  pop P (Instr.fieldAt 43 t54_1 1) fun t55_1 =>
  uop P (Instr.storeAt 3 t55_1 t53_1) h_2 fun u_2 h_3 =>
  K (Value.bool true) h_3)
theorem e92 (g0_1 : Value) (w1_1 : Value) (h : Heap) (K : Value → Heap → Prop) : wpA Tryd.prog 56 (anOf []) (bodyOf Tryd.f92) 1 (fun A h => resA Tryd.prog A h K [.tmp 4]) (fun _ _ _ => False) (fun A h => resA Tryd.prog A h K [.tmp 4]) (aargs [g0_1, w1_1] 0) h = t92 Tryd.prog g0_1 w1_1 h K := by kernel_rfl
theorem c92 (g0_1 : Value) (w1_1 : Value) (h : Heap) (K : Value → Heap → Prop) (H : t92 Tryd.prog g0_1 w1_1 h K) : callM Tryd.prog 92 #[g0_1, w1_1] h K :=
  callM_of_wpA mixed (fn := Tryd.f92) Tryd.func92 (c := bodyOf Tryd.f92) rfl (of_decide_eq_true (by kernel_rfl)) (anOf []) 54 56 (by kernel_rfl) rfl [.tmp 4] (by kernel_rfl) (args := [g0_1, w1_1]) (by rw [e92]; exact H)

/-! impl.EulerTour$2 -/
def t93 (P : Program) (t0_1 : Value) (t1_1 : Value) (t2_1 : Value) (h : Heap) (K : Value → Heap → Prop) : Prop :=
  rop P (Instr.loadAt 34 t1_1) h fun t4_1 =>
  pop P (Instr.fieldAt 43 t2_1 1) fun t5_1 =>
  rop P (Instr.loadAt 3 t5_1) h fun t6_1 =>
  eop P (Instr.buildSlice 34 1 #[(0, t6_1)]) h fun t7_1 h_1 =>
  eop P (appS 34 34 34 t4_1 t7_1) h_1 fun t8_1 h_2 =>
  uop P (Instr.storeAt 34 t1_1 t8_1) h_2 fun u_1 h_3 =>
  K (.tuple #[]) h_3
theorem e93 (t0_1 : Value) (t1_1 : Value) (t2_1 : Value) (h : Heap) (K : Value → Heap → Prop) : wpA Tryd.prog 9 (anOf []) (bodyOf Tryd.f93) 1 (fun A h => resA Tryd.prog A h K []) (fun _ _ _ => False) (fun A h => resA Tryd.prog A h K []) (aargs [t0_1, t1_1, t2_1] 0) h = t93 Tryd.prog t0_1 t1_1 t2_1 h K := by kernel_rfl
theorem c93 (t0_1 : Value) (t1_1 : Value) (t2_1 : Value) (h : Heap) (K : Value → Heap → Prop) (H : t93 Tryd.prog t0_1 t1_1 t2_1 h K) : callM Tryd.prog 93 #[t0_1, t1_1, t2_1] h K :=
  callM_of_wpA mixed (fn := Tryd.f93) Tryd.func93 (c := bodyOf Tryd.f93) rfl (of_decide_eq_true (by kernel_rfl)) (anOf []) 6 9 (by kernel_rfl) rfl [] (by kernel_rfl) (args := [t0_1, t1_1, t2_1]) (by rw [e93]; exact H)

/-! laws.markIntSS -/
def t94 (P : Program) (a0_1 : Value) (k1_1 : Value) (h : Heap) (K : Value → Heap → Prop) : Prop :=
  ∃ (I_1 : List Value → Heap → Prop) (μ_1 : List Value → Heap → Nat), I_1 [k1_1, (Value.int IntKind.i64 0)] h ∧
  ∀ (junk_1 : Nat → Value) (k1_2 : Value) (i5_1 : Value) (h_1 : Heap), I_1 [k1_2, i5_1] h_1 →
  pop P (lenS 22 3 a0_1) fun t8_1 =>
  pop P (binA .lss 3 i5_1 t8_1) fun t9_1 =>
  condM t9_1
  (pop P (Instr.indexAt 22 a0_1 i5_1) fun t14_1 =>
  rop P (Instr.loadAt 34 t14_1) h_1 fun t15_1 =>
  callM P 48 #[t15_1, k1_2] h_1 fun t17_1 h_2 =>
  pop P (binA .add 3 i5_1 (Value.int IntKind.i64 1)) fun t11_1 =>
  I_1 [t17_1, t11_1] h_2 ∧ μ_1 [t17_1, t11_1] h_2 < μ_1 [k1_2, i5_1] h_1)
  (K k1_2 h_1)
theorem e94 (a0_1 : Value) (k1_1 : Value) (h : Heap) (K : Value → Heap → Prop) : wpA Tryd.prog 19 (anOf [(26, [1, 5])]) (bodyOf Tryd.f94) 1 (fun A h => resA Tryd.prog A h K [.tmp 4]) (fun _ _ _ => False) (fun A h => resA Tryd.prog A h K [.tmp 4]) (aargs [a0_1, k1_1] 0) h = t94 Tryd.prog a0_1 k1_1 h K := by kernel_rfl
theorem c94 (a0_1 : Value) (k1_1 : Value) (h : Heap) (K : Value → Heap → Prop) (H : t94 Tryd.prog a0_1 k1_1 h K) : callM Tryd.prog 94 #[a0_1, k1_1] h K :=
  callM_of_wpA mixed (fn := Tryd.f94) Tryd.func94 (c := bodyOf Tryd.f94) rfl (of_decide_eq_true (by kernel_rfl)) (anOf [(26, [1, 5])]) 17 19 (by kernel_rfl) rfl [.tmp 4] (by kernel_rfl) (args := [a0_1, k1_1]) (by rw [e94]; exact H)

/-! slices.IndexFunc[[]int,int] -/
def t95 (P : Program) (s0_1 : Value) (f1_1 : Value) (h : Heap) (K : Value → Heap → Prop) : Prop :=
  pop P (lenS 34 3 s0_1) fun t7_1 =>
  ∃ (I_1 : List Value → Heap → Prop) (μ_1 : List Value → Heap → Nat), I_1 [(Value.int IntKind.i64 0)] h ∧
  ∀ (junk_1 : Nat → Value) (t8_1 : Value) (h_1 : Heap), I_1 [t8_1] h_1 →
  pop P (binA .lss 3 t8_1 t7_1) fun t9_1 =>
  condM t9_1
  (pop P (Instr.indexAt 34 s0_1 t8_1) fun t14_1 =>
  rop P (Instr.loadAt 3 t14_1) h_1 fun t15_1 =>
  callV P f1_1 [t15_1] h_1 fun t16_1 h_2 =>
  condM t16_1
  (K t8_1 h_2)
  (pop P (binA .add 3 t8_1 (Value.int IntKind.i64 1)) fun t18_1 =>
  I_1 [t18_1] h_2 ∧ μ_1 [t18_1] h_2 < μ_1 [t8_1] h_1))
  (K (Value.int IntKind.i64 (-1)) h_1)
theorem e95 (s0_1 : Value) (f1_1 : Value) (h : Heap) (K : Value → Heap → Prop) : wpA Tryd.prog 19 (anOf [(26, [8])]) (bodyOf Tryd.f95) 1 (fun A h => resA Tryd.prog A h K [.tmp 4]) (fun _ _ _ => False) (fun A h => resA Tryd.prog A h K [.tmp 4]) (aargs [s0_1, f1_1] 0) h = t95 Tryd.prog s0_1 f1_1 h K := by kernel_rfl
theorem c95 (s0_1 : Value) (f1_1 : Value) (h : Heap) (K : Value → Heap → Prop) (H : t95 Tryd.prog s0_1 f1_1 h K) : callM Tryd.prog 95 #[s0_1, f1_1] h K :=
  callM_of_wpA mixed (fn := Tryd.f95) Tryd.func95 (c := bodyOf Tryd.f95) rfl (of_decide_eq_true (by kernel_rfl)) (anOf [(26, [8])]) 17 19 (by kernel_rfl) rfl [.tmp 4] (by kernel_rfl) (args := [s0_1, f1_1]) (by rw [e95]; exact H)

/-! spec.waSame -/
def t101 (P : Program) (v0_1 : Value) (w1_1 : Value) (h : Heap) (K : Value → Heap → Prop) : Prop :=
  eop P (Instr.box 43 v0_1) h fun v2_1 h_1 =>
  eop P (Instr.box 43 w1_1) h_1 fun w3_1 h_2 =>
  pop P (Instr.fieldAt 43 v2_1 1) fun t7_1 =>
  rop P (Instr.loadAt 3 t7_1) h_2 fun t8_1 =>
  pop P (Instr.fieldAt 43 w3_1 1) fun t9_1 =>
  rop P (Instr.loadAt 3 t9_1) h_2 fun t10_1 =>
  pop P (binE .neq 3 (.tmp 8) (.tmp 10) t8_1 t10_1) fun t11_1 =>
  guardM (asG t11_1 false) false (fun k_1 => pop P (Instr.fieldAt 43 v2_1 0) fun t13_1 =>
  k_1 t13_1 h_2) h_2 fun t13_2 h_3 =>
  guardM (asG t11_1 false) false (fun k_2 => rop P (Instr.loadAt 34 t13_2) h_3 fun t14_1 =>
  k_2 t14_1 h_3) h_3 fun t14_2 h_4 =>
  guardM (asG t11_1 false) false (fun k_3 => pop P (lenS 34 3 t14_2) fun t15_1 =>
  k_3 t15_1 h_4) h_4 fun t15_2 h_5 =>
  guardM (asG t11_1 false) false (fun k_4 => pop P (Instr.fieldAt 43 w3_1 0) fun t16_1 =>
  k_4 t16_1 h_5) h_5 fun t16_2 h_6 =>
  guardM (asG t11_1 false) false (fun k_5 => rop P (Instr.loadAt 34 t16_2) h_6 fun t17_1 =>
  k_5 t17_1 h_6) h_6 fun t17_2 h_7 =>
  guardM (asG t11_1 false) false (fun k_6 => pop P (lenS 34 3 t17_2) fun t18_1 =>
  k_6 t18_1 h_7) h_7 fun t18_2 h_8 =>
  guardM (asG t11_1 false) false (fun k_7 => pop P (binE .neq 3 (.tmp 15) (.tmp 18) t15_2 t18_2) fun t19_1 =>
  k_7 t19_1 h_8) h_8 fun t19_2 h_9 =>
  pop P (pickS t11_1 (Value.bool true) t19_2) fun t20_1 =>
  condM t20_1
  (K (Value.bool false) h_9)
  (pop P (Instr.fieldAt 43 v2_1 0) fun t21_1 =>
  rop P (Instr.loadAt 34 t21_1) h_9 fun t22_1 =>
  pop P (lenS 34 3 t22_1) fun t23_1 =>
  ∃ (I_1 : List Value → Heap → Prop) (μ_1 : List Value → Heap → Nat), I_1 [(Value.int IntKind.i64 0)] h_9 ∧
  ∀ (junk_1 : Nat → Value) (t24_1 : Value) (h_10 : Heap), I_1 [t24_1] h_10 →
  pop P (binA .lss 3 t24_1 t23_1) fun t25_1 =>
  condM t25_1
  (pop P (Instr.indexAt 34 t22_1 t24_1) fun t27_1 =>
  rop P (Instr.loadAt 3 t27_1) h_10 fun t28_1 =>
  pop P (Instr.fieldAt 43 w3_1 0) fun t30_1 =>
  rop P (Instr.loadAt 34 t30_1) h_10 fun t31_1 =>
  pop P (Instr.indexAt 34 t31_1 t24_1) fun t33_1 =>
  rop P (Instr.loadAt 3 t33_1) h_10 fun t34_1 =>
  pop P (binE .neq 3 (.tmp 29) (.tmp 34) t28_1 t34_1) fun t35_1 =>
  condM t35_1
  (K (Value.bool false) h_10)
  (pop P (binA .add 3 t24_1 (Value.int IntKind.i64 1)) fun t36_1 =>
  I_1 [t36_1] h_10 ∧ μ_1 [t36_1] h_10 < μ_1 [t24_1] h_10))
  (K (Value.bool true) h_10))
theorem e101 (v0_1 : Value) (w1_1 : Value) (h : Heap) (K : Value → Heap → Prop) : wpA Tryd.prog 37 (anOf [(58, [24])]) (bodyOf Tryd.f101) 1 (fun A h => resA Tryd.prog A h K [.tmp 4]) (fun _ _ _ => False) (fun A h => resA Tryd.prog A h K [.tmp 4]) (aargs [v0_1, w1_1] 0) h = t101 Tryd.prog v0_1 w1_1 h K := by kernel_rfl
theorem c101 (v0_1 : Value) (w1_1 : Value) (h : Heap) (K : Value → Heap → Prop) (H : t101 Tryd.prog v0_1 w1_1 h K) : callM Tryd.prog 101 #[v0_1, w1_1] h K :=
  callM_of_wpA mixed (fn := Tryd.f101) Tryd.func101 (c := bodyOf Tryd.f101) rfl (of_decide_eq_true (by kernel_rfl)) (anOf [(58, [24])]) 35 37 (by kernel_rfl) rfl [.tmp 4] (by kernel_rfl) (args := [v0_1, w1_1]) (by rw [e101]; exact H)

/-! spec.waAgain -/
def t102 (P : Program) (g0_1 : Value) (w1_1 : Value) (most2_1 : Value) (h : Heap) (K : Value → Heap → Prop) : Prop :=
  eop P (Instr.box 41 g0_1) h fun g3_1 h_1 =>
  eop P (Instr.box 43 w1_1) h_1 fun w4_1 h_2 =>
  rop P (Instr.loadAt 43 w4_1) h_2 fun t11_1 =>
  eop P (Instr.alloc 43 true (.tuple #[])) h_2 fun now7_1 h_3 =>
  uop P (Instr.storeAt 43 now7_1 t11_1) h_3 fun u_1 h_4 =>
  ∃ (I_1 : List Value → Heap → Prop) (μ_1 : List Value → Heap → Nat), I_1 [(Value.int IntKind.i64 1)] h_4 ∧
  ∀ (junk_1 : Nat → Value) (n8_1 : Value) (h_5 : Heap), I_1 [n8_1] h_5 →
  pop P (binA .leq 3 n8_1 most2_1) fun t14_1 =>
  condM t14_1
  (rop P (Instr.loadAt 41 g3_1) h_5 fun t18_1 =>
  rop P (Instr.loadAt 43 now7_1) h_5 fun t19_1 =>
  callM P 80 #[t18_1, t19_1] h_5 fun t20_1 h_6 =>
  pop P (Instr.extract t20_1 0) fun t21_1 =>
  pop P (Instr.extract t20_1 1) fun t22_1 =>
  eop P (Instr.alloc 43 true (.tuple #[])) h_6 fun next9_1 h_7 =>
  uop P (Instr.storeAt 43 next9_1 t21_1) h_7 fun u_2 h_8 =>
  pop P (Op.unary .not t22_1) fun t24_1 =>
  condM t24_1
  (K (Value.int IntKind.i64 0) h_8)
  (rop P (Instr.loadAt 43 next9_1) h_8 fun t25_1 =>
  uop P (Instr.storeAt 43 now7_1 t25_1) h_8 fun u_3 h_9 =>
  rop P (Instr.loadAt 43 now7_1) h_9 fun t26_1 =>
  rop P (Instr.loadAt 43 w4_1) h_9 fun t27_1 =>
  callM P 101 #[t26_1, t27_1] h_9 fun t28_1 h_10 =>
  condM t28_1
  (K n8_1 h_10)
  (pop P (binA .add 3 n8_1 (Value.int IntKind.i64 1)) fun t16_1 =>
  I_1 [t16_1] h_10 ∧ μ_1 [t16_1] h_10 < μ_1 [n8_1] h_5)))
  (K (Value.int IntKind.i64 0) h_5)
theorem e102 (g0_1 : Value) (w1_1 : Value) (most2_1 : Value) (h : Heap) (K : Value → Heap → Prop) : wpA Tryd.prog 30 (anOf [(58, [8])]) (bodyOf Tryd.f102) 1 (fun A h => resA Tryd.prog A h K [.tmp 6]) (fun _ _ _ => False) (fun A h => resA Tryd.prog A h K [.tmp 6]) (aargs [g0_1, w1_1, most2_1] 0) h = t102 Tryd.prog g0_1 w1_1 most2_1 h K := by kernel_rfl
theorem c102 (g0_1 : Value) (w1_1 : Value) (most2_1 : Value) (h : Heap) (K : Value → Heap → Prop) (H : t102 Tryd.prog g0_1 w1_1 most2_1 h K) : callM Tryd.prog 102 #[g0_1, w1_1, most2_1] h K :=
  callM_of_wpA mixed (fn := Tryd.f102) Tryd.func102 (c := bodyOf Tryd.f102) rfl (of_decide_eq_true (by kernel_rfl)) (anOf [(58, [8])]) 27 30 (by kernel_rfl) rfl [.tmp 6] (by kernel_rfl) (args := [g0_1, w1_1, most2_1]) (by rw [e102]; exact H)

/-! slices.Clone[[]int,int] -/
def t105 (P : Program) (s0_1 : Value) (h : Heap) (K : Value → Heap → Prop) : Prop :=
  pop P (binE .eql 34 (.tmp 3) (.const (Value.slice none 0 0)) s0_1 (Value.slice none 0 0)) fun t4_1 =>
  condM t4_1
  (K (Value.slice none 0 0) h)
  (eop P (Instr.buildSlice 34 0 #[]) h fun t5_1 h_1 =>
  eop P (appS 34 34 34 t5_1 s0_1) h_1 fun t7_1 h_2 =>
  K t7_1 h_2)
theorem e105 (s0_1 : Value) (h : Heap) (K : Value → Heap → Prop) : wpA Tryd.prog 8 (anOf []) (bodyOf Tryd.f105) 1 (fun A h => resA Tryd.prog A h K [.tmp 2]) (fun _ _ _ => False) (fun A h => resA Tryd.prog A h K [.tmp 2]) (aargs [s0_1] 0) h = t105 Tryd.prog s0_1 h K := by kernel_rfl
theorem c105 (s0_1 : Value) (h : Heap) (K : Value → Heap → Prop) (H : t105 Tryd.prog s0_1 h K) : callM Tryd.prog 105 #[s0_1] h K :=
  callM_of_wpA mixed (fn := Tryd.f105) Tryd.func105 (c := bodyOf Tryd.f105) rfl (of_decide_eq_true (by kernel_rfl)) (anOf []) 7 8 (by kernel_rfl) rfl [.tmp 2] (by kernel_rfl) (args := [s0_1]) (by rw [e105]; exact H)

/-! spec.grGood -/
def t106 (P : Program) (g0_1 : Value) (h : Heap) (K : Value → Heap → Prop) : Prop :=
  eop P (Instr.box 41 g0_1) h fun g1_1 h_1 =>
  pop P (Instr.fieldAt 41 g1_1 0) fun t6_1 =>
  rop P (Instr.loadAt 22 t6_1) h_1 fun t7_1 =>
  pop P (lenS 22 3 t7_1) fun t8_1 =>
  callM P 51 #[t8_1, (Value.int IntKind.i64 1), (Value.int IntKind.i64 8)] h_1 fun t10_1 h_2 =>
  pop P (Op.unary .not t10_1) fun t11_1 =>
  condM t11_1
  (K (Value.bool false) h_2)
  (pop P (Instr.fieldAt 41 g1_1 0) fun t12_1 =>
  rop P (Instr.loadAt 22 t12_1) h_2 fun t13_1 =>
  pop P (lenS 22 3 t13_1) fun t14_1 =>
  ∃ (I_1 : List Value → Heap → Prop) (μ_1 : List Value → Heap → Nat), I_1 [(Value.int IntKind.i64 0)] h_2 ∧
  ∀ (junk_1 : Nat → Value) (t15_1 : Value) (h_3 : Heap), I_1 [t15_1] h_3 →
  pop P (binA .lss 3 t15_1 t14_1) fun t16_1 =>
  condM t16_1
  (pop P (Instr.indexAt 22 t13_1 t15_1) fun t17_1 =>
  rop P (Instr.loadAt 34 t17_1) h_3 fun t18_1 =>
  pop P (lenS 34 3 t18_1) fun t20_1 =>
  pop P (binA .gtr 3 t20_1 (Value.int IntKind.i64 5)) fun t21_1 =>
  guardM (asG t21_1 false) false (fun k_1 => k_1 t18_1 h_3) h_3 fun t23_1 h_4 =>
  guardM (asG t21_1 false) false (fun k_2 => k_2 t8_1 h_4) h_4 fun t24_1 h_5 =>
  guardM (asG t21_1 false) false (fun k_3 => pop P (binA .sub 3 t24_1 (Value.int IntKind.i64 1)) fun t25_1 =>
  k_3 t25_1 h_5) h_5 fun t25_2 h_6 =>
  guardM (asG t21_1 false) false (fun k_4 => callM P 52 #[t23_1, (Value.int IntKind.i64 0), t25_2] h_6 fun t26_1 h_7 =>
  k_4 t26_1 h_7) h_6 fun t26_2 h_8 =>
  guardM (asG t21_1 false) false (fun k_5 => pop P (Op.unary .not t26_2) fun t27_1 =>
  k_5 t27_1 h_8) h_8 fun t27_2 h_9 =>
  pop P (pickS t21_1 (Value.bool true) t27_2) fun t28_1 =>
  condM t28_1
  (K (Value.bool false) h_9)
  (pop P (binA .add 3 t15_1 (Value.int IntKind.i64 1)) fun t29_1 =>
  I_1 [t29_1] h_9 ∧ μ_1 [t29_1] h_9 < μ_1 [t15_1] h_3))
  (K (Value.bool true) h_3))
theorem e106 (g0_1 : Value) (h : Heap) (K : Value → Heap → Prop) : wpA Tryd.prog 30 (anOf [(122, [15])]) (bodyOf Tryd.f106) 1 (fun A h => resA Tryd.prog A h K [.tmp 2]) (fun _ _ _ => False) (fun A h => resA Tryd.prog A h K [.tmp 2]) (aargs [g0_1] 0) h = t106 Tryd.prog g0_1 h K := by kernel_rfl
theorem c106 (g0_1 : Value) (h : Heap) (K : Value → Heap → Prop) (H : t106 Tryd.prog g0_1 h K) : callM Tryd.prog 106 #[g0_1] h K :=
  callM_of_wpA mixed (fn := Tryd.f106) Tryd.func106 (c := bodyOf Tryd.f106) rfl (of_decide_eq_true (by kernel_rfl)) (anOf [(122, [15])]) 29 30 (by kernel_rfl) rfl [.tmp 2] (by kernel_rfl) (args := [g0_1]) (by rw [e106]; exact H)

/-! spec.grReach -/
def t107 (P : Program) (g0_1 : Value) (p1_1 : Value) (h : Heap) (K : Value → Heap → Prop) : Prop :=
  eop P (Instr.box 41 g0_1) h fun g2_1 h_1 =>
  rop P (Instr.loadAt 41 g2_1) h_1 fun t8_1 =>
  callM P 122 #[t8_1, p1_1] h_1 fun t10_1 h_2 =>
  pop P (lenS 34 3 t10_1) fun t11_1 =>
  ∃ (I_1 : List Value → Heap → Prop) (μ_1 : List Value → Heap → Nat), I_1 [(Value.slice none 0 0), (Value.int IntKind.i64 0)] h_2 ∧
  ∀ (junk_1 : Nat → Value) (out5_1 : Value) (t12_1 : Value) (h_3 : Heap), I_1 [out5_1, t12_1] h_3 →
  pop P (binA .lss 3 t12_1 t11_1) fun t13_1 =>
  condM t13_1
  (pop P (Instr.indexAt 34 t10_1 t12_1) fun t15_1 =>
  rop P (Instr.loadAt 3 t15_1) h_3 fun t16_1 =>
  pop P (binA .geq 3 t16_1 (Value.int IntKind.i64 0)) fun t18_1 =>
  condM t18_1
  (eop P (Instr.buildSlice 34 1 #[(0, t12_1)]) h_3 fun t21_1 h_4 =>
  eop P (appS 34 34 34 out5_1 t21_1) h_4 fun t22_1 h_5 =>
  pop P (binA .add 3 t12_1 (Value.int IntKind.i64 1)) fun t23_1 =>
  I_1 [t22_1, t23_1] h_5 ∧ μ_1 [t22_1, t23_1] h_5 < μ_1 [out5_1, t12_1] h_3)
  (pop P (binA .add 3 t12_1 (Value.int IntKind.i64 1)) fun t23_2 =>
  I_1 [out5_1, t23_2] h_3 ∧ μ_1 [out5_1, t23_2] h_3 < μ_1 [out5_1, t12_1] h_3))
  (K out5_1 h_3)
theorem e107 (g0_1 : Value) (p1_1 : Value) (h : Heap) (K : Value → Heap → Prop) : wpA Tryd.prog 25 (anOf [(58, [5, 12])]) (bodyOf Tryd.f107) 1 (fun A h => resA Tryd.prog A h K [.tmp 4]) (fun _ _ _ => False) (fun A h => resA Tryd.prog A h K [.tmp 4]) (aargs [g0_1, p1_1] 0) h = t107 Tryd.prog g0_1 p1_1 h K := by kernel_rfl
theorem c107 (g0_1 : Value) (p1_1 : Value) (h : Heap) (K : Value → Heap → Prop) (H : t107 Tryd.prog g0_1 p1_1 h K) : callM Tryd.prog 107 #[g0_1, p1_1] h K :=
  callM_of_wpA mixed (fn := Tryd.f107) Tryd.func107 (c := bodyOf Tryd.f107) rfl (of_decide_eq_true (by kernel_rfl)) (anOf [(58, [5, 12])]) 23 25 (by kernel_rfl) rfl [.tmp 4] (by kernel_rfl) (args := [g0_1, p1_1]) (by rw [e107]; exact H)

/-! spec.grEntries -/
def t108 (P : Program) (g0_1 : Value) (p1_1 : Value) (h : Heap) (K : Value → Heap → Prop) : Prop :=
  eop P (Instr.box 41 g0_1) h fun g2_1 h_1 =>
  pop P (Instr.fieldAt 41 g2_1 0) fun t10_1 =>
  rop P (Instr.loadAt 22 t10_1) h_1 fun t11_1 =>
  pop P (lenS 22 3 t11_1) fun t12_1 =>
  ∃ (I_1 : List Value → Heap → Prop) (μ_1 : List Value → Heap → Nat), I_1 [(Value.int IntKind.i64 0), (Value.int IntKind.i64 0)] h_1 ∧
  ∀ (junk_1 : Nat → Value) (n5_1 : Value) (t13_1 : Value) (h_2 : Heap), I_1 [n5_1, t13_1] h_2 →
  pop P (binA .lss 3 t13_1 t12_1) fun t14_1 =>
  condM t14_1
  (pop P (Instr.indexAt 22 t11_1 t13_1) fun t15_1 =>
  rop P (Instr.loadAt 34 t15_1) h_2 fun t16_1 =>
  pop P (lenS 34 3 t16_1) fun t18_1 =>
  ∃ (I_2 : List Value → Heap → Prop) (μ_2 : List Value → Heap → Nat), I_2 [n5_1, (Value.int IntKind.i64 0)] h_2 ∧
  ∀ (junk_2 : Nat → Value) (n5_2 : Value) (t19_1 : Value) (h_3 : Heap), I_2 [n5_2, t19_1] h_3 →
  pop P (binA .lss 3 t19_1 t18_1) fun t20_1 =>
  condM t20_1
  (pop P (Instr.indexAt 34 t16_1 t19_1) fun t21_1 =>
  rop P (Instr.loadAt 3 t21_1) h_3 fun t22_1 =>
  pop P (binE .eql 3 (.tmp 23) (.tmp 24) t22_1 p1_1) fun t25_1 =>
  condM t25_1
  (pop P (binA .add 3 n5_2 (Value.int IntKind.i64 1)) fun t27_1 =>
  pop P (binA .add 3 t19_1 (Value.int IntKind.i64 1)) fun t28_1 =>
  I_2 [t27_1, t28_1] h_3 ∧ μ_2 [t27_1, t28_1] h_3 < μ_2 [n5_2, t19_1] h_3)
  (pop P (binA .add 3 t19_1 (Value.int IntKind.i64 1)) fun t28_2 =>
  I_2 [n5_2, t28_2] h_3 ∧ μ_2 [n5_2, t28_2] h_3 < μ_2 [n5_2, t19_1] h_3))
  (pop P (binA .add 3 t13_1 (Value.int IntKind.i64 1)) fun t29_1 =>
  I_1 [n5_2, t29_1] h_3 ∧ μ_1 [n5_2, t29_1] h_3 < μ_1 [n5_1, t13_1] h_2))
  (K n5_1 h_2)
theorem e108 (g0_1 : Value) (p1_1 : Value) (h : Heap) (K : Value → Heap → Prop) : wpA Tryd.prog 31 (anOf [(58, [5, 13]), (14950, [5, 19])]) (bodyOf Tryd.f108) 1 (fun A h => resA Tryd.prog A h K [.tmp 4]) (fun _ _ _ => False) (fun A h => resA Tryd.prog A h K [.tmp 4]) (aargs [g0_1, p1_1] 0) h = t108 Tryd.prog g0_1 p1_1 h K := by kernel_rfl
theorem c108 (g0_1 : Value) (p1_1 : Value) (h : Heap) (K : Value → Heap → Prop) (H : t108 Tryd.prog g0_1 p1_1 h K) : callM Tryd.prog 108 #[g0_1, p1_1] h K :=
  callM_of_wpA mixed (fn := Tryd.f108) Tryd.func108 (c := bodyOf Tryd.f108) rfl (of_decide_eq_true (by kernel_rfl)) (anOf [(58, [5, 13]), (14950, [5, 19])]) 29 31 (by kernel_rfl) rfl [.tmp 4] (by kernel_rfl) (args := [g0_1, p1_1]) (by rw [e108]; exact H)

/-! impl.isGraph -/
def t109 (P : Program) (g0_1 : Value) (h : Heap) (K : Value → Heap → Prop) : Prop :=
  eop P (Instr.box 41 g0_1) h fun g1_1 h_1 =>
  pop P (Instr.fieldAt 41 g1_1 0) fun t6_1 =>
  rop P (Instr.loadAt 22 t6_1) h_1 fun t7_1 =>
  pop P (lenS 22 3 t7_1) fun t8_1 =>
  eop P (Instr.alloc 3 true (.tuple #[])) h_1 fun n3_1 h_2 =>
  uop P (Instr.storeAt 3 n3_1 t8_1) h_2 fun u_1 h_3 =>
  rop P (Instr.loadAt 3 n3_1) h_3 fun t9_1 =>
  callM P 55 #[t9_1, (Value.int IntKind.i64 1), (Value.int IntKind.i64 8)] h_3 fun t10_1 h_4 =>
  pop P (Op.unary .not t10_1) fun t11_1 =>
  condM t11_1
  (K (Value.bool false) h_4)
  (pop P (Instr.fieldAt 41 g1_1 0) fun t12_1 =>
  rop P (Instr.loadAt 22 t12_1) h_4 fun t13_1 =>
  pop P (lenS 22 3 t13_1) fun t14_1 =>
  ∃ (I_1 : List Value → Heap → Prop) (μ_1 : List Value → Heap → Nat), I_1 [(Value.int IntKind.i64 0)] h_4 ∧
  ∀ (junk_1 : Nat → Value) (t15_1 : Value) (h_5 : Heap), I_1 [t15_1] h_5 →
  pop P (binA .lss 3 t15_1 t14_1) fun t16_1 =>
  condM t16_1
  (pop P (Instr.indexAt 22 t13_1 t15_1) fun t17_1 =>
  rop P (Instr.loadAt 34 t17_1) h_5 fun t18_1 =>
  pop P (lenS 34 3 t18_1) fun t20_1 =>
  pop P (binA .gtr 3 t20_1 (Value.int IntKind.i64 5)) fun t21_1 =>
  guardM (asG t21_1 false) false (fun k_1 => k_1 t18_1 h_5) h_5 fun t23_1 h_6 =>
  guardM (asG t21_1 false) false (fun k_2 => pop P (Instr.makeFunc (Fn.func 123) #[] #[n3_1]) fun t24_1 =>
  k_2 t24_1 h_6) h_6 fun t24_2 h_7 =>
  guardM (asG t21_1 false) false (fun k_3 => callM P 56 #[t23_1, t24_2] h_7 fun t25_1 h_8 =>
  k_3 t25_1 h_8) h_7 fun t25_2 h_9 =>
  pop P (pickS t21_1 (Value.bool true) t25_2) fun t26_1 =>
  condM t26_1
  (K (Value.bool false) h_9)
  (pop P (binA .add 3 t15_1 (Value.int IntKind.i64 1)) fun t27_1 =>
  I_1 [t27_1] h_9 ∧ μ_1 [t27_1] h_9 < μ_1 [t15_1] h_5))
  (K (Value.bool true) h_5))
theorem e109 (g0_1 : Value) (h : Heap) (K : Value → Heap → Prop) : wpA Tryd.prog 28 (anOf [(122, [15])]) (bodyOf Tryd.f109) 1 (fun A h => resA Tryd.prog A h K [.tmp 2]) (fun _ _ _ => False) (fun A h => resA Tryd.prog A h K [.tmp 2]) (aargs [g0_1] 0) h = t109 Tryd.prog g0_1 h K := by kernel_rfl
theorem c109 (g0_1 : Value) (h : Heap) (K : Value → Heap → Prop) (H : t109 Tryd.prog g0_1 h K) : callM Tryd.prog 109 #[g0_1] h K :=
  callM_of_wpA mixed (fn := Tryd.f109) Tryd.func109 (c := bodyOf Tryd.f109) rfl (of_decide_eq_true (by kernel_rfl)) (anOf [(122, [15])]) 27 28 (by kernel_rfl) rfl [.tmp 2] (by kernel_rfl) (args := [g0_1]) (by rw [e109]; exact H)

/-! impl.has$1 -/
def t110 (P : Program) (p0_1 : Value) (t1_1 : Value) (h : Heap) (K : Value → Heap → Prop) : Prop :=
  pop P (Instr.fieldAt 41 t1_1 0) fun t5_1 =>
  rop P (Instr.loadAt 22 t5_1) h fun t6_1 =>
  pop P (lenS 22 3 t6_1) fun t7_1 =>
  pop P (binA .sub 3 t7_1 (Value.int IntKind.i64 1)) fun t8_1 =>
  callM P 55 #[p0_1, (Value.int IntKind.i64 0), t8_1] h fun t9_1 h_1 =>
  pop P (Op.unary .not t9_1) fun t10_1 =>
  K t10_1 h_1
theorem e110 (p0_1 : Value) (t1_1 : Value) (h : Heap) (K : Value → Heap → Prop) : wpA Tryd.prog 11 (anOf []) (bodyOf Tryd.f110) 1 (fun A h => resA Tryd.prog A h K [.tmp 3]) (fun _ _ _ => False) (fun A h => resA Tryd.prog A h K [.tmp 3]) (aargs [p0_1, t1_1] 0) h = t110 Tryd.prog p0_1 t1_1 h K := by kernel_rfl
theorem c110 (p0_1 : Value) (t1_1 : Value) (h : Heap) (K : Value → Heap → Prop) (H : t110 Tryd.prog p0_1 t1_1 h K) : callM Tryd.prog 110 #[p0_1, t1_1] h K :=
  callM_of_wpA mixed (fn := Tryd.f110) Tryd.func110 (c := bodyOf Tryd.f110) rfl (of_decide_eq_true (by kernel_rfl)) (anOf []) 9 11 (by kernel_rfl) rfl [.tmp 3] (by kernel_rfl) (args := [p0_1, t1_1]) (by rw [e110]; exact H)

/-! (impl.Graph).reach -/
def t111 (P : Program) (g0_1 : Value) (p1_1 : Value) (h : Heap) (K : Value → Heap → Prop) : Prop :=
  eop P (Instr.box 41 g0_1) h fun g2_1 h_1 =>
  eop P (Instr.buildSlice 34 0 #[]) h_1 fun t8_1 h_2 =>
  rop P (Instr.loadAt 41 g2_1) h_2 fun t9_1 =>
  callM P 124 #[t9_1, p1_1] h_2 fun t11_1 h_3 =>
  pop P (lenS 34 3 t11_1) fun t12_1 =>
  ∃ (I_1 : List Value → Heap → Prop) (μ_1 : List Value → Heap → Nat), I_1 [t8_1, (Value.int IntKind.i64 0)] h_3 ∧
  ∀ (junk_1 : Nat → Value) (out5_1 : Value) (t13_1 : Value) (h_4 : Heap), I_1 [out5_1, t13_1] h_4 →
  pop P (binA .lss 3 t13_1 t12_1) fun t14_1 =>
  condM t14_1
  (pop P (Instr.indexAt 34 t11_1 t13_1) fun t16_1 =>
  rop P (Instr.loadAt 3 t16_1) h_4 fun t17_1 =>
  pop P (binA .geq 3 t17_1 (Value.int IntKind.i64 0)) fun t19_1 =>
  condM t19_1
  (eop P (Instr.buildSlice 34 1 #[(0, t13_1)]) h_4 fun t22_1 h_5 =>
  eop P (appS 34 34 34 out5_1 t22_1) h_5 fun t23_1 h_6 =>
  pop P (binA .add 3 t13_1 (Value.int IntKind.i64 1)) fun t24_1 =>
  I_1 [t23_1, t24_1] h_6 ∧ μ_1 [t23_1, t24_1] h_6 < μ_1 [out5_1, t13_1] h_4)
  (pop P (binA .add 3 t13_1 (Value.int IntKind.i64 1)) fun t24_2 =>
  I_1 [out5_1, t24_2] h_4 ∧ μ_1 [out5_1, t24_2] h_4 < μ_1 [out5_1, t13_1] h_4))
  (K out5_1 h_4)
theorem e111 (g0_1 : Value) (p1_1 : Value) (h : Heap) (K : Value → Heap → Prop) : wpA Tryd.prog 26 (anOf [(58, [5, 13])]) (bodyOf Tryd.f111) 1 (fun A h => resA Tryd.prog A h K [.tmp 4]) (fun _ _ _ => False) (fun A h => resA Tryd.prog A h K [.tmp 4]) (aargs [g0_1, p1_1] 0) h = t111 Tryd.prog g0_1 p1_1 h K := by kernel_rfl
theorem c111 (g0_1 : Value) (p1_1 : Value) (h : Heap) (K : Value → Heap → Prop) (H : t111 Tryd.prog g0_1 p1_1 h K) : callM Tryd.prog 111 #[g0_1, p1_1] h K :=
  callM_of_wpA mixed (fn := Tryd.f111) Tryd.func111 (c := bodyOf Tryd.f111) rfl (of_decide_eq_true (by kernel_rfl)) (anOf [(58, [5, 13])]) 24 26 (by kernel_rfl) rfl [.tmp 4] (by kernel_rfl) (args := [g0_1, p1_1]) (by rw [e111]; exact H)

/-! (impl.Graph).entries -/
def t112 (P : Program) (g0_1 : Value) (p1_1 : Value) (h : Heap) (K : Value → Heap → Prop) : Prop :=
  eop P (Instr.box 41 g0_1) h fun g2_1 h_1 =>
  pop P (Instr.fieldAt 41 g2_1 0) fun t8_1 =>
  rop P (Instr.loadAt 22 t8_1) h_1 fun t9_1 =>
  callM P 90 #[t9_1] h_1 fun t10_1 h_2 =>
  pop P (lenS 34 3 t10_1) fun t11_1 =>
  ∃ (I_1 : List Value → Heap → Prop) (μ_1 : List Value → Heap → Nat), I_1 [(Value.int IntKind.i64 0), (Value.int IntKind.i64 0)] h_2 ∧
  ∀ (junk_1 : Nat → Value) (many5_1 : Value) (t12_1 : Value) (h_3 : Heap), I_1 [many5_1, t12_1] h_3 →
  pop P (binA .lss 3 t12_1 t11_1) fun t13_1 =>
  condM t13_1
  (pop P (Instr.indexAt 34 t10_1 t12_1) fun t14_1 =>
  rop P (Instr.loadAt 3 t14_1) h_3 fun t15_1 =>
  pop P (binE .eql 3 (.tmp 16) (.tmp 17) t15_1 p1_1) fun t18_1 =>
  condM t18_1
  (pop P (binA .add 3 many5_1 (Value.int IntKind.i64 1)) fun t20_1 =>
  pop P (binA .add 3 t12_1 (Value.int IntKind.i64 1)) fun t21_1 =>
  I_1 [t20_1, t21_1] h_3 ∧ μ_1 [t20_1, t21_1] h_3 < μ_1 [many5_1, t12_1] h_3)
  (pop P (binA .add 3 t12_1 (Value.int IntKind.i64 1)) fun t21_2 =>
  I_1 [many5_1, t21_2] h_3 ∧ μ_1 [many5_1, t21_2] h_3 < μ_1 [many5_1, t12_1] h_3))
  (K many5_1 h_3)
theorem e112 (g0_1 : Value) (p1_1 : Value) (h : Heap) (K : Value → Heap → Prop) : wpA Tryd.prog 23 (anOf [(58, [5, 12])]) (bodyOf Tryd.f112) 1 (fun A h => resA Tryd.prog A h K [.tmp 4]) (fun _ _ _ => False) (fun A h => resA Tryd.prog A h K [.tmp 4]) (aargs [g0_1, p1_1] 0) h = t112 Tryd.prog g0_1 p1_1 h K := by kernel_rfl
theorem c112 (g0_1 : Value) (p1_1 : Value) (h : Heap) (K : Value → Heap → Prop) (H : t112 Tryd.prog g0_1 p1_1 h K) : callM Tryd.prog 112 #[g0_1, p1_1] h K :=
  callM_of_wpA mixed (fn := Tryd.f112) Tryd.func112 (c := bodyOf Tryd.f112) rfl (of_decide_eq_true (by kernel_rfl)) (anOf [(58, [5, 12])]) 21 23 (by kernel_rfl) rfl [.tmp 4] (by kernel_rfl) (args := [g0_1, p1_1]) (by rw [e112]; exact H)

/-! slices.Grow[[]int,int] -/
def t113 (P : Program) (s0_1 : Value) (n1_1 : Value) (h : Heap) (K : Value → Heap → Prop) : Prop :=
  ∃ J_1 : List Value → Heap → Prop, (pop P (binA .lss 3 n1_1 (Value.int IntKind.i64 0)) fun t6_1 =>
  condM t6_1
  (pop P (Instr.makeInterface 9 (Value.string { data := #[99, 97, 110, 110, 111, 116, 32, 98, 101, 32, 110, 101, 103, 97, 116, 105, 118, 101] })) fun t7_1 =>
  False)
  (J_1 [] h)) ∧
  ∀ (junk_1 : Nat → Value) (h_1 : Heap), J_1 [] h_1 →
  pop P (Builtin.cap_ #[34] 3 #[s0_1]) fun t10_1 =>
  pop P (lenS 34 3 s0_1) fun t12_1 =>
  pop P (binA .sub 3 t10_1 t12_1) fun t13_1 =>
  pop P (binA .sub 3 n1_1 t13_1) fun t14_1 =>
  pop P (binA .gtr 3 t14_1 (Value.int IntKind.i64 0)) fun t16_1 =>
  condM t16_1
  (pop P (Builtin.cap_ #[34] 3 #[s0_1]) fun t19_1 =>
  pop P (Instr.sliceAt 34 s0_1 none (some t19_1) none) fun t20_1 =>
  eop P (appS 34 3 34 t20_1 t14_1) h_1 fun t22_1 h_2 =>
  pop P (lenS 34 3 s0_1) fun t24_1 =>
  pop P (Instr.sliceAt 34 t22_1 none (some t24_1) none) fun t25_1 =>
  K t25_1 h_2)
  (K s0_1 h_1)
theorem e113 (s0_1 : Value) (n1_1 : Value) (h : Heap) (K : Value → Heap → Prop) : wpA Tryd.prog 27 (anOf [(3, [])]) (bodyOf Tryd.f113) 1 (fun A h => resA Tryd.prog A h K [.tmp 4]) (fun _ _ _ => False) (fun A h => resA Tryd.prog A h K [.tmp 4]) (aargs [s0_1, n1_1] 0) h = t113 Tryd.prog s0_1 n1_1 h K := by kernel_rfl
theorem c113 (s0_1 : Value) (n1_1 : Value) (h : Heap) (K : Value → Heap → Prop) (H : t113 Tryd.prog s0_1 n1_1 h K) : callM Tryd.prog 113 #[s0_1, n1_1] h K :=
  callM_of_wpA mixed (fn := Tryd.f113) Tryd.func113 (c := bodyOf Tryd.f113) rfl (of_decide_eq_true (by kernel_rfl)) (anOf [(3, [])]) 25 27 (by kernel_rfl) rfl [.tmp 4] (by kernel_rfl) (args := [s0_1, n1_1]) (by rw [e113]; exact H)

/-! spec.grFar -/
def t122 (P : Program) (g0_1 : Value) (p1_1 : Value) (h : Heap) (K : Value → Heap → Prop) : Prop :=
  eop P (Instr.box 41 g0_1) h fun g2_1 h_1 =>
  pop P (Instr.fieldAt 41 g2_1 0) fun t11_1 =>
  rop P (Instr.loadAt 22 t11_1) h_1 fun t12_1 =>
  pop P (lenS 22 3 t12_1) fun t13_1 =>
  eop P (Instr.makeSlice 34 t13_1 t13_1) h_1 fun t14_1 h_2 =>
  pop P (lenS 34 3 t14_1) fun t16_1 =>
  ∃ (I_1 : List Value → Heap → Prop) (μ_1 : List Value → Heap → Nat), I_1 [(Value.int IntKind.i64 0)] h_2 ∧
  ∀ (junk_1 : Nat → Value) (t17_1 : Value) (h_3 : Heap), I_1 [t17_1] h_3 →
  pop P (binA .lss 3 t17_1 t16_1) fun t18_1 =>
  condM t18_1
  (pop P (Instr.indexAt 34 t14_1 t17_1) fun t22_1 =>
  uop P (Instr.storeAt 3 t22_1 (Value.int IntKind.i64 (-1))) h_3 fun u_1 h_4 =>
  pop P (binA .add 3 t17_1 (Value.int IntKind.i64 1)) fun t23_1 =>
  I_1 [t23_1] h_4 ∧ μ_1 [t23_1] h_4 < μ_1 [t17_1] h_3)
  (pop P (Instr.indexAt 34 t14_1 p1_1) fun t26_1 =>
  uop P (Instr.storeAt 3 t26_1 (Value.int IntKind.i64 0)) h_3 fun u_2 h_5 =>
  eop P (Instr.buildSlice 34 1 #[(0, p1_1)]) h_5 fun t28_1 h_6 =>
  ∃ (I_2 : List Value → Heap → Prop) (μ_2 : List Value → Heap → Nat), I_2 [t28_1, (Value.int IntKind.i64 0)] h_6 ∧
  ∀ (junk_2 : Nat → Value) (queue7_1 : Value) (k8_1 : Value) (h_7 : Heap), I_2 [queue7_1, k8_1] h_7 →
  pop P (lenS 34 3 queue7_1) fun t31_1 =>
  pop P (binA .lss 3 k8_1 t31_1) fun t32_1 =>
  condM t32_1
  (pop P (Instr.fieldAt 41 g2_1 0) fun t35_1 =>
  rop P (Instr.loadAt 22 t35_1) h_7 fun t36_1 =>
  pop P (Instr.indexAt 34 queue7_1 k8_1) fun t39_1 =>
  rop P (Instr.loadAt 3 t39_1) h_7 fun t40_1 =>
  pop P (Instr.indexAt 22 t36_1 t40_1) fun t41_1 =>
  rop P (Instr.loadAt 34 t41_1) h_7 fun t42_1 =>
  pop P (lenS 34 3 t42_1) fun t43_1 =>
  ∃ (I_3 : List Value → Heap → Prop) (μ_3 : List Value → Heap → Nat), I_3 [queue7_1, (Value.int IntKind.i64 0)] h_7 ∧
  ∀ (junk_3 : Nat → Value) (queue7_2 : Value) (t44_1 : Value) (h_8 : Heap), I_3 [queue7_2, t44_1] h_8 →
  pop P (binA .lss 3 t44_1 t43_1) fun t45_1 =>
  condM t45_1
  (pop P (Instr.indexAt 34 t42_1 t44_1) fun t46_1 =>
  rop P (Instr.loadAt 3 t46_1) h_8 fun t47_1 =>
  pop P (Instr.indexAt 34 t14_1 t47_1) fun t50_1 =>
  rop P (Instr.loadAt 3 t50_1) h_8 fun t51_1 =>
  pop P (binA .lss 3 t51_1 (Value.int IntKind.i64 0)) fun t52_1 =>
  condM t52_1
  (pop P (Instr.indexAt 34 queue7_2 k8_1) fun t58_1 =>
  rop P (Instr.loadAt 3 t58_1) h_8 fun t59_1 =>
  pop P (Instr.indexAt 34 t14_1 t59_1) fun t60_1 =>
  rop P (Instr.loadAt 3 t60_1) h_8 fun t61_1 =>
  pop P (binA .add 3 t61_1 (Value.int IntKind.i64 1)) fun t62_1 =>
  pop P (Instr.indexAt 34 t14_1 t47_1) fun t63_1 =>
  uop P (Instr.storeAt 3 t63_1 t62_1) h_8 fun u_3 h_9 =>
  eop P (Instr.buildSlice 34 1 #[(0, t47_1)]) h_9 fun t66_1 h_10 =>
  eop P (appS 34 34 34 queue7_2 t66_1) h_10 fun t67_1 h_11 =>
  pop P (binA .add 3 t44_1 (Value.int IntKind.i64 1)) fun t68_1 =>
  I_3 [t67_1, t68_1] h_11 ∧ μ_3 [t67_1, t68_1] h_11 < μ_3 [queue7_2, t44_1] h_8)
  (pop P (binA .add 3 t44_1 (Value.int IntKind.i64 1)) fun t68_2 =>
  I_3 [queue7_2, t68_2] h_8 ∧ μ_3 [queue7_2, t68_2] h_8 < μ_3 [queue7_2, t44_1] h_8))
  (pop P (binA .add 3 k8_1 (Value.int IntKind.i64 1)) fun t34_1 =>
  I_2 [queue7_2, t34_1] h_8 ∧ μ_2 [queue7_2, t34_1] h_8 < μ_2 [queue7_1, k8_1] h_7))
  (K t14_1 h_7))
theorem e122 (g0_1 : Value) (p1_1 : Value) (h : Heap) (K : Value → Heap → Prop) : wpA Tryd.prog 70 (anOf [(58, [17]), (506, [7, 8]), (32402, [7, 44])]) (bodyOf Tryd.f122) 1 (fun A h => resA Tryd.prog A h K [.tmp 4]) (fun _ _ _ => False) (fun A h => resA Tryd.prog A h K [.tmp 4]) (aargs [g0_1, p1_1] 0) h = t122 Tryd.prog g0_1 p1_1 h K := by kernel_rfl
theorem c122 (g0_1 : Value) (p1_1 : Value) (h : Heap) (K : Value → Heap → Prop) (H : t122 Tryd.prog g0_1 p1_1 h K) : callM Tryd.prog 122 #[g0_1, p1_1] h K :=
  callM_of_wpA mixed (fn := Tryd.f122) Tryd.func122 (c := bodyOf Tryd.f122) rfl (of_decide_eq_true (by kernel_rfl)) (anOf [(58, [17]), (506, [7, 8]), (32402, [7, 44])]) 68 70 (by kernel_rfl) rfl [.tmp 4] (by kernel_rfl) (args := [g0_1, p1_1]) (by rw [e122]; exact H)

/-! impl.isGraph$1 -/
def t123 (P : Program) (q0_1 : Value) (t1_1 : Value) (h : Heap) (K : Value → Heap → Prop) : Prop :=
  rop P (Instr.loadAt 3 t1_1) h fun t5_1 =>
  pop P (binA .sub 3 t5_1 (Value.int IntKind.i64 1)) fun t6_1 =>
  callM P 55 #[q0_1, (Value.int IntKind.i64 0), t6_1] h fun t7_1 h_1 =>
  pop P (Op.unary .not t7_1) fun t8_1 =>
  K t8_1 h_1
theorem e123 (q0_1 : Value) (t1_1 : Value) (h : Heap) (K : Value → Heap → Prop) : wpA Tryd.prog 9 (anOf []) (bodyOf Tryd.f123) 1 (fun A h => resA Tryd.prog A h K [.tmp 3]) (fun _ _ _ => False) (fun A h => resA Tryd.prog A h K [.tmp 3]) (aargs [q0_1, t1_1] 0) h = t123 Tryd.prog q0_1 t1_1 h K := by kernel_rfl
theorem c123 (q0_1 : Value) (t1_1 : Value) (h : Heap) (K : Value → Heap → Prop) (H : t123 Tryd.prog q0_1 t1_1 h K) : callM Tryd.prog 123 #[q0_1, t1_1] h K :=
  callM_of_wpA mixed (fn := Tryd.f123) Tryd.func123 (c := bodyOf Tryd.f123) rfl (of_decide_eq_true (by kernel_rfl)) (anOf []) 7 9 (by kernel_rfl) rfl [.tmp 3] (by kernel_rfl) (args := [q0_1, t1_1]) (by rw [e123]; exact H)

/-! (impl.Graph).lengths -/
def t124 (P : Program) (g0_1 : Value) (p1_1 : Value) (h : Heap) (K : Value → Heap → Prop) : Prop :=
  eop P (Instr.box 41 g0_1) h fun g2_1 h_1 =>
  eop P (Instr.buildSlice 34 1 #[(0, (Value.int IntKind.i64 (-1)))]) h_1 fun t9_1 h_2 =>
  pop P (Instr.fieldAt 41 g2_1 0) fun t10_1 =>
  rop P (Instr.loadAt 22 t10_1) h_2 fun t11_1 =>
  pop P (lenS 22 3 t11_1) fun t12_1 =>
  callM P 130 #[t9_1, t12_1] h_2 fun t13_1 h_3 =>
  pop P (Instr.indexAt 34 t13_1 p1_1) fun t16_1 =>
  uop P (Instr.storeAt 3 t16_1 (Value.int IntKind.i64 0)) h_3 fun u_1 h_4 =>
  eop P (Instr.buildSlice 34 1 #[(0, p1_1)]) h_4 fun t18_1 h_5 =>
  ∃ (I_1 : List Value → Heap → Prop) (μ_1 : List Value → Heap → Nat), I_1 [t18_1] h_5 ∧
  ∀ (junk_1 : Nat → Value) (list6_1 : Value) (h_6 : Heap), I_1 [list6_1] h_6 →
  pop P (lenS 34 3 list6_1) fun t20_1 =>
  pop P (binA .gtr 3 t20_1 (Value.int IntKind.i64 0)) fun t21_1 =>
  condM t21_1
  (pop P (Instr.fieldAt 41 g2_1 0) fun t24_1 =>
  rop P (Instr.loadAt 22 t24_1) h_6 fun t25_1 =>
  pop P (Instr.indexAt 34 list6_1 (Value.int IntKind.i64 0)) fun t27_1 =>
  rop P (Instr.loadAt 3 t27_1) h_6 fun t28_1 =>
  pop P (Instr.indexAt 22 t25_1 t28_1) fun t29_1 =>
  rop P (Instr.loadAt 34 t29_1) h_6 fun t30_1 =>
  pop P (lenS 34 3 t30_1) fun t31_1 =>
  ∃ (I_2 : List Value → Heap → Prop) (μ_2 : List Value → Heap → Nat), I_2 [list6_1, (Value.int IntKind.i64 0)] h_6 ∧
  ∀ (junk_2 : Nat → Value) (list6_2 : Value) (t32_1 : Value) (h_7 : Heap), I_2 [list6_2, t32_1] h_7 →
  pop P (binA .lss 3 t32_1 t31_1) fun t33_1 =>
  condM t33_1
  (pop P (Instr.indexAt 34 t30_1 t32_1) fun t34_1 =>
  rop P (Instr.loadAt 3 t34_1) h_7 fun t35_1 =>
  pop P (Instr.indexAt 34 t13_1 t35_1) fun t38_1 =>
  rop P (Instr.loadAt 3 t38_1) h_7 fun t39_1 =>
  pop P (binA .lss 3 t39_1 (Value.int IntKind.i64 0)) fun t40_1 =>
  condM t40_1
  (pop P (Instr.indexAt 34 list6_2 (Value.int IntKind.i64 0)) fun t45_1 =>
  rop P (Instr.loadAt 3 t45_1) h_7 fun t46_1 =>
  pop P (Instr.indexAt 34 t13_1 t46_1) fun t47_1 =>
  rop P (Instr.loadAt 3 t47_1) h_7 fun t48_1 =>
  pop P (binA .add 3 t48_1 (Value.int IntKind.i64 1)) fun t49_1 =>
  pop P (Instr.indexAt 34 t13_1 t35_1) fun t50_1 =>
  uop P (Instr.storeAt 3 t50_1 t49_1) h_7 fun u_2 h_8 =>
  eop P (Instr.buildSlice 34 1 #[(0, t35_1)]) h_8 fun t53_1 h_9 =>
  eop P (appS 34 34 34 list6_2 t53_1) h_9 fun t54_1 h_10 =>
  pop P (binA .add 3 t32_1 (Value.int IntKind.i64 1)) fun t55_1 =>
  I_2 [t54_1, t55_1] h_10 ∧ μ_2 [t54_1, t55_1] h_10 < μ_2 [list6_2, t32_1] h_7)
  (pop P (binA .add 3 t32_1 (Value.int IntKind.i64 1)) fun t55_2 =>
  I_2 [list6_2, t55_2] h_7 ∧ μ_2 [list6_2, t55_2] h_7 < μ_2 [list6_2, t32_1] h_7))
  (pop P (Instr.sliceAt 34 list6_2 (some (Value.int IntKind.i64 1)) none none) fun t23_1 =>
  I_1 [t23_1] h_7 ∧ μ_1 [t23_1] h_7 < μ_1 [list6_1] h_6))
  (K t13_1 h_6)
theorem e124 (g0_1 : Value) (p1_1 : Value) (h : Heap) (K : Value → Heap → Prop) : wpA Tryd.prog 57 (anOf [(122, [6]), (7826, [6, 32])]) (bodyOf Tryd.f124) 1 (fun A h => resA Tryd.prog A h K [.tmp 4]) (fun _ _ _ => False) (fun A h => resA Tryd.prog A h K [.tmp 4]) (aargs [g0_1, p1_1] 0) h = t124 Tryd.prog g0_1 p1_1 h K := by kernel_rfl
theorem c124 (g0_1 : Value) (p1_1 : Value) (h : Heap) (K : Value → Heap → Prop) (H : t124 Tryd.prog g0_1 p1_1 h K) : callM Tryd.prog 124 #[g0_1, p1_1] h K :=
  callM_of_wpA mixed (fn := Tryd.f124) Tryd.func124 (c := bodyOf Tryd.f124) rfl (of_decide_eq_true (by kernel_rfl)) (anOf [(122, [6]), (7826, [6, 32])]) 55 57 (by kernel_rfl) rfl [.tmp 4] (by kernel_rfl) (args := [g0_1, p1_1]) (by rw [e124]; exact H)

/-! slices.Repeat[[]int,int] -/
def t130 (P : Program) (x0_1 : Value) (count1_1 : Value) (h : Heap) (K : Value → Heap → Prop) : Prop :=
  ∃ J_1 : List Value → Heap → Prop, (pop P (binA .lss 3 count1_1 (Value.int IntKind.i64 0)) fun t10_1 =>
  condM t10_1
  (pop P (Instr.makeInterface 9 (Value.string { data := #[99, 97, 110, 110, 111, 116, 32, 98, 101, 32, 110, 101, 103, 97, 116, 105, 118, 101] })) fun t11_1 =>
  False)
  (J_1 [] h)) ∧
  ∀ (junk_1 : Nat → Value) (h_1 : Heap), J_1 [] h_1 →
  pop P (lenS 34 3 x0_1) fun t14_1 =>
  rop P (convert 3 144 t14_1) h_1 fun t15_1 =>
  rop P (convert 3 144 count1_1) h_1 fun t17_1 =>
  callM P 136 #[t15_1, t17_1] h_1 fun t18_1 h_2 =>
  pop P (Instr.extract t18_1 0) fun t19_1 =>
  pop P (Instr.extract t18_1 1) fun t20_1 =>
  ∃ J_2 : List Value → Heap → Prop, (pop P (binA .gtr 144 t19_1 (Value.int IntKind.u64 0)) fun t22_1 =>
  guardM (asG t22_1 false) false (fun k_1 => k_1 t20_1 h_2) h_2 fun t24_1 h_3 =>
  guardM (asG t22_1 false) false (fun k_2 => pop P (binA .gtr 144 t24_1 (Value.int IntKind.u64 9223372036854775807)) fun t25_1 =>
  k_2 t25_1 h_3) h_3 fun t25_2 h_4 =>
  pop P (pickS t22_1 (Value.bool true) t25_2) fun t26_1 =>
  condM t26_1
  (pop P (Instr.makeInterface 9 (Value.string { data := #[116, 104, 101, 32, 114, 101, 115, 117, 108, 116, 32, 111, 102, 32, 40, 108, 101, 110, 40, 120, 41, 32, 42, 32, 99, 111, 117, 110, 116, 41, 32, 111, 118, 101, 114, 102, 108, 111, 119, 115] })) fun t27_1 =>
  False)
  (J_2 [] h_4)) ∧
  ∀ (junk_2 : Nat → Value) (h_5 : Heap), J_2 [] h_5 →
  rop P (convert 144 3 t20_1) h_5 fun t29_1 =>
  eop P (Instr.makeSlice 34 t29_1 t29_1) h_5 fun t30_1 h_6 =>
  eop P (Builtin.copy_ #[34, 34] 3 #[t30_1, x0_1]) h_6 fun t33_1 h_7 =>
  ∃ (I_1 : List Value → Heap → Prop) (μ_1 : List Value → Heap → Nat), I_1 [t33_1] h_7 ∧
  ∀ (junk_3 : Nat → Value) (n8_1 : Value) (h_8 : Heap), I_1 [n8_1] h_8 →
  pop P (lenS 34 3 t30_1) fun t36_1 =>
  pop P (binA .lss 3 n8_1 t36_1) fun t37_1 =>
  condM t37_1
  (pop P (Instr.sliceAt 34 t30_1 (some n8_1) none none) fun t41_1 =>
  pop P (Instr.sliceAt 34 t30_1 none (some n8_1) none) fun t44_1 =>
  eop P (Builtin.copy_ #[34, 34] 3 #[t41_1, t44_1]) h_8 fun t45_1 h_9 =>
  pop P (binA .add 3 n8_1 t45_1) fun t46_1 =>
  I_1 [t46_1] h_9 ∧ μ_1 [t46_1] h_9 < μ_1 [n8_1] h_8)
  (K t30_1 h_8)
theorem e130 (x0_1 : Value) (count1_1 : Value) (h : Heap) (K : Value → Heap → Prop) : wpA Tryd.prog 48 (anOf [(3, []), (15, []), (508, [8])]) (bodyOf Tryd.f130) 1 (fun A h => resA Tryd.prog A h K [.tmp 4]) (fun _ _ _ => False) (fun A h => resA Tryd.prog A h K [.tmp 4]) (aargs [x0_1, count1_1] 0) h = t130 Tryd.prog x0_1 count1_1 h K := by kernel_rfl
theorem c130 (x0_1 : Value) (count1_1 : Value) (h : Heap) (K : Value → Heap → Prop) (H : t130 Tryd.prog x0_1 count1_1 h K) : callM Tryd.prog 130 #[x0_1, count1_1] h K :=
  callM_of_wpA mixed (fn := Tryd.f130) Tryd.func130 (c := bodyOf Tryd.f130) rfl (of_decide_eq_true (by kernel_rfl)) (anOf [(3, []), (15, []), (508, [8])]) 46 48 (by kernel_rfl) rfl [.tmp 4] (by kernel_rfl) (args := [x0_1, count1_1]) (by rw [e130]; exact H)

/-! math/bits.Mul -/
def t136 (P : Program) (x0_1 : Value) (y1_1 : Value) (h : Heap) (K : Value → Heap → Prop) : Prop :=
  condM (Value.bool false)
  (rop P (convert 144 149 x0_1) h fun t12_1 =>
  rop P (convert 144 149 y1_1) h fun t14_1 =>
  callM P 142 #[t12_1, t14_1] h fun t15_1 h_1 =>
  pop P (Instr.extract t15_1 0) fun t16_1 =>
  pop P (Instr.extract t15_1 1) fun t17_1 =>
  rop P (convert 149 144 t16_1) h_1 fun t19_1 =>
  rop P (convert 149 144 t17_1) h_1 fun t21_1 =>
  K (.tuple #[t19_1, t21_1]) h_1)
  (callM P 143 #[x0_1, y1_1] h fun t25_1 h_2 =>
  pop P (Instr.extract t25_1 0) fun t26_1 =>
  pop P (Instr.extract t25_1 1) fun t27_1 =>
  K (.tuple #[t26_1, t27_1]) h_2)
theorem e136 (x0_1 : Value) (y1_1 : Value) (h : Heap) (K : Value → Heap → Prop) : wpA Tryd.prog 30 (anOf []) (bodyOf Tryd.f136) 1 (fun A h => resA Tryd.prog A h K [.tmp 4, .tmp 5]) (fun _ _ _ => False) (fun A h => resA Tryd.prog A h K [.tmp 4, .tmp 5]) (aargs [x0_1, y1_1] 0) h = t136 Tryd.prog x0_1 y1_1 h K := by kernel_rfl
theorem c136 (x0_1 : Value) (y1_1 : Value) (h : Heap) (K : Value → Heap → Prop) (H : t136 Tryd.prog x0_1 y1_1 h K) : callM Tryd.prog 136 #[x0_1, y1_1] h K :=
  callM_of_wpA mixed (fn := Tryd.f136) Tryd.func136 (c := bodyOf Tryd.f136) rfl (of_decide_eq_true (by kernel_rfl)) (anOf []) 28 30 (by kernel_rfl) rfl [.tmp 4, .tmp 5] (by kernel_rfl) (args := [x0_1, y1_1]) (by rw [e136]; exact H)

/-! math/bits.Mul32 -/
def t142 (P : Program) (x0_1 : Value) (y1_1 : Value) (h : Heap) (K : Value → Heap → Prop) : Prop :=
  rop P (convert 149 121 x0_1) h fun t8_1 =>
  rop P (convert 149 121 y1_1) h fun t10_1 =>
  pop P (binA .mul 121 t8_1 t10_1) fun t11_1 =>
  pop P (binA .shr 121 t11_1 (Value.int IntKind.u64 32)) fun t13_1 =>
  rop P (convert 121 149 t13_1) h fun t14_1 =>
  rop P (convert 121 149 t11_1) h fun t16_1 =>
  K (.tuple #[t14_1, t16_1]) h
theorem e142 (x0_1 : Value) (y1_1 : Value) (h : Heap) (K : Value → Heap → Prop) : wpA Tryd.prog 17 (anOf []) (bodyOf Tryd.f142) 1 (fun A h => resA Tryd.prog A h K [.tmp 4, .tmp 5]) (fun _ _ _ => False) (fun A h => resA Tryd.prog A h K [.tmp 4, .tmp 5]) (aargs [x0_1, y1_1] 0) h = t142 Tryd.prog x0_1 y1_1 h K := by kernel_rfl
theorem c142 (x0_1 : Value) (y1_1 : Value) (h : Heap) (K : Value → Heap → Prop) (H : t142 Tryd.prog x0_1 y1_1 h K) : callM Tryd.prog 142 #[x0_1, y1_1] h K :=
  callM_of_wpA mixed (fn := Tryd.f142) Tryd.func142 (c := bodyOf Tryd.f142) rfl (of_decide_eq_true (by kernel_rfl)) (anOf []) 15 17 (by kernel_rfl) rfl [.tmp 4, .tmp 5] (by kernel_rfl) (args := [x0_1, y1_1]) (by rw [e142]; exact H)

/-! math/bits.Mul64 -/
def t143 (P : Program) (x0_1 : Value) (y1_1 : Value) (h : Heap) (K : Value → Heap → Prop) : Prop :=
  pop P (binA .and 121 x0_1 (Value.int IntKind.u64 4294967295)) fun t15_1 =>
  pop P (binA .shr 121 x0_1 (Value.int IntKind.u64 32)) fun t17_1 =>
  pop P (binA .and 121 y1_1 (Value.int IntKind.u64 4294967295)) fun t19_1 =>
  pop P (binA .shr 121 y1_1 (Value.int IntKind.u64 32)) fun t21_1 =>
  pop P (binA .mul 121 t15_1 t19_1) fun t24_1 =>
  pop P (binA .mul 121 t17_1 t19_1) fun t27_1 =>
  pop P (binA .shr 121 t24_1 (Value.int IntKind.u64 32)) fun t29_1 =>
  pop P (binA .add 121 t27_1 t29_1) fun t30_1 =>
  pop P (binA .and 121 t30_1 (Value.int IntKind.u64 4294967295)) fun t32_1 =>
  pop P (binA .shr 121 t30_1 (Value.int IntKind.u64 32)) fun t34_1 =>
  pop P (binA .mul 121 t15_1 t21_1) fun t38_1 =>
  pop P (binA .add 121 t32_1 t38_1) fun t39_1 =>
  pop P (binA .mul 121 t17_1 t21_1) fun t42_1 =>
  pop P (binA .add 121 t42_1 t34_1) fun t44_1 =>
  pop P (binA .shr 121 t39_1 (Value.int IntKind.u64 32)) fun t46_1 =>
  pop P (binA .add 121 t44_1 t46_1) fun t47_1 =>
  pop P (binA .mul 121 x0_1 y1_1) fun t50_1 =>
  K (.tuple #[t47_1, t50_1]) h
theorem e143 (x0_1 : Value) (y1_1 : Value) (h : Heap) (K : Value → Heap → Prop) : wpA Tryd.prog 51 (anOf []) (bodyOf Tryd.f143) 1 (fun A h => resA Tryd.prog A h K [.tmp 4, .tmp 5]) (fun _ _ _ => False) (fun A h => resA Tryd.prog A h K [.tmp 4, .tmp 5]) (aargs [x0_1, y1_1] 0) h = t143 Tryd.prog x0_1 y1_1 h K := by kernel_rfl
theorem c143 (x0_1 : Value) (y1_1 : Value) (h : Heap) (K : Value → Heap → Prop) (H : t143 Tryd.prog x0_1 y1_1 h K) : callM Tryd.prog 143 #[x0_1, y1_1] h K :=
  callM_of_wpA mixed (fn := Tryd.f143) Tryd.func143 (c := bodyOf Tryd.f143) rfl (of_decide_eq_true (by kernel_rfl)) (anOf []) 49 51 (by kernel_rfl) rfl [.tmp 4, .tmp 5] (by kernel_rfl) (args := [x0_1, y1_1]) (by rw [e143]; exact H)

end Go.Proofs.YtkjkfjkapbpgiaaDoor
