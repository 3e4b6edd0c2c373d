/-
  What each function that the law 'FnExactAllUnicycles' comes to asks of the heap, named; tied to the loaded program by the kernel. Written by a program.
-/
import Derived.Test.YtkjkfjkapbpgiaaProg
import Derived.Test.YtkjkfjkapbpgiaaM1
set_option linter.unusedVariables false
namespace Go.Proofs.Ytkjkfjkapbpgiaa
open Go Go.Mx
theorem mixed : Try.prog.follows .mixedOrders = true := by kernel_rfl
/-! laws.FnExactAllUnicycles -/
def t6 (P : Program) (aG0_1 : Value) (aP1_1 : Value) (h : Heap) (K : Value → Heap → Prop) : Prop :=
  eop P (Instr.box 24 aG0_1) h fun aG2_1 h_1 =>
  rop P (Instr.loadAt 24 aG2_1) h_1 fun t16_1 =>
  callM P 7 #[t16_1, (Value.int IntKind.i64 1048576)] h_1 fun t18_1 h_2 =>
  pop P (binA .lss 3 t18_1 (Value.int IntKind.i64 0)) fun t20_1 =>
  condM t20_1
  (K (Value.bool true) h_2)
  (rop P (Instr.loadAt 24 aG2_1) h_2 fun t22_1 =>
  callM P 10 #[t22_1] h_2 fun t23_1 h_3 =>
  callM P 45 #[t23_1, aP1_1] h_3 fun t25_1 h_4 =>
  pop P (Instr.extract t25_1 0) fun t26_1 =>
  pop P (Instr.extract t25_1 1) fun t27_1 =>
  rop P (Instr.loadAt 24 aG2_1) h_4 fun t28_1 =>
  callM P 10 #[t28_1] h_4 fun t29_1 h_5 =>
  eop P (Instr.alloc 32 true (.tuple #[])) h_5 fun x08_1 h_6 =>
  uop P (Instr.storeAt 32 x08_1 t29_1) h_6 fun u_1 h_7 =>
  rop P (Instr.loadAt 32 x08_1) h_7 fun t31_1 =>
  callM P 46 #[t31_1, aP1_1] h_7 fun t33_1 h_8 =>
  pop P (Instr.extract t33_1 0) fun t34_1 =>
  pop P (Instr.extract t33_1 1) fun t35_1 =>
  callM P 47 #[t34_1, t26_1] h_8 fun t38_1 h_9 =>
  pop P (Op.unary .not t38_1) fun t39_1 =>
  guardM (asG t39_1 false) false (fun k_1 => k_1 t35_1 h_9) h_9 fun t41_1 h_10 =>
  guardM (asG t39_1 false) false (fun k_2 => k_2 t27_1 h_10) h_10 fun t42_1 h_11 =>
  guardM (asG t39_1 false) false (fun k_3 => pop P (binE .neq 4 (.tmp 41) (.tmp 42) t41_1 t42_1) fun t43_1 =>
  k_3 t43_1 h_11) h_11 fun t43_2 h_12 =>
  pop P (pickS t39_1 (Value.bool true) t43_2) fun t44_1 =>
  condM t44_1
  (K (Value.bool false) h_12)
  (rop P (Instr.loadAt 32 x08_1) h_12 fun t45_1 =>
  rop P (Instr.loadAt 24 aG2_1) h_12 fun t46_1 =>
  callM P 10 #[t46_1] h_12 fun t47_1 h_13 =>
  (∀ w : World, w.heap = h_13 → (Instr.loadAt 32 x08_1).run P w = .ok t45_1 w) ∧
  callM P 15 #[t45_1, t47_1] h_13 fun t48_1 h_14 =>
  pop P (Op.unary .not t48_1) fun t49_1 =>
  condM t49_1
  (K (Value.bool false) h_14)
  (rop P (Instr.loadAt 32 x08_1) h_14 fun t50_1 =>
  callM P 17 #[t50_1, (Value.int IntKind.i64 1)] h_14 fun t52_1 h_15 =>
  pop P (binA .lss 3 t52_1 (Value.int IntKind.i64 0)) fun t54_1 =>
  guardM (asG t54_1 false) false (fun k_4 => k_4 t34_1 h_15) h_15 fun t56_1 h_16 =>
  guardM (asG t54_1 false) false (fun k_5 => k_5 t26_1 h_16) h_16 fun t57_1 h_17 =>
  guardM (asG t54_1 false) false (fun k_6 => callM P 47 #[t56_1, t57_1] h_17 fun t58_1 h_18 =>
  k_6 t58_1 h_18) h_17 fun t58_2 h_19 =>
  guardM (asG t54_1 false) false (fun k_7 => pop P (Op.unary .not t58_2) fun t59_1 =>
  k_7 t59_1 h_19) h_19 fun t59_2 h_20 =>
  pop P (pickS t54_1 (Value.bool true) t59_2) fun t60_1 =>
  guardM (asG t60_1 false) false (fun k_8 => k_8 t35_1 h_20) h_20 fun t62_1 h_21 =>
  guardM (asG t60_1 false) false (fun k_9 => k_9 t27_1 h_21) h_21 fun t63_1 h_22 =>
  guardM (asG t60_1 false) false (fun k_10 => pop P (binE .neq 4 (.tmp 62) (.tmp 63) t62_1 t63_1) fun t64_1 =>
  k_10 t64_1 h_22) h_22 fun t64_2 h_23 =>
  pop P (pickS t60_1 (Value.bool true) t64_2) fun t65_1 =>
  condM t65_1
  (K (Value.bool false) h_23)
  (callM P 48 #[t34_1, (Value.int IntKind.i64 1)] h_23 fun t68_1 h_24 =>
  callM P 49 #[t34_1, (Value.int IntKind.i64 1)] h_24 fun t71_1 h_25 =>
  pop P (binA .lss 3 t71_1 (Value.int IntKind.i64 0)) fun t73_1 =>
  condM t73_1
  (K (Value.bool false) h_25)
  (pop P (binE .neq 3 (.tmp 74) (.tmp 75) t71_1 t68_1) fun t76_1 =>
  condM t76_1
  (K (Value.bool false) h_25)
  (rop P (Instr.loadAt 24 aG2_1) h_25 fun t78_1 =>
  callM P 10 #[t78_1] h_25 fun t79_1 h_26 =>
  callM P 46 #[t79_1, aP1_1] h_26 fun t81_1 h_27 =>
  pop P (Instr.extract t81_1 0) fun t82_1 =>
  pop P (Instr.extract t81_1 1) fun t83_1 =>
  callM P 47 #[t82_1, t26_1] h_27 fun t86_1 h_28 =>
  pop P (Op.unary .not t86_1) fun t87_1 =>
  guardM (asG t87_1 false) false (fun k_11 => k_11 t83_1 h_28) h_28 fun t89_1 h_29 =>
  guardM (asG t87_1 false) false (fun k_12 => k_12 t27_1 h_29) h_29 fun t90_1 h_30 =>
  guardM (asG t87_1 false) false (fun k_13 => pop P (binE .neq 4 (.tmp 89) (.tmp 90) t89_1 t90_1) fun t91_1 =>
  k_13 t91_1 h_30) h_30 fun t91_2 h_31 =>
  pop P (pickS t87_1 (Value.bool true) t91_2) fun t92_1 =>
  condM t92_1
  (K (Value.bool false) h_31)
  (callM P 49 #[t34_1, (Value.int IntKind.i64 1)] h_31 fun t95_1 h_32 =>
  pop P (binA .lss 3 t95_1 (Value.int IntKind.i64 0)) fun t97_1 =>
  condM t97_1
  (K (Value.bool false) h_32)
  (pop P (binE .neq 3 (.tmp 98) (.tmp 99) t95_1 t68_1) fun t100_1 =>
  condM t100_1
  (K (Value.bool false) h_32)
  (K (Value.bool true) h_32)))))))))
theorem e6 (aG0_1 : Value) (aP1_1 : Value) (h : Heap) (K : Value → Heap → Prop) : wpA Try.prog 101 (anOf []) (bodyOf Try.f6) 1 (fun A h => resA Try.prog A h K [.tmp 4]) (fun _ _ _ => False) (fun A h => resA Try.prog A h K [.tmp 4]) (aargs [aG0_1, aP1_1] 0) h = t6 Try.prog aG0_1 aP1_1 h K := by kernel_rfl
theorem c6 (aG0_1 : Value) (aP1_1 : Value) (h : Heap) (K : Value → Heap → Prop) (H : t6 Try.prog aG0_1 aP1_1 h K) : callM Try.prog 6 #[aG0_1, aP1_1] h K :=
  callM_of_wpA mixed (fn := Try.f6) Try.func6 (c := bodyOf Try.f6) rfl (of_decide_eq_true (by kernel_rfl)) (anOf []) 99 101 (by kernel_rfl) rfl [.tmp 4] (by kernel_rfl) (args := [aG0_1, aP1_1]) (by rw [e6]; exact H)

/-! laws.szGraph -/
def t7 (P : Program) (a0_1 : Value) (left1_1 : Value) (h : Heap) (K : Value → Heap → Prop) : Prop :=
  eop P (Instr.box 24 a0_1) h fun a2_1 h_1 =>
  pop P (Instr.fieldAt 24 a2_1 0) fun t5_1 =>
  rop P (Instr.loadAt 22 t5_1) h_1 fun t6_1 =>
  callM P 50 #[t6_1, left1_1] h_1 fun t8_1 h_2 =>
  pop P (binA .lss 3 t8_1 (Value.int IntKind.i64 0)) fun t10_1 =>
  condM t10_1
  (K (Value.int IntKind.i64 (-1)) h_2)
  (K t8_1 h_2)
theorem e7 (a0_1 : Value) (left1_1 : Value) (h : Heap) (K : Value → Heap → Prop) : wpA Try.prog 12 (anOf []) (bodyOf Try.f7) 1 (fun A h => resA Try.prog A h K [.tmp 4]) (fun _ _ _ => False) (fun A h => resA Try.prog A h K [.tmp 4]) (aargs [a0_1, left1_1] 0) h = t7 Try.prog a0_1 left1_1 h K := by kernel_rfl
theorem c7 (a0_1 : Value) (left1_1 : Value) (h : Heap) (K : Value → Heap → Prop) (H : t7 Try.prog a0_1 left1_1 h K) : callM Try.prog 7 #[a0_1, left1_1] h K :=
  callM_of_wpA mixed (fn := Try.f7) Try.func7 (c := bodyOf Try.f7) rfl (of_decide_eq_true (by kernel_rfl)) (anOf []) 10 12 (by kernel_rfl) rfl [.tmp 4] (by kernel_rfl) (args := [a0_1, left1_1]) (by rw [e7]; exact H)

/-! laws.toGraph -/
def t10 (P : Program) (a0_1 : Value) (h : Heap) (K : Value → Heap → Prop) : Prop :=
  eop P (Instr.box 24 a0_1) h fun a1_1 h_1 =>
  eop P (Instr.alloc 32 true (.tuple #[])) h_1 fun t2_1 h_2 =>
  eop P (Instr.alloc 32 true (.tuple #[])) h_2 fun out3_1 h_3 =>
  pop P (Instr.fieldAt 24 a1_1 0) fun t4_1 =>
  rop P (Instr.loadAt 22 t4_1) h_3 fun t5_1 =>
  callM P 55 #[t5_1] h_3 fun t6_1 h_4 =>
  pop P (Instr.fieldAt 32 out3_1 0) fun t7_1 =>
  uop P (Instr.storeAt 22 t7_1 t6_1) h_4 fun u_1 h_5 =>
  rop P (Instr.loadAt 32 out3_1) h_5 fun t8_1 =>
  uop P (Instr.storeAt 32 t2_1 t8_1) h_5 fun u_2 h_6 =>
  rop P (Instr.loadAt 32 t2_1) h_6 fun r_1 =>
  K r_1 h_6
theorem e10 (a0_1 : Value) (h : Heap) (K : Value → Heap → Prop) : wpA Try.prog 9 (anOf []) (bodyOf Try.f10) 1 (fun A h => resA Try.prog A h K [.cell 2 32]) (fun _ _ _ => False) (fun A h => resA Try.prog A h K [.cell 2 32]) (aargs [a0_1] 0) h = t10 Try.prog a0_1 h K := by kernel_rfl
theorem c10 (a0_1 : Value) (h : Heap) (K : Value → Heap → Prop) (H : t10 Try.prog a0_1 h K) : callM Try.prog 10 #[a0_1] h K :=
  callM_of_wpA mixed (fn := Try.f10) Try.func10 (c := bodyOf Try.f10) rfl (of_decide_eq_true (by kernel_rfl)) (anOf []) 8 9 (by kernel_rfl) rfl [.cell 2 32] (by kernel_rfl) (args := [a0_1]) (by rw [e10]; exact H)

/-! laws.toIntS -/
def t12 (P : Program) (a0_1 : Value) (h : Heap) (K : Value → Heap → Prop) : Prop :=
  pop P (lenS 27 3 a0_1) fun t6_1 =>
  eop P (Instr.makeSlice 27 t6_1 t6_1) h fun t7_1 h_1 =>
  ∃ (I_1 : List Value → Heap → Prop) (μ_1 : List Value → Heap → Nat), I_1 [(Value.int IntKind.i64 0)] h_1 ∧
  ∀ (junk_1 : Nat → Value) (i4_1 : Value) (h_2 : Heap), I_1 [i4_1] h_2 →
  pop P (lenS 27 3 a0_1) fun t10_1 =>
  pop P (binA .lss 3 i4_1 t10_1) fun t11_1 =>
  condM t11_1
  (pop P (Instr.indexAt 27 a0_1 i4_1) fun t18_1 =>
  rop P (Instr.loadAt 3 t18_1) h_2 fun t19_1 =>
  pop P (Instr.indexAt 27 t7_1 i4_1) fun t20_1 =>
  uop P (Instr.storeAt 3 t20_1 t19_1) h_2 fun u_1 h_3 =>
  pop P (binA .add 3 i4_1 (Value.int IntKind.i64 1)) fun t13_1 =>
  I_1 [t13_1] h_3 ∧ μ_1 [t13_1] h_3 < μ_1 [i4_1] h_2)
  (K t7_1 h_2)
theorem e12 (a0_1 : Value) (h : Heap) (K : Value → Heap → Prop) : wpA Try.prog 22 (anOf [(58, [4])]) (bodyOf Try.f12) 1 (fun A h => resA Try.prog A h K [.tmp 2]) (fun _ _ _ => False) (fun A h => resA Try.prog A h K [.tmp 2]) (aargs [a0_1] 0) h = t12 Try.prog a0_1 h K := by kernel_rfl
theorem c12 (a0_1 : Value) (h : Heap) (K : Value → Heap → Prop) (H : t12 Try.prog a0_1 h K) : callM Try.prog 12 #[a0_1] h K :=
  callM_of_wpA mixed (fn := Try.f12) Try.func12 (c := bodyOf Try.f12) rfl (of_decide_eq_true (by kernel_rfl)) (anOf [(58, [4])]) 21 22 (by kernel_rfl) rfl [.tmp 2] (by kernel_rfl) (args := [a0_1]) (by rw [e12]; exact H)

/-! laws.eqIntS -/
def t14 (P : Program) (a0_1 : Value) (b1_1 : Value) (h : Heap) (K : Value → Heap → Prop) : Prop :=
  pop P (lenS 27 3 a0_1) fun t7_1 =>
  pop P (lenS 27 3 b1_1) fun t9_1 =>
  pop P (binE .neq 3 (.tmp 7) (.tmp 9) t7_1 t9_1) fun t10_1 =>
  condM t10_1
  (K (Value.bool false) h)
  (∃ (I_1 : List Value → Heap → Prop) (μ_1 : List Value → Heap → Nat), I_1 [(Value.int IntKind.i64 0)] h ∧
  ∀ (junk_1 : Nat → Value) (i5_1 : Value) (h_1 : Heap), I_1 [i5_1] h_1 →
  pop P (lenS 27 3 a0_1) fun t13_1 =>
  pop P (binA .lss 3 i5_1 t13_1) fun t14_1 =>
  condM t14_1
  (pop P (Instr.indexAt 27 a0_1 i5_1) fun t19_1 =>
  rop P (Instr.loadAt 3 t19_1) h_1 fun t20_1 =>
  pop P (Instr.indexAt 27 b1_1 i5_1) fun t23_1 =>
  rop P (Instr.loadAt 3 t23_1) h_1 fun t24_1 =>
  pop P (binE .neq 3 (.tmp 20) (.tmp 24) t20_1 t24_1) fun t25_1 =>
  condM t25_1
  (K (Value.bool false) h_1)
  (pop P (binA .add 3 i5_1 (Value.int IntKind.i64 1)) fun t16_1 =>
  I_1 [t16_1] h_1 ∧ μ_1 [t16_1] h_1 < μ_1 [i5_1] h_1))
  (K (Value.bool true) h_1))
theorem e14 (a0_1 : Value) (b1_1 : Value) (h : Heap) (K : Value → Heap → Prop) : wpA Try.prog 26 (anOf [(58, [5])]) (bodyOf Try.f14) 1 (fun A h => resA Try.prog A h K [.tmp 4]) (fun _ _ _ => False) (fun A h => resA Try.prog A h K [.tmp 4]) (aargs [a0_1, b1_1] 0) h = t14 Try.prog a0_1 b1_1 h K := by kernel_rfl
theorem c14 (a0_1 : Value) (b1_1 : Value) (h : Heap) (K : Value → Heap → Prop) (H : t14 Try.prog a0_1 b1_1 h K) : callM Try.prog 14 #[a0_1, b1_1] h K :=
  callM_of_wpA mixed (fn := Try.f14) Try.func14 (c := bodyOf Try.f14) rfl (of_decide_eq_true (by kernel_rfl)) (anOf [(58, [5])]) 24 26 (by kernel_rfl) rfl [.tmp 4] (by kernel_rfl) (args := [a0_1, b1_1]) (by rw [e14]; exact H)

/-! laws.eqGraph -/
def t15 (P : Program) (a0_1 : Value) (b1_1 : Value) (h : Heap) (K : Value → Heap → Prop) : Prop :=
  eop P (Instr.box 32 a0_1) h fun a2_1 h_1 =>
  eop P (Instr.box 32 b1_1) h_1 fun b3_1 h_2 =>
  pop P (Instr.fieldAt 32 a2_1 0) fun t5_1 =>
  rop P (Instr.loadAt 22 t5_1) h_2 fun t6_1 =>
  pop P (Instr.fieldAt 32 b3_1 0) fun t7_1 =>
  rop P (Instr.loadAt 22 t7_1) h_2 fun t8_1 =>
  callM P 59 #[t6_1, t8_1] h_2 fun t9_1 h_3 =>
  pop P (Op.unary .not t9_1) fun t10_1 =>
  condM t10_1
  (K (Value.bool false) h_3)
  (K (Value.bool true) h_3)
theorem e15 (a0_1 : Value) (b1_1 : Value) (h : Heap) (K : Value → Heap → Prop) : wpA Try.prog 11 (anOf []) (bodyOf Try.f15) 1 (fun A h => resA Try.prog A h K [.tmp 4]) (fun _ _ _ => False) (fun A h => resA Try.prog A h K [.tmp 4]) (aargs [a0_1, b1_1] 0) h = t15 Try.prog a0_1 b1_1 h K := by kernel_rfl
theorem c15 (a0_1 : Value) (b1_1 : Value) (h : Heap) (K : Value → Heap → Prop) (H : t15 Try.prog a0_1 b1_1 h K) : callM Try.prog 15 #[a0_1, b1_1] h K :=
  callM_of_wpA mixed (fn := Try.f15) Try.func15 (c := bodyOf Try.f15) rfl (of_decide_eq_true (by kernel_rfl)) (anOf []) 9 11 (by kernel_rfl) rfl [.tmp 4] (by kernel_rfl) (args := [a0_1, b1_1]) (by rw [e15]; exact H)

/-! laws.markGraph -/
def t17 (P : Program) (a0_1 : Value) (k1_1 : Value) (h : Heap) (K : Value → Heap → Prop) : Prop :=
  eop P (Instr.box 32 a0_1) h fun a2_1 h_1 =>
  pop P (Instr.fieldAt 32 a2_1 0) fun t5_1 =>
  rop P (Instr.loadAt 22 t5_1) h_1 fun t6_1 =>
  callM P 60 #[t6_1, k1_1] h_1 fun t8_1 h_2 =>
  K t8_1 h_2
theorem e17 (a0_1 : Value) (k1_1 : Value) (h : Heap) (K : Value → Heap → Prop) : wpA Try.prog 10 (anOf []) (bodyOf Try.f17) 1 (fun A h => resA Try.prog A h K [.tmp 4]) (fun _ _ _ => False) (fun A h => resA Try.prog A h K [.tmp 4]) (aargs [a0_1, k1_1] 0) h = t17 Try.prog a0_1 k1_1 h K := by kernel_rfl
theorem c17 (a0_1 : Value) (k1_1 : Value) (h : Heap) (K : Value → Heap → Prop) (H : t17 Try.prog a0_1 k1_1 h K) : callM Try.prog 17 #[a0_1, k1_1] h K :=
  callM_of_wpA mixed (fn := Try.f17) Try.func17 (c := bodyOf Try.f17) rfl (of_decide_eq_true (by kernel_rfl)) (anOf []) 8 10 (by kernel_rfl) rfl [.tmp 4] (by kernel_rfl) (args := [a0_1, k1_1]) (by rw [e17]; exact H)

/-! laws.markIntS -/
def t19 (P : Program) (a0_1 : Value) (k1_1 : Value) (h : Heap) (K : Value → Heap → Prop) : Prop :=
  ∃ (I_1 : List Value → Heap → Prop) (μ_1 : List Value → Heap → Nat), I_1 [k1_1, (Value.int IntKind.i64 0)] h ∧
  ∀ (junk_1 : Nat → Value) (k1_2 : Value) (i5_1 : Value) (h_1 : Heap), I_1 [k1_2, i5_1] h_1 →
  pop P (lenS 27 3 a0_1) fun t8_1 =>
  pop P (binA .lss 3 i5_1 t8_1) fun t9_1 =>
  condM t9_1
  (pop P (Instr.indexAt 27 a0_1 i5_1) fun t15_1 =>
  uop P (Instr.storeAt 3 t15_1 k1_2) h_1 fun u_1 h_2 =>
  pop P (binA .add 3 k1_2 (Value.int IntKind.i64 1)) fun t17_1 =>
  pop P (binA .add 3 i5_1 (Value.int IntKind.i64 1)) fun t11_1 =>
  I_1 [t17_1, t11_1] h_2 ∧ μ_1 [t17_1, t11_1] h_2 < μ_1 [k1_2, i5_1] h_1)
  (K k1_2 h_1)
theorem e19 (a0_1 : Value) (k1_1 : Value) (h : Heap) (K : Value → Heap → Prop) : wpA Try.prog 19 (anOf [(26, [1, 5])]) (bodyOf Try.f19) 1 (fun A h => resA Try.prog A h K [.tmp 4]) (fun _ _ _ => False) (fun A h => resA Try.prog A h K [.tmp 4]) (aargs [a0_1, k1_1] 0) h = t19 Try.prog a0_1 k1_1 h K := by kernel_rfl
theorem c19 (a0_1 : Value) (k1_1 : Value) (h : Heap) (K : Value → Heap → Prop) (H : t19 Try.prog a0_1 k1_1 h K) : callM Try.prog 19 #[a0_1, k1_1] h K :=
  callM_of_wpA mixed (fn := Try.f19) Try.func19 (c := bodyOf Try.f19) rfl (of_decide_eq_true (by kernel_rfl)) (anOf [(26, [1, 5])]) 17 19 (by kernel_rfl) rfl [.tmp 4] (by kernel_rfl) (args := [a0_1, k1_1]) (by rw [e19]; exact H)

/-! laws.heldIntS -/
def t20 (P : Program) (a0_1 : Value) (k1_1 : Value) (h : Heap) (K : Value → Heap → Prop) : Prop :=
  ∃ (I_1 : List Value → Heap → Prop) (μ_1 : List Value → Heap → Nat), I_1 [k1_1, (Value.int IntKind.i64 0)] h ∧
  ∀ (junk_1 : Nat → Value) (k1_2 : Value) (i5_1 : Value) (h_1 : Heap), I_1 [k1_2, i5_1] h_1 →
  pop P (lenS 27 3 a0_1) fun t8_1 =>
  pop P (binA .lss 3 i5_1 t8_1) fun t9_1 =>
  condM t9_1
  (pop P (Instr.indexAt 27 a0_1 i5_1) fun t14_1 =>
  rop P (Instr.loadAt 3 t14_1) h_1 fun t15_1 =>
  pop P (binE .neq 3 (.tmp 15) (.tmp 16) t15_1 k1_2) fun t17_1 =>
  condM t17_1
  (K (Value.int IntKind.i64 (-1)) h_1)
  (pop P (binA .add 3 k1_2 (Value.int IntKind.i64 1)) fun t19_1 =>
  pop P (binA .add 3 i5_1 (Value.int IntKind.i64 1)) fun t11_1 =>
  I_1 [t19_1, t11_1] h_1 ∧ μ_1 [t19_1, t11_1] h_1 < μ_1 [k1_2, i5_1] h_1))
  (K k1_2 h_1)
theorem e20 (a0_1 : Value) (k1_1 : Value) (h : Heap) (K : Value → Heap → Prop) : wpA Try.prog 21 (anOf [(26, [1, 5])]) (bodyOf Try.f20) 1 (fun A h => resA Try.prog A h K [.tmp 4]) (fun _ _ _ => False) (fun A h => resA Try.prog A h K [.tmp 4]) (aargs [a0_1, k1_1] 0) h = t20 Try.prog a0_1 k1_1 h K := by kernel_rfl
theorem c20 (a0_1 : Value) (k1_1 : Value) (h : Heap) (K : Value → Heap → Prop) (H : t20 Try.prog a0_1 k1_1 h K) : callM Try.prog 20 #[a0_1, k1_1] h K :=
  callM_of_wpA mixed (fn := Try.f20) Try.func20 (c := bodyOf Try.f20) rfl (of_decide_eq_true (by kernel_rfl)) (anOf [(26, [1, 5])]) 19 21 (by kernel_rfl) rfl [.tmp 4] (by kernel_rfl) (args := [a0_1, k1_1]) (by rw [e20]; exact H)

/-! spec.AllUnicycles -/
def t45 (P : Program) (g0_1 : Value) (p1_1 : Value) (h : Heap) (K : Value → Heap → Prop) : Prop :=
  eop P (Instr.box 32 g0_1) h fun g2_1 h_1 =>
  rop P (Instr.loadAt 32 g2_1) h_1 fun t13_1 =>
  callM P 67 #[t13_1, p1_1] h_1 fun t15_1 h_2 =>
  pop P (Op.unary .not t15_1) fun t16_1 =>
  guardM (asG t16_1 false) false (fun k_1 => rop P (Instr.loadAt 32 g2_1) h_2 fun t18_1 =>
  k_1 t18_1 h_2) h_2 fun t18_2 h_3 =>
  guardM (asG t16_1 false) false (fun k_2 => k_2 p1_1 h_3) h_3 fun t19_1 h_4 =>
  guardM (asG t16_1 false) false (fun k_3 => pop P (Instr.fieldAt 32 g2_1 0) fun t22_1 =>
  k_3 t22_1 h_4) h_4 fun t22_2 h_5 =>
  guardM (asG t16_1 false) false (fun k_4 => rop P (Instr.loadAt 22 t22_2) h_5 fun t23_1 =>
  k_4 t23_1 h_5) h_5 fun t23_2 h_6 =>
  guardM (asG t16_1 false) false (fun k_5 => k_5 p1_1 h_6) h_6 fun t24_1 h_7 =>
  guardM (asG t16_1 false) false (fun k_6 => pop P (Instr.indexAt 22 t23_2 t24_1) fun t25_1 =>
  k_6 t25_1 h_7) h_7 fun t25_2 h_8 =>
  guardM (asG t16_1 false) false (fun k_7 => rop P (Instr.loadAt 27 t25_2) h_8 fun t26_1 =>
  k_7 t26_1 h_8) h_8 fun t26_2 h_9 =>
  guardM (asG t16_1 false) false (fun k_8 => pop P (lenS 27 3 t26_2) fun t27_1 =>
  k_8 t27_1 h_9) h_9 fun t27_2 h_10 =>
  guardM (asG t16_1 false) false (fun k_9 => callM P 85 #[t18_2, t19_1] h_10 fun t20_1 h_11 =>
  k_9 t20_1 h_11) h_10 fun t20_2 h_12 =>
  (∃ b_4 : Bool, asG t16_1 false = .bool b_4 ∧ (b_4 = false → ∀ w : World, w.heap = h_12 → (Instr.loadAt 27 t25_2).run P w = .ok t26_2 w) ∧ (b_4 ≠ false → t26_2 = undef)) ∧
  (∃ b_3 : Bool, asG t16_1 false = .bool b_3 ∧ (b_3 = false → ∀ w : World, w.heap = h_12 → (Instr.loadAt 22 t22_2).run P w = .ok t23_2 w) ∧ (b_3 ≠ false → t23_2 = undef)) ∧
  guardM (asG t16_1 false) false (fun k_10 => callM P 84 #[t20_2] h_12 fun t21_1 h_13 =>
  k_10 t21_1 h_13) h_12 fun t21_2 h_14 =>
  (∃ b_2 : Bool, asG t16_1 false = .bool b_2 ∧ (b_2 = false → ∀ w : World, w.heap = h_14 → (Instr.loadAt 27 t25_2).run P w = .ok t26_2 w) ∧ (b_2 ≠ false → t26_2 = undef)) ∧
  (∃ b_1 : Bool, asG t16_1 false = .bool b_1 ∧ (b_1 = false → ∀ w : World, w.heap = h_14 → (Instr.loadAt 22 t22_2).run P w = .ok t23_2 w) ∧ (b_1 ≠ false → t23_2 = undef)) ∧
  guardM (asG t16_1 false) false (fun k_11 => pop P (binA .mul 3 t21_2 t27_2) fun t28_1 =>
  k_11 t28_1 h_14) h_14 fun t28_2 h_15 =>
  guardM (asG t16_1 false) false (fun k_12 => pop P (binA .gtr 3 t28_2 (Value.int IntKind.i64 300)) fun t29_1 =>
  k_12 t29_1 h_15) h_15 fun t29_2 h_16 =>
  pop P (pickS t16_1 (Value.bool true) t29_2) fun t30_1 =>
  condM t30_1
  (K (.tuple #[(Value.slice none 0 0), (Value.bool false)]) h_16)
  (rop P (Instr.loadAt 32 g2_1) h_16 fun t31_1 =>
  callM P 86 #[t31_1, p1_1, (Value.int IntKind.i64 300)] h_16 fun t33_1 h_17 =>
  pop P (lenS 22 3 t33_1) fun t34_1 =>
  ∃ (I_1 : List Value → Heap → Prop) (μ_1 : List Value → Heap → Nat), I_1 [(Value.slice none 0 0), (Value.int IntKind.i64 0)] h_17 ∧
  ∀ (junk_1 : Nat → Value) (out6_1 : Value) (t35_1 : Value) (h_18 : Heap), I_1 [out6_1, t35_1] h_18 →
  pop P (binA .lss 3 t35_1 t34_1) fun t36_1 =>
  condM t36_1
  (pop P (Instr.indexAt 22 t33_1 t35_1) fun t37_1 =>
  rop P (Instr.loadAt 27 t37_1) h_18 fun t38_1 =>
  pop P (Instr.fieldAt 32 g2_1 0) fun t39_1 =>
  rop P (Instr.loadAt 22 t39_1) h_18 fun t40_1 =>
  pop P (Instr.indexAt 22 t40_1 p1_1) fun t42_1 =>
  rop P (Instr.loadAt 27 t42_1) h_18 fun t43_1 =>
  pop P (lenS 27 3 t43_1) fun t44_1 =>
  ∃ (I_2 : List Value → Heap → Prop) (μ_2 : List Value → Heap → Nat), I_2 [out6_1, (Value.int IntKind.i64 0)] h_18 ∧
  ∀ (junk_2 : Nat → Value) (out6_2 : Value) (t45_1 : Value) (h_19 : Heap), I_2 [out6_2, t45_1] h_19 →
  pop P (binA .lss 3 t45_1 t44_1) fun t46_1 =>
  condM t46_1
  (callM P 87 #[t38_1] h_19 fun t49_1 h_20 =>
  pop P (Instr.build 101 #[(0, t49_1), (1, p1_1)]) fun t51_1 =>
  eop P (Instr.alloc 101 true (.tuple #[])) h_20 fun w10_1 h_21 =>
  uop P (Instr.storeAt 101 w10_1 t51_1) h_21 fun u_1 h_22 =>
  pop P (Instr.fieldAt 101 w10_1 0) fun t52_1 =>
  rop P (Instr.loadAt 27 t52_1) h_22 fun t53_1 =>
  pop P (Instr.indexAt 27 t53_1 p1_1) fun t56_1 =>
  uop P (Instr.storeAt 3 t56_1 t45_1) h_22 fun u_2 h_23 =>
  ∃ (I_3 : List Value → Heap → Prop) (μ_3 : List Value → Heap → Nat), I_3 [(Value.int IntKind.i64 0)] h_23 ∧
  ∀ (junk_3 : Nat → Value) (i11_1 : Value) (h_24 : Heap), I_3 [i11_1] h_24 →
  pop P (lenS 67 3 out6_2) fun t59_1 =>
  pop P (binA .lss 3 i11_1 t59_1) fun t60_1 =>
  guardM (asG t60_1 true) true (fun k_13 => k_13 out6_2 h_24) h_24 fun t62_1 h_25 =>
  guardM (asG t60_1 true) true (fun k_14 => k_14 i11_1 h_25) h_25 fun t63_1 h_26 =>
  guardM (asG t60_1 true) true (fun k_15 => pop P (Instr.indexAt 67 t62_1 t63_1) fun t64_1 =>
  k_15 t64_1 h_26) h_26 fun t64_2 h_27 =>
  guardM (asG t60_1 true) true (fun k_16 => pop P (Instr.fieldAt 101 t64_2 0) fun t65_1 =>
  k_16 t65_1 h_27) h_27 fun t65_2 h_28 =>
  guardM (asG t60_1 true) true (fun k_17 => rop P (Instr.loadAt 27 t65_2) h_28 fun t66_1 =>
  k_17 t66_1 h_28) h_28 fun t66_2 h_29 =>
  guardM (asG t60_1 true) true (fun k_18 => pop P (Instr.fieldAt 101 w10_1 0) fun t67_1 =>
  k_18 t67_1 h_29) h_29 fun t67_2 h_30 =>
  guardM (asG t60_1 true) true (fun k_19 => rop P (Instr.loadAt 27 t67_2) h_30 fun t68_1 =>
  k_19 t68_1 h_30) h_30 fun t68_2 h_31 =>
  guardM (asG t60_1 true) true (fun k_20 => callM P 88 #[t66_2, t68_2] h_31 fun t69_1 h_32 =>
  k_20 t69_1 h_32) h_31 fun t69_2 h_33 =>
  pop P (pickS t60_1 t69_2 (Value.bool false)) fun t70_1 =>
  condM t70_1
  (pop P (binA .add 3 i11_1 (Value.int IntKind.i64 1)) fun t72_1 =>
  I_3 [t72_1] h_33 ∧ μ_3 [t72_1] h_33 < μ_3 [i11_1] h_24)
  (∃ J_1 : List Value → Heap → Prop, (pop P (Instr.sliceAt 67 out6_2 none (some i11_1) none) fun t76_1 =>
  rop P (Instr.loadAt 101 w10_1) h_33 fun t78_1 =>
  (eop P (Instr.buildSlice 67 0 #[]) h_33 fun t73_1 h_34 =>
  (∀ w : World, w.heap = h_34 → (Instr.loadAt 101 w10_1).run P w = .ok t78_1 w) ∧
  (eop P (appS 67 67 67 t73_1 t76_1) h_34 fun t77_1 h_35 =>
  (∀ w : World, w.heap = h_35 → (Instr.loadAt 101 w10_1).run P w = .ok t78_1 w) ∧
  eop P (Instr.buildSlice 67 1 #[(0, t78_1)]) h_35 fun t79_1 h_36 =>
  eop P (appS 67 67 67 t77_1 t79_1) h_36 fun t80_1 h_37 =>
  J_1 [t80_1] h_37) ∧
  (eop P (Instr.buildSlice 67 1 #[(0, t78_1)]) h_34 fun t79_2 h_38 =>
  eop P (appS 67 67 67 t73_1 t76_1) h_38 fun t77_2 h_39 =>
  eop P (appS 67 67 67 t77_2 t79_2) h_39 fun t80_2 h_40 =>
  J_1 [t80_2] h_40)) ∧
  (eop P (Instr.buildSlice 67 1 #[(0, t78_1)]) h_33 fun t79_3 h_41 =>
  eop P (Instr.buildSlice 67 0 #[]) h_41 fun t73_2 h_42 =>
  eop P (appS 67 67 67 t73_2 t76_1) h_42 fun t77_3 h_43 =>
  eop P (appS 67 67 67 t77_3 t79_3) h_43 fun t80_3 h_44 =>
  J_1 [t80_3] h_44)) ∧
  ∀ (junk_4 : Nat → Value) (next12_1 : Value) (h_45 : Heap), J_1 [next12_1] h_45 →
  pop P (Instr.sliceAt 67 out6_2 (some i11_1) none none) fun t84_1 =>
  eop P (appS 67 67 67 next12_1 t84_1) h_45 fun t85_1 h_46 =>
  pop P (binA .add 3 t45_1 (Value.int IntKind.i64 1)) fun t86_1 =>
  I_2 [t85_1, t86_1] h_46 ∧ μ_2 [t85_1, t86_1] h_46 < μ_2 [out6_2, t45_1] h_19))
  (pop P (binA .add 3 t35_1 (Value.int IntKind.i64 1)) fun t87_1 =>
  I_1 [out6_2, t87_1] h_19 ∧ μ_1 [out6_2, t87_1] h_19 < μ_1 [out6_1, t35_1] h_18))
  (K (.tuple #[out6_1, (Value.bool true)]) h_18))
theorem e45 (g0_1 : Value) (p1_1 : Value) (h : Heap) (K : Value → Heap → Prop) : wpA Try.prog 89 (anOf [(122, [6, 35]), (31334, [6, 45]), (32086431, [12]), (64172860, [11])]) (bodyOf Try.f45) 1 (fun A h => resA Try.prog A h K [.tmp 4, .tmp 5]) (fun _ _ _ => False) (fun A h => resA Try.prog A h K [.tmp 4, .tmp 5]) (aargs [g0_1, p1_1] 0) h = t45 Try.prog g0_1 p1_1 h K := by kernel_rfl
theorem c45 (g0_1 : Value) (p1_1 : Value) (h : Heap) (K : Value → Heap → Prop) (H : t45 Try.prog g0_1 p1_1 h K) : callM Try.prog 45 #[g0_1, p1_1] h K :=
  callM_of_wpA mixed (fn := Try.f45) Try.func45 (c := bodyOf Try.f45) rfl (of_decide_eq_true (by kernel_rfl)) (anOf [(122, [6, 35]), (31334, [6, 45]), (32086431, [12]), (64172860, [11])]) 87 89 (by kernel_rfl) rfl [.tmp 4, .tmp 5] (by kernel_rfl) (args := [g0_1, p1_1]) (by rw [e45]; exact H)

/-! impl.AllUnicycles -/
def t46 (P : Program) (g0_1 : Value) (p1_1 : Value) (h : Heap) (K : Value → Heap → Prop) : Prop :=
  eop P (Instr.box 32 g0_1) h fun g2_1 h_1 =>
  eop P (Instr.box 3 p1_1) h_1 fun p3_1 h_2 =>
  rop P (Instr.loadAt 32 g2_1) h_2 fun t7_1 =>
  rop P (Instr.loadAt 3 p3_1) h_2 fun t8_1 =>
  eop P (Instr.buildSlice 27 1 #[(0, t8_1)]) h_2 fun t9_1 h_3 =>
  callM P 65 #[t7_1, t9_1] h_3 fun t10_1 h_4 =>
  pop P (Op.unary .not t10_1) fun t11_1 =>
  guardM (asG t11_1 false) false (fun k_1 => rop P (Instr.loadAt 32 g2_1) h_4 fun t13_1 =>
  k_1 t13_1 h_4) h_4 fun t13_2 h_5 =>
  guardM (asG t11_1 false) false (fun k_2 => rop P (Instr.loadAt 3 p3_1) h_5 fun t14_1 =>
  k_2 t14_1 h_5) h_5 fun t14_2 h_6 =>
  guardM (asG t11_1 false) false (fun k_3 => callM P 89 #[t13_2, t14_2] h_6 fun t15_1 h_7 =>
  k_3 t15_1 h_7) h_6 fun t15_2 h_8 =>
  guardM (asG t11_1 false) false (fun k_4 => pop P (binA .gtr 3 t15_2 (Value.int IntKind.i64 300)) fun t16_1 =>
  k_4 t16_1 h_8) h_8 fun t16_2 h_9 =>
  pop P (pickS t11_1 (Value.bool true) t16_2) fun t17_1 =>
  condM t17_1
  (K (.tuple #[(Value.slice none 0 0), (Value.bool false)]) h_9)
  (eop P (Instr.buildSlice 67 0 #[]) h_9 fun t18_1 h_10 =>
  eop P (Instr.alloc 67 true (.tuple #[])) h_10 fun out6_1 h_11 =>
  uop P (Instr.storeAt 67 out6_1 t18_1) h_11 fun u_1 h_12 =>
  rop P (Instr.loadAt 32 g2_1) h_12 fun t19_1 =>
  pop P (Instr.makeFunc (Fn.func 91) #[] #[p3_1, g2_1, out6_1]) fun t20_1 =>
  callM P 90 #[t19_1, (Value.int IntKind.i64 (-1)), t20_1] h_12 fun t21_1 h_13 =>
  rop P (Instr.loadAt 67 out6_1) h_13 fun t22_1 =>
  K (.tuple #[t22_1, (Value.bool true)]) h_13)
theorem e46 (g0_1 : Value) (p1_1 : Value) (h : Heap) (K : Value → Heap → Prop) : wpA Try.prog 23 (anOf []) (bodyOf Try.f46) 1 (fun A h => resA Try.prog A h K [.tmp 4, .tmp 5]) (fun _ _ _ => False) (fun A h => resA Try.prog A h K [.tmp 4, .tmp 5]) (aargs [g0_1, p1_1] 0) h = t46 Try.prog g0_1 p1_1 h K := by kernel_rfl
theorem c46 (g0_1 : Value) (p1_1 : Value) (h : Heap) (K : Value → Heap → Prop) (H : t46 Try.prog g0_1 p1_1 h K) : callM Try.prog 46 #[g0_1, p1_1] h K :=
  callM_of_wpA mixed (fn := Try.f46) Try.func46 (c := bodyOf Try.f46) rfl (of_decide_eq_true (by kernel_rfl)) (anOf []) 21 23 (by kernel_rfl) rfl [.tmp 4, .tmp 5] (by kernel_rfl) (args := [g0_1, p1_1]) (by rw [e46]; exact H)

/-! laws.eqWalkS -/
def t47 (P : Program) (a0_1 : Value) (b1_1 : Value) (h : Heap) (K : Value → Heap → Prop) : Prop :=
  pop P (lenS 67 3 a0_1) fun t7_1 =>
  pop P (lenS 67 3 b1_1) fun t9_1 =>
  pop P (binE .neq 3 (.tmp 7) (.tmp 9) t7_1 t9_1) fun t10_1 =>
  condM t10_1
  (K (Value.bool false) h)
  (∃ (I_1 : List Value → Heap → Prop) (μ_1 : List Value → Heap → Nat), I_1 [(Value.int IntKind.i64 0)] h ∧
  ∀ (junk_1 : Nat → Value) (i5_1 : Value) (h_1 : Heap), I_1 [i5_1] h_1 →
  pop P (lenS 67 3 a0_1) fun t13_1 =>
  pop P (binA .lss 3 i5_1 t13_1) fun t14_1 =>
  condM t14_1
  (pop P (Instr.indexAt 67 a0_1 i5_1) fun t19_1 =>
  rop P (Instr.loadAt 101 t19_1) h_1 fun t20_1 =>
  pop P (Instr.indexAt 67 b1_1 i5_1) fun t23_1 =>
  rop P (Instr.loadAt 101 t23_1) h_1 fun t24_1 =>
  callM P 94 #[t20_1, t24_1] h_1 fun t25_1 h_2 =>
  pop P (Op.unary .not t25_1) fun t26_1 =>
  condM t26_1
  (K (Value.bool false) h_2)
  (pop P (binA .add 3 i5_1 (Value.int IntKind.i64 1)) fun t16_1 =>
  I_1 [t16_1] h_2 ∧ μ_1 [t16_1] h_2 < μ_1 [i5_1] h_1))
  (K (Value.bool true) h_1))
theorem e47 (a0_1 : Value) (b1_1 : Value) (h : Heap) (K : Value → Heap → Prop) : wpA Try.prog 27 (anOf [(58, [5])]) (bodyOf Try.f47) 1 (fun A h => resA Try.prog A h K [.tmp 4]) (fun _ _ _ => False) (fun A h => resA Try.prog A h K [.tmp 4]) (aargs [a0_1, b1_1] 0) h = t47 Try.prog a0_1 b1_1 h K := by kernel_rfl
theorem c47 (a0_1 : Value) (b1_1 : Value) (h : Heap) (K : Value → Heap → Prop) (H : t47 Try.prog a0_1 b1_1 h K) : callM Try.prog 47 #[a0_1, b1_1] h K :=
  callM_of_wpA mixed (fn := Try.f47) Try.func47 (c := bodyOf Try.f47) rfl (of_decide_eq_true (by kernel_rfl)) (anOf [(58, [5])]) 25 27 (by kernel_rfl) rfl [.tmp 4] (by kernel_rfl) (args := [a0_1, b1_1]) (by rw [e47]; exact H)

/-! laws.markWalkS -/
def t48 (P : Program) (a0_1 : Value) (k1_1 : Value) (h : Heap) (K : Value → Heap → Prop) : Prop :=
  ∃ (I_1 : List Value → Heap → Prop) (μ_1 : List Value → Heap → Nat), I_1 [k1_1, (Value.int IntKind.i64 0)] h ∧
  ∀ (junk_1 : Nat → Value) (k1_2 : Value) (i5_1 : Value) (h_1 : Heap), I_1 [k1_2, i5_1] h_1 →
  pop P (lenS 67 3 a0_1) fun t8_1 =>
  pop P (binA .lss 3 i5_1 t8_1) fun t9_1 =>
  condM t9_1
  (pop P (Instr.indexAt 67 a0_1 i5_1) fun t14_1 =>
  pop P (Instr.fieldAt 101 t14_1 0) fun t15_1 =>
  rop P (Instr.loadAt 27 t15_1) h_1 fun t16_1 =>
  callM P 19 #[t16_1, k1_2] h_1 fun t18_1 h_2 =>
  pop P (Instr.indexAt 67 a0_1 i5_1) fun t22_1 =>
  pop P (Instr.fieldAt 101 t22_1 1) fun t23_1 =>
  uop P (Instr.storeAt 3 t23_1 t18_1) h_2 fun u_1 h_3 =>
  pop P (binA .add 3 t18_1 (Value.int IntKind.i64 1)) fun t25_1 =>
  pop P (binA .add 3 i5_1 (Value.int IntKind.i64 1)) fun t11_1 =>
  I_1 [t25_1, t11_1] h_3 ∧ μ_1 [t25_1, t11_1] h_3 < μ_1 [k1_2, i5_1] h_1)
  (K k1_2 h_1)
theorem e48 (a0_1 : Value) (k1_1 : Value) (h : Heap) (K : Value → Heap → Prop) : wpA Try.prog 27 (anOf [(26, [1, 5])]) (bodyOf Try.f48) 1 (fun A h => resA Try.prog A h K [.tmp 4]) (fun _ _ _ => False) (fun A h => resA Try.prog A h K [.tmp 4]) (aargs [a0_1, k1_1] 0) h = t48 Try.prog a0_1 k1_1 h K := by kernel_rfl
theorem c48 (a0_1 : Value) (k1_1 : Value) (h : Heap) (K : Value → Heap → Prop) (H : t48 Try.prog a0_1 k1_1 h K) : callM Try.prog 48 #[a0_1, k1_1] h K :=
  callM_of_wpA mixed (fn := Try.f48) Try.func48 (c := bodyOf Try.f48) rfl (of_decide_eq_true (by kernel_rfl)) (anOf [(26, [1, 5])]) 25 27 (by kernel_rfl) rfl [.tmp 4] (by kernel_rfl) (args := [a0_1, k1_1]) (by rw [e48]; exact H)

/-! laws.heldWalkS -/
def t49 (P : Program) (a0_1 : Value) (k1_1 : Value) (h : Heap) (K : Value → Heap → Prop) : Prop :=
  ∃ (I_1 : List Value → Heap → Prop) (μ_1 : List Value → Heap → Nat), I_1 [k1_1, (Value.int IntKind.i64 0)] h ∧
  ∀ (junk_1 : Nat → Value) (k1_2 : Value) (i5_1 : Value) (h_1 : Heap), I_1 [k1_2, i5_1] h_1 →
  pop P (lenS 67 3 a0_1) fun t8_1 =>
  pop P (binA .lss 3 i5_1 t8_1) fun t9_1 =>
  condM t9_1
  (pop P (Instr.indexAt 67 a0_1 i5_1) fun t14_1 =>
  pop P (Instr.fieldAt 101 t14_1 0) fun t15_1 =>
  rop P (Instr.loadAt 27 t15_1) h_1 fun t16_1 =>
  callM P 20 #[t16_1, k1_2] h_1 fun t18_1 h_2 =>
  pop P (binA .lss 3 t18_1 (Value.int IntKind.i64 0)) fun t20_1 =>
  condM t20_1
  (K (Value.int IntKind.i64 (-1)) h_2)
  (pop P (Instr.indexAt 67 a0_1 i5_1) fun t23_1 =>
  pop P (Instr.fieldAt 101 t23_1 1) fun t24_1 =>
  rop P (Instr.loadAt 3 t24_1) h_2 fun t25_1 =>
  pop P (binE .neq 3 (.tmp 25) (.tmp 26) t25_1 t18_1) fun t27_1 =>
  condM t27_1
  (K (Value.int IntKind.i64 (-1)) h_2)
  (pop P (binA .add 3 t18_1 (Value.int IntKind.i64 1)) fun t29_1 =>
  pop P (binA .add 3 i5_1 (Value.int IntKind.i64 1)) fun t11_1 =>
  I_1 [t29_1, t11_1] h_2 ∧ μ_1 [t29_1, t11_1] h_2 < μ_1 [k1_2, i5_1] h_1)))
  (K k1_2 h_1)
theorem e49 (a0_1 : Value) (k1_1 : Value) (h : Heap) (K : Value → Heap → Prop) : wpA Try.prog 31 (anOf [(26, [1, 5])]) (bodyOf Try.f49) 1 (fun A h => resA Try.prog A h K [.tmp 4]) (fun _ _ _ => False) (fun A h => resA Try.prog A h K [.tmp 4]) (aargs [a0_1, k1_1] 0) h = t49 Try.prog a0_1 k1_1 h K := by kernel_rfl
theorem c49 (a0_1 : Value) (k1_1 : Value) (h : Heap) (K : Value → Heap → Prop) (H : t49 Try.prog a0_1 k1_1 h K) : callM Try.prog 49 #[a0_1, k1_1] h K :=
  callM_of_wpA mixed (fn := Try.f49) Try.func49 (c := bodyOf Try.f49) rfl (of_decide_eq_true (by kernel_rfl)) (anOf [(26, [1, 5])]) 29 31 (by kernel_rfl) rfl [.tmp 4] (by kernel_rfl) (args := [a0_1, k1_1]) (by rw [e49]; exact H)

/-! laws.szIntSS -/
def t50 (P : Program) (a0_1 : Value) (left1_1 : Value) (h : Heap) (K : Value → Heap → Prop) : Prop :=
  pop P (lenS 22 3 a0_1) fun t8_1 =>
  pop P (binA .sub 3 left1_1 t8_1) fun t9_1 =>
  pop P (binA .lss 3 t9_1 (Value.int IntKind.i64 0)) fun t11_1 =>
  condM t11_1
  (K (Value.int IntKind.i64 (-1)) h)
  (∃ (I_1 : List Value → Heap → Prop) (μ_1 : List Value → Heap → Nat), I_1 [t9_1, (Value.int IntKind.i64 0)] h ∧
  ∀ (junk_1 : Nat → Value) (left1_2 : Value) (i5_1 : Value) (h_1 : Heap), I_1 [left1_2, i5_1] h_1 →
  pop P (lenS 22 3 a0_1) fun t14_1 =>
  pop P (binA .lss 3 i5_1 t14_1) fun t15_1 =>
  condM t15_1
  (pop P (Instr.indexAt 22 a0_1 i5_1) fun t20_1 =>
  rop P (Instr.loadAt 27 t20_1) h_1 fun t21_1 =>
  callM P 95 #[t21_1, left1_2] h_1 fun t23_1 h_2 =>
  pop P (binA .lss 3 t23_1 (Value.int IntKind.i64 0)) fun t25_1 =>
  condM t25_1
  (K (Value.int IntKind.i64 (-1)) h_2)
  (pop P (binA .add 3 i5_1 (Value.int IntKind.i64 1)) fun t17_1 =>
  I_1 [t23_1, t17_1] h_2 ∧ μ_1 [t23_1, t17_1] h_2 < μ_1 [left1_2, i5_1] h_1))
  (K left1_2 h_1))
theorem e50 (a0_1 : Value) (left1_1 : Value) (h : Heap) (K : Value → Heap → Prop) : wpA Try.prog 27 (anOf [(122, [1, 5])]) (bodyOf Try.f50) 1 (fun A h => resA Try.prog A h K [.tmp 4]) (fun _ _ _ => False) (fun A h => resA Try.prog A h K [.tmp 4]) (aargs [a0_1, left1_1] 0) h = t50 Try.prog a0_1 left1_1 h K := by kernel_rfl
theorem c50 (a0_1 : Value) (left1_1 : Value) (h : Heap) (K : Value → Heap → Prop) (H : t50 Try.prog a0_1 left1_1 h K) : callM Try.prog 50 #[a0_1, left1_1] h K :=
  callM_of_wpA mixed (fn := Try.f50) Try.func50 (c := bodyOf Try.f50) rfl (of_decide_eq_true (by kernel_rfl)) (anOf [(122, [1, 5])]) 25 27 (by kernel_rfl) rfl [.tmp 4] (by kernel_rfl) (args := [a0_1, left1_1]) (by rw [e50]; exact H)

/-! laws.toIntSS -/
def t55 (P : Program) (a0_1 : Value) (h : Heap) (K : Value → Heap → Prop) : Prop :=
  pop P (lenS 22 3 a0_1) fun t6_1 =>
  eop P (Instr.makeSlice 22 t6_1 t6_1) h fun t7_1 h_1 =>
  ∃ (I_1 : List Value → Heap → Prop) (μ_1 : List Value → Heap → Nat), I_1 [(Value.int IntKind.i64 0)] h_1 ∧
  ∀ (junk_1 : Nat → Value) (i4_1 : Value) (h_2 : Heap), I_1 [i4_1] h_2 →
  pop P (lenS 22 3 a0_1) fun t10_1 =>
  pop P (binA .lss 3 i4_1 t10_1) fun t11_1 =>
  condM t11_1
  (pop P (Instr.indexAt 22 a0_1 i4_1) fun t18_1 =>
  rop P (Instr.loadAt 27 t18_1) h_2 fun t19_1 =>
  callM P 12 #[t19_1] h_2 fun t20_1 h_3 =>
  pop P (Instr.indexAt 22 t7_1 i4_1) fun t21_1 =>
  uop P (Instr.storeAt 27 t21_1 t20_1) h_3 fun u_1 h_4 =>
  pop P (binA .add 3 i4_1 (Value.int IntKind.i64 1)) fun t13_1 =>
  I_1 [t13_1] h_4 ∧ μ_1 [t13_1] h_4 < μ_1 [i4_1] h_2)
  (K t7_1 h_2)
theorem e55 (a0_1 : Value) (h : Heap) (K : Value → Heap → Prop) : wpA Try.prog 23 (anOf [(58, [4])]) (bodyOf Try.f55) 1 (fun A h => resA Try.prog A h K [.tmp 2]) (fun _ _ _ => False) (fun A h => resA Try.prog A h K [.tmp 2]) (aargs [a0_1] 0) h = t55 Try.prog a0_1 h K := by kernel_rfl
theorem c55 (a0_1 : Value) (h : Heap) (K : Value → Heap → Prop) (H : t55 Try.prog a0_1 h K) : callM Try.prog 55 #[a0_1] h K :=
  callM_of_wpA mixed (fn := Try.f55) Try.func55 (c := bodyOf Try.f55) rfl (of_decide_eq_true (by kernel_rfl)) (anOf [(58, [4])]) 22 23 (by kernel_rfl) rfl [.tmp 2] (by kernel_rfl) (args := [a0_1]) (by rw [e55]; exact H)

/-! impl.isGraph -/
def t56 (P : Program) (g0_1 : Value) (h : Heap) (K : Value → Heap → Prop) : Prop :=
  eop P (Instr.box 32 g0_1) h fun g1_1 h_1 =>
  pop P (Instr.fieldAt 32 g1_1 0) fun t6_1 =>
  rop P (Instr.loadAt 22 t6_1) h_1 fun t7_1 =>
  pop P (lenS 22 3 t7_1) fun t8_1 =>
  eop P (Instr.alloc 3 true (.tuple #[])) h_1 fun n3_1 h_2 =>
  uop P (Instr.storeAt 3 n3_1 t8_1) h_2 fun u_1 h_3 =>
  rop P (Instr.loadAt 3 n3_1) h_3 fun t9_1 =>
  callM P 102 #[t9_1, (Value.int IntKind.i64 1), (Value.int IntKind.i64 8)] h_3 fun t10_1 h_4 =>
  pop P (Op.unary .not t10_1) fun t11_1 =>
  condM t11_1
  (K (Value.bool false) h_4)
  (pop P (Instr.fieldAt 32 g1_1 0) fun t12_1 =>
  rop P (Instr.loadAt 22 t12_1) h_4 fun t13_1 =>
  pop P (lenS 22 3 t13_1) fun t14_1 =>
  ∃ (I_1 : List Value → Heap → Prop) (μ_1 : List Value → Heap → Nat), I_1 [(Value.int IntKind.i64 0)] h_4 ∧
  ∀ (junk_1 : Nat → Value) (t15_1 : Value) (h_5 : Heap), I_1 [t15_1] h_5 →
  pop P (binA .lss 3 t15_1 t14_1) fun t16_1 =>
  condM t16_1
  (pop P (Instr.indexAt 22 t13_1 t15_1) fun t17_1 =>
  rop P (Instr.loadAt 27 t17_1) h_5 fun t18_1 =>
  pop P (lenS 27 3 t18_1) fun t20_1 =>
  pop P (binA .gtr 3 t20_1 (Value.int IntKind.i64 5)) fun t21_1 =>
  guardM (asG t21_1 false) false (fun k_1 => k_1 t18_1 h_5) h_5 fun t23_1 h_6 =>
  guardM (asG t21_1 false) false (fun k_2 => pop P (Instr.makeFunc (Fn.func 104) #[] #[n3_1]) fun t24_1 =>
  k_2 t24_1 h_6) h_6 fun t24_2 h_7 =>
  guardM (asG t21_1 false) false (fun k_3 => callM P 103 #[t23_1, t24_2] h_7 fun t25_1 h_8 =>
  k_3 t25_1 h_8) h_7 fun t25_2 h_9 =>
  pop P (pickS t21_1 (Value.bool true) t25_2) fun t26_1 =>
  condM t26_1
  (K (Value.bool false) h_9)
  (pop P (binA .add 3 t15_1 (Value.int IntKind.i64 1)) fun t27_1 =>
  I_1 [t27_1] h_9 ∧ μ_1 [t27_1] h_9 < μ_1 [t15_1] h_5))
  (K (Value.bool true) h_5))
theorem e56 (g0_1 : Value) (h : Heap) (K : Value → Heap → Prop) : wpA Try.prog 28 (anOf [(122, [15])]) (bodyOf Try.f56) 1 (fun A h => resA Try.prog A h K [.tmp 2]) (fun _ _ _ => False) (fun A h => resA Try.prog A h K [.tmp 2]) (aargs [g0_1] 0) h = t56 Try.prog g0_1 h K := by kernel_rfl
theorem c56 (g0_1 : Value) (h : Heap) (K : Value → Heap → Prop) (H : t56 Try.prog g0_1 h K) : callM Try.prog 56 #[g0_1] h K :=
  callM_of_wpA mixed (fn := Try.f56) Try.func56 (c := bodyOf Try.f56) rfl (of_decide_eq_true (by kernel_rfl)) (anOf [(122, [15])]) 27 28 (by kernel_rfl) rfl [.tmp 2] (by kernel_rfl) (args := [g0_1]) (by rw [e56]; exact H)

/-! laws.eqIntSS -/
def t59 (P : Program) (a0_1 : Value) (b1_1 : Value) (h : Heap) (K : Value → Heap → Prop) : Prop :=
  pop P (lenS 22 3 a0_1) fun t7_1 =>
  pop P (lenS 22 3 b1_1) fun t9_1 =>
  pop P (binE .neq 3 (.tmp 7) (.tmp 9) t7_1 t9_1) fun t10_1 =>
  condM t10_1
  (K (Value.bool false) h)
  (∃ (I_1 : List Value → Heap → Prop) (μ_1 : List Value → Heap → Nat), I_1 [(Value.int IntKind.i64 0)] h ∧
  ∀ (junk_1 : Nat → Value) (i5_1 : Value) (h_1 : Heap), I_1 [i5_1] h_1 →
  pop P (lenS 22 3 a0_1) fun t13_1 =>
  pop P (binA .lss 3 i5_1 t13_1) fun t14_1 =>
  condM t14_1
  (pop P (Instr.indexAt 22 a0_1 i5_1) fun t19_1 =>
  rop P (Instr.loadAt 27 t19_1) h_1 fun t20_1 =>
  pop P (Instr.indexAt 22 b1_1 i5_1) fun t23_1 =>
  rop P (Instr.loadAt 27 t23_1) h_1 fun t24_1 =>
  callM P 14 #[t20_1, t24_1] h_1 fun t25_1 h_2 =>
  pop P (Op.unary .not t25_1) fun t26_1 =>
  condM t26_1
  (K (Value.bool false) h_2)
  (pop P (binA .add 3 i5_1 (Value.int IntKind.i64 1)) fun t16_1 =>
  I_1 [t16_1] h_2 ∧ μ_1 [t16_1] h_2 < μ_1 [i5_1] h_1))
  (K (Value.bool true) h_1))
theorem e59 (a0_1 : Value) (b1_1 : Value) (h : Heap) (K : Value → Heap → Prop) : wpA Try.prog 27 (anOf [(58, [5])]) (bodyOf Try.f59) 1 (fun A h => resA Try.prog A h K [.tmp 4]) (fun _ _ _ => False) (fun A h => resA Try.prog A h K [.tmp 4]) (aargs [a0_1, b1_1] 0) h = t59 Try.prog a0_1 b1_1 h K := by kernel_rfl
theorem c59 (a0_1 : Value) (b1_1 : Value) (h : Heap) (K : Value → Heap → Prop) (H : t59 Try.prog a0_1 b1_1 h K) : callM Try.prog 59 #[a0_1, b1_1] h K :=
  callM_of_wpA mixed (fn := Try.f59) Try.func59 (c := bodyOf Try.f59) rfl (of_decide_eq_true (by kernel_rfl)) (anOf [(58, [5])]) 25 27 (by kernel_rfl) rfl [.tmp 4] (by kernel_rfl) (args := [a0_1, b1_1]) (by rw [e59]; exact H)

/-! laws.markIntSS -/
def t60 (P : Program) (a0_1 : Value) (k1_1 : Value) (h : Heap) (K : Value → Heap → Prop) : Prop :=
  ∃ (I_1 : List Value → Heap → Prop) (μ_1 : List Value → Heap → Nat), I_1 [k1_1, (Value.int IntKind.i64 0)] h ∧
  ∀ (junk_1 : Nat → Value) (k1_2 : Value) (i5_1 : Value) (h_1 : Heap), I_1 [k1_2, i5_1] h_1 →
  pop P (lenS 22 3 a0_1) fun t8_1 =>
  pop P (binA .lss 3 i5_1 t8_1) fun t9_1 =>
  condM t9_1
  (pop P (Instr.indexAt 22 a0_1 i5_1) fun t14_1 =>
  rop P (Instr.loadAt 27 t14_1) h_1 fun t15_1 =>
  callM P 19 #[t15_1, k1_2] h_1 fun t17_1 h_2 =>
  pop P (binA .add 3 i5_1 (Value.int IntKind.i64 1)) fun t11_1 =>
  I_1 [t17_1, t11_1] h_2 ∧ μ_1 [t17_1, t11_1] h_2 < μ_1 [k1_2, i5_1] h_1)
  (K k1_2 h_1)
theorem e60 (a0_1 : Value) (k1_1 : Value) (h : Heap) (K : Value → Heap → Prop) : wpA Try.prog 19 (anOf [(26, [1, 5])]) (bodyOf Try.f60) 1 (fun A h => resA Try.prog A h K [.tmp 4]) (fun _ _ _ => False) (fun A h => resA Try.prog A h K [.tmp 4]) (aargs [a0_1, k1_1] 0) h = t60 Try.prog a0_1 k1_1 h K := by kernel_rfl
theorem c60 (a0_1 : Value) (k1_1 : Value) (h : Heap) (K : Value → Heap → Prop) (H : t60 Try.prog a0_1 k1_1 h K) : callM Try.prog 60 #[a0_1, k1_1] h K :=
  callM_of_wpA mixed (fn := Try.f60) Try.func60 (c := bodyOf Try.f60) rfl (of_decide_eq_true (by kernel_rfl)) (anOf [(26, [1, 5])]) 17 19 (by kernel_rfl) rfl [.tmp 4] (by kernel_rfl) (args := [a0_1, k1_1]) (by rw [e60]; exact H)

/-! impl.has -/
def t65 (P : Program) (g0_1 : Value) (places1_1 : Value) (h : Heap) (K : Value → Heap → Prop) : Prop :=
  eop P (Instr.box 32 g0_1) h fun g2_1 h_1 =>
  rop P (Instr.loadAt 32 g2_1) h_1 fun t5_1 =>
  callM P 56 #[t5_1] h_1 fun t6_1 h_2 =>
  guardM (asG t6_1 true) true (fun k_1 => k_1 places1_1 h_2) h_2 fun t8_1 h_3 =>
  guardM (asG t6_1 true) true (fun k_2 => pop P (Instr.makeFunc (Fn.func 111) #[] #[g2_1]) fun t9_1 =>
  k_2 t9_1 h_3) h_3 fun t9_2 h_4 =>
  guardM (asG t6_1 true) true (fun k_3 => callM P 103 #[t8_1, t9_2] h_4 fun t10_1 h_5 =>
  k_3 t10_1 h_5) h_4 fun t10_2 h_6 =>
  guardM (asG t6_1 true) true (fun k_4 => pop P (Op.unary .not t10_2) fun t11_1 =>
  k_4 t11_1 h_6) h_6 fun t11_2 h_7 =>
  pop P (pickS t6_1 t11_2 (Value.bool false)) fun t12_1 =>
  K t12_1 h_7
theorem e65 (g0_1 : Value) (places1_1 : Value) (h : Heap) (K : Value → Heap → Prop) : wpA Try.prog 13 (anOf []) (bodyOf Try.f65) 1 (fun A h => resA Try.prog A h K [.tmp 4]) (fun _ _ _ => False) (fun A h => resA Try.prog A h K [.tmp 4]) (aargs [g0_1, places1_1] 0) h = t65 Try.prog g0_1 places1_1 h K := by kernel_rfl
theorem c65 (g0_1 : Value) (places1_1 : Value) (h : Heap) (K : Value → Heap → Prop) (H : t65 Try.prog g0_1 places1_1 h K) : callM Try.prog 65 #[g0_1, places1_1] h K :=
  callM_of_wpA mixed (fn := Try.f65) Try.func65 (c := bodyOf Try.f65) rfl (of_decide_eq_true (by kernel_rfl)) (anOf []) 11 13 (by kernel_rfl) rfl [.tmp 4] (by kernel_rfl) (args := [g0_1, places1_1]) (by rw [e65]; exact H)

/-! spec.grPlace -/
def t67 (P : Program) (g0_1 : Value) (p1_1 : Value) (h : Heap) (K : Value → Heap → Prop) : Prop :=
  eop P (Instr.box 32 g0_1) h fun g2_1 h_1 =>
  rop P (Instr.loadAt 32 g2_1) h_1 fun t5_1 =>
  callM P 73 #[t5_1] h_1 fun t6_1 h_2 =>
  guardM (asG t6_1 true) true (fun k_1 => k_1 p1_1 h_2) h_2 fun t8_1 h_3 =>
  guardM (asG t6_1 true) true (fun k_2 => pop P (Instr.fieldAt 32 g2_1 0) fun t9_1 =>
  k_2 t9_1 h_3) h_3 fun t9_2 h_4 =>
  guardM (asG t6_1 true) true (fun k_3 => rop P (Instr.loadAt 22 t9_2) h_4 fun t10_1 =>
  k_3 t10_1 h_4) h_4 fun t10_2 h_5 =>
  guardM (asG t6_1 true) true (fun k_4 => pop P (lenS 22 3 t10_2) fun t11_1 =>
  k_4 t11_1 h_5) h_5 fun t11_2 h_6 =>
  guardM (asG t6_1 true) true (fun k_5 => pop P (binA .sub 3 t11_2 (Value.int IntKind.i64 1)) fun t12_1 =>
  k_5 t12_1 h_6) h_6 fun t12_2 h_7 =>
  guardM (asG t6_1 true) true (fun k_6 => callM P 113 #[t8_1, (Value.int IntKind.i64 0), t12_2] h_7 fun t13_1 h_8 =>
  k_6 t13_1 h_8) h_7 fun t13_2 h_9 =>
  pop P (pickS t6_1 t13_2 (Value.bool false)) fun t14_1 =>
  K t14_1 h_9
theorem e67 (g0_1 : Value) (p1_1 : Value) (h : Heap) (K : Value → Heap → Prop) : wpA Try.prog 15 (anOf []) (bodyOf Try.f67) 1 (fun A h => resA Try.prog A h K [.tmp 4]) (fun _ _ _ => False) (fun A h => resA Try.prog A h K [.tmp 4]) (aargs [g0_1, p1_1] 0) h = t67 Try.prog g0_1 p1_1 h K := by kernel_rfl
theorem c67 (g0_1 : Value) (p1_1 : Value) (h : Heap) (K : Value → Heap → Prop) (H : t67 Try.prog g0_1 p1_1 h K) : callM Try.prog 67 #[g0_1, p1_1] h K :=
  callM_of_wpA mixed (fn := Try.f67) Try.func67 (c := bodyOf Try.f67) rfl (of_decide_eq_true (by kernel_rfl)) (anOf []) 13 15 (by kernel_rfl) rfl [.tmp 4] (by kernel_rfl) (args := [g0_1, p1_1]) (by rw [e67]; exact H)

/-! slices.Contains[[]int,int] -/
def t72 (P : Program) (s0_1 : Value) (v1_1 : Value) (h : Heap) (K : Value → Heap → Prop) : Prop :=
  callM P 114 #[s0_1, v1_1] h fun t7_1 h_1 =>
  pop P (binA .geq 3 t7_1 (Value.int IntKind.i64 0)) fun t8_1 =>
  K t8_1 h_1
theorem e72 (s0_1 : Value) (v1_1 : Value) (h : Heap) (K : Value → Heap → Prop) : wpA Try.prog 9 (anOf []) (bodyOf Try.f72) 1 (fun A h => resA Try.prog A h K [.tmp 4]) (fun _ _ _ => False) (fun A h => resA Try.prog A h K [.tmp 4]) (aargs [s0_1, v1_1] 0) h = t72 Try.prog s0_1 v1_1 h K := by kernel_rfl
theorem c72 (s0_1 : Value) (v1_1 : Value) (h : Heap) (K : Value → Heap → Prop) (H : t72 Try.prog s0_1 v1_1 h K) : callM Try.prog 72 #[s0_1, v1_1] h K :=
  callM_of_wpA mixed (fn := Try.f72) Try.func72 (c := bodyOf Try.f72) rfl (of_decide_eq_true (by kernel_rfl)) (anOf []) 7 9 (by kernel_rfl) rfl [.tmp 4] (by kernel_rfl) (args := [s0_1, v1_1]) (by rw [e72]; exact H)

/-! spec.grGood -/
def t73 (P : Program) (g0_1 : Value) (h : Heap) (K : Value → Heap → Prop) : Prop :=
  eop P (Instr.box 32 g0_1) h fun g1_1 h_1 =>
  pop P (Instr.fieldAt 32 g1_1 0) fun t6_1 =>
  rop P (Instr.loadAt 22 t6_1) h_1 fun t7_1 =>
  pop P (lenS 22 3 t7_1) fun t8_1 =>
  callM P 113 #[t8_1, (Value.int IntKind.i64 1), (Value.int IntKind.i64 8)] h_1 fun t10_1 h_2 =>
  pop P (Op.unary .not t10_1) fun t11_1 =>
  condM t11_1
  (K (Value.bool false) h_2)
  (pop P (Instr.fieldAt 32 g1_1 0) fun t12_1 =>
  rop P (Instr.loadAt 22 t12_1) h_2 fun t13_1 =>
  pop P (lenS 22 3 t13_1) fun t14_1 =>
  ∃ (I_1 : List Value → Heap → Prop) (μ_1 : List Value → Heap → Nat), I_1 [(Value.int IntKind.i64 0)] h_2 ∧
  ∀ (junk_1 : Nat → Value) (t15_1 : Value) (h_3 : Heap), I_1 [t15_1] h_3 →
  pop P (binA .lss 3 t15_1 t14_1) fun t16_1 =>
  condM t16_1
  (pop P (Instr.indexAt 22 t13_1 t15_1) fun t17_1 =>
  rop P (Instr.loadAt 27 t17_1) h_3 fun t18_1 =>
  pop P (lenS 27 3 t18_1) fun t20_1 =>
  pop P (binA .gtr 3 t20_1 (Value.int IntKind.i64 5)) fun t21_1 =>
  guardM (asG t21_1 false) false (fun k_1 => k_1 t18_1 h_3) h_3 fun t23_1 h_4 =>
  guardM (asG t21_1 false) false (fun k_2 => k_2 t8_1 h_4) h_4 fun t24_1 h_5 =>
  guardM (asG t21_1 false) false (fun k_3 => pop P (binA .sub 3 t24_1 (Value.int IntKind.i64 1)) fun t25_1 =>
  k_3 t25_1 h_5) h_5 fun t25_2 h_6 =>
  guardM (asG t21_1 false) false (fun k_4 => callM P 96 #[t23_1, (Value.int IntKind.i64 0), t25_2] h_6 fun t26_1 h_7 =>
  k_4 t26_1 h_7) h_6 fun t26_2 h_8 =>
  guardM (asG t21_1 false) false (fun k_5 => pop P (Op.unary .not t26_2) fun t27_1 =>
  k_5 t27_1 h_8) h_8 fun t27_2 h_9 =>
  pop P (pickS t21_1 (Value.bool true) t27_2) fun t28_1 =>
  condM t28_1
  (K (Value.bool false) h_9)
  (pop P (binA .add 3 t15_1 (Value.int IntKind.i64 1)) fun t29_1 =>
  I_1 [t29_1] h_9 ∧ μ_1 [t29_1] h_9 < μ_1 [t15_1] h_3))
  (K (Value.bool true) h_3))
theorem e73 (g0_1 : Value) (h : Heap) (K : Value → Heap → Prop) : wpA Try.prog 30 (anOf [(122, [15])]) (bodyOf Try.f73) 1 (fun A h => resA Try.prog A h K [.tmp 2]) (fun _ _ _ => False) (fun A h => resA Try.prog A h K [.tmp 2]) (aargs [g0_1] 0) h = t73 Try.prog g0_1 h K := by kernel_rfl
theorem c73 (g0_1 : Value) (h : Heap) (K : Value → Heap → Prop) (H : t73 Try.prog g0_1 h K) : callM Try.prog 73 #[g0_1] h K :=
  callM_of_wpA mixed (fn := Try.f73) Try.func73 (c := bodyOf Try.f73) rfl (of_decide_eq_true (by kernel_rfl)) (anOf [(122, [15])]) 29 30 (by kernel_rfl) rfl [.tmp 2] (by kernel_rfl) (args := [g0_1]) (by rw [e73]; exact H)

/-! spec.trDet -/
def t84 (P : Program) (m0_1 : Value) (h : Heap) (K : Value → Heap → Prop) : Prop :=
  pop P (lenS 22 3 m0_1) fun t11_1 =>
  pop P (binE .eql 3 (.tmp 11) (.const (Value.int IntKind.i64 0)) t11_1 (Value.int IntKind.i64 0)) fun t12_1 =>
  condM t12_1
  (K (Value.int IntKind.i64 1) h)
  (pop P (Instr.indexAt 22 m0_1 (Value.int IntKind.i64 0)) fun t14_1 =>
  rop P (Instr.loadAt 27 t14_1) h fun t15_1 =>
  pop P (lenS 27 3 t15_1) fun t16_1 =>
  ∃ (I_1 : List Value → Heap → Prop) (μ_1 : List Value → Heap → Nat), I_1 [(Value.int IntKind.i64 0), (Value.int IntKind.i64 1), (Value.int IntKind.i64 0)] h ∧
  ∀ (junk_1 : Nat → Value) (sum3_1 : Value) (sign4_1 : Value) (t17_1 : Value) (h_1 : Heap), I_1 [sum3_1, sign4_1, t17_1] h_1 →
  pop P (binA .lss 3 t17_1 t16_1) fun t18_1 =>
  condM t18_1
  (pop P (Instr.indexAt 27 t15_1 t17_1) fun t20_1 =>
  rop P (Instr.loadAt 3 t20_1) h_1 fun t21_1 =>
  ∃ J_1 : List Value → Heap → Prop, (pop P (binE .neq 3 (.tmp 22) (.const (Value.int IntKind.i64 0)) t21_1 (Value.int IntKind.i64 0)) fun t23_1 =>
  condM t23_1
  (pop P (Instr.sliceAt 22 m0_1 (some (Value.int IntKind.i64 1)) none none) fun t25_1 =>
  pop P (lenS 22 3 t25_1) fun t26_1 =>
  ∃ (I_2 : List Value → Heap → Prop) (μ_2 : List Value → Heap → Nat), I_2 [(Value.slice none 0 0), (Value.int IntKind.i64 0)] h_1 ∧
  ∀ (junk_2 : Nat → Value) (rest7_1 : Value) (t27_1 : Value) (h_2 : Heap), I_2 [rest7_1, t27_1] h_2 →
  pop P (binA .lss 3 t27_1 t26_1) fun t28_1 =>
  condM t28_1
  (pop P (Instr.indexAt 22 t25_1 t27_1) fun t29_1 =>
  rop P (Instr.loadAt 27 t29_1) h_2 fun t30_1 =>
  pop P (Instr.sliceAt 27 t30_1 none (some t17_1) none) fun t34_1 =>
  pop P (binA .add 3 t17_1 (Value.int IntKind.i64 1)) fun t38_1 =>
  pop P (Instr.sliceAt 27 t30_1 (some t38_1) none none) fun t39_1 =>
  callM P 87 #[t34_1] h_2 fun t35_1 h_3 =>
  eop P (appS 27 27 27 t35_1 t39_1) h_3 fun t40_1 h_4 =>
  eop P (Instr.buildSlice 22 1 #[(0, t40_1)]) h_4 fun t41_1 h_5 =>
  eop P (appS 22 22 22 rest7_1 t41_1) h_5 fun t42_1 h_6 =>
  pop P (binA .add 3 t27_1 (Value.int IntKind.i64 1)) fun t43_1 =>
  I_2 [t42_1, t43_1] h_6 ∧ μ_2 [t42_1, t43_1] h_6 < μ_2 [rest7_1, t27_1] h_2)
  (pop P (binA .mul 3 sign4_1 t21_1) fun t47_1 =>
  callM P 84 #[rest7_1] h_2 fun t49_1 h_7 =>
  pop P (binA .mul 3 t47_1 t49_1) fun t50_1 =>
  pop P (binA .add 3 sum3_1 t50_1) fun t51_1 =>
  J_1 [t51_1] h_7))
  (J_1 [sum3_1] h_1)) ∧
  ∀ (junk_3 : Nat → Value) (sum3_2 : Value) (h_8 : Heap), J_1 [sum3_2] h_8 →
  pop P (Op.unary .neg sign4_1) fun t53_1 =>
  pop P (binA .add 3 t17_1 (Value.int IntKind.i64 1)) fun t54_1 =>
  I_1 [sum3_2, t53_1, t54_1] h_8 ∧ μ_1 [sum3_2, t53_1, t54_1] h_8 < μ_1 [sum3_1, sign4_1, t17_1] h_1)
  (K sum3_1 h_1))
theorem e84 (m0_1 : Value) (h : Heap) (K : Value → Heap → Prop) : wpA Try.prog 56 (anOf [(122, [3, 4, 17]), (7833, [3]), (1002666, [7, 27])]) (bodyOf Try.f84) 1 (fun A h => resA Try.prog A h K [.tmp 2]) (fun _ _ _ => False) (fun A h => resA Try.prog A h K [.tmp 2]) (aargs [m0_1] 0) h = t84 Try.prog m0_1 h K := by kernel_rfl
theorem c84 (m0_1 : Value) (h : Heap) (K : Value → Heap → Prop) (H : t84 Try.prog m0_1 h K) : callM Try.prog 84 #[m0_1] h K :=
  callM_of_wpA mixed (fn := Try.f84) Try.func84 (c := bodyOf Try.f84) rfl (of_decide_eq_true (by kernel_rfl)) (anOf [(122, [3, 4, 17]), (7833, [3]), (1002666, [7, 27])]) 55 56 (by kernel_rfl) rfl [.tmp 2] (by kernel_rfl) (args := [m0_1]) (by rw [e84]; exact H)

/-! spec.trLaplace -/
def t85 (P : Program) (g0_1 : Value) (sink1_1 : Value) (h : Heap) (K : Value → Heap → Prop) : Prop :=
  eop P (Instr.box 32 g0_1) h fun g2_1 h_1 =>
  pop P (Instr.fieldAt 32 g2_1 0) fun t11_1 =>
  rop P (Instr.loadAt 22 t11_1) h_1 fun t12_1 =>
  pop P (lenS 22 3 t12_1) fun t13_1 =>
  ∃ (I_1 : List Value → Heap → Prop) (μ_1 : List Value → Heap → Nat), I_1 [(Value.slice none 0 0), (Value.int IntKind.i64 0)] h_1 ∧
  ∀ (junk_1 : Nat → Value) (out5_1 : Value) (t14_1 : Value) (h_2 : Heap), I_1 [out5_1, t14_1] h_2 →
  pop P (binA .lss 3 t14_1 t13_1) fun t15_1 =>
  condM t15_1
  (pop P (Instr.indexAt 22 t12_1 t14_1) fun t17_1 =>
  rop P (Instr.loadAt 27 t17_1) h_2 fun t18_1 =>
  pop P (binE .eql 3 (.tmp 19) (.tmp 20) t14_1 sink1_1) fun t21_1 =>
  condM t21_1
  (pop P (binA .add 3 t14_1 (Value.int IntKind.i64 1)) fun t56_1 =>
  I_1 [out5_1, t56_1] h_2 ∧ μ_1 [out5_1, t56_1] h_2 < μ_1 [out5_1, t14_1] h_2)
  (pop P (Instr.fieldAt 32 g2_1 0) fun t22_1 =>
  rop P (Instr.loadAt 22 t22_1) h_2 fun t23_1 =>
  pop P (lenS 22 3 t23_1) fun t24_1 =>
  eop P (Instr.makeSlice 27 t24_1 t24_1) h_2 fun t25_1 h_3 =>
  pop P (lenS 27 3 t18_1) fun t29_1 =>
  pop P (Instr.indexAt 27 t25_1 t14_1) fun t30_1 =>
  uop P (Instr.storeAt 3 t30_1 t29_1) h_3 fun u_1 h_4 =>
  pop P (lenS 27 3 t18_1) fun t32_1 =>
  ∃ (I_2 : List Value → Heap → Prop) (μ_2 : List Value → Heap → Nat), I_2 [(Value.int IntKind.i64 0)] h_4 ∧
  ∀ (junk_2 : Nat → Value) (t33_1 : Value) (h_5 : Heap), I_2 [t33_1] h_5 →
  pop P (binA .lss 3 t33_1 t32_1) fun t34_1 =>
  condM t34_1
  (pop P (Instr.indexAt 27 t18_1 t33_1) fun t35_1 =>
  rop P (Instr.loadAt 3 t35_1) h_5 fun t36_1 =>
  pop P (Instr.indexAt 27 t25_1 t36_1) fun t39_1 =>
  rop P (Instr.loadAt 3 t39_1) h_5 fun t40_1 =>
  pop P (binA .sub 3 t40_1 (Value.int IntKind.i64 1)) fun t41_1 =>
  pop P (Instr.indexAt 27 t25_1 t36_1) fun t42_1 =>
  uop P (Instr.storeAt 3 t42_1 t41_1) h_5 fun u_2 h_6 =>
  pop P (binA .add 3 t33_1 (Value.int IntKind.i64 1)) fun t43_1 =>
  I_2 [t43_1] h_6 ∧ μ_2 [t43_1] h_6 < μ_2 [t33_1] h_5)
  (pop P (Instr.sliceAt 27 t25_1 none (some sink1_1) none) fun t47_1 =>
  pop P (binA .add 3 sink1_1 (Value.int IntKind.i64 1)) fun t51_1 =>
  pop P (Instr.sliceAt 27 t25_1 (some t51_1) none none) fun t52_1 =>
  callM P 87 #[t47_1] h_5 fun t48_1 h_7 =>
  eop P (appS 27 27 27 t48_1 t52_1) h_7 fun t53_1 h_8 =>
  eop P (Instr.buildSlice 22 1 #[(0, t53_1)]) h_8 fun t54_1 h_9 =>
  eop P (appS 22 22 22 out5_1 t54_1) h_9 fun t55_1 h_10 =>
  pop P (binA .add 3 t14_1 (Value.int IntKind.i64 1)) fun t56_2 =>
  I_1 [t55_1, t56_2] h_10 ∧ μ_1 [t55_1, t56_2] h_10 < μ_1 [out5_1, t14_1] h_2)))
  (K out5_1 h_2)
theorem e85 (g0_1 : Value) (sink1_1 : Value) (h : Heap) (K : Value → Heap → Prop) : wpA Try.prog 58 (anOf [(58, [5, 14]), (239226, [33])]) (bodyOf Try.f85) 1 (fun A h => resA Try.prog A h K [.tmp 4]) (fun _ _ _ => False) (fun A h => resA Try.prog A h K [.tmp 4]) (aargs [g0_1, sink1_1] 0) h = t85 Try.prog g0_1 sink1_1 h K := by kernel_rfl
theorem c85 (g0_1 : Value) (sink1_1 : Value) (h : Heap) (K : Value → Heap → Prop) (H : t85 Try.prog g0_1 sink1_1 h K) : callM Try.prog 85 #[g0_1, sink1_1] h K :=
  callM_of_wpA mixed (fn := Try.f85) Try.func85 (c := bodyOf Try.f85) rfl (of_decide_eq_true (by kernel_rfl)) (anOf [(58, [5, 14]), (239226, [33])]) 56 58 (by kernel_rfl) rfl [.tmp 4] (by kernel_rfl) (args := [g0_1, sink1_1]) (by rw [e85]; exact H)

/-! spec.trAll -/
def t86 (P : Program) (g0_1 : Value) (sink1_1 : Value) (most2_1 : Value) (h : Heap) (K : Value → Heap → Prop) : Prop :=
  eop P (Instr.box 32 g0_1) h fun g3_1 h_1 =>
  rop P (Instr.loadAt 32 g3_1) h_1 fun t8_1 =>
  pop P (Instr.fieldAt 32 g3_1 0) fun t10_1 =>
  rop P (Instr.loadAt 22 t10_1) h_1 fun t11_1 =>
  pop P (lenS 22 3 t11_1) fun t12_1 =>
  eop P (Instr.makeSlice 27 t12_1 t12_1) h_1 fun t13_1 h_2 =>
  (∀ w : World, w.heap = h_2 → (Instr.loadAt 22 t10_1).run P w = .ok t11_1 w) ∧
  (∀ w : World, w.heap = h_2 → (Instr.loadAt 32 g3_1).run P w = .ok t8_1 w) ∧
  pop P (Instr.build 123 #[(0, t8_1), (1, sink1_1), (2, t13_1), (4, most2_1)]) fun t15_1 =>
  eop P (Instr.box 123 t15_1) h_2 fun t16_1 h_3 =>
  (∀ w : World, w.heap = h_3 → (Instr.loadAt 22 t10_1).run P w = .ok t11_1 w) ∧
  (∀ w : World, w.heap = h_3 → (Instr.loadAt 32 g3_1).run P w = .ok t8_1 w) ∧
  callM P 115 #[t16_1, (Value.int IntKind.i64 0)] h_3 fun t18_1 h_4 =>
  pop P (nilS t16_1) fun t20_1 =>
  pop P (Instr.fieldAt 123 t20_1 3) fun t21_1 =>
  rop P (Instr.loadAt 22 t21_1) h_4 fun t22_1 =>
  K t22_1 h_4
theorem e86 (g0_1 : Value) (sink1_1 : Value) (most2_1 : Value) (h : Heap) (K : Value → Heap → Prop) : wpA Try.prog 23 (anOf []) (bodyOf Try.f86) 1 (fun A h => resA Try.prog A h K [.tmp 6]) (fun _ _ _ => False) (fun A h => resA Try.prog A h K [.tmp 6]) (aargs [g0_1, sink1_1, most2_1] 0) h = t86 Try.prog g0_1 sink1_1 most2_1 h K := by kernel_rfl
theorem c86 (g0_1 : Value) (sink1_1 : Value) (most2_1 : Value) (h : Heap) (K : Value → Heap → Prop) (H : t86 Try.prog g0_1 sink1_1 most2_1 h K) : callM Try.prog 86 #[g0_1, sink1_1, most2_1] h K :=
  callM_of_wpA mixed (fn := Try.f86) Try.func86 (c := bodyOf Try.f86) rfl (of_decide_eq_true (by kernel_rfl)) (anOf []) 20 23 (by kernel_rfl) rfl [.tmp 6] (by kernel_rfl) (args := [g0_1, sink1_1, most2_1]) (by rw [e86]; exact H)

/-! spec.l1Own -/
def t87 (P : Program) (l0_1 : Value) (h : Heap) (K : Value → Heap → Prop) : Prop :=
  eop P (Instr.buildSlice 27 0 #[]) h fun t3_1 h_1 =>
  eop P (appS 27 27 27 t3_1 l0_1) h_1 fun t5_1 h_2 =>
  K t5_1 h_2
theorem e87 (l0_1 : Value) (h : Heap) (K : Value → Heap → Prop) : wpA Try.prog 6 (anOf []) (bodyOf Try.f87) 1 (fun A h => resA Try.prog A h K [.tmp 2]) (fun _ _ _ => False) (fun A h => resA Try.prog A h K [.tmp 2]) (aargs [l0_1] 0) h = t87 Try.prog l0_1 h K := by kernel_rfl
theorem c87 (l0_1 : Value) (h : Heap) (K : Value → Heap → Prop) (H : t87 Try.prog l0_1 h K) : callM Try.prog 87 #[l0_1] h K :=
  callM_of_wpA mixed (fn := Try.f87) Try.func87 (c := bodyOf Try.f87) rfl (of_decide_eq_true (by kernel_rfl)) (anOf []) 5 6 (by kernel_rfl) rfl [.tmp 2] (by kernel_rfl) (args := [l0_1]) (by rw [e87]; exact H)

/-! spec.trLess -/
def t88 (P : Program) (a0_1 : Value) (b1_1 : Value) (h : Heap) (K : Value → Heap → Prop) : Prop :=
  pop P (lenS 27 3 a0_1) fun t8_1 =>
  ∃ (I_1 : List Value → Heap → Prop) (μ_1 : List Value → Heap → Nat), I_1 [(Value.int IntKind.i64 0)] h ∧
  ∀ (junk_1 : Nat → Value) (t9_1 : Value) (h_1 : Heap), I_1 [t9_1] h_1 →
  pop P (binA .lss 3 t9_1 t8_1) fun t10_1 =>
  condM t10_1
  (pop P (Instr.indexAt 27 a0_1 t9_1) fun t12_1 =>
  rop P (Instr.loadAt 3 t12_1) h_1 fun t13_1 =>
  pop P (Instr.indexAt 27 b1_1 t9_1) fun t17_1 =>
  rop P (Instr.loadAt 3 t17_1) h_1 fun t18_1 =>
  pop P (binE .neq 3 (.tmp 14) (.tmp 18) t13_1 t18_1) fun t19_1 =>
  condM t19_1
  (pop P (Instr.indexAt 27 b1_1 t9_1) fun t23_1 =>
  rop P (Instr.loadAt 3 t23_1) h_1 fun t24_1 =>
  pop P (binA .lss 3 t13_1 t24_1) fun t25_1 =>
  K t25_1 h_1)
  (pop P (binA .add 3 t9_1 (Value.int IntKind.i64 1)) fun t26_1 =>
  I_1 [t26_1] h_1 ∧ μ_1 [t26_1] h_1 < μ_1 [t9_1] h_1))
  (K (Value.bool false) h_1)
theorem e88 (a0_1 : Value) (b1_1 : Value) (h : Heap) (K : Value → Heap → Prop) : wpA Try.prog 27 (anOf [(26, [9])]) (bodyOf Try.f88) 1 (fun A h => resA Try.prog A h K [.tmp 4]) (fun _ _ _ => False) (fun A h => resA Try.prog A h K [.tmp 4]) (aargs [a0_1, b1_1] 0) h = t88 Try.prog a0_1 b1_1 h K := by kernel_rfl
theorem c88 (a0_1 : Value) (b1_1 : Value) (h : Heap) (K : Value → Heap → Prop) (H : t88 Try.prog a0_1 b1_1 h K) : callM Try.prog 88 #[a0_1, b1_1] h K :=
  callM_of_wpA mixed (fn := Try.f88) Try.func88 (c := bodyOf Try.f88) rfl (of_decide_eq_true (by kernel_rfl)) (anOf [(26, [9])]) 25 27 (by kernel_rfl) rfl [.tmp 4] (by kernel_rfl) (args := [a0_1, b1_1]) (by rw [e88]; exact H)

/-! impl.countUnicycles -/
def t89 (P : Program) (g0_1 : Value) (p1_1 : Value) (h : Heap) (K : Value → Heap → Prop) : Prop :=
  eop P (Instr.box 32 g0_1) h fun g2_1 h_1 =>
  rop P (Instr.loadAt 32 g2_1) h_1 fun t5_1 =>
  pop P (Instr.fieldAt 32 g2_1 0) fun t9_1 =>
  rop P (Instr.loadAt 22 t9_1) h_1 fun t10_1 =>
  pop P (Instr.indexAt 22 t10_1 p1_1) fun t12_1 =>
  rop P (Instr.loadAt 27 t12_1) h_1 fun t13_1 =>
  pop P (lenS 27 3 t13_1) fun t14_1 =>
  callM P 117 #[t5_1, p1_1] h_1 fun t7_1 h_2 =>
  (∀ w : World, w.heap = h_2 → (Instr.loadAt 27 t12_1).run P w = .ok t13_1 w) ∧
  (∀ w : World, w.heap = h_2 → (Instr.loadAt 22 t9_1).run P w = .ok t10_1 w) ∧
  callM P 116 #[t7_1] h_2 fun t8_1 h_3 =>
  (∀ w : World, w.heap = h_3 → (Instr.loadAt 27 t12_1).run P w = .ok t13_1 w) ∧
  (∀ w : World, w.heap = h_3 → (Instr.loadAt 22 t9_1).run P w = .ok t10_1 w) ∧
  pop P (binA .mul 3 t8_1 t14_1) fun t15_1 =>
  K t15_1 h_3
theorem e89 (g0_1 : Value) (p1_1 : Value) (h : Heap) (K : Value → Heap → Prop) : wpA Try.prog 16 (anOf []) (bodyOf Try.f89) 1 (fun A h => resA Try.prog A h K [.tmp 4]) (fun _ _ _ => False) (fun A h => resA Try.prog A h K [.tmp 4]) (aargs [g0_1, p1_1] 0) h = t89 Try.prog g0_1 p1_1 h K := by kernel_rfl
theorem c89 (g0_1 : Value) (p1_1 : Value) (h : Heap) (K : Value → Heap → Prop) (H : t89 Try.prog g0_1 p1_1 h K) : callM Try.prog 89 #[g0_1, p1_1] h K :=
  callM_of_wpA mixed (fn := Try.f89) Try.func89 (c := bodyOf Try.f89) rfl (of_decide_eq_true (by kernel_rfl)) (anOf []) 14 16 (by kernel_rfl) rfl [.tmp 4] (by kernel_rfl) (args := [g0_1, p1_1]) (by rw [e89]; exact H)

/-! (impl.Graph).allRotors -/
def t90 (P : Program) (g0_1 : Value) (still1_1 : Value) (with2_1 : Value) (h : Heap) (K : Value → Heap → Prop) : Prop :=
  eop P (Instr.box 32 g0_1) h fun g3_1 h_1 =>
  pop P (Instr.fieldAt 32 g3_1 0) fun t8_1 =>
  rop P (Instr.loadAt 22 t8_1) h_1 fun t9_1 =>
  pop P (lenS 22 3 t9_1) fun t10_1 =>
  eop P (Instr.makeSlice 27 t10_1 t10_1) h_1 fun t11_1 h_2 =>
  ∃ (I_1 : List Value → Heap → Prop) (μ_1 : List Value → Heap → Nat), I_1 [] h_2 ∧
  ∀ (junk_1 : Nat → Value) (h_3 : Heap), I_1 [] h_3 →
  callV P with2_1 [t11_1] h_3 fun t14_1 h_4 =>
  pop P (Op.unary .not t14_1) fun t15_1 =>
  condM t15_1
  (K (.tuple #[]) h_4)
  (pop P (lenS 27 3 t11_1) fun t17_1 =>
  pop P (binA .sub 3 t17_1 (Value.int IntKind.i64 1)) fun t18_1 =>
  ∃ (I_2 : List Value → Heap → Prop) (μ_2 : List Value → Heap → Nat), I_2 [t18_1] h_4 ∧
  ∀ (junk_2 : Nat → Value) (p7_1 : Value) (h_5 : Heap), I_2 [p7_1] h_5 →
  pop P (binA .geq 3 p7_1 (Value.int IntKind.i64 0)) fun t20_1 =>
  guardM (asG t20_1 true) true (fun k_1 => k_1 p7_1 h_5) h_5 fun t22_1 h_6 =>
  guardM (asG t20_1 true) true (fun k_2 => k_2 still1_1 h_6) h_6 fun t23_1 h_7 =>
  guardM (asG t20_1 true) true (fun k_3 => pop P (binE .eql 3 (.tmp 22) (.tmp 23) t22_1 t23_1) fun t24_1 =>
  k_3 t24_1 h_7) h_7 fun t24_2 h_8 =>
  guardM (asG t20_1 true) true (fun k_4 => k_4 t24_2 h_8) h_8 fun t25_1 h_9 =>
  guardM (asG t25_1 false) false (fun k_5 => k_5 t11_1 h_9) h_9 fun t26_1 h_10 =>
  guardM (asG t25_1 false) false (fun k_6 => k_6 p7_1 h_10) h_10 fun t27_1 h_11 =>
  guardM (asG t25_1 false) false (fun k_7 => pop P (Instr.indexAt 27 t26_1 t27_1) fun t28_1 =>
  k_7 t28_1 h_11) h_11 fun t28_2 h_12 =>
  guardM (asG t25_1 false) false (fun k_8 => rop P (Instr.loadAt 3 t28_2) h_12 fun t29_1 =>
  k_8 t29_1 h_12) h_12 fun t29_2 h_13 =>
  guardM (asG t25_1 false) false (fun k_9 => pop P (Instr.fieldAt 32 g3_1 0) fun t30_1 =>
  k_9 t30_1 h_13) h_13 fun t30_2 h_14 =>
  guardM (asG t25_1 false) false (fun k_10 => rop P (Instr.loadAt 22 t30_2) h_14 fun t31_1 =>
  k_10 t31_1 h_14) h_14 fun t31_2 h_15 =>
  guardM (asG t25_1 false) false (fun k_11 => k_11 p7_1 h_15) h_15 fun t32_1 h_16 =>
  guardM (asG t25_1 false) false (fun k_12 => pop P (Instr.indexAt 22 t31_2 t32_1) fun t33_1 =>
  k_12 t33_1 h_16) h_16 fun t33_2 h_17 =>
  guardM (asG t25_1 false) false (fun k_13 => rop P (Instr.loadAt 27 t33_2) h_17 fun t34_1 =>
  k_13 t34_1 h_17) h_17 fun t34_2 h_18 =>
  guardM (asG t25_1 false) false (fun k_14 => pop P (lenS 27 3 t34_2) fun t35_1 =>
  k_14 t35_1 h_18) h_18 fun t35_2 h_19 =>
  guardM (asG t25_1 false) false (fun k_15 => pop P (binA .sub 3 t35_2 (Value.int IntKind.i64 1)) fun t36_1 =>
  k_15 t36_1 h_19) h_19 fun t36_2 h_20 =>
  guardM (asG t25_1 false) false (fun k_16 => pop P (binA .geq 3 t29_2 t36_2) fun t37_1 =>
  k_16 t37_1 h_20) h_20 fun t37_2 h_21 =>
  guardM (asG t20_1 true) true (fun k_17 => pop P (pickS t25_1 (Value.bool true) t37_2) fun t38_1 =>
  k_17 t38_1 h_21) h_21 fun t38_2 h_22 =>
  pop P (pickS t20_1 t38_2 (Value.bool false)) fun t39_1 =>
  condM t39_1
  (pop P (Instr.indexAt 27 t11_1 p7_1) fun t42_1 =>
  uop P (Instr.storeAt 3 t42_1 (Value.int IntKind.i64 0)) h_22 fun u_1 h_23 =>
  pop P (binA .sub 3 p7_1 (Value.int IntKind.i64 1)) fun t44_1 =>
  I_2 [t44_1] h_23 ∧ μ_2 [t44_1] h_23 < μ_2 [p7_1] h_5)
  (pop P (binA .lss 3 p7_1 (Value.int IntKind.i64 0)) fun t46_1 =>
  condM t46_1
  (K (.tuple #[]) h_22)
  (pop P (Instr.indexAt 27 t11_1 p7_1) fun t49_1 =>
  rop P (Instr.loadAt 3 t49_1) h_22 fun t50_1 =>
  pop P (binA .add 3 t50_1 (Value.int IntKind.i64 1)) fun t51_1 =>
  pop P (Instr.indexAt 27 t11_1 p7_1) fun t52_1 =>
  uop P (Instr.storeAt 3 t52_1 t51_1) h_22 fun u_2 h_24 =>
  I_1 [] h_24 ∧ μ_1 [] h_24 < μ_1 [] h_3)))
theorem e90 (g0_1 : Value) (still1_1 : Value) (with2_1 : Value) (h : Heap) (K : Value → Heap → Prop) : wpA Try.prog 53 (anOf [(14, []), (908, [7])]) (bodyOf Try.f90) 1 (fun A h => resA Try.prog A h K []) (fun _ _ _ => False) (fun A h => resA Try.prog A h K []) (aargs [g0_1, still1_1, with2_1] 0) h = t90 Try.prog g0_1 still1_1 with2_1 h K := by kernel_rfl
theorem c90 (g0_1 : Value) (still1_1 : Value) (with2_1 : Value) (h : Heap) (K : Value → Heap → Prop) (H : t90 Try.prog g0_1 still1_1 with2_1 h K) : callM Try.prog 90 #[g0_1, still1_1, with2_1] h K :=
  callM_of_wpA mixed (fn := Try.f90) Try.func90 (c := bodyOf Try.f90) rfl (of_decide_eq_true (by kernel_rfl)) (anOf [(14, []), (908, [7])]) 50 53 (by kernel_rfl) rfl [] (by kernel_rfl) (args := [g0_1, still1_1, with2_1]) (by rw [e90]; exact H)

/-! impl.AllUnicycles$1 -/
def t91 (P : Program) (rotors0_1 : Value) (t1_1 : Value) (t2_1 : Value) (t3_1 : Value) (h : Heap) (K : Value → Heap → Prop) : Prop :=
  rop P (Instr.loadAt 3 t1_1) h fun t8_1 =>
  pop P (Instr.build 101 #[(0, rotors0_1), (1, t8_1)]) fun t9_1 =>
  eop P (Instr.alloc 101 true (.tuple #[])) h fun w6_1 h_1 =>
  uop P (Instr.storeAt 101 w6_1 t9_1) h_1 fun u_1 h_2 =>
  rop P (Instr.loadAt 32 t2_1) h_2 fun t10_1 =>
  rop P (Instr.loadAt 101 w6_1) h_2 fun t11_1 =>
  callM P 92 #[t10_1, t11_1] h_2 fun t12_1 h_3 =>
  condM t12_1
  (rop P (Instr.loadAt 67 t3_1) h_3 fun t13_1 =>
  rop P (Instr.loadAt 101 w6_1) h_3 fun t14_1 =>
  callM P 93 #[t14_1] h_3 fun t15_1 h_4 =>
  (∀ w : World, w.heap = h_4 → (Instr.loadAt 67 t3_1).run P w = .ok t13_1 w) ∧
  eop P (Instr.buildSlice 67 1 #[(0, t15_1)]) h_4 fun t16_1 h_5 =>
  (∀ w : World, w.heap = h_5 → (Instr.loadAt 67 t3_1).run P w = .ok t13_1 w) ∧
  eop P (appS 67 67 67 t13_1 t16_1) h_5 fun t17_1 h_6 =>
  uop P (Instr.storeAt 67 t3_1 t17_1) h_6 fun u_2 h_7 =>
  K (Value.bool true) h_7)
  (K (Value.bool true) h_3)
theorem e91 (rotors0_1 : Value) (t1_1 : Value) (t2_1 : Value) (t3_1 : Value) (h : Heap) (K : Value → Heap → Prop) : wpA Try.prog 18 (anOf []) (bodyOf Try.f91) 1 (fun A h => resA Try.prog A h K [.tmp 5]) (fun _ _ _ => False) (fun A h => resA Try.prog A h K [.tmp 5]) (aargs [rotors0_1, t1_1, t2_1, t3_1] 0) h = t91 Try.prog rotors0_1 t1_1 t2_1 t3_1 h K := by kernel_rfl
theorem c91 (rotors0_1 : Value) (t1_1 : Value) (t2_1 : Value) (t3_1 : Value) (h : Heap) (K : Value → Heap → Prop) (H : t91 Try.prog rotors0_1 t1_1 t2_1 t3_1 h K) : callM Try.prog 91 #[rotors0_1, t1_1, t2_1, t3_1] h K :=
  callM_of_wpA mixed (fn := Try.f91) Try.func91 (c := bodyOf Try.f91) rfl (of_decide_eq_true (by kernel_rfl)) (anOf []) 14 18 (by kernel_rfl) rfl [.tmp 5] (by kernel_rfl) (args := [rotors0_1, t1_1, t2_1, t3_1]) (by rw [e91]; exact H)

/-! (impl.Graph).isUnicycle -/
def t92 (P : Program) (g0_1 : Value) (w1_1 : Value) (h : Heap) (K : Value → Heap → Prop) : Prop :=
  eop P (Instr.box 32 g0_1) h fun g2_1 h_1 =>
  eop P (Instr.box 101 w1_1) h_1 fun w3_1 h_2 =>
  pop P (Instr.fieldAt 32 g2_1 0) fun t8_1 =>
  rop P (Instr.loadAt 22 t8_1) h_2 fun t9_1 =>
  pop P (lenS 22 3 t9_1) fun t10_1 =>
  ∃ (I_1 : List Value → Heap → Prop) (μ_1 : List Value → Heap → Nat), I_1 [(Value.int IntKind.i64 0)] h_2 ∧
  ∀ (junk_1 : Nat → Value) (t11_1 : Value) (h_3 : Heap), I_1 [t11_1] h_3 →
  pop P (binA .lss 3 t11_1 t10_1) fun t12_1 =>
  condM t12_1
  (rop P (Instr.loadAt 32 g2_1) h_3 fun t15_1 =>
  pop P (Instr.fieldAt 101 w3_1 0) fun t16_1 =>
  rop P (Instr.loadAt 27 t16_1) h_3 fun t17_1 =>
  callM P 118 #[t15_1, t17_1, t11_1] h_3 fun t19_1 h_4 =>
  pop P (Instr.extract t19_1 0) fun t20_1 =>
  pop P (Instr.extract t19_1 1) fun t21_1 =>
  pop P (Op.unary .not t21_1) fun t23_1 =>
  guardM (asG t23_1 false) false (fun k_1 => k_1 t20_1 h_4) h_4 fun t25_1 h_5 =>
  guardM (asG t23_1 false) false (fun k_2 => pop P (Instr.fieldAt 101 w3_1 1) fun t26_1 =>
  k_2 t26_1 h_5) h_5 fun t26_2 h_6 =>
  guardM (asG t23_1 false) false (fun k_3 => rop P (Instr.loadAt 3 t26_2) h_6 fun t27_1 =>
  k_3 t27_1 h_6) h_6 fun t27_2 h_7 =>
  guardM (asG t23_1 false) false (fun k_4 => callM P 72 #[t25_1, t27_2] h_7 fun t28_1 h_8 =>
  k_4 t28_1 h_8) h_7 fun t28_2 h_9 =>
  guardM (asG t23_1 false) false (fun k_5 => pop P (Op.unary .not t28_2) fun t29_1 =>
  k_5 t29_1 h_9) h_9 fun t29_2 h_10 =>
  pop P (pickS t23_1 (Value.bool true) t29_2) fun t30_1 =>
  condM t30_1
  (K (Value.bool false) h_10)
  (pop P (binA .add 3 t11_1 (Value.int IntKind.i64 1)) fun t31_1 =>
  I_1 [t31_1] h_10 ∧ μ_1 [t31_1] h_10 < μ_1 [t11_1] h_3))
  (K (Value.bool true) h_3)
theorem e92 (g0_1 : Value) (w1_1 : Value) (h : Heap) (K : Value → Heap → Prop) : wpA Try.prog 32 (anOf [(26, [11])]) (bodyOf Try.f92) 1 (fun A h => resA Try.prog A h K [.tmp 4]) (fun _ _ _ => False) (fun A h => resA Try.prog A h K [.tmp 4]) (aargs [g0_1, w1_1] 0) h = t92 Try.prog g0_1 w1_1 h K := by kernel_rfl
theorem c92 (g0_1 : Value) (w1_1 : Value) (h : Heap) (K : Value → Heap → Prop) (H : t92 Try.prog g0_1 w1_1 h K) : callM Try.prog 92 #[g0_1, w1_1] h K :=
  callM_of_wpA mixed (fn := Try.f92) Try.func92 (c := bodyOf Try.f92) rfl (of_decide_eq_true (by kernel_rfl)) (anOf [(26, [11])]) 30 32 (by kernel_rfl) rfl [.tmp 4] (by kernel_rfl) (args := [g0_1, w1_1]) (by rw [e92]; exact H)

/-! (impl.Walk).copied -/
def t93 (P : Program) (w0_1 : Value) (h : Heap) (K : Value → Heap → Prop) : Prop :=
  eop P (Instr.box 101 w0_1) h fun w1_1 h_1 =>
  eop P (Instr.alloc 101 true (.tuple #[])) h_1 fun t2_1 h_2 =>
  pop P (Instr.fieldAt 101 w1_1 0) fun t3_1 =>
  rop P (Instr.loadAt 27 t3_1) h_2 fun t4_1 =>
  pop P (Instr.fieldAt 101 w1_1 1) fun t6_1 =>
  rop P (Instr.loadAt 3 t6_1) h_2 fun t7_1 =>
  callM P 119 #[t4_1] h_2 fun t5_1 h_3 =>
  (∀ w : World, w.heap = h_3 → (Instr.loadAt 3 t6_1).run P w = .ok t7_1 w) ∧
  pop P (Instr.build 101 #[(0, t5_1), (1, t7_1)]) fun t8_1 =>
  uop P (Instr.storeAt 101 t2_1 t8_1) h_3 fun u_1 h_4 =>
  rop P (Instr.loadAt 101 t2_1) h_4 fun r_1 =>
  K r_1 h_4
theorem e93 (w0_1 : Value) (h : Heap) (K : Value → Heap → Prop) : wpA Try.prog 9 (anOf []) (bodyOf Try.f93) 1 (fun A h => resA Try.prog A h K [.cell 2 101]) (fun _ _ _ => False) (fun A h => resA Try.prog A h K [.cell 2 101]) (aargs [w0_1] 0) h = t93 Try.prog w0_1 h K := by kernel_rfl
theorem c93 (w0_1 : Value) (h : Heap) (K : Value → Heap → Prop) (H : t93 Try.prog w0_1 h K) : callM Try.prog 93 #[w0_1] h K :=
  callM_of_wpA mixed (fn := Try.f93) Try.func93 (c := bodyOf Try.f93) rfl (of_decide_eq_true (by kernel_rfl)) (anOf []) 8 9 (by kernel_rfl) rfl [.cell 2 101] (by kernel_rfl) (args := [w0_1]) (by rw [e93]; exact H)

/-! laws.eqWalk -/
def t94 (P : Program) (a0_1 : Value) (b1_1 : Value) (h : Heap) (K : Value → Heap → Prop) : Prop :=
  eop P (Instr.box 101 a0_1) h fun a2_1 h_1 =>
  eop P (Instr.box 101 b1_1) h_1 fun b3_1 h_2 =>
  pop P (Instr.fieldAt 101 a2_1 0) fun t5_1 =>
  rop P (Instr.loadAt 27 t5_1) h_2 fun t6_1 =>
  pop P (Instr.fieldAt 101 b3_1 0) fun t7_1 =>
  rop P (Instr.loadAt 27 t7_1) h_2 fun t8_1 =>
  callM P 14 #[t6_1, t8_1] h_2 fun t9_1 h_3 =>
  pop P (Op.unary .not t9_1) fun t10_1 =>
  condM t10_1
  (K (Value.bool false) h_3)
  (pop P (Instr.fieldAt 101 a2_1 1) fun t11_1 =>
  rop P (Instr.loadAt 3 t11_1) h_3 fun t12_1 =>
  pop P (Instr.fieldAt 101 b3_1 1) fun t13_1 =>
  rop P (Instr.loadAt 3 t13_1) h_3 fun t14_1 =>
  pop P (binE .neq 3 (.tmp 12) (.tmp 14) t12_1 t14_1) fun t15_1 =>
  condM t15_1
  (K (Value.bool false) h_3)
  (K (Value.bool true) h_3))
theorem e94 (a0_1 : Value) (b1_1 : Value) (h : Heap) (K : Value → Heap → Prop) : wpA Try.prog 16 (anOf []) (bodyOf Try.f94) 1 (fun A h => resA Try.prog A h K [.tmp 4]) (fun _ _ _ => False) (fun A h => resA Try.prog A h K [.tmp 4]) (aargs [a0_1, b1_1] 0) h = t94 Try.prog a0_1 b1_1 h K := by kernel_rfl
theorem c94 (a0_1 : Value) (b1_1 : Value) (h : Heap) (K : Value → Heap → Prop) (H : t94 Try.prog a0_1 b1_1 h K) : callM Try.prog 94 #[a0_1, b1_1] h K :=
  callM_of_wpA mixed (fn := Try.f94) Try.func94 (c := bodyOf Try.f94) rfl (of_decide_eq_true (by kernel_rfl)) (anOf []) 14 16 (by kernel_rfl) rfl [.tmp 4] (by kernel_rfl) (args := [a0_1, b1_1]) (by rw [e94]; exact H)

/-! laws.szIntS -/
def t95 (P : Program) (a0_1 : Value) (left1_1 : Value) (h : Heap) (K : Value → Heap → Prop) : Prop :=
  pop P (lenS 27 3 a0_1) fun t7_1 =>
  pop P (binA .sub 3 left1_1 t7_1) fun t8_1 =>
  pop P (binA .lss 3 t8_1 (Value.int IntKind.i64 0)) fun t10_1 =>
  condM t10_1
  (K (Value.int IntKind.i64 (-1)) h)
  (K t8_1 h)
theorem e95 (a0_1 : Value) (left1_1 : Value) (h : Heap) (K : Value → Heap → Prop) : wpA Try.prog 12 (anOf []) (bodyOf Try.f95) 1 (fun A h => resA Try.prog A h K [.tmp 4]) (fun _ _ _ => False) (fun A h => resA Try.prog A h K [.tmp 4]) (aargs [a0_1, left1_1] 0) h = t95 Try.prog a0_1 left1_1 h K := by kernel_rfl
theorem c95 (a0_1 : Value) (left1_1 : Value) (h : Heap) (K : Value → Heap → Prop) (H : t95 Try.prog a0_1 left1_1 h K) : callM Try.prog 95 #[a0_1, left1_1] h K :=
  callM_of_wpA mixed (fn := Try.f95) Try.func95 (c := bodyOf Try.f95) rfl (of_decide_eq_true (by kernel_rfl)) (anOf []) 10 12 (by kernel_rfl) rfl [.tmp 4] (by kernel_rfl) (args := [a0_1, left1_1]) (by rw [e95]; exact H)

/-! spec.l1All -/
def t96 (P : Program) (l0_1 : Value) (lo1_1 : Value) (hi2_1 : Value) (h : Heap) (K : Value → Heap → Prop) : Prop :=
  pop P (lenS 27 3 l0_1) fun t10_1 =>
  ∃ (I_1 : List Value → Heap → Prop) (μ_1 : List Value → Heap → Nat), I_1 [(Value.int IntKind.i64 0)] h ∧
  ∀ (junk_1 : Nat → Value) (t11_1 : Value) (h_1 : Heap), I_1 [t11_1] h_1 →
  pop P (binA .lss 3 t11_1 t10_1) fun t12_1 =>
  condM t12_1
  (pop P (Instr.indexAt 27 l0_1 t11_1) fun t13_1 =>
  rop P (Instr.loadAt 3 t13_1) h_1 fun t14_1 =>
  callM P 113 #[t14_1, lo1_1, hi2_1] h_1 fun t18_1 h_2 =>
  pop P (Op.unary .not t18_1) fun t19_1 =>
  condM t19_1
  (K (Value.bool false) h_2)
  (pop P (binA .add 3 t11_1 (Value.int IntKind.i64 1)) fun t20_1 =>
  I_1 [t20_1] h_2 ∧ μ_1 [t20_1] h_2 < μ_1 [t11_1] h_1))
  (K (Value.bool true) h_1)
theorem e96 (l0_1 : Value) (lo1_1 : Value) (hi2_1 : Value) (h : Heap) (K : Value → Heap → Prop) : wpA Try.prog 21 (anOf [(26, [11])]) (bodyOf Try.f96) 1 (fun A h => resA Try.prog A h K [.tmp 6]) (fun _ _ _ => False) (fun A h => resA Try.prog A h K [.tmp 6]) (aargs [l0_1, lo1_1, hi2_1] 0) h = t96 Try.prog l0_1 lo1_1 hi2_1 h K := by kernel_rfl
theorem c96 (l0_1 : Value) (lo1_1 : Value) (hi2_1 : Value) (h : Heap) (K : Value → Heap → Prop) (H : t96 Try.prog l0_1 lo1_1 hi2_1 h K) : callM Try.prog 96 #[l0_1, lo1_1, hi2_1] h K :=
  callM_of_wpA mixed (fn := Try.f96) Try.func96 (c := bodyOf Try.f96) rfl (of_decide_eq_true (by kernel_rfl)) (anOf [(26, [11])]) 18 21 (by kernel_rfl) rfl [.tmp 6] (by kernel_rfl) (args := [l0_1, lo1_1, hi2_1]) (by rw [e96]; exact H)

/-! impl.in -/
def t102 (P : Program) (n0_1 : Value) (low1_1 : Value) (high2_1 : Value) (h : Heap) (K : Value → Heap → Prop) : Prop :=
  pop P (binA .leq 3 low1_1 n0_1) fun t9_1 =>
  guardM (asG t9_1 true) true (fun k_1 => k_1 n0_1 h) h fun t11_1 h_1 =>
  guardM (asG t9_1 true) true (fun k_2 => k_2 high2_1 h_1) h_1 fun t12_1 h_2 =>
  guardM (asG t9_1 true) true (fun k_3 => pop P (binA .leq 3 t11_1 t12_1) fun t13_1 =>
  k_3 t13_1 h_2) h_2 fun t13_2 h_3 =>
  pop P (pickS t9_1 t13_2 (Value.bool false)) fun t14_1 =>
  K t14_1 h_3
theorem e102 (n0_1 : Value) (low1_1 : Value) (high2_1 : Value) (h : Heap) (K : Value → Heap → Prop) : wpA Try.prog 15 (anOf []) (bodyOf Try.f102) 1 (fun A h => resA Try.prog A h K [.tmp 6]) (fun _ _ _ => False) (fun A h => resA Try.prog A h K [.tmp 6]) (aargs [n0_1, low1_1, high2_1] 0) h = t102 Try.prog n0_1 low1_1 high2_1 h K := by kernel_rfl
theorem c102 (n0_1 : Value) (low1_1 : Value) (high2_1 : Value) (h : Heap) (K : Value → Heap → Prop) (H : t102 Try.prog n0_1 low1_1 high2_1 h K) : callM Try.prog 102 #[n0_1, low1_1, high2_1] h K :=
  callM_of_wpA mixed (fn := Try.f102) Try.func102 (c := bodyOf Try.f102) rfl (of_decide_eq_true (by kernel_rfl)) (anOf []) 12 15 (by kernel_rfl) rfl [.tmp 6] (by kernel_rfl) (args := [n0_1, low1_1, high2_1]) (by rw [e102]; exact H)

/-! slices.ContainsFunc[[]int,int] -/
def t103 (P : Program) (s0_1 : Value) (f1_1 : Value) (h : Heap) (K : Value → Heap → Prop) : Prop :=
  callM P 121 #[s0_1, f1_1] h fun t7_1 h_1 =>
  pop P (binA .geq 3 t7_1 (Value.int IntKind.i64 0)) fun t8_1 =>
  K t8_1 h_1
theorem e103 (s0_1 : Value) (f1_1 : Value) (h : Heap) (K : Value → Heap → Prop) : wpA Try.prog 9 (anOf []) (bodyOf Try.f103) 1 (fun A h => resA Try.prog A h K [.tmp 4]) (fun _ _ _ => False) (fun A h => resA Try.prog A h K [.tmp 4]) (aargs [s0_1, f1_1] 0) h = t103 Try.prog s0_1 f1_1 h K := by kernel_rfl
theorem c103 (s0_1 : Value) (f1_1 : Value) (h : Heap) (K : Value → Heap → Prop) (H : t103 Try.prog s0_1 f1_1 h K) : callM Try.prog 103 #[s0_1, f1_1] h K :=
  callM_of_wpA mixed (fn := Try.f103) Try.func103 (c := bodyOf Try.f103) rfl (of_decide_eq_true (by kernel_rfl)) (anOf []) 7 9 (by kernel_rfl) rfl [.tmp 4] (by kernel_rfl) (args := [s0_1, f1_1]) (by rw [e103]; exact H)

/-! impl.isGraph$1 -/
def t104 (P : Program) (q0_1 : Value) (t1_1 : Value) (h : Heap) (K : Value → Heap → Prop) : Prop :=
  rop P (Instr.loadAt 3 t1_1) h fun t5_1 =>
  pop P (binA .sub 3 t5_1 (Value.int IntKind.i64 1)) fun t6_1 =>
  callM P 102 #[q0_1, (Value.int IntKind.i64 0), t6_1] h fun t7_1 h_1 =>
  pop P (Op.unary .not t7_1) fun t8_1 =>
  K t8_1 h_1
theorem e104 (q0_1 : Value) (t1_1 : Value) (h : Heap) (K : Value → Heap → Prop) : wpA Try.prog 9 (anOf []) (bodyOf Try.f104) 1 (fun A h => resA Try.prog A h K [.tmp 3]) (fun _ _ _ => False) (fun A h => resA Try.prog A h K [.tmp 3]) (aargs [q0_1, t1_1] 0) h = t104 Try.prog q0_1 t1_1 h K := by kernel_rfl
theorem c104 (q0_1 : Value) (t1_1 : Value) (h : Heap) (K : Value → Heap → Prop) (H : t104 Try.prog q0_1 t1_1 h K) : callM Try.prog 104 #[q0_1, t1_1] h K :=
  callM_of_wpA mixed (fn := Try.f104) Try.func104 (c := bodyOf Try.f104) rfl (of_decide_eq_true (by kernel_rfl)) (anOf []) 7 9 (by kernel_rfl) rfl [.tmp 3] (by kernel_rfl) (args := [q0_1, t1_1]) (by rw [e104]; exact H)

/-! impl.has$1 -/
def t111 (P : Program) (p0_1 : Value) (t1_1 : Value) (h : Heap) (K : Value → Heap → Prop) : Prop :=
  pop P (Instr.fieldAt 32 t1_1 0) fun t5_1 =>
  rop P (Instr.loadAt 22 t5_1) h fun t6_1 =>
  pop P (lenS 22 3 t6_1) fun t7_1 =>
  pop P (binA .sub 3 t7_1 (Value.int IntKind.i64 1)) fun t8_1 =>
  callM P 102 #[p0_1, (Value.int IntKind.i64 0), t8_1] h fun t9_1 h_1 =>
  pop P (Op.unary .not t9_1) fun t10_1 =>
  K t10_1 h_1
theorem e111 (p0_1 : Value) (t1_1 : Value) (h : Heap) (K : Value → Heap → Prop) : wpA Try.prog 11 (anOf []) (bodyOf Try.f111) 1 (fun A h => resA Try.prog A h K [.tmp 3]) (fun _ _ _ => False) (fun A h => resA Try.prog A h K [.tmp 3]) (aargs [p0_1, t1_1] 0) h = t111 Try.prog p0_1 t1_1 h K := by kernel_rfl
theorem c111 (p0_1 : Value) (t1_1 : Value) (h : Heap) (K : Value → Heap → Prop) (H : t111 Try.prog p0_1 t1_1 h K) : callM Try.prog 111 #[p0_1, t1_1] h K :=
  callM_of_wpA mixed (fn := Try.f111) Try.func111 (c := bodyOf Try.f111) rfl (of_decide_eq_true (by kernel_rfl)) (anOf []) 9 11 (by kernel_rfl) rfl [.tmp 3] (by kernel_rfl) (args := [p0_1, t1_1]) (by rw [e111]; exact H)

/-! spec.l1In -/
def t113 (P : Program) (n0_1 : Value) (lo1_1 : Value) (hi2_1 : Value) (h : Heap) (K : Value → Heap → Prop) : Prop :=
  pop P (binA .geq 3 n0_1 lo1_1) fun t9_1 =>
  guardM (asG t9_1 true) true (fun k_1 => k_1 n0_1 h) h fun t11_1 h_1 =>
  guardM (asG t9_1 true) true (fun k_2 => k_2 hi2_1 h_1) h_1 fun t12_1 h_2 =>
  guardM (asG t9_1 true) true (fun k_3 => pop P (binA .leq 3 t11_1 t12_1) fun t13_1 =>
  k_3 t13_1 h_2) h_2 fun t13_2 h_3 =>
  pop P (pickS t9_1 t13_2 (Value.bool false)) fun t14_1 =>
  K t14_1 h_3
theorem e113 (n0_1 : Value) (lo1_1 : Value) (hi2_1 : Value) (h : Heap) (K : Value → Heap → Prop) : wpA Try.prog 15 (anOf []) (bodyOf Try.f113) 1 (fun A h => resA Try.prog A h K [.tmp 6]) (fun _ _ _ => False) (fun A h => resA Try.prog A h K [.tmp 6]) (aargs [n0_1, lo1_1, hi2_1] 0) h = t113 Try.prog n0_1 lo1_1 hi2_1 h K := by kernel_rfl
theorem c113 (n0_1 : Value) (lo1_1 : Value) (hi2_1 : Value) (h : Heap) (K : Value → Heap → Prop) (H : t113 Try.prog n0_1 lo1_1 hi2_1 h K) : callM Try.prog 113 #[n0_1, lo1_1, hi2_1] h K :=
  callM_of_wpA mixed (fn := Try.f113) Try.func113 (c := bodyOf Try.f113) rfl (of_decide_eq_true (by kernel_rfl)) (anOf []) 12 15 (by kernel_rfl) rfl [.tmp 6] (by kernel_rfl) (args := [n0_1, lo1_1, hi2_1]) (by rw [e113]; exact H)

/-! slices.Index[[]int,int] -/
def t114 (P : Program) (s0_1 : Value) (v1_1 : Value) (h : Heap) (K : Value → Heap → Prop) : Prop :=
  pop P (lenS 27 3 s0_1) fun t7_1 =>
  ∃ (I_1 : List Value → Heap → Prop) (μ_1 : List Value → Heap → Nat), I_1 [(Value.int IntKind.i64 0)] h ∧
  ∀ (junk_1 : Nat → Value) (t8_1 : Value) (h_1 : Heap), I_1 [t8_1] h_1 →
  pop P (binA .lss 3 t8_1 t7_1) fun t9_1 =>
  condM t9_1
  (pop P (Instr.indexAt 27 s0_1 t8_1) fun t14_1 =>
  rop P (Instr.loadAt 3 t14_1) h_1 fun t15_1 =>
  pop P (binE .eql 3 (.tmp 11) (.tmp 15) v1_1 t15_1) fun t16_1 =>
  condM t16_1
  (K t8_1 h_1)
  (pop P (binA .add 3 t8_1 (Value.int IntKind.i64 1)) fun t18_1 =>
  I_1 [t18_1] h_1 ∧ μ_1 [t18_1] h_1 < μ_1 [t8_1] h_1))
  (K (Value.int IntKind.i64 (-1)) h_1)
theorem e114 (s0_1 : Value) (v1_1 : Value) (h : Heap) (K : Value → Heap → Prop) : wpA Try.prog 19 (anOf [(26, [8])]) (bodyOf Try.f114) 1 (fun A h => resA Try.prog A h K [.tmp 4]) (fun _ _ _ => False) (fun A h => resA Try.prog A h K [.tmp 4]) (aargs [s0_1, v1_1] 0) h = t114 Try.prog s0_1 v1_1 h K := by kernel_rfl
theorem c114 (s0_1 : Value) (v1_1 : Value) (h : Heap) (K : Value → Heap → Prop) (H : t114 Try.prog s0_1 v1_1 h K) : callM Try.prog 114 #[s0_1, v1_1] h K :=
  callM_of_wpA mixed (fn := Try.f114) Try.func114 (c := bodyOf Try.f114) rfl (of_decide_eq_true (by kernel_rfl)) (anOf [(26, [8])]) 17 19 (by kernel_rfl) rfl [.tmp 4] (by kernel_rfl) (args := [s0_1, v1_1]) (by rw [e114]; exact H)

/-! (*spec.trSearch).look -/
def t115 (P : Program) (s0_1 : Value) (p1_1 : Value) (h : Heap) (K : Value → Heap → Prop) : Prop :=
  pop P (nilS s0_1) fun t6_1 =>
  pop P (Instr.fieldAt 123 t6_1 3) fun t7_1 =>
  rop P (Instr.loadAt 22 t7_1) h fun t8_1 =>
  pop P (lenS 22 3 t8_1) fun t9_1 =>
  pop P (nilS s0_1) fun t11_1 =>
  pop P (Instr.fieldAt 123 t11_1 4) fun t12_1 =>
  rop P (Instr.loadAt 3 t12_1) h fun t13_1 =>
  pop P (binA .gtr 3 t9_1 t13_1) fun t14_1 =>
  condM t14_1
  (K (.tuple #[]) h)
  (pop P (nilS s0_1) fun t17_1 =>
  pop P (Instr.fieldAt 123 t17_1 0) fun t18_1 =>
  pop P (Instr.fieldAt 32 t18_1 0) fun t19_1 =>
  rop P (Instr.loadAt 22 t19_1) h fun t20_1 =>
  pop P (lenS 22 3 t20_1) fun t21_1 =>
  pop P (binE .eql 3 (.tmp 15) (.tmp 21) p1_1 t21_1) fun t22_1 =>
  condM t22_1
  (pop P (nilS s0_1) fun t25_1 =>
  pop P (Instr.fieldAt 123 t25_1 3) fun t26_1 =>
  rop P (Instr.loadAt 22 t26_1) h fun t27_1 =>
  pop P (nilS s0_1) fun t29_1 =>
  pop P (Instr.fieldAt 123 t29_1 2) fun t30_1 =>
  rop P (Instr.loadAt 27 t30_1) h fun t31_1 =>
  callM P 87 #[t31_1] h fun t32_1 h_1 =>
  (∀ w : World, w.heap = h_1 → (Instr.loadAt 22 t26_1).run P w = .ok t27_1 w) ∧
  eop P (Instr.buildSlice 22 1 #[(0, t32_1)]) h_1 fun t33_1 h_2 =>
  (∀ w : World, w.heap = h_2 → (Instr.loadAt 22 t26_1).run P w = .ok t27_1 w) ∧
  eop P (appS 22 22 22 t27_1 t33_1) h_2 fun t34_1 h_3 =>
  pop P (nilS s0_1) fun t35_1 =>
  pop P (Instr.fieldAt 123 t35_1 3) fun t36_1 =>
  uop P (Instr.storeAt 22 t36_1 t34_1) h_3 fun u_1 h_4 =>
  K (.tuple #[]) h_4)
  (pop P (nilS s0_1) fun t39_1 =>
  pop P (Instr.fieldAt 123 t39_1 1) fun t40_1 =>
  rop P (Instr.loadAt 3 t40_1) h fun t41_1 =>
  pop P (binE .eql 3 (.tmp 37) (.tmp 41) p1_1 t41_1) fun t42_1 =>
  condM t42_1
  (pop P (binA .add 3 p1_1 (Value.int IntKind.i64 1)) fun t45_1 =>
  callM P 115 #[s0_1, t45_1] h fun t46_1 h_5 =>
  K (.tuple #[]) h_5)
  (pop P (nilS s0_1) fun t48_1 =>
  pop P (Instr.fieldAt 123 t48_1 0) fun t49_1 =>
  pop P (Instr.fieldAt 32 t49_1 0) fun t50_1 =>
  rop P (Instr.loadAt 22 t50_1) h fun t51_1 =>
  pop P (Instr.indexAt 22 t51_1 p1_1) fun t53_1 =>
  rop P (Instr.loadAt 27 t53_1) h fun t54_1 =>
  pop P (lenS 27 3 t54_1) fun t55_1 =>
  ∃ (I_1 : List Value → Heap → Prop) (μ_1 : List Value → Heap → Nat), I_1 [(Value.int IntKind.i64 0)] h ∧
  ∀ (junk_1 : Nat → Value) (t56_1 : Value) (h_6 : Heap), I_1 [t56_1] h_6 →
  pop P (binA .lss 3 t56_1 t55_1) fun t57_1 =>
  condM t57_1
  (pop P (nilS s0_1) fun t60_1 =>
  pop P (Instr.fieldAt 123 t60_1 2) fun t61_1 =>
  rop P (Instr.loadAt 27 t61_1) h_6 fun t62_1 =>
  pop P (Instr.indexAt 27 t62_1 p1_1) fun t65_1 =>
  uop P (Instr.storeAt 3 t65_1 t56_1) h_6 fun u_2 h_7 =>
  callM P 133 #[s0_1, p1_1] h_7 fun t68_1 h_8 =>
  pop P (Op.unary .not t68_1) fun t69_1 =>
  condM t69_1
  (pop P (binA .add 3 p1_1 (Value.int IntKind.i64 1)) fun t72_1 =>
  callM P 115 #[s0_1, t72_1] h_8 fun t73_1 h_9 =>
  pop P (binA .add 3 t56_1 (Value.int IntKind.i64 1)) fun t74_1 =>
  I_1 [t74_1] h_9 ∧ μ_1 [t74_1] h_9 < μ_1 [t56_1] h_6)
  (pop P (binA .add 3 t56_1 (Value.int IntKind.i64 1)) fun t74_2 =>
  I_1 [t74_2] h_8 ∧ μ_1 [t74_2] h_8 < μ_1 [t56_1] h_6))
  (pop P (nilS s0_1) fun t76_1 =>
  pop P (Instr.fieldAt 123 t76_1 2) fun t77_1 =>
  rop P (Instr.loadAt 27 t77_1) h_6 fun t78_1 =>
  pop P (Instr.indexAt 27 t78_1 p1_1) fun t80_1 =>
  uop P (Instr.storeAt 3 t80_1 (Value.int IntKind.i64 0)) h_6 fun u_3 h_10 =>
  K (.tuple #[]) h_10))))
theorem e115 (s0_1 : Value) (p1_1 : Value) (h : Heap) (K : Value → Heap → Prop) : wpA Try.prog 81 (anOf [(122, [56])]) (bodyOf Try.f115) 1 (fun A h => resA Try.prog A h K []) (fun _ _ _ => False) (fun A h => resA Try.prog A h K []) (aargs [s0_1, p1_1] 0) h = t115 Try.prog s0_1 p1_1 h K := by kernel_rfl
theorem c115 (s0_1 : Value) (p1_1 : Value) (h : Heap) (K : Value → Heap → Prop) (H : t115 Try.prog s0_1 p1_1 h K) : callM Try.prog 115 #[s0_1, p1_1] h K :=
  callM_of_wpA mixed (fn := Try.f115) Try.func115 (c := bodyOf Try.f115) rfl (of_decide_eq_true (by kernel_rfl)) (anOf [(122, [56])]) 79 81 (by kernel_rfl) rfl [] (by kernel_rfl) (args := [s0_1, p1_1]) (by rw [e115]; exact H)

/-! impl.determinant -/
def t116 (P : Program) (m0_1 : Value) (h : Heap) (K : Value → Heap → Prop) : Prop :=
  pop P (lenS 22 3 m0_1) fun t14_1 =>
  eop P (Instr.buildSlice 22 0 #[]) h fun t15_1 h_1 =>
  pop P (lenS 22 3 m0_1) fun t17_1 =>
  ∃ (I_1 : List Value → Heap → Prop) (μ_1 : List Value → Heap → Nat), I_1 [t15_1, (Value.int IntKind.i64 0)] h_1 ∧
  ∀ (junk_1 : Nat → Value) (a6_1 : Value) (t18_1 : Value) (h_2 : Heap), I_1 [a6_1, t18_1] h_2 →
  pop P (binA .lss 3 t18_1 t17_1) fun t19_1 =>
  condM t19_1
  (pop P (Instr.indexAt 22 m0_1 t18_1) fun t20_1 =>
  rop P (Instr.loadAt 27 t20_1) h_2 fun t21_1 =>
  callM P 119 #[t21_1] h_2 fun t24_1 h_3 =>
  eop P (Instr.buildSlice 22 1 #[(0, t24_1)]) h_3 fun t25_1 h_4 =>
  eop P (appS 22 22 22 a6_1 t25_1) h_4 fun t26_1 h_5 =>
  pop P (binA .add 3 t18_1 (Value.int IntKind.i64 1)) fun t27_1 =>
  I_1 [t26_1, t27_1] h_5 ∧ μ_1 [t26_1, t27_1] h_5 < μ_1 [a6_1, t18_1] h_2)
  (∃ (I_2 : List Value → Heap → Prop) (μ_2 : List Value → Heap → Nat), I_2 [(Value.int IntKind.i64 1), (Value.int IntKind.i64 1), (Value.int IntKind.i64 0)] h_2 ∧
  ∀ (junk_2 : Nat → Value) (sign4_1 : Value) (last5_1 : Value) (t29_1 : Value) (h_6 : Heap), I_2 [sign4_1, last5_1, t29_1] h_6 →
  pop P (binA .lss 3 t29_1 t14_1) fun t30_1 =>
  condM t30_1
  (∃ (I_3 : List Value → Heap → Prop) (μ_3 : List Value → Heap → Nat), I_3 [t29_1] h_6 ∧
  ∀ (junk_3 : Nat → Value) (pivot10_1 : Value) (h_7 : Heap), I_3 [pivot10_1] h_7 →
  pop P (binA .lss 3 pivot10_1 t14_1) fun t35_1 =>
  guardM (asG t35_1 true) true (fun k_1 => k_1 a6_1 h_7) h_7 fun t37_1 h_8 =>
  guardM (asG t35_1 true) true (fun k_2 => k_2 pivot10_1 h_8) h_8 fun t38_1 h_9 =>
  guardM (asG t35_1 true) true (fun k_3 => pop P (Instr.indexAt 22 t37_1 t38_1) fun t39_1 =>
  k_3 t39_1 h_9) h_9 fun t39_2 h_10 =>
  guardM (asG t35_1 true) true (fun k_4 => rop P (Instr.loadAt 27 t39_2) h_10 fun t40_1 =>
  k_4 t40_1 h_10) h_10 fun t40_2 h_11 =>
  guardM (asG t35_1 true) true (fun k_5 => k_5 t29_1 h_11) h_11 fun t41_1 h_12 =>
  guardM (asG t35_1 true) true (fun k_6 => pop P (Instr.indexAt 27 t40_2 t41_1) fun t42_1 =>
  k_6 t42_1 h_12) h_12 fun t42_2 h_13 =>
  guardM (asG t35_1 true) true (fun k_7 => rop P (Instr.loadAt 3 t42_2) h_13 fun t43_1 =>
  k_7 t43_1 h_13) h_13 fun t43_2 h_14 =>
  guardM (asG t35_1 true) true (fun k_8 => pop P (binE .eql 3 (.tmp 43) (.const (Value.int IntKind.i64 0)) t43_2 (Value.int IntKind.i64 0)) fun t44_1 =>
  k_8 t44_1 h_14) h_14 fun t44_2 h_15 =>
  pop P (pickS t35_1 t44_2 (Value.bool false)) fun t45_1 =>
  condM t45_1
  (pop P (binA .add 3 pivot10_1 (Value.int IntKind.i64 1)) fun t47_1 =>
  I_3 [t47_1] h_15 ∧ μ_3 [t47_1] h_15 < μ_3 [pivot10_1] h_7)
  (pop P (binE .eql 3 (.tmp 48) (.tmp 49) pivot10_1 t14_1) fun t50_1 =>
  condM t50_1
  (K (Value.int IntKind.i64 0) h_15)
  (∃ J_1 : List Value → Heap → Prop, (pop P (binE .neq 3 (.tmp 51) (.tmp 52) pivot10_1 t29_1) fun t53_1 =>
  condM t53_1
  (pop P (Instr.indexAt 22 a6_1 t29_1) fun t60_1 =>
  rop P (Instr.loadAt 27 t60_1) h_15 fun t61_1 =>
  pop P (Instr.indexAt 22 a6_1 pivot10_1) fun t64_1 =>
  rop P (Instr.loadAt 27 t64_1) h_15 fun t65_1 =>
  pop P (Instr.indexAt 22 a6_1 pivot10_1) fun t66_1 =>
  uop P (Instr.storeAt 27 t66_1 t61_1) h_15 fun u_1 h_16 =>
  pop P (Instr.indexAt 22 a6_1 t29_1) fun t67_1 =>
  uop P (Instr.storeAt 27 t67_1 t65_1) h_16 fun u_2 h_17 =>
  pop P (Op.unary .neg sign4_1) fun t69_1 =>
  J_1 [t69_1] h_17)
  (J_1 [sign4_1] h_15)) ∧
  ∀ (junk_4 : Nat → Value) (sign4_2 : Value) (h_18 : Heap), J_1 [sign4_2] h_18 →
  pop P (binA .add 3 t29_1 (Value.int IntKind.i64 1)) fun t71_1 =>
  ∃ (I_4 : List Value → Heap → Prop) (μ_4 : List Value → Heap → Nat), I_4 [t71_1] h_18 ∧
  ∀ (junk_5 : Nat → Value) (i11_1 : Value) (h_19 : Heap), I_4 [i11_1] h_19 →
  pop P (binA .lss 3 i11_1 t14_1) fun t74_1 =>
  condM t74_1
  (pop P (binA .add 3 t29_1 (Value.int IntKind.i64 1)) fun t78_1 =>
  ∃ (I_5 : List Value → Heap → Prop) (μ_5 : List Value → Heap → Nat), I_5 [t78_1] h_19 ∧
  ∀ (junk_6 : Nat → Value) (j12_1 : Value) (h_20 : Heap), I_5 [j12_1] h_20 →
  pop P (binA .lss 3 j12_1 t14_1) fun t81_1 =>
  condM t81_1
  (pop P (Instr.indexAt 22 a6_1 i11_1) fun t86_1 =>
  rop P (Instr.loadAt 27 t86_1) h_20 fun t87_1 =>
  pop P (Instr.indexAt 22 a6_1 i11_1) fun t91_1 =>
  rop P (Instr.loadAt 27 t91_1) h_20 fun t92_1 =>
  pop P (Instr.indexAt 27 t92_1 j12_1) fun t94_1 =>
  rop P (Instr.loadAt 3 t94_1) h_20 fun t95_1 =>
  pop P (Instr.indexAt 22 a6_1 t29_1) fun t98_1 =>
  rop P (Instr.loadAt 27 t98_1) h_20 fun t99_1 =>
  pop P (Instr.indexAt 27 t99_1 t29_1) fun t101_1 =>
  rop P (Instr.loadAt 3 t101_1) h_20 fun t102_1 =>
  pop P (binA .mul 3 t95_1 t102_1) fun t103_1 =>
  pop P (Instr.indexAt 22 a6_1 i11_1) fun t106_1 =>
  rop P (Instr.loadAt 27 t106_1) h_20 fun t107_1 =>
  pop P (Instr.indexAt 27 t107_1 t29_1) fun t109_1 =>
  rop P (Instr.loadAt 3 t109_1) h_20 fun t110_1 =>
  pop P (Instr.indexAt 22 a6_1 t29_1) fun t113_1 =>
  rop P (Instr.loadAt 27 t113_1) h_20 fun t114_1 =>
  pop P (Instr.indexAt 27 t114_1 j12_1) fun t116_1 =>
  rop P (Instr.loadAt 3 t116_1) h_20 fun t117_1 =>
  pop P (binA .mul 3 t110_1 t117_1) fun t118_1 =>
  pop P (binA .sub 3 t103_1 t118_1) fun t119_1 =>
  pop P (binA .quo 3 t119_1 last5_1) fun t121_1 =>
  pop P (Instr.indexAt 27 t87_1 j12_1) fun t122_1 =>
  uop P (Instr.storeAt 3 t122_1 t121_1) h_20 fun u_3 h_21 =>
  pop P (binA .add 3 j12_1 (Value.int IntKind.i64 1)) fun t83_1 =>
  I_5 [t83_1] h_21 ∧ μ_5 [t83_1] h_21 < μ_5 [j12_1] h_20)
  (pop P (binA .add 3 i11_1 (Value.int IntKind.i64 1)) fun t76_1 =>
  I_4 [t76_1] h_20 ∧ μ_4 [t76_1] h_20 < μ_4 [i11_1] h_19))
  (pop P (Instr.indexAt 22 a6_1 t29_1) fun t125_1 =>
  rop P (Instr.loadAt 27 t125_1) h_19 fun t126_1 =>
  pop P (Instr.indexAt 27 t126_1 t29_1) fun t128_1 =>
  rop P (Instr.loadAt 3 t128_1) h_19 fun t129_1 =>
  pop P (binA .add 3 t29_1 (Value.int IntKind.i64 1)) fun t130_1 =>
  I_2 [sign4_2, t129_1, t130_1] h_19 ∧ μ_2 [sign4_2, t129_1, t130_1] h_19 < μ_2 [sign4_1, last5_1, t29_1] h_6))))
  (pop P (binA .mul 3 sign4_1 last5_1) fun t133_1 =>
  K t133_1 h_6))
theorem e116 (m0_1 : Value) (h : Heap) (K : Value → Heap → Prop) : wpA Try.prog 134 (anOf [(122, [6, 18]), (250, [4, 5, 29]), (128204, [10]), (128207, [4]), (2051322, [11]), (131284626, [12])]) (bodyOf Try.f116) 1 (fun A h => resA Try.prog A h K [.tmp 2]) (fun _ _ _ => False) (fun A h => resA Try.prog A h K [.tmp 2]) (aargs [m0_1] 0) h = t116 Try.prog m0_1 h K := by kernel_rfl
theorem c116 (m0_1 : Value) (h : Heap) (K : Value → Heap → Prop) (H : t116 Try.prog m0_1 h K) : callM Try.prog 116 #[m0_1] h K :=
  callM_of_wpA mixed (fn := Try.f116) Try.func116 (c := bodyOf Try.f116) rfl (of_decide_eq_true (by kernel_rfl)) (anOf [(122, [6, 18]), (250, [4, 5, 29]), (128204, [10]), (128207, [4]), (2051322, [11]), (131284626, [12])]) 133 134 (by kernel_rfl) rfl [.tmp 2] (by kernel_rfl) (args := [m0_1]) (by rw [e116]; exact H)

/-! impl.laplace -/
def t117 (P : Program) (g0_1 : Value) (sink1_1 : Value) (h : Heap) (K : Value → Heap → Prop) : Prop :=
  eop P (Instr.box 32 g0_1) h fun g2_1 h_1 =>
  eop P (Instr.buildSlice 22 0 #[]) h_1 fun t11_1 h_2 =>
  pop P (Instr.fieldAt 32 g2_1 0) fun t12_1 =>
  rop P (Instr.loadAt 22 t12_1) h_2 fun t13_1 =>
  pop P (lenS 22 3 t13_1) fun t14_1 =>
  ∃ (I_1 : List Value → Heap → Prop) (μ_1 : List Value → Heap → Nat), I_1 [t11_1, (Value.int IntKind.i64 0)] h_2 ∧
  ∀ (junk_1 : Nat → Value) (out5_1 : Value) (t15_1 : Value) (h_3 : Heap), I_1 [out5_1, t15_1] h_3 →
  pop P (binA .lss 3 t15_1 t14_1) fun t16_1 =>
  condM t16_1
  (pop P (Instr.indexAt 22 t13_1 t15_1) fun t18_1 =>
  rop P (Instr.loadAt 27 t18_1) h_3 fun t19_1 =>
  pop P (binE .eql 3 (.tmp 20) (.tmp 21) t15_1 sink1_1) fun t22_1 =>
  condM t22_1
  (pop P (binA .add 3 t15_1 (Value.int IntKind.i64 1)) fun t53_1 =>
  I_1 [out5_1, t53_1] h_3 ∧ μ_1 [out5_1, t53_1] h_3 < μ_1 [out5_1, t15_1] h_3)
  (pop P (Instr.fieldAt 32 g2_1 0) fun t23_1 =>
  rop P (Instr.loadAt 22 t23_1) h_3 fun t24_1 =>
  pop P (lenS 22 3 t24_1) fun t25_1 =>
  eop P (Instr.makeSlice 27 t25_1 t25_1) h_3 fun t26_1 h_4 =>
  pop P (lenS 27 3 t19_1) fun t30_1 =>
  pop P (Instr.indexAt 27 t26_1 t15_1) fun t31_1 =>
  uop P (Instr.storeAt 3 t31_1 t30_1) h_4 fun u_1 h_5 =>
  pop P (lenS 27 3 t19_1) fun t33_1 =>
  ∃ (I_2 : List Value → Heap → Prop) (μ_2 : List Value → Heap → Nat), I_2 [(Value.int IntKind.i64 0)] h_5 ∧
  ∀ (junk_2 : Nat → Value) (t34_1 : Value) (h_6 : Heap), I_2 [t34_1] h_6 →
  pop P (binA .lss 3 t34_1 t33_1) fun t35_1 =>
  condM t35_1
  (pop P (Instr.indexAt 27 t19_1 t34_1) fun t36_1 =>
  rop P (Instr.loadAt 3 t36_1) h_6 fun t37_1 =>
  pop P (Instr.indexAt 27 t26_1 t37_1) fun t40_1 =>
  rop P (Instr.loadAt 3 t40_1) h_6 fun t41_1 =>
  pop P (binA .sub 3 t41_1 (Value.int IntKind.i64 1)) fun t42_1 =>
  pop P (Instr.indexAt 27 t26_1 t37_1) fun t43_1 =>
  uop P (Instr.storeAt 3 t43_1 t42_1) h_6 fun u_2 h_7 =>
  pop P (binA .add 3 t34_1 (Value.int IntKind.i64 1)) fun t44_1 =>
  I_2 [t44_1] h_7 ∧ μ_2 [t44_1] h_7 < μ_2 [t34_1] h_6)
  (pop P (binA .add 3 sink1_1 (Value.int IntKind.i64 1)) fun t49_1 =>
  callM P 134 #[t26_1, sink1_1, t49_1] h_6 fun t50_1 h_8 =>
  eop P (Instr.buildSlice 22 1 #[(0, t50_1)]) h_8 fun t51_1 h_9 =>
  eop P (appS 22 22 22 out5_1 t51_1) h_9 fun t52_1 h_10 =>
  pop P (binA .add 3 t15_1 (Value.int IntKind.i64 1)) fun t53_2 =>
  I_1 [t52_1, t53_2] h_10 ∧ μ_1 [t52_1, t53_2] h_10 < μ_1 [out5_1, t15_1] h_3)))
  (K out5_1 h_3)
theorem e117 (g0_1 : Value) (sink1_1 : Value) (h : Heap) (K : Value → Heap → Prop) : wpA Try.prog 55 (anOf [(58, [5, 15]), (239226, [34])]) (bodyOf Try.f117) 1 (fun A h => resA Try.prog A h K [.tmp 4]) (fun _ _ _ => False) (fun A h => resA Try.prog A h K [.tmp 4]) (aargs [g0_1, sink1_1] 0) h = t117 Try.prog g0_1 sink1_1 h K := by kernel_rfl
theorem c117 (g0_1 : Value) (sink1_1 : Value) (h : Heap) (K : Value → Heap → Prop) (H : t117 Try.prog g0_1 sink1_1 h K) : callM Try.prog 117 #[g0_1, sink1_1] h K :=
  callM_of_wpA mixed (fn := Try.f117) Try.func117 (c := bodyOf Try.f117) rfl (of_decide_eq_true (by kernel_rfl)) (anOf [(58, [5, 15]), (239226, [34])]) 53 55 (by kernel_rfl) rfl [.tmp 4] (by kernel_rfl) (args := [g0_1, sink1_1]) (by rw [e117]; exact H)

/-! (impl.Graph).cycleFrom -/
def t118 (P : Program) (g0_1 : Value) (rotors1_1 : Value) (p2_1 : Value) (h : Heap) (K : Value → Heap → Prop) : Prop :=
  eop P (Instr.box 32 g0_1) h fun g3_1 h_1 =>
  eop P (Instr.buildSlice 27 0 #[]) h_1 fun t9_1 h_2 =>
  ∃ (I_1 : List Value → Heap → Prop) (μ_1 : List Value → Heap → Nat), I_1 [p2_1, t9_1] h_2 ∧
  ∀ (junk_1 : Nat → Value) (p2_2 : Value) (met8_1 : Value) (h_3 : Heap), I_1 [p2_2, met8_1] h_3 →
  callM P 72 #[met8_1, p2_2] h_3 fun t12_1 h_4 =>
  pop P (Op.unary .not t12_1) fun t13_1 =>
  condM t13_1
  (eop P (Instr.buildSlice 27 1 #[(0, p2_2)]) h_4 fun t16_1 h_5 =>
  eop P (appS 27 27 27 met8_1 t16_1) h_5 fun t17_1 h_6 =>
  rop P (Instr.loadAt 32 g3_1) h_6 fun t18_1 =>
  callM P 135 #[t18_1, rotors1_1, p2_2] h_6 fun t21_1 h_7 =>
  pop P (binA .lss 3 t21_1 (Value.int IntKind.i64 0)) fun t23_1 =>
  condM t23_1
  (K (.tuple #[(Value.slice none 0 0), (Value.bool false)]) h_7)
  (I_1 [t21_1, t17_1] h_7 ∧ μ_1 [t21_1, t17_1] h_7 < μ_1 [p2_2, met8_1] h_3))
  (callM P 114 #[met8_1, p2_2] h_4 fun t27_1 h_8 =>
  pop P (Instr.sliceAt 27 met8_1 (some t27_1) none none) fun t28_1 =>
  K (.tuple #[t28_1, (Value.bool true)]) h_8)
theorem e118 (g0_1 : Value) (rotors1_1 : Value) (p2_1 : Value) (h : Heap) (K : Value → Heap → Prop) : wpA Try.prog 29 (anOf [(28, [2, 8])]) (bodyOf Try.f118) 1 (fun A h => resA Try.prog A h K [.tmp 6, .tmp 7]) (fun _ _ _ => False) (fun A h => resA Try.prog A h K [.tmp 6, .tmp 7]) (aargs [g0_1, rotors1_1, p2_1] 0) h = t118 Try.prog g0_1 rotors1_1 p2_1 h K := by kernel_rfl
theorem c118 (g0_1 : Value) (rotors1_1 : Value) (p2_1 : Value) (h : Heap) (K : Value → Heap → Prop) (H : t118 Try.prog g0_1 rotors1_1 p2_1 h K) : callM Try.prog 118 #[g0_1, rotors1_1, p2_1] h K :=
  callM_of_wpA mixed (fn := Try.f118) Try.func118 (c := bodyOf Try.f118) rfl (of_decide_eq_true (by kernel_rfl)) (anOf [(28, [2, 8])]) 26 29 (by kernel_rfl) rfl [.tmp 6, .tmp 7] (by kernel_rfl) (args := [g0_1, rotors1_1, p2_1]) (by rw [e118]; exact H)

/-! slices.Clone[[]int,int] -/
def t119 (P : Program) (s0_1 : Value) (h : Heap) (K : Value → Heap → Prop) : Prop :=
  pop P (binE .eql 27 (.tmp 3) (.const (Value.slice none 0 0)) s0_1 (Value.slice none 0 0)) fun t4_1 =>
  condM t4_1
  (K (Value.slice none 0 0) h)
  (eop P (Instr.buildSlice 27 0 #[]) h fun t5_1 h_1 =>
  eop P (appS 27 27 27 t5_1 s0_1) h_1 fun t7_1 h_2 =>
  K t7_1 h_2)
theorem e119 (s0_1 : Value) (h : Heap) (K : Value → Heap → Prop) : wpA Try.prog 8 (anOf []) (bodyOf Try.f119) 1 (fun A h => resA Try.prog A h K [.tmp 2]) (fun _ _ _ => False) (fun A h => resA Try.prog A h K [.tmp 2]) (aargs [s0_1] 0) h = t119 Try.prog s0_1 h K := by kernel_rfl
theorem c119 (s0_1 : Value) (h : Heap) (K : Value → Heap → Prop) (H : t119 Try.prog s0_1 h K) : callM Try.prog 119 #[s0_1] h K :=
  callM_of_wpA mixed (fn := Try.f119) Try.func119 (c := bodyOf Try.f119) rfl (of_decide_eq_true (by kernel_rfl)) (anOf []) 7 8 (by kernel_rfl) rfl [.tmp 2] (by kernel_rfl) (args := [s0_1]) (by rw [e119]; exact H)

/-! slices.IndexFunc[[]int,int] -/
def t121 (P : Program) (s0_1 : Value) (f1_1 : Value) (h : Heap) (K : Value → Heap → Prop) : Prop :=
  pop P (lenS 27 3 s0_1) fun t7_1 =>
  ∃ (I_1 : List Value → Heap → Prop) (μ_1 : List Value → Heap → Nat), I_1 [(Value.int IntKind.i64 0)] h ∧
  ∀ (junk_1 : Nat → Value) (t8_1 : Value) (h_1 : Heap), I_1 [t8_1] h_1 →
  pop P (binA .lss 3 t8_1 t7_1) fun t9_1 =>
  condM t9_1
  (pop P (Instr.indexAt 27 s0_1 t8_1) fun t14_1 =>
  rop P (Instr.loadAt 3 t14_1) h_1 fun t15_1 =>
  callV P f1_1 [t15_1] h_1 fun t16_1 h_2 =>
  condM t16_1
  (K t8_1 h_2)
  (pop P (binA .add 3 t8_1 (Value.int IntKind.i64 1)) fun t18_1 =>
  I_1 [t18_1] h_2 ∧ μ_1 [t18_1] h_2 < μ_1 [t8_1] h_1))
  (K (Value.int IntKind.i64 (-1)) h_1)
theorem e121 (s0_1 : Value) (f1_1 : Value) (h : Heap) (K : Value → Heap → Prop) : wpA Try.prog 19 (anOf [(26, [8])]) (bodyOf Try.f121) 1 (fun A h => resA Try.prog A h K [.tmp 4]) (fun _ _ _ => False) (fun A h => resA Try.prog A h K [.tmp 4]) (aargs [s0_1, f1_1] 0) h = t121 Try.prog s0_1 f1_1 h K := by kernel_rfl
theorem c121 (s0_1 : Value) (f1_1 : Value) (h : Heap) (K : Value → Heap → Prop) (H : t121 Try.prog s0_1 f1_1 h K) : callM Try.prog 121 #[s0_1, f1_1] h K :=
  callM_of_wpA mixed (fn := Try.f121) Try.func121 (c := bodyOf Try.f121) rfl (of_decide_eq_true (by kernel_rfl)) (anOf [(26, [8])]) 17 19 (by kernel_rfl) rfl [.tmp 4] (by kernel_rfl) (args := [s0_1, f1_1]) (by rw [e121]; exact H)

/-! (*spec.trSearch).loops -/
def t133 (P : Program) (s0_1 : Value) (p1_1 : Value) (h : Heap) (K : Value → Heap → Prop) : Prop :=
  ∃ (I_1 : List Value → Heap → Prop) (μ_1 : List Value → Heap → Nat), I_1 [p1_1, (Value.int IntKind.i64 0)] h ∧
  ∀ (junk_1 : Nat → Value) (q5_1 : Value) (n6_1 : Value) (h_1 : Heap), I_1 [q5_1, n6_1] h_1 →
  pop P (nilS s0_1) fun t10_1 =>
  pop P (Instr.fieldAt 123 t10_1 0) fun t11_1 =>
  pop P (Instr.fieldAt 32 t11_1 0) fun t12_1 =>
  rop P (Instr.loadAt 22 t12_1) h_1 fun t13_1 =>
  pop P (lenS 22 3 t13_1) fun t14_1 =>
  pop P (binA .leq 3 n6_1 t14_1) fun t15_1 =>
  condM t15_1
  (pop P (nilS s0_1) fun t20_1 =>
  pop P (Instr.fieldAt 123 t20_1 1) fun t21_1 =>
  rop P (Instr.loadAt 3 t21_1) h_1 fun t22_1 =>
  pop P (binE .eql 3 (.tmp 18) (.tmp 22) q5_1 t22_1) fun t23_1 =>
  guardM (asG t23_1 false) false (fun k_1 => k_1 q5_1 h_1) h_1 fun t25_1 h_2 =>
  guardM (asG t23_1 false) false (fun k_2 => k_2 p1_1 h_2) h_2 fun t26_1 h_3 =>
  guardM (asG t23_1 false) false (fun k_3 => pop P (binA .gtr 3 t25_1 t26_1) fun t27_1 =>
  k_3 t27_1 h_3) h_3 fun t27_2 h_4 =>
  pop P (pickS t23_1 (Value.bool true) t27_2) fun t28_1 =>
  condM t28_1
  (K (Value.bool false) h_4)
  (pop P (nilS s0_1) fun t30_1 =>
  pop P (Instr.fieldAt 123 t30_1 0) fun t31_1 =>
  rop P (Instr.loadAt 32 t31_1) h_4 fun t32_1 =>
  pop P (nilS s0_1) fun t34_1 =>
  pop P (Instr.fieldAt 123 t34_1 2) fun t35_1 =>
  rop P (Instr.loadAt 27 t35_1) h_4 fun t36_1 =>
  callM P 143 #[t32_1, t36_1, q5_1] h_4 fun t38_1 h_5 =>
  pop P (binA .lss 3 t38_1 (Value.int IntKind.i64 0)) fun t40_1 =>
  condM t40_1
  (K (Value.bool true) h_5)
  (pop P (binA .add 3 n6_1 (Value.int IntKind.i64 1)) fun t17_1 =>
  I_1 [t38_1, t17_1] h_5 ∧ μ_1 [t38_1, t17_1] h_5 < μ_1 [q5_1, n6_1] h_1)))
  (K (Value.bool true) h_1)
theorem e133 (s0_1 : Value) (p1_1 : Value) (h : Heap) (K : Value → Heap → Prop) : wpA Try.prog 41 (anOf [(58, [5, 6])]) (bodyOf Try.f133) 1 (fun A h => resA Try.prog A h K [.tmp 4]) (fun _ _ _ => False) (fun A h => resA Try.prog A h K [.tmp 4]) (aargs [s0_1, p1_1] 0) h = t133 Try.prog s0_1 p1_1 h K := by kernel_rfl
theorem c133 (s0_1 : Value) (p1_1 : Value) (h : Heap) (K : Value → Heap → Prop) (H : t133 Try.prog s0_1 p1_1 h K) : callM Try.prog 133 #[s0_1, p1_1] h K :=
  callM_of_wpA mixed (fn := Try.f133) Try.func133 (c := bodyOf Try.f133) rfl (of_decide_eq_true (by kernel_rfl)) (anOf [(58, [5, 6])]) 39 41 (by kernel_rfl) rfl [.tmp 4] (by kernel_rfl) (args := [s0_1, p1_1]) (by rw [e133]; exact H)

/-! (impl.Graph).next -/
def t135 (P : Program) (g0_1 : Value) (rotors1_1 : Value) (p2_1 : Value) (h : Heap) (K : Value → Heap → Prop) : Prop :=
  eop P (Instr.box 32 g0_1) h fun g3_1 h_1 =>
  pop P (Instr.fieldAt 32 g3_1 0) fun t7_1 =>
  rop P (Instr.loadAt 22 t7_1) h_1 fun t8_1 =>
  pop P (Instr.indexAt 22 t8_1 p2_1) fun t10_1 =>
  rop P (Instr.loadAt 27 t10_1) h_1 fun t11_1 =>
  pop P (lenS 27 3 t11_1) fun t12_1 =>
  pop P (binE .eql 3 (.tmp 12) (.const (Value.int IntKind.i64 0)) t12_1 (Value.int IntKind.i64 0)) fun t13_1 =>
  condM t13_1
  (K (Value.int IntKind.i64 (-1)) h_1)
  (pop P (Instr.fieldAt 32 g3_1 0) fun t14_1 =>
  rop P (Instr.loadAt 22 t14_1) h_1 fun t15_1 =>
  pop P (Instr.indexAt 22 t15_1 p2_1) fun t17_1 =>
  rop P (Instr.loadAt 27 t17_1) h_1 fun t18_1 =>
  pop P (Instr.indexAt 27 rotors1_1 p2_1) fun t21_1 =>
  rop P (Instr.loadAt 3 t21_1) h_1 fun t22_1 =>
  pop P (Instr.indexAt 27 t18_1 t22_1) fun t23_1 =>
  rop P (Instr.loadAt 3 t23_1) h_1 fun t24_1 =>
  K t24_1 h_1)
theorem e135 (g0_1 : Value) (rotors1_1 : Value) (p2_1 : Value) (h : Heap) (K : Value → Heap → Prop) : wpA Try.prog 25 (anOf []) (bodyOf Try.f135) 1 (fun A h => resA Try.prog A h K [.tmp 6]) (fun _ _ _ => False) (fun A h => resA Try.prog A h K [.tmp 6]) (aargs [g0_1, rotors1_1, p2_1] 0) h = t135 Try.prog g0_1 rotors1_1 p2_1 h K := by kernel_rfl
theorem c135 (g0_1 : Value) (rotors1_1 : Value) (p2_1 : Value) (h : Heap) (K : Value → Heap → Prop) (H : t135 Try.prog g0_1 rotors1_1 p2_1 h K) : callM Try.prog 135 #[g0_1, rotors1_1, p2_1] h K :=
  callM_of_wpA mixed (fn := Try.f135) Try.func135 (c := bodyOf Try.f135) rfl (of_decide_eq_true (by kernel_rfl)) (anOf []) 22 25 (by kernel_rfl) rfl [.tmp 6] (by kernel_rfl) (args := [g0_1, rotors1_1, p2_1]) (by rw [e135]; exact H)

/-! spec.trNext -/
def t143 (P : Program) (g0_1 : Value) (rotors1_1 : Value) (p2_1 : Value) (h : Heap) (K : Value → Heap → Prop) : Prop :=
  eop P (Instr.box 32 g0_1) h fun g3_1 h_1 =>
  pop P (Instr.fieldAt 32 g3_1 0) fun t7_1 =>
  rop P (Instr.loadAt 22 t7_1) h_1 fun t8_1 =>
  pop P (Instr.indexAt 22 t8_1 p2_1) fun t10_1 =>
  rop P (Instr.loadAt 27 t10_1) h_1 fun t11_1 =>
  pop P (lenS 27 3 t11_1) fun t12_1 =>
  pop P (binE .eql 3 (.tmp 12) (.const (Value.int IntKind.i64 0)) t12_1 (Value.int IntKind.i64 0)) fun t13_1 =>
  condM t13_1
  (K (Value.int IntKind.i64 (-1)) h_1)
  (pop P (Instr.fieldAt 32 g3_1 0) fun t14_1 =>
  rop P (Instr.loadAt 22 t14_1) h_1 fun t15_1 =>
  pop P (Instr.indexAt 22 t15_1 p2_1) fun t17_1 =>
  rop P (Instr.loadAt 27 t17_1) h_1 fun t18_1 =>
  pop P (Instr.indexAt 27 rotors1_1 p2_1) fun t21_1 =>
  rop P (Instr.loadAt 3 t21_1) h_1 fun t22_1 =>
  pop P (Instr.indexAt 27 t18_1 t22_1) fun t23_1 =>
  rop P (Instr.loadAt 3 t23_1) h_1 fun t24_1 =>
  K t24_1 h_1)
theorem e143 (g0_1 : Value) (rotors1_1 : Value) (p2_1 : Value) (h : Heap) (K : Value → Heap → Prop) : wpA Try.prog 25 (anOf []) (bodyOf Try.f143) 1 (fun A h => resA Try.prog A h K [.tmp 6]) (fun _ _ _ => False) (fun A h => resA Try.prog A h K [.tmp 6]) (aargs [g0_1, rotors1_1, p2_1] 0) h = t143 Try.prog g0_1 rotors1_1 p2_1 h K := by kernel_rfl
theorem c143 (g0_1 : Value) (rotors1_1 : Value) (p2_1 : Value) (h : Heap) (K : Value → Heap → Prop) (H : t143 Try.prog g0_1 rotors1_1 p2_1 h K) : callM Try.prog 143 #[g0_1, rotors1_1, p2_1] h K :=
  callM_of_wpA mixed (fn := Try.f143) Try.func143 (c := bodyOf Try.f143) rfl (of_decide_eq_true (by kernel_rfl)) (anOf []) 22 25 (by kernel_rfl) rfl [.tmp 6] (by kernel_rfl) (args := [g0_1, rotors1_1, p2_1]) (by rw [e143]; exact H)

end Go.Proofs.Ytkjkfjkapbpgiaa
