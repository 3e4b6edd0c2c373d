/-
  What each function that the law 'FnExactStepsByWalks' comes to asks of the heap, named; tied to the loaded program by the kernel. Written by a program.
-/
import Derived.Test.YtkjkfjkapbpgiaaProg
import Derived.Test.YtkjkfjkapbpgiaaM1
set_option linter.unusedVariables false
namespace Go.Proofs.Ytkjkfjkapbpgiaa
open Go Go.Mx
theorem mixed : Try.prog.follows .mixedOrders = true := by kernel_rfl
/-! laws.FnExactStepsByWalks -/
def t4 (P : Program) (aG0_1 : Value) (aSink1_1 : Value) (aS2_1 : Value) (aOrder3_1 : Value) (h : Heap) (K : Value → Heap → Prop) : Prop :=
  eop P (Instr.box 24 aG0_1) h fun aG4_1 h_1 =>
  eop P (Instr.box 26 aS2_1) h_1 fun aS6_1 h_2 =>
  pop P (lenS 27 3 aOrder3_1) fun t18_1 =>
  pop P (binA .gtr 3 t18_1 (Value.int IntKind.i64 1048576)) fun t19_1 =>
  condM t19_1
  (K (Value.bool true) h_2)
  (rop P (Instr.loadAt 24 aG4_1) h_2 fun t20_1 =>
  callM P 7 #[t20_1, (Value.int IntKind.i64 1048576)] h_2 fun t22_1 h_3 =>
  pop P (binA .lss 3 t22_1 (Value.int IntKind.i64 0)) fun t24_1 =>
  condM t24_1
  (K (Value.bool true) h_3)
  (rop P (Instr.loadAt 26 aS6_1) h_3 fun t25_1 =>
  callM P 8 #[t25_1, t22_1] h_3 fun t27_1 h_4 =>
  pop P (binA .lss 3 t27_1 (Value.int IntKind.i64 0)) fun t29_1 =>
  condM t29_1
  (K (Value.bool true) h_4)
  (rop P (Instr.loadAt 24 aG4_1) h_4 fun t31_1 =>
  rop P (Instr.loadAt 26 aS6_1) h_4 fun t34_1 =>
  callM P 10 #[t31_1] h_4 fun t32_1 h_5 =>
  (∀ w : World, w.heap = h_5 → (Instr.loadAt 26 aS6_1).run P w = .ok t34_1 w) ∧
  callM P 11 #[t34_1] h_5 fun t35_1 h_6 =>
  callM P 12 #[aOrder3_1] h_6 fun t37_1 h_7 =>
  callM P 21 #[t32_1, aSink1_1, t35_1, t37_1] h_7 fun t38_1 h_8 =>
  pop P (Instr.extract t38_1 0) fun t39_1 =>
  pop P (Instr.extract t38_1 1) fun t40_1 =>
  rop P (Instr.loadAt 24 aG4_1) h_8 fun t41_1 =>
  callM P 10 #[t41_1] h_8 fun t42_1 h_9 =>
  eop P (Instr.alloc 32 true (.tuple #[])) h_9 fun x012_1 h_10 =>
  uop P (Instr.storeAt 32 x012_1 t42_1) h_10 fun u_1 h_11 =>
  rop P (Instr.loadAt 26 aS6_1) h_11 fun t43_1 =>
  callM P 11 #[t43_1] h_11 fun t44_1 h_12 =>
  eop P (Instr.alloc 34 true (.tuple #[])) h_12 fun x213_1 h_13 =>
  uop P (Instr.storeAt 34 x213_1 t44_1) h_13 fun u_2 h_14 =>
  callM P 12 #[aOrder3_1] h_14 fun t46_1 h_15 =>
  rop P (Instr.loadAt 32 x012_1) h_15 fun t48_1 =>
  rop P (Instr.loadAt 34 x213_1) h_15 fun t50_1 =>
  callM P 22 #[t48_1, aSink1_1, t50_1, t46_1] h_15 fun t52_1 h_16 =>
  pop P (Instr.extract t52_1 0) fun t53_1 =>
  pop P (Instr.extract t52_1 1) fun t54_1 =>
  pop P (binE .neq 3 (.tmp 55) (.tmp 56) t53_1 t39_1) fun t57_1 =>
  guardM (asG t57_1 false) false (fun k_1 => k_1 t54_1 h_16) h_16 fun t59_1 h_17 =>
  guardM (asG t57_1 false) false (fun k_2 => k_2 t40_1 h_17) h_17 fun t60_1 h_18 =>
  guardM (asG t57_1 false) false (fun k_3 => pop P (binE .neq 4 (.tmp 59) (.tmp 60) t59_1 t60_1) fun t61_1 =>
  k_3 t61_1 h_18) h_18 fun t61_2 h_19 =>
  pop P (pickS t57_1 (Value.bool true) t61_2) fun t62_1 =>
  condM t62_1
  (K (Value.bool false) h_19)
  (rop P (Instr.loadAt 32 x012_1) h_19 fun t63_1 =>
  rop P (Instr.loadAt 24 aG4_1) h_19 fun t64_1 =>
  callM P 10 #[t64_1] h_19 fun t65_1 h_20 =>
  (∀ w : World, w.heap = h_20 → (Instr.loadAt 32 x012_1).run P w = .ok t63_1 w) ∧
  callM P 15 #[t63_1, t65_1] h_20 fun t66_1 h_21 =>
  pop P (Op.unary .not t66_1) fun t67_1 =>
  condM t67_1
  (K (Value.bool false) h_21)
  (rop P (Instr.loadAt 34 x213_1) h_21 fun t68_1 =>
  rop P (Instr.loadAt 26 aS6_1) h_21 fun t69_1 =>
  callM P 11 #[t69_1] h_21 fun t70_1 h_22 =>
  (∀ w : World, w.heap = h_22 → (Instr.loadAt 34 x213_1).run P w = .ok t68_1 w) ∧
  callM P 16 #[t68_1, t70_1] h_22 fun t71_1 h_23 =>
  pop P (Op.unary .not t71_1) fun t72_1 =>
  condM t72_1
  (K (Value.bool false) h_23)
  (callM P 12 #[aOrder3_1] h_23 fun t75_1 h_24 =>
  callM P 14 #[t46_1, t75_1] h_24 fun t76_1 h_25 =>
  pop P (Op.unary .not t76_1) fun t77_1 =>
  condM t77_1
  (K (Value.bool false) h_25)
  (K (Value.bool true) h_25)))))))
theorem e4 (aG0_1 : Value) (aSink1_1 : Value) (aS2_1 : Value) (aOrder3_1 : Value) (h : Heap) (K : Value → Heap → Prop) : wpA Try.prog 78 (anOf []) (bodyOf Try.f4) 1 (fun A h => resA Try.prog A h K [.tmp 8]) (fun _ _ _ => False) (fun A h => resA Try.prog A h K [.tmp 8]) (aargs [aG0_1, aSink1_1, aS2_1, aOrder3_1] 0) h = t4 Try.prog aG0_1 aSink1_1 aS2_1 aOrder3_1 h K := by kernel_rfl
theorem c4 (aG0_1 : Value) (aSink1_1 : Value) (aS2_1 : Value) (aOrder3_1 : Value) (h : Heap) (K : Value → Heap → Prop) (H : t4 Try.prog aG0_1 aSink1_1 aS2_1 aOrder3_1 h K) : callM Try.prog 4 #[aG0_1, aSink1_1, aS2_1, aOrder3_1] h K :=
  callM_of_wpA mixed (fn := Try.f4) Try.func4 (c := bodyOf Try.f4) rfl (of_decide_eq_true (by kernel_rfl)) (anOf []) 74 78 (by kernel_rfl) rfl [.tmp 8] (by kernel_rfl) (args := [aG0_1, aSink1_1, aS2_1, aOrder3_1]) (by rw [e4]; exact H)

/-! laws.szGraph -/
def t7 (P : Program) (a0_1 : Value) (left1_1 : Value) (h : Heap) (K : Value → Heap → Prop) : Prop :=
  eop P (Instr.box 24 a0_1) h fun a2_1 h_1 =>
  pop P (Instr.fieldAt 24 a2_1 0) fun t5_1 =>
  rop P (Instr.loadAt 22 t5_1) h_1 fun t6_1 =>
  callM P 50 #[t6_1, left1_1] h_1 fun t8_1 h_2 =>
  pop P (binA .lss 3 t8_1 (Value.int IntKind.i64 0)) fun t10_1 =>
  condM t10_1
  (K (Value.int IntKind.i64 (-1)) h_2)
  (K t8_1 h_2)
theorem e7 (a0_1 : Value) (left1_1 : Value) (h : Heap) (K : Value → Heap → Prop) : wpA Try.prog 12 (anOf []) (bodyOf Try.f7) 1 (fun A h => resA Try.prog A h K [.tmp 4]) (fun _ _ _ => False) (fun A h => resA Try.prog A h K [.tmp 4]) (aargs [a0_1, left1_1] 0) h = t7 Try.prog a0_1 left1_1 h K := by kernel_rfl
theorem c7 (a0_1 : Value) (left1_1 : Value) (h : Heap) (K : Value → Heap → Prop) (H : t7 Try.prog a0_1 left1_1 h K) : callM Try.prog 7 #[a0_1, left1_1] h K :=
  callM_of_wpA mixed (fn := Try.f7) Try.func7 (c := bodyOf Try.f7) rfl (of_decide_eq_true (by kernel_rfl)) (anOf []) 10 12 (by kernel_rfl) rfl [.tmp 4] (by kernel_rfl) (args := [a0_1, left1_1]) (by rw [e7]; exact H)

/-! laws.szStacks -/
def t8 (P : Program) (a0_1 : Value) (left1_1 : Value) (h : Heap) (K : Value → Heap → Prop) : Prop :=
  eop P (Instr.box 26 a0_1) h fun a2_1 h_1 =>
  pop P (Instr.fieldAt 26 a2_1 0) fun t5_1 =>
  rop P (Instr.loadAt 22 t5_1) h_1 fun t6_1 =>
  callM P 50 #[t6_1, left1_1] h_1 fun t8_1 h_2 =>
  pop P (binA .lss 3 t8_1 (Value.int IntKind.i64 0)) fun t10_1 =>
  condM t10_1
  (K (Value.int IntKind.i64 (-1)) h_2)
  (K t8_1 h_2)
theorem e8 (a0_1 : Value) (left1_1 : Value) (h : Heap) (K : Value → Heap → Prop) : wpA Try.prog 12 (anOf []) (bodyOf Try.f8) 1 (fun A h => resA Try.prog A h K [.tmp 4]) (fun _ _ _ => False) (fun A h => resA Try.prog A h K [.tmp 4]) (aargs [a0_1, left1_1] 0) h = t8 Try.prog a0_1 left1_1 h K := by kernel_rfl
theorem c8 (a0_1 : Value) (left1_1 : Value) (h : Heap) (K : Value → Heap → Prop) (H : t8 Try.prog a0_1 left1_1 h K) : callM Try.prog 8 #[a0_1, left1_1] h K :=
  callM_of_wpA mixed (fn := Try.f8) Try.func8 (c := bodyOf Try.f8) rfl (of_decide_eq_true (by kernel_rfl)) (anOf []) 10 12 (by kernel_rfl) rfl [.tmp 4] (by kernel_rfl) (args := [a0_1, left1_1]) (by rw [e8]; exact H)

/-! laws.toGraph -/
def t10 (P : Program) (a0_1 : Value) (h : Heap) (K : Value → Heap → Prop) : Prop :=
  eop P (Instr.box 24 a0_1) h fun a1_1 h_1 =>
  eop P (Instr.alloc 32 true (.tuple #[])) h_1 fun t2_1 h_2 =>
  eop P (Instr.alloc 32 true (.tuple #[])) h_2 fun out3_1 h_3 =>
  pop P (Instr.fieldAt 24 a1_1 0) fun t4_1 =>
  rop P (Instr.loadAt 22 t4_1) h_3 fun t5_1 =>
  callM P 55 #[t5_1] h_3 fun t6_1 h_4 =>
  pop P (Instr.fieldAt 32 out3_1 0) fun t7_1 =>
  uop P (Instr.storeAt 22 t7_1 t6_1) h_4 fun u_1 h_5 =>
  rop P (Instr.loadAt 32 out3_1) h_5 fun t8_1 =>
  uop P (Instr.storeAt 32 t2_1 t8_1) h_5 fun u_2 h_6 =>
  rop P (Instr.loadAt 32 t2_1) h_6 fun r_1 =>
  K r_1 h_6
theorem e10 (a0_1 : Value) (h : Heap) (K : Value → Heap → Prop) : wpA Try.prog 9 (anOf []) (bodyOf Try.f10) 1 (fun A h => resA Try.prog A h K [.cell 2 32]) (fun _ _ _ => False) (fun A h => resA Try.prog A h K [.cell 2 32]) (aargs [a0_1] 0) h = t10 Try.prog a0_1 h K := by kernel_rfl
theorem c10 (a0_1 : Value) (h : Heap) (K : Value → Heap → Prop) (H : t10 Try.prog a0_1 h K) : callM Try.prog 10 #[a0_1] h K :=
  callM_of_wpA mixed (fn := Try.f10) Try.func10 (c := bodyOf Try.f10) rfl (of_decide_eq_true (by kernel_rfl)) (anOf []) 8 9 (by kernel_rfl) rfl [.cell 2 32] (by kernel_rfl) (args := [a0_1]) (by rw [e10]; exact H)

/-! laws.toStacks -/
def t11 (P : Program) (a0_1 : Value) (h : Heap) (K : Value → Heap → Prop) : Prop :=
  eop P (Instr.box 26 a0_1) h fun a1_1 h_1 =>
  eop P (Instr.alloc 34 true (.tuple #[])) h_1 fun t2_1 h_2 =>
  eop P (Instr.alloc 34 true (.tuple #[])) h_2 fun out3_1 h_3 =>
  pop P (Instr.fieldAt 26 a1_1 0) fun t4_1 =>
  rop P (Instr.loadAt 22 t4_1) h_3 fun t5_1 =>
  callM P 55 #[t5_1] h_3 fun t6_1 h_4 =>
  pop P (Instr.fieldAt 34 out3_1 0) fun t7_1 =>
  uop P (Instr.storeAt 22 t7_1 t6_1) h_4 fun u_1 h_5 =>
  rop P (Instr.loadAt 34 out3_1) h_5 fun t8_1 =>
  uop P (Instr.storeAt 34 t2_1 t8_1) h_5 fun u_2 h_6 =>
  rop P (Instr.loadAt 34 t2_1) h_6 fun r_1 =>
  K r_1 h_6
theorem e11 (a0_1 : Value) (h : Heap) (K : Value → Heap → Prop) : wpA Try.prog 9 (anOf []) (bodyOf Try.f11) 1 (fun A h => resA Try.prog A h K [.cell 2 34]) (fun _ _ _ => False) (fun A h => resA Try.prog A h K [.cell 2 34]) (aargs [a0_1] 0) h = t11 Try.prog a0_1 h K := by kernel_rfl
theorem c11 (a0_1 : Value) (h : Heap) (K : Value → Heap → Prop) (H : t11 Try.prog a0_1 h K) : callM Try.prog 11 #[a0_1] h K :=
  callM_of_wpA mixed (fn := Try.f11) Try.func11 (c := bodyOf Try.f11) rfl (of_decide_eq_true (by kernel_rfl)) (anOf []) 8 9 (by kernel_rfl) rfl [.cell 2 34] (by kernel_rfl) (args := [a0_1]) (by rw [e11]; exact H)

/-! laws.toIntS -/
def t12 (P : Program) (a0_1 : Value) (h : Heap) (K : Value → Heap → Prop) : Prop :=
  pop P (lenS 27 3 a0_1) fun t6_1 =>
  eop P (Instr.makeSlice 27 t6_1 t6_1) h fun t7_1 h_1 =>
  ∃ (I_1 : List Value → Heap → Prop) (μ_1 : List Value → Heap → Nat), I_1 [(Value.int IntKind.i64 0)] h_1 ∧
  ∀ (junk_1 : Nat → Value) (i4_1 : Value) (h_2 : Heap), I_1 [i4_1] h_2 →
  pop P (lenS 27 3 a0_1) fun t10_1 =>
  pop P (binA .lss 3 i4_1 t10_1) fun t11_1 =>
  condM t11_1
  (pop P (Instr.indexAt 27 a0_1 i4_1) fun t18_1 =>
  rop P (Instr.loadAt 3 t18_1) h_2 fun t19_1 =>
  pop P (Instr.indexAt 27 t7_1 i4_1) fun t20_1 =>
  uop P (Instr.storeAt 3 t20_1 t19_1) h_2 fun u_1 h_3 =>
  pop P (binA .add 3 i4_1 (Value.int IntKind.i64 1)) fun t13_1 =>
  I_1 [t13_1] h_3 ∧ μ_1 [t13_1] h_3 < μ_1 [i4_1] h_2)
  (K t7_1 h_2)
theorem e12 (a0_1 : Value) (h : Heap) (K : Value → Heap → Prop) : wpA Try.prog 22 (anOf [(58, [4])]) (bodyOf Try.f12) 1 (fun A h => resA Try.prog A h K [.tmp 2]) (fun _ _ _ => False) (fun A h => resA Try.prog A h K [.tmp 2]) (aargs [a0_1] 0) h = t12 Try.prog a0_1 h K := by kernel_rfl
theorem c12 (a0_1 : Value) (h : Heap) (K : Value → Heap → Prop) (H : t12 Try.prog a0_1 h K) : callM Try.prog 12 #[a0_1] h K :=
  callM_of_wpA mixed (fn := Try.f12) Try.func12 (c := bodyOf Try.f12) rfl (of_decide_eq_true (by kernel_rfl)) (anOf [(58, [4])]) 21 22 (by kernel_rfl) rfl [.tmp 2] (by kernel_rfl) (args := [a0_1]) (by rw [e12]; exact H)

/-! laws.eqIntS -/
def t14 (P : Program) (a0_1 : Value) (b1_1 : Value) (h : Heap) (K : Value → Heap → Prop) : Prop :=
  pop P (lenS 27 3 a0_1) fun t7_1 =>
  pop P (lenS 27 3 b1_1) fun t9_1 =>
  pop P (binE .neq 3 (.tmp 7) (.tmp 9) t7_1 t9_1) fun t10_1 =>
  condM t10_1
  (K (Value.bool false) h)
  (∃ (I_1 : List Value → Heap → Prop) (μ_1 : List Value → Heap → Nat), I_1 [(Value.int IntKind.i64 0)] h ∧
  ∀ (junk_1 : Nat → Value) (i5_1 : Value) (h_1 : Heap), I_1 [i5_1] h_1 →
  pop P (lenS 27 3 a0_1) fun t13_1 =>
  pop P (binA .lss 3 i5_1 t13_1) fun t14_1 =>
  condM t14_1
  (pop P (Instr.indexAt 27 a0_1 i5_1) fun t19_1 =>
  rop P (Instr.loadAt 3 t19_1) h_1 fun t20_1 =>
  pop P (Instr.indexAt 27 b1_1 i5_1) fun t23_1 =>
  rop P (Instr.loadAt 3 t23_1) h_1 fun t24_1 =>
  pop P (binE .neq 3 (.tmp 20) (.tmp 24) t20_1 t24_1) fun t25_1 =>
  condM t25_1
  (K (Value.bool false) h_1)
  (pop P (binA .add 3 i5_1 (Value.int IntKind.i64 1)) fun t16_1 =>
  I_1 [t16_1] h_1 ∧ μ_1 [t16_1] h_1 < μ_1 [i5_1] h_1))
  (K (Value.bool true) h_1))
theorem e14 (a0_1 : Value) (b1_1 : Value) (h : Heap) (K : Value → Heap → Prop) : wpA Try.prog 26 (anOf [(58, [5])]) (bodyOf Try.f14) 1 (fun A h => resA Try.prog A h K [.tmp 4]) (fun _ _ _ => False) (fun A h => resA Try.prog A h K [.tmp 4]) (aargs [a0_1, b1_1] 0) h = t14 Try.prog a0_1 b1_1 h K := by kernel_rfl
theorem c14 (a0_1 : Value) (b1_1 : Value) (h : Heap) (K : Value → Heap → Prop) (H : t14 Try.prog a0_1 b1_1 h K) : callM Try.prog 14 #[a0_1, b1_1] h K :=
  callM_of_wpA mixed (fn := Try.f14) Try.func14 (c := bodyOf Try.f14) rfl (of_decide_eq_true (by kernel_rfl)) (anOf [(58, [5])]) 24 26 (by kernel_rfl) rfl [.tmp 4] (by kernel_rfl) (args := [a0_1, b1_1]) (by rw [e14]; exact H)

/-! laws.eqGraph -/
def t15 (P : Program) (a0_1 : Value) (b1_1 : Value) (h : Heap) (K : Value → Heap → Prop) : Prop :=
  eop P (Instr.box 32 a0_1) h fun a2_1 h_1 =>
  eop P (Instr.box 32 b1_1) h_1 fun b3_1 h_2 =>
  pop P (Instr.fieldAt 32 a2_1 0) fun t5_1 =>
  rop P (Instr.loadAt 22 t5_1) h_2 fun t6_1 =>
  pop P (Instr.fieldAt 32 b3_1 0) fun t7_1 =>
  rop P (Instr.loadAt 22 t7_1) h_2 fun t8_1 =>
  callM P 59 #[t6_1, t8_1] h_2 fun t9_1 h_3 =>
  pop P (Op.unary .not t9_1) fun t10_1 =>
  condM t10_1
  (K (Value.bool false) h_3)
  (K (Value.bool true) h_3)
theorem e15 (a0_1 : Value) (b1_1 : Value) (h : Heap) (K : Value → Heap → Prop) : wpA Try.prog 11 (anOf []) (bodyOf Try.f15) 1 (fun A h => resA Try.prog A h K [.tmp 4]) (fun _ _ _ => False) (fun A h => resA Try.prog A h K [.tmp 4]) (aargs [a0_1, b1_1] 0) h = t15 Try.prog a0_1 b1_1 h K := by kernel_rfl
theorem c15 (a0_1 : Value) (b1_1 : Value) (h : Heap) (K : Value → Heap → Prop) (H : t15 Try.prog a0_1 b1_1 h K) : callM Try.prog 15 #[a0_1, b1_1] h K :=
  callM_of_wpA mixed (fn := Try.f15) Try.func15 (c := bodyOf Try.f15) rfl (of_decide_eq_true (by kernel_rfl)) (anOf []) 9 11 (by kernel_rfl) rfl [.tmp 4] (by kernel_rfl) (args := [a0_1, b1_1]) (by rw [e15]; exact H)

/-! laws.eqStacks -/
def t16 (P : Program) (a0_1 : Value) (b1_1 : Value) (h : Heap) (K : Value → Heap → Prop) : Prop :=
  eop P (Instr.box 34 a0_1) h fun a2_1 h_1 =>
  eop P (Instr.box 34 b1_1) h_1 fun b3_1 h_2 =>
  pop P (Instr.fieldAt 34 a2_1 0) fun t5_1 =>
  rop P (Instr.loadAt 22 t5_1) h_2 fun t6_1 =>
  pop P (Instr.fieldAt 34 b3_1 0) fun t7_1 =>
  rop P (Instr.loadAt 22 t7_1) h_2 fun t8_1 =>
  callM P 59 #[t6_1, t8_1] h_2 fun t9_1 h_3 =>
  pop P (Op.unary .not t9_1) fun t10_1 =>
  condM t10_1
  (K (Value.bool false) h_3)
  (K (Value.bool true) h_3)
theorem e16 (a0_1 : Value) (b1_1 : Value) (h : Heap) (K : Value → Heap → Prop) : wpA Try.prog 11 (anOf []) (bodyOf Try.f16) 1 (fun A h => resA Try.prog A h K [.tmp 4]) (fun _ _ _ => False) (fun A h => resA Try.prog A h K [.tmp 4]) (aargs [a0_1, b1_1] 0) h = t16 Try.prog a0_1 b1_1 h K := by kernel_rfl
theorem c16 (a0_1 : Value) (b1_1 : Value) (h : Heap) (K : Value → Heap → Prop) (H : t16 Try.prog a0_1 b1_1 h K) : callM Try.prog 16 #[a0_1, b1_1] h K :=
  callM_of_wpA mixed (fn := Try.f16) Try.func16 (c := bodyOf Try.f16) rfl (of_decide_eq_true (by kernel_rfl)) (anOf []) 9 11 (by kernel_rfl) rfl [.tmp 4] (by kernel_rfl) (args := [a0_1, b1_1]) (by rw [e16]; exact H)

/-! spec.StepsByWalks -/
def t21 (P : Program) (g0_1 : Value) (sink1_1 : Value) (s2_1 : Value) (order3_1 : Value) (h : Heap) (K : Value → Heap → Prop) : Prop :=
  eop P (Instr.box 32 g0_1) h fun g4_1 h_1 =>
  eop P (Instr.box 34 s2_1) h_1 fun s6_1 h_2 =>
  rop P (Instr.loadAt 32 g4_1) h_2 fun t16_1 =>
  rop P (Instr.loadAt 34 s6_1) h_2 fun t18_1 =>
  callM P 51 #[t16_1, sink1_1, t18_1] h_2 fun t19_1 h_3 =>
  pop P (Op.unary .not t19_1) fun t20_1 =>
  guardM (asG t20_1 false) false (fun k_1 => k_1 order3_1 h_3) h_3 fun t22_1 h_4 =>
  guardM (asG t20_1 false) false (fun k_2 => pop P (Instr.fieldAt 32 g4_1 0) fun t23_1 =>
  k_2 t23_1 h_4) h_4 fun t23_2 h_5 =>
  guardM (asG t20_1 false) false (fun k_3 => rop P (Instr.loadAt 22 t23_2) h_5 fun t24_1 =>
  k_3 t24_1 h_5) h_5 fun t24_2 h_6 =>
  guardM (asG t20_1 false) false (fun k_4 => pop P (lenS 22 3 t24_2) fun t25_1 =>
  k_4 t25_1 h_6) h_6 fun t25_2 h_7 =>
  guardM (asG t20_1 false) false (fun k_5 => callM P 52 #[t22_1, t25_2] h_7 fun t26_1 h_8 =>
  k_5 t26_1 h_8) h_7 fun t26_2 h_9 =>
  guardM (asG t20_1 false) false (fun k_6 => pop P (Op.unary .not t26_2) fun t27_1 =>
  k_6 t27_1 h_9) h_9 fun t27_2 h_10 =>
  pop P (pickS t20_1 (Value.bool true) t27_2) fun t28_1 =>
  condM t28_1
  (K (.tuple #[(Value.int IntKind.i64 0), (Value.bool false)]) h_10)
  (rop P (Instr.loadAt 32 g4_1) h_10 fun t30_1 =>
  rop P (Instr.loadAt 34 s6_1) h_10 fun t32_1 =>
  callM P 53 #[t30_1, sink1_1, t32_1, (Value.slice none 0 0)] h_10 fun t33_1 h_11 =>
  pop P (Instr.extract t33_1 0) fun t34_1 =>
  pop P (Instr.extract t33_1 1) fun t35_1 =>
  pop P (Instr.extract t33_1 2) fun t36_1 =>
  eop P (Instr.alloc 34 true (.tuple #[])) h_11 fun _10_1 h_12 =>
  uop P (Instr.storeAt 34 _10_1 t34_1) h_12 fun u_1 h_13 =>
  pop P (Op.unary .not t36_1) fun t38_1 =>
  condM t38_1
  (K (.tuple #[(Value.int IntKind.i64 0), (Value.bool false)]) h_13)
  (rop P (Instr.loadAt 32 g4_1) h_13 fun t40_1 =>
  rop P (Instr.loadAt 34 s6_1) h_13 fun t42_1 =>
  callM P 54 #[t40_1, sink1_1, t42_1, order3_1] h_13 fun t44_1 h_14 =>
  pop P (Instr.extract t44_1 0) fun t45_1 =>
  pop P (Instr.extract t44_1 1) fun t46_1 =>
  pop P (Instr.extract t44_1 2) fun t47_1 =>
  pop P (Op.unary .not t47_1) fun t49_1 =>
  condM t49_1
  (K (.tuple #[(Value.int IntKind.i64 0), (Value.bool false)]) h_14)
  (K (.tuple #[t46_1, (Value.bool true)]) h_14)))
theorem e21 (g0_1 : Value) (sink1_1 : Value) (s2_1 : Value) (order3_1 : Value) (h : Heap) (K : Value → Heap → Prop) : wpA Try.prog 51 (anOf []) (bodyOf Try.f21) 1 (fun A h => resA Try.prog A h K [.tmp 8, .tmp 9]) (fun _ _ _ => False) (fun A h => resA Try.prog A h K [.tmp 8, .tmp 9]) (aargs [g0_1, sink1_1, s2_1, order3_1] 0) h = t21 Try.prog g0_1 sink1_1 s2_1 order3_1 h K := by kernel_rfl
theorem c21 (g0_1 : Value) (sink1_1 : Value) (s2_1 : Value) (order3_1 : Value) (h : Heap) (K : Value → Heap → Prop) (H : t21 Try.prog g0_1 sink1_1 s2_1 order3_1 h K) : callM Try.prog 21 #[g0_1, sink1_1, s2_1, order3_1] h K :=
  callM_of_wpA mixed (fn := Try.f21) Try.func21 (c := bodyOf Try.f21) rfl (of_decide_eq_true (by kernel_rfl)) (anOf []) 47 51 (by kernel_rfl) rfl [.tmp 8, .tmp 9] (by kernel_rfl) (args := [g0_1, sink1_1, s2_1, order3_1]) (by rw [e21]; exact H)

/-! impl.StepsByWalks -/
def t22 (P : Program) (g0_1 : Value) (sink1_1 : Value) (s2_1 : Value) (order3_1 : Value) (h : Heap) (K : Value → Heap → Prop) : Prop :=
  eop P (Instr.box 32 g0_1) h fun g4_1 h_1 =>
  eop P (Instr.box 34 s2_1) h_1 fun s6_1 h_2 =>
  rop P (Instr.loadAt 32 g4_1) h_2 fun t12_1 =>
  callM P 56 #[t12_1] h_2 fun t13_1 h_3 =>
  pop P (Op.unary .not t13_1) fun t14_1 =>
  guardM (asG t14_1 false) false (fun k_1 => rop P (Instr.loadAt 32 g4_1) h_3 fun t16_1 =>
  k_1 t16_1 h_3) h_3 fun t16_2 h_4 =>
  guardM (asG t14_1 false) false (fun k_2 => k_2 order3_1 h_4) h_4 fun t17_1 h_5 =>
  guardM (asG t14_1 false) false (fun k_3 => callM P 57 #[t16_2, t17_1] h_5 fun t18_1 h_6 =>
  k_3 t18_1 h_6) h_5 fun t18_2 h_7 =>
  guardM (asG t14_1 false) false (fun k_4 => pop P (Op.unary .not t18_2) fun t19_1 =>
  k_4 t19_1 h_7) h_7 fun t19_2 h_8 =>
  pop P (pickS t14_1 (Value.bool true) t19_2) fun t20_1 =>
  condM t20_1
  (K (.tuple #[(Value.int IntKind.i64 0), (Value.bool false)]) h_8)
  (rop P (Instr.loadAt 32 g4_1) h_8 fun t22_1 =>
  rop P (Instr.loadAt 34 s6_1) h_8 fun t24_1 =>
  callM P 61 #[t22_1, sink1_1, t24_1] h_8 fun t25_1 h_9 =>
  pop P (Instr.extract t25_1 0) fun t26_1 =>
  pop P (Instr.extract t25_1 1) fun t27_1 =>
  pop P (Op.unary .not t27_1) fun t29_1 =>
  condM t29_1
  (K (.tuple #[(Value.int IntKind.i64 0), (Value.bool false)]) h_9)
  (pop P (Instr.fieldAt 32 g4_1 0) fun t32_1 =>
  rop P (Instr.loadAt 22 t32_1) h_9 fun t33_1 =>
  pop P (lenS 22 3 t33_1) fun t34_1 =>
  callM P 62 #[t26_1] h_9 fun t31_1 h_10 =>
  (∀ w : World, w.heap = h_10 → (Instr.loadAt 22 t32_1).run P w = .ok t33_1 w) ∧
  pop P (binA .add 3 t31_1 t34_1) fun t35_1 =>
  pop P (binA .sub 3 t35_1 (Value.int IntKind.i64 1)) fun t36_1 =>
  K (.tuple #[t36_1, (Value.bool true)]) h_10))
theorem e22 (g0_1 : Value) (sink1_1 : Value) (s2_1 : Value) (order3_1 : Value) (h : Heap) (K : Value → Heap → Prop) : wpA Try.prog 37 (anOf []) (bodyOf Try.f22) 1 (fun A h => resA Try.prog A h K [.tmp 8, .tmp 9]) (fun _ _ _ => False) (fun A h => resA Try.prog A h K [.tmp 8, .tmp 9]) (aargs [g0_1, sink1_1, s2_1, order3_1] 0) h = t22 Try.prog g0_1 sink1_1 s2_1 order3_1 h K := by kernel_rfl
theorem c22 (g0_1 : Value) (sink1_1 : Value) (s2_1 : Value) (order3_1 : Value) (h : Heap) (K : Value → Heap → Prop) (H : t22 Try.prog g0_1 sink1_1 s2_1 order3_1 h K) : callM Try.prog 22 #[g0_1, sink1_1, s2_1, order3_1] h K :=
  callM_of_wpA mixed (fn := Try.f22) Try.func22 (c := bodyOf Try.f22) rfl (of_decide_eq_true (by kernel_rfl)) (anOf []) 33 37 (by kernel_rfl) rfl [.tmp 8, .tmp 9] (by kernel_rfl) (args := [g0_1, sink1_1, s2_1, order3_1]) (by rw [e22]; exact H)

/-! laws.szIntSS -/
def t50 (P : Program) (a0_1 : Value) (left1_1 : Value) (h : Heap) (K : Value → Heap → Prop) : Prop :=
  pop P (lenS 22 3 a0_1) fun t8_1 =>
  pop P (binA .sub 3 left1_1 t8_1) fun t9_1 =>
  pop P (binA .lss 3 t9_1 (Value.int IntKind.i64 0)) fun t11_1 =>
  condM t11_1
  (K (Value.int IntKind.i64 (-1)) h)
  (∃ (I_1 : List Value → Heap → Prop) (μ_1 : List Value → Heap → Nat), I_1 [t9_1, (Value.int IntKind.i64 0)] h ∧
  ∀ (junk_1 : Nat → Value) (left1_2 : Value) (i5_1 : Value) (h_1 : Heap), I_1 [left1_2, i5_1] h_1 →
  pop P (lenS 22 3 a0_1) fun t14_1 =>
  pop P (binA .lss 3 i5_1 t14_1) fun t15_1 =>
  condM t15_1
  (pop P (Instr.indexAt 22 a0_1 i5_1) fun t20_1 =>
  rop P (Instr.loadAt 27 t20_1) h_1 fun t21_1 =>
  callM P 95 #[t21_1, left1_2] h_1 fun t23_1 h_2 =>
  pop P (binA .lss 3 t23_1 (Value.int IntKind.i64 0)) fun t25_1 =>
  condM t25_1
  (K (Value.int IntKind.i64 (-1)) h_2)
  (pop P (binA .add 3 i5_1 (Value.int IntKind.i64 1)) fun t17_1 =>
  I_1 [t23_1, t17_1] h_2 ∧ μ_1 [t23_1, t17_1] h_2 < μ_1 [left1_2, i5_1] h_1))
  (K left1_2 h_1))
theorem e50 (a0_1 : Value) (left1_1 : Value) (h : Heap) (K : Value → Heap → Prop) : wpA Try.prog 27 (anOf [(122, [1, 5])]) (bodyOf Try.f50) 1 (fun A h => resA Try.prog A h K [.tmp 4]) (fun _ _ _ => False) (fun A h => resA Try.prog A h K [.tmp 4]) (aargs [a0_1, left1_1] 0) h = t50 Try.prog a0_1 left1_1 h K := by kernel_rfl
theorem c50 (a0_1 : Value) (left1_1 : Value) (h : Heap) (K : Value → Heap → Prop) (H : t50 Try.prog a0_1 left1_1 h K) : callM Try.prog 50 #[a0_1, left1_1] h K :=
  callM_of_wpA mixed (fn := Try.f50) Try.func50 (c := bodyOf Try.f50) rfl (of_decide_eq_true (by kernel_rfl)) (anOf [(122, [1, 5])]) 25 27 (by kernel_rfl) rfl [.tmp 4] (by kernel_rfl) (args := [a0_1, left1_1]) (by rw [e50]; exact H)

/-! spec.skGood -/
def t51 (P : Program) (g0_1 : Value) (sink1_1 : Value) (s2_1 : Value) (h : Heap) (K : Value → Heap → Prop) : Prop :=
  eop P (Instr.box 32 g0_1) h fun g3_1 h_1 =>
  eop P (Instr.box 34 s2_1) h_1 fun s5_1 h_2 =>
  rop P (Instr.loadAt 32 g3_1) h_2 fun t9_1 =>
  callM P 67 #[t9_1, sink1_1] h_2 fun t11_1 h_3 =>
  pop P (Op.unary .not t11_1) fun t12_1 =>
  guardM (asG t12_1 false) false (fun k_1 => pop P (Instr.fieldAt 34 s5_1 0) fun t14_1 =>
  k_1 t14_1 h_3) h_3 fun t14_2 h_4 =>
  guardM (asG t12_1 false) false (fun k_2 => rop P (Instr.loadAt 22 t14_2) h_4 fun t15_1 =>
  k_2 t15_1 h_4) h_4 fun t15_2 h_5 =>
  guardM (asG t12_1 false) false (fun k_3 => pop P (lenS 22 3 t15_2) fun t16_1 =>
  k_3 t16_1 h_5) h_5 fun t16_2 h_6 =>
  guardM (asG t12_1 false) false (fun k_4 => pop P (Instr.fieldAt 32 g3_1 0) fun t17_1 =>
  k_4 t17_1 h_6) h_6 fun t17_2 h_7 =>
  guardM (asG t12_1 false) false (fun k_5 => rop P (Instr.loadAt 22 t17_2) h_7 fun t18_1 =>
  k_5 t18_1 h_7) h_7 fun t18_2 h_8 =>
  guardM (asG t12_1 false) false (fun k_6 => pop P (lenS 22 3 t18_2) fun t19_1 =>
  k_6 t19_1 h_8) h_8 fun t19_2 h_9 =>
  guardM (asG t12_1 false) false (fun k_7 => pop P (binE .neq 3 (.tmp 16) (.tmp 19) t16_2 t19_2) fun t20_1 =>
  k_7 t20_1 h_9) h_9 fun t20_2 h_10 =>
  pop P (pickS t12_1 (Value.bool true) t20_2) fun t21_1 =>
  guardM (asG t21_1 false) false (fun k_8 => pop P (Instr.fieldAt 34 s5_1 0) fun t23_1 =>
  k_8 t23_1 h_10) h_10 fun t23_2 h_11 =>
  guardM (asG t21_1 false) false (fun k_9 => rop P (Instr.loadAt 22 t23_2) h_11 fun t24_1 =>
  k_9 t24_1 h_11) h_11 fun t24_2 h_12 =>
  guardM (asG t21_1 false) false (fun k_10 => k_10 sink1_1 h_12) h_12 fun t25_1 h_13 =>
  guardM (asG t21_1 false) false (fun k_11 => pop P (Instr.indexAt 22 t24_2 t25_1) fun t26_1 =>
  k_11 t26_1 h_13) h_13 fun t26_2 h_14 =>
  guardM (asG t21_1 false) false (fun k_12 => rop P (Instr.loadAt 27 t26_2) h_14 fun t27_1 =>
  k_12 t27_1 h_14) h_14 fun t27_2 h_15 =>
  guardM (asG t21_1 false) false (fun k_13 => pop P (lenS 27 3 t27_2) fun t28_1 =>
  k_13 t28_1 h_15) h_15 fun t28_2 h_16 =>
  guardM (asG t21_1 false) false (fun k_14 => pop P (binA .gtr 3 t28_2 (Value.int IntKind.i64 0)) fun t29_1 =>
  k_14 t29_1 h_16) h_16 fun t29_2 h_17 =>
  pop P (pickS t21_1 (Value.bool true) t29_2) fun t30_1 =>
  condM t30_1
  (K (Value.bool false) h_17)
  (pop P (Instr.fieldAt 34 s5_1 0) fun t31_1 =>
  rop P (Instr.loadAt 22 t31_1) h_17 fun t32_1 =>
  pop P (lenS 22 3 t32_1) fun t33_1 =>
  ∃ (I_1 : List Value → Heap → Prop) (μ_1 : List Value → Heap → Nat), I_1 [(Value.int IntKind.i64 0)] h_17 ∧
  ∀ (junk_1 : Nat → Value) (t34_1 : Value) (h_18 : Heap), I_1 [t34_1] h_18 →
  pop P (binA .lss 3 t34_1 t33_1) fun t35_1 =>
  condM t35_1
  (pop P (Instr.indexAt 22 t32_1 t34_1) fun t37_1 =>
  rop P (Instr.loadAt 27 t37_1) h_18 fun t38_1 =>
  pop P (lenS 27 3 t38_1) fun t40_1 =>
  pop P (binA .gtr 3 t40_1 (Value.int IntKind.i64 12)) fun t41_1 =>
  guardM (asG t41_1 false) false (fun k_15 => k_15 t38_1 h_18) h_18 fun t43_1 h_19 =>
  guardM (asG t41_1 false) false (fun k_16 => pop P (Instr.fieldAt 32 g3_1 0) fun t44_1 =>
  k_16 t44_1 h_19) h_19 fun t44_2 h_20 =>
  guardM (asG t41_1 false) false (fun k_17 => rop P (Instr.loadAt 22 t44_2) h_20 fun t45_1 =>
  k_17 t45_1 h_20) h_20 fun t45_2 h_21 =>
  guardM (asG t41_1 false) false (fun k_18 => k_18 t34_1 h_21) h_21 fun t46_1 h_22 =>
  guardM (asG t41_1 false) false (fun k_19 => pop P (Instr.indexAt 22 t45_2 t46_1) fun t47_1 =>
  k_19 t47_1 h_22) h_22 fun t47_2 h_23 =>
  guardM (asG t41_1 false) false (fun k_20 => rop P (Instr.loadAt 27 t47_2) h_23 fun t48_1 =>
  k_20 t48_1 h_23) h_23 fun t48_2 h_24 =>
  guardM (asG t41_1 false) false (fun k_21 => pop P (lenS 27 3 t48_2) fun t49_1 =>
  k_21 t49_1 h_24) h_24 fun t49_2 h_25 =>
  guardM (asG t41_1 false) false (fun k_22 => pop P (binA .sub 3 t49_2 (Value.int IntKind.i64 1)) fun t50_1 =>
  k_22 t50_1 h_25) h_25 fun t50_2 h_26 =>
  guardM (asG t41_1 false) false (fun k_23 => callM P 96 #[t43_1, (Value.int IntKind.i64 0), t50_2] h_26 fun t51_1 h_27 =>
  k_23 t51_1 h_27) h_26 fun t51_2 h_28 =>
  guardM (asG t41_1 false) false (fun k_24 => pop P (Op.unary .not t51_2) fun t52_1 =>
  k_24 t52_1 h_28) h_28 fun t52_2 h_29 =>
  pop P (pickS t41_1 (Value.bool true) t52_2) fun t53_1 =>
  condM t53_1
  (K (Value.bool false) h_29)
  (pop P (binA .add 3 t34_1 (Value.int IntKind.i64 1)) fun t54_1 =>
  I_1 [t54_1] h_29 ∧ μ_1 [t54_1] h_29 < μ_1 [t34_1] h_18))
  (K (Value.bool true) h_18))
theorem e51 (g0_1 : Value) (sink1_1 : Value) (s2_1 : Value) (h : Heap) (K : Value → Heap → Prop) : wpA Try.prog 55 (anOf [(58, [34])]) (bodyOf Try.f51) 1 (fun A h => resA Try.prog A h K [.tmp 6]) (fun _ _ _ => False) (fun A h => resA Try.prog A h K [.tmp 6]) (aargs [g0_1, sink1_1, s2_1] 0) h = t51 Try.prog g0_1 sink1_1 s2_1 h K := by kernel_rfl
theorem c51 (g0_1 : Value) (sink1_1 : Value) (s2_1 : Value) (h : Heap) (K : Value → Heap → Prop) (H : t51 Try.prog g0_1 sink1_1 s2_1 h K) : callM Try.prog 51 #[g0_1, sink1_1, s2_1] h K :=
  callM_of_wpA mixed (fn := Try.f51) Try.func51 (c := bodyOf Try.f51) rfl (of_decide_eq_true (by kernel_rfl)) (anOf [(58, [34])]) 52 55 (by kernel_rfl) rfl [.tmp 6] (by kernel_rfl) (args := [g0_1, sink1_1, s2_1]) (by rw [e51]; exact H)

/-! spec.grNames -/
def t52 (P : Program) (names0_1 : Value) (n1_1 : Value) (h : Heap) (K : Value → Heap → Prop) : Prop :=
  pop P (lenS 27 3 names0_1) fun t8_1 =>
  pop P (binE .neq 3 (.tmp 8) (.tmp 9) t8_1 n1_1) fun t10_1 =>
  guardM (asG t10_1 false) false (fun k_1 => k_1 names0_1 h) h fun t12_1 h_1 =>
  guardM (asG t10_1 false) false (fun k_2 => k_2 n1_1 h_1) h_1 fun t13_1 h_2 =>
  guardM (asG t10_1 false) false (fun k_3 => pop P (binA .sub 3 t13_1 (Value.int IntKind.i64 1)) fun t14_1 =>
  k_3 t14_1 h_2) h_2 fun t14_2 h_3 =>
  guardM (asG t10_1 false) false (fun k_4 => callM P 96 #[t12_1, (Value.int IntKind.i64 0), t14_2] h_3 fun t15_1 h_4 =>
  k_4 t15_1 h_4) h_3 fun t15_2 h_5 =>
  guardM (asG t10_1 false) false (fun k_5 => pop P (Op.unary .not t15_2) fun t16_1 =>
  k_5 t16_1 h_5) h_5 fun t16_2 h_6 =>
  pop P (pickS t10_1 (Value.bool true) t16_2) fun t17_1 =>
  condM t17_1
  (K (Value.bool false) h_6)
  (pop P (lenS 27 3 names0_1) fun t19_1 =>
  ∃ (I_1 : List Value → Heap → Prop) (μ_1 : List Value → Heap → Nat), I_1 [(Value.int IntKind.i64 0)] h_6 ∧
  ∀ (junk_1 : Nat → Value) (t20_1 : Value) (h_7 : Heap), I_1 [t20_1] h_7 →
  pop P (binA .lss 3 t20_1 t19_1) fun t21_1 =>
  condM t21_1
  (pop P (Instr.indexAt 27 names0_1 t20_1) fun t23_1 =>
  rop P (Instr.loadAt 3 t23_1) h_7 fun t24_1 =>
  pop P (Instr.sliceAt 27 names0_1 none (some t20_1) none) fun t27_1 =>
  callM P 74 #[t27_1, t24_1] h_7 fun t29_1 h_8 =>
  condM t29_1
  (K (Value.bool false) h_8)
  (pop P (binA .add 3 t20_1 (Value.int IntKind.i64 1)) fun t30_1 =>
  I_1 [t30_1] h_8 ∧ μ_1 [t30_1] h_8 < μ_1 [t20_1] h_7))
  (K (Value.bool true) h_7))
theorem e52 (names0_1 : Value) (n1_1 : Value) (h : Heap) (K : Value → Heap → Prop) : wpA Try.prog 31 (anOf [(58, [20])]) (bodyOf Try.f52) 1 (fun A h => resA Try.prog A h K [.tmp 4]) (fun _ _ _ => False) (fun A h => resA Try.prog A h K [.tmp 4]) (aargs [names0_1, n1_1] 0) h = t52 Try.prog names0_1 n1_1 h K := by kernel_rfl
theorem c52 (names0_1 : Value) (n1_1 : Value) (h : Heap) (K : Value → Heap → Prop) (H : t52 Try.prog names0_1 n1_1 h K) : callM Try.prog 52 #[names0_1, n1_1] h K :=
  callM_of_wpA mixed (fn := Try.f52) Try.func52 (c := bodyOf Try.f52) rfl (of_decide_eq_true (by kernel_rfl)) (anOf [(58, [20])]) 29 31 (by kernel_rfl) rfl [.tmp 4] (by kernel_rfl) (args := [names0_1, n1_1]) (by rw [e52]; exact H)

/-! spec.skEnd -/
def t53 (P : Program) (g0_1 : Value) (sink1_1 : Value) (s2_1 : Value) (choices3_1 : Value) (h : Heap) (K : Value → Heap → Prop) : Prop :=
  eop P (Instr.box 32 g0_1) h fun g4_1 h_1 =>
  eop P (Instr.box 34 s2_1) h_1 fun s6_1 h_2 =>
  eop P (Instr.alloc 34 true (.tuple #[])) h_2 fun t8_1 h_3 =>
  ∃ (I_1 : List Value → Heap → Prop) (μ_1 : List Value → Heap → Nat), I_1 [(Value.int IntKind.i64 0)] h_3 ∧
  ∀ (junk_1 : Nat → Value) (n11_1 : Value) (h_4 : Heap), I_1 [n11_1] h_4 →
  pop P (binA .leq 3 n11_1 (Value.int IntKind.i64 200)) fun t17_1 =>
  condM t17_1
  (rop P (Instr.loadAt 32 g4_1) h_4 fun t20_1 =>
  rop P (Instr.loadAt 34 s6_1) h_4 fun t21_1 =>
  callM P 97 #[t20_1, t21_1] h_4 fun t22_1 h_5 =>
  pop P (lenS 22 3 t22_1) fun t24_1 =>
  pop P (binE .eql 3 (.tmp 24) (.const (Value.int IntKind.i64 0)) t24_1 (Value.int IntKind.i64 0)) fun t25_1 =>
  condM t25_1
  (rop P (Instr.loadAt 32 g4_1) h_5 fun t27_1 =>
  rop P (Instr.loadAt 34 s6_1) h_5 fun t29_1 =>
  callM P 98 #[t27_1, sink1_1, t29_1] h_5 fun t30_1 h_6 =>
  pop P (Instr.extract t30_1 0) fun t31_1 =>
  pop P (Instr.extract t30_1 1) fun t32_1 =>
  rop P (Instr.loadAt 34 s6_1) h_6 fun t33_1 =>
  uop P (Instr.storeAt 34 t8_1 t33_1) h_6 fun u_1 h_7 =>
  rop P (Instr.loadAt 34 t8_1) h_7 fun r_1 =>
  K (.tuple #[r_1, n11_1, t32_1]) h_7)
  (∃ J_1 : List Value → Heap → Prop, (pop P (lenS 27 3 choices3_1) fun t38_1 =>
  pop P (binA .lss 3 n11_1 t38_1) fun t39_1 =>
  condM t39_1
  (pop P (Instr.indexAt 27 choices3_1 n11_1) fun t42_1 =>
  rop P (Instr.loadAt 3 t42_1) h_5 fun t43_1 =>
  pop P (lenS 22 3 t22_1) fun t45_1 =>
  pop P (binA .rem 3 t43_1 t45_1) fun t46_1 =>
  J_1 [t46_1] h_5)
  (J_1 [(Value.int IntKind.i64 0)] h_5)) ∧
  ∀ (junk_2 : Nat → Value) (k15_1 : Value) (h_8 : Heap), J_1 [k15_1] h_8 →
  rop P (Instr.loadAt 34 s6_1) h_8 fun t47_1 =>
  pop P (Instr.indexAt 22 t22_1 k15_1) fun t50_1 =>
  rop P (Instr.loadAt 27 t50_1) h_8 fun t51_1 =>
  callM P 99 #[t47_1, t51_1] h_8 fun t52_1 h_9 =>
  uop P (Instr.storeAt 34 s6_1 t52_1) h_9 fun u_2 h_10 =>
  pop P (binA .add 3 n11_1 (Value.int IntKind.i64 1)) fun t19_1 =>
  I_1 [t19_1] h_10 ∧ μ_1 [t19_1] h_10 < μ_1 [n11_1] h_4))
  (rop P (Instr.loadAt 34 s6_1) h_4 fun t53_1 =>
  uop P (Instr.storeAt 34 t8_1 t53_1) h_4 fun u_3 h_11 =>
  rop P (Instr.loadAt 34 t8_1) h_11 fun r_2 =>
  K (.tuple #[r_2, (Value.int IntKind.i64 0), (Value.bool false)]) h_11)
theorem e53 (g0_1 : Value) (sink1_1 : Value) (s2_1 : Value) (choices3_1 : Value) (h : Heap) (K : Value → Heap → Prop) : wpA Try.prog 54 (anOf [(26, [11]), (3367, [15])]) (bodyOf Try.f53) 1 (fun A h => resA Try.prog A h K [.cell 8 34, .tmp 9, .tmp 10]) (fun _ _ _ => False) (fun A h => resA Try.prog A h K [.cell 8 34, .tmp 9, .tmp 10]) (aargs [g0_1, sink1_1, s2_1, choices3_1] 0) h = t53 Try.prog g0_1 sink1_1 s2_1 choices3_1 h K := by kernel_rfl
theorem c53 (g0_1 : Value) (sink1_1 : Value) (s2_1 : Value) (choices3_1 : Value) (h : Heap) (K : Value → Heap → Prop) (H : t53 Try.prog g0_1 sink1_1 s2_1 choices3_1 h K) : callM Try.prog 53 #[g0_1, sink1_1, s2_1, choices3_1] h K :=
  callM_of_wpA mixed (fn := Try.f53) Try.func53 (c := bodyOf Try.f53) rfl (of_decide_eq_true (by kernel_rfl)) (anOf [(26, [11]), (3367, [15])]) 50 54 (by kernel_rfl) rfl [.cell 8 34, .tmp 9, .tmp 10] (by kernel_rfl) (args := [g0_1, sink1_1, s2_1, choices3_1]) (by rw [e53]; exact H)

/-! spec.skWalks -/
def t54 (P : Program) (g0_1 : Value) (sink1_1 : Value) (s2_1 : Value) (order3_1 : Value) (h : Heap) (K : Value → Heap → Prop) : Prop :=
  eop P (Instr.box 32 g0_1) h fun g4_1 h_1 =>
  eop P (Instr.box 34 s2_1) h_1 fun s6_1 h_2 =>
  rop P (Instr.loadAt 34 s6_1) h_2 fun t23_1 =>
  callM P 99 #[t23_1, (Value.slice none 0 0)] h_2 fun t24_1 h_3 =>
  uop P (Instr.storeAt 34 s6_1 t24_1) h_3 fun u_1 h_4 =>
  pop P (Instr.fieldAt 32 g4_1 0) fun t25_1 =>
  rop P (Instr.loadAt 22 t25_1) h_4 fun t26_1 =>
  pop P (lenS 22 3 t26_1) fun t27_1 =>
  eop P (Instr.makeSlice 93 t27_1 t27_1) h_4 fun t28_1 h_5 =>
  pop P (Instr.indexAt 93 t28_1 sink1_1) fun t31_1 =>
  uop P (Instr.storeAt 4 t31_1 (Value.bool true)) h_5 fun u_2 h_6 =>
  pop P (lenS 27 3 order3_1) fun t33_1 =>
  ∃ (I_1 : List Value → Heap → Prop) (μ_1 : List Value → Heap → Nat), I_1 [(Value.int IntKind.i64 0), (Value.int IntKind.i64 0)] h_6 ∧
  ∀ (junk_1 : Nat → Value) (steps12_1 : Value) (t34_1 : Value) (h_7 : Heap), I_1 [steps12_1, t34_1] h_7 →
  pop P (binA .lss 3 t34_1 t33_1) fun t35_1 =>
  condM t35_1
  (pop P (Instr.indexAt 27 order3_1 t34_1) fun t36_1 =>
  rop P (Instr.loadAt 3 t36_1) h_7 fun t37_1 =>
  pop P (Instr.indexAt 93 t28_1 t37_1) fun t40_1 =>
  rop P (Instr.loadAt 4 t40_1) h_7 fun t41_1 =>
  condM t41_1
  (pop P (binA .add 3 t34_1 (Value.int IntKind.i64 1)) fun t88_1 =>
  I_1 [steps12_1, t88_1] h_7 ∧ μ_1 [steps12_1, t88_1] h_7 < μ_1 [steps12_1, t34_1] h_7)
  (eop P (Instr.buildSlice 27 1 #[(0, t37_1)]) h_7 fun t43_1 h_8 =>
  ∃ (I_2 : List Value → Heap → Prop) (μ_2 : List Value → Heap → Nat), I_2 [steps12_1, t43_1, t37_1] h_8 ∧
  ∀ (junk_2 : Nat → Value) (steps12_2 : Value) (way15_1 : Value) (p16_1 : Value) (h_9 : Heap), I_2 [steps12_2, way15_1, p16_1] h_9 →
  pop P (Instr.indexAt 93 t28_1 p16_1) fun t47_1 =>
  rop P (Instr.loadAt 4 t47_1) h_9 fun t48_1 =>
  pop P (Op.unary .not t48_1) fun t49_1 =>
  condM t49_1
  (rop P (Instr.loadAt 32 g4_1) h_9 fun t50_1 =>
  rop P (Instr.loadAt 34 s6_1) h_9 fun t51_1 =>
  callM P 100 #[t50_1, t51_1, p16_1] h_9 fun t53_1 h_10 =>
  pop P (binA .lss 3 t53_1 (Value.int IntKind.i64 0)) fun t55_1 =>
  condM t55_1
  (K (.tuple #[(Value.slice none 0 0), (Value.int IntKind.i64 0), (Value.bool false)]) h_10)
  (pop P (binA .add 3 steps12_2 (Value.int IntKind.i64 1)) fun t57_1 =>
  callM P 101 #[way15_1, t53_1] h_10 fun t60_1 h_11 =>
  pop P (binA .geq 3 t60_1 (Value.int IntKind.i64 0)) fun t62_1 =>
  condM t62_1
  (rop P (Instr.loadAt 34 s6_1) h_11 fun t63_1 =>
  pop P (Instr.sliceAt 27 way15_1 (some t60_1) none none) fun t66_1 =>
  callM P 99 #[t63_1, t66_1] h_11 fun t67_1 h_12 =>
  uop P (Instr.storeAt 34 s6_1 t67_1) h_12 fun u_3 h_13 =>
  pop P (binA .add 3 t60_1 (Value.int IntKind.i64 1)) fun t70_1 =>
  pop P (Instr.sliceAt 27 way15_1 none (some t70_1) none) fun t71_1 =>
  callM P 87 #[t71_1] h_13 fun t72_1 h_14 =>
  I_2 [t57_1, t72_1, t53_1] h_14 ∧ μ_2 [t57_1, t72_1, t53_1] h_14 < μ_2 [steps12_2, way15_1, p16_1] h_9)
  (eop P (Instr.buildSlice 27 1 #[(0, t53_1)]) h_11 fun t75_1 h_15 =>
  eop P (appS 27 27 27 way15_1 t75_1) h_15 fun t76_1 h_16 =>
  I_2 [t57_1, t76_1, t53_1] h_16 ∧ μ_2 [t57_1, t76_1, t53_1] h_16 < μ_2 [steps12_2, way15_1, p16_1] h_9)))
  (pop P (lenS 27 3 way15_1) fun t79_1 =>
  ∃ (I_3 : List Value → Heap → Prop) (μ_3 : List Value → Heap → Nat), I_3 [(Value.int IntKind.i64 0)] h_9 ∧
  ∀ (junk_3 : Nat → Value) (t80_1 : Value) (h_17 : Heap), I_3 [t80_1] h_17 →
  pop P (binA .lss 3 t80_1 t79_1) fun t81_1 =>
  condM t81_1
  (pop P (Instr.indexAt 27 way15_1 t80_1) fun t82_1 =>
  rop P (Instr.loadAt 3 t82_1) h_17 fun t83_1 =>
  pop P (Instr.indexAt 93 t28_1 t83_1) fun t86_1 =>
  uop P (Instr.storeAt 4 t86_1 (Value.bool true)) h_17 fun u_4 h_18 =>
  pop P (binA .add 3 t80_1 (Value.int IntKind.i64 1)) fun t87_1 =>
  I_3 [t87_1] h_18 ∧ μ_3 [t87_1] h_18 < μ_3 [t80_1] h_17)
  (pop P (binA .add 3 t34_1 (Value.int IntKind.i64 1)) fun t88_2 =>
  I_1 [steps12_2, t88_2] h_17 ∧ μ_1 [steps12_2, t88_2] h_17 < μ_1 [steps12_1, t34_1] h_7))))
  (rop P (Instr.loadAt 32 g4_1) h_7 fun t90_1 =>
  rop P (Instr.loadAt 34 s6_1) h_7 fun t92_1 =>
  callM P 98 #[t90_1, sink1_1, t92_1] h_7 fun t93_1 h_19 =>
  pop P (Instr.extract t93_1 0) fun t94_1 =>
  pop P (Instr.extract t93_1 1) fun t95_1 =>
  K (.tuple #[t94_1, steps12_1, t95_1]) h_19)
theorem e54 (g0_1 : Value) (sink1_1 : Value) (s2_1 : Value) (order3_1 : Value) (h : Heap) (K : Value → Heap → Prop) : wpA Try.prog 99 (anOf [(506, [12, 34]), (1037114, [12, 15, 16]), (1037118, [80])]) (bodyOf Try.f54) 1 (fun A h => resA Try.prog A h K [.tmp 8, .tmp 9, .tmp 10]) (fun _ _ _ => False) (fun A h => resA Try.prog A h K [.tmp 8, .tmp 9, .tmp 10]) (aargs [g0_1, sink1_1, s2_1, order3_1] 0) h = t54 Try.prog g0_1 sink1_1 s2_1 order3_1 h K := by kernel_rfl
theorem c54 (g0_1 : Value) (sink1_1 : Value) (s2_1 : Value) (order3_1 : Value) (h : Heap) (K : Value → Heap → Prop) (H : t54 Try.prog g0_1 sink1_1 s2_1 order3_1 h K) : callM Try.prog 54 #[g0_1, sink1_1, s2_1, order3_1] h K :=
  callM_of_wpA mixed (fn := Try.f54) Try.func54 (c := bodyOf Try.f54) rfl (of_decide_eq_true (by kernel_rfl)) (anOf [(506, [12, 34]), (1037114, [12, 15, 16]), (1037118, [80])]) 95 99 (by kernel_rfl) rfl [.tmp 8, .tmp 9, .tmp 10] (by kernel_rfl) (args := [g0_1, sink1_1, s2_1, order3_1]) (by rw [e54]; exact H)

/-! laws.toIntSS -/
def t55 (P : Program) (a0_1 : Value) (h : Heap) (K : Value → Heap → Prop) : Prop :=
  pop P (lenS 22 3 a0_1) fun t6_1 =>
  eop P (Instr.makeSlice 22 t6_1 t6_1) h fun t7_1 h_1 =>
  ∃ (I_1 : List Value → Heap → Prop) (μ_1 : List Value → Heap → Nat), I_1 [(Value.int IntKind.i64 0)] h_1 ∧
  ∀ (junk_1 : Nat → Value) (i4_1 : Value) (h_2 : Heap), I_1 [i4_1] h_2 →
  pop P (lenS 22 3 a0_1) fun t10_1 =>
  pop P (binA .lss 3 i4_1 t10_1) fun t11_1 =>
  condM t11_1
  (pop P (Instr.indexAt 22 a0_1 i4_1) fun t18_1 =>
  rop P (Instr.loadAt 27 t18_1) h_2 fun t19_1 =>
  callM P 12 #[t19_1] h_2 fun t20_1 h_3 =>
  pop P (Instr.indexAt 22 t7_1 i4_1) fun t21_1 =>
  uop P (Instr.storeAt 27 t21_1 t20_1) h_3 fun u_1 h_4 =>
  pop P (binA .add 3 i4_1 (Value.int IntKind.i64 1)) fun t13_1 =>
  I_1 [t13_1] h_4 ∧ μ_1 [t13_1] h_4 < μ_1 [i4_1] h_2)
  (K t7_1 h_2)
theorem e55 (a0_1 : Value) (h : Heap) (K : Value → Heap → Prop) : wpA Try.prog 23 (anOf [(58, [4])]) (bodyOf Try.f55) 1 (fun A h => resA Try.prog A h K [.tmp 2]) (fun _ _ _ => False) (fun A h => resA Try.prog A h K [.tmp 2]) (aargs [a0_1] 0) h = t55 Try.prog a0_1 h K := by kernel_rfl
theorem c55 (a0_1 : Value) (h : Heap) (K : Value → Heap → Prop) (H : t55 Try.prog a0_1 h K) : callM Try.prog 55 #[a0_1] h K :=
  callM_of_wpA mixed (fn := Try.f55) Try.func55 (c := bodyOf Try.f55) rfl (of_decide_eq_true (by kernel_rfl)) (anOf [(58, [4])]) 22 23 (by kernel_rfl) rfl [.tmp 2] (by kernel_rfl) (args := [a0_1]) (by rw [e55]; exact H)

/-! impl.isGraph -/
def t56 (P : Program) (g0_1 : Value) (h : Heap) (K : Value → Heap → Prop) : Prop :=
  eop P (Instr.box 32 g0_1) h fun g1_1 h_1 =>
  pop P (Instr.fieldAt 32 g1_1 0) fun t6_1 =>
  rop P (Instr.loadAt 22 t6_1) h_1 fun t7_1 =>
  pop P (lenS 22 3 t7_1) fun t8_1 =>
  eop P (Instr.alloc 3 true (.tuple #[])) h_1 fun n3_1 h_2 =>
  uop P (Instr.storeAt 3 n3_1 t8_1) h_2 fun u_1 h_3 =>
  rop P (Instr.loadAt 3 n3_1) h_3 fun t9_1 =>
  callM P 102 #[t9_1, (Value.int IntKind.i64 1), (Value.int IntKind.i64 8)] h_3 fun t10_1 h_4 =>
  pop P (Op.unary .not t10_1) fun t11_1 =>
  condM t11_1
  (K (Value.bool false) h_4)
  (pop P (Instr.fieldAt 32 g1_1 0) fun t12_1 =>
  rop P (Instr.loadAt 22 t12_1) h_4 fun t13_1 =>
  pop P (lenS 22 3 t13_1) fun t14_1 =>
  ∃ (I_1 : List Value → Heap → Prop) (μ_1 : List Value → Heap → Nat), I_1 [(Value.int IntKind.i64 0)] h_4 ∧
  ∀ (junk_1 : Nat → Value) (t15_1 : Value) (h_5 : Heap), I_1 [t15_1] h_5 →
  pop P (binA .lss 3 t15_1 t14_1) fun t16_1 =>
  condM t16_1
  (pop P (Instr.indexAt 22 t13_1 t15_1) fun t17_1 =>
  rop P (Instr.loadAt 27 t17_1) h_5 fun t18_1 =>
  pop P (lenS 27 3 t18_1) fun t20_1 =>
  pop P (binA .gtr 3 t20_1 (Value.int IntKind.i64 5)) fun t21_1 =>
  guardM (asG t21_1 false) false (fun k_1 => k_1 t18_1 h_5) h_5 fun t23_1 h_6 =>
  guardM (asG t21_1 false) false (fun k_2 => pop P (Instr.makeFunc (Fn.func 104) #[] #[n3_1]) fun t24_1 =>
  k_2 t24_1 h_6) h_6 fun t24_2 h_7 =>
  guardM (asG t21_1 false) false (fun k_3 => callM P 103 #[t23_1, t24_2] h_7 fun t25_1 h_8 =>
  k_3 t25_1 h_8) h_7 fun t25_2 h_9 =>
  pop P (pickS t21_1 (Value.bool true) t25_2) fun t26_1 =>
  condM t26_1
  (K (Value.bool false) h_9)
  (pop P (binA .add 3 t15_1 (Value.int IntKind.i64 1)) fun t27_1 =>
  I_1 [t27_1] h_9 ∧ μ_1 [t27_1] h_9 < μ_1 [t15_1] h_5))
  (K (Value.bool true) h_5))
theorem e56 (g0_1 : Value) (h : Heap) (K : Value → Heap → Prop) : wpA Try.prog 28 (anOf [(122, [15])]) (bodyOf Try.f56) 1 (fun A h => resA Try.prog A h K [.tmp 2]) (fun _ _ _ => False) (fun A h => resA Try.prog A h K [.tmp 2]) (aargs [g0_1] 0) h = t56 Try.prog g0_1 h K := by kernel_rfl
theorem c56 (g0_1 : Value) (h : Heap) (K : Value → Heap → Prop) (H : t56 Try.prog g0_1 h K) : callM Try.prog 56 #[g0_1] h K :=
  callM_of_wpA mixed (fn := Try.f56) Try.func56 (c := bodyOf Try.f56) rfl (of_decide_eq_true (by kernel_rfl)) (anOf [(122, [15])]) 27 28 (by kernel_rfl) rfl [.tmp 2] (by kernel_rfl) (args := [g0_1]) (by rw [e56]; exact H)

/-! impl.areNames -/
def t57 (P : Program) (g0_1 : Value) (names1_1 : Value) (h : Heap) (K : Value → Heap → Prop) : Prop :=
  eop P (Instr.box 32 g0_1) h fun g2_1 h_1 =>
  pop P (lenS 27 3 names1_1) fun t8_1 =>
  pop P (Instr.fieldAt 32 g2_1 0) fun t9_1 =>
  rop P (Instr.loadAt 22 t9_1) h_1 fun t10_1 =>
  pop P (lenS 22 3 t10_1) fun t11_1 =>
  pop P (binE .neq 3 (.tmp 8) (.tmp 11) t8_1 t11_1) fun t12_1 =>
  condM t12_1
  (K (Value.bool false) h_1)
  (callM P 106 #[names1_1] h_1 fun t14_1 h_2 =>
  callM P 105 #[t14_1] h_2 fun t15_1 h_3 =>
  pop P (lenS 27 3 t15_1) fun t16_1 =>
  ∃ (I_1 : List Value → Heap → Prop) (μ_1 : List Value → Heap → Nat), I_1 [(Value.int IntKind.i64 0)] h_3 ∧
  ∀ (junk_1 : Nat → Value) (t17_1 : Value) (h_4 : Heap), I_1 [t17_1] h_4 →
  pop P (binA .lss 3 t17_1 t16_1) fun t18_1 =>
  condM t18_1
  (pop P (Instr.indexAt 27 t15_1 t17_1) fun t20_1 =>
  rop P (Instr.loadAt 3 t20_1) h_4 fun t21_1 =>
  pop P (binE .neq 3 (.tmp 22) (.tmp 23) t17_1 t21_1) fun t24_1 =>
  condM t24_1
  (K (Value.bool false) h_4)
  (pop P (binA .add 3 t17_1 (Value.int IntKind.i64 1)) fun t25_1 =>
  I_1 [t25_1] h_4 ∧ μ_1 [t25_1] h_4 < μ_1 [t17_1] h_4))
  (K (Value.bool true) h_4))
theorem e57 (g0_1 : Value) (names1_1 : Value) (h : Heap) (K : Value → Heap → Prop) : wpA Try.prog 26 (anOf [(58, [17])]) (bodyOf Try.f57) 1 (fun A h => resA Try.prog A h K [.tmp 4]) (fun _ _ _ => False) (fun A h => resA Try.prog A h K [.tmp 4]) (aargs [g0_1, names1_1] 0) h = t57 Try.prog g0_1 names1_1 h K := by kernel_rfl
theorem c57 (g0_1 : Value) (names1_1 : Value) (h : Heap) (K : Value → Heap → Prop) (H : t57 Try.prog g0_1 names1_1 h K) : callM Try.prog 57 #[g0_1, names1_1] h K :=
  callM_of_wpA mixed (fn := Try.f57) Try.func57 (c := bodyOf Try.f57) rfl (of_decide_eq_true (by kernel_rfl)) (anOf [(58, [17])]) 24 26 (by kernel_rfl) rfl [.tmp 4] (by kernel_rfl) (args := [g0_1, names1_1]) (by rw [e57]; exact H)

/-! laws.eqIntSS -/
def t59 (P : Program) (a0_1 : Value) (b1_1 : Value) (h : Heap) (K : Value → Heap → Prop) : Prop :=
  pop P (lenS 22 3 a0_1) fun t7_1 =>
  pop P (lenS 22 3 b1_1) fun t9_1 =>
  pop P (binE .neq 3 (.tmp 7) (.tmp 9) t7_1 t9_1) fun t10_1 =>
  condM t10_1
  (K (Value.bool false) h)
  (∃ (I_1 : List Value → Heap → Prop) (μ_1 : List Value → Heap → Nat), I_1 [(Value.int IntKind.i64 0)] h ∧
  ∀ (junk_1 : Nat → Value) (i5_1 : Value) (h_1 : Heap), I_1 [i5_1] h_1 →
  pop P (lenS 22 3 a0_1) fun t13_1 =>
  pop P (binA .lss 3 i5_1 t13_1) fun t14_1 =>
  condM t14_1
  (pop P (Instr.indexAt 22 a0_1 i5_1) fun t19_1 =>
  rop P (Instr.loadAt 27 t19_1) h_1 fun t20_1 =>
  pop P (Instr.indexAt 22 b1_1 i5_1) fun t23_1 =>
  rop P (Instr.loadAt 27 t23_1) h_1 fun t24_1 =>
  callM P 14 #[t20_1, t24_1] h_1 fun t25_1 h_2 =>
  pop P (Op.unary .not t25_1) fun t26_1 =>
  condM t26_1
  (K (Value.bool false) h_2)
  (pop P (binA .add 3 i5_1 (Value.int IntKind.i64 1)) fun t16_1 =>
  I_1 [t16_1] h_2 ∧ μ_1 [t16_1] h_2 < μ_1 [i5_1] h_1))
  (K (Value.bool true) h_1))
theorem e59 (a0_1 : Value) (b1_1 : Value) (h : Heap) (K : Value → Heap → Prop) : wpA Try.prog 27 (anOf [(58, [5])]) (bodyOf Try.f59) 1 (fun A h => resA Try.prog A h K [.tmp 4]) (fun _ _ _ => False) (fun A h => resA Try.prog A h K [.tmp 4]) (aargs [a0_1, b1_1] 0) h = t59 Try.prog a0_1 b1_1 h K := by kernel_rfl
theorem c59 (a0_1 : Value) (b1_1 : Value) (h : Heap) (K : Value → Heap → Prop) (H : t59 Try.prog a0_1 b1_1 h K) : callM Try.prog 59 #[a0_1, b1_1] h K :=
  callM_of_wpA mixed (fn := Try.f59) Try.func59 (c := bodyOf Try.f59) rfl (of_decide_eq_true (by kernel_rfl)) (anOf [(58, [5])]) 25 27 (by kernel_rfl) rfl [.tmp 4] (by kernel_rfl) (args := [a0_1, b1_1]) (by rw [e59]; exact H)

/-! impl.PopsOf -/
def t61 (P : Program) (g0_1 : Value) (sink1_1 : Value) (s2_1 : Value) (h : Heap) (K : Value → Heap → Prop) : Prop :=
  eop P (Instr.box 32 g0_1) h fun g3_1 h_1 =>
  eop P (Instr.box 34 s2_1) h_1 fun s5_1 h_2 =>
  rop P (Instr.loadAt 32 g3_1) h_2 fun t15_1 =>
  rop P (Instr.loadAt 34 s5_1) h_2 fun t17_1 =>
  callM P 107 #[t15_1, sink1_1, t17_1, (Value.slice none 0 0)] h_2 fun t18_1 h_3 =>
  pop P (Instr.extract t18_1 0) fun t19_1 =>
  pop P (Instr.extract t18_1 1) fun t20_1 =>
  pop P (Instr.extract t18_1 2) fun t21_1 =>
  eop P (Instr.alloc 34 true (.tuple #[])) h_3 fun end8_1 h_4 =>
  uop P (Instr.storeAt 34 end8_1 t19_1) h_4 fun u_1 h_5 =>
  pop P (Op.unary .not t21_1) fun t23_1 =>
  condM t23_1
  (K (.tuple #[(Value.slice none 0 0), (Value.bool false)]) h_5)
  (eop P (Instr.buildSlice 27 0 #[]) h_5 fun t24_1 h_6 =>
  pop P (Instr.fieldAt 34 s5_1 0) fun t25_1 =>
  rop P (Instr.loadAt 22 t25_1) h_6 fun t26_1 =>
  pop P (lenS 22 3 t26_1) fun t27_1 =>
  ∃ (I_1 : List Value → Heap → Prop) (μ_1 : List Value → Heap → Nat), I_1 [t24_1, (Value.int IntKind.i64 0)] h_6 ∧
  ∀ (junk_1 : Nat → Value) (out11_1 : Value) (t28_1 : Value) (h_7 : Heap), I_1 [out11_1, t28_1] h_7 →
  pop P (binA .lss 3 t28_1 t27_1) fun t29_1 =>
  condM t29_1
  (pop P (Instr.indexAt 22 t26_1 t28_1) fun t31_1 =>
  rop P (Instr.loadAt 27 t31_1) h_7 fun t32_1 =>
  pop P (lenS 27 3 t32_1) fun t35_1 =>
  pop P (Instr.fieldAt 34 end8_1 0) fun t36_1 =>
  rop P (Instr.loadAt 22 t36_1) h_7 fun t37_1 =>
  pop P (Instr.indexAt 22 t37_1 t28_1) fun t39_1 =>
  rop P (Instr.loadAt 27 t39_1) h_7 fun t40_1 =>
  pop P (lenS 27 3 t40_1) fun t41_1 =>
  pop P (binA .sub 3 t35_1 t41_1) fun t42_1 =>
  eop P (Instr.buildSlice 27 1 #[(0, t42_1)]) h_7 fun t43_1 h_8 =>
  eop P (appS 27 27 27 out11_1 t43_1) h_8 fun t44_1 h_9 =>
  pop P (binA .add 3 t28_1 (Value.int IntKind.i64 1)) fun t45_1 =>
  I_1 [t44_1, t45_1] h_9 ∧ μ_1 [t44_1, t45_1] h_9 < μ_1 [out11_1, t28_1] h_7)
  (K (.tuple #[out11_1, (Value.bool true)]) h_7))
theorem e61 (g0_1 : Value) (sink1_1 : Value) (s2_1 : Value) (h : Heap) (K : Value → Heap → Prop) : wpA Try.prog 47 (anOf [(250, [11, 28])]) (bodyOf Try.f61) 1 (fun A h => resA Try.prog A h K [.tmp 6, .tmp 7]) (fun _ _ _ => False) (fun A h => resA Try.prog A h K [.tmp 6, .tmp 7]) (aargs [g0_1, sink1_1, s2_1] 0) h = t61 Try.prog g0_1 sink1_1 s2_1 h K := by kernel_rfl
theorem c61 (g0_1 : Value) (sink1_1 : Value) (s2_1 : Value) (h : Heap) (K : Value → Heap → Prop) (H : t61 Try.prog g0_1 sink1_1 s2_1 h K) : callM Try.prog 61 #[g0_1, sink1_1, s2_1] h K :=
  callM_of_wpA mixed (fn := Try.f61) Try.func61 (c := bodyOf Try.f61) rfl (of_decide_eq_true (by kernel_rfl)) (anOf [(250, [11, 28])]) 44 47 (by kernel_rfl) rfl [.tmp 6, .tmp 7] (by kernel_rfl) (args := [g0_1, sink1_1, s2_1]) (by rw [e61]; exact H)

/-! impl.sum -/
def t62 (P : Program) (list0_1 : Value) (h : Heap) (K : Value → Heap → Prop) : Prop :=
  pop P (lenS 27 3 list0_1) fun t7_1 =>
  ∃ (I_1 : List Value → Heap → Prop) (μ_1 : List Value → Heap → Nat), I_1 [(Value.int IntKind.i64 0), (Value.int IntKind.i64 0)] h ∧
  ∀ (junk_1 : Nat → Value) (out3_1 : Value) (t8_1 : Value) (h_1 : Heap), I_1 [out3_1, t8_1] h_1 →
  pop P (binA .lss 3 t8_1 t7_1) fun t9_1 =>
  condM t9_1
  (pop P (Instr.indexAt 27 list0_1 t8_1) fun t10_1 =>
  rop P (Instr.loadAt 3 t10_1) h_1 fun t11_1 =>
  pop P (binA .add 3 out3_1 t11_1) fun t14_1 =>
  pop P (binA .add 3 t8_1 (Value.int IntKind.i64 1)) fun t15_1 =>
  I_1 [t14_1, t15_1] h_1 ∧ μ_1 [t14_1, t15_1] h_1 < μ_1 [out3_1, t8_1] h_1)
  (K out3_1 h_1)
theorem e62 (list0_1 : Value) (h : Heap) (K : Value → Heap → Prop) : wpA Try.prog 17 (anOf [(58, [3, 8])]) (bodyOf Try.f62) 1 (fun A h => resA Try.prog A h K [.tmp 2]) (fun _ _ _ => False) (fun A h => resA Try.prog A h K [.tmp 2]) (aargs [list0_1] 0) h = t62 Try.prog list0_1 h K := by kernel_rfl
theorem c62 (list0_1 : Value) (h : Heap) (K : Value → Heap → Prop) (H : t62 Try.prog list0_1 h K) : callM Try.prog 62 #[list0_1] h K :=
  callM_of_wpA mixed (fn := Try.f62) Try.func62 (c := bodyOf Try.f62) rfl (of_decide_eq_true (by kernel_rfl)) (anOf [(58, [3, 8])]) 16 17 (by kernel_rfl) rfl [.tmp 2] (by kernel_rfl) (args := [list0_1]) (by rw [e62]; exact H)

/-! impl.has -/
def t65 (P : Program) (g0_1 : Value) (places1_1 : Value) (h : Heap) (K : Value → Heap → Prop) : Prop :=
  eop P (Instr.box 32 g0_1) h fun g2_1 h_1 =>
  rop P (Instr.loadAt 32 g2_1) h_1 fun t5_1 =>
  callM P 56 #[t5_1] h_1 fun t6_1 h_2 =>
  guardM (asG t6_1 true) true (fun k_1 => k_1 places1_1 h_2) h_2 fun t8_1 h_3 =>
  guardM (asG t6_1 true) true (fun k_2 => pop P (Instr.makeFunc (Fn.func 111) #[] #[g2_1]) fun t9_1 =>
  k_2 t9_1 h_3) h_3 fun t9_2 h_4 =>
  guardM (asG t6_1 true) true (fun k_3 => callM P 103 #[t8_1, t9_2] h_4 fun t10_1 h_5 =>
  k_3 t10_1 h_5) h_4 fun t10_2 h_6 =>
  guardM (asG t6_1 true) true (fun k_4 => pop P (Op.unary .not t10_2) fun t11_1 =>
  k_4 t11_1 h_6) h_6 fun t11_2 h_7 =>
  pop P (pickS t6_1 t11_2 (Value.bool false)) fun t12_1 =>
  K t12_1 h_7
theorem e65 (g0_1 : Value) (places1_1 : Value) (h : Heap) (K : Value → Heap → Prop) : wpA Try.prog 13 (anOf []) (bodyOf Try.f65) 1 (fun A h => resA Try.prog A h K [.tmp 4]) (fun _ _ _ => False) (fun A h => resA Try.prog A h K [.tmp 4]) (aargs [g0_1, places1_1] 0) h = t65 Try.prog g0_1 places1_1 h K := by kernel_rfl
theorem c65 (g0_1 : Value) (places1_1 : Value) (h : Heap) (K : Value → Heap → Prop) (H : t65 Try.prog g0_1 places1_1 h K) : callM Try.prog 65 #[g0_1, places1_1] h K :=
  callM_of_wpA mixed (fn := Try.f65) Try.func65 (c := bodyOf Try.f65) rfl (of_decide_eq_true (by kernel_rfl)) (anOf []) 11 13 (by kernel_rfl) rfl [.tmp 4] (by kernel_rfl) (args := [g0_1, places1_1]) (by rw [e65]; exact H)

/-! spec.grPlace -/
def t67 (P : Program) (g0_1 : Value) (p1_1 : Value) (h : Heap) (K : Value → Heap → Prop) : Prop :=
  eop P (Instr.box 32 g0_1) h fun g2_1 h_1 =>
  rop P (Instr.loadAt 32 g2_1) h_1 fun t5_1 =>
  callM P 73 #[t5_1] h_1 fun t6_1 h_2 =>
  guardM (asG t6_1 true) true (fun k_1 => k_1 p1_1 h_2) h_2 fun t8_1 h_3 =>
  guardM (asG t6_1 true) true (fun k_2 => pop P (Instr.fieldAt 32 g2_1 0) fun t9_1 =>
  k_2 t9_1 h_3) h_3 fun t9_2 h_4 =>
  guardM (asG t6_1 true) true (fun k_3 => rop P (Instr.loadAt 22 t9_2) h_4 fun t10_1 =>
  k_3 t10_1 h_4) h_4 fun t10_2 h_5 =>
  guardM (asG t6_1 true) true (fun k_4 => pop P (lenS 22 3 t10_2) fun t11_1 =>
  k_4 t11_1 h_5) h_5 fun t11_2 h_6 =>
  guardM (asG t6_1 true) true (fun k_5 => pop P (binA .sub 3 t11_2 (Value.int IntKind.i64 1)) fun t12_1 =>
  k_5 t12_1 h_6) h_6 fun t12_2 h_7 =>
  guardM (asG t6_1 true) true (fun k_6 => callM P 113 #[t8_1, (Value.int IntKind.i64 0), t12_2] h_7 fun t13_1 h_8 =>
  k_6 t13_1 h_8) h_7 fun t13_2 h_9 =>
  pop P (pickS t6_1 t13_2 (Value.bool false)) fun t14_1 =>
  K t14_1 h_9
theorem e67 (g0_1 : Value) (p1_1 : Value) (h : Heap) (K : Value → Heap → Prop) : wpA Try.prog 15 (anOf []) (bodyOf Try.f67) 1 (fun A h => resA Try.prog A h K [.tmp 4]) (fun _ _ _ => False) (fun A h => resA Try.prog A h K [.tmp 4]) (aargs [g0_1, p1_1] 0) h = t67 Try.prog g0_1 p1_1 h K := by kernel_rfl
theorem c67 (g0_1 : Value) (p1_1 : Value) (h : Heap) (K : Value → Heap → Prop) (H : t67 Try.prog g0_1 p1_1 h K) : callM Try.prog 67 #[g0_1, p1_1] h K :=
  callM_of_wpA mixed (fn := Try.f67) Try.func67 (c := bodyOf Try.f67) rfl (of_decide_eq_true (by kernel_rfl)) (anOf []) 13 15 (by kernel_rfl) rfl [.tmp 4] (by kernel_rfl) (args := [g0_1, p1_1]) (by rw [e67]; exact H)

/-! spec.grGood -/
def t73 (P : Program) (g0_1 : Value) (h : Heap) (K : Value → Heap → Prop) : Prop :=
  eop P (Instr.box 32 g0_1) h fun g1_1 h_1 =>
  pop P (Instr.fieldAt 32 g1_1 0) fun t6_1 =>
  rop P (Instr.loadAt 22 t6_1) h_1 fun t7_1 =>
  pop P (lenS 22 3 t7_1) fun t8_1 =>
  callM P 113 #[t8_1, (Value.int IntKind.i64 1), (Value.int IntKind.i64 8)] h_1 fun t10_1 h_2 =>
  pop P (Op.unary .not t10_1) fun t11_1 =>
  condM t11_1
  (K (Value.bool false) h_2)
  (pop P (Instr.fieldAt 32 g1_1 0) fun t12_1 =>
  rop P (Instr.loadAt 22 t12_1) h_2 fun t13_1 =>
  pop P (lenS 22 3 t13_1) fun t14_1 =>
  ∃ (I_1 : List Value → Heap → Prop) (μ_1 : List Value → Heap → Nat), I_1 [(Value.int IntKind.i64 0)] h_2 ∧
  ∀ (junk_1 : Nat → Value) (t15_1 : Value) (h_3 : Heap), I_1 [t15_1] h_3 →
  pop P (binA .lss 3 t15_1 t14_1) fun t16_1 =>
  condM t16_1
  (pop P (Instr.indexAt 22 t13_1 t15_1) fun t17_1 =>
  rop P (Instr.loadAt 27 t17_1) h_3 fun t18_1 =>
  pop P (lenS 27 3 t18_1) fun t20_1 =>
  pop P (binA .gtr 3 t20_1 (Value.int IntKind.i64 5)) fun t21_1 =>
  guardM (asG t21_1 false) false (fun k_1 => k_1 t18_1 h_3) h_3 fun t23_1 h_4 =>
  guardM (asG t21_1 false) false (fun k_2 => k_2 t8_1 h_4) h_4 fun t24_1 h_5 =>
  guardM (asG t21_1 false) false (fun k_3 => pop P (binA .sub 3 t24_1 (Value.int IntKind.i64 1)) fun t25_1 =>
  k_3 t25_1 h_5) h_5 fun t25_2 h_6 =>
  guardM (asG t21_1 false) false (fun k_4 => callM P 96 #[t23_1, (Value.int IntKind.i64 0), t25_2] h_6 fun t26_1 h_7 =>
  k_4 t26_1 h_7) h_6 fun t26_2 h_8 =>
  guardM (asG t21_1 false) false (fun k_5 => pop P (Op.unary .not t26_2) fun t27_1 =>
  k_5 t27_1 h_8) h_8 fun t27_2 h_9 =>
  pop P (pickS t21_1 (Value.bool true) t27_2) fun t28_1 =>
  condM t28_1
  (K (Value.bool false) h_9)
  (pop P (binA .add 3 t15_1 (Value.int IntKind.i64 1)) fun t29_1 =>
  I_1 [t29_1] h_9 ∧ μ_1 [t29_1] h_9 < μ_1 [t15_1] h_3))
  (K (Value.bool true) h_3))
theorem e73 (g0_1 : Value) (h : Heap) (K : Value → Heap → Prop) : wpA Try.prog 30 (anOf [(122, [15])]) (bodyOf Try.f73) 1 (fun A h => resA Try.prog A h K [.tmp 2]) (fun _ _ _ => False) (fun A h => resA Try.prog A h K [.tmp 2]) (aargs [g0_1] 0) h = t73 Try.prog g0_1 h K := by kernel_rfl
theorem c73 (g0_1 : Value) (h : Heap) (K : Value → Heap → Prop) (H : t73 Try.prog g0_1 h K) : callM Try.prog 73 #[g0_1] h K :=
  callM_of_wpA mixed (fn := Try.f73) Try.func73 (c := bodyOf Try.f73) rfl (of_decide_eq_true (by kernel_rfl)) (anOf [(122, [15])]) 29 30 (by kernel_rfl) rfl [.tmp 2] (by kernel_rfl) (args := [g0_1]) (by rw [e73]; exact H)

/-! spec.l1Has -/
def t74 (P : Program) (l0_1 : Value) (n1_1 : Value) (h : Heap) (K : Value → Heap → Prop) : Prop :=
  pop P (lenS 27 3 l0_1) fun t8_1 =>
  ∃ (I_1 : List Value → Heap → Prop) (μ_1 : List Value → Heap → Nat), I_1 [(Value.int IntKind.i64 0)] h ∧
  ∀ (junk_1 : Nat → Value) (t9_1 : Value) (h_1 : Heap), I_1 [t9_1] h_1 →
  pop P (binA .lss 3 t9_1 t8_1) fun t10_1 =>
  condM t10_1
  (pop P (Instr.indexAt 27 l0_1 t9_1) fun t11_1 =>
  rop P (Instr.loadAt 3 t11_1) h_1 fun t12_1 =>
  pop P (binE .eql 3 (.tmp 13) (.tmp 14) t12_1 n1_1) fun t15_1 =>
  condM t15_1
  (K (Value.bool true) h_1)
  (pop P (binA .add 3 t9_1 (Value.int IntKind.i64 1)) fun t16_1 =>
  I_1 [t16_1] h_1 ∧ μ_1 [t16_1] h_1 < μ_1 [t9_1] h_1))
  (K (Value.bool false) h_1)
theorem e74 (l0_1 : Value) (n1_1 : Value) (h : Heap) (K : Value → Heap → Prop) : wpA Try.prog 17 (anOf [(26, [9])]) (bodyOf Try.f74) 1 (fun A h => resA Try.prog A h K [.tmp 4]) (fun _ _ _ => False) (fun A h => resA Try.prog A h K [.tmp 4]) (aargs [l0_1, n1_1] 0) h = t74 Try.prog l0_1 n1_1 h K := by kernel_rfl
theorem c74 (l0_1 : Value) (n1_1 : Value) (h : Heap) (K : Value → Heap → Prop) (H : t74 Try.prog l0_1 n1_1 h K) : callM Try.prog 74 #[l0_1, n1_1] h K :=
  callM_of_wpA mixed (fn := Try.f74) Try.func74 (c := bodyOf Try.f74) rfl (of_decide_eq_true (by kernel_rfl)) (anOf [(26, [9])]) 15 17 (by kernel_rfl) rfl [.tmp 4] (by kernel_rfl) (args := [l0_1, n1_1]) (by rw [e74]; exact H)

/-! spec.l1Own -/
def t87 (P : Program) (l0_1 : Value) (h : Heap) (K : Value → Heap → Prop) : Prop :=
  eop P (Instr.buildSlice 27 0 #[]) h fun t3_1 h_1 =>
  eop P (appS 27 27 27 t3_1 l0_1) h_1 fun t5_1 h_2 =>
  K t5_1 h_2
theorem e87 (l0_1 : Value) (h : Heap) (K : Value → Heap → Prop) : wpA Try.prog 6 (anOf []) (bodyOf Try.f87) 1 (fun A h => resA Try.prog A h K [.tmp 2]) (fun _ _ _ => False) (fun A h => resA Try.prog A h K [.tmp 2]) (aargs [l0_1] 0) h = t87 Try.prog l0_1 h K := by kernel_rfl
theorem c87 (l0_1 : Value) (h : Heap) (K : Value → Heap → Prop) (H : t87 Try.prog l0_1 h K) : callM Try.prog 87 #[l0_1] h K :=
  callM_of_wpA mixed (fn := Try.f87) Try.func87 (c := bodyOf Try.f87) rfl (of_decide_eq_true (by kernel_rfl)) (anOf []) 5 6 (by kernel_rfl) rfl [.tmp 2] (by kernel_rfl) (args := [l0_1]) (by rw [e87]; exact H)

/-! laws.szIntS -/
def t95 (P : Program) (a0_1 : Value) (left1_1 : Value) (h : Heap) (K : Value → Heap → Prop) : Prop :=
  pop P (lenS 27 3 a0_1) fun t7_1 =>
  pop P (binA .sub 3 left1_1 t7_1) fun t8_1 =>
  pop P (binA .lss 3 t8_1 (Value.int IntKind.i64 0)) fun t10_1 =>
  condM t10_1
  (K (Value.int IntKind.i64 (-1)) h)
  (K t8_1 h)
theorem e95 (a0_1 : Value) (left1_1 : Value) (h : Heap) (K : Value → Heap → Prop) : wpA Try.prog 12 (anOf []) (bodyOf Try.f95) 1 (fun A h => resA Try.prog A h K [.tmp 4]) (fun _ _ _ => False) (fun A h => resA Try.prog A h K [.tmp 4]) (aargs [a0_1, left1_1] 0) h = t95 Try.prog a0_1 left1_1 h K := by kernel_rfl
theorem c95 (a0_1 : Value) (left1_1 : Value) (h : Heap) (K : Value → Heap → Prop) (H : t95 Try.prog a0_1 left1_1 h K) : callM Try.prog 95 #[a0_1, left1_1] h K :=
  callM_of_wpA mixed (fn := Try.f95) Try.func95 (c := bodyOf Try.f95) rfl (of_decide_eq_true (by kernel_rfl)) (anOf []) 10 12 (by kernel_rfl) rfl [.tmp 4] (by kernel_rfl) (args := [a0_1, left1_1]) (by rw [e95]; exact H)

/-! spec.l1All -/
def t96 (P : Program) (l0_1 : Value) (lo1_1 : Value) (hi2_1 : Value) (h : Heap) (K : Value → Heap → Prop) : Prop :=
  pop P (lenS 27 3 l0_1) fun t10_1 =>
  ∃ (I_1 : List Value → Heap → Prop) (μ_1 : List Value → Heap → Nat), I_1 [(Value.int IntKind.i64 0)] h ∧
  ∀ (junk_1 : Nat → Value) (t11_1 : Value) (h_1 : Heap), I_1 [t11_1] h_1 →
  pop P (binA .lss 3 t11_1 t10_1) fun t12_1 =>
  condM t12_1
  (pop P (Instr.indexAt 27 l0_1 t11_1) fun t13_1 =>
  rop P (Instr.loadAt 3 t13_1) h_1 fun t14_1 =>
  callM P 113 #[t14_1, lo1_1, hi2_1] h_1 fun t18_1 h_2 =>
  pop P (Op.unary .not t18_1) fun t19_1 =>
  condM t19_1
  (K (Value.bool false) h_2)
  (pop P (binA .add 3 t11_1 (Value.int IntKind.i64 1)) fun t20_1 =>
  I_1 [t20_1] h_2 ∧ μ_1 [t20_1] h_2 < μ_1 [t11_1] h_1))
  (K (Value.bool true) h_1)
theorem e96 (l0_1 : Value) (lo1_1 : Value) (hi2_1 : Value) (h : Heap) (K : Value → Heap → Prop) : wpA Try.prog 21 (anOf [(26, [11])]) (bodyOf Try.f96) 1 (fun A h => resA Try.prog A h K [.tmp 6]) (fun _ _ _ => False) (fun A h => resA Try.prog A h K [.tmp 6]) (aargs [l0_1, lo1_1, hi2_1] 0) h = t96 Try.prog l0_1 lo1_1 hi2_1 h K := by kernel_rfl
theorem c96 (l0_1 : Value) (lo1_1 : Value) (hi2_1 : Value) (h : Heap) (K : Value → Heap → Prop) (H : t96 Try.prog l0_1 lo1_1 hi2_1 h K) : callM Try.prog 96 #[l0_1, lo1_1, hi2_1] h K :=
  callM_of_wpA mixed (fn := Try.f96) Try.func96 (c := bodyOf Try.f96) rfl (of_decide_eq_true (by kernel_rfl)) (anOf [(26, [11])]) 18 21 (by kernel_rfl) rfl [.tmp 6] (by kernel_rfl) (args := [l0_1, lo1_1, hi2_1]) (by rw [e96]; exact H)

/-! spec.skCycles -/
def t97 (P : Program) (g0_1 : Value) (s1_1 : Value) (h : Heap) (K : Value → Heap → Prop) : Prop :=
  eop P (Instr.box 32 g0_1) h fun g2_1 h_1 =>
  eop P (Instr.box 34 s1_1) h_1 fun s3_1 h_2 =>
  pop P (Instr.fieldAt 32 g2_1 0) fun t8_1 =>
  rop P (Instr.loadAt 22 t8_1) h_2 fun t9_1 =>
  pop P (lenS 22 3 t9_1) fun t10_1 =>
  ∃ (I_1 : List Value → Heap → Prop) (μ_1 : List Value → Heap → Nat), I_1 [(Value.slice none 0 0), (Value.int IntKind.i64 0)] h_2 ∧
  ∀ (junk_1 : Nat → Value) (out5_1 : Value) (t11_1 : Value) (h_3 : Heap), I_1 [out5_1, t11_1] h_3 →
  pop P (binA .lss 3 t11_1 t10_1) fun t12_1 =>
  condM t12_1
  (rop P (Instr.loadAt 32 g2_1) h_3 fun t14_1 =>
  rop P (Instr.loadAt 34 s3_1) h_3 fun t15_1 =>
  callM P 120 #[t14_1, t15_1, t11_1] h_3 fun t17_1 h_4 =>
  pop P (lenS 27 3 t17_1) fun t19_1 =>
  pop P (binA .gtr 3 t19_1 (Value.int IntKind.i64 0)) fun t20_1 =>
  guardM (asG t20_1 true) true (fun k_1 => k_1 t17_1 h_4) h_4 fun t22_1 h_5 =>
  guardM (asG t20_1 true) true (fun k_2 => pop P (Instr.indexAt 27 t22_1 (Value.int IntKind.i64 0)) fun t23_1 =>
  k_2 t23_1 h_5) h_5 fun t23_2 h_6 =>
  guardM (asG t20_1 true) true (fun k_3 => rop P (Instr.loadAt 3 t23_2) h_6 fun t24_1 =>
  k_3 t24_1 h_6) h_6 fun t24_2 h_7 =>
  guardM (asG t20_1 true) true (fun k_4 => k_4 t11_1 h_7) h_7 fun t25_1 h_8 =>
  guardM (asG t20_1 true) true (fun k_5 => pop P (binE .eql 3 (.tmp 24) (.tmp 25) t24_2 t25_1) fun t26_1 =>
  k_5 t26_1 h_8) h_8 fun t26_2 h_9 =>
  pop P (pickS t20_1 t26_2 (Value.bool false)) fun t27_1 =>
  condM t27_1
  (eop P (Instr.buildSlice 22 1 #[(0, t17_1)]) h_9 fun t30_1 h_10 =>
  eop P (appS 22 22 22 out5_1 t30_1) h_10 fun t31_1 h_11 =>
  pop P (binA .add 3 t11_1 (Value.int IntKind.i64 1)) fun t32_1 =>
  I_1 [t31_1, t32_1] h_11 ∧ μ_1 [t31_1, t32_1] h_11 < μ_1 [out5_1, t11_1] h_3)
  (pop P (binA .add 3 t11_1 (Value.int IntKind.i64 1)) fun t32_2 =>
  I_1 [out5_1, t32_2] h_9 ∧ μ_1 [out5_1, t32_2] h_9 < μ_1 [out5_1, t11_1] h_3))
  (K out5_1 h_3)
theorem e97 (g0_1 : Value) (s1_1 : Value) (h : Heap) (K : Value → Heap → Prop) : wpA Try.prog 34 (anOf [(58, [5, 11])]) (bodyOf Try.f97) 1 (fun A h => resA Try.prog A h K [.tmp 4]) (fun _ _ _ => False) (fun A h => resA Try.prog A h K [.tmp 4]) (aargs [g0_1, s1_1] 0) h = t97 Try.prog g0_1 s1_1 h K := by kernel_rfl
theorem c97 (g0_1 : Value) (s1_1 : Value) (h : Heap) (K : Value → Heap → Prop) (H : t97 Try.prog g0_1 s1_1 h K) : callM Try.prog 97 #[g0_1, s1_1] h K :=
  callM_of_wpA mixed (fn := Try.f97) Try.func97 (c := bodyOf Try.f97) rfl (of_decide_eq_true (by kernel_rfl)) (anOf [(58, [5, 11])]) 32 34 (by kernel_rfl) rfl [.tmp 4] (by kernel_rfl) (args := [g0_1, s1_1]) (by rw [e97]; exact H)

/-! spec.skTops -/
def t98 (P : Program) (g0_1 : Value) (sink1_1 : Value) (s2_1 : Value) (h : Heap) (K : Value → Heap → Prop) : Prop :=
  eop P (Instr.box 32 g0_1) h fun g3_1 h_1 =>
  eop P (Instr.box 34 s2_1) h_1 fun s5_1 h_2 =>
  pop P (Instr.fieldAt 32 g3_1 0) fun t11_1 =>
  rop P (Instr.loadAt 22 t11_1) h_2 fun t12_1 =>
  pop P (lenS 22 3 t12_1) fun t13_1 =>
  eop P (Instr.makeSlice 27 t13_1 t13_1) h_2 fun t14_1 h_3 =>
  pop P (Instr.fieldAt 34 s5_1 0) fun t15_1 =>
  rop P (Instr.loadAt 22 t15_1) h_3 fun t16_1 =>
  pop P (lenS 22 3 t16_1) fun t17_1 =>
  ∃ (I_1 : List Value → Heap → Prop) (μ_1 : List Value → Heap → Nat), I_1 [(Value.int IntKind.i64 0)] h_3 ∧
  ∀ (junk_1 : Nat → Value) (t18_1 : Value) (h_4 : Heap), I_1 [t18_1] h_4 →
  pop P (binA .lss 3 t18_1 t17_1) fun t19_1 =>
  condM t19_1
  (pop P (Instr.indexAt 22 t16_1 t18_1) fun t21_1 =>
  rop P (Instr.loadAt 27 t21_1) h_4 fun t22_1 =>
  pop P (binE .eql 3 (.tmp 23) (.tmp 24) t18_1 sink1_1) fun t25_1 =>
  condM t25_1
  (pop P (binA .add 3 t18_1 (Value.int IntKind.i64 1)) fun t35_1 =>
  I_1 [t35_1] h_4 ∧ μ_1 [t35_1] h_4 < μ_1 [t18_1] h_4)
  (pop P (lenS 27 3 t22_1) fun t27_1 =>
  pop P (binE .eql 3 (.tmp 27) (.const (Value.int IntKind.i64 0)) t27_1 (Value.int IntKind.i64 0)) fun t28_1 =>
  condM t28_1
  (K (.tuple #[(Value.slice none 0 0), (Value.bool false)]) h_4)
  (pop P (Instr.indexAt 27 t22_1 (Value.int IntKind.i64 0)) fun t32_1 =>
  rop P (Instr.loadAt 3 t32_1) h_4 fun t33_1 =>
  pop P (Instr.indexAt 27 t14_1 t18_1) fun t34_1 =>
  uop P (Instr.storeAt 3 t34_1 t33_1) h_4 fun u_1 h_5 =>
  pop P (binA .add 3 t18_1 (Value.int IntKind.i64 1)) fun t35_2 =>
  I_1 [t35_2] h_5 ∧ μ_1 [t35_2] h_5 < μ_1 [t18_1] h_4)))
  (K (.tuple #[t14_1, (Value.bool true)]) h_4)
theorem e98 (g0_1 : Value) (sink1_1 : Value) (s2_1 : Value) (h : Heap) (K : Value → Heap → Prop) : wpA Try.prog 37 (anOf [(58, [18])]) (bodyOf Try.f98) 1 (fun A h => resA Try.prog A h K [.tmp 6, .tmp 7]) (fun _ _ _ => False) (fun A h => resA Try.prog A h K [.tmp 6, .tmp 7]) (aargs [g0_1, sink1_1, s2_1] 0) h = t98 Try.prog g0_1 sink1_1 s2_1 h K := by kernel_rfl
theorem c98 (g0_1 : Value) (sink1_1 : Value) (s2_1 : Value) (h : Heap) (K : Value → Heap → Prop) (H : t98 Try.prog g0_1 sink1_1 s2_1 h K) : callM Try.prog 98 #[g0_1, sink1_1, s2_1] h K :=
  callM_of_wpA mixed (fn := Try.f98) Try.func98 (c := bodyOf Try.f98) rfl (of_decide_eq_true (by kernel_rfl)) (anOf [(58, [18])]) 34 37 (by kernel_rfl) rfl [.tmp 6, .tmp 7] (by kernel_rfl) (args := [g0_1, sink1_1, s2_1]) (by rw [e98]; exact H)

/-! spec.skPop -/
def t99 (P : Program) (s0_1 : Value) (cycle1_1 : Value) (h : Heap) (K : Value → Heap → Prop) : Prop :=
  eop P (Instr.box 34 s0_1) h fun s2_1 h_1 =>
  eop P (Instr.alloc 34 true (.tuple #[])) h_1 fun t4_1 h_2 =>
  pop P (Instr.build 34 #[]) fun t8_1 =>
  eop P (Instr.alloc 34 true (.tuple #[])) h_2 fun out5_1 h_3 =>
  uop P (Instr.storeAt 34 out5_1 t8_1) h_3 fun u_1 h_4 =>
  pop P (Instr.fieldAt 34 s2_1 0) fun t9_1 =>
  rop P (Instr.loadAt 22 t9_1) h_4 fun t10_1 =>
  pop P (lenS 22 3 t10_1) fun t11_1 =>
  ∃ (I_1 : List Value → Heap → Prop) (μ_1 : List Value → Heap → Nat), I_1 [(Value.int IntKind.i64 0)] h_4 ∧
  ∀ (junk_1 : Nat → Value) (t12_1 : Value) (h_5 : Heap), I_1 [t12_1] h_5 →
  pop P (binA .lss 3 t12_1 t11_1) fun t13_1 =>
  condM t13_1
  (pop P (Instr.indexAt 22 t10_1 t12_1) fun t15_1 =>
  rop P (Instr.loadAt 27 t15_1) h_5 fun t16_1 =>
  ∃ J_1 : List Value → Heap → Prop, (callM P 74 #[cycle1_1, t12_1] h_5 fun t19_1 h_6 =>
  condM t19_1
  (pop P (Instr.sliceAt 27 t16_1 (some (Value.int IntKind.i64 1)) none none) fun t21_1 =>
  J_1 [t21_1] h_6)
  (J_1 [t16_1] h_6)) ∧
  ∀ (junk_2 : Nat → Value) (list7_1 : Value) (h_7 : Heap), J_1 [list7_1] h_7 →
  pop P (Instr.fieldAt 34 out5_1 0) fun t22_1 =>
  rop P (Instr.loadAt 22 t22_1) h_7 fun t23_1 =>
  callM P 87 #[list7_1] h_7 fun t25_1 h_8 =>
  (∀ w : World, w.heap = h_8 → (Instr.loadAt 22 t22_1).run P w = .ok t23_1 w) ∧
  eop P (Instr.buildSlice 22 1 #[(0, t25_1)]) h_8 fun t26_1 h_9 =>
  (∀ w : World, w.heap = h_9 → (Instr.loadAt 22 t22_1).run P w = .ok t23_1 w) ∧
  eop P (appS 22 22 22 t23_1 t26_1) h_9 fun t27_1 h_10 =>
  pop P (Instr.fieldAt 34 out5_1 0) fun t28_1 =>
  uop P (Instr.storeAt 22 t28_1 t27_1) h_10 fun u_2 h_11 =>
  pop P (binA .add 3 t12_1 (Value.int IntKind.i64 1)) fun t29_1 =>
  I_1 [t29_1] h_11 ∧ μ_1 [t29_1] h_11 < μ_1 [t12_1] h_5)
  (rop P (Instr.loadAt 34 out5_1) h_5 fun t30_1 =>
  uop P (Instr.storeAt 34 t4_1 t30_1) h_5 fun u_3 h_12 =>
  rop P (Instr.loadAt 34 t4_1) h_12 fun r_1 =>
  K r_1 h_12)
theorem e99 (s0_1 : Value) (cycle1_1 : Value) (h : Heap) (K : Value → Heap → Prop) : wpA Try.prog 31 (anOf [(58, [12]), (3737, [7])]) (bodyOf Try.f99) 1 (fun A h => resA Try.prog A h K [.cell 4 34]) (fun _ _ _ => False) (fun A h => resA Try.prog A h K [.cell 4 34]) (aargs [s0_1, cycle1_1] 0) h = t99 Try.prog s0_1 cycle1_1 h K := by kernel_rfl
theorem c99 (s0_1 : Value) (cycle1_1 : Value) (h : Heap) (K : Value → Heap → Prop) (H : t99 Try.prog s0_1 cycle1_1 h K) : callM Try.prog 99 #[s0_1, cycle1_1] h K :=
  callM_of_wpA mixed (fn := Try.f99) Try.func99 (c := bodyOf Try.f99) rfl (of_decide_eq_true (by kernel_rfl)) (anOf [(58, [12]), (3737, [7])]) 29 31 (by kernel_rfl) rfl [.cell 4 34] (by kernel_rfl) (args := [s0_1, cycle1_1]) (by rw [e99]; exact H)

/-! spec.skNext -/
def t100 (P : Program) (g0_1 : Value) (s1_1 : Value) (p2_1 : Value) (h : Heap) (K : Value → Heap → Prop) : Prop :=
  eop P (Instr.box 32 g0_1) h fun g3_1 h_1 =>
  eop P (Instr.box 34 s1_1) h_1 fun s4_1 h_2 =>
  pop P (Instr.fieldAt 34 s4_1 0) fun t7_1 =>
  rop P (Instr.loadAt 22 t7_1) h_2 fun t8_1 =>
  pop P (Instr.indexAt 22 t8_1 p2_1) fun t10_1 =>
  rop P (Instr.loadAt 27 t10_1) h_2 fun t11_1 =>
  pop P (lenS 27 3 t11_1) fun t12_1 =>
  pop P (binE .eql 3 (.tmp 12) (.const (Value.int IntKind.i64 0)) t12_1 (Value.int IntKind.i64 0)) fun t13_1 =>
  condM t13_1
  (K (Value.int IntKind.i64 (-1)) h_2)
  (pop P (Instr.fieldAt 32 g3_1 0) fun t14_1 =>
  rop P (Instr.loadAt 22 t14_1) h_2 fun t15_1 =>
  pop P (Instr.indexAt 22 t15_1 p2_1) fun t17_1 =>
  rop P (Instr.loadAt 27 t17_1) h_2 fun t18_1 =>
  pop P (Instr.fieldAt 34 s4_1 0) fun t19_1 =>
  rop P (Instr.loadAt 22 t19_1) h_2 fun t20_1 =>
  pop P (Instr.indexAt 22 t20_1 p2_1) fun t22_1 =>
  rop P (Instr.loadAt 27 t22_1) h_2 fun t23_1 =>
  pop P (Instr.indexAt 27 t23_1 (Value.int IntKind.i64 0)) fun t24_1 =>
  rop P (Instr.loadAt 3 t24_1) h_2 fun t25_1 =>
  pop P (Instr.indexAt 27 t18_1 t25_1) fun t26_1 =>
  rop P (Instr.loadAt 3 t26_1) h_2 fun t27_1 =>
  K t27_1 h_2)
theorem e100 (g0_1 : Value) (s1_1 : Value) (p2_1 : Value) (h : Heap) (K : Value → Heap → Prop) : wpA Try.prog 28 (anOf []) (bodyOf Try.f100) 1 (fun A h => resA Try.prog A h K [.tmp 6]) (fun _ _ _ => False) (fun A h => resA Try.prog A h K [.tmp 6]) (aargs [g0_1, s1_1, p2_1] 0) h = t100 Try.prog g0_1 s1_1 p2_1 h K := by kernel_rfl
theorem c100 (g0_1 : Value) (s1_1 : Value) (p2_1 : Value) (h : Heap) (K : Value → Heap → Prop) (H : t100 Try.prog g0_1 s1_1 p2_1 h K) : callM Try.prog 100 #[g0_1, s1_1, p2_1] h K :=
  callM_of_wpA mixed (fn := Try.f100) Try.func100 (c := bodyOf Try.f100) rfl (of_decide_eq_true (by kernel_rfl)) (anOf []) 25 28 (by kernel_rfl) rfl [.tmp 6] (by kernel_rfl) (args := [g0_1, s1_1, p2_1]) (by rw [e100]; exact H)

/-! spec.skPlace -/
def t101 (P : Program) (list0_1 : Value) (x1_1 : Value) (h : Heap) (K : Value → Heap → Prop) : Prop :=
  pop P (lenS 27 3 list0_1) fun t8_1 =>
  ∃ (I_1 : List Value → Heap → Prop) (μ_1 : List Value → Heap → Nat), I_1 [(Value.int IntKind.i64 0)] h ∧
  ∀ (junk_1 : Nat → Value) (t9_1 : Value) (h_1 : Heap), I_1 [t9_1] h_1 →
  pop P (binA .lss 3 t9_1 t8_1) fun t10_1 =>
  condM t10_1
  (pop P (Instr.indexAt 27 list0_1 t9_1) fun t12_1 =>
  rop P (Instr.loadAt 3 t12_1) h_1 fun t13_1 =>
  pop P (binE .eql 3 (.tmp 14) (.tmp 15) t13_1 x1_1) fun t16_1 =>
  condM t16_1
  (K t9_1 h_1)
  (pop P (binA .add 3 t9_1 (Value.int IntKind.i64 1)) fun t18_1 =>
  I_1 [t18_1] h_1 ∧ μ_1 [t18_1] h_1 < μ_1 [t9_1] h_1))
  (K (Value.int IntKind.i64 (-1)) h_1)
theorem e101 (list0_1 : Value) (x1_1 : Value) (h : Heap) (K : Value → Heap → Prop) : wpA Try.prog 19 (anOf [(26, [9])]) (bodyOf Try.f101) 1 (fun A h => resA Try.prog A h K [.tmp 4]) (fun _ _ _ => False) (fun A h => resA Try.prog A h K [.tmp 4]) (aargs [list0_1, x1_1] 0) h = t101 Try.prog list0_1 x1_1 h K := by kernel_rfl
theorem c101 (list0_1 : Value) (x1_1 : Value) (h : Heap) (K : Value → Heap → Prop) (H : t101 Try.prog list0_1 x1_1 h K) : callM Try.prog 101 #[list0_1, x1_1] h K :=
  callM_of_wpA mixed (fn := Try.f101) Try.func101 (c := bodyOf Try.f101) rfl (of_decide_eq_true (by kernel_rfl)) (anOf [(26, [9])]) 17 19 (by kernel_rfl) rfl [.tmp 4] (by kernel_rfl) (args := [list0_1, x1_1]) (by rw [e101]; exact H)

/-! impl.in -/
def t102 (P : Program) (n0_1 : Value) (low1_1 : Value) (high2_1 : Value) (h : Heap) (K : Value → Heap → Prop) : Prop :=
  pop P (binA .leq 3 low1_1 n0_1) fun t9_1 =>
  guardM (asG t9_1 true) true (fun k_1 => k_1 n0_1 h) h fun t11_1 h_1 =>
  guardM (asG t9_1 true) true (fun k_2 => k_2 high2_1 h_1) h_1 fun t12_1 h_2 =>
  guardM (asG t9_1 true) true (fun k_3 => pop P (binA .leq 3 t11_1 t12_1) fun t13_1 =>
  k_3 t13_1 h_2) h_2 fun t13_2 h_3 =>
  pop P (pickS t9_1 t13_2 (Value.bool false)) fun t14_1 =>
  K t14_1 h_3
theorem e102 (n0_1 : Value) (low1_1 : Value) (high2_1 : Value) (h : Heap) (K : Value → Heap → Prop) : wpA Try.prog 15 (anOf []) (bodyOf Try.f102) 1 (fun A h => resA Try.prog A h K [.tmp 6]) (fun _ _ _ => False) (fun A h => resA Try.prog A h K [.tmp 6]) (aargs [n0_1, low1_1, high2_1] 0) h = t102 Try.prog n0_1 low1_1 high2_1 h K := by kernel_rfl
theorem c102 (n0_1 : Value) (low1_1 : Value) (high2_1 : Value) (h : Heap) (K : Value → Heap → Prop) (H : t102 Try.prog n0_1 low1_1 high2_1 h K) : callM Try.prog 102 #[n0_1, low1_1, high2_1] h K :=
  callM_of_wpA mixed (fn := Try.f102) Try.func102 (c := bodyOf Try.f102) rfl (of_decide_eq_true (by kernel_rfl)) (anOf []) 12 15 (by kernel_rfl) rfl [.tmp 6] (by kernel_rfl) (args := [n0_1, low1_1, high2_1]) (by rw [e102]; exact H)

/-! slices.ContainsFunc[[]int,int] -/
def t103 (P : Program) (s0_1 : Value) (f1_1 : Value) (h : Heap) (K : Value → Heap → Prop) : Prop :=
  callM P 121 #[s0_1, f1_1] h fun t7_1 h_1 =>
  pop P (binA .geq 3 t7_1 (Value.int IntKind.i64 0)) fun t8_1 =>
  K t8_1 h_1
theorem e103 (s0_1 : Value) (f1_1 : Value) (h : Heap) (K : Value → Heap → Prop) : wpA Try.prog 9 (anOf []) (bodyOf Try.f103) 1 (fun A h => resA Try.prog A h K [.tmp 4]) (fun _ _ _ => False) (fun A h => resA Try.prog A h K [.tmp 4]) (aargs [s0_1, f1_1] 0) h = t103 Try.prog s0_1 f1_1 h K := by kernel_rfl
theorem c103 (s0_1 : Value) (f1_1 : Value) (h : Heap) (K : Value → Heap → Prop) (H : t103 Try.prog s0_1 f1_1 h K) : callM Try.prog 103 #[s0_1, f1_1] h K :=
  callM_of_wpA mixed (fn := Try.f103) Try.func103 (c := bodyOf Try.f103) rfl (of_decide_eq_true (by kernel_rfl)) (anOf []) 7 9 (by kernel_rfl) rfl [.tmp 4] (by kernel_rfl) (args := [s0_1, f1_1]) (by rw [e103]; exact H)

/-! impl.isGraph$1 -/
def t104 (P : Program) (q0_1 : Value) (t1_1 : Value) (h : Heap) (K : Value → Heap → Prop) : Prop :=
  rop P (Instr.loadAt 3 t1_1) h fun t5_1 =>
  pop P (binA .sub 3 t5_1 (Value.int IntKind.i64 1)) fun t6_1 =>
  callM P 102 #[q0_1, (Value.int IntKind.i64 0), t6_1] h fun t7_1 h_1 =>
  pop P (Op.unary .not t7_1) fun t8_1 =>
  K t8_1 h_1
theorem e104 (q0_1 : Value) (t1_1 : Value) (h : Heap) (K : Value → Heap → Prop) : wpA Try.prog 9 (anOf []) (bodyOf Try.f104) 1 (fun A h => resA Try.prog A h K [.tmp 3]) (fun _ _ _ => False) (fun A h => resA Try.prog A h K [.tmp 3]) (aargs [q0_1, t1_1] 0) h = t104 Try.prog q0_1 t1_1 h K := by kernel_rfl
theorem c104 (q0_1 : Value) (t1_1 : Value) (h : Heap) (K : Value → Heap → Prop) (H : t104 Try.prog q0_1 t1_1 h K) : callM Try.prog 104 #[q0_1, t1_1] h K :=
  callM_of_wpA mixed (fn := Try.f104) Try.func104 (c := bodyOf Try.f104) rfl (of_decide_eq_true (by kernel_rfl)) (anOf []) 7 9 (by kernel_rfl) rfl [.tmp 3] (by kernel_rfl) (args := [q0_1, t1_1]) (by rw [e104]; exact H)

/-! slices.Sorted[int] -/
def t105 (P : Program) (seq0_1 : Value) (h : Heap) (K : Value → Heap → Prop) : Prop :=
  callM P 122 #[seq0_1] h fun t5_1 h_1 =>
  callM P 123 #[t5_1] h_1 fun t7_1 h_2 =>
  K t5_1 h_2
theorem e105 (seq0_1 : Value) (h : Heap) (K : Value → Heap → Prop) : wpA Try.prog 9 (anOf []) (bodyOf Try.f105) 1 (fun A h => resA Try.prog A h K [.tmp 2]) (fun _ _ _ => False) (fun A h => resA Try.prog A h K [.tmp 2]) (aargs [seq0_1] 0) h = t105 Try.prog seq0_1 h K := by kernel_rfl
theorem c105 (seq0_1 : Value) (h : Heap) (K : Value → Heap → Prop) (H : t105 Try.prog seq0_1 h K) : callM Try.prog 105 #[seq0_1] h K :=
  callM_of_wpA mixed (fn := Try.f105) Try.func105 (c := bodyOf Try.f105) rfl (of_decide_eq_true (by kernel_rfl)) (anOf []) 8 9 (by kernel_rfl) rfl [.tmp 2] (by kernel_rfl) (args := [seq0_1]) (by rw [e105]; exact H)

/-! slices.Values[[]int,int] -/
def t106 (P : Program) (s0_1 : Value) (h : Heap) (K : Value → Heap → Prop) : Prop :=
  eop P (Instr.box 27 s0_1) h fun s1_1 h_1 =>
  pop P (Instr.makeFunc (Fn.func 124) #[] #[s1_1]) fun t3_1 =>
  K t3_1 h_1
theorem e106 (s0_1 : Value) (h : Heap) (K : Value → Heap → Prop) : wpA Try.prog 4 (anOf []) (bodyOf Try.f106) 1 (fun A h => resA Try.prog A h K [.tmp 2]) (fun _ _ _ => False) (fun A h => resA Try.prog A h K [.tmp 2]) (aargs [s0_1] 0) h = t106 Try.prog s0_1 h K := by kernel_rfl
theorem c106 (s0_1 : Value) (h : Heap) (K : Value → Heap → Prop) (H : t106 Try.prog s0_1 h K) : callM Try.prog 106 #[s0_1] h K :=
  callM_of_wpA mixed (fn := Try.f106) Try.func106 (c := bodyOf Try.f106) rfl (of_decide_eq_true (by kernel_rfl)) (anOf []) 3 4 (by kernel_rfl) rfl [.tmp 2] (by kernel_rfl) (args := [s0_1]) (by rw [e106]; exact H)

/-! impl.popped -/
def t107 (P : Program) (g0_1 : Value) (sink1_1 : Value) (s2_1 : Value) (choices3_1 : Value) (h : Heap) (K : Value → Heap → Prop) : Prop :=
  eop P (Instr.box 32 g0_1) h fun g4_1 h_1 =>
  eop P (Instr.box 34 s2_1) h_1 fun s6_1 h_2 =>
  eop P (Instr.alloc 34 true (.tuple #[])) h_2 fun t8_1 h_3 =>
  rop P (Instr.loadAt 32 g4_1) h_3 fun t17_1 =>
  rop P (Instr.loadAt 34 s6_1) h_3 fun t19_1 =>
  callM P 125 #[t17_1, sink1_1, t19_1] h_3 fun t20_1 h_4 =>
  pop P (Op.unary .not t20_1) fun t21_1 =>
  guardM (asG t21_1 false) false (fun k_1 => k_1 choices3_1 h_4) h_4 fun t23_1 h_5 =>
  guardM (asG t21_1 false) false (fun k_2 => pop P (lenS 27 3 t23_1) fun t24_1 =>
  k_2 t24_1 h_5) h_5 fun t24_2 h_6 =>
  guardM (asG t21_1 false) false (fun k_3 => pop P (binA .gtr 3 t24_2 (Value.int IntKind.i64 100)) fun t25_1 =>
  k_3 t25_1 h_6) h_6 fun t25_2 h_7 =>
  pop P (pickS t21_1 (Value.bool true) t25_2) fun t26_1 =>
  guardM (asG t26_1 false) false (fun k_4 => k_4 choices3_1 h_7) h_7 fun t28_1 h_8 =>
  guardM (asG t26_1 false) false (fun k_5 => callM P 103 #[t28_1, (.func (.func 126) #[] #[])] h_8 fun t29_1 h_9 =>
  k_5 t29_1 h_9) h_8 fun t29_2 h_10 =>
  pop P (pickS t26_1 (Value.bool true) t29_2) fun t30_1 =>
  condM t30_1
  (pop P (Instr.build 34 #[]) fun t31_1 =>
  uop P (Instr.storeAt 34 t8_1 t31_1) h_10 fun u_1 h_11 =>
  rop P (Instr.loadAt 34 t8_1) h_11 fun r_1 =>
  K (.tuple #[r_1, (Value.int IntKind.i64 0), (Value.bool false)]) h_11)
  (rop P (Instr.loadAt 34 s6_1) h_10 fun t32_1 =>
  callM P 127 #[t32_1] h_10 fun t33_1 h_12 =>
  eop P (Instr.alloc 34 true (.tuple #[])) h_12 fun out11_1 h_13 =>
  uop P (Instr.storeAt 34 out11_1 t33_1) h_13 fun u_2 h_14 =>
  ∃ (I_1 : List Value → Heap → Prop) (μ_1 : List Value → Heap → Nat), I_1 [(Value.int IntKind.i64 0)] h_14 ∧
  ∀ (junk_1 : Nat → Value) (many12_1 : Value) (h_15 : Heap), I_1 [many12_1] h_15 →
  rop P (Instr.loadAt 34 out11_1) h_15 fun t34_1 =>
  rop P (Instr.loadAt 32 g4_1) h_15 fun t35_1 =>
  callM P 128 #[t34_1, t35_1] h_15 fun t36_1 h_16 =>
  pop P (lenS 22 3 t36_1) fun t38_1 =>
  pop P (binE .eql 3 (.tmp 38) (.const (Value.int IntKind.i64 0)) t38_1 (Value.int IntKind.i64 0)) fun t39_1 =>
  condM t39_1
  (rop P (Instr.loadAt 34 out11_1) h_16 fun t63_1 =>
  callM P 108 #[t63_1, sink1_1] h_16 fun t65_1 h_17 =>
  pop P (Instr.extract t65_1 0) fun t66_1 =>
  pop P (Instr.extract t65_1 1) fun t67_1 =>
  pop P (Op.unary .not t67_1) fun t69_1 =>
  condM t69_1
  (pop P (Instr.build 34 #[]) fun t70_1 =>
  uop P (Instr.storeAt 34 t8_1 t70_1) h_17 fun u_3 h_18 =>
  rop P (Instr.loadAt 34 t8_1) h_18 fun r_2 =>
  K (.tuple #[r_2, (Value.int IntKind.i64 0), (Value.bool false)]) h_18)
  (rop P (Instr.loadAt 34 out11_1) h_17 fun t71_1 =>
  callM P 127 #[t71_1] h_17 fun t72_1 h_19 =>
  uop P (Instr.storeAt 34 t8_1 t72_1) h_19 fun u_4 h_20 =>
  rop P (Instr.loadAt 34 t8_1) h_20 fun r_3 =>
  K (.tuple #[r_3, many12_1, (Value.bool true)]) h_20))
  (pop P (binE .eql 3 (.tmp 40) (.const (Value.int IntKind.i64 200)) many12_1 (Value.int IntKind.i64 200)) fun t41_1 =>
  condM t41_1
  (pop P (Instr.build 34 #[]) fun t42_1 =>
  uop P (Instr.storeAt 34 t8_1 t42_1) h_16 fun u_5 h_21 =>
  rop P (Instr.loadAt 34 t8_1) h_21 fun r_4 =>
  K (.tuple #[r_4, (Value.int IntKind.i64 0), (Value.bool false)]) h_21)
  (∃ J_1 : List Value → Heap → Prop, (pop P (lenS 27 3 choices3_1) fun t45_1 =>
  pop P (binA .lss 3 many12_1 t45_1) fun t46_1 =>
  condM t46_1
  (pop P (Instr.indexAt 27 choices3_1 many12_1) fun t49_1 =>
  rop P (Instr.loadAt 3 t49_1) h_16 fun t50_1 =>
  pop P (lenS 22 3 t36_1) fun t52_1 =>
  pop P (binA .rem 3 t50_1 t52_1) fun t53_1 =>
  J_1 [t53_1] h_16)
  (J_1 [(Value.int IntKind.i64 0)] h_16)) ∧
  ∀ (junk_2 : Nat → Value) (k14_1 : Value) (h_22 : Heap), J_1 [k14_1] h_22 →
  rop P (Instr.loadAt 34 out11_1) h_22 fun t54_1 =>
  pop P (Instr.indexAt 22 t36_1 k14_1) fun t57_1 =>
  rop P (Instr.loadAt 27 t57_1) h_22 fun t58_1 =>
  callM P 129 #[t54_1, t58_1] h_22 fun t59_1 h_23 =>
  pop P (binA .add 3 many12_1 (Value.int IntKind.i64 1)) fun t61_1 =>
  I_1 [t61_1] h_23 ∧ μ_1 [t61_1] h_23 < μ_1 [many12_1] h_15)))
theorem e107 (g0_1 : Value) (sink1_1 : Value) (s2_1 : Value) (choices3_1 : Value) (h : Heap) (K : Value → Heap → Prop) : wpA Try.prog 74 (anOf [(60, [12]), (3855, [14])]) (bodyOf Try.f107) 1 (fun A h => resA Try.prog A h K [.cell 8 34, .tmp 9, .tmp 10]) (fun _ _ _ => False) (fun A h => resA Try.prog A h K [.cell 8 34, .tmp 9, .tmp 10]) (aargs [g0_1, sink1_1, s2_1, choices3_1] 0) h = t107 Try.prog g0_1 sink1_1 s2_1 choices3_1 h K := by kernel_rfl
theorem c107 (g0_1 : Value) (sink1_1 : Value) (s2_1 : Value) (choices3_1 : Value) (h : Heap) (K : Value → Heap → Prop) (H : t107 Try.prog g0_1 sink1_1 s2_1 choices3_1 h K) : callM Try.prog 107 #[g0_1, sink1_1, s2_1, choices3_1] h K :=
  callM_of_wpA mixed (fn := Try.f107) Try.func107 (c := bodyOf Try.f107) rfl (of_decide_eq_true (by kernel_rfl)) (anOf [(60, [12]), (3855, [14])]) 70 74 (by kernel_rfl) rfl [.cell 8 34, .tmp 9, .tmp 10] (by kernel_rfl) (args := [g0_1, sink1_1, s2_1, choices3_1]) (by rw [e107]; exact H)

/-! (impl.Stacks).tops -/
def t108 (P : Program) (s0_1 : Value) (sink1_1 : Value) (h : Heap) (K : Value → Heap → Prop) : Prop :=
  eop P (Instr.box 34 s0_1) h fun s2_1 h_1 =>
  eop P (Instr.buildSlice 27 0 #[]) h_1 fun t9_1 h_2 =>
  pop P (Instr.fieldAt 34 s2_1 0) fun t10_1 =>
  rop P (Instr.loadAt 22 t10_1) h_2 fun t11_1 =>
  pop P (lenS 22 3 t11_1) fun t12_1 =>
  ∃ (I_1 : List Value → Heap → Prop) (μ_1 : List Value → Heap → Nat), I_1 [t9_1, (Value.int IntKind.i64 0)] h_2 ∧
  ∀ (junk_1 : Nat → Value) (out6_1 : Value) (t13_1 : Value) (h_3 : Heap), I_1 [out6_1, t13_1] h_3 →
  pop P (binA .lss 3 t13_1 t12_1) fun t14_1 =>
  condM t14_1
  (pop P (Instr.indexAt 22 t11_1 t13_1) fun t16_1 =>
  rop P (Instr.loadAt 27 t16_1) h_3 fun t17_1 =>
  pop P (binE .eql 3 (.tmp 25) (.tmp 26) t13_1 sink1_1) fun t27_1 =>
  condM t27_1
  (eop P (Instr.buildSlice 27 1 #[(0, (Value.int IntKind.i64 0))]) h_3 fun t29_1 h_4 =>
  eop P (appS 27 27 27 out6_1 t29_1) h_4 fun t30_1 h_5 =>
  pop P (binA .add 3 t13_1 (Value.int IntKind.i64 1)) fun t35_1 =>
  I_1 [t30_1, t35_1] h_5 ∧ μ_1 [t30_1, t35_1] h_5 < μ_1 [out6_1, t13_1] h_3)
  (pop P (lenS 27 3 t17_1) fun t33_1 =>
  pop P (binE .eql 3 (.tmp 33) (.const (Value.int IntKind.i64 0)) t33_1 (Value.int IntKind.i64 0)) fun t34_1 =>
  condM t34_1
  (K (.tuple #[(Value.slice none 0 0), (Value.bool false)]) h_3)
  (pop P (Instr.indexAt 27 t17_1 (Value.int IntKind.i64 0)) fun t20_1 =>
  rop P (Instr.loadAt 3 t20_1) h_3 fun t21_1 =>
  eop P (Instr.buildSlice 27 1 #[(0, t21_1)]) h_3 fun t22_1 h_6 =>
  eop P (appS 27 27 27 out6_1 t22_1) h_6 fun t23_1 h_7 =>
  pop P (binA .add 3 t13_1 (Value.int IntKind.i64 1)) fun t35_2 =>
  I_1 [t23_1, t35_2] h_7 ∧ μ_1 [t23_1, t35_2] h_7 < μ_1 [out6_1, t13_1] h_3)))
  (K (.tuple #[out6_1, (Value.bool true)]) h_3)
theorem e108 (s0_1 : Value) (sink1_1 : Value) (h : Heap) (K : Value → Heap → Prop) : wpA Try.prog 37 (anOf [(58, [6, 13])]) (bodyOf Try.f108) 1 (fun A h => resA Try.prog A h K [.tmp 4, .tmp 5]) (fun _ _ _ => False) (fun A h => resA Try.prog A h K [.tmp 4, .tmp 5]) (aargs [s0_1, sink1_1] 0) h = t108 Try.prog s0_1 sink1_1 h K := by kernel_rfl
theorem c108 (s0_1 : Value) (sink1_1 : Value) (h : Heap) (K : Value → Heap → Prop) (H : t108 Try.prog s0_1 sink1_1 h K) : callM Try.prog 108 #[s0_1, sink1_1] h K :=
  callM_of_wpA mixed (fn := Try.f108) Try.func108 (c := bodyOf Try.f108) rfl (of_decide_eq_true (by kernel_rfl)) (anOf [(58, [6, 13])]) 35 37 (by kernel_rfl) rfl [.tmp 4, .tmp 5] (by kernel_rfl) (args := [s0_1, sink1_1]) (by rw [e108]; exact H)

/-! impl.has$1 -/
def t111 (P : Program) (p0_1 : Value) (t1_1 : Value) (h : Heap) (K : Value → Heap → Prop) : Prop :=
  pop P (Instr.fieldAt 32 t1_1 0) fun t5_1 =>
  rop P (Instr.loadAt 22 t5_1) h fun t6_1 =>
  pop P (lenS 22 3 t6_1) fun t7_1 =>
  pop P (binA .sub 3 t7_1 (Value.int IntKind.i64 1)) fun t8_1 =>
  callM P 102 #[p0_1, (Value.int IntKind.i64 0), t8_1] h fun t9_1 h_1 =>
  pop P (Op.unary .not t9_1) fun t10_1 =>
  K t10_1 h_1
theorem e111 (p0_1 : Value) (t1_1 : Value) (h : Heap) (K : Value → Heap → Prop) : wpA Try.prog 11 (anOf []) (bodyOf Try.f111) 1 (fun A h => resA Try.prog A h K [.tmp 3]) (fun _ _ _ => False) (fun A h => resA Try.prog A h K [.tmp 3]) (aargs [p0_1, t1_1] 0) h = t111 Try.prog p0_1 t1_1 h K := by kernel_rfl
theorem c111 (p0_1 : Value) (t1_1 : Value) (h : Heap) (K : Value → Heap → Prop) (H : t111 Try.prog p0_1 t1_1 h K) : callM Try.prog 111 #[p0_1, t1_1] h K :=
  callM_of_wpA mixed (fn := Try.f111) Try.func111 (c := bodyOf Try.f111) rfl (of_decide_eq_true (by kernel_rfl)) (anOf []) 9 11 (by kernel_rfl) rfl [.tmp 3] (by kernel_rfl) (args := [p0_1, t1_1]) (by rw [e111]; exact H)

/-! spec.l1In -/
def t113 (P : Program) (n0_1 : Value) (lo1_1 : Value) (hi2_1 : Value) (h : Heap) (K : Value → Heap → Prop) : Prop :=
  pop P (binA .geq 3 n0_1 lo1_1) fun t9_1 =>
  guardM (asG t9_1 true) true (fun k_1 => k_1 n0_1 h) h fun t11_1 h_1 =>
  guardM (asG t9_1 true) true (fun k_2 => k_2 hi2_1 h_1) h_1 fun t12_1 h_2 =>
  guardM (asG t9_1 true) true (fun k_3 => pop P (binA .leq 3 t11_1 t12_1) fun t13_1 =>
  k_3 t13_1 h_2) h_2 fun t13_2 h_3 =>
  pop P (pickS t9_1 t13_2 (Value.bool false)) fun t14_1 =>
  K t14_1 h_3
theorem e113 (n0_1 : Value) (lo1_1 : Value) (hi2_1 : Value) (h : Heap) (K : Value → Heap → Prop) : wpA Try.prog 15 (anOf []) (bodyOf Try.f113) 1 (fun A h => resA Try.prog A h K [.tmp 6]) (fun _ _ _ => False) (fun A h => resA Try.prog A h K [.tmp 6]) (aargs [n0_1, lo1_1, hi2_1] 0) h = t113 Try.prog n0_1 lo1_1 hi2_1 h K := by kernel_rfl
theorem c113 (n0_1 : Value) (lo1_1 : Value) (hi2_1 : Value) (h : Heap) (K : Value → Heap → Prop) (H : t113 Try.prog n0_1 lo1_1 hi2_1 h K) : callM Try.prog 113 #[n0_1, lo1_1, hi2_1] h K :=
  callM_of_wpA mixed (fn := Try.f113) Try.func113 (c := bodyOf Try.f113) rfl (of_decide_eq_true (by kernel_rfl)) (anOf []) 12 15 (by kernel_rfl) rfl [.tmp 6] (by kernel_rfl) (args := [n0_1, lo1_1, hi2_1]) (by rw [e113]; exact H)

/-! slices.Index[[]int,int] -/
def t114 (P : Program) (s0_1 : Value) (v1_1 : Value) (h : Heap) (K : Value → Heap → Prop) : Prop :=
  pop P (lenS 27 3 s0_1) fun t7_1 =>
  ∃ (I_1 : List Value → Heap → Prop) (μ_1 : List Value → Heap → Nat), I_1 [(Value.int IntKind.i64 0)] h ∧
  ∀ (junk_1 : Nat → Value) (t8_1 : Value) (h_1 : Heap), I_1 [t8_1] h_1 →
  pop P (binA .lss 3 t8_1 t7_1) fun t9_1 =>
  condM t9_1
  (pop P (Instr.indexAt 27 s0_1 t8_1) fun t14_1 =>
  rop P (Instr.loadAt 3 t14_1) h_1 fun t15_1 =>
  pop P (binE .eql 3 (.tmp 11) (.tmp 15) v1_1 t15_1) fun t16_1 =>
  condM t16_1
  (K t8_1 h_1)
  (pop P (binA .add 3 t8_1 (Value.int IntKind.i64 1)) fun t18_1 =>
  I_1 [t18_1] h_1 ∧ μ_1 [t18_1] h_1 < μ_1 [t8_1] h_1))
  (K (Value.int IntKind.i64 (-1)) h_1)
theorem e114 (s0_1 : Value) (v1_1 : Value) (h : Heap) (K : Value → Heap → Prop) : wpA Try.prog 19 (anOf [(26, [8])]) (bodyOf Try.f114) 1 (fun A h => resA Try.prog A h K [.tmp 4]) (fun _ _ _ => False) (fun A h => resA Try.prog A h K [.tmp 4]) (aargs [s0_1, v1_1] 0) h = t114 Try.prog s0_1 v1_1 h K := by kernel_rfl
theorem c114 (s0_1 : Value) (v1_1 : Value) (h : Heap) (K : Value → Heap → Prop) (H : t114 Try.prog s0_1 v1_1 h K) : callM Try.prog 114 #[s0_1, v1_1] h K :=
  callM_of_wpA mixed (fn := Try.f114) Try.func114 (c := bodyOf Try.f114) rfl (of_decide_eq_true (by kernel_rfl)) (anOf [(26, [8])]) 17 19 (by kernel_rfl) rfl [.tmp 4] (by kernel_rfl) (args := [s0_1, v1_1]) (by rw [e114]; exact H)

/-! slices.Clone[[]int,int] -/
def t119 (P : Program) (s0_1 : Value) (h : Heap) (K : Value → Heap → Prop) : Prop :=
  pop P (binE .eql 27 (.tmp 3) (.const (Value.slice none 0 0)) s0_1 (Value.slice none 0 0)) fun t4_1 =>
  condM t4_1
  (K (Value.slice none 0 0) h)
  (eop P (Instr.buildSlice 27 0 #[]) h fun t5_1 h_1 =>
  eop P (appS 27 27 27 t5_1 s0_1) h_1 fun t7_1 h_2 =>
  K t7_1 h_2)
theorem e119 (s0_1 : Value) (h : Heap) (K : Value → Heap → Prop) : wpA Try.prog 8 (anOf []) (bodyOf Try.f119) 1 (fun A h => resA Try.prog A h K [.tmp 2]) (fun _ _ _ => False) (fun A h => resA Try.prog A h K [.tmp 2]) (aargs [s0_1] 0) h = t119 Try.prog s0_1 h K := by kernel_rfl
theorem c119 (s0_1 : Value) (h : Heap) (K : Value → Heap → Prop) (H : t119 Try.prog s0_1 h K) : callM Try.prog 119 #[s0_1] h K :=
  callM_of_wpA mixed (fn := Try.f119) Try.func119 (c := bodyOf Try.f119) rfl (of_decide_eq_true (by kernel_rfl)) (anOf []) 7 8 (by kernel_rfl) rfl [.tmp 2] (by kernel_rfl) (args := [s0_1]) (by rw [e119]; exact H)

/-! spec.skCycle -/
def t120 (P : Program) (g0_1 : Value) (s1_1 : Value) (p2_1 : Value) (h : Heap) (K : Value → Heap → Prop) : Prop :=
  eop P (Instr.box 32 g0_1) h fun g3_1 h_1 =>
  eop P (Instr.box 34 s1_1) h_1 fun s4_1 h_2 =>
  eop P (Instr.buildSlice 27 1 #[(0, p2_1)]) h_2 fun t14_1 h_3 =>
  rop P (Instr.loadAt 32 g3_1) h_3 fun t15_1 =>
  rop P (Instr.loadAt 34 s4_1) h_3 fun t16_1 =>
  callM P 100 #[t15_1, t16_1, p2_1] h_3 fun t18_1 h_4 =>
  ∃ (I_1 : List Value → Heap → Prop) (μ_1 : List Value → Heap → Nat), I_1 [t14_1, t18_1, (Value.int IntKind.i64 0)] h_4 ∧
  ∀ (junk_1 : Nat → Value) (out7_1 : Value) (q8_1 : Value) (n9_1 : Value) (h_5 : Heap), I_1 [out7_1, q8_1, n9_1] h_5 →
  pop P (Instr.fieldAt 32 g3_1 0) fun t20_1 =>
  rop P (Instr.loadAt 22 t20_1) h_5 fun t21_1 =>
  pop P (lenS 22 3 t21_1) fun t22_1 =>
  pop P (binA .lss 3 n9_1 t22_1) fun t23_1 =>
  guardM (asG t23_1 true) true (fun k_1 => k_1 q8_1 h_5) h_5 fun t25_1 h_6 =>
  guardM (asG t23_1 true) true (fun k_2 => pop P (binA .geq 3 t25_1 (Value.int IntKind.i64 0)) fun t26_1 =>
  k_2 t26_1 h_6) h_6 fun t26_2 h_7 =>
  pop P (pickS t23_1 t26_2 (Value.bool false)) fun t27_1 =>
  guardM (asG t27_1 true) true (fun k_3 => k_3 q8_1 h_7) h_7 fun t29_1 h_8 =>
  guardM (asG t27_1 true) true (fun k_4 => k_4 p2_1 h_8) h_8 fun t30_1 h_9 =>
  guardM (asG t27_1 true) true (fun k_5 => pop P (binE .neq 3 (.tmp 29) (.tmp 30) t29_1 t30_1) fun t31_1 =>
  k_5 t31_1 h_9) h_9 fun t31_2 h_10 =>
  pop P (pickS t27_1 t31_2 (Value.bool false)) fun t32_1 =>
  condM t32_1
  (eop P (Instr.buildSlice 27 1 #[(0, q8_1)]) h_10 fun t37_1 h_11 =>
  eop P (appS 27 27 27 out7_1 t37_1) h_11 fun t38_1 h_12 =>
  rop P (Instr.loadAt 32 g3_1) h_12 fun t39_1 =>
  rop P (Instr.loadAt 34 s4_1) h_12 fun t40_1 =>
  callM P 100 #[t39_1, t40_1, q8_1] h_12 fun t42_1 h_13 =>
  pop P (binA .add 3 n9_1 (Value.int IntKind.i64 1)) fun t34_1 =>
  I_1 [t38_1, t42_1, t34_1] h_13 ∧ μ_1 [t38_1, t42_1, t34_1] h_13 < μ_1 [out7_1, q8_1, n9_1] h_5)
  (pop P (binE .neq 3 (.tmp 43) (.tmp 44) q8_1 p2_1) fun t45_1 =>
  condM t45_1
  (K (Value.slice none 0 0) h_10)
  (pop P (lenS 27 3 out7_1) fun t47_1 =>
  ∃ (I_2 : List Value → Heap → Prop) (μ_2 : List Value → Heap → Nat), I_2 [(Value.int IntKind.i64 0), (Value.int IntKind.i64 0)] h_10 ∧
  ∀ (junk_2 : Nat → Value) (least10_1 : Value) (t48_1 : Value) (h_14 : Heap), I_2 [least10_1, t48_1] h_14 →
  pop P (binA .lss 3 t48_1 t47_1) fun t49_1 =>
  condM t49_1
  (pop P (Instr.indexAt 27 out7_1 t48_1) fun t51_1 =>
  rop P (Instr.loadAt 3 t51_1) h_14 fun t52_1 =>
  pop P (Instr.indexAt 27 out7_1 least10_1) fun t56_1 =>
  rop P (Instr.loadAt 3 t56_1) h_14 fun t57_1 =>
  pop P (binA .lss 3 t52_1 t57_1) fun t58_1 =>
  condM t58_1
  (pop P (binA .add 3 t48_1 (Value.int IntKind.i64 1)) fun t60_1 =>
  I_2 [t48_1, t60_1] h_14 ∧ μ_2 [t48_1, t60_1] h_14 < μ_2 [least10_1, t48_1] h_14)
  (pop P (binA .add 3 t48_1 (Value.int IntKind.i64 1)) fun t60_2 =>
  I_2 [least10_1, t60_2] h_14 ∧ μ_2 [least10_1, t60_2] h_14 < μ_2 [least10_1, t48_1] h_14))
  (pop P (Instr.sliceAt 27 out7_1 (some least10_1) none none) fun t63_1 =>
  pop P (Instr.sliceAt 27 out7_1 none (some least10_1) none) fun t67_1 =>
  callM P 87 #[t63_1] h_14 fun t64_1 h_15 =>
  eop P (appS 27 27 27 t64_1 t67_1) h_15 fun t68_1 h_16 =>
  K t68_1 h_16)))
theorem e120 (g0_1 : Value) (s1_1 : Value) (p2_1 : Value) (h : Heap) (K : Value → Heap → Prop) : wpA Try.prog 69 (anOf [(122, [7, 8, 9]), (1018, [10, 48])]) (bodyOf Try.f120) 1 (fun A h => resA Try.prog A h K [.tmp 6]) (fun _ _ _ => False) (fun A h => resA Try.prog A h K [.tmp 6]) (aargs [g0_1, s1_1, p2_1] 0) h = t120 Try.prog g0_1 s1_1 p2_1 h K := by kernel_rfl
theorem c120 (g0_1 : Value) (s1_1 : Value) (p2_1 : Value) (h : Heap) (K : Value → Heap → Prop) (H : t120 Try.prog g0_1 s1_1 p2_1 h K) : callM Try.prog 120 #[g0_1, s1_1, p2_1] h K :=
  callM_of_wpA mixed (fn := Try.f120) Try.func120 (c := bodyOf Try.f120) rfl (of_decide_eq_true (by kernel_rfl)) (anOf [(122, [7, 8, 9]), (1018, [10, 48])]) 66 69 (by kernel_rfl) rfl [.tmp 6] (by kernel_rfl) (args := [g0_1, s1_1, p2_1]) (by rw [e120]; exact H)

/-! slices.IndexFunc[[]int,int] -/
def t121 (P : Program) (s0_1 : Value) (f1_1 : Value) (h : Heap) (K : Value → Heap → Prop) : Prop :=
  pop P (lenS 27 3 s0_1) fun t7_1 =>
  ∃ (I_1 : List Value → Heap → Prop) (μ_1 : List Value → Heap → Nat), I_1 [(Value.int IntKind.i64 0)] h ∧
  ∀ (junk_1 : Nat → Value) (t8_1 : Value) (h_1 : Heap), I_1 [t8_1] h_1 →
  pop P (binA .lss 3 t8_1 t7_1) fun t9_1 =>
  condM t9_1
  (pop P (Instr.indexAt 27 s0_1 t8_1) fun t14_1 =>
  rop P (Instr.loadAt 3 t14_1) h_1 fun t15_1 =>
  callV P f1_1 [t15_1] h_1 fun t16_1 h_2 =>
  condM t16_1
  (K t8_1 h_2)
  (pop P (binA .add 3 t8_1 (Value.int IntKind.i64 1)) fun t18_1 =>
  I_1 [t18_1] h_2 ∧ μ_1 [t18_1] h_2 < μ_1 [t8_1] h_1))
  (K (Value.int IntKind.i64 (-1)) h_1)
theorem e121 (s0_1 : Value) (f1_1 : Value) (h : Heap) (K : Value → Heap → Prop) : wpA Try.prog 19 (anOf [(26, [8])]) (bodyOf Try.f121) 1 (fun A h => resA Try.prog A h K [.tmp 4]) (fun _ _ _ => False) (fun A h => resA Try.prog A h K [.tmp 4]) (aargs [s0_1, f1_1] 0) h = t121 Try.prog s0_1 f1_1 h K := by kernel_rfl
theorem c121 (s0_1 : Value) (f1_1 : Value) (h : Heap) (K : Value → Heap → Prop) (H : t121 Try.prog s0_1 f1_1 h K) : callM Try.prog 121 #[s0_1, f1_1] h K :=
  callM_of_wpA mixed (fn := Try.f121) Try.func121 (c := bodyOf Try.f121) rfl (of_decide_eq_true (by kernel_rfl)) (anOf [(26, [8])]) 17 19 (by kernel_rfl) rfl [.tmp 4] (by kernel_rfl) (args := [s0_1, f1_1]) (by rw [e121]; exact H)

/-! slices.Collect[int] -/
def t122 (P : Program) (seq0_1 : Value) (h : Heap) (K : Value → Heap → Prop) : Prop :=
  callM P 136 #[(Value.slice none 0 0), seq0_1] h fun t4_1 h_1 =>
  K t4_1 h_1
theorem e122 (seq0_1 : Value) (h : Heap) (K : Value → Heap → Prop) : wpA Try.prog 5 (anOf []) (bodyOf Try.f122) 1 (fun A h => resA Try.prog A h K [.tmp 2]) (fun _ _ _ => False) (fun A h => resA Try.prog A h K [.tmp 2]) (aargs [seq0_1] 0) h = t122 Try.prog seq0_1 h K := by kernel_rfl
theorem c122 (seq0_1 : Value) (h : Heap) (K : Value → Heap → Prop) (H : t122 Try.prog seq0_1 h K) : callM Try.prog 122 #[seq0_1] h K :=
  callM_of_wpA mixed (fn := Try.f122) Try.func122 (c := bodyOf Try.f122) rfl (of_decide_eq_true (by kernel_rfl)) (anOf []) 4 5 (by kernel_rfl) rfl [.tmp 2] (by kernel_rfl) (args := [seq0_1]) (by rw [e122]; exact H)

/-! slices.Sort[[]int,int] -/
def t123 (P : Program) (x0_1 : Value) (h : Heap) (K : Value → Heap → Prop) : Prop :=
  pop P (lenS 27 3 x0_1) fun t4_1 =>
  rop P (convert 3 133 t4_1) h fun t8_1 =>
  callM P 138 #[t8_1] h fun t9_1 h_1 =>
  callM P 137 #[x0_1, (Value.int IntKind.i64 0), t4_1, t9_1] h_1 fun t10_1 h_2 =>
  K (.tuple #[]) h_2
theorem e123 (x0_1 : Value) (h : Heap) (K : Value → Heap → Prop) : wpA Try.prog 11 (anOf []) (bodyOf Try.f123) 1 (fun A h => resA Try.prog A h K []) (fun _ _ _ => False) (fun A h => resA Try.prog A h K []) (aargs [x0_1] 0) h = t123 Try.prog x0_1 h K := by kernel_rfl
theorem c123 (x0_1 : Value) (h : Heap) (K : Value → Heap → Prop) (H : t123 Try.prog x0_1 h K) : callM Try.prog 123 #[x0_1] h K :=
  callM_of_wpA mixed (fn := Try.f123) Try.func123 (c := bodyOf Try.f123) rfl (of_decide_eq_true (by kernel_rfl)) (anOf []) 10 11 (by kernel_rfl) rfl [] (by kernel_rfl) (args := [x0_1]) (by rw [e123]; exact H)

/-! slices.Values[[]int,int]$1 -/
def t124 (P : Program) (yield0_1 : Value) (t1_1 : Value) (h : Heap) (K : Value → Heap → Prop) : Prop :=
  rop P (Instr.loadAt 27 t1_1) h fun t5_1 =>
  pop P (lenS 27 3 t5_1) fun t6_1 =>
  ∃ (I_1 : List Value → Heap → Prop) (μ_1 : List Value → Heap → Nat), I_1 [(Value.int IntKind.i64 0)] h ∧
  ∀ (junk_1 : Nat → Value) (t7_1 : Value) (h_1 : Heap), I_1 [t7_1] h_1 →
  pop P (binA .lss 3 t7_1 t6_1) fun t8_1 =>
  condM t8_1
  (pop P (Instr.indexAt 27 t5_1 t7_1) fun t9_1 =>
  rop P (Instr.loadAt 3 t9_1) h_1 fun t10_1 =>
  callV P yield0_1 [t10_1] h_1 fun t13_1 h_2 =>
  pop P (Op.unary .not t13_1) fun t14_1 =>
  condM t14_1
  (K (.tuple #[]) h_2)
  (pop P (binA .add 3 t7_1 (Value.int IntKind.i64 1)) fun t15_1 =>
  I_1 [t15_1] h_2 ∧ μ_1 [t15_1] h_2 < μ_1 [t7_1] h_1))
  (K (.tuple #[]) h_1)
theorem e124 (yield0_1 : Value) (t1_1 : Value) (h : Heap) (K : Value → Heap → Prop) : wpA Try.prog 16 (anOf [(6, [7])]) (bodyOf Try.f124) 1 (fun A h => resA Try.prog A h K []) (fun _ _ _ => False) (fun A h => resA Try.prog A h K []) (aargs [yield0_1, t1_1] 0) h = t124 Try.prog yield0_1 t1_1 h K := by kernel_rfl
theorem c124 (yield0_1 : Value) (t1_1 : Value) (h : Heap) (K : Value → Heap → Prop) (H : t124 Try.prog yield0_1 t1_1 h K) : callM Try.prog 124 #[yield0_1, t1_1] h K :=
  callM_of_wpA mixed (fn := Try.f124) Try.func124 (c := bodyOf Try.f124) rfl (of_decide_eq_true (by kernel_rfl)) (anOf [(6, [7])]) 14 16 (by kernel_rfl) rfl [] (by kernel_rfl) (args := [yield0_1, t1_1]) (by rw [e124]; exact H)

/-! impl.areStacks -/
def t125 (P : Program) (g0_1 : Value) (sink1_1 : Value) (s2_1 : Value) (h : Heap) (K : Value → Heap → Prop) : Prop :=
  eop P (Instr.box 32 g0_1) h fun g3_1 h_1 =>
  eop P (Instr.box 34 s2_1) h_1 fun s5_1 h_2 =>
  rop P (Instr.loadAt 32 g3_1) h_2 fun t9_1 =>
  eop P (Instr.buildSlice 27 1 #[(0, sink1_1)]) h_2 fun t11_1 h_3 =>
  callM P 65 #[t9_1, t11_1] h_3 fun t12_1 h_4 =>
  pop P (Op.unary .not t12_1) fun t13_1 =>
  guardM (asG t13_1 false) false (fun k_1 => pop P (Instr.fieldAt 34 s5_1 0) fun t15_1 =>
  k_1 t15_1 h_4) h_4 fun t15_2 h_5 =>
  guardM (asG t13_1 false) false (fun k_2 => rop P (Instr.loadAt 22 t15_2) h_5 fun t16_1 =>
  k_2 t16_1 h_5) h_5 fun t16_2 h_6 =>
  guardM (asG t13_1 false) false (fun k_3 => pop P (lenS 22 3 t16_2) fun t17_1 =>
  k_3 t17_1 h_6) h_6 fun t17_2 h_7 =>
  guardM (asG t13_1 false) false (fun k_4 => pop P (Instr.fieldAt 32 g3_1 0) fun t18_1 =>
  k_4 t18_1 h_7) h_7 fun t18_2 h_8 =>
  guardM (asG t13_1 false) false (fun k_5 => rop P (Instr.loadAt 22 t18_2) h_8 fun t19_1 =>
  k_5 t19_1 h_8) h_8 fun t19_2 h_9 =>
  guardM (asG t13_1 false) false (fun k_6 => pop P (lenS 22 3 t19_2) fun t20_1 =>
  k_6 t20_1 h_9) h_9 fun t20_2 h_10 =>
  guardM (asG t13_1 false) false (fun k_7 => pop P (binE .neq 3 (.tmp 17) (.tmp 20) t17_2 t20_2) fun t21_1 =>
  k_7 t21_1 h_10) h_10 fun t21_2 h_11 =>
  pop P (pickS t13_1 (Value.bool true) t21_2) fun t22_1 =>
  guardM (asG t22_1 false) false (fun k_8 => pop P (Instr.fieldAt 34 s5_1 0) fun t24_1 =>
  k_8 t24_1 h_11) h_11 fun t24_2 h_12 =>
  guardM (asG t22_1 false) false (fun k_9 => rop P (Instr.loadAt 22 t24_2) h_12 fun t25_1 =>
  k_9 t25_1 h_12) h_12 fun t25_2 h_13 =>
  guardM (asG t22_1 false) false (fun k_10 => k_10 sink1_1 h_13) h_13 fun t26_1 h_14 =>
  guardM (asG t22_1 false) false (fun k_11 => pop P (Instr.indexAt 22 t25_2 t26_1) fun t27_1 =>
  k_11 t27_1 h_14) h_14 fun t27_2 h_15 =>
  guardM (asG t22_1 false) false (fun k_12 => rop P (Instr.loadAt 27 t27_2) h_15 fun t28_1 =>
  k_12 t28_1 h_15) h_15 fun t28_2 h_16 =>
  guardM (asG t22_1 false) false (fun k_13 => pop P (lenS 27 3 t28_2) fun t29_1 =>
  k_13 t29_1 h_16) h_16 fun t29_2 h_17 =>
  guardM (asG t22_1 false) false (fun k_14 => pop P (binE .neq 3 (.tmp 29) (.const (Value.int IntKind.i64 0)) t29_2 (Value.int IntKind.i64 0)) fun t30_1 =>
  k_14 t30_1 h_17) h_17 fun t30_2 h_18 =>
  pop P (pickS t22_1 (Value.bool true) t30_2) fun t31_1 =>
  condM t31_1
  (K (Value.bool false) h_18)
  (pop P (Instr.fieldAt 34 s5_1 0) fun t32_1 =>
  rop P (Instr.loadAt 22 t32_1) h_18 fun t33_1 =>
  pop P (lenS 22 3 t33_1) fun t34_1 =>
  ∃ (I_1 : List Value → Heap → Prop) (μ_1 : List Value → Heap → Nat), I_1 [(Value.int IntKind.i64 0)] h_18 ∧
  ∀ (junk_1 : Nat → Value) (t35_1 : Value) (h_19 : Heap), I_1 [t35_1] h_19 →
  pop P (binA .lss 3 t35_1 t34_1) fun t36_1 =>
  condM t36_1
  (pop P (Instr.indexAt 22 t33_1 t35_1) fun t38_1 =>
  rop P (Instr.loadAt 27 t38_1) h_19 fun t39_1 =>
  eop P (Instr.alloc 3 true (.tuple #[])) h_19 fun p7_1 h_20 =>
  uop P (Instr.storeAt 3 p7_1 t35_1) h_20 fun u_1 h_21 =>
  pop P (lenS 27 3 t39_1) fun t41_1 =>
  pop P (binA .gtr 3 t41_1 (Value.int IntKind.i64 12)) fun t42_1 =>
  guardM (asG t42_1 false) false (fun k_15 => k_15 t39_1 h_21) h_21 fun t44_1 h_22 =>
  guardM (asG t42_1 false) false (fun k_16 => pop P (Instr.makeFunc (Fn.func 139) #[] #[g3_1, p7_1]) fun t45_1 =>
  k_16 t45_1 h_22) h_22 fun t45_2 h_23 =>
  guardM (asG t42_1 false) false (fun k_17 => callM P 103 #[t44_1, t45_2] h_23 fun t46_1 h_24 =>
  k_17 t46_1 h_24) h_23 fun t46_2 h_25 =>
  pop P (pickS t42_1 (Value.bool true) t46_2) fun t47_1 =>
  condM t47_1
  (K (Value.bool false) h_25)
  (pop P (binA .add 3 t35_1 (Value.int IntKind.i64 1)) fun t48_1 =>
  I_1 [t48_1] h_25 ∧ μ_1 [t48_1] h_25 < μ_1 [t35_1] h_19))
  (K (Value.bool true) h_19))
theorem e125 (g0_1 : Value) (sink1_1 : Value) (s2_1 : Value) (h : Heap) (K : Value → Heap → Prop) : wpA Try.prog 49 (anOf [(58, [35])]) (bodyOf Try.f125) 1 (fun A h => resA Try.prog A h K [.tmp 6]) (fun _ _ _ => False) (fun A h => resA Try.prog A h K [.tmp 6]) (aargs [g0_1, sink1_1, s2_1] 0) h = t125 Try.prog g0_1 sink1_1 s2_1 h K := by kernel_rfl
theorem c125 (g0_1 : Value) (sink1_1 : Value) (s2_1 : Value) (h : Heap) (K : Value → Heap → Prop) (H : t125 Try.prog g0_1 sink1_1 s2_1 h K) : callM Try.prog 125 #[g0_1, sink1_1, s2_1] h K :=
  callM_of_wpA mixed (fn := Try.f125) Try.func125 (c := bodyOf Try.f125) rfl (of_decide_eq_true (by kernel_rfl)) (anOf [(58, [35])]) 46 49 (by kernel_rfl) rfl [.tmp 6] (by kernel_rfl) (args := [g0_1, sink1_1, s2_1]) (by rw [e125]; exact H)

/-! impl.popped$1 -/
def t126 (P : Program) (c0_1 : Value) (h : Heap) (K : Value → Heap → Prop) : Prop :=
  pop P (binA .lss 3 c0_1 (Value.int IntKind.i64 0)) fun t4_1 =>
  K t4_1 h
theorem e126 (c0_1 : Value) (h : Heap) (K : Value → Heap → Prop) : wpA Try.prog 5 (anOf []) (bodyOf Try.f126) 1 (fun A h => resA Try.prog A h K [.tmp 2]) (fun _ _ _ => False) (fun A h => resA Try.prog A h K [.tmp 2]) (aargs [c0_1] 0) h = t126 Try.prog c0_1 h K := by kernel_rfl
theorem c126 (c0_1 : Value) (h : Heap) (K : Value → Heap → Prop) (H : t126 Try.prog c0_1 h K) : callM Try.prog 126 #[c0_1] h K :=
  callM_of_wpA mixed (fn := Try.f126) Try.func126 (c := bodyOf Try.f126) rfl (of_decide_eq_true (by kernel_rfl)) (anOf []) 4 5 (by kernel_rfl) rfl [.tmp 2] (by kernel_rfl) (args := [c0_1]) (by rw [e126]; exact H)

/-! (impl.Stacks).copied -/
def t127 (P : Program) (s0_1 : Value) (h : Heap) (K : Value → Heap → Prop) : Prop :=
  eop P (Instr.box 34 s0_1) h fun s1_1 h_1 =>
  eop P (Instr.alloc 34 true (.tuple #[])) h_1 fun t2_1 h_2 =>
  pop P (Instr.build 34 #[]) fun t6_1 =>
  eop P (Instr.alloc 34 true (.tuple #[])) h_2 fun out3_1 h_3 =>
  uop P (Instr.storeAt 34 out3_1 t6_1) h_3 fun u_1 h_4 =>
  pop P (Instr.fieldAt 34 s1_1 0) fun t7_1 =>
  rop P (Instr.loadAt 22 t7_1) h_4 fun t8_1 =>
  pop P (lenS 22 3 t8_1) fun t9_1 =>
  ∃ (I_1 : List Value → Heap → Prop) (μ_1 : List Value → Heap → Nat), I_1 [(Value.int IntKind.i64 0)] h_4 ∧
  ∀ (junk_1 : Nat → Value) (t10_1 : Value) (h_5 : Heap), I_1 [t10_1] h_5 →
  pop P (binA .lss 3 t10_1 t9_1) fun t11_1 =>
  condM t11_1
  (pop P (Instr.indexAt 22 t8_1 t10_1) fun t12_1 =>
  rop P (Instr.loadAt 27 t12_1) h_5 fun t13_1 =>
  pop P (Instr.fieldAt 34 out3_1 0) fun t14_1 =>
  rop P (Instr.loadAt 22 t14_1) h_5 fun t15_1 =>
  callM P 119 #[t13_1] h_5 fun t17_1 h_6 =>
  (∀ w : World, w.heap = h_6 → (Instr.loadAt 22 t14_1).run P w = .ok t15_1 w) ∧
  eop P (Instr.buildSlice 22 1 #[(0, t17_1)]) h_6 fun t18_1 h_7 =>
  (∀ w : World, w.heap = h_7 → (Instr.loadAt 22 t14_1).run P w = .ok t15_1 w) ∧
  eop P (appS 22 22 22 t15_1 t18_1) h_7 fun t19_1 h_8 =>
  pop P (Instr.fieldAt 34 out3_1 0) fun t20_1 =>
  uop P (Instr.storeAt 22 t20_1 t19_1) h_8 fun u_2 h_9 =>
  pop P (binA .add 3 t10_1 (Value.int IntKind.i64 1)) fun t21_1 =>
  I_1 [t21_1] h_9 ∧ μ_1 [t21_1] h_9 < μ_1 [t10_1] h_5)
  (rop P (Instr.loadAt 34 out3_1) h_5 fun t22_1 =>
  uop P (Instr.storeAt 34 t2_1 t22_1) h_5 fun u_3 h_10 =>
  rop P (Instr.loadAt 34 t2_1) h_10 fun r_1 =>
  K r_1 h_10)
theorem e127 (s0_1 : Value) (h : Heap) (K : Value → Heap → Prop) : wpA Try.prog 23 (anOf [(58, [10])]) (bodyOf Try.f127) 1 (fun A h => resA Try.prog A h K [.cell 2 34]) (fun _ _ _ => False) (fun A h => resA Try.prog A h K [.cell 2 34]) (aargs [s0_1] 0) h = t127 Try.prog s0_1 h K := by kernel_rfl
theorem c127 (s0_1 : Value) (h : Heap) (K : Value → Heap → Prop) (H : t127 Try.prog s0_1 h K) : callM Try.prog 127 #[s0_1] h K :=
  callM_of_wpA mixed (fn := Try.f127) Try.func127 (c := bodyOf Try.f127) rfl (of_decide_eq_true (by kernel_rfl)) (anOf [(58, [10])]) 22 23 (by kernel_rfl) rfl [.cell 2 34] (by kernel_rfl) (args := [s0_1]) (by rw [e127]; exact H)

/-! (impl.Stacks).cycles -/
def t128 (P : Program) (s0_1 : Value) (g1_1 : Value) (h : Heap) (K : Value → Heap → Prop) : Prop :=
  eop P (Instr.box 34 s0_1) h fun s2_1 h_1 =>
  eop P (Instr.box 32 g1_1) h_1 fun g3_1 h_2 =>
  eop P (Instr.buildSlice 22 0 #[]) h_2 fun t8_1 h_3 =>
  pop P (Instr.fieldAt 32 g3_1 0) fun t9_1 =>
  rop P (Instr.loadAt 22 t9_1) h_3 fun t10_1 =>
  pop P (lenS 22 3 t10_1) fun t11_1 =>
  ∃ (I_1 : List Value → Heap → Prop) (μ_1 : List Value → Heap → Nat), I_1 [t8_1, (Value.int IntKind.i64 0)] h_3 ∧
  ∀ (junk_1 : Nat → Value) (out5_1 : Value) (t12_1 : Value) (h_4 : Heap), I_1 [out5_1, t12_1] h_4 →
  pop P (binA .lss 3 t12_1 t11_1) fun t13_1 =>
  condM t13_1
  (rop P (Instr.loadAt 34 s2_1) h_4 fun t15_1 =>
  rop P (Instr.loadAt 32 g3_1) h_4 fun t16_1 =>
  callM P 140 #[t15_1, t16_1, t12_1] h_4 fun t18_1 h_5 =>
  pop P (binE .neq 27 (.tmp 19) (.const (Value.slice none 0 0)) t18_1 (Value.slice none 0 0)) fun t20_1 =>
  guardM (asG t20_1 true) true (fun k_1 => k_1 t18_1 h_5) h_5 fun t22_1 h_6 =>
  guardM (asG t20_1 true) true (fun k_2 => pop P (Instr.indexAt 27 t22_1 (Value.int IntKind.i64 0)) fun t23_1 =>
  k_2 t23_1 h_6) h_6 fun t23_2 h_7 =>
  guardM (asG t20_1 true) true (fun k_3 => rop P (Instr.loadAt 3 t23_2) h_7 fun t24_1 =>
  k_3 t24_1 h_7) h_7 fun t24_2 h_8 =>
  guardM (asG t20_1 true) true (fun k_4 => k_4 t12_1 h_8) h_8 fun t25_1 h_9 =>
  guardM (asG t20_1 true) true (fun k_5 => pop P (binE .eql 3 (.tmp 24) (.tmp 25) t24_2 t25_1) fun t26_1 =>
  k_5 t26_1 h_9) h_9 fun t26_2 h_10 =>
  pop P (pickS t20_1 t26_2 (Value.bool false)) fun t27_1 =>
  condM t27_1
  (eop P (Instr.buildSlice 22 1 #[(0, t18_1)]) h_10 fun t30_1 h_11 =>
  eop P (appS 22 22 22 out5_1 t30_1) h_11 fun t31_1 h_12 =>
  pop P (binA .add 3 t12_1 (Value.int IntKind.i64 1)) fun t32_1 =>
  I_1 [t31_1, t32_1] h_12 ∧ μ_1 [t31_1, t32_1] h_12 < μ_1 [out5_1, t12_1] h_4)
  (pop P (binA .add 3 t12_1 (Value.int IntKind.i64 1)) fun t32_2 =>
  I_1 [out5_1, t32_2] h_10 ∧ μ_1 [out5_1, t32_2] h_10 < μ_1 [out5_1, t12_1] h_4))
  (K out5_1 h_4)
theorem e128 (s0_1 : Value) (g1_1 : Value) (h : Heap) (K : Value → Heap → Prop) : wpA Try.prog 34 (anOf [(58, [5, 12])]) (bodyOf Try.f128) 1 (fun A h => resA Try.prog A h K [.tmp 4]) (fun _ _ _ => False) (fun A h => resA Try.prog A h K [.tmp 4]) (aargs [s0_1, g1_1] 0) h = t128 Try.prog s0_1 g1_1 h K := by kernel_rfl
theorem c128 (s0_1 : Value) (g1_1 : Value) (h : Heap) (K : Value → Heap → Prop) (H : t128 Try.prog s0_1 g1_1 h K) : callM Try.prog 128 #[s0_1, g1_1] h K :=
  callM_of_wpA mixed (fn := Try.f128) Try.func128 (c := bodyOf Try.f128) rfl (of_decide_eq_true (by kernel_rfl)) (anOf [(58, [5, 12])]) 32 34 (by kernel_rfl) rfl [.tmp 4] (by kernel_rfl) (args := [s0_1, g1_1]) (by rw [e128]; exact H)

/-! (impl.Stacks).pop -/
def t129 (P : Program) (s0_1 : Value) (cycle1_1 : Value) (h : Heap) (K : Value → Heap → Prop) : Prop :=
  eop P (Instr.box 34 s0_1) h fun s2_1 h_1 =>
  pop P (lenS 27 3 cycle1_1) fun t7_1 =>
  ∃ (I_1 : List Value → Heap → Prop) (μ_1 : List Value → Heap → Nat), I_1 [(Value.int IntKind.i64 0)] h_1 ∧
  ∀ (junk_1 : Nat → Value) (t8_1 : Value) (h_2 : Heap), I_1 [t8_1] h_2 →
  pop P (binA .lss 3 t8_1 t7_1) fun t9_1 =>
  condM t9_1
  (pop P (Instr.indexAt 27 cycle1_1 t8_1) fun t10_1 =>
  rop P (Instr.loadAt 3 t10_1) h_2 fun t11_1 =>
  pop P (Instr.fieldAt 34 s2_1 0) fun t12_1 =>
  rop P (Instr.loadAt 22 t12_1) h_2 fun t13_1 =>
  pop P (Instr.fieldAt 34 s2_1 0) fun t15_1 =>
  rop P (Instr.loadAt 22 t15_1) h_2 fun t16_1 =>
  pop P (Instr.indexAt 22 t16_1 t11_1) fun t18_1 =>
  rop P (Instr.loadAt 27 t18_1) h_2 fun t19_1 =>
  pop P (Instr.sliceAt 27 t19_1 (some (Value.int IntKind.i64 1)) none none) fun t20_1 =>
  pop P (Instr.indexAt 22 t13_1 t11_1) fun t21_1 =>
  uop P (Instr.storeAt 27 t21_1 t20_1) h_2 fun u_1 h_3 =>
  pop P (binA .add 3 t8_1 (Value.int IntKind.i64 1)) fun t22_1 =>
  I_1 [t22_1] h_3 ∧ μ_1 [t22_1] h_3 < μ_1 [t8_1] h_2)
  (K (.tuple #[]) h_2)
theorem e129 (s0_1 : Value) (cycle1_1 : Value) (h : Heap) (K : Value → Heap → Prop) : wpA Try.prog 23 (anOf [(14, [8])]) (bodyOf Try.f129) 1 (fun A h => resA Try.prog A h K []) (fun _ _ _ => False) (fun A h => resA Try.prog A h K []) (aargs [s0_1, cycle1_1] 0) h = t129 Try.prog s0_1 cycle1_1 h K := by kernel_rfl
theorem c129 (s0_1 : Value) (cycle1_1 : Value) (h : Heap) (K : Value → Heap → Prop) (H : t129 Try.prog s0_1 cycle1_1 h K) : callM Try.prog 129 #[s0_1, cycle1_1] h K :=
  callM_of_wpA mixed (fn := Try.f129) Try.func129 (c := bodyOf Try.f129) rfl (of_decide_eq_true (by kernel_rfl)) (anOf [(14, [8])]) 21 23 (by kernel_rfl) rfl [] (by kernel_rfl) (args := [s0_1, cycle1_1]) (by rw [e129]; exact H)

/-! slices.pdqsortOrdered[int] -/
def t137 (P : Program) (data0_1 : Value) (a1_1 : Value) (b2_1 : Value) (limit3_1 : Value) (h : Heap) (K : Value → Heap → Prop) : Prop :=
  ∃ (I_1 : List Value → Heap → Prop) (μ_1 : List Value → Heap → Nat), I_1 [a1_1, b2_1, limit3_1, (Value.bool true), (Value.bool true)] h ∧
  ∀ (junk_1 : Nat → Value) (a1_2 : Value) (b2_2 : Value) (limit3_2 : Value) (wasBalanced8_1 : Value) (wasPartitioned9_1 : Value) (h_1 : Heap), I_1 [a1_2, b2_2, limit3_2, wasBalanced8_1, wasPartitioned9_1] h_1 →
  pop P (binA .sub 3 b2_2 a1_2) fun t21_1 =>
  pop P (binA .leq 3 t21_1 (Value.int IntKind.i64 12)) fun t23_1 =>
  condM t23_1
  (callM P 144 #[data0_1, a1_2, b2_2] h_1 fun t27_1 h_2 =>
  K (.tuple #[]) h_2)
  (pop P (binE .eql 3 (.tmp 28) (.const (Value.int IntKind.i64 0)) limit3_2 (Value.int IntKind.i64 0)) fun t29_1 =>
  condM t29_1
  (callM P 145 #[data0_1, a1_2, b2_2] h_1 fun t33_1 h_3 =>
  K (.tuple #[]) h_3)
  (∃ J_1 : List Value → Heap → Prop, (pop P (Op.unary .not wasBalanced8_1) fun t35_1 =>
  condM t35_1
  (callM P 146 #[data0_1, a1_2, b2_2] h_1 fun t39_1 h_4 =>
  pop P (binA .sub 3 limit3_2 (Value.int IntKind.i64 1)) fun t41_1 =>
  J_1 [t41_1] h_4)
  (J_1 [limit3_2] h_1)) ∧
  ∀ (junk_2 : Nat → Value) (limit3_3 : Value) (h_5 : Heap), J_1 [limit3_3] h_5 →
  callM P 147 #[data0_1, a1_2, b2_2] h_5 fun t46_1 h_6 =>
  pop P (Instr.extract t46_1 0) fun t47_1 =>
  pop P (Instr.extract t46_1 1) fun t48_1 =>
  ∃ J_2 : List Value → Heap → Prop, (pop P (binE .eql 147 (.tmp 49) (.const (Value.int IntKind.i64 2)) t48_1 (Value.int IntKind.i64 2)) fun t50_1 =>
  condM t50_1
  (callM P 148 #[data0_1, a1_2, b2_2] h_6 fun t54_1 h_7 =>
  pop P (binA .sub 3 b2_2 (Value.int IntKind.i64 1)) fun t56_1 =>
  pop P (binA .sub 3 t47_1 a1_2) fun t59_1 =>
  pop P (binA .sub 3 t56_1 t59_1) fun t60_1 =>
  J_2 [t60_1, (Value.int IntKind.i64 1)] h_7)
  (J_2 [t47_1, t48_1] h_6)) ∧
  ∀ (junk_3 : Nat → Value) (pivot11_1 : Value) (hint12_1 : Value) (h_8 : Heap), J_2 [pivot11_1, hint12_1] h_8 →
  ∃ J_3 : List Value → Heap → Prop, (guardM (asG wasBalanced8_1 true) true (fun k_1 => k_1 wasPartitioned9_1 h_8) h_8 fun t63_1 h_9 =>
  pop P (pickS wasBalanced8_1 t63_1 (Value.bool false)) fun t64_1 =>
  guardM (asG t64_1 true) true (fun k_2 => k_2 hint12_1 h_9) h_9 fun t66_1 h_10 =>
  guardM (asG t64_1 true) true (fun k_3 => pop P (binE .eql 147 (.tmp 66) (.const (Value.int IntKind.i64 1)) t66_1 (Value.int IntKind.i64 1)) fun t67_1 =>
  k_3 t67_1 h_10) h_10 fun t67_2 h_11 =>
  pop P (pickS t64_1 t67_2 (Value.bool false)) fun t68_1 =>
  condM t68_1
  (callM P 149 #[data0_1, a1_2, b2_2] h_11 fun t72_1 h_12 =>
  condM t72_1
  (K (.tuple #[]) h_12)
  (J_3 [] h_12))
  (J_3 [] h_11)) ∧
  ∀ (junk_4 : Nat → Value) (h_13 : Heap), J_3 [] h_13 →
  pop P (binA .gtr 3 a1_2 (Value.int IntKind.i64 0)) fun t74_1 =>
  guardM (asG t74_1 true) true (fun k_4 => k_4 data0_1 h_13) h_13 fun t76_1 h_14 =>
  guardM (asG t74_1 true) true (fun k_5 => k_5 a1_2 h_14) h_14 fun t77_1 h_15 =>
  guardM (asG t74_1 true) true (fun k_6 => pop P (binA .sub 3 t77_1 (Value.int IntKind.i64 1)) fun t78_1 =>
  k_6 t78_1 h_15) h_15 fun t78_2 h_16 =>
  guardM (asG t74_1 true) true (fun k_7 => pop P (Instr.indexAt 27 t76_1 t78_2) fun t79_1 =>
  k_7 t79_1 h_16) h_16 fun t79_2 h_17 =>
  guardM (asG t74_1 true) true (fun k_8 => rop P (Instr.loadAt 3 t79_2) h_17 fun t80_1 =>
  k_8 t80_1 h_17) h_17 fun t80_2 h_18 =>
  guardM (asG t74_1 true) true (fun k_9 => k_9 data0_1 h_18) h_18 fun t81_1 h_19 =>
  guardM (asG t74_1 true) true (fun k_10 => k_10 pivot11_1 h_19) h_19 fun t82_1 h_20 =>
  guardM (asG t74_1 true) true (fun k_11 => pop P (Instr.indexAt 27 t81_1 t82_1) fun t83_1 =>
  k_11 t83_1 h_20) h_20 fun t83_2 h_21 =>
  guardM (asG t74_1 true) true (fun k_12 => rop P (Instr.loadAt 3 t83_2) h_21 fun t84_1 =>
  k_12 t84_1 h_21) h_21 fun t84_2 h_22 =>
  guardM (asG t74_1 true) true (fun k_13 => callM P 150 #[t80_2, t84_2] h_22 fun t85_1 h_23 =>
  k_13 t85_1 h_23) h_22 fun t85_2 h_24 =>
  guardM (asG t74_1 true) true (fun k_14 => pop P (Op.unary .not t85_2) fun t86_1 =>
  k_14 t86_1 h_24) h_24 fun t86_2 h_25 =>
  pop P (pickS t74_1 t86_2 (Value.bool false)) fun t87_1 =>
  condM t87_1
  (callM P 151 #[data0_1, a1_2, b2_2, pivot11_1] h_25 fun t92_1 h_26 =>
  I_1 [t92_1, b2_2, limit3_3, wasBalanced8_1, wasPartitioned9_1] h_26 ∧ μ_1 [t92_1, b2_2, limit3_3, wasBalanced8_1, wasPartitioned9_1] h_26 < μ_1 [a1_2, b2_2, limit3_2, wasBalanced8_1, wasPartitioned9_1] h_1)
  (callM P 152 #[data0_1, a1_2, b2_2, pivot11_1] h_25 fun t99_1 h_27 =>
  pop P (Instr.extract t99_1 0) fun t100_1 =>
  pop P (Instr.extract t99_1 1) fun t101_1 =>
  pop P (binA .sub 3 t100_1 a1_2) fun t105_1 =>
  pop P (binA .sub 3 b2_2 t100_1) fun t108_1 =>
  pop P (binA .quo 3 t21_1 (Value.int IntKind.i64 8)) fun t110_1 =>
  pop P (binA .lss 3 t105_1 t108_1) fun t113_1 =>
  condM t113_1
  (pop P (binA .geq 3 t105_1 t110_1) fun t116_1 =>
  callM P 137 #[data0_1, a1_2, t100_1, limit3_3] h_27 fun t121_1 h_28 =>
  pop P (binA .add 3 t100_1 (Value.int IntKind.i64 1)) fun t123_1 =>
  I_1 [t123_1, b2_2, limit3_3, t116_1, t101_1] h_28 ∧ μ_1 [t123_1, b2_2, limit3_3, t116_1, t101_1] h_28 < μ_1 [a1_2, b2_2, limit3_2, wasBalanced8_1, wasPartitioned9_1] h_1)
  (pop P (binA .geq 3 t108_1 t110_1) fun t126_1 =>
  pop P (binA .add 3 t100_1 (Value.int IntKind.i64 1)) fun t129_1 =>
  callM P 137 #[data0_1, t129_1, b2_2, limit3_3] h_27 fun t132_1 h_29 =>
  I_1 [a1_2, t100_1, limit3_3, t126_1, t101_1] h_29 ∧ μ_1 [a1_2, t100_1, limit3_3, t126_1, t101_1] h_29 < μ_1 [a1_2, b2_2, limit3_2, wasBalanced8_1, wasPartitioned9_1] h_1))))
theorem e137 (data0_1 : Value) (a1_1 : Value) (b2_1 : Value) (limit3_1 : Value) (h : Heap) (K : Value → Heap → Prop) : wpA Try.prog 134 (anOf [(14, [1, 2, 3, 8, 9]), (455, [3]), (1823, [11, 12]), (3647, [])]) (bodyOf Try.f137) 1 (fun A h => resA Try.prog A h K []) (fun _ _ _ => False) (fun A h => resA Try.prog A h K []) (aargs [data0_1, a1_1, b2_1, limit3_1] 0) h = t137 Try.prog data0_1 a1_1 b2_1 limit3_1 h K := by kernel_rfl
theorem c137 (data0_1 : Value) (a1_1 : Value) (b2_1 : Value) (limit3_1 : Value) (h : Heap) (K : Value → Heap → Prop) (H : t137 Try.prog data0_1 a1_1 b2_1 limit3_1 h K) : callM Try.prog 137 #[data0_1, a1_1, b2_1, limit3_1] h K :=
  callM_of_wpA mixed (fn := Try.f137) Try.func137 (c := bodyOf Try.f137) rfl (of_decide_eq_true (by kernel_rfl)) (anOf [(14, [1, 2, 3, 8, 9]), (455, [3]), (1823, [11, 12]), (3647, [])]) 130 134 (by kernel_rfl) rfl [] (by kernel_rfl) (args := [data0_1, a1_1, b2_1, limit3_1]) (by rw [e137]; exact H)

/-! math/bits.Len -/
def t138 (P : Program) (x0_1 : Value) (h : Heap) (K : Value → Heap → Prop) : Prop :=
  condM (Value.bool false)
  (rop P (convert 133 140 x0_1) h fun t4_1 =>
  callM P 153 #[t4_1] h fun t5_1 h_1 =>
  K t5_1 h_1)
  (callM P 154 #[x0_1] h fun t7_1 h_2 =>
  K t7_1 h_2)
theorem e138 (x0_1 : Value) (h : Heap) (K : Value → Heap → Prop) : wpA Try.prog 8 (anOf []) (bodyOf Try.f138) 1 (fun A h => resA Try.prog A h K [.tmp 2]) (fun _ _ _ => False) (fun A h => resA Try.prog A h K [.tmp 2]) (aargs [x0_1] 0) h = t138 Try.prog x0_1 h K := by kernel_rfl
theorem c138 (x0_1 : Value) (h : Heap) (K : Value → Heap → Prop) (H : t138 Try.prog x0_1 h K) : callM Try.prog 138 #[x0_1] h K :=
  callM_of_wpA mixed (fn := Try.f138) Try.func138 (c := bodyOf Try.f138) rfl (of_decide_eq_true (by kernel_rfl)) (anOf []) 7 8 (by kernel_rfl) rfl [.tmp 2] (by kernel_rfl) (args := [x0_1]) (by rw [e138]; exact H)

/-! impl.areStacks$1 -/
def t139 (P : Program) (k0_1 : Value) (t1_1 : Value) (t2_1 : Value) (h : Heap) (K : Value → Heap → Prop) : Prop :=
  pop P (Instr.fieldAt 32 t1_1 0) fun t6_1 =>
  rop P (Instr.loadAt 22 t6_1) h fun t7_1 =>
  rop P (Instr.loadAt 3 t2_1) h fun t8_1 =>
  pop P (Instr.indexAt 22 t7_1 t8_1) fun t9_1 =>
  rop P (Instr.loadAt 27 t9_1) h fun t10_1 =>
  pop P (lenS 27 3 t10_1) fun t11_1 =>
  pop P (binA .sub 3 t11_1 (Value.int IntKind.i64 1)) fun t12_1 =>
  callM P 102 #[k0_1, (Value.int IntKind.i64 0), t12_1] h fun t13_1 h_1 =>
  pop P (Op.unary .not t13_1) fun t14_1 =>
  K t14_1 h_1
theorem e139 (k0_1 : Value) (t1_1 : Value) (t2_1 : Value) (h : Heap) (K : Value → Heap → Prop) : wpA Try.prog 15 (anOf []) (bodyOf Try.f139) 1 (fun A h => resA Try.prog A h K [.tmp 4]) (fun _ _ _ => False) (fun A h => resA Try.prog A h K [.tmp 4]) (aargs [k0_1, t1_1, t2_1] 0) h = t139 Try.prog k0_1 t1_1 t2_1 h K := by kernel_rfl
theorem c139 (k0_1 : Value) (t1_1 : Value) (t2_1 : Value) (h : Heap) (K : Value → Heap → Prop) (H : t139 Try.prog k0_1 t1_1 t2_1 h K) : callM Try.prog 139 #[k0_1, t1_1, t2_1] h K :=
  callM_of_wpA mixed (fn := Try.f139) Try.func139 (c := bodyOf Try.f139) rfl (of_decide_eq_true (by kernel_rfl)) (anOf []) 12 15 (by kernel_rfl) rfl [.tmp 4] (by kernel_rfl) (args := [k0_1, t1_1, t2_1]) (by rw [e139]; exact H)

/-! (impl.Stacks).cycleOf -/
def t140 (P : Program) (s0_1 : Value) (g1_1 : Value) (p2_1 : Value) (h : Heap) (K : Value → Heap → Prop) : Prop :=
  eop P (Instr.box 34 s0_1) h fun s3_1 h_1 =>
  eop P (Instr.box 32 g1_1) h_1 fun g4_1 h_2 =>
  eop P (Instr.buildSlice 27 0 #[]) h_2 fun t10_1 h_3 =>
  ∃ (I_1 : List Value → Heap → Prop) (μ_1 : List Value → Heap → Nat), I_1 [t10_1, p2_1] h_3 ∧
  ∀ (junk_1 : Nat → Value) (out7_1 : Value) (at8_1 : Value) (h_4 : Heap), I_1 [out7_1, at8_1] h_4 →
  pop P (Instr.fieldAt 34 s3_1 0) fun t12_1 =>
  rop P (Instr.loadAt 22 t12_1) h_4 fun t13_1 =>
  pop P (Instr.indexAt 22 t13_1 at8_1) fun t15_1 =>
  rop P (Instr.loadAt 27 t15_1) h_4 fun t16_1 =>
  pop P (lenS 27 3 t16_1) fun t17_1 =>
  pop P (binE .eql 3 (.tmp 17) (.const (Value.int IntKind.i64 0)) t17_1 (Value.int IntKind.i64 0)) fun t18_1 =>
  guardM (asG t18_1 false) false (fun k_1 => k_1 out7_1 h_4) h_4 fun t20_1 h_5 =>
  guardM (asG t18_1 false) false (fun k_2 => pop P (lenS 27 3 t20_1) fun t21_1 =>
  k_2 t21_1 h_5) h_5 fun t21_2 h_6 =>
  guardM (asG t18_1 false) false (fun k_3 => pop P (Instr.fieldAt 32 g4_1 0) fun t22_1 =>
  k_3 t22_1 h_6) h_6 fun t22_2 h_7 =>
  guardM (asG t18_1 false) false (fun k_4 => rop P (Instr.loadAt 22 t22_2) h_7 fun t23_1 =>
  k_4 t23_1 h_7) h_7 fun t23_2 h_8 =>
  guardM (asG t18_1 false) false (fun k_5 => pop P (lenS 22 3 t23_2) fun t24_1 =>
  k_5 t24_1 h_8) h_8 fun t24_2 h_9 =>
  guardM (asG t18_1 false) false (fun k_6 => pop P (binA .gtr 3 t21_2 t24_2) fun t25_1 =>
  k_6 t25_1 h_9) h_9 fun t25_2 h_10 =>
  pop P (pickS t18_1 (Value.bool true) t25_2) fun t26_1 =>
  condM t26_1
  (K (Value.slice none 0 0) h_10)
  (eop P (Instr.buildSlice 27 1 #[(0, at8_1)]) h_10 fun t29_1 h_11 =>
  eop P (appS 27 27 27 out7_1 t29_1) h_11 fun t30_1 h_12 =>
  pop P (Instr.fieldAt 32 g4_1 0) fun t31_1 =>
  rop P (Instr.loadAt 22 t31_1) h_12 fun t32_1 =>
  pop P (Instr.indexAt 22 t32_1 at8_1) fun t34_1 =>
  rop P (Instr.loadAt 27 t34_1) h_12 fun t35_1 =>
  pop P (Instr.fieldAt 34 s3_1 0) fun t36_1 =>
  rop P (Instr.loadAt 22 t36_1) h_12 fun t37_1 =>
  pop P (Instr.indexAt 22 t37_1 at8_1) fun t39_1 =>
  rop P (Instr.loadAt 27 t39_1) h_12 fun t40_1 =>
  pop P (Instr.indexAt 27 t40_1 (Value.int IntKind.i64 0)) fun t41_1 =>
  rop P (Instr.loadAt 3 t41_1) h_12 fun t42_1 =>
  pop P (Instr.indexAt 27 t35_1 t42_1) fun t43_1 =>
  rop P (Instr.loadAt 3 t43_1) h_12 fun t44_1 =>
  pop P (binE .eql 3 (.tmp 45) (.tmp 46) t44_1 p2_1) fun t47_1 =>
  condM t47_1
  (callM P 155 #[t30_1] h_12 fun t50_1 h_13 =>
  callM P 114 #[t30_1, t50_1] h_13 fun t51_1 h_14 =>
  pop P (Instr.sliceAt 27 t30_1 (some t51_1) none none) fun t54_1 =>
  pop P (Instr.sliceAt 27 t30_1 none (some t51_1) none) fun t57_1 =>
  eop P (Instr.buildSlice 22 2 #[(0, t54_1), (1, t57_1)]) h_14 fun t58_1 h_15 =>
  callM P 156 #[t58_1] h_15 fun t59_1 h_16 =>
  K t59_1 h_16)
  (I_1 [t30_1, t44_1] h_12 ∧ μ_1 [t30_1, t44_1] h_12 < μ_1 [out7_1, at8_1] h_4))
theorem e140 (s0_1 : Value) (g1_1 : Value) (p2_1 : Value) (h : Heap) (K : Value → Heap → Prop) : wpA Try.prog 60 (anOf [(58, [7, 8])]) (bodyOf Try.f140) 1 (fun A h => resA Try.prog A h K [.tmp 6]) (fun _ _ _ => False) (fun A h => resA Try.prog A h K [.tmp 6]) (aargs [s0_1, g1_1, p2_1] 0) h = t140 Try.prog s0_1 g1_1 p2_1 h K := by kernel_rfl
theorem c140 (s0_1 : Value) (g1_1 : Value) (p2_1 : Value) (h : Heap) (K : Value → Heap → Prop) (H : t140 Try.prog s0_1 g1_1 p2_1 h K) : callM Try.prog 140 #[s0_1, g1_1, p2_1] h K :=
  callM_of_wpA mixed (fn := Try.f140) Try.func140 (c := bodyOf Try.f140) rfl (of_decide_eq_true (by kernel_rfl)) (anOf [(58, [7, 8])]) 57 60 (by kernel_rfl) rfl [.tmp 6] (by kernel_rfl) (args := [s0_1, g1_1, p2_1]) (by rw [e140]; exact H)

/-! slices.insertionSortOrdered[int] -/
def t144 (P : Program) (data0_1 : Value) (a1_1 : Value) (b2_1 : Value) (h : Heap) (K : Value → Heap → Prop) : Prop :=
  pop P (binA .add 3 a1_1 (Value.int IntKind.i64 1)) fun t9_1 =>
  ∃ (I_1 : List Value → Heap → Prop) (μ_1 : List Value → Heap → Nat), I_1 [t9_1] h ∧
  ∀ (junk_1 : Nat → Value) (i6_1 : Value) (h_1 : Heap), I_1 [i6_1] h_1 →
  pop P (binA .lss 3 i6_1 b2_1) fun t12_1 =>
  condM t12_1
  (∃ (I_2 : List Value → Heap → Prop) (μ_2 : List Value → Heap → Nat), I_2 [i6_1] h_1 ∧
  ∀ (junk_2 : Nat → Value) (j7_1 : Value) (h_2 : Heap), I_2 [j7_1] h_2 →
  pop P (binA .gtr 3 j7_1 a1_1) fun t18_1 =>
  guardM (asG t18_1 true) true (fun k_1 => k_1 data0_1 h_2) h_2 fun t20_1 h_3 =>
  guardM (asG t18_1 true) true (fun k_2 => k_2 j7_1 h_3) h_3 fun t21_1 h_4 =>
  guardM (asG t18_1 true) true (fun k_3 => pop P (Instr.indexAt 27 t20_1 t21_1) fun t22_1 =>
  k_3 t22_1 h_4) h_4 fun t22_2 h_5 =>
  guardM (asG t18_1 true) true (fun k_4 => rop P (Instr.loadAt 3 t22_2) h_5 fun t23_1 =>
  k_4 t23_1 h_5) h_5 fun t23_2 h_6 =>
  guardM (asG t18_1 true) true (fun k_5 => k_5 data0_1 h_6) h_6 fun t24_1 h_7 =>
  guardM (asG t18_1 true) true (fun k_6 => k_6 j7_1 h_7) h_7 fun t25_1 h_8 =>
  guardM (asG t18_1 true) true (fun k_7 => pop P (binA .sub 3 t25_1 (Value.int IntKind.i64 1)) fun t26_1 =>
  k_7 t26_1 h_8) h_8 fun t26_2 h_9 =>
  guardM (asG t18_1 true) true (fun k_8 => pop P (Instr.indexAt 27 t24_1 t26_2) fun t27_1 =>
  k_8 t27_1 h_9) h_9 fun t27_2 h_10 =>
  guardM (asG t18_1 true) true (fun k_9 => rop P (Instr.loadAt 3 t27_2) h_10 fun t28_1 =>
  k_9 t28_1 h_10) h_10 fun t28_2 h_11 =>
  guardM (asG t18_1 true) true (fun k_10 => callM P 150 #[t23_2, t28_2] h_11 fun t29_1 h_12 =>
  k_10 t29_1 h_12) h_11 fun t29_2 h_13 =>
  pop P (pickS t18_1 t29_2 (Value.bool false)) fun t30_1 =>
  condM t30_1
  (pop P (binA .sub 3 j7_1 (Value.int IntKind.i64 1)) fun t37_1 =>
  pop P (binA .sub 3 j7_1 (Value.int IntKind.i64 1)) fun t40_1 =>
  pop P (Instr.indexAt 27 data0_1 t40_1) fun t41_1 =>
  rop P (Instr.loadAt 3 t41_1) h_13 fun t42_1 =>
  pop P (Instr.indexAt 27 data0_1 j7_1) fun t45_1 =>
  rop P (Instr.loadAt 3 t45_1) h_13 fun t46_1 =>
  pop P (Instr.indexAt 27 data0_1 j7_1) fun t47_1 =>
  uop P (Instr.storeAt 3 t47_1 t42_1) h_13 fun u_1 h_14 =>
  pop P (Instr.indexAt 27 data0_1 t37_1) fun t48_1 =>
  uop P (Instr.storeAt 3 t48_1 t46_1) h_14 fun u_2 h_15 =>
  pop P (binA .sub 3 j7_1 (Value.int IntKind.i64 1)) fun t32_1 =>
  I_2 [t32_1] h_15 ∧ μ_2 [t32_1] h_15 < μ_2 [j7_1] h_2)
  (pop P (binA .add 3 i6_1 (Value.int IntKind.i64 1)) fun t14_1 =>
  I_1 [t14_1] h_13 ∧ μ_1 [t14_1] h_13 < μ_1 [i6_1] h_1))
  (K (.tuple #[]) h_1)
theorem e144 (data0_1 : Value) (a1_1 : Value) (b2_1 : Value) (h : Heap) (K : Value → Heap → Prop) : wpA Try.prog 49 (anOf [(6, [6]), (402, [7])]) (bodyOf Try.f144) 1 (fun A h => resA Try.prog A h K []) (fun _ _ _ => False) (fun A h => resA Try.prog A h K []) (aargs [data0_1, a1_1, b2_1] 0) h = t144 Try.prog data0_1 a1_1 b2_1 h K := by kernel_rfl
theorem c144 (data0_1 : Value) (a1_1 : Value) (b2_1 : Value) (h : Heap) (K : Value → Heap → Prop) (H : t144 Try.prog data0_1 a1_1 b2_1 h K) : callM Try.prog 144 #[data0_1, a1_1, b2_1] h K :=
  callM_of_wpA mixed (fn := Try.f144) Try.func144 (c := bodyOf Try.f144) rfl (of_decide_eq_true (by kernel_rfl)) (anOf [(6, [6]), (402, [7])]) 46 49 (by kernel_rfl) rfl [] (by kernel_rfl) (args := [data0_1, a1_1, b2_1]) (by rw [e144]; exact H)

/-! slices.heapSortOrdered[int] -/
def t145 (P : Program) (data0_1 : Value) (a1_1 : Value) (b2_1 : Value) (h : Heap) (K : Value → Heap → Prop) : Prop :=
  pop P (binA .sub 3 b2_1 a1_1) fun t14_1 =>
  pop P (binA .sub 3 t14_1 (Value.int IntKind.i64 1)) fun t16_1 =>
  pop P (binA .quo 3 t16_1 (Value.int IntKind.i64 2)) fun t17_1 =>
  ∃ (I_1 : List Value → Heap → Prop) (μ_1 : List Value → Heap → Nat), I_1 [t17_1] h ∧
  ∀ (junk_1 : Nat → Value) (i9_1 : Value) (h_1 : Heap), I_1 [i9_1] h_1 →
  pop P (binA .geq 3 i9_1 (Value.int IntKind.i64 0)) fun t19_1 =>
  condM t19_1
  (callM P 157 #[data0_1, i9_1, t14_1, a1_1] h_1 fun t26_1 h_2 =>
  pop P (binA .sub 3 i9_1 (Value.int IntKind.i64 1)) fun t21_1 =>
  I_1 [t21_1] h_2 ∧ μ_1 [t21_1] h_2 < μ_1 [i9_1] h_1)
  (pop P (binA .sub 3 t14_1 (Value.int IntKind.i64 1)) fun t28_1 =>
  ∃ (I_2 : List Value → Heap → Prop) (μ_2 : List Value → Heap → Nat), I_2 [t28_1] h_1 ∧
  ∀ (junk_2 : Nat → Value) (i10_1 : Value) (h_3 : Heap), I_2 [i10_1] h_3 →
  pop P (binA .geq 3 i10_1 (Value.int IntKind.i64 0)) fun t30_1 =>
  condM t30_1
  (pop P (binA .add 3 a1_1 i10_1) fun t38_1 =>
  pop P (binA .add 3 a1_1 i10_1) fun t42_1 =>
  pop P (Instr.indexAt 27 data0_1 t42_1) fun t43_1 =>
  rop P (Instr.loadAt 3 t43_1) h_3 fun t44_1 =>
  pop P (Instr.indexAt 27 data0_1 a1_1) fun t47_1 =>
  rop P (Instr.loadAt 3 t47_1) h_3 fun t48_1 =>
  pop P (Instr.indexAt 27 data0_1 a1_1) fun t49_1 =>
  uop P (Instr.storeAt 3 t49_1 t44_1) h_3 fun u_1 h_4 =>
  pop P (Instr.indexAt 27 data0_1 t38_1) fun t50_1 =>
  uop P (Instr.storeAt 3 t50_1 t48_1) h_4 fun u_2 h_5 =>
  callM P 157 #[data0_1, (Value.int IntKind.i64 0), i10_1, a1_1] h_5 fun t55_1 h_6 =>
  pop P (binA .sub 3 i10_1 (Value.int IntKind.i64 1)) fun t32_1 =>
  I_2 [t32_1] h_6 ∧ μ_2 [t32_1] h_6 < μ_2 [i10_1] h_3)
  (K (.tuple #[]) h_3))
theorem e145 (data0_1 : Value) (a1_1 : Value) (b2_1 : Value) (h : Heap) (K : Value → Heap → Prop) : wpA Try.prog 56 (anOf [(122, [9]), (126, [10])]) (bodyOf Try.f145) 1 (fun A h => resA Try.prog A h K []) (fun _ _ _ => False) (fun A h => resA Try.prog A h K []) (aargs [data0_1, a1_1, b2_1] 0) h = t145 Try.prog data0_1 a1_1 b2_1 h K := by kernel_rfl
theorem c145 (data0_1 : Value) (a1_1 : Value) (b2_1 : Value) (h : Heap) (K : Value → Heap → Prop) (H : t145 Try.prog data0_1 a1_1 b2_1 h K) : callM Try.prog 145 #[data0_1, a1_1, b2_1] h K :=
  callM_of_wpA mixed (fn := Try.f145) Try.func145 (c := bodyOf Try.f145) rfl (of_decide_eq_true (by kernel_rfl)) (anOf [(122, [9]), (126, [10])]) 53 56 (by kernel_rfl) rfl [] (by kernel_rfl) (args := [data0_1, a1_1, b2_1]) (by rw [e145]; exact H)

/-! slices.breakPatternsOrdered[int] -/
def t146 (P : Program) (data0_1 : Value) (a1_1 : Value) (b2_1 : Value) (h : Heap) (K : Value → Heap → Prop) : Prop :=
  pop P (binA .sub 3 b2_1 a1_1) fun t13_1 =>
  pop P (binA .geq 3 t13_1 (Value.int IntKind.i64 8)) fun t15_1 =>
  condM t15_1
  (rop P (convert 3 156 t13_1) h fun t17_1 =>
  eop P (Instr.alloc 156 true (.tuple #[])) h fun random7_1 h_1 =>
  uop P (Instr.storeAt 156 random7_1 t17_1) h_1 fun u_1 h_2 =>
  callM P 158 #[t13_1] h_2 fun t19_1 h_3 =>
  pop P (binA .quo 3 t13_1 (Value.int IntKind.i64 4)) fun t22_1 =>
  pop P (binA .mul 3 t22_1 (Value.int IntKind.i64 2)) fun t23_1 =>
  pop P (binA .add 3 a1_1 t23_1) fun t24_1 =>
  pop P (binA .sub 3 t24_1 (Value.int IntKind.i64 1)) fun t25_1 =>
  ∃ (I_1 : List Value → Heap → Prop) (μ_1 : List Value → Heap → Nat), I_1 [t25_1] h_3 ∧
  ∀ (junk_1 : Nat → Value) (idx9_1 : Value) (h_4 : Heap), I_1 [idx9_1] h_4 →
  pop P (binA .quo 3 t13_1 (Value.int IntKind.i64 4)) fun t29_1 =>
  pop P (binA .mul 3 t29_1 (Value.int IntKind.i64 2)) fun t30_1 =>
  pop P (binA .add 3 a1_1 t30_1) fun t31_1 =>
  pop P (binA .add 3 t31_1 (Value.int IntKind.i64 1)) fun t32_1 =>
  pop P (binA .leq 3 idx9_1 t32_1) fun t33_1 =>
  condM t33_1
  (callM P 159 #[random7_1] h_4 fun t36_1 h_5 =>
  pop P (binA .sub 133 t19_1 (Value.int IntKind.u64 1)) fun t38_1 =>
  pop P (binA .and 133 t36_1 t38_1) fun t39_1 =>
  rop P (convert 133 3 t39_1) h_5 fun t40_1 =>
  ∃ J_1 : List Value → Heap → Prop, (pop P (binA .geq 3 t40_1 t13_1) fun t43_1 =>
  condM t43_1
  (pop P (binA .sub 3 t40_1 t13_1) fun t46_1 =>
  J_1 [t46_1] h_5)
  (J_1 [t40_1] h_5)) ∧
  ∀ (junk_2 : Nat → Value) (other10_1 : Value) (h_6 : Heap), J_1 [other10_1] h_6 →
  pop P (binA .add 3 a1_1 other10_1) fun t52_1 =>
  pop P (binA .add 3 a1_1 other10_1) fun t56_1 =>
  pop P (Instr.indexAt 27 data0_1 t56_1) fun t57_1 =>
  rop P (Instr.loadAt 3 t57_1) h_6 fun t58_1 =>
  pop P (Instr.indexAt 27 data0_1 idx9_1) fun t61_1 =>
  rop P (Instr.loadAt 3 t61_1) h_6 fun t62_1 =>
  pop P (Instr.indexAt 27 data0_1 idx9_1) fun t63_1 =>
  uop P (Instr.storeAt 3 t63_1 t58_1) h_6 fun u_2 h_7 =>
  pop P (Instr.indexAt 27 data0_1 t52_1) fun t64_1 =>
  uop P (Instr.storeAt 3 t64_1 t62_1) h_7 fun u_3 h_8 =>
  pop P (binA .add 3 idx9_1 (Value.int IntKind.i64 1)) fun t35_1 =>
  I_1 [t35_1] h_8 ∧ μ_1 [t35_1] h_8 < μ_1 [idx9_1] h_4)
  (K (.tuple #[]) h_4))
  (K (.tuple #[]) h)
theorem e146 (data0_1 : Value) (a1_1 : Value) (b2_1 : Value) (h : Heap) (K : Value → Heap → Prop) : wpA Try.prog 65 (anOf [(238, [9]), (7625, [10])]) (bodyOf Try.f146) 1 (fun A h => resA Try.prog A h K []) (fun _ _ _ => False) (fun A h => resA Try.prog A h K []) (aargs [data0_1, a1_1, b2_1] 0) h = t146 Try.prog data0_1 a1_1 b2_1 h K := by kernel_rfl
theorem c146 (data0_1 : Value) (a1_1 : Value) (b2_1 : Value) (h : Heap) (K : Value → Heap → Prop) (H : t146 Try.prog data0_1 a1_1 b2_1 h K) : callM Try.prog 146 #[data0_1, a1_1, b2_1] h K :=
  callM_of_wpA mixed (fn := Try.f146) Try.func146 (c := bodyOf Try.f146) rfl (of_decide_eq_true (by kernel_rfl)) (anOf [(238, [9]), (7625, [10])]) 62 65 (by kernel_rfl) rfl [] (by kernel_rfl) (args := [data0_1, a1_1, b2_1]) (by rw [e146]; exact H)

/-! slices.choosePivotOrdered[int] -/
def t147 (P : Program) (data0_1 : Value) (a1_1 : Value) (b2_1 : Value) (h : Heap) (K : Value → Heap → Prop) : Prop :=
  pop P (binA .sub 3 b2_1 a1_1) fun t15_1 =>
  eop P (Instr.alloc 3 true (.tuple #[])) h fun swaps9_1 h_1 =>
  pop P (binA .quo 3 t15_1 (Value.int IntKind.i64 4)) fun t18_1 =>
  pop P (binA .mul 3 t18_1 (Value.int IntKind.i64 1)) fun t19_1 =>
  pop P (binA .add 3 a1_1 t19_1) fun t20_1 =>
  pop P (binA .quo 3 t15_1 (Value.int IntKind.i64 4)) fun t23_1 =>
  pop P (binA .mul 3 t23_1 (Value.int IntKind.i64 2)) fun t24_1 =>
  pop P (binA .add 3 a1_1 t24_1) fun t25_1 =>
  pop P (binA .quo 3 t15_1 (Value.int IntKind.i64 4)) fun t28_1 =>
  pop P (binA .mul 3 t28_1 (Value.int IntKind.i64 3)) fun t29_1 =>
  pop P (binA .add 3 a1_1 t29_1) fun t30_1 =>
  ∃ J_1 : List Value → Heap → Prop, (pop P (binA .geq 3 t15_1 (Value.int IntKind.i64 8)) fun t32_1 =>
  condM t32_1
  (∃ J_2 : List Value → Heap → Prop, (pop P (binA .geq 3 t15_1 (Value.int IntKind.i64 50)) fun t34_1 =>
  condM t34_1
  (callM P 160 #[data0_1, t20_1, swaps9_1] h_1 fun t37_1 h_2 =>
  callM P 160 #[data0_1, t25_1, swaps9_1] h_2 fun t40_1 h_3 =>
  callM P 160 #[data0_1, t30_1, swaps9_1] h_3 fun t43_1 h_4 =>
  J_2 [t37_1, t40_1, t43_1] h_4)
  (J_2 [t20_1, t25_1, t30_1] h_1)) ∧
  ∀ (junk_1 : Nat → Value) (i10_1 : Value) (j11_1 : Value) (k12_1 : Value) (h_5 : Heap), J_2 [i10_1, j11_1, k12_1] h_5 →
  callM P 161 #[data0_1, i10_1, j11_1, k12_1, swaps9_1] h_5 fun t48_1 h_6 =>
  J_1 [t48_1] h_6)
  (J_1 [t25_1] h_1)) ∧
  ∀ (junk_2 : Nat → Value) (j11_2 : Value) (h_7 : Heap), J_1 [j11_2] h_7 →
  rop P (Instr.loadAt 3 swaps9_1) h_7 fun t49_1 =>
  pop P (binE .eql 3 (.tmp 49) (.const (Value.int IntKind.i64 0)) t49_1 (Value.int IntKind.i64 0)) fun t52_1 =>
  condM t52_1
  (K (.tuple #[j11_2, (Value.int IntKind.i64 1)]) h_7)
  (pop P (binE .eql 3 (.tmp 49) (.const (Value.int IntKind.i64 12)) t49_1 (Value.int IntKind.i64 12)) fun t55_1 =>
  condM t55_1
  (K (.tuple #[j11_2, (Value.int IntKind.i64 2)]) h_7)
  (K (.tuple #[j11_2, (Value.int IntKind.i64 0)]) h_7))
theorem e147 (data0_1 : Value) (a1_1 : Value) (b2_1 : Value) (h : Heap) (K : Value → Heap → Prop) : wpA Try.prog 57 (anOf [(127, [11]), (1018, [10, 11, 12])]) (bodyOf Try.f147) 1 (fun A h => resA Try.prog A h K [.tmp 6, .tmp 7]) (fun _ _ _ => False) (fun A h => resA Try.prog A h K [.tmp 6, .tmp 7]) (aargs [data0_1, a1_1, b2_1] 0) h = t147 Try.prog data0_1 a1_1 b2_1 h K := by kernel_rfl
theorem c147 (data0_1 : Value) (a1_1 : Value) (b2_1 : Value) (h : Heap) (K : Value → Heap → Prop) (H : t147 Try.prog data0_1 a1_1 b2_1 h K) : callM Try.prog 147 #[data0_1, a1_1, b2_1] h K :=
  callM_of_wpA mixed (fn := Try.f147) Try.func147 (c := bodyOf Try.f147) rfl (of_decide_eq_true (by kernel_rfl)) (anOf [(127, [11]), (1018, [10, 11, 12])]) 54 57 (by kernel_rfl) rfl [.tmp 6, .tmp 7] (by kernel_rfl) (args := [data0_1, a1_1, b2_1]) (by rw [e147]; exact H)

/-! slices.reverseRangeOrdered[int] -/
def t148 (P : Program) (data0_1 : Value) (a1_1 : Value) (b2_1 : Value) (h : Heap) (K : Value → Heap → Prop) : Prop :=
  pop P (binA .sub 3 b2_1 (Value.int IntKind.i64 1)) fun t10_1 =>
  ∃ (I_1 : List Value → Heap → Prop) (μ_1 : List Value → Heap → Nat), I_1 [a1_1, t10_1] h ∧
  ∀ (junk_1 : Nat → Value) (i6_1 : Value) (j7_1 : Value) (h_1 : Heap), I_1 [i6_1, j7_1] h_1 →
  pop P (binA .lss 3 i6_1 j7_1) fun t13_1 =>
  condM t13_1
  (pop P (Instr.indexAt 27 data0_1 j7_1) fun t20_1 =>
  rop P (Instr.loadAt 3 t20_1) h_1 fun t21_1 =>
  pop P (Instr.indexAt 27 data0_1 i6_1) fun t24_1 =>
  rop P (Instr.loadAt 3 t24_1) h_1 fun t25_1 =>
  pop P (Instr.indexAt 27 data0_1 i6_1) fun t26_1 =>
  uop P (Instr.storeAt 3 t26_1 t21_1) h_1 fun u_1 h_2 =>
  pop P (Instr.indexAt 27 data0_1 j7_1) fun t27_1 =>
  uop P (Instr.storeAt 3 t27_1 t25_1) h_2 fun u_2 h_3 =>
  pop P (binA .add 3 i6_1 (Value.int IntKind.i64 1)) fun t29_1 =>
  pop P (binA .sub 3 j7_1 (Value.int IntKind.i64 1)) fun t31_1 =>
  I_1 [t29_1, t31_1] h_3 ∧ μ_1 [t29_1, t31_1] h_3 < μ_1 [i6_1, j7_1] h_1)
  (K (.tuple #[]) h_1)
theorem e148 (data0_1 : Value) (a1_1 : Value) (b2_1 : Value) (h : Heap) (K : Value → Heap → Prop) : wpA Try.prog 32 (anOf [(14, [6, 7])]) (bodyOf Try.f148) 1 (fun A h => resA Try.prog A h K []) (fun _ _ _ => False) (fun A h => resA Try.prog A h K []) (aargs [data0_1, a1_1, b2_1] 0) h = t148 Try.prog data0_1 a1_1 b2_1 h K := by kernel_rfl
theorem c148 (data0_1 : Value) (a1_1 : Value) (b2_1 : Value) (h : Heap) (K : Value → Heap → Prop) (H : t148 Try.prog data0_1 a1_1 b2_1 h K) : callM Try.prog 148 #[data0_1, a1_1, b2_1] h K :=
  callM_of_wpA mixed (fn := Try.f148) Try.func148 (c := bodyOf Try.f148) rfl (of_decide_eq_true (by kernel_rfl)) (anOf [(14, [6, 7])]) 29 32 (by kernel_rfl) rfl [] (by kernel_rfl) (args := [data0_1, a1_1, b2_1]) (by rw [e148]; exact H)

/-! slices.partialInsertionSortOrdered[int] -/
def t149 (P : Program) (data0_1 : Value) (a1_1 : Value) (b2_1 : Value) (h : Heap) (K : Value → Heap → Prop) : Prop :=
  pop P (binA .add 3 a1_1 (Value.int IntKind.i64 1)) fun t12_1 =>
  ∃ (I_1 : List Value → Heap → Prop) (μ_1 : List Value → Heap → Nat), I_1 [t12_1, (Value.int IntKind.i64 0)] h ∧
  ∀ (junk_1 : Nat → Value) (i7_1 : Value) (j8_1 : Value) (h_1 : Heap), I_1 [i7_1, j8_1] h_1 →
  pop P (binA .lss 3 j8_1 (Value.int IntKind.i64 5)) fun t14_1 =>
  condM t14_1
  (∃ J_1 : List Value → Heap → Prop, (∃ (I_2 : List Value → Heap → Prop) (μ_2 : List Value → Heap → Nat), I_2 [i7_1] h_1 ∧
  ∀ (junk_2 : Nat → Value) (i7_2 : Value) (h_2 : Heap), I_2 [i7_2] h_2 →
  pop P (binA .lss 3 i7_2 b2_1) fun t19_1 =>
  guardM (asG t19_1 true) true (fun k_1 => k_1 data0_1 h_2) h_2 fun t21_1 h_3 =>
  guardM (asG t19_1 true) true (fun k_2 => k_2 i7_2 h_3) h_3 fun t22_1 h_4 =>
  guardM (asG t19_1 true) true (fun k_3 => pop P (Instr.indexAt 27 t21_1 t22_1) fun t23_1 =>
  k_3 t23_1 h_4) h_4 fun t23_2 h_5 =>
  guardM (asG t19_1 true) true (fun k_4 => rop P (Instr.loadAt 3 t23_2) h_5 fun t24_1 =>
  k_4 t24_1 h_5) h_5 fun t24_2 h_6 =>
  guardM (asG t19_1 true) true (fun k_5 => k_5 data0_1 h_6) h_6 fun t25_1 h_7 =>
  guardM (asG t19_1 true) true (fun k_6 => k_6 i7_2 h_7) h_7 fun t26_1 h_8 =>
  guardM (asG t19_1 true) true (fun k_7 => pop P (binA .sub 3 t26_1 (Value.int IntKind.i64 1)) fun t27_1 =>
  k_7 t27_1 h_8) h_8 fun t27_2 h_9 =>
  guardM (asG t19_1 true) true (fun k_8 => pop P (Instr.indexAt 27 t25_1 t27_2) fun t28_1 =>
  k_8 t28_1 h_9) h_9 fun t28_2 h_10 =>
  guardM (asG t19_1 true) true (fun k_9 => rop P (Instr.loadAt 3 t28_2) h_10 fun t29_1 =>
  k_9 t29_1 h_10) h_10 fun t29_2 h_11 =>
  guardM (asG t19_1 true) true (fun k_10 => callM P 150 #[t24_2, t29_2] h_11 fun t30_1 h_12 =>
  k_10 t30_1 h_12) h_11 fun t30_2 h_13 =>
  guardM (asG t19_1 true) true (fun k_11 => pop P (Op.unary .not t30_2) fun t31_1 =>
  k_11 t31_1 h_13) h_13 fun t31_2 h_14 =>
  pop P (pickS t19_1 t31_2 (Value.bool false)) fun t32_1 =>
  condM t32_1
  (pop P (binA .add 3 i7_2 (Value.int IntKind.i64 1)) fun t34_1 =>
  I_2 [t34_1] h_14 ∧ μ_2 [t34_1] h_14 < μ_2 [i7_2] h_2)
  (pop P (binE .eql 3 (.tmp 35) (.tmp 36) i7_2 b2_1) fun t37_1 =>
  condM t37_1
  (K (Value.bool true) h_14)
  (pop P (binA .sub 3 b2_1 a1_1) fun t40_1 =>
  pop P (binA .lss 3 t40_1 (Value.int IntKind.i64 50)) fun t41_1 =>
  condM t41_1
  (K (Value.bool false) h_14)
  (pop P (binA .sub 3 i7_2 (Value.int IntKind.i64 1)) fun t46_1 =>
  pop P (binA .sub 3 i7_2 (Value.int IntKind.i64 1)) fun t49_1 =>
  pop P (Instr.indexAt 27 data0_1 t49_1) fun t50_1 =>
  rop P (Instr.loadAt 3 t50_1) h_14 fun t51_1 =>
  pop P (Instr.indexAt 27 data0_1 i7_2) fun t54_1 =>
  rop P (Instr.loadAt 3 t54_1) h_14 fun t55_1 =>
  pop P (Instr.indexAt 27 data0_1 i7_2) fun t56_1 =>
  uop P (Instr.storeAt 3 t56_1 t51_1) h_14 fun u_1 h_15 =>
  pop P (Instr.indexAt 27 data0_1 t46_1) fun t57_1 =>
  uop P (Instr.storeAt 3 t57_1 t55_1) h_15 fun u_2 h_16 =>
  ∃ J_2 : List Value → Heap → Prop, (pop P (binA .sub 3 i7_2 a1_1) fun t60_1 =>
  pop P (binA .geq 3 t60_1 (Value.int IntKind.i64 2)) fun t61_1 =>
  condM t61_1
  (pop P (binA .sub 3 i7_2 (Value.int IntKind.i64 1)) fun t63_1 =>
  ∃ (I_3 : List Value → Heap → Prop) (μ_3 : List Value → Heap → Nat), I_3 [t63_1] h_16 ∧
  ∀ (junk_3 : Nat → Value) (j9_1 : Value) (h_17 : Heap), I_3 [j9_1] h_17 →
  pop P (binA .geq 3 j9_1 (Value.int IntKind.i64 1)) fun t65_1 =>
  condM t65_1
  (pop P (Instr.indexAt 27 data0_1 j9_1) fun t70_1 =>
  rop P (Instr.loadAt 3 t70_1) h_17 fun t71_1 =>
  pop P (binA .sub 3 j9_1 (Value.int IntKind.i64 1)) fun t74_1 =>
  pop P (Instr.indexAt 27 data0_1 t74_1) fun t75_1 =>
  rop P (Instr.loadAt 3 t75_1) h_17 fun t76_1 =>
  callM P 150 #[t71_1, t76_1] h_17 fun t77_1 h_18 =>
  pop P (Op.unary .not t77_1) fun t78_1 =>
  condM t78_1
  (J_2 [] h_18)
  (pop P (binA .sub 3 j9_1 (Value.int IntKind.i64 1)) fun t83_1 =>
  pop P (binA .sub 3 j9_1 (Value.int IntKind.i64 1)) fun t86_1 =>
  pop P (Instr.indexAt 27 data0_1 t86_1) fun t87_1 =>
  rop P (Instr.loadAt 3 t87_1) h_18 fun t88_1 =>
  pop P (Instr.indexAt 27 data0_1 j9_1) fun t91_1 =>
  rop P (Instr.loadAt 3 t91_1) h_18 fun t92_1 =>
  pop P (Instr.indexAt 27 data0_1 j9_1) fun t93_1 =>
  uop P (Instr.storeAt 3 t93_1 t88_1) h_18 fun u_3 h_19 =>
  pop P (Instr.indexAt 27 data0_1 t83_1) fun t94_1 =>
  uop P (Instr.storeAt 3 t94_1 t92_1) h_19 fun u_4 h_20 =>
  pop P (binA .sub 3 j9_1 (Value.int IntKind.i64 1)) fun t67_1 =>
  I_3 [t67_1] h_20 ∧ μ_3 [t67_1] h_20 < μ_3 [j9_1] h_17))
  (J_2 [] h_17))
  (J_2 [] h_16)) ∧
  ∀ (junk_4 : Nat → Value) (h_21 : Heap), J_2 [] h_21 →
  pop P (binA .sub 3 b2_1 i7_2) fun t97_1 =>
  pop P (binA .geq 3 t97_1 (Value.int IntKind.i64 2)) fun t98_1 =>
  condM t98_1
  (pop P (binA .add 3 i7_2 (Value.int IntKind.i64 1)) fun t100_1 =>
  ∃ (I_4 : List Value → Heap → Prop) (μ_4 : List Value → Heap → Nat), I_4 [t100_1] h_21 ∧
  ∀ (junk_5 : Nat → Value) (j10_1 : Value) (h_22 : Heap), I_4 [j10_1] h_22 →
  pop P (binA .lss 3 j10_1 b2_1) fun t103_1 =>
  condM t103_1
  (pop P (Instr.indexAt 27 data0_1 j10_1) fun t108_1 =>
  rop P (Instr.loadAt 3 t108_1) h_22 fun t109_1 =>
  pop P (binA .sub 3 j10_1 (Value.int IntKind.i64 1)) fun t112_1 =>
  pop P (Instr.indexAt 27 data0_1 t112_1) fun t113_1 =>
  rop P (Instr.loadAt 3 t113_1) h_22 fun t114_1 =>
  callM P 150 #[t109_1, t114_1] h_22 fun t115_1 h_23 =>
  pop P (Op.unary .not t115_1) fun t116_1 =>
  condM t116_1
  (J_1 [i7_2] h_23)
  (pop P (binA .sub 3 j10_1 (Value.int IntKind.i64 1)) fun t121_1 =>
  pop P (binA .sub 3 j10_1 (Value.int IntKind.i64 1)) fun t124_1 =>
  pop P (Instr.indexAt 27 data0_1 t124_1) fun t125_1 =>
  rop P (Instr.loadAt 3 t125_1) h_23 fun t126_1 =>
  pop P (Instr.indexAt 27 data0_1 j10_1) fun t129_1 =>
  rop P (Instr.loadAt 3 t129_1) h_23 fun t130_1 =>
  pop P (Instr.indexAt 27 data0_1 j10_1) fun t131_1 =>
  uop P (Instr.storeAt 3 t131_1 t126_1) h_23 fun u_5 h_24 =>
  pop P (Instr.indexAt 27 data0_1 t121_1) fun t132_1 =>
  uop P (Instr.storeAt 3 t132_1 t130_1) h_24 fun u_6 h_25 =>
  pop P (binA .add 3 j10_1 (Value.int IntKind.i64 1)) fun t105_1 =>
  I_4 [t105_1] h_25 ∧ μ_4 [t105_1] h_25 < μ_4 [j10_1] h_22))
  (J_1 [i7_2] h_22))
  (J_1 [i7_2] h_21))))) ∧
  ∀ (junk_6 : Nat → Value) (i7_3 : Value) (h_26 : Heap), J_1 [i7_3] h_26 →
  pop P (binA .add 3 j8_1 (Value.int IntKind.i64 1)) fun t16_1 =>
  I_1 [i7_3, t16_1] h_26 ∧ μ_1 [i7_3, t16_1] h_26 < μ_1 [i7_1, j8_1] h_1)
  (K (Value.bool false) h_1)
theorem e149 (data0_1 : Value) (a1_1 : Value) (b2_1 : Value) (h : Heap) (K : Value → Heap → Prop) : wpA Try.prog 133 (anOf [(58, [7, 8]), (233, [7]), (3728, [7]), (14927, []), (477674, [9]), (477690, [10])]) (bodyOf Try.f149) 1 (fun A h => resA Try.prog A h K [.tmp 6]) (fun _ _ _ => False) (fun A h => resA Try.prog A h K [.tmp 6]) (aargs [data0_1, a1_1, b2_1] 0) h = t149 Try.prog data0_1 a1_1 b2_1 h K := by kernel_rfl
theorem c149 (data0_1 : Value) (a1_1 : Value) (b2_1 : Value) (h : Heap) (K : Value → Heap → Prop) (H : t149 Try.prog data0_1 a1_1 b2_1 h K) : callM Try.prog 149 #[data0_1, a1_1, b2_1] h K :=
  callM_of_wpA mixed (fn := Try.f149) Try.func149 (c := bodyOf Try.f149) rfl (of_decide_eq_true (by kernel_rfl)) (anOf [(58, [7, 8]), (233, [7]), (3728, [7]), (14927, []), (477674, [9]), (477690, [10])]) 130 133 (by kernel_rfl) rfl [.tmp 6] (by kernel_rfl) (args := [data0_1, a1_1, b2_1]) (by rw [e149]; exact H)

/-! cmp.Less[int] -/
def t150 (P : Program) (x0_1 : Value) (y1_1 : Value) (h : Heap) (K : Value → Heap → Prop) : Prop :=
  callM P 162 #[x0_1] h fun t6_1 h_1 =>
  guardM (asG t6_1 true) true (fun k_1 => k_1 y1_1 h_1) h_1 fun t8_1 h_2 =>
  guardM (asG t6_1 true) true (fun k_2 => callM P 162 #[t8_1] h_2 fun t9_1 h_3 =>
  k_2 t9_1 h_3) h_2 fun t9_2 h_4 =>
  guardM (asG t6_1 true) true (fun k_3 => pop P (Op.unary .not t9_2) fun t10_1 =>
  k_3 t10_1 h_4) h_4 fun t10_2 h_5 =>
  pop P (pickS t6_1 t10_2 (Value.bool false)) fun t11_1 =>
  guardM (asG t11_1 false) false (fun k_4 => k_4 x0_1 h_5) h_5 fun t13_1 h_6 =>
  guardM (asG t11_1 false) false (fun k_5 => k_5 y1_1 h_6) h_6 fun t14_1 h_7 =>
  guardM (asG t11_1 false) false (fun k_6 => pop P (binA .lss 3 t13_1 t14_1) fun t15_1 =>
  k_6 t15_1 h_7) h_7 fun t15_2 h_8 =>
  pop P (pickS t11_1 (Value.bool true) t15_2) fun t16_1 =>
  K t16_1 h_8
theorem e150 (x0_1 : Value) (y1_1 : Value) (h : Heap) (K : Value → Heap → Prop) : wpA Try.prog 17 (anOf []) (bodyOf Try.f150) 1 (fun A h => resA Try.prog A h K [.tmp 4]) (fun _ _ _ => False) (fun A h => resA Try.prog A h K [.tmp 4]) (aargs [x0_1, y1_1] 0) h = t150 Try.prog x0_1 y1_1 h K := by kernel_rfl
theorem c150 (x0_1 : Value) (y1_1 : Value) (h : Heap) (K : Value → Heap → Prop) (H : t150 Try.prog x0_1 y1_1 h K) : callM Try.prog 150 #[x0_1, y1_1] h K :=
  callM_of_wpA mixed (fn := Try.f150) Try.func150 (c := bodyOf Try.f150) rfl (of_decide_eq_true (by kernel_rfl)) (anOf []) 15 17 (by kernel_rfl) rfl [.tmp 4] (by kernel_rfl) (args := [x0_1, y1_1]) (by rw [e150]; exact H)

/-! slices.partitionEqualOrdered[int] -/
def t151 (P : Program) (data0_1 : Value) (a1_1 : Value) (b2_1 : Value) (pivot3_1 : Value) (h : Heap) (K : Value → Heap → Prop) : Prop :=
  pop P (Instr.indexAt 27 data0_1 pivot3_1) fun t17_1 =>
  rop P (Instr.loadAt 3 t17_1) h fun t18_1 =>
  pop P (Instr.indexAt 27 data0_1 a1_1) fun t21_1 =>
  rop P (Instr.loadAt 3 t21_1) h fun t22_1 =>
  pop P (Instr.indexAt 27 data0_1 a1_1) fun t23_1 =>
  uop P (Instr.storeAt 3 t23_1 t18_1) h fun u_1 h_1 =>
  pop P (Instr.indexAt 27 data0_1 pivot3_1) fun t24_1 =>
  uop P (Instr.storeAt 3 t24_1 t22_1) h_1 fun u_2 h_2 =>
  pop P (binA .add 3 a1_1 (Value.int IntKind.i64 1)) fun t26_1 =>
  pop P (binA .sub 3 b2_1 (Value.int IntKind.i64 1)) fun t28_1 =>
  ∃ (I_1 : List Value → Heap → Prop) (μ_1 : List Value → Heap → Nat), I_1 [t26_1, t28_1] h_2 ∧
  ∀ (junk_1 : Nat → Value) (i9_1 : Value) (j10_1 : Value) (h_3 : Heap), I_1 [i9_1, j10_1] h_3 →
  ∃ (I_2 : List Value → Heap → Prop) (μ_2 : List Value → Heap → Nat), I_2 [i9_1] h_3 ∧
  ∀ (junk_2 : Nat → Value) (i9_2 : Value) (h_4 : Heap), I_2 [i9_2] h_4 →
  pop P (binA .leq 3 i9_2 j10_1) fun t31_1 =>
  guardM (asG t31_1 true) true (fun k_1 => k_1 data0_1 h_4) h_4 fun t33_1 h_5 =>
  guardM (asG t31_1 true) true (fun k_2 => k_2 a1_1 h_5) h_5 fun t34_1 h_6 =>
  guardM (asG t31_1 true) true (fun k_3 => pop P (Instr.indexAt 27 t33_1 t34_1) fun t35_1 =>
  k_3 t35_1 h_6) h_6 fun t35_2 h_7 =>
  guardM (asG t31_1 true) true (fun k_4 => rop P (Instr.loadAt 3 t35_2) h_7 fun t36_1 =>
  k_4 t36_1 h_7) h_7 fun t36_2 h_8 =>
  guardM (asG t31_1 true) true (fun k_5 => k_5 data0_1 h_8) h_8 fun t37_1 h_9 =>
  guardM (asG t31_1 true) true (fun k_6 => k_6 i9_2 h_9) h_9 fun t38_1 h_10 =>
  guardM (asG t31_1 true) true (fun k_7 => pop P (Instr.indexAt 27 t37_1 t38_1) fun t39_1 =>
  k_7 t39_1 h_10) h_10 fun t39_2 h_11 =>
  guardM (asG t31_1 true) true (fun k_8 => rop P (Instr.loadAt 3 t39_2) h_11 fun t40_1 =>
  k_8 t40_1 h_11) h_11 fun t40_2 h_12 =>
  guardM (asG t31_1 true) true (fun k_9 => callM P 150 #[t36_2, t40_2] h_12 fun t41_1 h_13 =>
  k_9 t41_1 h_13) h_12 fun t41_2 h_14 =>
  guardM (asG t31_1 true) true (fun k_10 => pop P (Op.unary .not t41_2) fun t42_1 =>
  k_10 t42_1 h_14) h_14 fun t42_2 h_15 =>
  pop P (pickS t31_1 t42_2 (Value.bool false)) fun t43_1 =>
  condM t43_1
  (pop P (binA .add 3 i9_2 (Value.int IntKind.i64 1)) fun t45_1 =>
  I_2 [t45_1] h_15 ∧ μ_2 [t45_1] h_15 < μ_2 [i9_2] h_4)
  (∃ (I_3 : List Value → Heap → Prop) (μ_3 : List Value → Heap → Nat), I_3 [j10_1] h_15 ∧
  ∀ (junk_3 : Nat → Value) (j10_2 : Value) (h_16 : Heap), I_3 [j10_2] h_16 →
  pop P (binA .leq 3 i9_2 j10_2) fun t48_1 =>
  guardM (asG t48_1 true) true (fun k_11 => k_11 data0_1 h_16) h_16 fun t50_1 h_17 =>
  guardM (asG t48_1 true) true (fun k_12 => k_12 a1_1 h_17) h_17 fun t51_1 h_18 =>
  guardM (asG t48_1 true) true (fun k_13 => pop P (Instr.indexAt 27 t50_1 t51_1) fun t52_1 =>
  k_13 t52_1 h_18) h_18 fun t52_2 h_19 =>
  guardM (asG t48_1 true) true (fun k_14 => rop P (Instr.loadAt 3 t52_2) h_19 fun t53_1 =>
  k_14 t53_1 h_19) h_19 fun t53_2 h_20 =>
  guardM (asG t48_1 true) true (fun k_15 => k_15 data0_1 h_20) h_20 fun t54_1 h_21 =>
  guardM (asG t48_1 true) true (fun k_16 => k_16 j10_2 h_21) h_21 fun t55_1 h_22 =>
  guardM (asG t48_1 true) true (fun k_17 => pop P (Instr.indexAt 27 t54_1 t55_1) fun t56_1 =>
  k_17 t56_1 h_22) h_22 fun t56_2 h_23 =>
  guardM (asG t48_1 true) true (fun k_18 => rop P (Instr.loadAt 3 t56_2) h_23 fun t57_1 =>
  k_18 t57_1 h_23) h_23 fun t57_2 h_24 =>
  guardM (asG t48_1 true) true (fun k_19 => callM P 150 #[t53_2, t57_2] h_24 fun t58_1 h_25 =>
  k_19 t58_1 h_25) h_24 fun t58_2 h_26 =>
  pop P (pickS t48_1 t58_2 (Value.bool false)) fun t59_1 =>
  condM t59_1
  (pop P (binA .sub 3 j10_2 (Value.int IntKind.i64 1)) fun t61_1 =>
  I_3 [t61_1] h_26 ∧ μ_3 [t61_1] h_26 < μ_3 [j10_2] h_16)
  (pop P (binA .gtr 3 i9_2 j10_2) fun t64_1 =>
  condM t64_1
  (K i9_2 h_26)
  (pop P (Instr.indexAt 27 data0_1 j10_2) fun t71_1 =>
  rop P (Instr.loadAt 3 t71_1) h_26 fun t72_1 =>
  pop P (Instr.indexAt 27 data0_1 i9_2) fun t75_1 =>
  rop P (Instr.loadAt 3 t75_1) h_26 fun t76_1 =>
  pop P (Instr.indexAt 27 data0_1 i9_2) fun t77_1 =>
  uop P (Instr.storeAt 3 t77_1 t72_1) h_26 fun u_3 h_27 =>
  pop P (Instr.indexAt 27 data0_1 j10_2) fun t78_1 =>
  uop P (Instr.storeAt 3 t78_1 t76_1) h_27 fun u_4 h_28 =>
  pop P (binA .add 3 i9_2 (Value.int IntKind.i64 1)) fun t80_1 =>
  pop P (binA .sub 3 j10_2 (Value.int IntKind.i64 1)) fun t82_1 =>
  I_1 [t80_1, t82_1] h_28 ∧ μ_1 [t80_1, t82_1] h_28 < μ_1 [i9_1, j10_1] h_3)))
theorem e151 (data0_1 : Value) (a1_1 : Value) (b2_1 : Value) (pivot3_1 : Value) (h : Heap) (K : Value → Heap → Prop) : wpA Try.prog 84 (anOf [(60, [9, 10]), (960, [9]), (1924, [10])]) (bodyOf Try.f151) 1 (fun A h => resA Try.prog A h K [.tmp 8]) (fun _ _ _ => False) (fun A h => resA Try.prog A h K [.tmp 8]) (aargs [data0_1, a1_1, b2_1, pivot3_1] 0) h = t151 Try.prog data0_1 a1_1 b2_1 pivot3_1 h K := by kernel_rfl
theorem c151 (data0_1 : Value) (a1_1 : Value) (b2_1 : Value) (pivot3_1 : Value) (h : Heap) (K : Value → Heap → Prop) (H : t151 Try.prog data0_1 a1_1 b2_1 pivot3_1 h K) : callM Try.prog 151 #[data0_1, a1_1, b2_1, pivot3_1] h K :=
  callM_of_wpA mixed (fn := Try.f151) Try.func151 (c := bodyOf Try.f151) rfl (of_decide_eq_true (by kernel_rfl)) (anOf [(60, [9, 10]), (960, [9]), (1924, [10])]) 80 84 (by kernel_rfl) rfl [.tmp 8] (by kernel_rfl) (args := [data0_1, a1_1, b2_1, pivot3_1]) (by rw [e151]; exact H)

/-! slices.partitionOrdered[int] -/
def t152 (P : Program) (data0_1 : Value) (a1_1 : Value) (b2_1 : Value) (pivot3_1 : Value) (h : Heap) (K : Value → Heap → Prop) : Prop :=
  pop P (Instr.indexAt 27 data0_1 pivot3_1) fun t18_1 =>
  rop P (Instr.loadAt 3 t18_1) h fun t19_1 =>
  pop P (Instr.indexAt 27 data0_1 a1_1) fun t22_1 =>
  rop P (Instr.loadAt 3 t22_1) h fun t23_1 =>
  pop P (Instr.indexAt 27 data0_1 a1_1) fun t24_1 =>
  uop P (Instr.storeAt 3 t24_1 t19_1) h fun u_1 h_1 =>
  pop P (Instr.indexAt 27 data0_1 pivot3_1) fun t25_1 =>
  uop P (Instr.storeAt 3 t25_1 t23_1) h_1 fun u_2 h_2 =>
  pop P (binA .add 3 a1_1 (Value.int IntKind.i64 1)) fun t27_1 =>
  pop P (binA .sub 3 b2_1 (Value.int IntKind.i64 1)) fun t29_1 =>
  ∃ (I_1 : List Value → Heap → Prop) (μ_1 : List Value → Heap → Nat), I_1 [t27_1] h_2 ∧
  ∀ (junk_1 : Nat → Value) (i10_1 : Value) (h_3 : Heap), I_1 [i10_1] h_3 →
  pop P (binA .leq 3 i10_1 t29_1) fun t32_1 =>
  guardM (asG t32_1 true) true (fun k_1 => k_1 data0_1 h_3) h_3 fun t34_1 h_4 =>
  guardM (asG t32_1 true) true (fun k_2 => k_2 i10_1 h_4) h_4 fun t35_1 h_5 =>
  guardM (asG t32_1 true) true (fun k_3 => pop P (Instr.indexAt 27 t34_1 t35_1) fun t36_1 =>
  k_3 t36_1 h_5) h_5 fun t36_2 h_6 =>
  guardM (asG t32_1 true) true (fun k_4 => rop P (Instr.loadAt 3 t36_2) h_6 fun t37_1 =>
  k_4 t37_1 h_6) h_6 fun t37_2 h_7 =>
  guardM (asG t32_1 true) true (fun k_5 => k_5 data0_1 h_7) h_7 fun t38_1 h_8 =>
  guardM (asG t32_1 true) true (fun k_6 => k_6 a1_1 h_8) h_8 fun t39_1 h_9 =>
  guardM (asG t32_1 true) true (fun k_7 => pop P (Instr.indexAt 27 t38_1 t39_1) fun t40_1 =>
  k_7 t40_1 h_9) h_9 fun t40_2 h_10 =>
  guardM (asG t32_1 true) true (fun k_8 => rop P (Instr.loadAt 3 t40_2) h_10 fun t41_1 =>
  k_8 t41_1 h_10) h_10 fun t41_2 h_11 =>
  guardM (asG t32_1 true) true (fun k_9 => callM P 150 #[t37_2, t41_2] h_11 fun t42_1 h_12 =>
  k_9 t42_1 h_12) h_11 fun t42_2 h_13 =>
  pop P (pickS t32_1 t42_2 (Value.bool false)) fun t43_1 =>
  condM t43_1
  (pop P (binA .add 3 i10_1 (Value.int IntKind.i64 1)) fun t45_1 =>
  I_1 [t45_1] h_13 ∧ μ_1 [t45_1] h_13 < μ_1 [i10_1] h_3)
  (∃ (I_2 : List Value → Heap → Prop) (μ_2 : List Value → Heap → Nat), I_2 [t29_1] h_13 ∧
  ∀ (junk_2 : Nat → Value) (j11_1 : Value) (h_14 : Heap), I_2 [j11_1] h_14 →
  pop P (binA .leq 3 i10_1 j11_1) fun t48_1 =>
  guardM (asG t48_1 true) true (fun k_10 => k_10 data0_1 h_14) h_14 fun t50_1 h_15 =>
  guardM (asG t48_1 true) true (fun k_11 => k_11 j11_1 h_15) h_15 fun t51_1 h_16 =>
  guardM (asG t48_1 true) true (fun k_12 => pop P (Instr.indexAt 27 t50_1 t51_1) fun t52_1 =>
  k_12 t52_1 h_16) h_16 fun t52_2 h_17 =>
  guardM (asG t48_1 true) true (fun k_13 => rop P (Instr.loadAt 3 t52_2) h_17 fun t53_1 =>
  k_13 t53_1 h_17) h_17 fun t53_2 h_18 =>
  guardM (asG t48_1 true) true (fun k_14 => k_14 data0_1 h_18) h_18 fun t54_1 h_19 =>
  guardM (asG t48_1 true) true (fun k_15 => k_15 a1_1 h_19) h_19 fun t55_1 h_20 =>
  guardM (asG t48_1 true) true (fun k_16 => pop P (Instr.indexAt 27 t54_1 t55_1) fun t56_1 =>
  k_16 t56_1 h_20) h_20 fun t56_2 h_21 =>
  guardM (asG t48_1 true) true (fun k_17 => rop P (Instr.loadAt 3 t56_2) h_21 fun t57_1 =>
  k_17 t57_1 h_21) h_21 fun t57_2 h_22 =>
  guardM (asG t48_1 true) true (fun k_18 => callM P 150 #[t53_2, t57_2] h_22 fun t58_1 h_23 =>
  k_18 t58_1 h_23) h_22 fun t58_2 h_24 =>
  guardM (asG t48_1 true) true (fun k_19 => pop P (Op.unary .not t58_2) fun t59_1 =>
  k_19 t59_1 h_24) h_24 fun t59_2 h_25 =>
  pop P (pickS t48_1 t59_2 (Value.bool false)) fun t60_1 =>
  condM t60_1
  (pop P (binA .sub 3 j11_1 (Value.int IntKind.i64 1)) fun t62_1 =>
  I_2 [t62_1] h_25 ∧ μ_2 [t62_1] h_25 < μ_2 [j11_1] h_14)
  (pop P (binA .gtr 3 i10_1 j11_1) fun t65_1 =>
  condM t65_1
  (pop P (Instr.indexAt 27 data0_1 a1_1) fun t72_1 =>
  rop P (Instr.loadAt 3 t72_1) h_25 fun t73_1 =>
  pop P (Instr.indexAt 27 data0_1 j11_1) fun t76_1 =>
  rop P (Instr.loadAt 3 t76_1) h_25 fun t77_1 =>
  pop P (Instr.indexAt 27 data0_1 j11_1) fun t78_1 =>
  uop P (Instr.storeAt 3 t78_1 t73_1) h_25 fun u_3 h_26 =>
  pop P (Instr.indexAt 27 data0_1 a1_1) fun t79_1 =>
  uop P (Instr.storeAt 3 t79_1 t77_1) h_26 fun u_4 h_27 =>
  K (.tuple #[j11_1, (Value.bool true)]) h_27)
  (pop P (Instr.indexAt 27 data0_1 j11_1) fun t87_1 =>
  rop P (Instr.loadAt 3 t87_1) h_25 fun t88_1 =>
  pop P (Instr.indexAt 27 data0_1 i10_1) fun t91_1 =>
  rop P (Instr.loadAt 3 t91_1) h_25 fun t92_1 =>
  pop P (Instr.indexAt 27 data0_1 i10_1) fun t93_1 =>
  uop P (Instr.storeAt 3 t93_1 t88_1) h_25 fun u_5 h_28 =>
  pop P (Instr.indexAt 27 data0_1 j11_1) fun t94_1 =>
  uop P (Instr.storeAt 3 t94_1 t92_1) h_28 fun u_6 h_29 =>
  pop P (binA .add 3 i10_1 (Value.int IntKind.i64 1)) fun t96_1 =>
  pop P (binA .sub 3 j11_1 (Value.int IntKind.i64 1)) fun t98_1 =>
  ∃ (I_3 : List Value → Heap → Prop) (μ_3 : List Value → Heap → Nat), I_3 [t96_1, t98_1] h_29 ∧
  ∀ (junk_3 : Nat → Value) (i10_2 : Value) (j11_2 : Value) (h_30 : Heap), I_3 [i10_2, j11_2] h_30 →
  ∃ (I_4 : List Value → Heap → Prop) (μ_4 : List Value → Heap → Nat), I_4 [i10_2] h_30 ∧
  ∀ (junk_4 : Nat → Value) (i10_3 : Value) (h_31 : Heap), I_4 [i10_3] h_31 →
  pop P (binA .leq 3 i10_3 j11_2) fun t101_1 =>
  guardM (asG t101_1 true) true (fun k_20 => k_20 data0_1 h_31) h_31 fun t103_1 h_32 =>
  guardM (asG t101_1 true) true (fun k_21 => k_21 i10_3 h_32) h_32 fun t104_1 h_33 =>
  guardM (asG t101_1 true) true (fun k_22 => pop P (Instr.indexAt 27 t103_1 t104_1) fun t105_1 =>
  k_22 t105_1 h_33) h_33 fun t105_2 h_34 =>
  guardM (asG t101_1 true) true (fun k_23 => rop P (Instr.loadAt 3 t105_2) h_34 fun t106_1 =>
  k_23 t106_1 h_34) h_34 fun t106_2 h_35 =>
  guardM (asG t101_1 true) true (fun k_24 => k_24 data0_1 h_35) h_35 fun t107_1 h_36 =>
  guardM (asG t101_1 true) true (fun k_25 => k_25 a1_1 h_36) h_36 fun t108_1 h_37 =>
  guardM (asG t101_1 true) true (fun k_26 => pop P (Instr.indexAt 27 t107_1 t108_1) fun t109_1 =>
  k_26 t109_1 h_37) h_37 fun t109_2 h_38 =>
  guardM (asG t101_1 true) true (fun k_27 => rop P (Instr.loadAt 3 t109_2) h_38 fun t110_1 =>
  k_27 t110_1 h_38) h_38 fun t110_2 h_39 =>
  guardM (asG t101_1 true) true (fun k_28 => callM P 150 #[t106_2, t110_2] h_39 fun t111_1 h_40 =>
  k_28 t111_1 h_40) h_39 fun t111_2 h_41 =>
  pop P (pickS t101_1 t111_2 (Value.bool false)) fun t112_1 =>
  condM t112_1
  (pop P (binA .add 3 i10_3 (Value.int IntKind.i64 1)) fun t114_1 =>
  I_4 [t114_1] h_41 ∧ μ_4 [t114_1] h_41 < μ_4 [i10_3] h_31)
  (∃ (I_5 : List Value → Heap → Prop) (μ_5 : List Value → Heap → Nat), I_5 [j11_2] h_41 ∧
  ∀ (junk_5 : Nat → Value) (j11_3 : Value) (h_42 : Heap), I_5 [j11_3] h_42 →
  pop P (binA .leq 3 i10_3 j11_3) fun t117_1 =>
  guardM (asG t117_1 true) true (fun k_29 => k_29 data0_1 h_42) h_42 fun t119_1 h_43 =>
  guardM (asG t117_1 true) true (fun k_30 => k_30 j11_3 h_43) h_43 fun t120_1 h_44 =>
  guardM (asG t117_1 true) true (fun k_31 => pop P (Instr.indexAt 27 t119_1 t120_1) fun t121_1 =>
  k_31 t121_1 h_44) h_44 fun t121_2 h_45 =>
  guardM (asG t117_1 true) true (fun k_32 => rop P (Instr.loadAt 3 t121_2) h_45 fun t122_1 =>
  k_32 t122_1 h_45) h_45 fun t122_2 h_46 =>
  guardM (asG t117_1 true) true (fun k_33 => k_33 data0_1 h_46) h_46 fun t123_1 h_47 =>
  guardM (asG t117_1 true) true (fun k_34 => k_34 a1_1 h_47) h_47 fun t124_1 h_48 =>
  guardM (asG t117_1 true) true (fun k_35 => pop P (Instr.indexAt 27 t123_1 t124_1) fun t125_1 =>
  k_35 t125_1 h_48) h_48 fun t125_2 h_49 =>
  guardM (asG t117_1 true) true (fun k_36 => rop P (Instr.loadAt 3 t125_2) h_49 fun t126_1 =>
  k_36 t126_1 h_49) h_49 fun t126_2 h_50 =>
  guardM (asG t117_1 true) true (fun k_37 => callM P 150 #[t122_2, t126_2] h_50 fun t127_1 h_51 =>
  k_37 t127_1 h_51) h_50 fun t127_2 h_52 =>
  guardM (asG t117_1 true) true (fun k_38 => pop P (Op.unary .not t127_2) fun t128_1 =>
  k_38 t128_1 h_52) h_52 fun t128_2 h_53 =>
  pop P (pickS t117_1 t128_2 (Value.bool false)) fun t129_1 =>
  condM t129_1
  (pop P (binA .sub 3 j11_3 (Value.int IntKind.i64 1)) fun t131_1 =>
  I_5 [t131_1] h_53 ∧ μ_5 [t131_1] h_53 < μ_5 [j11_3] h_42)
  (pop P (binA .gtr 3 i10_3 j11_3) fun t134_1 =>
  condM t134_1
  (pop P (Instr.indexAt 27 data0_1 a1_1) fun t159_1 =>
  rop P (Instr.loadAt 3 t159_1) h_53 fun t160_1 =>
  pop P (Instr.indexAt 27 data0_1 j11_3) fun t163_1 =>
  rop P (Instr.loadAt 3 t163_1) h_53 fun t164_1 =>
  pop P (Instr.indexAt 27 data0_1 j11_3) fun t165_1 =>
  uop P (Instr.storeAt 3 t165_1 t160_1) h_53 fun u_7 h_54 =>
  pop P (Instr.indexAt 27 data0_1 a1_1) fun t166_1 =>
  uop P (Instr.storeAt 3 t166_1 t164_1) h_54 fun u_8 h_55 =>
  K (.tuple #[j11_3, (Value.bool false)]) h_55)
  (pop P (Instr.indexAt 27 data0_1 j11_3) fun t141_1 =>
  rop P (Instr.loadAt 3 t141_1) h_53 fun t142_1 =>
  pop P (Instr.indexAt 27 data0_1 i10_3) fun t145_1 =>
  rop P (Instr.loadAt 3 t145_1) h_53 fun t146_1 =>
  pop P (Instr.indexAt 27 data0_1 i10_3) fun t147_1 =>
  uop P (Instr.storeAt 3 t147_1 t142_1) h_53 fun u_9 h_56 =>
  pop P (Instr.indexAt 27 data0_1 j11_3) fun t148_1 =>
  uop P (Instr.storeAt 3 t148_1 t146_1) h_56 fun u_10 h_57 =>
  pop P (binA .add 3 i10_3 (Value.int IntKind.i64 1)) fun t150_1 =>
  pop P (binA .sub 3 j11_3 (Value.int IntKind.i64 1)) fun t152_1 =>
  I_3 [t150_1, t152_1] h_57 ∧ μ_3 [t150_1, t152_1] h_57 < μ_3 [i10_2, j11_2] h_30))))))
theorem e152 (data0_1 : Value) (a1_1 : Value) (b2_1 : Value) (pivot3_1 : Value) (h : Heap) (K : Value → Heap → Prop) : wpA Try.prog 168 (anOf [(60, [10]), (124, [11]), (4092, [10, 11]), (65472, [10]), (130948, [11])]) (bodyOf Try.f152) 1 (fun A h => resA Try.prog A h K [.tmp 8, .tmp 9]) (fun _ _ _ => False) (fun A h => resA Try.prog A h K [.tmp 8, .tmp 9]) (aargs [data0_1, a1_1, b2_1, pivot3_1] 0) h = t152 Try.prog data0_1 a1_1 b2_1 pivot3_1 h K := by kernel_rfl
theorem c152 (data0_1 : Value) (a1_1 : Value) (b2_1 : Value) (pivot3_1 : Value) (h : Heap) (K : Value → Heap → Prop) (H : t152 Try.prog data0_1 a1_1 b2_1 pivot3_1 h K) : callM Try.prog 152 #[data0_1, a1_1, b2_1, pivot3_1] h K :=
  callM_of_wpA mixed (fn := Try.f152) Try.func152 (c := bodyOf Try.f152) rfl (of_decide_eq_true (by kernel_rfl)) (anOf [(60, [10]), (124, [11]), (4092, [10, 11]), (65472, [10]), (130948, [11])]) 164 168 (by kernel_rfl) rfl [.tmp 8, .tmp 9] (by kernel_rfl) (args := [data0_1, a1_1, b2_1, pivot3_1]) (by rw [e152]; exact H)

/-! math/bits.Len32 -/
def t153 (P : Program) (x0_1 : Value) (h : Heap) (K : Value → Heap → Prop) : Prop :=
  ∃ J_1 : List Value → Heap → Prop, (pop P (binA .geq 140 x0_1 (Value.int IntKind.u32 65536)) fun t4_1 =>
  condM t4_1
  (pop P (binA .shr 140 x0_1 (Value.int IntKind.u64 16)) fun t6_1 =>
  J_1 [t6_1, (Value.int IntKind.i64 16)] h)
  (J_1 [x0_1, (Value.int IntKind.i64 0)] h)) ∧
  ∀ (junk_1 : Nat → Value) (x0_2 : Value) (n2_1 : Value) (h_1 : Heap), J_1 [x0_2, n2_1] h_1 →
  ∃ J_2 : List Value → Heap → Prop, (pop P (binA .geq 140 x0_2 (Value.int IntKind.u32 256)) fun t8_1 =>
  condM t8_1
  (pop P (binA .shr 140 x0_2 (Value.int IntKind.u64 8)) fun t10_1 =>
  pop P (binA .add 3 n2_1 (Value.int IntKind.i64 8)) fun t12_1 =>
  J_2 [t10_1, t12_1] h_1)
  (J_2 [x0_2, n2_1] h_1)) ∧
  ∀ (junk_2 : Nat → Value) (x0_3 : Value) (n2_2 : Value) (h_2 : Heap), J_2 [x0_3, n2_2] h_2 →
  rop P (convert 140 5 x0_3) h_2 fun t15_1 =>
  pop P (Instr.index 9 (Value.string { data := #[0, 1, 2, 2, 3, 3, 3, 3, 4, 4, 4, 4, 4, 4, 4, 4, 5, 5, 5, 5, 5, 5, 5, 5, 5, 5, 5, 5, 5, 5, 5, 5, 6, 6, 6, 6, 6, 6, 6, 6, 6, 6, 6, 6, 6, 6, 6, 6, 6, 6, 6, 6, 6, 6, 6, 6, 6, 6, 6, 6, 6, 6, 6, 6, 7, 7, 7, 7, 7, 7, 7, 7, 7, 7, 7, 7, 7, 7, 7, 7, 7, 7, 7, 7, 7, 7, 7, 7, 7, 7, 7, 7, 7, 7, 7, 7, 7, 7, 7, 7, 7, 7, 7, 7, 7, 7, 7, 7, 7, 7, 7, 7, 7, 7, 7, 7, 7, 7, 7, 7, 7, 7, 7, 7, 7, 7, 7, 7, 8, 8, 8, 8, 8, 8, 8, 8, 8, 8, 8, 8, 8, 8, 8, 8, 8, 8, 8, 8, 8, 8, 8, 8, 8, 8, 8, 8, 8, 8, 8, 8, 8, 8, 8, 8, 8, 8, 8, 8, 8, 8, 8, 8, 8, 8, 8, 8, 8, 8, 8, 8, 8, 8, 8, 8, 8, 8, 8, 8, 8, 8, 8, 8, 8, 8, 8, 8, 8, 8, 8, 8, 8, 8, 8, 8, 8, 8, 8, 8, 8, 8, 8, 8, 8, 8, 8, 8, 8, 8, 8, 8, 8, 8, 8, 8, 8, 8, 8, 8, 8, 8, 8, 8, 8, 8, 8, 8, 8, 8, 8, 8, 8, 8, 8, 8, 8, 8, 8, 8, 8, 8, 8, 8, 8, 8, 8, 8] }) t15_1) fun t16_1 =>
  rop P (convert 5 3 t16_1) h_2 fun t17_1 =>
  pop P (binA .add 3 n2_2 t17_1) fun t18_1 =>
  K t18_1 h_2
theorem e153 (x0_1 : Value) (h : Heap) (K : Value → Heap → Prop) : wpA Try.prog 19 (anOf [(3, [0, 2]), (7, [0, 2])]) (bodyOf Try.f153) 1 (fun A h => resA Try.prog A h K [.tmp 2]) (fun _ _ _ => False) (fun A h => resA Try.prog A h K [.tmp 2]) (aargs [x0_1] 0) h = t153 Try.prog x0_1 h K := by kernel_rfl
theorem c153 (x0_1 : Value) (h : Heap) (K : Value → Heap → Prop) (H : t153 Try.prog x0_1 h K) : callM Try.prog 153 #[x0_1] h K :=
  callM_of_wpA mixed (fn := Try.f153) Try.func153 (c := bodyOf Try.f153) rfl (of_decide_eq_true (by kernel_rfl)) (anOf [(3, [0, 2]), (7, [0, 2])]) 18 19 (by kernel_rfl) rfl [.tmp 2] (by kernel_rfl) (args := [x0_1]) (by rw [e153]; exact H)

/-! math/bits.Len64 -/
def t154 (P : Program) (x0_1 : Value) (h : Heap) (K : Value → Heap → Prop) : Prop :=
  ∃ J_1 : List Value → Heap → Prop, (pop P (binA .geq 84 x0_1 (Value.int IntKind.u64 4294967296)) fun t4_1 =>
  condM t4_1
  (pop P (binA .shr 84 x0_1 (Value.int IntKind.u64 32)) fun t6_1 =>
  J_1 [t6_1, (Value.int IntKind.i64 32)] h)
  (J_1 [x0_1, (Value.int IntKind.i64 0)] h)) ∧
  ∀ (junk_1 : Nat → Value) (x0_2 : Value) (n2_1 : Value) (h_1 : Heap), J_1 [x0_2, n2_1] h_1 →
  ∃ J_2 : List Value → Heap → Prop, (pop P (binA .geq 84 x0_2 (Value.int IntKind.u64 65536)) fun t8_1 =>
  condM t8_1
  (pop P (binA .shr 84 x0_2 (Value.int IntKind.u64 16)) fun t10_1 =>
  pop P (binA .add 3 n2_1 (Value.int IntKind.i64 16)) fun t12_1 =>
  J_2 [t10_1, t12_1] h_1)
  (J_2 [x0_2, n2_1] h_1)) ∧
  ∀ (junk_2 : Nat → Value) (x0_3 : Value) (n2_2 : Value) (h_2 : Heap), J_2 [x0_3, n2_2] h_2 →
  ∃ J_3 : List Value → Heap → Prop, (pop P (binA .geq 84 x0_3 (Value.int IntKind.u64 256)) fun t14_1 =>
  condM t14_1
  (pop P (binA .shr 84 x0_3 (Value.int IntKind.u64 8)) fun t16_1 =>
  pop P (binA .add 3 n2_2 (Value.int IntKind.i64 8)) fun t18_1 =>
  J_3 [t16_1, t18_1] h_2)
  (J_3 [x0_3, n2_2] h_2)) ∧
  ∀ (junk_3 : Nat → Value) (x0_4 : Value) (n2_3 : Value) (h_3 : Heap), J_3 [x0_4, n2_3] h_3 →
  rop P (convert 84 5 x0_4) h_3 fun t21_1 =>
  pop P (Instr.index 9 (Value.string { data := #[0, 1, 2, 2, 3, 3, 3, 3, 4, 4, 4, 4, 4, 4, 4, 4, 5, 5, 5, 5, 5, 5, 5, 5, 5, 5, 5, 5, 5, 5, 5, 5, 6, 6, 6, 6, 6, 6, 6, 6, 6, 6, 6, 6, 6, 6, 6, 6, 6, 6, 6, 6, 6, 6, 6, 6, 6, 6, 6, 6, 6, 6, 6, 6, 7, 7, 7, 7, 7, 7, 7, 7, 7, 7, 7, 7, 7, 7, 7, 7, 7, 7, 7, 7, 7, 7, 7, 7, 7, 7, 7, 7, 7, 7, 7, 7, 7, 7, 7, 7, 7, 7, 7, 7, 7, 7, 7, 7, 7, 7, 7, 7, 7, 7, 7, 7, 7, 7, 7, 7, 7, 7, 7, 7, 7, 7, 7, 7, 8, 8, 8, 8, 8, 8, 8, 8, 8, 8, 8, 8, 8, 8, 8, 8, 8, 8, 8, 8, 8, 8, 8, 8, 8, 8, 8, 8, 8, 8, 8, 8, 8, 8, 8, 8, 8, 8, 8, 8, 8, 8, 8, 8, 8, 8, 8, 8, 8, 8, 8, 8, 8, 8, 8, 8, 8, 8, 8, 8, 8, 8, 8, 8, 8, 8, 8, 8, 8, 8, 8, 8, 8, 8, 8, 8, 8, 8, 8, 8, 8, 8, 8, 8, 8, 8, 8, 8, 8, 8, 8, 8, 8, 8, 8, 8, 8, 8, 8, 8, 8, 8, 8, 8, 8, 8, 8, 8, 8, 8, 8, 8, 8, 8, 8, 8, 8, 8, 8, 8, 8, 8, 8, 8, 8, 8, 8, 8] }) t21_1) fun t22_1 =>
  rop P (convert 5 3 t22_1) h_3 fun t23_1 =>
  pop P (binA .add 3 n2_3 t23_1) fun t24_1 =>
  K t24_1 h_3
theorem e154 (x0_1 : Value) (h : Heap) (K : Value → Heap → Prop) : wpA Try.prog 25 (anOf [(3, [0, 2]), (7, [0, 2]), (15, [0, 2])]) (bodyOf Try.f154) 1 (fun A h => resA Try.prog A h K [.tmp 2]) (fun _ _ _ => False) (fun A h => resA Try.prog A h K [.tmp 2]) (aargs [x0_1] 0) h = t154 Try.prog x0_1 h K := by kernel_rfl
theorem c154 (x0_1 : Value) (h : Heap) (K : Value → Heap → Prop) (H : t154 Try.prog x0_1 h K) : callM Try.prog 154 #[x0_1] h K :=
  callM_of_wpA mixed (fn := Try.f154) Try.func154 (c := bodyOf Try.f154) rfl (of_decide_eq_true (by kernel_rfl)) (anOf [(3, [0, 2]), (7, [0, 2]), (15, [0, 2])]) 24 25 (by kernel_rfl) rfl [.tmp 2] (by kernel_rfl) (args := [x0_1]) (by rw [e154]; exact H)

/-! slices.Min[[]int,int] -/
def t155 (P : Program) (x0_1 : Value) (h : Heap) (K : Value → Heap → Prop) : Prop :=
  ∃ J_1 : List Value → Heap → Prop, (pop P (lenS 27 3 x0_1) fun t6_1 =>
  pop P (binA .lss 3 t6_1 (Value.int IntKind.i64 1)) fun t7_1 =>
  condM t7_1
  (pop P (Instr.makeInterface 9 (Value.string { data := #[115, 108, 105, 99, 101, 115, 46, 77, 105, 110, 58, 32, 101, 109, 112, 116, 121, 32, 108, 105, 115, 116] })) fun t8_1 =>
  False)
  (J_1 [] h)) ∧
  ∀ (junk_1 : Nat → Value) (h_1 : Heap), J_1 [] h_1 →
  pop P (Instr.indexAt 27 x0_1 (Value.int IntKind.i64 0)) fun t10_1 =>
  rop P (Instr.loadAt 3 t10_1) h_1 fun t11_1 =>
  ∃ (I_1 : List Value → Heap → Prop) (μ_1 : List Value → Heap → Nat), I_1 [t11_1, (Value.int IntKind.i64 1)] h_1 ∧
  ∀ (junk_2 : Nat → Value) (m3_1 : Value) (i4_1 : Value) (h_2 : Heap), I_1 [m3_1, i4_1] h_2 →
  pop P (lenS 27 3 x0_1) fun t14_1 =>
  pop P (binA .lss 3 i4_1 t14_1) fun t15_1 =>
  condM t15_1
  (pop P (Instr.indexAt 27 x0_1 i4_1) fun t21_1 =>
  rop P (Instr.loadAt 3 t21_1) h_2 fun t22_1 =>
  pop P (Builtin.min_ #[3, 3] 3 #[m3_1, t22_1]) fun t23_1 =>
  pop P (binA .add 3 i4_1 (Value.int IntKind.i64 1)) fun t17_1 =>
  I_1 [t23_1, t17_1] h_2 ∧ μ_1 [t23_1, t17_1] h_2 < μ_1 [m3_1, i4_1] h_2)
  (K m3_1 h_2)
theorem e155 (x0_1 : Value) (h : Heap) (K : Value → Heap → Prop) : wpA Try.prog 25 (anOf [(3, []), (122, [3, 4])]) (bodyOf Try.f155) 1 (fun A h => resA Try.prog A h K [.tmp 2]) (fun _ _ _ => False) (fun A h => resA Try.prog A h K [.tmp 2]) (aargs [x0_1] 0) h = t155 Try.prog x0_1 h K := by kernel_rfl
theorem c155 (x0_1 : Value) (h : Heap) (K : Value → Heap → Prop) (H : t155 Try.prog x0_1 h K) : callM Try.prog 155 #[x0_1] h K :=
  callM_of_wpA mixed (fn := Try.f155) Try.func155 (c := bodyOf Try.f155) rfl (of_decide_eq_true (by kernel_rfl)) (anOf [(3, []), (122, [3, 4])]) 24 25 (by kernel_rfl) rfl [.tmp 2] (by kernel_rfl) (args := [x0_1]) (by rw [e155]; exact H)

/-! slices.Concat[[]int,int] -/
def t156 (P : Program) (slices0_1 : Value) (h : Heap) (K : Value → Heap → Prop) : Prop :=
  pop P (lenS 22 3 slices0_1) fun t10_1 =>
  ∃ (I_1 : List Value → Heap → Prop) (μ_1 : List Value → Heap → Nat), I_1 [(Value.int IntKind.i64 0), (Value.int IntKind.i64 0)] h ∧
  ∀ (junk_1 : Nat → Value) (size3_1 : Value) (t11_1 : Value) (h_1 : Heap), I_1 [size3_1, t11_1] h_1 →
  pop P (binA .lss 3 t11_1 t10_1) fun t12_1 =>
  condM t12_1
  (pop P (Instr.indexAt 22 slices0_1 t11_1) fun t13_1 =>
  rop P (Instr.loadAt 27 t13_1) h_1 fun t14_1 =>
  pop P (lenS 27 3 t14_1) fun t17_1 =>
  pop P (binA .add 3 size3_1 t17_1) fun t18_1 =>
  pop P (binA .lss 3 t18_1 (Value.int IntKind.i64 0)) fun t20_1 =>
  condM t20_1
  (pop P (Instr.makeInterface 9 (Value.string { data := #[108, 101, 110, 32, 111, 117, 116, 32, 111, 102, 32, 114, 97, 110, 103, 101] })) fun t21_1 =>
  False)
  (pop P (binA .add 3 t11_1 (Value.int IntKind.i64 1)) fun t22_1 =>
  I_1 [t18_1, t22_1] h_1 ∧ μ_1 [t18_1, t22_1] h_1 < μ_1 [size3_1, t11_1] h_1))
  (callM P 163 #[(Value.slice none 0 0), size3_1] h_1 fun t24_1 h_2 =>
  pop P (lenS 22 3 slices0_1) fun t26_1 =>
  ∃ (I_2 : List Value → Heap → Prop) (μ_2 : List Value → Heap → Nat), I_2 [t24_1, (Value.int IntKind.i64 0)] h_2 ∧
  ∀ (junk_2 : Nat → Value) (newslice6_1 : Value) (t27_1 : Value) (h_3 : Heap), I_2 [newslice6_1, t27_1] h_3 →
  pop P (binA .lss 3 t27_1 t26_1) fun t28_1 =>
  condM t28_1
  (pop P (Instr.indexAt 22 slices0_1 t27_1) fun t29_1 =>
  rop P (Instr.loadAt 27 t29_1) h_3 fun t30_1 =>
  eop P (appS 27 27 27 newslice6_1 t30_1) h_3 fun t33_1 h_4 =>
  pop P (binA .add 3 t27_1 (Value.int IntKind.i64 1)) fun t34_1 =>
  I_2 [t33_1, t34_1] h_4 ∧ μ_2 [t33_1, t34_1] h_4 < μ_2 [newslice6_1, t27_1] h_3)
  (K newslice6_1 h_3))
theorem e156 (slices0_1 : Value) (h : Heap) (K : Value → Heap → Prop) : wpA Try.prog 36 (anOf [(58, [3, 11]), (250, [6, 27])]) (bodyOf Try.f156) 1 (fun A h => resA Try.prog A h K [.tmp 2]) (fun _ _ _ => False) (fun A h => resA Try.prog A h K [.tmp 2]) (aargs [slices0_1] 0) h = t156 Try.prog slices0_1 h K := by kernel_rfl
theorem c156 (slices0_1 : Value) (h : Heap) (K : Value → Heap → Prop) (H : t156 Try.prog slices0_1 h K) : callM Try.prog 156 #[slices0_1] h K :=
  callM_of_wpA mixed (fn := Try.f156) Try.func156 (c := bodyOf Try.f156) rfl (of_decide_eq_true (by kernel_rfl)) (anOf [(58, [3, 11]), (250, [6, 27])]) 35 36 (by kernel_rfl) rfl [.tmp 2] (by kernel_rfl) (args := [slices0_1]) (by rw [e156]; exact H)

/-! slices.siftDownOrdered[int] -/
def t157 (P : Program) (data0_1 : Value) (lo1_1 : Value) (hi2_1 : Value) (first3_1 : Value) (h : Heap) (K : Value → Heap → Prop) : Prop :=
  ∃ (I_1 : List Value → Heap → Prop) (μ_1 : List Value → Heap → Nat), I_1 [lo1_1] h ∧
  ∀ (junk_1 : Nat → Value) (root8_1 : Value) (h_1 : Heap), I_1 [root8_1] h_1 →
  pop P (binA .mul 3 (Value.int IntKind.i64 2) root8_1) fun t12_1 =>
  pop P (binA .add 3 t12_1 (Value.int IntKind.i64 1)) fun t13_1 =>
  pop P (binA .geq 3 t13_1 hi2_1) fun t16_1 =>
  condM t16_1
  (K (.tuple #[]) h_1)
  (∃ J_1 : List Value → Heap → Prop, (pop P (binA .add 3 t13_1 (Value.int IntKind.i64 1)) fun t18_1 =>
  pop P (binA .lss 3 t18_1 hi2_1) fun t20_1 =>
  guardM (asG t20_1 true) true (fun k_1 => k_1 data0_1 h_1) h_1 fun t22_1 h_2 =>
  guardM (asG t20_1 true) true (fun k_2 => k_2 first3_1 h_2) h_2 fun t23_1 h_3 =>
  guardM (asG t20_1 true) true (fun k_3 => k_3 t13_1 h_3) h_3 fun t24_1 h_4 =>
  guardM (asG t20_1 true) true (fun k_4 => pop P (binA .add 3 t23_1 t24_1) fun t25_1 =>
  k_4 t25_1 h_4) h_4 fun t25_2 h_5 =>
  guardM (asG t20_1 true) true (fun k_5 => pop P (Instr.indexAt 27 t22_1 t25_2) fun t26_1 =>
  k_5 t26_1 h_5) h_5 fun t26_2 h_6 =>
  guardM (asG t20_1 true) true (fun k_6 => rop P (Instr.loadAt 3 t26_2) h_6 fun t27_1 =>
  k_6 t27_1 h_6) h_6 fun t27_2 h_7 =>
  guardM (asG t20_1 true) true (fun k_7 => k_7 data0_1 h_7) h_7 fun t28_1 h_8 =>
  guardM (asG t20_1 true) true (fun k_8 => k_8 first3_1 h_8) h_8 fun t29_1 h_9 =>
  guardM (asG t20_1 true) true (fun k_9 => k_9 t13_1 h_9) h_9 fun t30_1 h_10 =>
  guardM (asG t20_1 true) true (fun k_10 => pop P (binA .add 3 t29_1 t30_1) fun t31_1 =>
  k_10 t31_1 h_10) h_10 fun t31_2 h_11 =>
  guardM (asG t20_1 true) true (fun k_11 => pop P (binA .add 3 t31_2 (Value.int IntKind.i64 1)) fun t32_1 =>
  k_11 t32_1 h_11) h_11 fun t32_2 h_12 =>
  guardM (asG t20_1 true) true (fun k_12 => pop P (Instr.indexAt 27 t28_1 t32_2) fun t33_1 =>
  k_12 t33_1 h_12) h_12 fun t33_2 h_13 =>
  guardM (asG t20_1 true) true (fun k_13 => rop P (Instr.loadAt 3 t33_2) h_13 fun t34_1 =>
  k_13 t34_1 h_13) h_13 fun t34_2 h_14 =>
  guardM (asG t20_1 true) true (fun k_14 => callM P 150 #[t27_2, t34_2] h_14 fun t35_1 h_15 =>
  k_14 t35_1 h_15) h_14 fun t35_2 h_16 =>
  pop P (pickS t20_1 t35_2 (Value.bool false)) fun t36_1 =>
  condM t36_1
  (pop P (binA .add 3 t13_1 (Value.int IntKind.i64 1)) fun t38_1 =>
  J_1 [t38_1] h_16)
  (J_1 [t13_1] h_16)) ∧
  ∀ (junk_2 : Nat → Value) (child9_1 : Value) (h_17 : Heap), J_1 [child9_1] h_17 →
  pop P (binA .add 3 first3_1 root8_1) fun t42_1 =>
  pop P (Instr.indexAt 27 data0_1 t42_1) fun t43_1 =>
  rop P (Instr.loadAt 3 t43_1) h_17 fun t44_1 =>
  pop P (binA .add 3 first3_1 child9_1) fun t48_1 =>
  pop P (Instr.indexAt 27 data0_1 t48_1) fun t49_1 =>
  rop P (Instr.loadAt 3 t49_1) h_17 fun t50_1 =>
  callM P 150 #[t44_1, t50_1] h_17 fun t51_1 h_18 =>
  pop P (Op.unary .not t51_1) fun t52_1 =>
  condM t52_1
  (K (.tuple #[]) h_18)
  (pop P (binA .add 3 first3_1 root8_1) fun t56_1 =>
  pop P (binA .add 3 first3_1 child9_1) fun t60_1 =>
  pop P (binA .add 3 first3_1 child9_1) fun t64_1 =>
  pop P (Instr.indexAt 27 data0_1 t64_1) fun t65_1 =>
  rop P (Instr.loadAt 3 t65_1) h_18 fun t66_1 =>
  pop P (binA .add 3 first3_1 root8_1) fun t70_1 =>
  pop P (Instr.indexAt 27 data0_1 t70_1) fun t71_1 =>
  rop P (Instr.loadAt 3 t71_1) h_18 fun t72_1 =>
  pop P (Instr.indexAt 27 data0_1 t56_1) fun t73_1 =>
  uop P (Instr.storeAt 3 t73_1 t66_1) h_18 fun u_1 h_19 =>
  pop P (Instr.indexAt 27 data0_1 t60_1) fun t74_1 =>
  uop P (Instr.storeAt 3 t74_1 t72_1) h_19 fun u_2 h_20 =>
  I_1 [child9_1] h_20 ∧ μ_1 [child9_1] h_20 < μ_1 [root8_1] h_1))
theorem e157 (data0_1 : Value) (lo1_1 : Value) (hi2_1 : Value) (first3_1 : Value) (h : Heap) (K : Value → Heap → Prop) : wpA Try.prog 76 (anOf [(6, [8]), (99, [9])]) (bodyOf Try.f157) 1 (fun A h => resA Try.prog A h K []) (fun _ _ _ => False) (fun A h => resA Try.prog A h K []) (aargs [data0_1, lo1_1, hi2_1, first3_1] 0) h = t157 Try.prog data0_1 lo1_1 hi2_1 first3_1 h K := by kernel_rfl
theorem c157 (data0_1 : Value) (lo1_1 : Value) (hi2_1 : Value) (first3_1 : Value) (h : Heap) (K : Value → Heap → Prop) (H : t157 Try.prog data0_1 lo1_1 hi2_1 first3_1 h K) : callM Try.prog 157 #[data0_1, lo1_1, hi2_1, first3_1] h K :=
  callM_of_wpA mixed (fn := Try.f157) Try.func157 (c := bodyOf Try.f157) rfl (of_decide_eq_true (by kernel_rfl)) (anOf [(6, [8]), (99, [9])]) 72 76 (by kernel_rfl) rfl [] (by kernel_rfl) (args := [data0_1, lo1_1, hi2_1, first3_1]) (by rw [e157]; exact H)

/-! slices.nextPowerOfTwo -/
def t158 (P : Program) (length0_1 : Value) (h : Heap) (K : Value → Heap → Prop) : Prop :=
  rop P (convert 3 133 length0_1) h fun t4_1 =>
  callM P 138 #[t4_1] h fun t5_1 h_1 =>
  pop P (binA .shl 133 (Value.int IntKind.u64 1) t5_1) fun t6_1 =>
  K t6_1 h_1
theorem e158 (length0_1 : Value) (h : Heap) (K : Value → Heap → Prop) : wpA Try.prog 7 (anOf []) (bodyOf Try.f158) 1 (fun A h => resA Try.prog A h K [.tmp 2]) (fun _ _ _ => False) (fun A h => resA Try.prog A h K [.tmp 2]) (aargs [length0_1] 0) h = t158 Try.prog length0_1 h K := by kernel_rfl
theorem c158 (length0_1 : Value) (h : Heap) (K : Value → Heap → Prop) (H : t158 Try.prog length0_1 h K) : callM Try.prog 158 #[length0_1] h K :=
  callM_of_wpA mixed (fn := Try.f158) Try.func158 (c := bodyOf Try.f158) rfl (of_decide_eq_true (by kernel_rfl)) (anOf []) 6 7 (by kernel_rfl) rfl [.tmp 2] (by kernel_rfl) (args := [length0_1]) (by rw [e158]; exact H)

/-! (*slices.xorshift).Next -/
def t159 (P : Program) (r0_1 : Value) (h : Heap) (K : Value → Heap → Prop) : Prop :=
  pop P (nilS r0_1) fun t4_1 =>
  rop P (Instr.loadAt 156 t4_1) h fun t5_1 =>
  pop P (nilS r0_1) fun t7_1 =>
  rop P (Instr.loadAt 156 t7_1) h fun t8_1 =>
  pop P (binA .shl 156 t8_1 (Value.int IntKind.u64 13)) fun t9_1 =>
  pop P (binA .xor 156 t5_1 t9_1) fun t10_1 =>
  pop P (nilS r0_1) fun t11_1 =>
  uop P (Instr.storeAt 156 t11_1 t10_1) h fun u_1 h_1 =>
  pop P (nilS r0_1) fun t13_1 =>
  rop P (Instr.loadAt 156 t13_1) h_1 fun t14_1 =>
  pop P (nilS r0_1) fun t16_1 =>
  rop P (Instr.loadAt 156 t16_1) h_1 fun t17_1 =>
  pop P (binA .shr 156 t17_1 (Value.int IntKind.u64 7)) fun t18_1 =>
  pop P (binA .xor 156 t14_1 t18_1) fun t19_1 =>
  pop P (nilS r0_1) fun t20_1 =>
  uop P (Instr.storeAt 156 t20_1 t19_1) h_1 fun u_2 h_2 =>
  pop P (nilS r0_1) fun t22_1 =>
  rop P (Instr.loadAt 156 t22_1) h_2 fun t23_1 =>
  pop P (nilS r0_1) fun t25_1 =>
  rop P (Instr.loadAt 156 t25_1) h_2 fun t26_1 =>
  pop P (binA .shl 156 t26_1 (Value.int IntKind.u64 17)) fun t27_1 =>
  pop P (binA .xor 156 t23_1 t27_1) fun t28_1 =>
  pop P (nilS r0_1) fun t29_1 =>
  uop P (Instr.storeAt 156 t29_1 t28_1) h_2 fun u_3 h_3 =>
  pop P (nilS r0_1) fun t31_1 =>
  rop P (Instr.loadAt 156 t31_1) h_3 fun t32_1 =>
  K t32_1 h_3
theorem e159 (r0_1 : Value) (h : Heap) (K : Value → Heap → Prop) : wpA Try.prog 33 (anOf []) (bodyOf Try.f159) 1 (fun A h => resA Try.prog A h K [.tmp 2]) (fun _ _ _ => False) (fun A h => resA Try.prog A h K [.tmp 2]) (aargs [r0_1] 0) h = t159 Try.prog r0_1 h K := by kernel_rfl
theorem c159 (r0_1 : Value) (h : Heap) (K : Value → Heap → Prop) (H : t159 Try.prog r0_1 h K) : callM Try.prog 159 #[r0_1] h K :=
  callM_of_wpA mixed (fn := Try.f159) Try.func159 (c := bodyOf Try.f159) rfl (of_decide_eq_true (by kernel_rfl)) (anOf []) 32 33 (by kernel_rfl) rfl [.tmp 2] (by kernel_rfl) (args := [r0_1]) (by rw [e159]; exact H)

/-! slices.medianAdjacentOrdered[int] -/
def t160 (P : Program) (data0_1 : Value) (a1_1 : Value) (swaps2_1 : Value) (h : Heap) (K : Value → Heap → Prop) : Prop :=
  pop P (binA .sub 3 a1_1 (Value.int IntKind.i64 1)) fun t9_1 =>
  pop P (binA .add 3 a1_1 (Value.int IntKind.i64 1)) fun t12_1 =>
  callM P 161 #[data0_1, t9_1, a1_1, t12_1, swaps2_1] h fun t14_1 h_1 =>
  K t14_1 h_1
theorem e160 (data0_1 : Value) (a1_1 : Value) (swaps2_1 : Value) (h : Heap) (K : Value → Heap → Prop) : wpA Try.prog 15 (anOf []) (bodyOf Try.f160) 1 (fun A h => resA Try.prog A h K [.tmp 6]) (fun _ _ _ => False) (fun A h => resA Try.prog A h K [.tmp 6]) (aargs [data0_1, a1_1, swaps2_1] 0) h = t160 Try.prog data0_1 a1_1 swaps2_1 h K := by kernel_rfl
theorem c160 (data0_1 : Value) (a1_1 : Value) (swaps2_1 : Value) (h : Heap) (K : Value → Heap → Prop) (H : t160 Try.prog data0_1 a1_1 swaps2_1 h K) : callM Try.prog 160 #[data0_1, a1_1, swaps2_1] h K :=
  callM_of_wpA mixed (fn := Try.f160) Try.func160 (c := bodyOf Try.f160) rfl (of_decide_eq_true (by kernel_rfl)) (anOf []) 12 15 (by kernel_rfl) rfl [.tmp 6] (by kernel_rfl) (args := [data0_1, a1_1, swaps2_1]) (by rw [e160]; exact H)

/-! slices.medianOrdered[int] -/
def t161 (P : Program) (data0_1 : Value) (a1_1 : Value) (b2_1 : Value) (c3_1 : Value) (swaps4_1 : Value) (h : Heap) (K : Value → Heap → Prop) : Prop :=
  callM P 164 #[data0_1, a1_1, b2_1, swaps4_1] h fun t16_1 h_1 =>
  pop P (Instr.extract t16_1 0) fun t17_1 =>
  pop P (Instr.extract t16_1 1) fun t18_1 =>
  callM P 164 #[data0_1, t18_1, c3_1, swaps4_1] h_1 fun t24_1 h_2 =>
  pop P (Instr.extract t24_1 0) fun t25_1 =>
  pop P (Instr.extract t24_1 1) fun t26_1 =>
  callM P 164 #[data0_1, t17_1, t25_1, swaps4_1] h_2 fun t32_1 h_3 =>
  pop P (Instr.extract t32_1 0) fun t33_1 =>
  pop P (Instr.extract t32_1 1) fun t34_1 =>
  K t34_1 h_3
theorem e161 (data0_1 : Value) (a1_1 : Value) (b2_1 : Value) (c3_1 : Value) (swaps4_1 : Value) (h : Heap) (K : Value → Heap → Prop) : wpA Try.prog 36 (anOf []) (bodyOf Try.f161) 1 (fun A h => resA Try.prog A h K [.tmp 10]) (fun _ _ _ => False) (fun A h => resA Try.prog A h K [.tmp 10]) (aargs [data0_1, a1_1, b2_1, c3_1, swaps4_1] 0) h = t161 Try.prog data0_1 a1_1 b2_1 c3_1 swaps4_1 h K := by kernel_rfl
theorem c161 (data0_1 : Value) (a1_1 : Value) (b2_1 : Value) (c3_1 : Value) (swaps4_1 : Value) (h : Heap) (K : Value → Heap → Prop) (H : t161 Try.prog data0_1 a1_1 b2_1 c3_1 swaps4_1 h K) : callM Try.prog 161 #[data0_1, a1_1, b2_1, c3_1, swaps4_1] h K :=
  callM_of_wpA mixed (fn := Try.f161) Try.func161 (c := bodyOf Try.f161) rfl (of_decide_eq_true (by kernel_rfl)) (anOf []) 31 36 (by kernel_rfl) rfl [.tmp 10] (by kernel_rfl) (args := [data0_1, a1_1, b2_1, c3_1, swaps4_1]) (by rw [e161]; exact H)

/-! cmp.isNaN[int] -/
def t162 (P : Program) (x0_1 : Value) (h : Heap) (K : Value → Heap → Prop) : Prop :=
  pop P (binE .neq 3 (.tmp 3) (.tmp 4) x0_1 x0_1) fun t5_1 =>
  K t5_1 h
theorem e162 (x0_1 : Value) (h : Heap) (K : Value → Heap → Prop) : wpA Try.prog 6 (anOf []) (bodyOf Try.f162) 1 (fun A h => resA Try.prog A h K [.tmp 2]) (fun _ _ _ => False) (fun A h => resA Try.prog A h K [.tmp 2]) (aargs [x0_1] 0) h = t162 Try.prog x0_1 h K := by kernel_rfl
theorem c162 (x0_1 : Value) (h : Heap) (K : Value → Heap → Prop) (H : t162 Try.prog x0_1 h K) : callM Try.prog 162 #[x0_1] h K :=
  callM_of_wpA mixed (fn := Try.f162) Try.func162 (c := bodyOf Try.f162) rfl (of_decide_eq_true (by kernel_rfl)) (anOf []) 5 6 (by kernel_rfl) rfl [.tmp 2] (by kernel_rfl) (args := [x0_1]) (by rw [e162]; exact H)

/-! slices.Grow[[]int,int] -/
def t163 (P : Program) (s0_1 : Value) (n1_1 : Value) (h : Heap) (K : Value → Heap → Prop) : Prop :=
  ∃ J_1 : List Value → Heap → Prop, (pop P (binA .lss 3 n1_1 (Value.int IntKind.i64 0)) fun t6_1 =>
  condM t6_1
  (pop P (Instr.makeInterface 9 (Value.string { data := #[99, 97, 110, 110, 111, 116, 32, 98, 101, 32, 110, 101, 103, 97, 116, 105, 118, 101] })) fun t7_1 =>
  False)
  (J_1 [] h)) ∧
  ∀ (junk_1 : Nat → Value) (h_1 : Heap), J_1 [] h_1 →
  pop P (Builtin.cap_ #[27] 3 #[s0_1]) fun t10_1 =>
  pop P (lenS 27 3 s0_1) fun t12_1 =>
  pop P (binA .sub 3 t10_1 t12_1) fun t13_1 =>
  pop P (binA .sub 3 n1_1 t13_1) fun t14_1 =>
  pop P (binA .gtr 3 t14_1 (Value.int IntKind.i64 0)) fun t16_1 =>
  condM t16_1
  (pop P (Builtin.cap_ #[27] 3 #[s0_1]) fun t19_1 =>
  pop P (Instr.sliceAt 27 s0_1 none (some t19_1) none) fun t20_1 =>
  eop P (appS 27 3 27 t20_1 t14_1) h_1 fun t22_1 h_2 =>
  pop P (lenS 27 3 s0_1) fun t24_1 =>
  pop P (Instr.sliceAt 27 t22_1 none (some t24_1) none) fun t25_1 =>
  K t25_1 h_2)
  (K s0_1 h_1)
theorem e163 (s0_1 : Value) (n1_1 : Value) (h : Heap) (K : Value → Heap → Prop) : wpA Try.prog 27 (anOf [(3, [])]) (bodyOf Try.f163) 1 (fun A h => resA Try.prog A h K [.tmp 4]) (fun _ _ _ => False) (fun A h => resA Try.prog A h K [.tmp 4]) (aargs [s0_1, n1_1] 0) h = t163 Try.prog s0_1 n1_1 h K := by kernel_rfl
theorem c163 (s0_1 : Value) (n1_1 : Value) (h : Heap) (K : Value → Heap → Prop) (H : t163 Try.prog s0_1 n1_1 h K) : callM Try.prog 163 #[s0_1, n1_1] h K :=
  callM_of_wpA mixed (fn := Try.f163) Try.func163 (c := bodyOf Try.f163) rfl (of_decide_eq_true (by kernel_rfl)) (anOf [(3, [])]) 25 27 (by kernel_rfl) rfl [.tmp 4] (by kernel_rfl) (args := [s0_1, n1_1]) (by rw [e163]; exact H)

/-! slices.order2Ordered[int] -/
def t164 (P : Program) (data0_1 : Value) (a1_1 : Value) (b2_1 : Value) (swaps3_1 : Value) (h : Heap) (K : Value → Heap → Prop) : Prop :=
  pop P (Instr.indexAt 27 data0_1 b2_1) fun t12_1 =>
  rop P (Instr.loadAt 3 t12_1) h fun t13_1 =>
  pop P (Instr.indexAt 27 data0_1 a1_1) fun t16_1 =>
  rop P (Instr.loadAt 3 t16_1) h fun t17_1 =>
  callM P 150 #[t13_1, t17_1] h fun t18_1 h_1 =>
  condM t18_1
  (pop P (nilS swaps3_1) fun t20_1 =>
  rop P (Instr.loadAt 3 t20_1) h_1 fun t21_1 =>
  pop P (binA .add 3 t21_1 (Value.int IntKind.i64 1)) fun t22_1 =>
  pop P (nilS swaps3_1) fun t23_1 =>
  uop P (Instr.storeAt 3 t23_1 t22_1) h_1 fun u_1 h_2 =>
  K (.tuple #[b2_1, a1_1]) h_2)
  (K (.tuple #[a1_1, b2_1]) h_1)
theorem e164 (data0_1 : Value) (a1_1 : Value) (b2_1 : Value) (swaps3_1 : Value) (h : Heap) (K : Value → Heap → Prop) : wpA Try.prog 28 (anOf []) (bodyOf Try.f164) 1 (fun A h => resA Try.prog A h K [.tmp 8, .tmp 9]) (fun _ _ _ => False) (fun A h => resA Try.prog A h K [.tmp 8, .tmp 9]) (aargs [data0_1, a1_1, b2_1, swaps3_1] 0) h = t164 Try.prog data0_1 a1_1 b2_1 swaps3_1 h K := by kernel_rfl
theorem c164 (data0_1 : Value) (a1_1 : Value) (b2_1 : Value) (swaps3_1 : Value) (h : Heap) (K : Value → Heap → Prop) (H : t164 Try.prog data0_1 a1_1 b2_1 swaps3_1 h K) : callM Try.prog 164 #[data0_1, a1_1, b2_1, swaps3_1] h K :=
  callM_of_wpA mixed (fn := Try.f164) Try.func164 (c := bodyOf Try.f164) rfl (of_decide_eq_true (by kernel_rfl)) (anOf []) 24 28 (by kernel_rfl) rfl [.tmp 8, .tmp 9] (by kernel_rfl) (args := [data0_1, a1_1, b2_1, swaps3_1]) (by rw [e164]; exact H)

end Go.Proofs.Ytkjkfjkapbpgiaa
