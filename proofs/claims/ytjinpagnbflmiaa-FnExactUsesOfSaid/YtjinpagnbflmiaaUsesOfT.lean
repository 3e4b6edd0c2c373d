/-
  What each function that the law 'FnExactUsesOf' comes to asks of the heap, named; tied to the loaded program by the kernel. Written by a program.
-/
import Derived.Test.YtjinpagnbflmiaaProg
import Derived.Test.YtjinpagnbflmiaaM1
set_option linter.unusedVariables false
namespace Go.Proofs.Ytjinpagnbflmiaa
open Go Go.Mx
theorem mixed : Try.prog.follows .mixedOrders = true := by kernel_rfl
/-! laws.FnExactUsesOf -/
def t3 (P : Program) (aG0_1 : Value) (aW1_1 : Value) (aN2_1 : Value) (h : Heap) (K : Value → Heap → Prop) : Prop :=
  eop P (Instr.box 24 aG0_1) h fun aG3_1 h_1 =>
  eop P (Instr.box 27 aW1_1) h_1 fun aW4_1 h_2 =>
  rop P (Instr.loadAt 24 aG3_1) h_2 fun t19_1 =>
  callM P 15 #[t19_1, (Value.int IntKind.i64 1048576)] h_2 fun t21_1 h_3 =>
  pop P (binA .lss 3 t21_1 (Value.int IntKind.i64 0)) fun t23_1 =>
  condM t23_1
  (K (Value.bool true) h_3)
  (rop P (Instr.loadAt 27 aW4_1) h_3 fun t24_1 =>
  callM P 16 #[t24_1, t21_1] h_3 fun t26_1 h_4 =>
  pop P (binA .lss 3 t26_1 (Value.int IntKind.i64 0)) fun t28_1 =>
  condM t28_1
  (K (Value.bool true) h_4)
  (rop P (Instr.loadAt 24 aG3_1) h_4 fun t30_1 =>
  rop P (Instr.loadAt 27 aW4_1) h_4 fun t32_1 =>
  callM P 18 #[t30_1] h_4 fun t31_1 h_5 =>
  (∀ w : World, w.heap = h_5 → (Instr.loadAt 27 aW4_1).run P w = .ok t32_1 w) ∧
  callM P 19 #[t32_1] h_5 fun t33_1 h_6 =>
  callM P 17 #[t31_1, t33_1, aN2_1] h_6 fun t35_1 h_7 =>
  pop P (Instr.extract t35_1 0) fun t36_1 =>
  pop P (Instr.extract t35_1 1) fun t37_1 =>
  rop P (Instr.loadAt 24 aG3_1) h_7 fun t38_1 =>
  callM P 18 #[t38_1] h_7 fun t39_1 h_8 =>
  eop P (Instr.alloc 32 true (.tuple #[])) h_8 fun x010_1 h_9 =>
  uop P (Instr.storeAt 32 x010_1 t39_1) h_9 fun u_1 h_10 =>
  rop P (Instr.loadAt 27 aW4_1) h_10 fun t40_1 =>
  callM P 19 #[t40_1] h_10 fun t41_1 h_11 =>
  eop P (Instr.alloc 34 true (.tuple #[])) h_11 fun x111_1 h_12 =>
  uop P (Instr.storeAt 34 x111_1 t41_1) h_12 fun u_2 h_13 =>
  rop P (Instr.loadAt 32 x010_1) h_13 fun t43_1 =>
  rop P (Instr.loadAt 34 x111_1) h_13 fun t44_1 =>
  callM P 20 #[t43_1, t44_1, aN2_1] h_13 fun t46_1 h_14 =>
  pop P (Instr.extract t46_1 0) fun t47_1 =>
  pop P (Instr.extract t46_1 1) fun t48_1 =>
  callM P 21 #[t47_1, t36_1] h_14 fun t51_1 h_15 =>
  pop P (Op.unary .not t51_1) fun t52_1 =>
  guardM t52_1 false (fun k_1 => k_1 t48_1 h_15) h_15 fun t54_1 h_16 =>
  guardM t52_1 false (fun k_2 => k_2 t37_1 h_16) h_16 fun t55_1 h_17 =>
  guardM t52_1 false (fun k_3 => pop P (binE .neq 4 (.tmp 54) (.tmp 55) t54_1 t55_1) fun t56_1 =>
  k_3 t56_1 h_17) h_17 fun t56_2 h_18 =>
  pop P (pickS t52_1 (Value.bool true) t56_2) fun t57_1 =>
  condM t57_1
  (K (Value.bool false) h_18)
  (rop P (Instr.loadAt 32 x010_1) h_18 fun t58_1 =>
  rop P (Instr.loadAt 24 aG3_1) h_18 fun t59_1 =>
  callM P 18 #[t59_1] h_18 fun t60_1 h_19 =>
  (∀ w : World, w.heap = h_19 → (Instr.loadAt 32 x010_1).run P w = .ok t58_1 w) ∧
  callM P 22 #[t58_1, t60_1] h_19 fun t61_1 h_20 =>
  pop P (Op.unary .not t61_1) fun t62_1 =>
  condM t62_1
  (K (Value.bool false) h_20)
  (rop P (Instr.loadAt 34 x111_1) h_20 fun t63_1 =>
  rop P (Instr.loadAt 27 aW4_1) h_20 fun t64_1 =>
  callM P 19 #[t64_1] h_20 fun t65_1 h_21 =>
  (∀ w : World, w.heap = h_21 → (Instr.loadAt 34 x111_1).run P w = .ok t63_1 w) ∧
  callM P 23 #[t63_1, t65_1] h_21 fun t66_1 h_22 =>
  pop P (Op.unary .not t66_1) fun t67_1 =>
  condM t67_1
  (K (Value.bool false) h_22)
  (rop P (Instr.loadAt 32 x010_1) h_22 fun t68_1 =>
  callM P 24 #[t68_1, (Value.int IntKind.i64 1)] h_22 fun t70_1 h_23 =>
  rop P (Instr.loadAt 34 x111_1) h_23 fun t71_1 =>
  callM P 25 #[t71_1, t70_1] h_23 fun t73_1 h_24 =>
  pop P (binA .lss 3 t73_1 (Value.int IntKind.i64 0)) fun t75_1 =>
  guardM t75_1 false (fun k_4 => k_4 t47_1 h_24) h_24 fun t77_1 h_25 =>
  guardM t75_1 false (fun k_5 => k_5 t36_1 h_25) h_25 fun t78_1 h_26 =>
  guardM t75_1 false (fun k_6 => callM P 21 #[t77_1, t78_1] h_26 fun t79_1 h_27 =>
  k_6 t79_1 h_27) h_26 fun t79_2 h_28 =>
  guardM t75_1 false (fun k_7 => pop P (Op.unary .not t79_2) fun t80_1 =>
  k_7 t80_1 h_28) h_28 fun t80_2 h_29 =>
  pop P (pickS t75_1 (Value.bool true) t80_2) fun t81_1 =>
  guardM t81_1 false (fun k_8 => k_8 t48_1 h_29) h_29 fun t83_1 h_30 =>
  guardM t81_1 false (fun k_9 => k_9 t37_1 h_30) h_30 fun t84_1 h_31 =>
  guardM t81_1 false (fun k_10 => pop P (binE .neq 4 (.tmp 83) (.tmp 84) t83_1 t84_1) fun t85_1 =>
  k_10 t85_1 h_31) h_31 fun t85_2 h_32 =>
  pop P (pickS t81_1 (Value.bool true) t85_2) fun t86_1 =>
  condM t86_1
  (K (Value.bool false) h_32)
  (callM P 26 #[t47_1, (Value.int IntKind.i64 1)] h_32 fun t89_1 h_33 =>
  callM P 27 #[t47_1, (Value.int IntKind.i64 1)] h_33 fun t92_1 h_34 =>
  pop P (binA .lss 3 t92_1 (Value.int IntKind.i64 0)) fun t94_1 =>
  condM t94_1
  (K (Value.bool false) h_34)
  (pop P (binE .neq 3 (.tmp 95) (.tmp 96) t92_1 t89_1) fun t97_1 =>
  condM t97_1
  (K (Value.bool false) h_34)
  (rop P (Instr.loadAt 24 aG3_1) h_34 fun t99_1 =>
  rop P (Instr.loadAt 27 aW4_1) h_34 fun t101_1 =>
  callM P 18 #[t99_1] h_34 fun t100_1 h_35 =>
  (∀ w : World, w.heap = h_35 → (Instr.loadAt 27 aW4_1).run P w = .ok t101_1 w) ∧
  callM P 19 #[t101_1] h_35 fun t102_1 h_36 =>
  callM P 20 #[t100_1, t102_1, aN2_1] h_36 fun t104_1 h_37 =>
  pop P (Instr.extract t104_1 0) fun t105_1 =>
  pop P (Instr.extract t104_1 1) fun t106_1 =>
  callM P 21 #[t105_1, t36_1] h_37 fun t109_1 h_38 =>
  pop P (Op.unary .not t109_1) fun t110_1 =>
  guardM t110_1 false (fun k_11 => k_11 t106_1 h_38) h_38 fun t112_1 h_39 =>
  guardM t110_1 false (fun k_12 => k_12 t37_1 h_39) h_39 fun t113_1 h_40 =>
  guardM t110_1 false (fun k_13 => pop P (binE .neq 4 (.tmp 112) (.tmp 113) t112_1 t113_1) fun t114_1 =>
  k_13 t114_1 h_40) h_40 fun t114_2 h_41 =>
  pop P (pickS t110_1 (Value.bool true) t114_2) fun t115_1 =>
  condM t115_1
  (K (Value.bool false) h_41)
  (callM P 27 #[t47_1, (Value.int IntKind.i64 1)] h_41 fun t118_1 h_42 =>
  pop P (binA .lss 3 t118_1 (Value.int IntKind.i64 0)) fun t120_1 =>
  condM t120_1
  (K (Value.bool false) h_42)
  (pop P (binE .neq 3 (.tmp 121) (.tmp 122) t118_1 t89_1) fun t123_1 =>
  condM t123_1
  (K (Value.bool false) h_42)
  (K (Value.bool true) h_42)))))))))))
theorem e3 (aG0_1 : Value) (aW1_1 : Value) (aN2_1 : Value) (h : Heap) (K : Value → Heap → Prop) : wpA Try.prog 124 (anOf []) (bodyOf Try.f3) 1 (fun A h => resA Try.prog A h K [.tmp 6]) (fun _ _ _ => False) (fun A h => resA Try.prog A h K [.tmp 6]) (aargs [aG0_1, aW1_1, aN2_1] 0) h = t3 Try.prog aG0_1 aW1_1 aN2_1 h K := by kernel_rfl
theorem c3 (aG0_1 : Value) (aW1_1 : Value) (aN2_1 : Value) (h : Heap) (K : Value → Heap → Prop) (H : t3 Try.prog aG0_1 aW1_1 aN2_1 h K) : callM Try.prog 3 #[aG0_1, aW1_1, aN2_1] h K :=
  callM_of_wpA mixed (fn := Try.f3) Try.func3 (c := bodyOf Try.f3) rfl (of_decide_eq_true (by kernel_rfl)) (anOf []) 121 124 (by kernel_rfl) rfl [.tmp 6] (by kernel_rfl) (args := [aG0_1, aW1_1, aN2_1]) (by rw [e3]; exact H)

/-! laws.szGraph -/
def t15 (P : Program) (a0_1 : Value) (left1_1 : Value) (h : Heap) (K : Value → Heap → Prop) : Prop :=
  eop P (Instr.box 24 a0_1) h fun a2_1 h_1 =>
  pop P (Instr.fieldAt 24 a2_1 0) fun t5_1 =>
  rop P (Instr.loadAt 22 t5_1) h_1 fun t6_1 =>
  callM P 64 #[t6_1, left1_1] h_1 fun t8_1 h_2 =>
  pop P (binA .lss 3 t8_1 (Value.int IntKind.i64 0)) fun t10_1 =>
  condM t10_1
  (K (Value.int IntKind.i64 (-1)) h_2)
  (K t8_1 h_2)
theorem e15 (a0_1 : Value) (left1_1 : Value) (h : Heap) (K : Value → Heap → Prop) : wpA Try.prog 12 (anOf []) (bodyOf Try.f15) 1 (fun A h => resA Try.prog A h K [.tmp 4]) (fun _ _ _ => False) (fun A h => resA Try.prog A h K [.tmp 4]) (aargs [a0_1, left1_1] 0) h = t15 Try.prog a0_1 left1_1 h K := by kernel_rfl
theorem c15 (a0_1 : Value) (left1_1 : Value) (h : Heap) (K : Value → Heap → Prop) (H : t15 Try.prog a0_1 left1_1 h K) : callM Try.prog 15 #[a0_1, left1_1] h K :=
  callM_of_wpA mixed (fn := Try.f15) Try.func15 (c := bodyOf Try.f15) rfl (of_decide_eq_true (by kernel_rfl)) (anOf []) 10 12 (by kernel_rfl) rfl [.tmp 4] (by kernel_rfl) (args := [a0_1, left1_1]) (by rw [e15]; exact H)

/-! laws.szWalk -/
def t16 (P : Program) (a0_1 : Value) (left1_1 : Value) (h : Heap) (K : Value → Heap → Prop) : Prop :=
  eop P (Instr.box 27 a0_1) h fun a2_1 h_1 =>
  pop P (Instr.fieldAt 27 a2_1 0) fun t5_1 =>
  rop P (Instr.loadAt 25 t5_1) h_1 fun t6_1 =>
  callM P 65 #[t6_1, left1_1] h_1 fun t8_1 h_2 =>
  pop P (binA .lss 3 t8_1 (Value.int IntKind.i64 0)) fun t10_1 =>
  condM t10_1
  (K (Value.int IntKind.i64 (-1)) h_2)
  (K t8_1 h_2)
theorem e16 (a0_1 : Value) (left1_1 : Value) (h : Heap) (K : Value → Heap → Prop) : wpA Try.prog 12 (anOf []) (bodyOf Try.f16) 1 (fun A h => resA Try.prog A h K [.tmp 4]) (fun _ _ _ => False) (fun A h => resA Try.prog A h K [.tmp 4]) (aargs [a0_1, left1_1] 0) h = t16 Try.prog a0_1 left1_1 h K := by kernel_rfl
theorem c16 (a0_1 : Value) (left1_1 : Value) (h : Heap) (K : Value → Heap → Prop) (H : t16 Try.prog a0_1 left1_1 h K) : callM Try.prog 16 #[a0_1, left1_1] h K :=
  callM_of_wpA mixed (fn := Try.f16) Try.func16 (c := bodyOf Try.f16) rfl (of_decide_eq_true (by kernel_rfl)) (anOf []) 10 12 (by kernel_rfl) rfl [.tmp 4] (by kernel_rfl) (args := [a0_1, left1_1]) (by rw [e16]; exact H)

/-! spec.UsesOf -/
def t17 (P : Program) (g0_1 : Value) (w1_1 : Value) (n2_1 : Value) (h : Heap) (K : Value → Heap → Prop) : Prop :=
  eop P (Instr.box 32 g0_1) h fun g3_1 h_1 =>
  eop P (Instr.box 34 w1_1) h_1 fun w4_1 h_2 =>
  rop P (Instr.loadAt 32 g3_1) h_2 fun t10_1 =>
  rop P (Instr.loadAt 34 w4_1) h_2 fun t11_1 =>
  callM P 66 #[t10_1, t11_1, n2_1] h_2 fun t13_1 h_3 =>
  pop P (Op.unary .not t13_1) fun t14_1 =>
  condM t14_1
  (K (.tuple #[(Value.slice none 0 0), (Value.bool false)]) h_3)
  (rop P (Instr.loadAt 32 g3_1) h_3 fun t16_1 =>
  rop P (Instr.loadAt 34 w4_1) h_3 fun t17_1 =>
  callM P 67 #[t16_1, t17_1, n2_1] h_3 fun t19_1 h_4 =>
  pop P (Instr.extract t19_1 0) fun t20_1 =>
  pop P (Instr.extract t19_1 1) fun t21_1 =>
  eop P (Instr.alloc 81 true (.tuple #[])) h_4 fun r8_1 h_5 =>
  uop P (Instr.storeAt 81 r8_1 t20_1) h_5 fun u_1 h_6 =>
  pop P (Instr.fieldAt 81 r8_1 3) fun t22_1 =>
  rop P (Instr.loadAt 22 t22_1) h_6 fun t23_1 =>
  K (.tuple #[t23_1, t21_1]) h_6)
theorem e17 (g0_1 : Value) (w1_1 : Value) (n2_1 : Value) (h : Heap) (K : Value → Heap → Prop) : wpA Try.prog 25 (anOf []) (bodyOf Try.f17) 1 (fun A h => resA Try.prog A h K [.tmp 6, .tmp 7]) (fun _ _ _ => False) (fun A h => resA Try.prog A h K [.tmp 6, .tmp 7]) (aargs [g0_1, w1_1, n2_1] 0) h = t17 Try.prog g0_1 w1_1 n2_1 h K := by kernel_rfl
theorem c17 (g0_1 : Value) (w1_1 : Value) (n2_1 : Value) (h : Heap) (K : Value → Heap → Prop) (H : t17 Try.prog g0_1 w1_1 n2_1 h K) : callM Try.prog 17 #[g0_1, w1_1, n2_1] h K :=
  callM_of_wpA mixed (fn := Try.f17) Try.func17 (c := bodyOf Try.f17) rfl (of_decide_eq_true (by kernel_rfl)) (anOf []) 22 25 (by kernel_rfl) rfl [.tmp 6, .tmp 7] (by kernel_rfl) (args := [g0_1, w1_1, n2_1]) (by rw [e17]; exact H)

/-! laws.toGraph -/
def t18 (P : Program) (a0_1 : Value) (h : Heap) (K : Value → Heap → Prop) : Prop :=
  eop P (Instr.box 24 a0_1) h fun a1_1 h_1 =>
  eop P (Instr.alloc 32 true (.tuple #[])) h_1 fun t2_1 h_2 =>
  eop P (Instr.alloc 32 true (.tuple #[])) h_2 fun out3_1 h_3 =>
  pop P (Instr.fieldAt 24 a1_1 0) fun t4_1 =>
  rop P (Instr.loadAt 22 t4_1) h_3 fun t5_1 =>
  callM P 68 #[t5_1] h_3 fun t6_1 h_4 =>
  pop P (Instr.fieldAt 32 out3_1 0) fun t7_1 =>
  uop P (Instr.storeAt 22 t7_1 t6_1) h_4 fun u_1 h_5 =>
  rop P (Instr.loadAt 32 out3_1) h_5 fun t8_1 =>
  uop P (Instr.storeAt 32 t2_1 t8_1) h_5 fun u_2 h_6 =>
  rop P (Instr.loadAt 32 t2_1) h_6 fun r_1 =>
  K r_1 h_6
theorem e18 (a0_1 : Value) (h : Heap) (K : Value → Heap → Prop) : wpA Try.prog 9 (anOf []) (bodyOf Try.f18) 1 (fun A h => resA Try.prog A h K [.cell 2 32]) (fun _ _ _ => False) (fun A h => resA Try.prog A h K [.cell 2 32]) (aargs [a0_1] 0) h = t18 Try.prog a0_1 h K := by kernel_rfl
theorem c18 (a0_1 : Value) (h : Heap) (K : Value → Heap → Prop) (H : t18 Try.prog a0_1 h K) : callM Try.prog 18 #[a0_1] h K :=
  callM_of_wpA mixed (fn := Try.f18) Try.func18 (c := bodyOf Try.f18) rfl (of_decide_eq_true (by kernel_rfl)) (anOf []) 8 9 (by kernel_rfl) rfl [.cell 2 32] (by kernel_rfl) (args := [a0_1]) (by rw [e18]; exact H)

/-! laws.toWalk -/
def t19 (P : Program) (a0_1 : Value) (h : Heap) (K : Value → Heap → Prop) : Prop :=
  eop P (Instr.box 27 a0_1) h fun a1_1 h_1 =>
  eop P (Instr.alloc 34 true (.tuple #[])) h_1 fun t2_1 h_2 =>
  eop P (Instr.alloc 34 true (.tuple #[])) h_2 fun out3_1 h_3 =>
  pop P (Instr.fieldAt 27 a1_1 0) fun t4_1 =>
  rop P (Instr.loadAt 25 t4_1) h_3 fun t5_1 =>
  callM P 42 #[t5_1] h_3 fun t6_1 h_4 =>
  pop P (Instr.fieldAt 34 out3_1 0) fun t7_1 =>
  uop P (Instr.storeAt 25 t7_1 t6_1) h_4 fun u_1 h_5 =>
  pop P (Instr.fieldAt 27 a1_1 1) fun t8_1 =>
  rop P (Instr.loadAt 3 t8_1) h_5 fun t9_1 =>
  pop P (Instr.fieldAt 34 out3_1 1) fun t10_1 =>
  uop P (Instr.storeAt 3 t10_1 t9_1) h_5 fun u_2 h_6 =>
  rop P (Instr.loadAt 34 out3_1) h_6 fun t11_1 =>
  uop P (Instr.storeAt 34 t2_1 t11_1) h_6 fun u_3 h_7 =>
  rop P (Instr.loadAt 34 t2_1) h_7 fun r_1 =>
  K r_1 h_7
theorem e19 (a0_1 : Value) (h : Heap) (K : Value → Heap → Prop) : wpA Try.prog 12 (anOf []) (bodyOf Try.f19) 1 (fun A h => resA Try.prog A h K [.cell 2 34]) (fun _ _ _ => False) (fun A h => resA Try.prog A h K [.cell 2 34]) (aargs [a0_1] 0) h = t19 Try.prog a0_1 h K := by kernel_rfl
theorem c19 (a0_1 : Value) (h : Heap) (K : Value → Heap → Prop) (H : t19 Try.prog a0_1 h K) : callM Try.prog 19 #[a0_1] h K :=
  callM_of_wpA mixed (fn := Try.f19) Try.func19 (c := bodyOf Try.f19) rfl (of_decide_eq_true (by kernel_rfl)) (anOf []) 11 12 (by kernel_rfl) rfl [.cell 2 34] (by kernel_rfl) (args := [a0_1]) (by rw [e19]; exact H)

/-! impl.UsesOf -/
def t20 (P : Program) (g0_1 : Value) (w1_1 : Value) (n2_1 : Value) (h : Heap) (K : Value → Heap → Prop) : Prop :=
  eop P (Instr.box 32 g0_1) h fun g3_1 h_1 =>
  eop P (Instr.box 34 w1_1) h_1 fun w4_1 h_2 =>
  rop P (Instr.loadAt 32 g3_1) h_2 fun t10_1 =>
  rop P (Instr.loadAt 34 w4_1) h_2 fun t11_1 =>
  callM P 69 #[t10_1, t11_1, n2_1, (Value.int IntKind.i64 2000)] h_2 fun t13_1 h_3 =>
  pop P (Op.unary .not t13_1) fun t14_1 =>
  condM t14_1
  (K (.tuple #[(Value.slice none 0 0), (Value.bool false)]) h_3)
  (∃ J_1 : List Value → Heap → Prop, (rop P (Instr.loadAt 34 w4_1) h_3 fun t15_1 =>
  rop P (Instr.loadAt 32 g3_1) h_3 fun t17_1 =>
  (callM P 70 #[t15_1] h_3 fun t16_1 h_4 =>
  (∀ w : World, w.heap = h_4 → (Instr.loadAt 32 g3_1).run P w = .ok t17_1 w) ∧
  (callM P 71 #[t17_1] h_4 fun t18_1 h_5 =>
  (eop P (Instr.alloc 34 true (.tuple #[])) h_5 fun now8_1 h_6 =>
  eop P (Instr.alloc 22 true (.tuple #[])) h_6 fun out9_1 h_7 =>
  uop P (Instr.storeAt 34 now8_1 t16_1) h_7 fun u_1 h_8 =>
  uop P (Instr.storeAt 22 out9_1 t18_1) h_8 fun u_2 h_9 =>
  J_1 [now8_1, out9_1] h_9) ∧
  (eop P (Instr.alloc 22 true (.tuple #[])) h_5 fun out9_2 h_10 =>
  eop P (Instr.alloc 34 true (.tuple #[])) h_10 fun now8_2 h_11 =>
  uop P (Instr.storeAt 34 now8_2 t16_1) h_11 fun u_3 h_12 =>
  uop P (Instr.storeAt 22 out9_2 t18_1) h_12 fun u_4 h_13 =>
  J_1 [now8_2, out9_2] h_13)) ∧
  (eop P (Instr.alloc 34 true (.tuple #[])) h_4 fun now8_3 h_14 =>
  (∀ w : World, w.heap = h_14 → (Instr.loadAt 32 g3_1).run P w = .ok t17_1 w) ∧
  (callM P 71 #[t17_1] h_14 fun t18_2 h_15 =>
  eop P (Instr.alloc 22 true (.tuple #[])) h_15 fun out9_3 h_16 =>
  uop P (Instr.storeAt 34 now8_3 t16_1) h_16 fun u_5 h_17 =>
  uop P (Instr.storeAt 22 out9_3 t18_2) h_17 fun u_6 h_18 =>
  J_1 [now8_3, out9_3] h_18) ∧
  (eop P (Instr.alloc 22 true (.tuple #[])) h_14 fun out9_4 h_19 =>
  (∀ w : World, w.heap = h_19 → (Instr.loadAt 32 g3_1).run P w = .ok t17_1 w) ∧
  callM P 71 #[t17_1] h_19 fun t18_3 h_20 =>
  uop P (Instr.storeAt 34 now8_3 t16_1) h_20 fun u_7 h_21 =>
  uop P (Instr.storeAt 22 out9_4 t18_3) h_21 fun u_8 h_22 =>
  J_1 [now8_3, out9_4] h_22)) ∧
  (eop P (Instr.alloc 22 true (.tuple #[])) h_4 fun out9_5 h_23 =>
  (∀ w : World, w.heap = h_23 → (Instr.loadAt 32 g3_1).run P w = .ok t17_1 w) ∧
  (callM P 71 #[t17_1] h_23 fun t18_4 h_24 =>
  eop P (Instr.alloc 34 true (.tuple #[])) h_24 fun now8_4 h_25 =>
  uop P (Instr.storeAt 34 now8_4 t16_1) h_25 fun u_9 h_26 =>
  uop P (Instr.storeAt 22 out9_5 t18_4) h_26 fun u_10 h_27 =>
  J_1 [now8_4, out9_5] h_27) ∧
  (eop P (Instr.alloc 34 true (.tuple #[])) h_23 fun now8_5 h_28 =>
  (∀ w : World, w.heap = h_28 → (Instr.loadAt 32 g3_1).run P w = .ok t17_1 w) ∧
  callM P 71 #[t17_1] h_28 fun t18_5 h_29 =>
  uop P (Instr.storeAt 34 now8_5 t16_1) h_29 fun u_11 h_30 =>
  uop P (Instr.storeAt 22 out9_5 t18_5) h_30 fun u_12 h_31 =>
  J_1 [now8_5, out9_5] h_31))) ∧
  (eop P (Instr.alloc 34 true (.tuple #[])) h_3 fun now8_6 h_32 =>
  (∀ w : World, w.heap = h_32 → (Instr.loadAt 32 g3_1).run P w = .ok t17_1 w) ∧
  (∀ w : World, w.heap = h_32 → (Instr.loadAt 34 w4_1).run P w = .ok t15_1 w) ∧
  (callM P 70 #[t15_1] h_32 fun t16_2 h_33 =>
  (∀ w : World, w.heap = h_33 → (Instr.loadAt 32 g3_1).run P w = .ok t17_1 w) ∧
  (callM P 71 #[t17_1] h_33 fun t18_6 h_34 =>
  eop P (Instr.alloc 22 true (.tuple #[])) h_34 fun out9_6 h_35 =>
  uop P (Instr.storeAt 34 now8_6 t16_2) h_35 fun u_13 h_36 =>
  uop P (Instr.storeAt 22 out9_6 t18_6) h_36 fun u_14 h_37 =>
  J_1 [now8_6, out9_6] h_37) ∧
  (eop P (Instr.alloc 22 true (.tuple #[])) h_33 fun out9_7 h_38 =>
  (∀ w : World, w.heap = h_38 → (Instr.loadAt 32 g3_1).run P w = .ok t17_1 w) ∧
  callM P 71 #[t17_1] h_38 fun t18_7 h_39 =>
  uop P (Instr.storeAt 34 now8_6 t16_2) h_39 fun u_15 h_40 =>
  uop P (Instr.storeAt 22 out9_7 t18_7) h_40 fun u_16 h_41 =>
  J_1 [now8_6, out9_7] h_41)) ∧
  (eop P (Instr.alloc 22 true (.tuple #[])) h_32 fun out9_8 h_42 =>
  (∀ w : World, w.heap = h_42 → (Instr.loadAt 32 g3_1).run P w = .ok t17_1 w) ∧
  (∀ w : World, w.heap = h_42 → (Instr.loadAt 34 w4_1).run P w = .ok t15_1 w) ∧
  callM P 70 #[t15_1] h_42 fun t16_3 h_43 =>
  (∀ w : World, w.heap = h_43 → (Instr.loadAt 32 g3_1).run P w = .ok t17_1 w) ∧
  callM P 71 #[t17_1] h_43 fun t18_8 h_44 =>
  uop P (Instr.storeAt 34 now8_6 t16_3) h_44 fun u_17 h_45 =>
  uop P (Instr.storeAt 22 out9_8 t18_8) h_45 fun u_18 h_46 =>
  J_1 [now8_6, out9_8] h_46)) ∧
  (eop P (Instr.alloc 22 true (.tuple #[])) h_3 fun out9_9 h_47 =>
  (∀ w : World, w.heap = h_47 → (Instr.loadAt 32 g3_1).run P w = .ok t17_1 w) ∧
  (∀ w : World, w.heap = h_47 → (Instr.loadAt 34 w4_1).run P w = .ok t15_1 w) ∧
  (callM P 70 #[t15_1] h_47 fun t16_4 h_48 =>
  (∀ w : World, w.heap = h_48 → (Instr.loadAt 32 g3_1).run P w = .ok t17_1 w) ∧
  (callM P 71 #[t17_1] h_48 fun t18_9 h_49 =>
  eop P (Instr.alloc 34 true (.tuple #[])) h_49 fun now8_7 h_50 =>
  uop P (Instr.storeAt 34 now8_7 t16_4) h_50 fun u_19 h_51 =>
  uop P (Instr.storeAt 22 out9_9 t18_9) h_51 fun u_20 h_52 =>
  J_1 [now8_7, out9_9] h_52) ∧
  (eop P (Instr.alloc 34 true (.tuple #[])) h_48 fun now8_8 h_53 =>
  (∀ w : World, w.heap = h_53 → (Instr.loadAt 32 g3_1).run P w = .ok t17_1 w) ∧
  callM P 71 #[t17_1] h_53 fun t18_10 h_54 =>
  uop P (Instr.storeAt 34 now8_8 t16_4) h_54 fun u_21 h_55 =>
  uop P (Instr.storeAt 22 out9_9 t18_10) h_55 fun u_22 h_56 =>
  J_1 [now8_8, out9_9] h_56)) ∧
  (eop P (Instr.alloc 34 true (.tuple #[])) h_47 fun now8_9 h_57 =>
  (∀ w : World, w.heap = h_57 → (Instr.loadAt 32 g3_1).run P w = .ok t17_1 w) ∧
  (∀ w : World, w.heap = h_57 → (Instr.loadAt 34 w4_1).run P w = .ok t15_1 w) ∧
  callM P 70 #[t15_1] h_57 fun t16_5 h_58 =>
  (∀ w : World, w.heap = h_58 → (Instr.loadAt 32 g3_1).run P w = .ok t17_1 w) ∧
  callM P 71 #[t17_1] h_58 fun t18_11 h_59 =>
  uop P (Instr.storeAt 34 now8_9 t16_5) h_59 fun u_23 h_60 =>
  uop P (Instr.storeAt 22 out9_9 t18_11) h_60 fun u_24 h_61 =>
  J_1 [now8_9, out9_9] h_61))) ∧
  ∀ (junk_1 : Nat → Value) (now8_10 : Value) (out9_10 : Value) (h_62 : Heap), J_1 [now8_10, out9_10] h_62 →
  rop P (Instr.loadAt 32 g3_1) h_62 fun t19_1 =>
  pop P (Instr.makeFunc (Fn.func 73) #[] #[out9_10, now8_10]) fun t21_1 =>
  callM P 72 #[t19_1, now8_10, n2_1, t21_1] h_62 fun t22_1 h_63 =>
  pop P (Op.unary .not t22_1) fun t23_1 =>
  condM t23_1
  (K (.tuple #[(Value.slice none 0 0), (Value.bool false)]) h_63)
  (rop P (Instr.loadAt 22 out9_10) h_63 fun t24_1 =>
  K (.tuple #[t24_1, (Value.bool true)]) h_63))
theorem e20 (g0_1 : Value) (w1_1 : Value) (n2_1 : Value) (h : Heap) (K : Value → Heap → Prop) : wpA Try.prog 25 (anOf [(7, [8, 9])]) (bodyOf Try.f20) 1 (fun A h => resA Try.prog A h K [.tmp 6, .tmp 7]) (fun _ _ _ => False) (fun A h => resA Try.prog A h K [.tmp 6, .tmp 7]) (aargs [g0_1, w1_1, n2_1] 0) h = t20 Try.prog g0_1 w1_1 n2_1 h K := by kernel_rfl
theorem c20 (g0_1 : Value) (w1_1 : Value) (n2_1 : Value) (h : Heap) (K : Value → Heap → Prop) (H : t20 Try.prog g0_1 w1_1 n2_1 h K) : callM Try.prog 20 #[g0_1, w1_1, n2_1] h K :=
  callM_of_wpA mixed (fn := Try.f20) Try.func20 (c := bodyOf Try.f20) rfl (of_decide_eq_true (by kernel_rfl)) (anOf [(7, [8, 9])]) 22 25 (by kernel_rfl) rfl [.tmp 6, .tmp 7] (by kernel_rfl) (args := [g0_1, w1_1, n2_1]) (by rw [e20]; exact H)

/-! laws.eqIntSS -/
def t21 (P : Program) (a0_1 : Value) (b1_1 : Value) (h : Heap) (K : Value → Heap → Prop) : Prop :=
  pop P (lenS 22 3 a0_1) fun t7_1 =>
  pop P (lenS 22 3 b1_1) fun t9_1 =>
  pop P (binE .neq 3 (.tmp 7) (.tmp 9) t7_1 t9_1) fun t10_1 =>
  condM t10_1
  (K (Value.bool false) h)
  (∃ (I_1 : List Value → Heap → Prop) (μ_1 : List Value → Heap → Nat), I_1 [(Value.int IntKind.i64 0)] h ∧
  ∀ (junk_1 : Nat → Value) (i5_1 : Value) (h_1 : Heap), I_1 [i5_1] h_1 →
  pop P (lenS 22 3 a0_1) fun t13_1 =>
  pop P (binA .lss 3 i5_1 t13_1) fun t14_1 =>
  condM t14_1
  (pop P (Instr.indexAt 22 a0_1 i5_1) fun t19_1 =>
  rop P (Instr.loadAt 25 t19_1) h_1 fun t20_1 =>
  pop P (Instr.indexAt 22 b1_1 i5_1) fun t23_1 =>
  rop P (Instr.loadAt 25 t23_1) h_1 fun t24_1 =>
  callM P 45 #[t20_1, t24_1] h_1 fun t25_1 h_2 =>
  pop P (Op.unary .not t25_1) fun t26_1 =>
  condM t26_1
  (K (Value.bool false) h_2)
  (pop P (binA .add 3 i5_1 (Value.int IntKind.i64 1)) fun t16_1 =>
  I_1 [t16_1] h_2 ∧ μ_1 [t16_1] h_2 < μ_1 [i5_1] h_1))
  (K (Value.bool true) h_1))
theorem e21 (a0_1 : Value) (b1_1 : Value) (h : Heap) (K : Value → Heap → Prop) : wpA Try.prog 27 (anOf [(58, [5])]) (bodyOf Try.f21) 1 (fun A h => resA Try.prog A h K [.tmp 4]) (fun _ _ _ => False) (fun A h => resA Try.prog A h K [.tmp 4]) (aargs [a0_1, b1_1] 0) h = t21 Try.prog a0_1 b1_1 h K := by kernel_rfl
theorem c21 (a0_1 : Value) (b1_1 : Value) (h : Heap) (K : Value → Heap → Prop) (H : t21 Try.prog a0_1 b1_1 h K) : callM Try.prog 21 #[a0_1, b1_1] h K :=
  callM_of_wpA mixed (fn := Try.f21) Try.func21 (c := bodyOf Try.f21) rfl (of_decide_eq_true (by kernel_rfl)) (anOf [(58, [5])]) 25 27 (by kernel_rfl) rfl [.tmp 4] (by kernel_rfl) (args := [a0_1, b1_1]) (by rw [e21]; exact H)

/-! laws.eqGraph -/
def t22 (P : Program) (a0_1 : Value) (b1_1 : Value) (h : Heap) (K : Value → Heap → Prop) : Prop :=
  eop P (Instr.box 32 a0_1) h fun a2_1 h_1 =>
  eop P (Instr.box 32 b1_1) h_1 fun b3_1 h_2 =>
  pop P (Instr.fieldAt 32 a2_1 0) fun t5_1 =>
  rop P (Instr.loadAt 22 t5_1) h_2 fun t6_1 =>
  pop P (Instr.fieldAt 32 b3_1 0) fun t7_1 =>
  rop P (Instr.loadAt 22 t7_1) h_2 fun t8_1 =>
  callM P 21 #[t6_1, t8_1] h_2 fun t9_1 h_3 =>
  pop P (Op.unary .not t9_1) fun t10_1 =>
  condM t10_1
  (K (Value.bool false) h_3)
  (K (Value.bool true) h_3)
theorem e22 (a0_1 : Value) (b1_1 : Value) (h : Heap) (K : Value → Heap → Prop) : wpA Try.prog 11 (anOf []) (bodyOf Try.f22) 1 (fun A h => resA Try.prog A h K [.tmp 4]) (fun _ _ _ => False) (fun A h => resA Try.prog A h K [.tmp 4]) (aargs [a0_1, b1_1] 0) h = t22 Try.prog a0_1 b1_1 h K := by kernel_rfl
theorem c22 (a0_1 : Value) (b1_1 : Value) (h : Heap) (K : Value → Heap → Prop) (H : t22 Try.prog a0_1 b1_1 h K) : callM Try.prog 22 #[a0_1, b1_1] h K :=
  callM_of_wpA mixed (fn := Try.f22) Try.func22 (c := bodyOf Try.f22) rfl (of_decide_eq_true (by kernel_rfl)) (anOf []) 9 11 (by kernel_rfl) rfl [.tmp 4] (by kernel_rfl) (args := [a0_1, b1_1]) (by rw [e22]; exact H)

/-! laws.eqWalk -/
def t23 (P : Program) (a0_1 : Value) (b1_1 : Value) (h : Heap) (K : Value → Heap → Prop) : Prop :=
  eop P (Instr.box 34 a0_1) h fun a2_1 h_1 =>
  eop P (Instr.box 34 b1_1) h_1 fun b3_1 h_2 =>
  pop P (Instr.fieldAt 34 a2_1 0) fun t5_1 =>
  rop P (Instr.loadAt 25 t5_1) h_2 fun t6_1 =>
  pop P (Instr.fieldAt 34 b3_1 0) fun t7_1 =>
  rop P (Instr.loadAt 25 t7_1) h_2 fun t8_1 =>
  callM P 45 #[t6_1, t8_1] h_2 fun t9_1 h_3 =>
  pop P (Op.unary .not t9_1) fun t10_1 =>
  condM t10_1
  (K (Value.bool false) h_3)
  (pop P (Instr.fieldAt 34 a2_1 1) fun t11_1 =>
  rop P (Instr.loadAt 3 t11_1) h_3 fun t12_1 =>
  pop P (Instr.fieldAt 34 b3_1 1) fun t13_1 =>
  rop P (Instr.loadAt 3 t13_1) h_3 fun t14_1 =>
  pop P (binE .neq 3 (.tmp 12) (.tmp 14) t12_1 t14_1) fun t15_1 =>
  condM t15_1
  (K (Value.bool false) h_3)
  (K (Value.bool true) h_3))
theorem e23 (a0_1 : Value) (b1_1 : Value) (h : Heap) (K : Value → Heap → Prop) : wpA Try.prog 16 (anOf []) (bodyOf Try.f23) 1 (fun A h => resA Try.prog A h K [.tmp 4]) (fun _ _ _ => False) (fun A h => resA Try.prog A h K [.tmp 4]) (aargs [a0_1, b1_1] 0) h = t23 Try.prog a0_1 b1_1 h K := by kernel_rfl
theorem c23 (a0_1 : Value) (b1_1 : Value) (h : Heap) (K : Value → Heap → Prop) (H : t23 Try.prog a0_1 b1_1 h K) : callM Try.prog 23 #[a0_1, b1_1] h K :=
  callM_of_wpA mixed (fn := Try.f23) Try.func23 (c := bodyOf Try.f23) rfl (of_decide_eq_true (by kernel_rfl)) (anOf []) 14 16 (by kernel_rfl) rfl [.tmp 4] (by kernel_rfl) (args := [a0_1, b1_1]) (by rw [e23]; exact H)

/-! laws.markGraph -/
def t24 (P : Program) (a0_1 : Value) (k1_1 : Value) (h : Heap) (K : Value → Heap → Prop) : Prop :=
  eop P (Instr.box 32 a0_1) h fun a2_1 h_1 =>
  pop P (Instr.fieldAt 32 a2_1 0) fun t5_1 =>
  rop P (Instr.loadAt 22 t5_1) h_1 fun t6_1 =>
  callM P 26 #[t6_1, k1_1] h_1 fun t8_1 h_2 =>
  K t8_1 h_2
theorem e24 (a0_1 : Value) (k1_1 : Value) (h : Heap) (K : Value → Heap → Prop) : wpA Try.prog 10 (anOf []) (bodyOf Try.f24) 1 (fun A h => resA Try.prog A h K [.tmp 4]) (fun _ _ _ => False) (fun A h => resA Try.prog A h K [.tmp 4]) (aargs [a0_1, k1_1] 0) h = t24 Try.prog a0_1 k1_1 h K := by kernel_rfl
theorem c24 (a0_1 : Value) (k1_1 : Value) (h : Heap) (K : Value → Heap → Prop) (H : t24 Try.prog a0_1 k1_1 h K) : callM Try.prog 24 #[a0_1, k1_1] h K :=
  callM_of_wpA mixed (fn := Try.f24) Try.func24 (c := bodyOf Try.f24) rfl (of_decide_eq_true (by kernel_rfl)) (anOf []) 8 10 (by kernel_rfl) rfl [.tmp 4] (by kernel_rfl) (args := [a0_1, k1_1]) (by rw [e24]; exact H)

/-! laws.markWalk -/
def t25 (P : Program) (a0_1 : Value) (k1_1 : Value) (h : Heap) (K : Value → Heap → Prop) : Prop :=
  eop P (Instr.box 34 a0_1) h fun a2_1 h_1 =>
  pop P (Instr.fieldAt 34 a2_1 0) fun t5_1 =>
  rop P (Instr.loadAt 25 t5_1) h_1 fun t6_1 =>
  callM P 49 #[t6_1, k1_1] h_1 fun t8_1 h_2 =>
  K t8_1 h_2
theorem e25 (a0_1 : Value) (k1_1 : Value) (h : Heap) (K : Value → Heap → Prop) : wpA Try.prog 10 (anOf []) (bodyOf Try.f25) 1 (fun A h => resA Try.prog A h K [.tmp 4]) (fun _ _ _ => False) (fun A h => resA Try.prog A h K [.tmp 4]) (aargs [a0_1, k1_1] 0) h = t25 Try.prog a0_1 k1_1 h K := by kernel_rfl
theorem c25 (a0_1 : Value) (k1_1 : Value) (h : Heap) (K : Value → Heap → Prop) (H : t25 Try.prog a0_1 k1_1 h K) : callM Try.prog 25 #[a0_1, k1_1] h K :=
  callM_of_wpA mixed (fn := Try.f25) Try.func25 (c := bodyOf Try.f25) rfl (of_decide_eq_true (by kernel_rfl)) (anOf []) 8 10 (by kernel_rfl) rfl [.tmp 4] (by kernel_rfl) (args := [a0_1, k1_1]) (by rw [e25]; exact H)

/-! laws.markIntSS -/
def t26 (P : Program) (a0_1 : Value) (k1_1 : Value) (h : Heap) (K : Value → Heap → Prop) : Prop :=
  ∃ (I_1 : List Value → Heap → Prop) (μ_1 : List Value → Heap → Nat), I_1 [k1_1, (Value.int IntKind.i64 0)] h ∧
  ∀ (junk_1 : Nat → Value) (k1_2 : Value) (i5_1 : Value) (h_1 : Heap), I_1 [k1_2, i5_1] h_1 →
  pop P (lenS 22 3 a0_1) fun t8_1 =>
  pop P (binA .lss 3 i5_1 t8_1) fun t9_1 =>
  condM t9_1
  (pop P (Instr.indexAt 22 a0_1 i5_1) fun t14_1 =>
  rop P (Instr.loadAt 25 t14_1) h_1 fun t15_1 =>
  callM P 49 #[t15_1, k1_2] h_1 fun t17_1 h_2 =>
  pop P (binA .add 3 i5_1 (Value.int IntKind.i64 1)) fun t11_1 =>
  I_1 [t17_1, t11_1] h_2 ∧ μ_1 [t17_1, t11_1] h_2 < μ_1 [k1_2, i5_1] h_1)
  (K k1_2 h_1)
theorem e26 (a0_1 : Value) (k1_1 : Value) (h : Heap) (K : Value → Heap → Prop) : wpA Try.prog 19 (anOf [(26, [1, 5])]) (bodyOf Try.f26) 1 (fun A h => resA Try.prog A h K [.tmp 4]) (fun _ _ _ => False) (fun A h => resA Try.prog A h K [.tmp 4]) (aargs [a0_1, k1_1] 0) h = t26 Try.prog a0_1 k1_1 h K := by kernel_rfl
theorem c26 (a0_1 : Value) (k1_1 : Value) (h : Heap) (K : Value → Heap → Prop) (H : t26 Try.prog a0_1 k1_1 h K) : callM Try.prog 26 #[a0_1, k1_1] h K :=
  callM_of_wpA mixed (fn := Try.f26) Try.func26 (c := bodyOf Try.f26) rfl (of_decide_eq_true (by kernel_rfl)) (anOf [(26, [1, 5])]) 17 19 (by kernel_rfl) rfl [.tmp 4] (by kernel_rfl) (args := [a0_1, k1_1]) (by rw [e26]; exact H)

/-! laws.heldIntSS -/
def t27 (P : Program) (a0_1 : Value) (k1_1 : Value) (h : Heap) (K : Value → Heap → Prop) : Prop :=
  ∃ (I_1 : List Value → Heap → Prop) (μ_1 : List Value → Heap → Nat), I_1 [k1_1, (Value.int IntKind.i64 0)] h ∧
  ∀ (junk_1 : Nat → Value) (k1_2 : Value) (i5_1 : Value) (h_1 : Heap), I_1 [k1_2, i5_1] h_1 →
  pop P (lenS 22 3 a0_1) fun t8_1 =>
  pop P (binA .lss 3 i5_1 t8_1) fun t9_1 =>
  condM t9_1
  (pop P (Instr.indexAt 22 a0_1 i5_1) fun t14_1 =>
  rop P (Instr.loadAt 25 t14_1) h_1 fun t15_1 =>
  callM P 57 #[t15_1, k1_2] h_1 fun t17_1 h_2 =>
  pop P (binA .lss 3 t17_1 (Value.int IntKind.i64 0)) fun t19_1 =>
  condM t19_1
  (K (Value.int IntKind.i64 (-1)) h_2)
  (pop P (binA .add 3 i5_1 (Value.int IntKind.i64 1)) fun t11_1 =>
  I_1 [t17_1, t11_1] h_2 ∧ μ_1 [t17_1, t11_1] h_2 < μ_1 [k1_2, i5_1] h_1))
  (K k1_2 h_1)
theorem e27 (a0_1 : Value) (k1_1 : Value) (h : Heap) (K : Value → Heap → Prop) : wpA Try.prog 21 (anOf [(26, [1, 5])]) (bodyOf Try.f27) 1 (fun A h => resA Try.prog A h K [.tmp 4]) (fun _ _ _ => False) (fun A h => resA Try.prog A h K [.tmp 4]) (aargs [a0_1, k1_1] 0) h = t27 Try.prog a0_1 k1_1 h K := by kernel_rfl
theorem c27 (a0_1 : Value) (k1_1 : Value) (h : Heap) (K : Value → Heap → Prop) (H : t27 Try.prog a0_1 k1_1 h K) : callM Try.prog 27 #[a0_1, k1_1] h K :=
  callM_of_wpA mixed (fn := Try.f27) Try.func27 (c := bodyOf Try.f27) rfl (of_decide_eq_true (by kernel_rfl)) (anOf [(26, [1, 5])]) 19 21 (by kernel_rfl) rfl [.tmp 4] (by kernel_rfl) (args := [a0_1, k1_1]) (by rw [e27]; exact H)

/-! laws.toIntS -/
def t42 (P : Program) (a0_1 : Value) (h : Heap) (K : Value → Heap → Prop) : Prop :=
  pop P (lenS 25 3 a0_1) fun t6_1 =>
  eop P (Instr.makeSlice 25 t6_1 t6_1) h fun t7_1 h_1 =>
  ∃ (I_1 : List Value → Heap → Prop) (μ_1 : List Value → Heap → Nat), I_1 [(Value.int IntKind.i64 0)] h_1 ∧
  ∀ (junk_1 : Nat → Value) (i4_1 : Value) (h_2 : Heap), I_1 [i4_1] h_2 →
  pop P (lenS 25 3 a0_1) fun t10_1 =>
  pop P (binA .lss 3 i4_1 t10_1) fun t11_1 =>
  condM t11_1
  (pop P (Instr.indexAt 25 a0_1 i4_1) fun t18_1 =>
  rop P (Instr.loadAt 3 t18_1) h_2 fun t19_1 =>
  pop P (Instr.indexAt 25 t7_1 i4_1) fun t20_1 =>
  uop P (Instr.storeAt 3 t20_1 t19_1) h_2 fun u_1 h_3 =>
  pop P (binA .add 3 i4_1 (Value.int IntKind.i64 1)) fun t13_1 =>
  I_1 [t13_1] h_3 ∧ μ_1 [t13_1] h_3 < μ_1 [i4_1] h_2)
  (K t7_1 h_2)
theorem e42 (a0_1 : Value) (h : Heap) (K : Value → Heap → Prop) : wpA Try.prog 22 (anOf [(58, [4])]) (bodyOf Try.f42) 1 (fun A h => resA Try.prog A h K [.tmp 2]) (fun _ _ _ => False) (fun A h => resA Try.prog A h K [.tmp 2]) (aargs [a0_1] 0) h = t42 Try.prog a0_1 h K := by kernel_rfl
theorem c42 (a0_1 : Value) (h : Heap) (K : Value → Heap → Prop) (H : t42 Try.prog a0_1 h K) : callM Try.prog 42 #[a0_1] h K :=
  callM_of_wpA mixed (fn := Try.f42) Try.func42 (c := bodyOf Try.f42) rfl (of_decide_eq_true (by kernel_rfl)) (anOf [(58, [4])]) 21 22 (by kernel_rfl) rfl [.tmp 2] (by kernel_rfl) (args := [a0_1]) (by rw [e42]; exact H)

/-! laws.eqIntS -/
def t45 (P : Program) (a0_1 : Value) (b1_1 : Value) (h : Heap) (K : Value → Heap → Prop) : Prop :=
  pop P (lenS 25 3 a0_1) fun t7_1 =>
  pop P (lenS 25 3 b1_1) fun t9_1 =>
  pop P (binE .neq 3 (.tmp 7) (.tmp 9) t7_1 t9_1) fun t10_1 =>
  condM t10_1
  (K (Value.bool false) h)
  (∃ (I_1 : List Value → Heap → Prop) (μ_1 : List Value → Heap → Nat), I_1 [(Value.int IntKind.i64 0)] h ∧
  ∀ (junk_1 : Nat → Value) (i5_1 : Value) (h_1 : Heap), I_1 [i5_1] h_1 →
  pop P (lenS 25 3 a0_1) fun t13_1 =>
  pop P (binA .lss 3 i5_1 t13_1) fun t14_1 =>
  condM t14_1
  (pop P (Instr.indexAt 25 a0_1 i5_1) fun t19_1 =>
  rop P (Instr.loadAt 3 t19_1) h_1 fun t20_1 =>
  pop P (Instr.indexAt 25 b1_1 i5_1) fun t23_1 =>
  rop P (Instr.loadAt 3 t23_1) h_1 fun t24_1 =>
  pop P (binE .neq 3 (.tmp 20) (.tmp 24) t20_1 t24_1) fun t25_1 =>
  condM t25_1
  (K (Value.bool false) h_1)
  (pop P (binA .add 3 i5_1 (Value.int IntKind.i64 1)) fun t16_1 =>
  I_1 [t16_1] h_1 ∧ μ_1 [t16_1] h_1 < μ_1 [i5_1] h_1))
  (K (Value.bool true) h_1))
theorem e45 (a0_1 : Value) (b1_1 : Value) (h : Heap) (K : Value → Heap → Prop) : wpA Try.prog 26 (anOf [(58, [5])]) (bodyOf Try.f45) 1 (fun A h => resA Try.prog A h K [.tmp 4]) (fun _ _ _ => False) (fun A h => resA Try.prog A h K [.tmp 4]) (aargs [a0_1, b1_1] 0) h = t45 Try.prog a0_1 b1_1 h K := by kernel_rfl
theorem c45 (a0_1 : Value) (b1_1 : Value) (h : Heap) (K : Value → Heap → Prop) (H : t45 Try.prog a0_1 b1_1 h K) : callM Try.prog 45 #[a0_1, b1_1] h K :=
  callM_of_wpA mixed (fn := Try.f45) Try.func45 (c := bodyOf Try.f45) rfl (of_decide_eq_true (by kernel_rfl)) (anOf [(58, [5])]) 24 26 (by kernel_rfl) rfl [.tmp 4] (by kernel_rfl) (args := [a0_1, b1_1]) (by rw [e45]; exact H)

/-! laws.markIntS -/
def t49 (P : Program) (a0_1 : Value) (k1_1 : Value) (h : Heap) (K : Value → Heap → Prop) : Prop :=
  ∃ (I_1 : List Value → Heap → Prop) (μ_1 : List Value → Heap → Nat), I_1 [k1_1, (Value.int IntKind.i64 0)] h ∧
  ∀ (junk_1 : Nat → Value) (k1_2 : Value) (i5_1 : Value) (h_1 : Heap), I_1 [k1_2, i5_1] h_1 →
  pop P (lenS 25 3 a0_1) fun t8_1 =>
  pop P (binA .lss 3 i5_1 t8_1) fun t9_1 =>
  condM t9_1
  (pop P (Instr.indexAt 25 a0_1 i5_1) fun t15_1 =>
  uop P (Instr.storeAt 3 t15_1 k1_2) h_1 fun u_1 h_2 =>
  pop P (binA .add 3 k1_2 (Value.int IntKind.i64 1)) fun t17_1 =>
  pop P (binA .add 3 i5_1 (Value.int IntKind.i64 1)) fun t11_1 =>
  I_1 [t17_1, t11_1] h_2 ∧ μ_1 [t17_1, t11_1] h_2 < μ_1 [k1_2, i5_1] h_1)
  (K k1_2 h_1)
theorem e49 (a0_1 : Value) (k1_1 : Value) (h : Heap) (K : Value → Heap → Prop) : wpA Try.prog 19 (anOf [(26, [1, 5])]) (bodyOf Try.f49) 1 (fun A h => resA Try.prog A h K [.tmp 4]) (fun _ _ _ => False) (fun A h => resA Try.prog A h K [.tmp 4]) (aargs [a0_1, k1_1] 0) h = t49 Try.prog a0_1 k1_1 h K := by kernel_rfl
theorem c49 (a0_1 : Value) (k1_1 : Value) (h : Heap) (K : Value → Heap → Prop) (H : t49 Try.prog a0_1 k1_1 h K) : callM Try.prog 49 #[a0_1, k1_1] h K :=
  callM_of_wpA mixed (fn := Try.f49) Try.func49 (c := bodyOf Try.f49) rfl (of_decide_eq_true (by kernel_rfl)) (anOf [(26, [1, 5])]) 17 19 (by kernel_rfl) rfl [.tmp 4] (by kernel_rfl) (args := [a0_1, k1_1]) (by rw [e49]; exact H)

/-! laws.heldIntS -/
def t57 (P : Program) (a0_1 : Value) (k1_1 : Value) (h : Heap) (K : Value → Heap → Prop) : Prop :=
  ∃ (I_1 : List Value → Heap → Prop) (μ_1 : List Value → Heap → Nat), I_1 [k1_1, (Value.int IntKind.i64 0)] h ∧
  ∀ (junk_1 : Nat → Value) (k1_2 : Value) (i5_1 : Value) (h_1 : Heap), I_1 [k1_2, i5_1] h_1 →
  pop P (lenS 25 3 a0_1) fun t8_1 =>
  pop P (binA .lss 3 i5_1 t8_1) fun t9_1 =>
  condM t9_1
  (pop P (Instr.indexAt 25 a0_1 i5_1) fun t14_1 =>
  rop P (Instr.loadAt 3 t14_1) h_1 fun t15_1 =>
  pop P (binE .neq 3 (.tmp 15) (.tmp 16) t15_1 k1_2) fun t17_1 =>
  condM t17_1
  (K (Value.int IntKind.i64 (-1)) h_1)
  (pop P (binA .add 3 k1_2 (Value.int IntKind.i64 1)) fun t19_1 =>
  pop P (binA .add 3 i5_1 (Value.int IntKind.i64 1)) fun t11_1 =>
  I_1 [t19_1, t11_1] h_1 ∧ μ_1 [t19_1, t11_1] h_1 < μ_1 [k1_2, i5_1] h_1))
  (K k1_2 h_1)
theorem e57 (a0_1 : Value) (k1_1 : Value) (h : Heap) (K : Value → Heap → Prop) : wpA Try.prog 21 (anOf [(26, [1, 5])]) (bodyOf Try.f57) 1 (fun A h => resA Try.prog A h K [.tmp 4]) (fun _ _ _ => False) (fun A h => resA Try.prog A h K [.tmp 4]) (aargs [a0_1, k1_1] 0) h = t57 Try.prog a0_1 k1_1 h K := by kernel_rfl
theorem c57 (a0_1 : Value) (k1_1 : Value) (h : Heap) (K : Value → Heap → Prop) (H : t57 Try.prog a0_1 k1_1 h K) : callM Try.prog 57 #[a0_1, k1_1] h K :=
  callM_of_wpA mixed (fn := Try.f57) Try.func57 (c := bodyOf Try.f57) rfl (of_decide_eq_true (by kernel_rfl)) (anOf [(26, [1, 5])]) 19 21 (by kernel_rfl) rfl [.tmp 4] (by kernel_rfl) (args := [a0_1, k1_1]) (by rw [e57]; exact H)

/-! laws.szIntSS -/
def t64 (P : Program) (a0_1 : Value) (left1_1 : Value) (h : Heap) (K : Value → Heap → Prop) : Prop :=
  pop P (lenS 22 3 a0_1) fun t8_1 =>
  pop P (binA .sub 3 left1_1 t8_1) fun t9_1 =>
  pop P (binA .lss 3 t9_1 (Value.int IntKind.i64 0)) fun t11_1 =>
  condM t11_1
  (K (Value.int IntKind.i64 (-1)) h)
  (∃ (I_1 : List Value → Heap → Prop) (μ_1 : List Value → Heap → Nat), I_1 [t9_1, (Value.int IntKind.i64 0)] h ∧
  ∀ (junk_1 : Nat → Value) (left1_2 : Value) (i5_1 : Value) (h_1 : Heap), I_1 [left1_2, i5_1] h_1 →
  pop P (lenS 22 3 a0_1) fun t14_1 =>
  pop P (binA .lss 3 i5_1 t14_1) fun t15_1 =>
  condM t15_1
  (pop P (Instr.indexAt 22 a0_1 i5_1) fun t20_1 =>
  rop P (Instr.loadAt 25 t20_1) h_1 fun t21_1 =>
  callM P 65 #[t21_1, left1_2] h_1 fun t23_1 h_2 =>
  pop P (binA .lss 3 t23_1 (Value.int IntKind.i64 0)) fun t25_1 =>
  condM t25_1
  (K (Value.int IntKind.i64 (-1)) h_2)
  (pop P (binA .add 3 i5_1 (Value.int IntKind.i64 1)) fun t17_1 =>
  I_1 [t23_1, t17_1] h_2 ∧ μ_1 [t23_1, t17_1] h_2 < μ_1 [left1_2, i5_1] h_1))
  (K left1_2 h_1))
theorem e64 (a0_1 : Value) (left1_1 : Value) (h : Heap) (K : Value → Heap → Prop) : wpA Try.prog 27 (anOf [(122, [1, 5])]) (bodyOf Try.f64) 1 (fun A h => resA Try.prog A h K [.tmp 4]) (fun _ _ _ => False) (fun A h => resA Try.prog A h K [.tmp 4]) (aargs [a0_1, left1_1] 0) h = t64 Try.prog a0_1 left1_1 h K := by kernel_rfl
theorem c64 (a0_1 : Value) (left1_1 : Value) (h : Heap) (K : Value → Heap → Prop) (H : t64 Try.prog a0_1 left1_1 h K) : callM Try.prog 64 #[a0_1, left1_1] h K :=
  callM_of_wpA mixed (fn := Try.f64) Try.func64 (c := bodyOf Try.f64) rfl (of_decide_eq_true (by kernel_rfl)) (anOf [(122, [1, 5])]) 25 27 (by kernel_rfl) rfl [.tmp 4] (by kernel_rfl) (args := [a0_1, left1_1]) (by rw [e64]; exact H)

/-! laws.szIntS -/
def t65 (P : Program) (a0_1 : Value) (left1_1 : Value) (h : Heap) (K : Value → Heap → Prop) : Prop :=
  pop P (lenS 25 3 a0_1) fun t7_1 =>
  pop P (binA .sub 3 left1_1 t7_1) fun t8_1 =>
  pop P (binA .lss 3 t8_1 (Value.int IntKind.i64 0)) fun t10_1 =>
  condM t10_1
  (K (Value.int IntKind.i64 (-1)) h)
  (K t8_1 h)
theorem e65 (a0_1 : Value) (left1_1 : Value) (h : Heap) (K : Value → Heap → Prop) : wpA Try.prog 12 (anOf []) (bodyOf Try.f65) 1 (fun A h => resA Try.prog A h K [.tmp 4]) (fun _ _ _ => False) (fun A h => resA Try.prog A h K [.tmp 4]) (aargs [a0_1, left1_1] 0) h = t65 Try.prog a0_1 left1_1 h K := by kernel_rfl
theorem c65 (a0_1 : Value) (left1_1 : Value) (h : Heap) (K : Value → Heap → Prop) (H : t65 Try.prog a0_1 left1_1 h K) : callM Try.prog 65 #[a0_1, left1_1] h K :=
  callM_of_wpA mixed (fn := Try.f65) Try.func65 (c := bodyOf Try.f65) rfl (of_decide_eq_true (by kernel_rfl)) (anOf []) 10 12 (by kernel_rfl) rfl [.tmp 4] (by kernel_rfl) (args := [a0_1, left1_1]) (by rw [e65]; exact H)

/-! spec.waAsked -/
def t66 (P : Program) (g0_1 : Value) (w1_1 : Value) (n2_1 : Value) (h : Heap) (K : Value → Heap → Prop) : Prop :=
  eop P (Instr.box 32 g0_1) h fun g3_1 h_1 =>
  eop P (Instr.box 34 w1_1) h_1 fun w4_1 h_2 =>
  rop P (Instr.loadAt 32 g3_1) h_2 fun t7_1 =>
  rop P (Instr.loadAt 34 w4_1) h_2 fun t8_1 =>
  callM P 74 #[t7_1, t8_1] h_2 fun t9_1 h_3 =>
  guardM t9_1 true (fun k_1 => k_1 n2_1 h_3) h_3 fun t11_1 h_4 =>
  guardM t9_1 true (fun k_2 => callM P 109 #[t11_1, (Value.int IntKind.i64 0), (Value.int IntKind.i64 2000)] h_4 fun t12_1 h_5 =>
  k_2 t12_1 h_5) h_4 fun t12_2 h_6 =>
  pop P (pickS t9_1 t12_2 (Value.bool false)) fun t13_1 =>
  K t13_1 h_6
theorem e66 (g0_1 : Value) (w1_1 : Value) (n2_1 : Value) (h : Heap) (K : Value → Heap → Prop) : wpA Try.prog 14 (anOf []) (bodyOf Try.f66) 1 (fun A h => resA Try.prog A h K [.tmp 6]) (fun _ _ _ => False) (fun A h => resA Try.prog A h K [.tmp 6]) (aargs [g0_1, w1_1, n2_1] 0) h = t66 Try.prog g0_1 w1_1 n2_1 h K := by kernel_rfl
theorem c66 (g0_1 : Value) (w1_1 : Value) (n2_1 : Value) (h : Heap) (K : Value → Heap → Prop) (H : t66 Try.prog g0_1 w1_1 n2_1 h K) : callM Try.prog 66 #[g0_1, w1_1, n2_1] h K :=
  callM_of_wpA mixed (fn := Try.f66) Try.func66 (c := bodyOf Try.f66) rfl (of_decide_eq_true (by kernel_rfl)) (anOf []) 11 14 (by kernel_rfl) rfl [.tmp 6] (by kernel_rfl) (args := [g0_1, w1_1, n2_1]) (by rw [e66]; exact H)

/-! spec.waGo -/
def t67 (P : Program) (g0_1 : Value) (w1_1 : Value) (n2_1 : Value) (h : Heap) (K : Value → Heap → Prop) : Prop :=
  eop P (Instr.box 32 g0_1) h fun g3_1 h_1 =>
  eop P (Instr.box 34 w1_1) h_1 fun w4_1 h_2 =>
  eop P (Instr.alloc 81 true (.tuple #[])) h_2 fun t6_1 h_3 =>
  ∃ J_1 : List Value → Heap → Prop, (rop P (Instr.loadAt 34 w4_1) h_3 fun t14_1 =>
  pop P (Instr.fieldAt 34 w4_1 1) fun t15_1 =>
  rop P (Instr.loadAt 3 t15_1) h_3 fun t16_1 =>
  pop P (Instr.fieldAt 32 g3_1 0) fun t18_1 =>
  rop P (Instr.loadAt 22 t18_1) h_3 fun t19_1 =>
  pop P (lenS 22 3 t19_1) fun t20_1 =>
  (eop P (Instr.buildSlice 25 1 #[(0, t16_1)]) h_3 fun t17_1 h_4 =>
  (∀ w : World, w.heap = h_4 → (Instr.loadAt 22 t18_1).run P w = .ok t19_1 w) ∧
  (∀ w : World, w.heap = h_4 → (Instr.loadAt 34 w4_1).run P w = .ok t14_1 w) ∧
  (eop P (Instr.makeSlice 25 t20_1 t20_1) h_4 fun t21_1 h_5 =>
  (∀ w : World, w.heap = h_5 → (Instr.loadAt 22 t18_1).run P w = .ok t19_1 w) ∧
  (∀ w : World, w.heap = h_5 → (Instr.loadAt 34 w4_1).run P w = .ok t14_1 w) ∧
  pop P (Instr.build 81 #[(0, t14_1), (1, t17_1), (2, t21_1)]) fun t22_1 =>
  eop P (Instr.alloc 81 true (.tuple #[])) h_5 fun r8_1 h_6 =>
  (∀ w : World, w.heap = h_6 → (Instr.loadAt 22 t18_1).run P w = .ok t19_1 w) ∧
  (∀ w : World, w.heap = h_6 → (Instr.loadAt 34 w4_1).run P w = .ok t14_1 w) ∧
  uop P (Instr.storeAt 81 r8_1 t22_1) h_6 fun u_1 h_7 =>
  J_1 [r8_1] h_7) ∧
  (eop P (Instr.alloc 81 true (.tuple #[])) h_4 fun r8_2 h_8 =>
  (∀ w : World, w.heap = h_8 → (Instr.loadAt 22 t18_1).run P w = .ok t19_1 w) ∧
  (∀ w : World, w.heap = h_8 → (Instr.loadAt 34 w4_1).run P w = .ok t14_1 w) ∧
  eop P (Instr.makeSlice 25 t20_1 t20_1) h_8 fun t21_2 h_9 =>
  (∀ w : World, w.heap = h_9 → (Instr.loadAt 22 t18_1).run P w = .ok t19_1 w) ∧
  (∀ w : World, w.heap = h_9 → (Instr.loadAt 34 w4_1).run P w = .ok t14_1 w) ∧
  pop P (Instr.build 81 #[(0, t14_1), (1, t17_1), (2, t21_2)]) fun t22_2 =>
  uop P (Instr.storeAt 81 r8_2 t22_2) h_9 fun u_2 h_10 =>
  J_1 [r8_2] h_10)) ∧
  (eop P (Instr.makeSlice 25 t20_1 t20_1) h_3 fun t21_3 h_11 =>
  (∀ w : World, w.heap = h_11 → (Instr.loadAt 22 t18_1).run P w = .ok t19_1 w) ∧
  (∀ w : World, w.heap = h_11 → (Instr.loadAt 3 t15_1).run P w = .ok t16_1 w) ∧
  (∀ w : World, w.heap = h_11 → (Instr.loadAt 34 w4_1).run P w = .ok t14_1 w) ∧
  (eop P (Instr.buildSlice 25 1 #[(0, t16_1)]) h_11 fun t17_2 h_12 =>
  (∀ w : World, w.heap = h_12 → (Instr.loadAt 22 t18_1).run P w = .ok t19_1 w) ∧
  (∀ w : World, w.heap = h_12 → (Instr.loadAt 34 w4_1).run P w = .ok t14_1 w) ∧
  pop P (Instr.build 81 #[(0, t14_1), (1, t17_2), (2, t21_3)]) fun t22_3 =>
  eop P (Instr.alloc 81 true (.tuple #[])) h_12 fun r8_3 h_13 =>
  (∀ w : World, w.heap = h_13 → (Instr.loadAt 22 t18_1).run P w = .ok t19_1 w) ∧
  (∀ w : World, w.heap = h_13 → (Instr.loadAt 34 w4_1).run P w = .ok t14_1 w) ∧
  uop P (Instr.storeAt 81 r8_3 t22_3) h_13 fun u_3 h_14 =>
  J_1 [r8_3] h_14) ∧
  (eop P (Instr.alloc 81 true (.tuple #[])) h_11 fun r8_4 h_15 =>
  (∀ w : World, w.heap = h_15 → (Instr.loadAt 22 t18_1).run P w = .ok t19_1 w) ∧
  (∀ w : World, w.heap = h_15 → (Instr.loadAt 3 t15_1).run P w = .ok t16_1 w) ∧
  (∀ w : World, w.heap = h_15 → (Instr.loadAt 34 w4_1).run P w = .ok t14_1 w) ∧
  eop P (Instr.buildSlice 25 1 #[(0, t16_1)]) h_15 fun t17_3 h_16 =>
  (∀ w : World, w.heap = h_16 → (Instr.loadAt 22 t18_1).run P w = .ok t19_1 w) ∧
  (∀ w : World, w.heap = h_16 → (Instr.loadAt 34 w4_1).run P w = .ok t14_1 w) ∧
  pop P (Instr.build 81 #[(0, t14_1), (1, t17_3), (2, t21_3)]) fun t22_4 =>
  uop P (Instr.storeAt 81 r8_4 t22_4) h_16 fun u_4 h_17 =>
  J_1 [r8_4] h_17)) ∧
  (eop P (Instr.alloc 81 true (.tuple #[])) h_3 fun r8_5 h_18 =>
  (∀ w : World, w.heap = h_18 → (Instr.loadAt 22 t18_1).run P w = .ok t19_1 w) ∧
  (∀ w : World, w.heap = h_18 → (Instr.loadAt 3 t15_1).run P w = .ok t16_1 w) ∧
  (∀ w : World, w.heap = h_18 → (Instr.loadAt 34 w4_1).run P w = .ok t14_1 w) ∧
  (eop P (Instr.buildSlice 25 1 #[(0, t16_1)]) h_18 fun t17_4 h_19 =>
  (∀ w : World, w.heap = h_19 → (Instr.loadAt 22 t18_1).run P w = .ok t19_1 w) ∧
  (∀ w : World, w.heap = h_19 → (Instr.loadAt 34 w4_1).run P w = .ok t14_1 w) ∧
  eop P (Instr.makeSlice 25 t20_1 t20_1) h_19 fun t21_4 h_20 =>
  (∀ w : World, w.heap = h_20 → (Instr.loadAt 22 t18_1).run P w = .ok t19_1 w) ∧
  (∀ w : World, w.heap = h_20 → (Instr.loadAt 34 w4_1).run P w = .ok t14_1 w) ∧
  pop P (Instr.build 81 #[(0, t14_1), (1, t17_4), (2, t21_4)]) fun t22_5 =>
  uop P (Instr.storeAt 81 r8_5 t22_5) h_20 fun u_5 h_21 =>
  J_1 [r8_5] h_21) ∧
  (eop P (Instr.makeSlice 25 t20_1 t20_1) h_18 fun t21_5 h_22 =>
  (∀ w : World, w.heap = h_22 → (Instr.loadAt 22 t18_1).run P w = .ok t19_1 w) ∧
  (∀ w : World, w.heap = h_22 → (Instr.loadAt 3 t15_1).run P w = .ok t16_1 w) ∧
  (∀ w : World, w.heap = h_22 → (Instr.loadAt 34 w4_1).run P w = .ok t14_1 w) ∧
  eop P (Instr.buildSlice 25 1 #[(0, t16_1)]) h_22 fun t17_5 h_23 =>
  (∀ w : World, w.heap = h_23 → (Instr.loadAt 22 t18_1).run P w = .ok t19_1 w) ∧
  (∀ w : World, w.heap = h_23 → (Instr.loadAt 34 w4_1).run P w = .ok t14_1 w) ∧
  pop P (Instr.build 81 #[(0, t14_1), (1, t17_5), (2, t21_5)]) fun t22_6 =>
  uop P (Instr.storeAt 81 r8_5 t22_6) h_23 fun u_6 h_24 =>
  J_1 [r8_5] h_24))) ∧
  ∀ (junk_1 : Nat → Value) (r8_6 : Value) (h_25 : Heap), J_1 [r8_6] h_25 →
  pop P (Instr.fieldAt 32 g3_1 0) fun t23_1 =>
  rop P (Instr.loadAt 22 t23_1) h_25 fun t24_1 =>
  pop P (lenS 22 3 t24_1) fun t25_1 =>
  ∃ (I_1 : List Value → Heap → Prop) (μ_1 : List Value → Heap → Nat), I_1 [(Value.int IntKind.i64 0)] h_25 ∧
  ∀ (junk_2 : Nat → Value) (t26_1 : Value) (h_26 : Heap), I_1 [t26_1] h_26 →
  pop P (binA .lss 3 t26_1 t25_1) fun t27_1 =>
  condM t27_1
  (pop P (Instr.indexAt 22 t24_1 t26_1) fun t28_1 =>
  rop P (Instr.loadAt 25 t28_1) h_26 fun t29_1 =>
  pop P (Instr.fieldAt 81 r8_6 3) fun t30_1 =>
  rop P (Instr.loadAt 22 t30_1) h_26 fun t31_1 =>
  pop P (lenS 25 3 t29_1) fun t33_1 =>
  eop P (Instr.makeSlice 25 t33_1 t33_1) h_26 fun t34_1 h_27 =>
  (∀ w : World, w.heap = h_27 → (Instr.loadAt 22 t30_1).run P w = .ok t31_1 w) ∧
  eop P (Instr.buildSlice 22 1 #[(0, t34_1)]) h_27 fun t35_1 h_28 =>
  (∀ w : World, w.heap = h_28 → (Instr.loadAt 22 t30_1).run P w = .ok t31_1 w) ∧
  eop P (appS 22 22 22 t31_1 t35_1) h_28 fun t36_1 h_29 =>
  pop P (Instr.fieldAt 81 r8_6 3) fun t37_1 =>
  uop P (Instr.storeAt 22 t37_1 t36_1) h_29 fun u_7 h_30 =>
  pop P (binA .add 3 t26_1 (Value.int IntKind.i64 1)) fun t38_1 =>
  I_1 [t38_1] h_30 ∧ μ_1 [t38_1] h_30 < μ_1 [t26_1] h_26)
  (∃ (I_2 : List Value → Heap → Prop) (μ_2 : List Value → Heap → Nat), I_2 [n2_1] h_26 ∧
  ∀ (junk_3 : Nat → Value) (n2_2 : Value) (h_31 : Heap), I_2 [n2_2] h_31 →
  pop P (binA .gtr 3 n2_2 (Value.int IntKind.i64 0)) fun t40_1 =>
  condM t40_1
  (rop P (Instr.loadAt 32 g3_1) h_31 fun t44_1 =>
  pop P (Instr.fieldAt 81 r8_6 0) fun t45_1 =>
  rop P (Instr.loadAt 34 t45_1) h_31 fun t46_1 =>
  callM P 76 #[t44_1, t46_1] h_31 fun t47_1 h_32 =>
  pop P (Instr.extract t47_1 0) fun t48_1 =>
  pop P (Instr.extract t47_1 1) fun t49_1 =>
  eop P (Instr.alloc 34 true (.tuple #[])) h_32 fun next11_1 h_33 =>
  uop P (Instr.storeAt 34 next11_1 t48_1) h_33 fun u_8 h_34 =>
  pop P (Op.unary .not t49_1) fun t51_1 =>
  condM t51_1
  (pop P (Instr.build 81 #[]) fun t52_1 =>
  uop P (Instr.storeAt 81 t6_1 t52_1) h_34 fun u_9 h_35 =>
  rop P (Instr.loadAt 81 t6_1) h_35 fun r_1 =>
  K (.tuple #[r_1, (Value.bool false)]) h_35)
  (pop P (Instr.fieldAt 81 r8_6 3) fun t53_1 =>
  rop P (Instr.loadAt 22 t53_1) h_34 fun t54_1 =>
  pop P (Instr.fieldAt 81 r8_6 0) fun t55_1 =>
  pop P (Instr.fieldAt 34 t55_1 1) fun t56_1 =>
  rop P (Instr.loadAt 3 t56_1) h_34 fun t57_1 =>
  pop P (Instr.indexAt 22 t54_1 t57_1) fun t58_1 =>
  rop P (Instr.loadAt 25 t58_1) h_34 fun t59_1 =>
  pop P (Instr.fieldAt 34 next11_1 0) fun t61_1 =>
  rop P (Instr.loadAt 25 t61_1) h_34 fun t62_1 =>
  pop P (Instr.fieldAt 81 r8_6 0) fun t63_1 =>
  pop P (Instr.fieldAt 34 t63_1 1) fun t64_1 =>
  rop P (Instr.loadAt 3 t64_1) h_34 fun t65_1 =>
  pop P (Instr.indexAt 25 t62_1 t65_1) fun t66_1 =>
  rop P (Instr.loadAt 3 t66_1) h_34 fun t67_1 =>
  pop P (Instr.indexAt 25 t59_1 t67_1) fun t68_1 =>
  rop P (Instr.loadAt 3 t68_1) h_34 fun t69_1 =>
  pop P (binA .add 3 t69_1 (Value.int IntKind.i64 1)) fun t70_1 =>
  pop P (Instr.indexAt 25 t59_1 t67_1) fun t71_1 =>
  uop P (Instr.storeAt 3 t71_1 t70_1) h_34 fun u_10 h_36 =>
  pop P (Instr.fieldAt 81 r8_6 2) fun t72_1 =>
  rop P (Instr.loadAt 25 t72_1) h_36 fun t73_1 =>
  pop P (Instr.fieldAt 34 next11_1 1) fun t74_1 =>
  rop P (Instr.loadAt 3 t74_1) h_36 fun t75_1 =>
  pop P (Instr.indexAt 25 t73_1 t75_1) fun t76_1 =>
  rop P (Instr.loadAt 3 t76_1) h_36 fun t77_1 =>
  pop P (binA .add 3 t77_1 (Value.int IntKind.i64 1)) fun t78_1 =>
  pop P (Instr.indexAt 25 t73_1 t75_1) fun t79_1 =>
  uop P (Instr.storeAt 3 t79_1 t78_1) h_36 fun u_11 h_37 =>
  pop P (Instr.fieldAt 81 r8_6 1) fun t80_1 =>
  rop P (Instr.loadAt 25 t80_1) h_37 fun t81_1 =>
  pop P (Instr.fieldAt 34 next11_1 1) fun t82_1 =>
  rop P (Instr.loadAt 3 t82_1) h_37 fun t83_1 =>
  eop P (Instr.buildSlice 25 1 #[(0, t83_1)]) h_37 fun t84_1 h_38 =>
  eop P (appS 25 25 25 t81_1 t84_1) h_38 fun t85_1 h_39 =>
  pop P (Instr.fieldAt 81 r8_6 1) fun t86_1 =>
  uop P (Instr.storeAt 25 t86_1 t85_1) h_39 fun u_12 h_40 =>
  rop P (Instr.loadAt 34 next11_1) h_40 fun t87_1 =>
  pop P (Instr.fieldAt 81 r8_6 0) fun t88_1 =>
  uop P (Instr.storeAt 34 t88_1 t87_1) h_40 fun u_13 h_41 =>
  pop P (binA .sub 3 n2_2 (Value.int IntKind.i64 1)) fun t42_1 =>
  I_2 [t42_1] h_41 ∧ μ_2 [t42_1] h_41 < μ_2 [n2_2] h_31))
  (rop P (Instr.loadAt 81 r8_6) h_31 fun t89_1 =>
  uop P (Instr.storeAt 81 t6_1 t89_1) h_31 fun u_14 h_42 =>
  rop P (Instr.loadAt 81 t6_1) h_42 fun r_2 =>
  K (.tuple #[r_2, (Value.bool true)]) h_42))
theorem e67 (g0_1 : Value) (w1_1 : Value) (n2_1 : Value) (h : Heap) (K : Value → Heap → Prop) : wpA Try.prog 90 (anOf [(3, [8]), (58, [26]), (60, [2])]) (bodyOf Try.f67) 1 (fun A h => resA Try.prog A h K [.cell 6 81, .tmp 7]) (fun _ _ _ => False) (fun A h => resA Try.prog A h K [.cell 6 81, .tmp 7]) (aargs [g0_1, w1_1, n2_1] 0) h = t67 Try.prog g0_1 w1_1 n2_1 h K := by kernel_rfl
theorem c67 (g0_1 : Value) (w1_1 : Value) (n2_1 : Value) (h : Heap) (K : Value → Heap → Prop) (H : t67 Try.prog g0_1 w1_1 n2_1 h K) : callM Try.prog 67 #[g0_1, w1_1, n2_1] h K :=
  callM_of_wpA mixed (fn := Try.f67) Try.func67 (c := bodyOf Try.f67) rfl (of_decide_eq_true (by kernel_rfl)) (anOf [(3, [8]), (58, [26]), (60, [2])]) 87 90 (by kernel_rfl) rfl [.cell 6 81, .tmp 7] (by kernel_rfl) (args := [g0_1, w1_1, n2_1]) (by rw [e67]; exact H)

/-! laws.toIntSS -/
def t68 (P : Program) (a0_1 : Value) (h : Heap) (K : Value → Heap → Prop) : Prop :=
  pop P (lenS 22 3 a0_1) fun t6_1 =>
  eop P (Instr.makeSlice 22 t6_1 t6_1) h fun t7_1 h_1 =>
  ∃ (I_1 : List Value → Heap → Prop) (μ_1 : List Value → Heap → Nat), I_1 [(Value.int IntKind.i64 0)] h_1 ∧
  ∀ (junk_1 : Nat → Value) (i4_1 : Value) (h_2 : Heap), I_1 [i4_1] h_2 →
  pop P (lenS 22 3 a0_1) fun t10_1 =>
  pop P (binA .lss 3 i4_1 t10_1) fun t11_1 =>
  condM t11_1
  (pop P (Instr.indexAt 22 a0_1 i4_1) fun t18_1 =>
  rop P (Instr.loadAt 25 t18_1) h_2 fun t19_1 =>
  callM P 42 #[t19_1] h_2 fun t20_1 h_3 =>
  pop P (Instr.indexAt 22 t7_1 i4_1) fun t21_1 =>
  uop P (Instr.storeAt 25 t21_1 t20_1) h_3 fun u_1 h_4 =>
  pop P (binA .add 3 i4_1 (Value.int IntKind.i64 1)) fun t13_1 =>
  I_1 [t13_1] h_4 ∧ μ_1 [t13_1] h_4 < μ_1 [i4_1] h_2)
  (K t7_1 h_2)
theorem e68 (a0_1 : Value) (h : Heap) (K : Value → Heap → Prop) : wpA Try.prog 23 (anOf [(58, [4])]) (bodyOf Try.f68) 1 (fun A h => resA Try.prog A h K [.tmp 2]) (fun _ _ _ => False) (fun A h => resA Try.prog A h K [.tmp 2]) (aargs [a0_1] 0) h = t68 Try.prog a0_1 h K := by kernel_rfl
theorem c68 (a0_1 : Value) (h : Heap) (K : Value → Heap → Prop) (H : t68 Try.prog a0_1 h K) : callM Try.prog 68 #[a0_1] h K :=
  callM_of_wpA mixed (fn := Try.f68) Try.func68 (c := bodyOf Try.f68) rfl (of_decide_eq_true (by kernel_rfl)) (anOf [(58, [4])]) 22 23 (by kernel_rfl) rfl [.tmp 2] (by kernel_rfl) (args := [a0_1]) (by rw [e68]; exact H)

/-! impl.isRun -/
def t69 (P : Program) (g0_1 : Value) (w1_1 : Value) (n2_1 : Value) (most3_1 : Value) (h : Heap) (K : Value → Heap → Prop) : Prop :=
  eop P (Instr.box 32 g0_1) h fun g4_1 h_1 =>
  eop P (Instr.box 34 w1_1) h_1 fun w5_1 h_2 =>
  rop P (Instr.loadAt 32 g4_1) h_2 fun t9_1 =>
  rop P (Instr.loadAt 34 w5_1) h_2 fun t10_1 =>
  callM P 77 #[t9_1, t10_1] h_2 fun t11_1 h_3 =>
  guardM t11_1 true (fun k_1 => k_1 n2_1 h_3) h_3 fun t13_1 h_4 =>
  guardM t11_1 true (fun k_2 => k_2 most3_1 h_4) h_4 fun t14_1 h_5 =>
  guardM t11_1 true (fun k_3 => callM P 110 #[t13_1, (Value.int IntKind.i64 0), t14_1] h_5 fun t15_1 h_6 =>
  k_3 t15_1 h_6) h_5 fun t15_2 h_7 =>
  pop P (pickS t11_1 t15_2 (Value.bool false)) fun t16_1 =>
  K t16_1 h_7
theorem e69 (g0_1 : Value) (w1_1 : Value) (n2_1 : Value) (most3_1 : Value) (h : Heap) (K : Value → Heap → Prop) : wpA Try.prog 17 (anOf []) (bodyOf Try.f69) 1 (fun A h => resA Try.prog A h K [.tmp 8]) (fun _ _ _ => False) (fun A h => resA Try.prog A h K [.tmp 8]) (aargs [g0_1, w1_1, n2_1, most3_1] 0) h = t69 Try.prog g0_1 w1_1 n2_1 most3_1 h K := by kernel_rfl
theorem c69 (g0_1 : Value) (w1_1 : Value) (n2_1 : Value) (most3_1 : Value) (h : Heap) (K : Value → Heap → Prop) (H : t69 Try.prog g0_1 w1_1 n2_1 most3_1 h K) : callM Try.prog 69 #[g0_1, w1_1, n2_1, most3_1] h K :=
  callM_of_wpA mixed (fn := Try.f69) Try.func69 (c := bodyOf Try.f69) rfl (of_decide_eq_true (by kernel_rfl)) (anOf []) 13 17 (by kernel_rfl) rfl [.tmp 8] (by kernel_rfl) (args := [g0_1, w1_1, n2_1, most3_1]) (by rw [e69]; exact H)

/-! (impl.Walk).copied -/
def t70 (P : Program) (w0_1 : Value) (h : Heap) (K : Value → Heap → Prop) : Prop :=
  eop P (Instr.box 34 w0_1) h fun w1_1 h_1 =>
  eop P (Instr.alloc 34 true (.tuple #[])) h_1 fun t2_1 h_2 =>
  pop P (Instr.fieldAt 34 w1_1 0) fun t3_1 =>
  rop P (Instr.loadAt 25 t3_1) h_2 fun t4_1 =>
  pop P (Instr.fieldAt 34 w1_1 1) fun t6_1 =>
  rop P (Instr.loadAt 3 t6_1) h_2 fun t7_1 =>
  callM P 111 #[t4_1] h_2 fun t5_1 h_3 =>
  (∀ w : World, w.heap = h_3 → (Instr.loadAt 3 t6_1).run P w = .ok t7_1 w) ∧
  pop P (Instr.build 34 #[(0, t5_1), (1, t7_1)]) fun t8_1 =>
  uop P (Instr.storeAt 34 t2_1 t8_1) h_3 fun u_1 h_4 =>
  rop P (Instr.loadAt 34 t2_1) h_4 fun r_1 =>
  K r_1 h_4
theorem e70 (w0_1 : Value) (h : Heap) (K : Value → Heap → Prop) : wpA Try.prog 9 (anOf []) (bodyOf Try.f70) 1 (fun A h => resA Try.prog A h K [.cell 2 34]) (fun _ _ _ => False) (fun A h => resA Try.prog A h K [.cell 2 34]) (aargs [w0_1] 0) h = t70 Try.prog w0_1 h K := by kernel_rfl
theorem c70 (w0_1 : Value) (h : Heap) (K : Value → Heap → Prop) (H : t70 Try.prog w0_1 h K) : callM Try.prog 70 #[w0_1] h K :=
  callM_of_wpA mixed (fn := Try.f70) Try.func70 (c := bodyOf Try.f70) rfl (of_decide_eq_true (by kernel_rfl)) (anOf []) 8 9 (by kernel_rfl) rfl [.cell 2 34] (by kernel_rfl) (args := [w0_1]) (by rw [e70]; exact H)

/-! (impl.Graph).zeros -/
def t71 (P : Program) (g0_1 : Value) (h : Heap) (K : Value → Heap → Prop) : Prop :=
  eop P (Instr.box 32 g0_1) h fun g1_1 h_1 =>
  eop P (Instr.buildSlice 22 0 #[]) h_1 fun t6_1 h_2 =>
  pop P (Instr.fieldAt 32 g1_1 0) fun t7_1 =>
  rop P (Instr.loadAt 22 t7_1) h_2 fun t8_1 =>
  pop P (lenS 22 3 t8_1) fun t9_1 =>
  ∃ (I_1 : List Value → Heap → Prop) (μ_1 : List Value → Heap → Nat), I_1 [t6_1, (Value.int IntKind.i64 0)] h_2 ∧
  ∀ (junk_1 : Nat → Value) (out3_1 : Value) (t10_1 : Value) (h_3 : Heap), I_1 [out3_1, t10_1] h_3 →
  pop P (binA .lss 3 t10_1 t9_1) fun t11_1 =>
  condM t11_1
  (pop P (Instr.indexAt 22 t8_1 t10_1) fun t12_1 =>
  rop P (Instr.loadAt 25 t12_1) h_3 fun t13_1 =>
  pop P (lenS 25 3 t13_1) fun t16_1 =>
  eop P (Instr.makeSlice 25 t16_1 t16_1) h_3 fun t17_1 h_4 =>
  eop P (Instr.buildSlice 22 1 #[(0, t17_1)]) h_4 fun t18_1 h_5 =>
  eop P (appS 22 22 22 out3_1 t18_1) h_5 fun t19_1 h_6 =>
  pop P (binA .add 3 t10_1 (Value.int IntKind.i64 1)) fun t20_1 =>
  I_1 [t19_1, t20_1] h_6 ∧ μ_1 [t19_1, t20_1] h_6 < μ_1 [out3_1, t10_1] h_3)
  (K out3_1 h_3)
theorem e71 (g0_1 : Value) (h : Heap) (K : Value → Heap → Prop) : wpA Try.prog 22 (anOf [(58, [3, 10])]) (bodyOf Try.f71) 1 (fun A h => resA Try.prog A h K [.tmp 2]) (fun _ _ _ => False) (fun A h => resA Try.prog A h K [.tmp 2]) (aargs [g0_1] 0) h = t71 Try.prog g0_1 h K := by kernel_rfl
theorem c71 (g0_1 : Value) (h : Heap) (K : Value → Heap → Prop) (H : t71 Try.prog g0_1 h K) : callM Try.prog 71 #[g0_1] h K :=
  callM_of_wpA mixed (fn := Try.f71) Try.func71 (c := bodyOf Try.f71) rfl (of_decide_eq_true (by kernel_rfl)) (anOf [(58, [3, 10])]) 21 22 (by kernel_rfl) rfl [.tmp 2] (by kernel_rfl) (args := [g0_1]) (by rw [e71]; exact H)

/-! (impl.Graph).run -/
def t72 (P : Program) (g0_1 : Value) (w1_1 : Value) (n2_1 : Value) (with3_1 : Value) (h : Heap) (K : Value → Heap → Prop) : Prop :=
  eop P (Instr.box 32 g0_1) h fun g4_1 h_1 =>
  ∃ (I_1 : List Value → Heap → Prop) (μ_1 : List Value → Heap → Nat), I_1 [(Value.int IntKind.i64 0)] h_1 ∧
  ∀ (junk_1 : Nat → Value) (t11_1 : Value) (h_2 : Heap), I_1 [t11_1] h_2 →
  pop P (binA .lss 3 t11_1 n2_1) fun t12_1 =>
  condM t12_1
  (pop P (nilS w1_1) fun t14_1 =>
  pop P (Instr.fieldAt 34 t14_1 1) fun t15_1 =>
  rop P (Instr.loadAt 3 t15_1) h_2 fun t16_1 =>
  rop P (Instr.loadAt 32 g4_1) h_2 fun t17_1 =>
  callM P 112 #[t17_1, w1_1] h_2 fun t19_1 h_3 =>
  pop P (Op.unary .not t19_1) fun t20_1 =>
  condM t20_1
  (K (Value.bool false) h_3)
  (callV P with3_1 [t16_1] h_3 fun t23_1 h_4 =>
  pop P (binA .add 3 t11_1 (Value.int IntKind.i64 1)) fun t24_1 =>
  I_1 [t24_1] h_4 ∧ μ_1 [t24_1] h_4 < μ_1 [t11_1] h_2))
  (K (Value.bool true) h_2)
theorem e72 (g0_1 : Value) (w1_1 : Value) (n2_1 : Value) (with3_1 : Value) (h : Heap) (K : Value → Heap → Prop) : wpA Try.prog 25 (anOf [(26, [11])]) (bodyOf Try.f72) 1 (fun A h => resA Try.prog A h K [.tmp 8]) (fun _ _ _ => False) (fun A h => resA Try.prog A h K [.tmp 8]) (aargs [g0_1, w1_1, n2_1, with3_1] 0) h = t72 Try.prog g0_1 w1_1 n2_1 with3_1 h K := by kernel_rfl
theorem c72 (g0_1 : Value) (w1_1 : Value) (n2_1 : Value) (with3_1 : Value) (h : Heap) (K : Value → Heap → Prop) (H : t72 Try.prog g0_1 w1_1 n2_1 with3_1 h K) : callM Try.prog 72 #[g0_1, w1_1, n2_1, with3_1] h K :=
  callM_of_wpA mixed (fn := Try.f72) Try.func72 (c := bodyOf Try.f72) rfl (of_decide_eq_true (by kernel_rfl)) (anOf [(26, [11])]) 21 25 (by kernel_rfl) rfl [.tmp 8] (by kernel_rfl) (args := [g0_1, w1_1, n2_1, with3_1]) (by rw [e72]; exact H)

/-! impl.UsesOf$1 -/
def t73 (P : Program) (from0_1 : Value) (t1_1 : Value) (t2_1 : Value) (h : Heap) (K : Value → Heap → Prop) : Prop :=
  rop P (Instr.loadAt 22 t1_1) h fun t4_1 =>
  pop P (Instr.indexAt 22 t4_1 from0_1) fun t6_1 =>
  rop P (Instr.loadAt 25 t6_1) h fun t7_1 =>
  pop P (Instr.fieldAt 34 t2_1 0) fun t8_1 =>
  rop P (Instr.loadAt 25 t8_1) h fun t9_1 =>
  pop P (Instr.indexAt 25 t9_1 from0_1) fun t11_1 =>
  rop P (Instr.loadAt 3 t11_1) h fun t12_1 =>
  pop P (Instr.indexAt 25 t7_1 t12_1) fun t13_1 =>
  rop P (Instr.loadAt 3 t13_1) h fun t14_1 =>
  pop P (binA .add 3 t14_1 (Value.int IntKind.i64 1)) fun t15_1 =>
  pop P (Instr.indexAt 25 t7_1 t12_1) fun t16_1 =>
  uop P (Instr.storeAt 3 t16_1 t15_1) h fun u_1 h_1 =>
  K (.tuple #[]) h_1
theorem e73 (from0_1 : Value) (t1_1 : Value) (t2_1 : Value) (h : Heap) (K : Value → Heap → Prop) : wpA Try.prog 17 (anOf []) (bodyOf Try.f73) 1 (fun A h => resA Try.prog A h K []) (fun _ _ _ => False) (fun A h => resA Try.prog A h K []) (aargs [from0_1, t1_1, t2_1] 0) h = t73 Try.prog from0_1 t1_1 t2_1 h K := by kernel_rfl
theorem c73 (from0_1 : Value) (t1_1 : Value) (t2_1 : Value) (h : Heap) (K : Value → Heap → Prop) (H : t73 Try.prog from0_1 t1_1 t2_1 h K) : callM Try.prog 73 #[from0_1, t1_1, t2_1] h K :=
  callM_of_wpA mixed (fn := Try.f73) Try.func73 (c := bodyOf Try.f73) rfl (of_decide_eq_true (by kernel_rfl)) (anOf []) 14 17 (by kernel_rfl) rfl [] (by kernel_rfl) (args := [from0_1, t1_1, t2_1]) (by rw [e73]; exact H)

/-! spec.waGood -/
def t74 (P : Program) (g0_1 : Value) (w1_1 : Value) (h : Heap) (K : Value → Heap → Prop) : Prop :=
  eop P (Instr.box 32 g0_1) h fun g2_1 h_1 =>
  eop P (Instr.box 34 w1_1) h_1 fun w3_1 h_2 =>
  rop P (Instr.loadAt 32 g2_1) h_2 fun t7_1 =>
  pop P (Instr.fieldAt 34 w3_1 1) fun t8_1 =>
  rop P (Instr.loadAt 3 t8_1) h_2 fun t9_1 =>
  callM P 81 #[t7_1, t9_1] h_2 fun t10_1 h_3 =>
  pop P (Op.unary .not t10_1) fun t11_1 =>
  guardM t11_1 false (fun k_1 => pop P (Instr.fieldAt 34 w3_1 0) fun t13_1 =>
  k_1 t13_1 h_3) h_3 fun t13_2 h_4 =>
  guardM t11_1 false (fun k_2 => rop P (Instr.loadAt 25 t13_2) h_4 fun t14_1 =>
  k_2 t14_1 h_4) h_4 fun t14_2 h_5 =>
  guardM t11_1 false (fun k_3 => pop P (lenS 25 3 t14_2) fun t15_1 =>
  k_3 t15_1 h_5) h_5 fun t15_2 h_6 =>
  guardM t11_1 false (fun k_4 => pop P (Instr.fieldAt 32 g2_1 0) fun t16_1 =>
  k_4 t16_1 h_6) h_6 fun t16_2 h_7 =>
  guardM t11_1 false (fun k_5 => rop P (Instr.loadAt 22 t16_2) h_7 fun t17_1 =>
  k_5 t17_1 h_7) h_7 fun t17_2 h_8 =>
  guardM t11_1 false (fun k_6 => pop P (lenS 22 3 t17_2) fun t18_1 =>
  k_6 t18_1 h_8) h_8 fun t18_2 h_9 =>
  guardM t11_1 false (fun k_7 => pop P (binE .neq 3 (.tmp 15) (.tmp 18) t15_2 t18_2) fun t19_1 =>
  k_7 t19_1 h_9) h_9 fun t19_2 h_10 =>
  pop P (pickS t11_1 (Value.bool true) t19_2) fun t20_1 =>
  condM t20_1
  (K (Value.bool false) h_10)
  (pop P (Instr.fieldAt 32 g2_1 0) fun t21_1 =>
  rop P (Instr.loadAt 22 t21_1) h_10 fun t22_1 =>
  pop P (lenS 22 3 t22_1) fun t23_1 =>
  ∃ (I_1 : List Value → Heap → Prop) (μ_1 : List Value → Heap → Nat), I_1 [(Value.int IntKind.i64 0)] h_10 ∧
  ∀ (junk_1 : Nat → Value) (t24_1 : Value) (h_11 : Heap), I_1 [t24_1] h_11 →
  pop P (binA .lss 3 t24_1 t23_1) fun t25_1 =>
  condM t25_1
  (pop P (Instr.indexAt 22 t22_1 t24_1) fun t27_1 =>
  rop P (Instr.loadAt 25 t27_1) h_11 fun t28_1 =>
  pop P (Instr.fieldAt 34 w3_1 0) fun t29_1 =>
  rop P (Instr.loadAt 25 t29_1) h_11 fun t30_1 =>
  pop P (Instr.indexAt 25 t30_1 t24_1) fun t32_1 =>
  rop P (Instr.loadAt 3 t32_1) h_11 fun t33_1 =>
  pop P (lenS 25 3 t28_1) fun t35_1 =>
  pop P (binA .sub 3 t35_1 (Value.int IntKind.i64 1)) fun t36_1 =>
  callM P 113 #[(Value.int IntKind.i64 0), t36_1] h_11 fun t37_1 h_12 =>
  (∀ w : World, w.heap = h_12 → (Instr.loadAt 3 t32_1).run P w = .ok t33_1 w) ∧
  (∀ w : World, w.heap = h_12 → (Instr.loadAt 25 t29_1).run P w = .ok t30_1 w) ∧
  callM P 109 #[t33_1, (Value.int IntKind.i64 0), t37_1] h_12 fun t38_1 h_13 =>
  (∀ w : World, w.heap = h_13 → (Instr.loadAt 25 t29_1).run P w = .ok t30_1 w) ∧
  pop P (Op.unary .not t38_1) fun t39_1 =>
  condM t39_1
  (K (Value.bool false) h_13)
  (pop P (binA .add 3 t24_1 (Value.int IntKind.i64 1)) fun t40_1 =>
  I_1 [t40_1] h_13 ∧ μ_1 [t40_1] h_13 < μ_1 [t24_1] h_11))
  (K (Value.bool true) h_11))
theorem e74 (g0_1 : Value) (w1_1 : Value) (h : Heap) (K : Value → Heap → Prop) : wpA Try.prog 41 (anOf [(58, [24])]) (bodyOf Try.f74) 1 (fun A h => resA Try.prog A h K [.tmp 4]) (fun _ _ _ => False) (fun A h => resA Try.prog A h K [.tmp 4]) (aargs [g0_1, w1_1] 0) h = t74 Try.prog g0_1 w1_1 h K := by kernel_rfl
theorem c74 (g0_1 : Value) (w1_1 : Value) (h : Heap) (K : Value → Heap → Prop) (H : t74 Try.prog g0_1 w1_1 h K) : callM Try.prog 74 #[g0_1, w1_1] h K :=
  callM_of_wpA mixed (fn := Try.f74) Try.func74 (c := bodyOf Try.f74) rfl (of_decide_eq_true (by kernel_rfl)) (anOf [(58, [24])]) 39 41 (by kernel_rfl) rfl [.tmp 4] (by kernel_rfl) (args := [g0_1, w1_1]) (by rw [e74]; exact H)

/-! spec.waStep -/
def t76 (P : Program) (g0_1 : Value) (w1_1 : Value) (h : Heap) (K : Value → Heap → Prop) : Prop :=
  eop P (Instr.box 32 g0_1) h fun g2_1 h_1 =>
  eop P (Instr.box 34 w1_1) h_1 fun w3_1 h_2 =>
  eop P (Instr.alloc 34 true (.tuple #[])) h_2 fun t4_1 h_3 =>
  pop P (Instr.fieldAt 32 g2_1 0) fun t9_1 =>
  rop P (Instr.loadAt 22 t9_1) h_3 fun t10_1 =>
  pop P (Instr.fieldAt 34 w3_1 1) fun t11_1 =>
  rop P (Instr.loadAt 3 t11_1) h_3 fun t12_1 =>
  pop P (Instr.indexAt 22 t10_1 t12_1) fun t13_1 =>
  rop P (Instr.loadAt 25 t13_1) h_3 fun t14_1 =>
  pop P (lenS 25 3 t14_1) fun t16_1 =>
  pop P (binE .eql 3 (.tmp 16) (.const (Value.int IntKind.i64 0)) t16_1 (Value.int IntKind.i64 0)) fun t17_1 =>
  condM t17_1
  (rop P (Instr.loadAt 34 w3_1) h_3 fun t18_1 =>
  uop P (Instr.storeAt 34 t4_1 t18_1) h_3 fun u_1 h_4 =>
  rop P (Instr.loadAt 34 t4_1) h_4 fun r_1 =>
  K (.tuple #[r_1, (Value.bool false)]) h_4)
  (pop P (Instr.fieldAt 34 w3_1 0) fun t19_1 =>
  rop P (Instr.loadAt 25 t19_1) h_3 fun t20_1 =>
  callM P 116 #[t20_1] h_3 fun t21_1 h_5 =>
  pop P (Instr.build 34 #[(0, t21_1)]) fun t22_1 =>
  eop P (Instr.alloc 34 true (.tuple #[])) h_5 fun out7_1 h_6 =>
  uop P (Instr.storeAt 34 out7_1 t22_1) h_6 fun u_2 h_7 =>
  pop P (Instr.fieldAt 34 w3_1 0) fun t23_1 =>
  rop P (Instr.loadAt 25 t23_1) h_7 fun t24_1 =>
  pop P (Instr.fieldAt 34 w3_1 1) fun t25_1 =>
  rop P (Instr.loadAt 3 t25_1) h_7 fun t26_1 =>
  pop P (Instr.indexAt 25 t24_1 t26_1) fun t27_1 =>
  rop P (Instr.loadAt 3 t27_1) h_7 fun t28_1 =>
  pop P (binA .add 3 t28_1 (Value.int IntKind.i64 1)) fun t29_1 =>
  pop P (lenS 25 3 t14_1) fun t31_1 =>
  pop P (binA .rem 3 t29_1 t31_1) fun t32_1 =>
  pop P (Instr.fieldAt 34 out7_1 0) fun t33_1 =>
  rop P (Instr.loadAt 25 t33_1) h_7 fun t34_1 =>
  pop P (Instr.fieldAt 34 w3_1 1) fun t35_1 =>
  rop P (Instr.loadAt 3 t35_1) h_7 fun t36_1 =>
  pop P (Instr.indexAt 25 t34_1 t36_1) fun t38_1 =>
  uop P (Instr.storeAt 3 t38_1 t32_1) h_7 fun u_3 h_8 =>
  pop P (Instr.indexAt 25 t14_1 t32_1) fun t41_1 =>
  rop P (Instr.loadAt 3 t41_1) h_8 fun t42_1 =>
  pop P (Instr.fieldAt 34 out7_1 1) fun t43_1 =>
  uop P (Instr.storeAt 3 t43_1 t42_1) h_8 fun u_4 h_9 =>
  rop P (Instr.loadAt 34 out7_1) h_9 fun t44_1 =>
  uop P (Instr.storeAt 34 t4_1 t44_1) h_9 fun u_5 h_10 =>
  rop P (Instr.loadAt 34 t4_1) h_10 fun r_2 =>
  K (.tuple #[r_2, (Value.bool true)]) h_10)
theorem e76 (g0_1 : Value) (w1_1 : Value) (h : Heap) (K : Value → Heap → Prop) : wpA Try.prog 45 (anOf []) (bodyOf Try.f76) 1 (fun A h => resA Try.prog A h K [.cell 4 34, .tmp 5]) (fun _ _ _ => False) (fun A h => resA Try.prog A h K [.cell 4 34, .tmp 5]) (aargs [g0_1, w1_1] 0) h = t76 Try.prog g0_1 w1_1 h K := by kernel_rfl
theorem c76 (g0_1 : Value) (w1_1 : Value) (h : Heap) (K : Value → Heap → Prop) (H : t76 Try.prog g0_1 w1_1 h K) : callM Try.prog 76 #[g0_1, w1_1] h K :=
  callM_of_wpA mixed (fn := Try.f76) Try.func76 (c := bodyOf Try.f76) rfl (of_decide_eq_true (by kernel_rfl)) (anOf []) 43 45 (by kernel_rfl) rfl [.cell 4 34, .tmp 5] (by kernel_rfl) (args := [g0_1, w1_1]) (by rw [e76]; exact H)

/-! impl.isWalk -/
def t77 (P : Program) (g0_1 : Value) (w1_1 : Value) (h : Heap) (K : Value → Heap → Prop) : Prop :=
  eop P (Instr.box 32 g0_1) h fun g2_1 h_1 =>
  eop P (Instr.box 34 w1_1) h_1 fun w3_1 h_2 =>
  rop P (Instr.loadAt 32 g2_1) h_2 fun t7_1 =>
  pop P (Instr.fieldAt 34 w3_1 1) fun t8_1 =>
  rop P (Instr.loadAt 3 t8_1) h_2 fun t9_1 =>
  eop P (Instr.buildSlice 25 1 #[(0, t9_1)]) h_2 fun t10_1 h_3 =>
  callM P 85 #[t7_1, t10_1] h_3 fun t11_1 h_4 =>
  pop P (Op.unary .not t11_1) fun t12_1 =>
  guardM t12_1 false (fun k_1 => pop P (Instr.fieldAt 34 w3_1 0) fun t14_1 =>
  k_1 t14_1 h_4) h_4 fun t14_2 h_5 =>
  guardM t12_1 false (fun k_2 => rop P (Instr.loadAt 25 t14_2) h_5 fun t15_1 =>
  k_2 t15_1 h_5) h_5 fun t15_2 h_6 =>
  guardM t12_1 false (fun k_3 => pop P (lenS 25 3 t15_2) fun t16_1 =>
  k_3 t16_1 h_6) h_6 fun t16_2 h_7 =>
  guardM t12_1 false (fun k_4 => pop P (Instr.fieldAt 32 g2_1 0) fun t17_1 =>
  k_4 t17_1 h_7) h_7 fun t17_2 h_8 =>
  guardM t12_1 false (fun k_5 => rop P (Instr.loadAt 22 t17_2) h_8 fun t18_1 =>
  k_5 t18_1 h_8) h_8 fun t18_2 h_9 =>
  guardM t12_1 false (fun k_6 => pop P (lenS 22 3 t18_2) fun t19_1 =>
  k_6 t19_1 h_9) h_9 fun t19_2 h_10 =>
  guardM t12_1 false (fun k_7 => pop P (binE .neq 3 (.tmp 16) (.tmp 19) t16_2 t19_2) fun t20_1 =>
  k_7 t20_1 h_10) h_10 fun t20_2 h_11 =>
  pop P (pickS t12_1 (Value.bool true) t20_2) fun t21_1 =>
  condM t21_1
  (K (Value.bool false) h_11)
  (pop P (Instr.fieldAt 34 w3_1 0) fun t22_1 =>
  rop P (Instr.loadAt 25 t22_1) h_11 fun t23_1 =>
  pop P (lenS 25 3 t23_1) fun t24_1 =>
  ∃ (I_1 : List Value → Heap → Prop) (μ_1 : List Value → Heap → Nat), I_1 [(Value.int IntKind.i64 0)] h_11 ∧
  ∀ (junk_1 : Nat → Value) (t25_1 : Value) (h_12 : Heap), I_1 [t25_1] h_12 →
  pop P (binA .lss 3 t25_1 t24_1) fun t26_1 =>
  condM t26_1
  (pop P (Instr.indexAt 25 t23_1 t25_1) fun t28_1 =>
  rop P (Instr.loadAt 3 t28_1) h_12 fun t29_1 =>
  pop P (Instr.fieldAt 32 g2_1 0) fun t31_1 =>
  rop P (Instr.loadAt 22 t31_1) h_12 fun t32_1 =>
  pop P (Instr.indexAt 22 t32_1 t25_1) fun t34_1 =>
  rop P (Instr.loadAt 25 t34_1) h_12 fun t35_1 =>
  pop P (lenS 25 3 t35_1) fun t36_1 =>
  pop P (binA .sub 3 t36_1 (Value.int IntKind.i64 1)) fun t37_1 =>
  pop P (Builtin.max_ #[3, 3] 3 #[t37_1, (Value.int IntKind.i64 0)]) fun t38_1 =>
  callM P 110 #[t29_1, (Value.int IntKind.i64 0), t38_1] h_12 fun t39_1 h_13 =>
  pop P (Op.unary .not t39_1) fun t40_1 =>
  condM t40_1
  (K (Value.bool false) h_13)
  (pop P (binA .add 3 t25_1 (Value.int IntKind.i64 1)) fun t41_1 =>
  I_1 [t41_1] h_13 ∧ μ_1 [t41_1] h_13 < μ_1 [t25_1] h_12))
  (K (Value.bool true) h_12))
theorem e77 (g0_1 : Value) (w1_1 : Value) (h : Heap) (K : Value → Heap → Prop) : wpA Try.prog 42 (anOf [(58, [25])]) (bodyOf Try.f77) 1 (fun A h => resA Try.prog A h K [.tmp 4]) (fun _ _ _ => False) (fun A h => resA Try.prog A h K [.tmp 4]) (aargs [g0_1, w1_1] 0) h = t77 Try.prog g0_1 w1_1 h K := by kernel_rfl
theorem c77 (g0_1 : Value) (w1_1 : Value) (h : Heap) (K : Value → Heap → Prop) (H : t77 Try.prog g0_1 w1_1 h K) : callM Try.prog 77 #[g0_1, w1_1] h K :=
  callM_of_wpA mixed (fn := Try.f77) Try.func77 (c := bodyOf Try.f77) rfl (of_decide_eq_true (by kernel_rfl)) (anOf [(58, [25])]) 40 42 (by kernel_rfl) rfl [.tmp 4] (by kernel_rfl) (args := [g0_1, w1_1]) (by rw [e77]; exact H)

/-! spec.grPlace -/
def t81 (P : Program) (g0_1 : Value) (p1_1 : Value) (h : Heap) (K : Value → Heap → Prop) : Prop :=
  eop P (Instr.box 32 g0_1) h fun g2_1 h_1 =>
  rop P (Instr.loadAt 32 g2_1) h_1 fun t5_1 =>
  callM P 119 #[t5_1] h_1 fun t6_1 h_2 =>
  guardM t6_1 true (fun k_1 => k_1 p1_1 h_2) h_2 fun t8_1 h_3 =>
  guardM t6_1 true (fun k_2 => pop P (Instr.fieldAt 32 g2_1 0) fun t9_1 =>
  k_2 t9_1 h_3) h_3 fun t9_2 h_4 =>
  guardM t6_1 true (fun k_3 => rop P (Instr.loadAt 22 t9_2) h_4 fun t10_1 =>
  k_3 t10_1 h_4) h_4 fun t10_2 h_5 =>
  guardM t6_1 true (fun k_4 => pop P (lenS 22 3 t10_2) fun t11_1 =>
  k_4 t11_1 h_5) h_5 fun t11_2 h_6 =>
  guardM t6_1 true (fun k_5 => pop P (binA .sub 3 t11_2 (Value.int IntKind.i64 1)) fun t12_1 =>
  k_5 t12_1 h_6) h_6 fun t12_2 h_7 =>
  guardM t6_1 true (fun k_6 => callM P 109 #[t8_1, (Value.int IntKind.i64 0), t12_2] h_7 fun t13_1 h_8 =>
  k_6 t13_1 h_8) h_7 fun t13_2 h_9 =>
  pop P (pickS t6_1 t13_2 (Value.bool false)) fun t14_1 =>
  K t14_1 h_9
theorem e81 (g0_1 : Value) (p1_1 : Value) (h : Heap) (K : Value → Heap → Prop) : wpA Try.prog 15 (anOf []) (bodyOf Try.f81) 1 (fun A h => resA Try.prog A h K [.tmp 4]) (fun _ _ _ => False) (fun A h => resA Try.prog A h K [.tmp 4]) (aargs [g0_1, p1_1] 0) h = t81 Try.prog g0_1 p1_1 h K := by kernel_rfl
theorem c81 (g0_1 : Value) (p1_1 : Value) (h : Heap) (K : Value → Heap → Prop) (H : t81 Try.prog g0_1 p1_1 h K) : callM Try.prog 81 #[g0_1, p1_1] h K :=
  callM_of_wpA mixed (fn := Try.f81) Try.func81 (c := bodyOf Try.f81) rfl (of_decide_eq_true (by kernel_rfl)) (anOf []) 13 15 (by kernel_rfl) rfl [.tmp 4] (by kernel_rfl) (args := [g0_1, p1_1]) (by rw [e81]; exact H)

/-! impl.has -/
def t85 (P : Program) (g0_1 : Value) (places1_1 : Value) (h : Heap) (K : Value → Heap → Prop) : Prop :=
  eop P (Instr.box 32 g0_1) h fun g2_1 h_1 =>
  rop P (Instr.loadAt 32 g2_1) h_1 fun t5_1 =>
  callM P 122 #[t5_1] h_1 fun t6_1 h_2 =>
  guardM t6_1 true (fun k_1 => k_1 places1_1 h_2) h_2 fun t8_1 h_3 =>
  guardM t6_1 true (fun k_2 => pop P (Instr.makeFunc (Fn.func 123) #[] #[g2_1]) fun t9_1 =>
  k_2 t9_1 h_3) h_3 fun t9_2 h_4 =>
  guardM t6_1 true (fun k_3 => callM P 106 #[t8_1, t9_2] h_4 fun t10_1 h_5 =>
  k_3 t10_1 h_5) h_4 fun t10_2 h_6 =>
  guardM t6_1 true (fun k_4 => pop P (Op.unary .not t10_2) fun t11_1 =>
  k_4 t11_1 h_6) h_6 fun t11_2 h_7 =>
  pop P (pickS t6_1 t11_2 (Value.bool false)) fun t12_1 =>
  K t12_1 h_7
theorem e85 (g0_1 : Value) (places1_1 : Value) (h : Heap) (K : Value → Heap → Prop) : wpA Try.prog 13 (anOf []) (bodyOf Try.f85) 1 (fun A h => resA Try.prog A h K [.tmp 4]) (fun _ _ _ => False) (fun A h => resA Try.prog A h K [.tmp 4]) (aargs [g0_1, places1_1] 0) h = t85 Try.prog g0_1 places1_1 h K := by kernel_rfl
theorem c85 (g0_1 : Value) (places1_1 : Value) (h : Heap) (K : Value → Heap → Prop) (H : t85 Try.prog g0_1 places1_1 h K) : callM Try.prog 85 #[g0_1, places1_1] h K :=
  callM_of_wpA mixed (fn := Try.f85) Try.func85 (c := bodyOf Try.f85) rfl (of_decide_eq_true (by kernel_rfl)) (anOf []) 11 13 (by kernel_rfl) rfl [.tmp 4] (by kernel_rfl) (args := [g0_1, places1_1]) (by rw [e85]; exact H)

/-! spec.l1All -/
def t97 (P : Program) (l0_1 : Value) (lo1_1 : Value) (hi2_1 : Value) (h : Heap) (K : Value → Heap → Prop) : Prop :=
  pop P (lenS 25 3 l0_1) fun t10_1 =>
  ∃ (I_1 : List Value → Heap → Prop) (μ_1 : List Value → Heap → Nat), I_1 [(Value.int IntKind.i64 0)] h ∧
  ∀ (junk_1 : Nat → Value) (t11_1 : Value) (h_1 : Heap), I_1 [t11_1] h_1 →
  pop P (binA .lss 3 t11_1 t10_1) fun t12_1 =>
  condM t12_1
  (pop P (Instr.indexAt 25 l0_1 t11_1) fun t13_1 =>
  rop P (Instr.loadAt 3 t13_1) h_1 fun t14_1 =>
  callM P 109 #[t14_1, lo1_1, hi2_1] h_1 fun t18_1 h_2 =>
  pop P (Op.unary .not t18_1) fun t19_1 =>
  condM t19_1
  (K (Value.bool false) h_2)
  (pop P (binA .add 3 t11_1 (Value.int IntKind.i64 1)) fun t20_1 =>
  I_1 [t20_1] h_2 ∧ μ_1 [t20_1] h_2 < μ_1 [t11_1] h_1))
  (K (Value.bool true) h_1)
theorem e97 (l0_1 : Value) (lo1_1 : Value) (hi2_1 : Value) (h : Heap) (K : Value → Heap → Prop) : wpA Try.prog 21 (anOf [(26, [11])]) (bodyOf Try.f97) 1 (fun A h => resA Try.prog A h K [.tmp 6]) (fun _ _ _ => False) (fun A h => resA Try.prog A h K [.tmp 6]) (aargs [l0_1, lo1_1, hi2_1] 0) h = t97 Try.prog l0_1 lo1_1 hi2_1 h K := by kernel_rfl
theorem c97 (l0_1 : Value) (lo1_1 : Value) (hi2_1 : Value) (h : Heap) (K : Value → Heap → Prop) (H : t97 Try.prog l0_1 lo1_1 hi2_1 h K) : callM Try.prog 97 #[l0_1, lo1_1, hi2_1] h K :=
  callM_of_wpA mixed (fn := Try.f97) Try.func97 (c := bodyOf Try.f97) rfl (of_decide_eq_true (by kernel_rfl)) (anOf [(26, [11])]) 18 21 (by kernel_rfl) rfl [.tmp 6] (by kernel_rfl) (args := [l0_1, lo1_1, hi2_1]) (by rw [e97]; exact H)

/-! slices.ContainsFunc[[]int,int] -/
def t106 (P : Program) (s0_1 : Value) (f1_1 : Value) (h : Heap) (K : Value → Heap → Prop) : Prop :=
  callM P 138 #[s0_1, f1_1] h fun t7_1 h_1 =>
  pop P (binA .geq 3 t7_1 (Value.int IntKind.i64 0)) fun t8_1 =>
  K t8_1 h_1
theorem e106 (s0_1 : Value) (f1_1 : Value) (h : Heap) (K : Value → Heap → Prop) : wpA Try.prog 9 (anOf []) (bodyOf Try.f106) 1 (fun A h => resA Try.prog A h K [.tmp 4]) (fun _ _ _ => False) (fun A h => resA Try.prog A h K [.tmp 4]) (aargs [s0_1, f1_1] 0) h = t106 Try.prog s0_1 f1_1 h K := by kernel_rfl
theorem c106 (s0_1 : Value) (f1_1 : Value) (h : Heap) (K : Value → Heap → Prop) (H : t106 Try.prog s0_1 f1_1 h K) : callM Try.prog 106 #[s0_1, f1_1] h K :=
  callM_of_wpA mixed (fn := Try.f106) Try.func106 (c := bodyOf Try.f106) rfl (of_decide_eq_true (by kernel_rfl)) (anOf []) 7 9 (by kernel_rfl) rfl [.tmp 4] (by kernel_rfl) (args := [s0_1, f1_1]) (by rw [e106]; exact H)

/-! spec.l1In -/
def t109 (P : Program) (n0_1 : Value) (lo1_1 : Value) (hi2_1 : Value) (h : Heap) (K : Value → Heap → Prop) : Prop :=
  pop P (binA .geq 3 n0_1 lo1_1) fun t9_1 =>
  guardM t9_1 true (fun k_1 => k_1 n0_1 h) h fun t11_1 h_1 =>
  guardM t9_1 true (fun k_2 => k_2 hi2_1 h_1) h_1 fun t12_1 h_2 =>
  guardM t9_1 true (fun k_3 => pop P (binA .leq 3 t11_1 t12_1) fun t13_1 =>
  k_3 t13_1 h_2) h_2 fun t13_2 h_3 =>
  pop P (pickS t9_1 t13_2 (Value.bool false)) fun t14_1 =>
  K t14_1 h_3
theorem e109 (n0_1 : Value) (lo1_1 : Value) (hi2_1 : Value) (h : Heap) (K : Value → Heap → Prop) : wpA Try.prog 15 (anOf []) (bodyOf Try.f109) 1 (fun A h => resA Try.prog A h K [.tmp 6]) (fun _ _ _ => False) (fun A h => resA Try.prog A h K [.tmp 6]) (aargs [n0_1, lo1_1, hi2_1] 0) h = t109 Try.prog n0_1 lo1_1 hi2_1 h K := by kernel_rfl
theorem c109 (n0_1 : Value) (lo1_1 : Value) (hi2_1 : Value) (h : Heap) (K : Value → Heap → Prop) (H : t109 Try.prog n0_1 lo1_1 hi2_1 h K) : callM Try.prog 109 #[n0_1, lo1_1, hi2_1] h K :=
  callM_of_wpA mixed (fn := Try.f109) Try.func109 (c := bodyOf Try.f109) rfl (of_decide_eq_true (by kernel_rfl)) (anOf []) 12 15 (by kernel_rfl) rfl [.tmp 6] (by kernel_rfl) (args := [n0_1, lo1_1, hi2_1]) (by rw [e109]; exact H)

/-! impl.in -/
def t110 (P : Program) (n0_1 : Value) (low1_1 : Value) (high2_1 : Value) (h : Heap) (K : Value → Heap → Prop) : Prop :=
  pop P (binA .leq 3 low1_1 n0_1) fun t9_1 =>
  guardM t9_1 true (fun k_1 => k_1 n0_1 h) h fun t11_1 h_1 =>
  guardM t9_1 true (fun k_2 => k_2 high2_1 h_1) h_1 fun t12_1 h_2 =>
  guardM t9_1 true (fun k_3 => pop P (binA .leq 3 t11_1 t12_1) fun t13_1 =>
  k_3 t13_1 h_2) h_2 fun t13_2 h_3 =>
  pop P (pickS t9_1 t13_2 (Value.bool false)) fun t14_1 =>
  K t14_1 h_3
theorem e110 (n0_1 : Value) (low1_1 : Value) (high2_1 : Value) (h : Heap) (K : Value → Heap → Prop) : wpA Try.prog 15 (anOf []) (bodyOf Try.f110) 1 (fun A h => resA Try.prog A h K [.tmp 6]) (fun _ _ _ => False) (fun A h => resA Try.prog A h K [.tmp 6]) (aargs [n0_1, low1_1, high2_1] 0) h = t110 Try.prog n0_1 low1_1 high2_1 h K := by kernel_rfl
theorem c110 (n0_1 : Value) (low1_1 : Value) (high2_1 : Value) (h : Heap) (K : Value → Heap → Prop) (H : t110 Try.prog n0_1 low1_1 high2_1 h K) : callM Try.prog 110 #[n0_1, low1_1, high2_1] h K :=
  callM_of_wpA mixed (fn := Try.f110) Try.func110 (c := bodyOf Try.f110) rfl (of_decide_eq_true (by kernel_rfl)) (anOf []) 12 15 (by kernel_rfl) rfl [.tmp 6] (by kernel_rfl) (args := [n0_1, low1_1, high2_1]) (by rw [e110]; exact H)

/-! slices.Clone[[]int,int] -/
def t111 (P : Program) (s0_1 : Value) (h : Heap) (K : Value → Heap → Prop) : Prop :=
  pop P (binE .eql 25 (.tmp 3) (.const (Value.slice none 0 0)) s0_1 (Value.slice none 0 0)) fun t4_1 =>
  condM t4_1
  (K (Value.slice none 0 0) h)
  (eop P (Instr.buildSlice 25 0 #[]) h fun t5_1 h_1 =>
  eop P (appS 25 25 25 t5_1 s0_1) h_1 fun t7_1 h_2 =>
  K t7_1 h_2)
theorem e111 (s0_1 : Value) (h : Heap) (K : Value → Heap → Prop) : wpA Try.prog 8 (anOf []) (bodyOf Try.f111) 1 (fun A h => resA Try.prog A h K [.tmp 2]) (fun _ _ _ => False) (fun A h => resA Try.prog A h K [.tmp 2]) (aargs [s0_1] 0) h = t111 Try.prog s0_1 h K := by kernel_rfl
theorem c111 (s0_1 : Value) (h : Heap) (K : Value → Heap → Prop) (H : t111 Try.prog s0_1 h K) : callM Try.prog 111 #[s0_1] h K :=
  callM_of_wpA mixed (fn := Try.f111) Try.func111 (c := bodyOf Try.f111) rfl (of_decide_eq_true (by kernel_rfl)) (anOf []) 7 8 (by kernel_rfl) rfl [.tmp 2] (by kernel_rfl) (args := [s0_1]) (by rw [e111]; exact H)

/-! (impl.Graph).step -/
def t112 (P : Program) (g0_1 : Value) (w1_1 : Value) (h : Heap) (K : Value → Heap → Prop) : Prop :=
  eop P (Instr.box 32 g0_1) h fun g2_1 h_1 =>
  pop P (Instr.fieldAt 32 g2_1 0) fun t6_1 =>
  rop P (Instr.loadAt 22 t6_1) h_1 fun t7_1 =>
  pop P (nilS w1_1) fun t9_1 =>
  pop P (Instr.fieldAt 34 t9_1 1) fun t10_1 =>
  rop P (Instr.loadAt 3 t10_1) h_1 fun t11_1 =>
  pop P (Instr.indexAt 22 t7_1 t11_1) fun t12_1 =>
  rop P (Instr.loadAt 25 t12_1) h_1 fun t13_1 =>
  pop P (lenS 25 3 t13_1) fun t15_1 =>
  pop P (binE .eql 3 (.tmp 15) (.const (Value.int IntKind.i64 0)) t15_1 (Value.int IntKind.i64 0)) fun t16_1 =>
  condM t16_1
  (K (Value.bool false) h_1)
  (pop P (nilS w1_1) fun t18_1 =>
  pop P (Instr.fieldAt 34 t18_1 0) fun t19_1 =>
  rop P (Instr.loadAt 25 t19_1) h_1 fun t20_1 =>
  pop P (nilS w1_1) fun t22_1 =>
  pop P (Instr.fieldAt 34 t22_1 1) fun t23_1 =>
  rop P (Instr.loadAt 3 t23_1) h_1 fun t24_1 =>
  pop P (nilS w1_1) fun t26_1 =>
  pop P (Instr.fieldAt 34 t26_1 0) fun t27_1 =>
  rop P (Instr.loadAt 25 t27_1) h_1 fun t28_1 =>
  pop P (nilS w1_1) fun t30_1 =>
  pop P (Instr.fieldAt 34 t30_1 1) fun t31_1 =>
  rop P (Instr.loadAt 3 t31_1) h_1 fun t32_1 =>
  pop P (Instr.indexAt 25 t28_1 t32_1) fun t33_1 =>
  rop P (Instr.loadAt 3 t33_1) h_1 fun t34_1 =>
  pop P (binA .add 3 t34_1 (Value.int IntKind.i64 1)) fun t35_1 =>
  pop P (lenS 25 3 t13_1) fun t37_1 =>
  pop P (binA .rem 3 t35_1 t37_1) fun t38_1 =>
  pop P (Instr.indexAt 25 t20_1 t24_1) fun t39_1 =>
  uop P (Instr.storeAt 3 t39_1 t38_1) h_1 fun u_1 h_2 =>
  pop P (nilS w1_1) fun t43_1 =>
  pop P (Instr.fieldAt 34 t43_1 0) fun t44_1 =>
  rop P (Instr.loadAt 25 t44_1) h_2 fun t45_1 =>
  pop P (nilS w1_1) fun t47_1 =>
  pop P (Instr.fieldAt 34 t47_1 1) fun t48_1 =>
  rop P (Instr.loadAt 3 t48_1) h_2 fun t49_1 =>
  pop P (Instr.indexAt 25 t45_1 t49_1) fun t50_1 =>
  rop P (Instr.loadAt 3 t50_1) h_2 fun t51_1 =>
  pop P (Instr.indexAt 25 t13_1 t51_1) fun t52_1 =>
  rop P (Instr.loadAt 3 t52_1) h_2 fun t53_1 =>
  pop P (nilS w1_1) fun t54_1 =>
  pop P (Instr.fieldAt 34 t54_1 1) fun t55_1 =>
  uop P (Instr.storeAt 3 t55_1 t53_1) h_2 fun u_2 h_3 =>
  K (Value.bool true) h_3)
theorem e112 (g0_1 : Value) (w1_1 : Value) (h : Heap) (K : Value → Heap → Prop) : wpA Try.prog 56 (anOf []) (bodyOf Try.f112) 1 (fun A h => resA Try.prog A h K [.tmp 4]) (fun _ _ _ => False) (fun A h => resA Try.prog A h K [.tmp 4]) (aargs [g0_1, w1_1] 0) h = t112 Try.prog g0_1 w1_1 h K := by kernel_rfl
theorem c112 (g0_1 : Value) (w1_1 : Value) (h : Heap) (K : Value → Heap → Prop) (H : t112 Try.prog g0_1 w1_1 h K) : callM Try.prog 112 #[g0_1, w1_1] h K :=
  callM_of_wpA mixed (fn := Try.f112) Try.func112 (c := bodyOf Try.f112) rfl (of_decide_eq_true (by kernel_rfl)) (anOf []) 54 56 (by kernel_rfl) rfl [.tmp 4] (by kernel_rfl) (args := [g0_1, w1_1]) (by rw [e112]; exact H)

/-! spec.l1Most -/
def t113 (P : Program) (a0_1 : Value) (b1_1 : Value) (h : Heap) (K : Value → Heap → Prop) : Prop :=
  pop P (binA .gtr 3 a0_1 b1_1) fun t7_1 =>
  condM t7_1
  (K a0_1 h)
  (K b1_1 h)
theorem e113 (a0_1 : Value) (b1_1 : Value) (h : Heap) (K : Value → Heap → Prop) : wpA Try.prog 10 (anOf []) (bodyOf Try.f113) 1 (fun A h => resA Try.prog A h K [.tmp 4]) (fun _ _ _ => False) (fun A h => resA Try.prog A h K [.tmp 4]) (aargs [a0_1, b1_1] 0) h = t113 Try.prog a0_1 b1_1 h K := by kernel_rfl
theorem c113 (a0_1 : Value) (b1_1 : Value) (h : Heap) (K : Value → Heap → Prop) (H : t113 Try.prog a0_1 b1_1 h K) : callM Try.prog 113 #[a0_1, b1_1] h K :=
  callM_of_wpA mixed (fn := Try.f113) Try.func113 (c := bodyOf Try.f113) rfl (of_decide_eq_true (by kernel_rfl)) (anOf []) 8 10 (by kernel_rfl) rfl [.tmp 4] (by kernel_rfl) (args := [a0_1, b1_1]) (by rw [e113]; exact H)

/-! spec.l1Own -/
def t116 (P : Program) (l0_1 : Value) (h : Heap) (K : Value → Heap → Prop) : Prop :=
  eop P (Instr.buildSlice 25 0 #[]) h fun t3_1 h_1 =>
  eop P (appS 25 25 25 t3_1 l0_1) h_1 fun t5_1 h_2 =>
  K t5_1 h_2
theorem e116 (l0_1 : Value) (h : Heap) (K : Value → Heap → Prop) : wpA Try.prog 6 (anOf []) (bodyOf Try.f116) 1 (fun A h => resA Try.prog A h K [.tmp 2]) (fun _ _ _ => False) (fun A h => resA Try.prog A h K [.tmp 2]) (aargs [l0_1] 0) h = t116 Try.prog l0_1 h K := by kernel_rfl
theorem c116 (l0_1 : Value) (h : Heap) (K : Value → Heap → Prop) (H : t116 Try.prog l0_1 h K) : callM Try.prog 116 #[l0_1] h K :=
  callM_of_wpA mixed (fn := Try.f116) Try.func116 (c := bodyOf Try.f116) rfl (of_decide_eq_true (by kernel_rfl)) (anOf []) 5 6 (by kernel_rfl) rfl [.tmp 2] (by kernel_rfl) (args := [l0_1]) (by rw [e116]; exact H)

/-! spec.grGood -/
def t119 (P : Program) (g0_1 : Value) (h : Heap) (K : Value → Heap → Prop) : Prop :=
  eop P (Instr.box 32 g0_1) h fun g1_1 h_1 =>
  pop P (Instr.fieldAt 32 g1_1 0) fun t6_1 =>
  rop P (Instr.loadAt 22 t6_1) h_1 fun t7_1 =>
  pop P (lenS 22 3 t7_1) fun t8_1 =>
  callM P 109 #[t8_1, (Value.int IntKind.i64 1), (Value.int IntKind.i64 8)] h_1 fun t10_1 h_2 =>
  pop P (Op.unary .not t10_1) fun t11_1 =>
  condM t11_1
  (K (Value.bool false) h_2)
  (pop P (Instr.fieldAt 32 g1_1 0) fun t12_1 =>
  rop P (Instr.loadAt 22 t12_1) h_2 fun t13_1 =>
  pop P (lenS 22 3 t13_1) fun t14_1 =>
  ∃ (I_1 : List Value → Heap → Prop) (μ_1 : List Value → Heap → Nat), I_1 [(Value.int IntKind.i64 0)] h_2 ∧
  ∀ (junk_1 : Nat → Value) (t15_1 : Value) (h_3 : Heap), I_1 [t15_1] h_3 →
  pop P (binA .lss 3 t15_1 t14_1) fun t16_1 =>
  condM t16_1
  (pop P (Instr.indexAt 22 t13_1 t15_1) fun t17_1 =>
  rop P (Instr.loadAt 25 t17_1) h_3 fun t18_1 =>
  pop P (lenS 25 3 t18_1) fun t20_1 =>
  pop P (binA .gtr 3 t20_1 (Value.int IntKind.i64 5)) fun t21_1 =>
  guardM t21_1 false (fun k_1 => k_1 t18_1 h_3) h_3 fun t23_1 h_4 =>
  guardM t21_1 false (fun k_2 => k_2 t8_1 h_4) h_4 fun t24_1 h_5 =>
  guardM t21_1 false (fun k_3 => pop P (binA .sub 3 t24_1 (Value.int IntKind.i64 1)) fun t25_1 =>
  k_3 t25_1 h_5) h_5 fun t25_2 h_6 =>
  guardM t21_1 false (fun k_4 => callM P 97 #[t23_1, (Value.int IntKind.i64 0), t25_2] h_6 fun t26_1 h_7 =>
  k_4 t26_1 h_7) h_6 fun t26_2 h_8 =>
  guardM t21_1 false (fun k_5 => pop P (Op.unary .not t26_2) fun t27_1 =>
  k_5 t27_1 h_8) h_8 fun t27_2 h_9 =>
  pop P (pickS t21_1 (Value.bool true) t27_2) fun t28_1 =>
  condM t28_1
  (K (Value.bool false) h_9)
  (pop P (binA .add 3 t15_1 (Value.int IntKind.i64 1)) fun t29_1 =>
  I_1 [t29_1] h_9 ∧ μ_1 [t29_1] h_9 < μ_1 [t15_1] h_3))
  (K (Value.bool true) h_3))
theorem e119 (g0_1 : Value) (h : Heap) (K : Value → Heap → Prop) : wpA Try.prog 30 (anOf [(122, [15])]) (bodyOf Try.f119) 1 (fun A h => resA Try.prog A h K [.tmp 2]) (fun _ _ _ => False) (fun A h => resA Try.prog A h K [.tmp 2]) (aargs [g0_1] 0) h = t119 Try.prog g0_1 h K := by kernel_rfl
theorem c119 (g0_1 : Value) (h : Heap) (K : Value → Heap → Prop) (H : t119 Try.prog g0_1 h K) : callM Try.prog 119 #[g0_1] h K :=
  callM_of_wpA mixed (fn := Try.f119) Try.func119 (c := bodyOf Try.f119) rfl (of_decide_eq_true (by kernel_rfl)) (anOf [(122, [15])]) 29 30 (by kernel_rfl) rfl [.tmp 2] (by kernel_rfl) (args := [g0_1]) (by rw [e119]; exact H)

/-! impl.isGraph -/
def t122 (P : Program) (g0_1 : Value) (h : Heap) (K : Value → Heap → Prop) : Prop :=
  eop P (Instr.box 32 g0_1) h fun g1_1 h_1 =>
  pop P (Instr.fieldAt 32 g1_1 0) fun t6_1 =>
  rop P (Instr.loadAt 22 t6_1) h_1 fun t7_1 =>
  pop P (lenS 22 3 t7_1) fun t8_1 =>
  eop P (Instr.alloc 3 true (.tuple #[])) h_1 fun n3_1 h_2 =>
  uop P (Instr.storeAt 3 n3_1 t8_1) h_2 fun u_1 h_3 =>
  rop P (Instr.loadAt 3 n3_1) h_3 fun t9_1 =>
  callM P 110 #[t9_1, (Value.int IntKind.i64 1), (Value.int IntKind.i64 8)] h_3 fun t10_1 h_4 =>
  pop P (Op.unary .not t10_1) fun t11_1 =>
  condM t11_1
  (K (Value.bool false) h_4)
  (pop P (Instr.fieldAt 32 g1_1 0) fun t12_1 =>
  rop P (Instr.loadAt 22 t12_1) h_4 fun t13_1 =>
  pop P (lenS 22 3 t13_1) fun t14_1 =>
  ∃ (I_1 : List Value → Heap → Prop) (μ_1 : List Value → Heap → Nat), I_1 [(Value.int IntKind.i64 0)] h_4 ∧
  ∀ (junk_1 : Nat → Value) (t15_1 : Value) (h_5 : Heap), I_1 [t15_1] h_5 →
  pop P (binA .lss 3 t15_1 t14_1) fun t16_1 =>
  condM t16_1
  (pop P (Instr.indexAt 22 t13_1 t15_1) fun t17_1 =>
  rop P (Instr.loadAt 25 t17_1) h_5 fun t18_1 =>
  pop P (lenS 25 3 t18_1) fun t20_1 =>
  pop P (binA .gtr 3 t20_1 (Value.int IntKind.i64 5)) fun t21_1 =>
  guardM t21_1 false (fun k_1 => k_1 t18_1 h_5) h_5 fun t23_1 h_6 =>
  guardM t21_1 false (fun k_2 => pop P (Instr.makeFunc (Fn.func 141) #[] #[n3_1]) fun t24_1 =>
  k_2 t24_1 h_6) h_6 fun t24_2 h_7 =>
  guardM t21_1 false (fun k_3 => callM P 106 #[t23_1, t24_2] h_7 fun t25_1 h_8 =>
  k_3 t25_1 h_8) h_7 fun t25_2 h_9 =>
  pop P (pickS t21_1 (Value.bool true) t25_2) fun t26_1 =>
  condM t26_1
  (K (Value.bool false) h_9)
  (pop P (binA .add 3 t15_1 (Value.int IntKind.i64 1)) fun t27_1 =>
  I_1 [t27_1] h_9 ∧ μ_1 [t27_1] h_9 < μ_1 [t15_1] h_5))
  (K (Value.bool true) h_5))
theorem e122 (g0_1 : Value) (h : Heap) (K : Value → Heap → Prop) : wpA Try.prog 28 (anOf [(122, [15])]) (bodyOf Try.f122) 1 (fun A h => resA Try.prog A h K [.tmp 2]) (fun _ _ _ => False) (fun A h => resA Try.prog A h K [.tmp 2]) (aargs [g0_1] 0) h = t122 Try.prog g0_1 h K := by kernel_rfl
theorem c122 (g0_1 : Value) (h : Heap) (K : Value → Heap → Prop) (H : t122 Try.prog g0_1 h K) : callM Try.prog 122 #[g0_1] h K :=
  callM_of_wpA mixed (fn := Try.f122) Try.func122 (c := bodyOf Try.f122) rfl (of_decide_eq_true (by kernel_rfl)) (anOf [(122, [15])]) 27 28 (by kernel_rfl) rfl [.tmp 2] (by kernel_rfl) (args := [g0_1]) (by rw [e122]; exact H)

/-! impl.has$1 -/
def t123 (P : Program) (p0_1 : Value) (t1_1 : Value) (h : Heap) (K : Value → Heap → Prop) : Prop :=
  pop P (Instr.fieldAt 32 t1_1 0) fun t5_1 =>
  rop P (Instr.loadAt 22 t5_1) h fun t6_1 =>
  pop P (lenS 22 3 t6_1) fun t7_1 =>
  pop P (binA .sub 3 t7_1 (Value.int IntKind.i64 1)) fun t8_1 =>
  callM P 110 #[p0_1, (Value.int IntKind.i64 0), t8_1] h fun t9_1 h_1 =>
  pop P (Op.unary .not t9_1) fun t10_1 =>
  K t10_1 h_1
theorem e123 (p0_1 : Value) (t1_1 : Value) (h : Heap) (K : Value → Heap → Prop) : wpA Try.prog 11 (anOf []) (bodyOf Try.f123) 1 (fun A h => resA Try.prog A h K [.tmp 3]) (fun _ _ _ => False) (fun A h => resA Try.prog A h K [.tmp 3]) (aargs [p0_1, t1_1] 0) h = t123 Try.prog p0_1 t1_1 h K := by kernel_rfl
theorem c123 (p0_1 : Value) (t1_1 : Value) (h : Heap) (K : Value → Heap → Prop) (H : t123 Try.prog p0_1 t1_1 h K) : callM Try.prog 123 #[p0_1, t1_1] h K :=
  callM_of_wpA mixed (fn := Try.f123) Try.func123 (c := bodyOf Try.f123) rfl (of_decide_eq_true (by kernel_rfl)) (anOf []) 9 11 (by kernel_rfl) rfl [.tmp 3] (by kernel_rfl) (args := [p0_1, t1_1]) (by rw [e123]; exact H)

/-! slices.IndexFunc[[]int,int] -/
def t138 (P : Program) (s0_1 : Value) (f1_1 : Value) (h : Heap) (K : Value → Heap → Prop) : Prop :=
  pop P (lenS 25 3 s0_1) fun t7_1 =>
  ∃ (I_1 : List Value → Heap → Prop) (μ_1 : List Value → Heap → Nat), I_1 [(Value.int IntKind.i64 0)] h ∧
  ∀ (junk_1 : Nat → Value) (t8_1 : Value) (h_1 : Heap), I_1 [t8_1] h_1 →
  pop P (binA .lss 3 t8_1 t7_1) fun t9_1 =>
  condM t9_1
  (pop P (Instr.indexAt 25 s0_1 t8_1) fun t14_1 =>
  rop P (Instr.loadAt 3 t14_1) h_1 fun t15_1 =>
  callV P f1_1 [t15_1] h_1 fun t16_1 h_2 =>
  condM t16_1
  (K t8_1 h_2)
  (pop P (binA .add 3 t8_1 (Value.int IntKind.i64 1)) fun t18_1 =>
  I_1 [t18_1] h_2 ∧ μ_1 [t18_1] h_2 < μ_1 [t8_1] h_1))
  (K (Value.int IntKind.i64 (-1)) h_1)
theorem e138 (s0_1 : Value) (f1_1 : Value) (h : Heap) (K : Value → Heap → Prop) : wpA Try.prog 19 (anOf [(26, [8])]) (bodyOf Try.f138) 1 (fun A h => resA Try.prog A h K [.tmp 4]) (fun _ _ _ => False) (fun A h => resA Try.prog A h K [.tmp 4]) (aargs [s0_1, f1_1] 0) h = t138 Try.prog s0_1 f1_1 h K := by kernel_rfl
theorem c138 (s0_1 : Value) (f1_1 : Value) (h : Heap) (K : Value → Heap → Prop) (H : t138 Try.prog s0_1 f1_1 h K) : callM Try.prog 138 #[s0_1, f1_1] h K :=
  callM_of_wpA mixed (fn := Try.f138) Try.func138 (c := bodyOf Try.f138) rfl (of_decide_eq_true (by kernel_rfl)) (anOf [(26, [8])]) 17 19 (by kernel_rfl) rfl [.tmp 4] (by kernel_rfl) (args := [s0_1, f1_1]) (by rw [e138]; exact H)

/-! impl.isGraph$1 -/
def t141 (P : Program) (q0_1 : Value) (t1_1 : Value) (h : Heap) (K : Value → Heap → Prop) : Prop :=
  rop P (Instr.loadAt 3 t1_1) h fun t5_1 =>
  pop P (binA .sub 3 t5_1 (Value.int IntKind.i64 1)) fun t6_1 =>
  callM P 110 #[q0_1, (Value.int IntKind.i64 0), t6_1] h fun t7_1 h_1 =>
  pop P (Op.unary .not t7_1) fun t8_1 =>
  K t8_1 h_1
theorem e141 (q0_1 : Value) (t1_1 : Value) (h : Heap) (K : Value → Heap → Prop) : wpA Try.prog 9 (anOf []) (bodyOf Try.f141) 1 (fun A h => resA Try.prog A h K [.tmp 3]) (fun _ _ _ => False) (fun A h => resA Try.prog A h K [.tmp 3]) (aargs [q0_1, t1_1] 0) h = t141 Try.prog q0_1 t1_1 h K := by kernel_rfl
theorem c141 (q0_1 : Value) (t1_1 : Value) (h : Heap) (K : Value → Heap → Prop) (H : t141 Try.prog q0_1 t1_1 h K) : callM Try.prog 141 #[q0_1, t1_1] h K :=
  callM_of_wpA mixed (fn := Try.f141) Try.func141 (c := bodyOf Try.f141) rfl (of_decide_eq_true (by kernel_rfl)) (anOf []) 7 9 (by kernel_rfl) rfl [.tmp 3] (by kernel_rfl) (args := [q0_1, t1_1]) (by rw [e141]; exact H)

end Go.Proofs.Ytjinpagnbflmiaa
