/-
  What each function that the law 'FnExactVisitsOf' comes to asks of the heap, named; tied to the loaded program by the kernel. Written by a program.
-/
import Derived.Test.YtkphbhochacllaaProg
import Derived.Test.YtkphbhochacllaaM1
set_option linter.unusedVariables false
namespace Go.Proofs.Ytkphbhochacllaa
open Go Go.Mx
theorem mixed : Try.prog.follows .mixedOrders = true := by kernel_rfl
/-! laws.FnExactVisitsOf -/
def t13 (P : Program) (aG0_1 : Value) (aW1_1 : Value) (aN2_1 : Value) (h : Heap) (K : Value → Heap → Prop) : Prop :=
  eop P (Instr.box 34 aG0_1) h fun aG3_1 h_1 =>
  eop P (Instr.box 35 aW1_1) h_1 fun aW4_1 h_2 =>
  rop P (Instr.loadAt 34 aG3_1) h_2 fun t19_1 =>
  callM P 24 #[t19_1, (Value.int IntKind.i64 1048576)] h_2 fun t21_1 h_3 =>
  pop P (binA .lss 3 t21_1 (Value.int IntKind.i64 0)) fun t23_1 =>
  condM t23_1
  (K (Value.bool true) h_3)
  (rop P (Instr.loadAt 35 aW4_1) h_3 fun t24_1 =>
  callM P 33 #[t24_1, t21_1] h_3 fun t26_1 h_4 =>
  pop P (binA .lss 3 t26_1 (Value.int IntKind.i64 0)) fun t28_1 =>
  condM t28_1
  (K (Value.bool true) h_4)
  (rop P (Instr.loadAt 34 aG3_1) h_4 fun t30_1 =>
  rop P (Instr.loadAt 35 aW4_1) h_4 fun t32_1 =>
  callM P 26 #[t30_1] h_4 fun t31_1 h_5 =>
  (∀ w : World, w.heap = h_5 → (Instr.loadAt 35 aW4_1).run P w = .ok t32_1 w) ∧
  callM P 35 #[t32_1] h_5 fun t33_1 h_6 =>
  callM P 56 #[t31_1, t33_1, aN2_1] h_6 fun t35_1 h_7 =>
  pop P (Instr.extract t35_1 0) fun t36_1 =>
  pop P (Instr.extract t35_1 1) fun t37_1 =>
  rop P (Instr.loadAt 34 aG3_1) h_7 fun t38_1 =>
  callM P 26 #[t38_1] h_7 fun t39_1 h_8 =>
  eop P (Instr.alloc 24 true (.tuple #[])) h_8 fun x010_1 h_9 =>
  uop P (Instr.storeAt 24 x010_1 t39_1) h_9 fun u_1 h_10 =>
  rop P (Instr.loadAt 35 aW4_1) h_10 fun t40_1 =>
  callM P 35 #[t40_1] h_10 fun t41_1 h_11 =>
  eop P (Instr.alloc 27 true (.tuple #[])) h_11 fun x111_1 h_12 =>
  uop P (Instr.storeAt 27 x111_1 t41_1) h_12 fun u_2 h_13 =>
  rop P (Instr.loadAt 24 x010_1) h_13 fun t43_1 =>
  rop P (Instr.loadAt 27 x111_1) h_13 fun t44_1 =>
  callM P 57 #[t43_1, t44_1, aN2_1] h_13 fun t46_1 h_14 =>
  pop P (Instr.extract t46_1 0) fun t47_1 =>
  pop P (Instr.extract t46_1 1) fun t48_1 =>
  callM P 53 #[t47_1, t36_1] h_14 fun t51_1 h_15 =>
  pop P (Op.unary .not t51_1) fun t52_1 =>
  guardM t52_1 false (fun k_1 => k_1 t48_1 h_15) h_15 fun t54_1 h_16 =>
  guardM t52_1 false (fun k_2 => k_2 t37_1 h_16) h_16 fun t55_1 h_17 =>
  guardM t52_1 false (fun k_3 => pop P (binE .neq 4 (.tmp 54) (.tmp 55) t54_1 t55_1) fun t56_1 =>
  k_3 t56_1 h_17) h_17 fun t56_2 h_18 =>
  pop P (pickS t52_1 (Value.bool true) t56_2) fun t57_1 =>
  condM t57_1
  (K (Value.bool false) h_18)
  (rop P (Instr.loadAt 24 x010_1) h_18 fun t58_1 =>
  rop P (Instr.loadAt 34 aG3_1) h_18 fun t59_1 =>
  callM P 26 #[t59_1] h_18 fun t60_1 h_19 =>
  (∀ w : World, w.heap = h_19 → (Instr.loadAt 24 x010_1).run P w = .ok t58_1 w) ∧
  callM P 28 #[t58_1, t60_1] h_19 fun t61_1 h_20 =>
  pop P (Op.unary .not t61_1) fun t62_1 =>
  condM t62_1
  (K (Value.bool false) h_20)
  (rop P (Instr.loadAt 27 x111_1) h_20 fun t63_1 =>
  rop P (Instr.loadAt 35 aW4_1) h_20 fun t64_1 =>
  callM P 35 #[t64_1] h_20 fun t65_1 h_21 =>
  (∀ w : World, w.heap = h_21 → (Instr.loadAt 27 x111_1).run P w = .ok t63_1 w) ∧
  callM P 37 #[t63_1, t65_1] h_21 fun t66_1 h_22 =>
  pop P (Op.unary .not t66_1) fun t67_1 =>
  condM t67_1
  (K (Value.bool false) h_22)
  (rop P (Instr.loadAt 24 x010_1) h_22 fun t68_1 =>
  callM P 29 #[t68_1, (Value.int IntKind.i64 1)] h_22 fun t70_1 h_23 =>
  rop P (Instr.loadAt 27 x111_1) h_23 fun t71_1 =>
  callM P 45 #[t71_1, t70_1] h_23 fun t73_1 h_24 =>
  pop P (binA .lss 3 t73_1 (Value.int IntKind.i64 0)) fun t75_1 =>
  guardM t75_1 false (fun k_4 => k_4 t47_1 h_24) h_24 fun t77_1 h_25 =>
  guardM t75_1 false (fun k_5 => k_5 t36_1 h_25) h_25 fun t78_1 h_26 =>
  guardM t75_1 false (fun k_6 => callM P 53 #[t77_1, t78_1] h_26 fun t79_1 h_27 =>
  k_6 t79_1 h_27) h_26 fun t79_2 h_28 =>
  guardM t75_1 false (fun k_7 => pop P (Op.unary .not t79_2) fun t80_1 =>
  k_7 t80_1 h_28) h_28 fun t80_2 h_29 =>
  pop P (pickS t75_1 (Value.bool true) t80_2) fun t81_1 =>
  guardM t81_1 false (fun k_8 => k_8 t48_1 h_29) h_29 fun t83_1 h_30 =>
  guardM t81_1 false (fun k_9 => k_9 t37_1 h_30) h_30 fun t84_1 h_31 =>
  guardM t81_1 false (fun k_10 => pop P (binE .neq 4 (.tmp 83) (.tmp 84) t83_1 t84_1) fun t85_1 =>
  k_10 t85_1 h_31) h_31 fun t85_2 h_32 =>
  pop P (pickS t81_1 (Value.bool true) t85_2) fun t86_1 =>
  condM t86_1
  (K (Value.bool false) h_32)
  (callM P 54 #[t47_1, (Value.int IntKind.i64 1)] h_32 fun t89_1 h_33 =>
  callM P 55 #[t47_1, (Value.int IntKind.i64 1)] h_33 fun t92_1 h_34 =>
  pop P (binA .lss 3 t92_1 (Value.int IntKind.i64 0)) fun t94_1 =>
  condM t94_1
  (K (Value.bool false) h_34)
  (pop P (binE .neq 3 (.tmp 95) (.tmp 96) t92_1 t89_1) fun t97_1 =>
  condM t97_1
  (K (Value.bool false) h_34)
  (rop P (Instr.loadAt 34 aG3_1) h_34 fun t99_1 =>
  rop P (Instr.loadAt 35 aW4_1) h_34 fun t101_1 =>
  callM P 26 #[t99_1] h_34 fun t100_1 h_35 =>
  (∀ w : World, w.heap = h_35 → (Instr.loadAt 35 aW4_1).run P w = .ok t101_1 w) ∧
  callM P 35 #[t101_1] h_35 fun t102_1 h_36 =>
  callM P 57 #[t100_1, t102_1, aN2_1] h_36 fun t104_1 h_37 =>
  pop P (Instr.extract t104_1 0) fun t105_1 =>
  pop P (Instr.extract t104_1 1) fun t106_1 =>
  callM P 53 #[t105_1, t36_1] h_37 fun t109_1 h_38 =>
  pop P (Op.unary .not t109_1) fun t110_1 =>
  guardM t110_1 false (fun k_11 => k_11 t106_1 h_38) h_38 fun t112_1 h_39 =>
  guardM t110_1 false (fun k_12 => k_12 t37_1 h_39) h_39 fun t113_1 h_40 =>
  guardM t110_1 false (fun k_13 => pop P (binE .neq 4 (.tmp 112) (.tmp 113) t112_1 t113_1) fun t114_1 =>
  k_13 t114_1 h_40) h_40 fun t114_2 h_41 =>
  pop P (pickS t110_1 (Value.bool true) t114_2) fun t115_1 =>
  condM t115_1
  (K (Value.bool false) h_41)
  (callM P 55 #[t47_1, (Value.int IntKind.i64 1)] h_41 fun t118_1 h_42 =>
  pop P (binA .lss 3 t118_1 (Value.int IntKind.i64 0)) fun t120_1 =>
  condM t120_1
  (K (Value.bool false) h_42)
  (pop P (binE .neq 3 (.tmp 121) (.tmp 122) t118_1 t89_1) fun t123_1 =>
  condM t123_1
  (K (Value.bool false) h_42)
  (K (Value.bool true) h_42)))))))))))
theorem e13 (aG0_1 : Value) (aW1_1 : Value) (aN2_1 : Value) (h : Heap) (K : Value → Heap → Prop) : wpA Try.prog 124 (anOf []) (bodyOf Try.f13) 1 (fun A h => resA Try.prog A h K [.tmp 6]) (fun _ _ _ => False) (fun A h => resA Try.prog A h K [.tmp 6]) (aargs [aG0_1, aW1_1, aN2_1] 0) h = t13 Try.prog aG0_1 aW1_1 aN2_1 h K := by kernel_rfl
theorem c13 (aG0_1 : Value) (aW1_1 : Value) (aN2_1 : Value) (h : Heap) (K : Value → Heap → Prop) (H : t13 Try.prog aG0_1 aW1_1 aN2_1 h K) : callM Try.prog 13 #[aG0_1, aW1_1, aN2_1] h K :=
  callM_of_wpA mixed (fn := Try.f13) Try.func13 (c := bodyOf Try.f13) rfl (of_decide_eq_true (by kernel_rfl)) (anOf []) 121 124 (by kernel_rfl) rfl [.tmp 6] (by kernel_rfl) (args := [aG0_1, aW1_1, aN2_1]) (by rw [e13]; exact H)

/-! laws.szGraph -/
def t24 (P : Program) (a0_1 : Value) (left1_1 : Value) (h : Heap) (K : Value → Heap → Prop) : Prop :=
  eop P (Instr.box 34 a0_1) h fun a2_1 h_1 =>
  pop P (Instr.fieldAt 34 a2_1 0) fun t5_1 =>
  rop P (Instr.loadAt 22 t5_1) h_1 fun t6_1 =>
  callM P 63 #[t6_1, left1_1] h_1 fun t8_1 h_2 =>
  pop P (binA .lss 3 t8_1 (Value.int IntKind.i64 0)) fun t10_1 =>
  condM t10_1
  (K (Value.int IntKind.i64 (-1)) h_2)
  (K t8_1 h_2)
theorem e24 (a0_1 : Value) (left1_1 : Value) (h : Heap) (K : Value → Heap → Prop) : wpA Try.prog 12 (anOf []) (bodyOf Try.f24) 1 (fun A h => resA Try.prog A h K [.tmp 4]) (fun _ _ _ => False) (fun A h => resA Try.prog A h K [.tmp 4]) (aargs [a0_1, left1_1] 0) h = t24 Try.prog a0_1 left1_1 h K := by kernel_rfl
theorem c24 (a0_1 : Value) (left1_1 : Value) (h : Heap) (K : Value → Heap → Prop) (H : t24 Try.prog a0_1 left1_1 h K) : callM Try.prog 24 #[a0_1, left1_1] h K :=
  callM_of_wpA mixed (fn := Try.f24) Try.func24 (c := bodyOf Try.f24) rfl (of_decide_eq_true (by kernel_rfl)) (anOf []) 10 12 (by kernel_rfl) rfl [.tmp 4] (by kernel_rfl) (args := [a0_1, left1_1]) (by rw [e24]; exact H)

/-! laws.toGraph -/
def t26 (P : Program) (a0_1 : Value) (h : Heap) (K : Value → Heap → Prop) : Prop :=
  eop P (Instr.box 34 a0_1) h fun a1_1 h_1 =>
  eop P (Instr.alloc 24 true (.tuple #[])) h_1 fun t2_1 h_2 =>
  eop P (Instr.alloc 24 true (.tuple #[])) h_2 fun out3_1 h_3 =>
  pop P (Instr.fieldAt 34 a1_1 0) fun t4_1 =>
  rop P (Instr.loadAt 22 t4_1) h_3 fun t5_1 =>
  callM P 67 #[t5_1] h_3 fun t6_1 h_4 =>
  pop P (Instr.fieldAt 24 out3_1 0) fun t7_1 =>
  uop P (Instr.storeAt 22 t7_1 t6_1) h_4 fun u_1 h_5 =>
  rop P (Instr.loadAt 24 out3_1) h_5 fun t8_1 =>
  uop P (Instr.storeAt 24 t2_1 t8_1) h_5 fun u_2 h_6 =>
  rop P (Instr.loadAt 24 t2_1) h_6 fun r_1 =>
  K r_1 h_6
theorem e26 (a0_1 : Value) (h : Heap) (K : Value → Heap → Prop) : wpA Try.prog 9 (anOf []) (bodyOf Try.f26) 1 (fun A h => resA Try.prog A h K [.cell 2 24]) (fun _ _ _ => False) (fun A h => resA Try.prog A h K [.cell 2 24]) (aargs [a0_1] 0) h = t26 Try.prog a0_1 h K := by kernel_rfl
theorem c26 (a0_1 : Value) (h : Heap) (K : Value → Heap → Prop) (H : t26 Try.prog a0_1 h K) : callM Try.prog 26 #[a0_1] h K :=
  callM_of_wpA mixed (fn := Try.f26) Try.func26 (c := bodyOf Try.f26) rfl (of_decide_eq_true (by kernel_rfl)) (anOf []) 8 9 (by kernel_rfl) rfl [.cell 2 24] (by kernel_rfl) (args := [a0_1]) (by rw [e26]; exact H)

/-! laws.eqGraph -/
def t28 (P : Program) (a0_1 : Value) (b1_1 : Value) (h : Heap) (K : Value → Heap → Prop) : Prop :=
  eop P (Instr.box 24 a0_1) h fun a2_1 h_1 =>
  eop P (Instr.box 24 b1_1) h_1 fun b3_1 h_2 =>
  pop P (Instr.fieldAt 24 a2_1 0) fun t5_1 =>
  rop P (Instr.loadAt 22 t5_1) h_2 fun t6_1 =>
  pop P (Instr.fieldAt 24 b3_1 0) fun t7_1 =>
  rop P (Instr.loadAt 22 t7_1) h_2 fun t8_1 =>
  callM P 71 #[t6_1, t8_1] h_2 fun t9_1 h_3 =>
  pop P (Op.unary .not t9_1) fun t10_1 =>
  condM t10_1
  (K (Value.bool false) h_3)
  (K (Value.bool true) h_3)
theorem e28 (a0_1 : Value) (b1_1 : Value) (h : Heap) (K : Value → Heap → Prop) : wpA Try.prog 11 (anOf []) (bodyOf Try.f28) 1 (fun A h => resA Try.prog A h K [.tmp 4]) (fun _ _ _ => False) (fun A h => resA Try.prog A h K [.tmp 4]) (aargs [a0_1, b1_1] 0) h = t28 Try.prog a0_1 b1_1 h K := by kernel_rfl
theorem c28 (a0_1 : Value) (b1_1 : Value) (h : Heap) (K : Value → Heap → Prop) (H : t28 Try.prog a0_1 b1_1 h K) : callM Try.prog 28 #[a0_1, b1_1] h K :=
  callM_of_wpA mixed (fn := Try.f28) Try.func28 (c := bodyOf Try.f28) rfl (of_decide_eq_true (by kernel_rfl)) (anOf []) 9 11 (by kernel_rfl) rfl [.tmp 4] (by kernel_rfl) (args := [a0_1, b1_1]) (by rw [e28]; exact H)

/-! laws.markGraph -/
def t29 (P : Program) (a0_1 : Value) (k1_1 : Value) (h : Heap) (K : Value → Heap → Prop) : Prop :=
  eop P (Instr.box 24 a0_1) h fun a2_1 h_1 =>
  pop P (Instr.fieldAt 24 a2_1 0) fun t5_1 =>
  rop P (Instr.loadAt 22 t5_1) h_1 fun t6_1 =>
  callM P 72 #[t6_1, k1_1] h_1 fun t8_1 h_2 =>
  K t8_1 h_2
theorem e29 (a0_1 : Value) (k1_1 : Value) (h : Heap) (K : Value → Heap → Prop) : wpA Try.prog 10 (anOf []) (bodyOf Try.f29) 1 (fun A h => resA Try.prog A h K [.tmp 4]) (fun _ _ _ => False) (fun A h => resA Try.prog A h K [.tmp 4]) (aargs [a0_1, k1_1] 0) h = t29 Try.prog a0_1 k1_1 h K := by kernel_rfl
theorem c29 (a0_1 : Value) (k1_1 : Value) (h : Heap) (K : Value → Heap → Prop) (H : t29 Try.prog a0_1 k1_1 h K) : callM Try.prog 29 #[a0_1, k1_1] h K :=
  callM_of_wpA mixed (fn := Try.f29) Try.func29 (c := bodyOf Try.f29) rfl (of_decide_eq_true (by kernel_rfl)) (anOf []) 8 10 (by kernel_rfl) rfl [.tmp 4] (by kernel_rfl) (args := [a0_1, k1_1]) (by rw [e29]; exact H)

/-! laws.szWalk -/
def t33 (P : Program) (a0_1 : Value) (left1_1 : Value) (h : Heap) (K : Value → Heap → Prop) : Prop :=
  eop P (Instr.box 35 a0_1) h fun a2_1 h_1 =>
  pop P (Instr.fieldAt 35 a2_1 0) fun t5_1 =>
  rop P (Instr.loadAt 25 t5_1) h_1 fun t6_1 =>
  callM P 77 #[t6_1, left1_1] h_1 fun t8_1 h_2 =>
  pop P (binA .lss 3 t8_1 (Value.int IntKind.i64 0)) fun t10_1 =>
  condM t10_1
  (K (Value.int IntKind.i64 (-1)) h_2)
  (K t8_1 h_2)
theorem e33 (a0_1 : Value) (left1_1 : Value) (h : Heap) (K : Value → Heap → Prop) : wpA Try.prog 12 (anOf []) (bodyOf Try.f33) 1 (fun A h => resA Try.prog A h K [.tmp 4]) (fun _ _ _ => False) (fun A h => resA Try.prog A h K [.tmp 4]) (aargs [a0_1, left1_1] 0) h = t33 Try.prog a0_1 left1_1 h K := by kernel_rfl
theorem c33 (a0_1 : Value) (left1_1 : Value) (h : Heap) (K : Value → Heap → Prop) (H : t33 Try.prog a0_1 left1_1 h K) : callM Try.prog 33 #[a0_1, left1_1] h K :=
  callM_of_wpA mixed (fn := Try.f33) Try.func33 (c := bodyOf Try.f33) rfl (of_decide_eq_true (by kernel_rfl)) (anOf []) 10 12 (by kernel_rfl) rfl [.tmp 4] (by kernel_rfl) (args := [a0_1, left1_1]) (by rw [e33]; exact H)

/-! laws.toWalk -/
def t35 (P : Program) (a0_1 : Value) (h : Heap) (K : Value → Heap → Prop) : Prop :=
  eop P (Instr.box 35 a0_1) h fun a1_1 h_1 =>
  eop P (Instr.alloc 27 true (.tuple #[])) h_1 fun t2_1 h_2 =>
  eop P (Instr.alloc 27 true (.tuple #[])) h_2 fun out3_1 h_3 =>
  pop P (Instr.fieldAt 35 a1_1 0) fun t4_1 =>
  rop P (Instr.loadAt 25 t4_1) h_3 fun t5_1 =>
  callM P 80 #[t5_1] h_3 fun t6_1 h_4 =>
  pop P (Instr.fieldAt 27 out3_1 0) fun t7_1 =>
  uop P (Instr.storeAt 25 t7_1 t6_1) h_4 fun u_1 h_5 =>
  pop P (Instr.fieldAt 35 a1_1 1) fun t8_1 =>
  rop P (Instr.loadAt 3 t8_1) h_5 fun t9_1 =>
  pop P (Instr.fieldAt 27 out3_1 1) fun t10_1 =>
  uop P (Instr.storeAt 3 t10_1 t9_1) h_5 fun u_2 h_6 =>
  rop P (Instr.loadAt 27 out3_1) h_6 fun t11_1 =>
  uop P (Instr.storeAt 27 t2_1 t11_1) h_6 fun u_3 h_7 =>
  rop P (Instr.loadAt 27 t2_1) h_7 fun r_1 =>
  K r_1 h_7
theorem e35 (a0_1 : Value) (h : Heap) (K : Value → Heap → Prop) : wpA Try.prog 12 (anOf []) (bodyOf Try.f35) 1 (fun A h => resA Try.prog A h K [.cell 2 27]) (fun _ _ _ => False) (fun A h => resA Try.prog A h K [.cell 2 27]) (aargs [a0_1] 0) h = t35 Try.prog a0_1 h K := by kernel_rfl
theorem c35 (a0_1 : Value) (h : Heap) (K : Value → Heap → Prop) (H : t35 Try.prog a0_1 h K) : callM Try.prog 35 #[a0_1] h K :=
  callM_of_wpA mixed (fn := Try.f35) Try.func35 (c := bodyOf Try.f35) rfl (of_decide_eq_true (by kernel_rfl)) (anOf []) 11 12 (by kernel_rfl) rfl [.cell 2 27] (by kernel_rfl) (args := [a0_1]) (by rw [e35]; exact H)

/-! laws.eqWalk -/
def t37 (P : Program) (a0_1 : Value) (b1_1 : Value) (h : Heap) (K : Value → Heap → Prop) : Prop :=
  eop P (Instr.box 27 a0_1) h fun a2_1 h_1 =>
  eop P (Instr.box 27 b1_1) h_1 fun b3_1 h_2 =>
  pop P (Instr.fieldAt 27 a2_1 0) fun t5_1 =>
  rop P (Instr.loadAt 25 t5_1) h_2 fun t6_1 =>
  pop P (Instr.fieldAt 27 b3_1 0) fun t7_1 =>
  rop P (Instr.loadAt 25 t7_1) h_2 fun t8_1 =>
  callM P 53 #[t6_1, t8_1] h_2 fun t9_1 h_3 =>
  pop P (Op.unary .not t9_1) fun t10_1 =>
  condM t10_1
  (K (Value.bool false) h_3)
  (pop P (Instr.fieldAt 27 a2_1 1) fun t11_1 =>
  rop P (Instr.loadAt 3 t11_1) h_3 fun t12_1 =>
  pop P (Instr.fieldAt 27 b3_1 1) fun t13_1 =>
  rop P (Instr.loadAt 3 t13_1) h_3 fun t14_1 =>
  pop P (binE .neq 3 (.tmp 12) (.tmp 14) t12_1 t14_1) fun t15_1 =>
  condM t15_1
  (K (Value.bool false) h_3)
  (K (Value.bool true) h_3))
theorem e37 (a0_1 : Value) (b1_1 : Value) (h : Heap) (K : Value → Heap → Prop) : wpA Try.prog 16 (anOf []) (bodyOf Try.f37) 1 (fun A h => resA Try.prog A h K [.tmp 4]) (fun _ _ _ => False) (fun A h => resA Try.prog A h K [.tmp 4]) (aargs [a0_1, b1_1] 0) h = t37 Try.prog a0_1 b1_1 h K := by kernel_rfl
theorem c37 (a0_1 : Value) (b1_1 : Value) (h : Heap) (K : Value → Heap → Prop) (H : t37 Try.prog a0_1 b1_1 h K) : callM Try.prog 37 #[a0_1, b1_1] h K :=
  callM_of_wpA mixed (fn := Try.f37) Try.func37 (c := bodyOf Try.f37) rfl (of_decide_eq_true (by kernel_rfl)) (anOf []) 14 16 (by kernel_rfl) rfl [.tmp 4] (by kernel_rfl) (args := [a0_1, b1_1]) (by rw [e37]; exact H)

/-! laws.markWalk -/
def t45 (P : Program) (a0_1 : Value) (k1_1 : Value) (h : Heap) (K : Value → Heap → Prop) : Prop :=
  eop P (Instr.box 27 a0_1) h fun a2_1 h_1 =>
  pop P (Instr.fieldAt 27 a2_1 0) fun t5_1 =>
  rop P (Instr.loadAt 25 t5_1) h_1 fun t6_1 =>
  callM P 54 #[t6_1, k1_1] h_1 fun t8_1 h_2 =>
  K t8_1 h_2
theorem e45 (a0_1 : Value) (k1_1 : Value) (h : Heap) (K : Value → Heap → Prop) : wpA Try.prog 10 (anOf []) (bodyOf Try.f45) 1 (fun A h => resA Try.prog A h K [.tmp 4]) (fun _ _ _ => False) (fun A h => resA Try.prog A h K [.tmp 4]) (aargs [a0_1, k1_1] 0) h = t45 Try.prog a0_1 k1_1 h K := by kernel_rfl
theorem c45 (a0_1 : Value) (k1_1 : Value) (h : Heap) (K : Value → Heap → Prop) (H : t45 Try.prog a0_1 k1_1 h K) : callM Try.prog 45 #[a0_1, k1_1] h K :=
  callM_of_wpA mixed (fn := Try.f45) Try.func45 (c := bodyOf Try.f45) rfl (of_decide_eq_true (by kernel_rfl)) (anOf []) 8 10 (by kernel_rfl) rfl [.tmp 4] (by kernel_rfl) (args := [a0_1, k1_1]) (by rw [e45]; exact H)

/-! laws.eqIntS -/
def t53 (P : Program) (a0_1 : Value) (b1_1 : Value) (h : Heap) (K : Value → Heap → Prop) : Prop :=
  pop P (lenS 25 3 a0_1) fun t7_1 =>
  pop P (lenS 25 3 b1_1) fun t9_1 =>
  pop P (binE .neq 3 (.tmp 7) (.tmp 9) t7_1 t9_1) fun t10_1 =>
  condM t10_1
  (K (Value.bool false) h)
  (∃ (I_1 : List Value → Heap → Prop) (μ_1 : List Value → Heap → Nat), I_1 [(Value.int IntKind.i64 0)] h ∧
  ∀ (junk_1 : Nat → Value) (i5_1 : Value) (h_1 : Heap), I_1 [i5_1] h_1 →
  pop P (lenS 25 3 a0_1) fun t13_1 =>
  pop P (binA .lss 3 i5_1 t13_1) fun t14_1 =>
  condM t14_1
  (pop P (Instr.indexAt 25 a0_1 i5_1) fun t19_1 =>
  rop P (Instr.loadAt 3 t19_1) h_1 fun t20_1 =>
  pop P (Instr.indexAt 25 b1_1 i5_1) fun t23_1 =>
  rop P (Instr.loadAt 3 t23_1) h_1 fun t24_1 =>
  pop P (binE .neq 3 (.tmp 20) (.tmp 24) t20_1 t24_1) fun t25_1 =>
  condM t25_1
  (K (Value.bool false) h_1)
  (pop P (binA .add 3 i5_1 (Value.int IntKind.i64 1)) fun t16_1 =>
  I_1 [t16_1] h_1 ∧ μ_1 [t16_1] h_1 < μ_1 [i5_1] h_1))
  (K (Value.bool true) h_1))
theorem e53 (a0_1 : Value) (b1_1 : Value) (h : Heap) (K : Value → Heap → Prop) : wpA Try.prog 26 (anOf [(58, [5])]) (bodyOf Try.f53) 1 (fun A h => resA Try.prog A h K [.tmp 4]) (fun _ _ _ => False) (fun A h => resA Try.prog A h K [.tmp 4]) (aargs [a0_1, b1_1] 0) h = t53 Try.prog a0_1 b1_1 h K := by kernel_rfl
theorem c53 (a0_1 : Value) (b1_1 : Value) (h : Heap) (K : Value → Heap → Prop) (H : t53 Try.prog a0_1 b1_1 h K) : callM Try.prog 53 #[a0_1, b1_1] h K :=
  callM_of_wpA mixed (fn := Try.f53) Try.func53 (c := bodyOf Try.f53) rfl (of_decide_eq_true (by kernel_rfl)) (anOf [(58, [5])]) 24 26 (by kernel_rfl) rfl [.tmp 4] (by kernel_rfl) (args := [a0_1, b1_1]) (by rw [e53]; exact H)

/-! laws.markIntS -/
def t54 (P : Program) (a0_1 : Value) (k1_1 : Value) (h : Heap) (K : Value → Heap → Prop) : Prop :=
  ∃ (I_1 : List Value → Heap → Prop) (μ_1 : List Value → Heap → Nat), I_1 [k1_1, (Value.int IntKind.i64 0)] h ∧
  ∀ (junk_1 : Nat → Value) (k1_2 : Value) (i5_1 : Value) (h_1 : Heap), I_1 [k1_2, i5_1] h_1 →
  pop P (lenS 25 3 a0_1) fun t8_1 =>
  pop P (binA .lss 3 i5_1 t8_1) fun t9_1 =>
  condM t9_1
  (pop P (Instr.indexAt 25 a0_1 i5_1) fun t15_1 =>
  uop P (Instr.storeAt 3 t15_1 k1_2) h_1 fun u_1 h_2 =>
  pop P (binA .add 3 k1_2 (Value.int IntKind.i64 1)) fun t17_1 =>
  pop P (binA .add 3 i5_1 (Value.int IntKind.i64 1)) fun t11_1 =>
  I_1 [t17_1, t11_1] h_2 ∧ μ_1 [t17_1, t11_1] h_2 < μ_1 [k1_2, i5_1] h_1)
  (K k1_2 h_1)
theorem e54 (a0_1 : Value) (k1_1 : Value) (h : Heap) (K : Value → Heap → Prop) : wpA Try.prog 19 (anOf [(26, [1, 5])]) (bodyOf Try.f54) 1 (fun A h => resA Try.prog A h K [.tmp 4]) (fun _ _ _ => False) (fun A h => resA Try.prog A h K [.tmp 4]) (aargs [a0_1, k1_1] 0) h = t54 Try.prog a0_1 k1_1 h K := by kernel_rfl
theorem c54 (a0_1 : Value) (k1_1 : Value) (h : Heap) (K : Value → Heap → Prop) (H : t54 Try.prog a0_1 k1_1 h K) : callM Try.prog 54 #[a0_1, k1_1] h K :=
  callM_of_wpA mixed (fn := Try.f54) Try.func54 (c := bodyOf Try.f54) rfl (of_decide_eq_true (by kernel_rfl)) (anOf [(26, [1, 5])]) 17 19 (by kernel_rfl) rfl [.tmp 4] (by kernel_rfl) (args := [a0_1, k1_1]) (by rw [e54]; exact H)

/-! laws.heldIntS -/
def t55 (P : Program) (a0_1 : Value) (k1_1 : Value) (h : Heap) (K : Value → Heap → Prop) : Prop :=
  ∃ (I_1 : List Value → Heap → Prop) (μ_1 : List Value → Heap → Nat), I_1 [k1_1, (Value.int IntKind.i64 0)] h ∧
  ∀ (junk_1 : Nat → Value) (k1_2 : Value) (i5_1 : Value) (h_1 : Heap), I_1 [k1_2, i5_1] h_1 →
  pop P (lenS 25 3 a0_1) fun t8_1 =>
  pop P (binA .lss 3 i5_1 t8_1) fun t9_1 =>
  condM t9_1
  (pop P (Instr.indexAt 25 a0_1 i5_1) fun t14_1 =>
  rop P (Instr.loadAt 3 t14_1) h_1 fun t15_1 =>
  pop P (binE .neq 3 (.tmp 15) (.tmp 16) t15_1 k1_2) fun t17_1 =>
  condM t17_1
  (K (Value.int IntKind.i64 (-1)) h_1)
  (pop P (binA .add 3 k1_2 (Value.int IntKind.i64 1)) fun t19_1 =>
  pop P (binA .add 3 i5_1 (Value.int IntKind.i64 1)) fun t11_1 =>
  I_1 [t19_1, t11_1] h_1 ∧ μ_1 [t19_1, t11_1] h_1 < μ_1 [k1_2, i5_1] h_1))
  (K k1_2 h_1)
theorem e55 (a0_1 : Value) (k1_1 : Value) (h : Heap) (K : Value → Heap → Prop) : wpA Try.prog 21 (anOf [(26, [1, 5])]) (bodyOf Try.f55) 1 (fun A h => resA Try.prog A h K [.tmp 4]) (fun _ _ _ => False) (fun A h => resA Try.prog A h K [.tmp 4]) (aargs [a0_1, k1_1] 0) h = t55 Try.prog a0_1 k1_1 h K := by kernel_rfl
theorem c55 (a0_1 : Value) (k1_1 : Value) (h : Heap) (K : Value → Heap → Prop) (H : t55 Try.prog a0_1 k1_1 h K) : callM Try.prog 55 #[a0_1, k1_1] h K :=
  callM_of_wpA mixed (fn := Try.f55) Try.func55 (c := bodyOf Try.f55) rfl (of_decide_eq_true (by kernel_rfl)) (anOf [(26, [1, 5])]) 19 21 (by kernel_rfl) rfl [.tmp 4] (by kernel_rfl) (args := [a0_1, k1_1]) (by rw [e55]; exact H)

/-! spec.VisitsOf -/
def t56 (P : Program) (g0_1 : Value) (w1_1 : Value) (n2_1 : Value) (h : Heap) (K : Value → Heap → Prop) : Prop :=
  eop P (Instr.box 24 g0_1) h fun g3_1 h_1 =>
  eop P (Instr.box 27 w1_1) h_1 fun w4_1 h_2 =>
  rop P (Instr.loadAt 24 g3_1) h_2 fun t10_1 =>
  rop P (Instr.loadAt 27 w4_1) h_2 fun t11_1 =>
  callM P 94 #[t10_1, t11_1, n2_1] h_2 fun t13_1 h_3 =>
  pop P (Op.unary .not t13_1) fun t14_1 =>
  condM t14_1
  (K (.tuple #[(Value.slice none 0 0), (Value.bool false)]) h_3)
  (rop P (Instr.loadAt 24 g3_1) h_3 fun t16_1 =>
  rop P (Instr.loadAt 27 w4_1) h_3 fun t17_1 =>
  callM P 90 #[t16_1, t17_1, n2_1] h_3 fun t19_1 h_4 =>
  pop P (Instr.extract t19_1 0) fun t20_1 =>
  pop P (Instr.extract t19_1 1) fun t21_1 =>
  eop P (Instr.alloc 92 true (.tuple #[])) h_4 fun r8_1 h_5 =>
  uop P (Instr.storeAt 92 r8_1 t20_1) h_5 fun u_1 h_6 =>
  pop P (Instr.fieldAt 92 r8_1 2) fun t22_1 =>
  rop P (Instr.loadAt 25 t22_1) h_6 fun t23_1 =>
  K (.tuple #[t23_1, t21_1]) h_6)
theorem e56 (g0_1 : Value) (w1_1 : Value) (n2_1 : Value) (h : Heap) (K : Value → Heap → Prop) : wpA Try.prog 25 (anOf []) (bodyOf Try.f56) 1 (fun A h => resA Try.prog A h K [.tmp 6, .tmp 7]) (fun _ _ _ => False) (fun A h => resA Try.prog A h K [.tmp 6, .tmp 7]) (aargs [g0_1, w1_1, n2_1] 0) h = t56 Try.prog g0_1 w1_1 n2_1 h K := by kernel_rfl
theorem c56 (g0_1 : Value) (w1_1 : Value) (n2_1 : Value) (h : Heap) (K : Value → Heap → Prop) (H : t56 Try.prog g0_1 w1_1 n2_1 h K) : callM Try.prog 56 #[g0_1, w1_1, n2_1] h K :=
  callM_of_wpA mixed (fn := Try.f56) Try.func56 (c := bodyOf Try.f56) rfl (of_decide_eq_true (by kernel_rfl)) (anOf []) 22 25 (by kernel_rfl) rfl [.tmp 6, .tmp 7] (by kernel_rfl) (args := [g0_1, w1_1, n2_1]) (by rw [e56]; exact H)

/-! impl.VisitsOf -/
def t57 (P : Program) (g0_1 : Value) (w1_1 : Value) (n2_1 : Value) (h : Heap) (K : Value → Heap → Prop) : Prop :=
  eop P (Instr.box 24 g0_1) h fun g3_1 h_1 =>
  eop P (Instr.box 27 w1_1) h_1 fun w4_1 h_2 =>
  rop P (Instr.loadAt 24 g3_1) h_2 fun t10_1 =>
  rop P (Instr.loadAt 27 w4_1) h_2 fun t11_1 =>
  callM P 91 #[t10_1, t11_1, n2_1, (Value.int IntKind.i64 2000)] h_2 fun t13_1 h_3 =>
  pop P (Op.unary .not t13_1) fun t14_1 =>
  condM t14_1
  (K (.tuple #[(Value.slice none 0 0), (Value.bool false)]) h_3)
  (∃ J_1 : List Value → Heap → Prop, (rop P (Instr.loadAt 27 w4_1) h_3 fun t15_1 =>
  pop P (Instr.fieldAt 24 g3_1 0) fun t17_1 =>
  rop P (Instr.loadAt 22 t17_1) h_3 fun t18_1 =>
  pop P (lenS 22 3 t18_1) fun t19_1 =>
  (callM P 89 #[t15_1] h_3 fun t16_1 h_4 =>
  (∀ w : World, w.heap = h_4 → (Instr.loadAt 22 t17_1).run P w = .ok t18_1 w) ∧
  (eop P (Instr.makeSlice 25 t19_1 t19_1) h_4 fun t20_1 h_5 =>
  (∀ w : World, w.heap = h_5 → (Instr.loadAt 22 t17_1).run P w = .ok t18_1 w) ∧
  (eop P (Instr.alloc 27 true (.tuple #[])) h_5 fun now8_1 h_6 =>
  (∀ w : World, w.heap = h_6 → (Instr.loadAt 22 t17_1).run P w = .ok t18_1 w) ∧
  eop P (Instr.alloc 25 true (.tuple #[])) h_6 fun out9_1 h_7 =>
  (∀ w : World, w.heap = h_7 → (Instr.loadAt 22 t17_1).run P w = .ok t18_1 w) ∧
  uop P (Instr.storeAt 27 now8_1 t16_1) h_7 fun u_1 h_8 =>
  (∀ w : World, w.heap = h_8 → (Instr.loadAt 22 t17_1).run P w = .ok t18_1 w) ∧
  uop P (Instr.storeAt 25 out9_1 t20_1) h_8 fun u_2 h_9 =>
  J_1 [now8_1, out9_1] h_9) ∧
  (eop P (Instr.alloc 25 true (.tuple #[])) h_5 fun out9_2 h_10 =>
  (∀ w : World, w.heap = h_10 → (Instr.loadAt 22 t17_1).run P w = .ok t18_1 w) ∧
  eop P (Instr.alloc 27 true (.tuple #[])) h_10 fun now8_2 h_11 =>
  (∀ w : World, w.heap = h_11 → (Instr.loadAt 22 t17_1).run P w = .ok t18_1 w) ∧
  uop P (Instr.storeAt 27 now8_2 t16_1) h_11 fun u_3 h_12 =>
  (∀ w : World, w.heap = h_12 → (Instr.loadAt 22 t17_1).run P w = .ok t18_1 w) ∧
  uop P (Instr.storeAt 25 out9_2 t20_1) h_12 fun u_4 h_13 =>
  J_1 [now8_2, out9_2] h_13)) ∧
  (eop P (Instr.alloc 27 true (.tuple #[])) h_4 fun now8_3 h_14 =>
  (∀ w : World, w.heap = h_14 → (Instr.loadAt 22 t17_1).run P w = .ok t18_1 w) ∧
  (eop P (Instr.makeSlice 25 t19_1 t19_1) h_14 fun t20_2 h_15 =>
  (∀ w : World, w.heap = h_15 → (Instr.loadAt 22 t17_1).run P w = .ok t18_1 w) ∧
  eop P (Instr.alloc 25 true (.tuple #[])) h_15 fun out9_3 h_16 =>
  (∀ w : World, w.heap = h_16 → (Instr.loadAt 22 t17_1).run P w = .ok t18_1 w) ∧
  uop P (Instr.storeAt 27 now8_3 t16_1) h_16 fun u_5 h_17 =>
  (∀ w : World, w.heap = h_17 → (Instr.loadAt 22 t17_1).run P w = .ok t18_1 w) ∧
  uop P (Instr.storeAt 25 out9_3 t20_2) h_17 fun u_6 h_18 =>
  J_1 [now8_3, out9_3] h_18) ∧
  (eop P (Instr.alloc 25 true (.tuple #[])) h_14 fun out9_4 h_19 =>
  (∀ w : World, w.heap = h_19 → (Instr.loadAt 22 t17_1).run P w = .ok t18_1 w) ∧
  (eop P (Instr.makeSlice 25 t19_1 t19_1) h_19 fun t20_3 h_20 =>
  (∀ w : World, w.heap = h_20 → (Instr.loadAt 22 t17_1).run P w = .ok t18_1 w) ∧
  uop P (Instr.storeAt 27 now8_3 t16_1) h_20 fun u_7 h_21 =>
  (∀ w : World, w.heap = h_21 → (Instr.loadAt 22 t17_1).run P w = .ok t18_1 w) ∧
  uop P (Instr.storeAt 25 out9_4 t20_3) h_21 fun u_8 h_22 =>
  J_1 [now8_3, out9_4] h_22) ∧
  (uop P (Instr.storeAt 27 now8_3 t16_1) h_19 fun u_9 h_23 =>
  (∀ w : World, w.heap = h_23 → (Instr.loadAt 22 t17_1).run P w = .ok t18_1 w) ∧
  eop P (Instr.makeSlice 25 t19_1 t19_1) h_23 fun t20_4 h_24 =>
  (∀ w : World, w.heap = h_24 → (Instr.loadAt 22 t17_1).run P w = .ok t18_1 w) ∧
  uop P (Instr.storeAt 25 out9_4 t20_4) h_24 fun u_10 h_25 =>
  J_1 [now8_3, out9_4] h_25))) ∧
  (eop P (Instr.alloc 25 true (.tuple #[])) h_4 fun out9_5 h_26 =>
  (∀ w : World, w.heap = h_26 → (Instr.loadAt 22 t17_1).run P w = .ok t18_1 w) ∧
  (eop P (Instr.makeSlice 25 t19_1 t19_1) h_26 fun t20_5 h_27 =>
  (∀ w : World, w.heap = h_27 → (Instr.loadAt 22 t17_1).run P w = .ok t18_1 w) ∧
  eop P (Instr.alloc 27 true (.tuple #[])) h_27 fun now8_4 h_28 =>
  (∀ w : World, w.heap = h_28 → (Instr.loadAt 22 t17_1).run P w = .ok t18_1 w) ∧
  uop P (Instr.storeAt 27 now8_4 t16_1) h_28 fun u_11 h_29 =>
  (∀ w : World, w.heap = h_29 → (Instr.loadAt 22 t17_1).run P w = .ok t18_1 w) ∧
  uop P (Instr.storeAt 25 out9_5 t20_5) h_29 fun u_12 h_30 =>
  J_1 [now8_4, out9_5] h_30) ∧
  (eop P (Instr.alloc 27 true (.tuple #[])) h_26 fun now8_5 h_31 =>
  (∀ w : World, w.heap = h_31 → (Instr.loadAt 22 t17_1).run P w = .ok t18_1 w) ∧
  (eop P (Instr.makeSlice 25 t19_1 t19_1) h_31 fun t20_6 h_32 =>
  (∀ w : World, w.heap = h_32 → (Instr.loadAt 22 t17_1).run P w = .ok t18_1 w) ∧
  uop P (Instr.storeAt 27 now8_5 t16_1) h_32 fun u_13 h_33 =>
  (∀ w : World, w.heap = h_33 → (Instr.loadAt 22 t17_1).run P w = .ok t18_1 w) ∧
  uop P (Instr.storeAt 25 out9_5 t20_6) h_33 fun u_14 h_34 =>
  J_1 [now8_5, out9_5] h_34) ∧
  (uop P (Instr.storeAt 27 now8_5 t16_1) h_31 fun u_15 h_35 =>
  (∀ w : World, w.heap = h_35 → (Instr.loadAt 22 t17_1).run P w = .ok t18_1 w) ∧
  eop P (Instr.makeSlice 25 t19_1 t19_1) h_35 fun t20_7 h_36 =>
  (∀ w : World, w.heap = h_36 → (Instr.loadAt 22 t17_1).run P w = .ok t18_1 w) ∧
  uop P (Instr.storeAt 25 out9_5 t20_7) h_36 fun u_16 h_37 =>
  J_1 [now8_5, out9_5] h_37)))) ∧
  (eop P (Instr.makeSlice 25 t19_1 t19_1) h_3 fun t20_8 h_38 =>
  (∀ w : World, w.heap = h_38 → (Instr.loadAt 22 t17_1).run P w = .ok t18_1 w) ∧
  (∀ w : World, w.heap = h_38 → (Instr.loadAt 27 w4_1).run P w = .ok t15_1 w) ∧
  (callM P 89 #[t15_1] h_38 fun t16_2 h_39 =>
  (∀ w : World, w.heap = h_39 → (Instr.loadAt 22 t17_1).run P w = .ok t18_1 w) ∧
  (eop P (Instr.alloc 27 true (.tuple #[])) h_39 fun now8_6 h_40 =>
  (∀ w : World, w.heap = h_40 → (Instr.loadAt 22 t17_1).run P w = .ok t18_1 w) ∧
  eop P (Instr.alloc 25 true (.tuple #[])) h_40 fun out9_6 h_41 =>
  (∀ w : World, w.heap = h_41 → (Instr.loadAt 22 t17_1).run P w = .ok t18_1 w) ∧
  uop P (Instr.storeAt 27 now8_6 t16_2) h_41 fun u_17 h_42 =>
  (∀ w : World, w.heap = h_42 → (Instr.loadAt 22 t17_1).run P w = .ok t18_1 w) ∧
  uop P (Instr.storeAt 25 out9_6 t20_8) h_42 fun u_18 h_43 =>
  J_1 [now8_6, out9_6] h_43) ∧
  (eop P (Instr.alloc 25 true (.tuple #[])) h_39 fun out9_7 h_44 =>
  (∀ w : World, w.heap = h_44 → (Instr.loadAt 22 t17_1).run P w = .ok t18_1 w) ∧
  eop P (Instr.alloc 27 true (.tuple #[])) h_44 fun now8_7 h_45 =>
  (∀ w : World, w.heap = h_45 → (Instr.loadAt 22 t17_1).run P w = .ok t18_1 w) ∧
  uop P (Instr.storeAt 27 now8_7 t16_2) h_45 fun u_19 h_46 =>
  (∀ w : World, w.heap = h_46 → (Instr.loadAt 22 t17_1).run P w = .ok t18_1 w) ∧
  uop P (Instr.storeAt 25 out9_7 t20_8) h_46 fun u_20 h_47 =>
  J_1 [now8_7, out9_7] h_47)) ∧
  (eop P (Instr.alloc 27 true (.tuple #[])) h_38 fun now8_8 h_48 =>
  (∀ w : World, w.heap = h_48 → (Instr.loadAt 22 t17_1).run P w = .ok t18_1 w) ∧
  (∀ w : World, w.heap = h_48 → (Instr.loadAt 27 w4_1).run P w = .ok t15_1 w) ∧
  (callM P 89 #[t15_1] h_48 fun t16_3 h_49 =>
  (∀ w : World, w.heap = h_49 → (Instr.loadAt 22 t17_1).run P w = .ok t18_1 w) ∧
  eop P (Instr.alloc 25 true (.tuple #[])) h_49 fun out9_8 h_50 =>
  (∀ w : World, w.heap = h_50 → (Instr.loadAt 22 t17_1).run P w = .ok t18_1 w) ∧
  uop P (Instr.storeAt 27 now8_8 t16_3) h_50 fun u_21 h_51 =>
  (∀ w : World, w.heap = h_51 → (Instr.loadAt 22 t17_1).run P w = .ok t18_1 w) ∧
  uop P (Instr.storeAt 25 out9_8 t20_8) h_51 fun u_22 h_52 =>
  J_1 [now8_8, out9_8] h_52) ∧
  (eop P (Instr.alloc 25 true (.tuple #[])) h_48 fun out9_9 h_53 =>
  (∀ w : World, w.heap = h_53 → (Instr.loadAt 22 t17_1).run P w = .ok t18_1 w) ∧
  (∀ w : World, w.heap = h_53 → (Instr.loadAt 27 w4_1).run P w = .ok t15_1 w) ∧
  callM P 89 #[t15_1] h_53 fun t16_4 h_54 =>
  (∀ w : World, w.heap = h_54 → (Instr.loadAt 22 t17_1).run P w = .ok t18_1 w) ∧
  uop P (Instr.storeAt 27 now8_8 t16_4) h_54 fun u_23 h_55 =>
  (∀ w : World, w.heap = h_55 → (Instr.loadAt 22 t17_1).run P w = .ok t18_1 w) ∧
  uop P (Instr.storeAt 25 out9_9 t20_8) h_55 fun u_24 h_56 =>
  J_1 [now8_8, out9_9] h_56)) ∧
  (eop P (Instr.alloc 25 true (.tuple #[])) h_38 fun out9_10 h_57 =>
  (∀ w : World, w.heap = h_57 → (Instr.loadAt 22 t17_1).run P w = .ok t18_1 w) ∧
  (∀ w : World, w.heap = h_57 → (Instr.loadAt 27 w4_1).run P w = .ok t15_1 w) ∧
  (callM P 89 #[t15_1] h_57 fun t16_5 h_58 =>
  (∀ w : World, w.heap = h_58 → (Instr.loadAt 22 t17_1).run P w = .ok t18_1 w) ∧
  eop P (Instr.alloc 27 true (.tuple #[])) h_58 fun now8_9 h_59 =>
  (∀ w : World, w.heap = h_59 → (Instr.loadAt 22 t17_1).run P w = .ok t18_1 w) ∧
  uop P (Instr.storeAt 27 now8_9 t16_5) h_59 fun u_25 h_60 =>
  (∀ w : World, w.heap = h_60 → (Instr.loadAt 22 t17_1).run P w = .ok t18_1 w) ∧
  uop P (Instr.storeAt 25 out9_10 t20_8) h_60 fun u_26 h_61 =>
  J_1 [now8_9, out9_10] h_61) ∧
  (eop P (Instr.alloc 27 true (.tuple #[])) h_57 fun now8_10 h_62 =>
  (∀ w : World, w.heap = h_62 → (Instr.loadAt 22 t17_1).run P w = .ok t18_1 w) ∧
  (∀ w : World, w.heap = h_62 → (Instr.loadAt 27 w4_1).run P w = .ok t15_1 w) ∧
  callM P 89 #[t15_1] h_62 fun t16_6 h_63 =>
  (∀ w : World, w.heap = h_63 → (Instr.loadAt 22 t17_1).run P w = .ok t18_1 w) ∧
  uop P (Instr.storeAt 27 now8_10 t16_6) h_63 fun u_27 h_64 =>
  (∀ w : World, w.heap = h_64 → (Instr.loadAt 22 t17_1).run P w = .ok t18_1 w) ∧
  uop P (Instr.storeAt 25 out9_10 t20_8) h_64 fun u_28 h_65 =>
  J_1 [now8_10, out9_10] h_65))) ∧
  (eop P (Instr.alloc 27 true (.tuple #[])) h_3 fun now8_11 h_66 =>
  (∀ w : World, w.heap = h_66 → (Instr.loadAt 22 t17_1).run P w = .ok t18_1 w) ∧
  (∀ w : World, w.heap = h_66 → (Instr.loadAt 27 w4_1).run P w = .ok t15_1 w) ∧
  (callM P 89 #[t15_1] h_66 fun t16_7 h_67 =>
  (∀ w : World, w.heap = h_67 → (Instr.loadAt 22 t17_1).run P w = .ok t18_1 w) ∧
  (eop P (Instr.makeSlice 25 t19_1 t19_1) h_67 fun t20_9 h_68 =>
  (∀ w : World, w.heap = h_68 → (Instr.loadAt 22 t17_1).run P w = .ok t18_1 w) ∧
  eop P (Instr.alloc 25 true (.tuple #[])) h_68 fun out9_11 h_69 =>
  (∀ w : World, w.heap = h_69 → (Instr.loadAt 22 t17_1).run P w = .ok t18_1 w) ∧
  uop P (Instr.storeAt 27 now8_11 t16_7) h_69 fun u_29 h_70 =>
  (∀ w : World, w.heap = h_70 → (Instr.loadAt 22 t17_1).run P w = .ok t18_1 w) ∧
  uop P (Instr.storeAt 25 out9_11 t20_9) h_70 fun u_30 h_71 =>
  J_1 [now8_11, out9_11] h_71) ∧
  (eop P (Instr.alloc 25 true (.tuple #[])) h_67 fun out9_12 h_72 =>
  (∀ w : World, w.heap = h_72 → (Instr.loadAt 22 t17_1).run P w = .ok t18_1 w) ∧
  (eop P (Instr.makeSlice 25 t19_1 t19_1) h_72 fun t20_10 h_73 =>
  (∀ w : World, w.heap = h_73 → (Instr.loadAt 22 t17_1).run P w = .ok t18_1 w) ∧
  uop P (Instr.storeAt 27 now8_11 t16_7) h_73 fun u_31 h_74 =>
  (∀ w : World, w.heap = h_74 → (Instr.loadAt 22 t17_1).run P w = .ok t18_1 w) ∧
  uop P (Instr.storeAt 25 out9_12 t20_10) h_74 fun u_32 h_75 =>
  J_1 [now8_11, out9_12] h_75) ∧
  (uop P (Instr.storeAt 27 now8_11 t16_7) h_72 fun u_33 h_76 =>
  (∀ w : World, w.heap = h_76 → (Instr.loadAt 22 t17_1).run P w = .ok t18_1 w) ∧
  eop P (Instr.makeSlice 25 t19_1 t19_1) h_76 fun t20_11 h_77 =>
  (∀ w : World, w.heap = h_77 → (Instr.loadAt 22 t17_1).run P w = .ok t18_1 w) ∧
  uop P (Instr.storeAt 25 out9_12 t20_11) h_77 fun u_34 h_78 =>
  J_1 [now8_11, out9_12] h_78))) ∧
  (eop P (Instr.makeSlice 25 t19_1 t19_1) h_66 fun t20_12 h_79 =>
  (∀ w : World, w.heap = h_79 → (Instr.loadAt 22 t17_1).run P w = .ok t18_1 w) ∧
  (∀ w : World, w.heap = h_79 → (Instr.loadAt 27 w4_1).run P w = .ok t15_1 w) ∧
  (callM P 89 #[t15_1] h_79 fun t16_8 h_80 =>
  (∀ w : World, w.heap = h_80 → (Instr.loadAt 22 t17_1).run P w = .ok t18_1 w) ∧
  eop P (Instr.alloc 25 true (.tuple #[])) h_80 fun out9_13 h_81 =>
  (∀ w : World, w.heap = h_81 → (Instr.loadAt 22 t17_1).run P w = .ok t18_1 w) ∧
  uop P (Instr.storeAt 27 now8_11 t16_8) h_81 fun u_35 h_82 =>
  (∀ w : World, w.heap = h_82 → (Instr.loadAt 22 t17_1).run P w = .ok t18_1 w) ∧
  uop P (Instr.storeAt 25 out9_13 t20_12) h_82 fun u_36 h_83 =>
  J_1 [now8_11, out9_13] h_83) ∧
  (eop P (Instr.alloc 25 true (.tuple #[])) h_79 fun out9_14 h_84 =>
  (∀ w : World, w.heap = h_84 → (Instr.loadAt 22 t17_1).run P w = .ok t18_1 w) ∧
  (∀ w : World, w.heap = h_84 → (Instr.loadAt 27 w4_1).run P w = .ok t15_1 w) ∧
  callM P 89 #[t15_1] h_84 fun t16_9 h_85 =>
  (∀ w : World, w.heap = h_85 → (Instr.loadAt 22 t17_1).run P w = .ok t18_1 w) ∧
  uop P (Instr.storeAt 27 now8_11 t16_9) h_85 fun u_37 h_86 =>
  (∀ w : World, w.heap = h_86 → (Instr.loadAt 22 t17_1).run P w = .ok t18_1 w) ∧
  uop P (Instr.storeAt 25 out9_14 t20_12) h_86 fun u_38 h_87 =>
  J_1 [now8_11, out9_14] h_87)) ∧
  (eop P (Instr.alloc 25 true (.tuple #[])) h_66 fun out9_15 h_88 =>
  (∀ w : World, w.heap = h_88 → (Instr.loadAt 22 t17_1).run P w = .ok t18_1 w) ∧
  (∀ w : World, w.heap = h_88 → (Instr.loadAt 27 w4_1).run P w = .ok t15_1 w) ∧
  (callM P 89 #[t15_1] h_88 fun t16_10 h_89 =>
  (∀ w : World, w.heap = h_89 → (Instr.loadAt 22 t17_1).run P w = .ok t18_1 w) ∧
  (eop P (Instr.makeSlice 25 t19_1 t19_1) h_89 fun t20_13 h_90 =>
  (∀ w : World, w.heap = h_90 → (Instr.loadAt 22 t17_1).run P w = .ok t18_1 w) ∧
  uop P (Instr.storeAt 27 now8_11 t16_10) h_90 fun u_39 h_91 =>
  (∀ w : World, w.heap = h_91 → (Instr.loadAt 22 t17_1).run P w = .ok t18_1 w) ∧
  uop P (Instr.storeAt 25 out9_15 t20_13) h_91 fun u_40 h_92 =>
  J_1 [now8_11, out9_15] h_92) ∧
  (uop P (Instr.storeAt 27 now8_11 t16_10) h_89 fun u_41 h_93 =>
  (∀ w : World, w.heap = h_93 → (Instr.loadAt 22 t17_1).run P w = .ok t18_1 w) ∧
  eop P (Instr.makeSlice 25 t19_1 t19_1) h_93 fun t20_14 h_94 =>
  (∀ w : World, w.heap = h_94 → (Instr.loadAt 22 t17_1).run P w = .ok t18_1 w) ∧
  uop P (Instr.storeAt 25 out9_15 t20_14) h_94 fun u_42 h_95 =>
  J_1 [now8_11, out9_15] h_95)) ∧
  (eop P (Instr.makeSlice 25 t19_1 t19_1) h_88 fun t20_15 h_96 =>
  (∀ w : World, w.heap = h_96 → (Instr.loadAt 22 t17_1).run P w = .ok t18_1 w) ∧
  (∀ w : World, w.heap = h_96 → (Instr.loadAt 27 w4_1).run P w = .ok t15_1 w) ∧
  callM P 89 #[t15_1] h_96 fun t16_11 h_97 =>
  (∀ w : World, w.heap = h_97 → (Instr.loadAt 22 t17_1).run P w = .ok t18_1 w) ∧
  uop P (Instr.storeAt 27 now8_11 t16_11) h_97 fun u_43 h_98 =>
  (∀ w : World, w.heap = h_98 → (Instr.loadAt 22 t17_1).run P w = .ok t18_1 w) ∧
  uop P (Instr.storeAt 25 out9_15 t20_15) h_98 fun u_44 h_99 =>
  J_1 [now8_11, out9_15] h_99))) ∧
  (eop P (Instr.alloc 25 true (.tuple #[])) h_3 fun out9_16 h_100 =>
  (∀ w : World, w.heap = h_100 → (Instr.loadAt 22 t17_1).run P w = .ok t18_1 w) ∧
  (∀ w : World, w.heap = h_100 → (Instr.loadAt 27 w4_1).run P w = .ok t15_1 w) ∧
  (callM P 89 #[t15_1] h_100 fun t16_12 h_101 =>
  (∀ w : World, w.heap = h_101 → (Instr.loadAt 22 t17_1).run P w = .ok t18_1 w) ∧
  (eop P (Instr.makeSlice 25 t19_1 t19_1) h_101 fun t20_16 h_102 =>
  (∀ w : World, w.heap = h_102 → (Instr.loadAt 22 t17_1).run P w = .ok t18_1 w) ∧
  eop P (Instr.alloc 27 true (.tuple #[])) h_102 fun now8_12 h_103 =>
  (∀ w : World, w.heap = h_103 → (Instr.loadAt 22 t17_1).run P w = .ok t18_1 w) ∧
  uop P (Instr.storeAt 27 now8_12 t16_12) h_103 fun u_45 h_104 =>
  (∀ w : World, w.heap = h_104 → (Instr.loadAt 22 t17_1).run P w = .ok t18_1 w) ∧
  uop P (Instr.storeAt 25 out9_16 t20_16) h_104 fun u_46 h_105 =>
  J_1 [now8_12, out9_16] h_105) ∧
  (eop P (Instr.alloc 27 true (.tuple #[])) h_101 fun now8_13 h_106 =>
  (∀ w : World, w.heap = h_106 → (Instr.loadAt 22 t17_1).run P w = .ok t18_1 w) ∧
  (eop P (Instr.makeSlice 25 t19_1 t19_1) h_106 fun t20_17 h_107 =>
  (∀ w : World, w.heap = h_107 → (Instr.loadAt 22 t17_1).run P w = .ok t18_1 w) ∧
  uop P (Instr.storeAt 27 now8_13 t16_12) h_107 fun u_47 h_108 =>
  (∀ w : World, w.heap = h_108 → (Instr.loadAt 22 t17_1).run P w = .ok t18_1 w) ∧
  uop P (Instr.storeAt 25 out9_16 t20_17) h_108 fun u_48 h_109 =>
  J_1 [now8_13, out9_16] h_109) ∧
  (uop P (Instr.storeAt 27 now8_13 t16_12) h_106 fun u_49 h_110 =>
  (∀ w : World, w.heap = h_110 → (Instr.loadAt 22 t17_1).run P w = .ok t18_1 w) ∧
  eop P (Instr.makeSlice 25 t19_1 t19_1) h_110 fun t20_18 h_111 =>
  (∀ w : World, w.heap = h_111 → (Instr.loadAt 22 t17_1).run P w = .ok t18_1 w) ∧
  uop P (Instr.storeAt 25 out9_16 t20_18) h_111 fun u_50 h_112 =>
  J_1 [now8_13, out9_16] h_112))) ∧
  (eop P (Instr.makeSlice 25 t19_1 t19_1) h_100 fun t20_19 h_113 =>
  (∀ w : World, w.heap = h_113 → (Instr.loadAt 22 t17_1).run P w = .ok t18_1 w) ∧
  (∀ w : World, w.heap = h_113 → (Instr.loadAt 27 w4_1).run P w = .ok t15_1 w) ∧
  (callM P 89 #[t15_1] h_113 fun t16_13 h_114 =>
  (∀ w : World, w.heap = h_114 → (Instr.loadAt 22 t17_1).run P w = .ok t18_1 w) ∧
  eop P (Instr.alloc 27 true (.tuple #[])) h_114 fun now8_14 h_115 =>
  (∀ w : World, w.heap = h_115 → (Instr.loadAt 22 t17_1).run P w = .ok t18_1 w) ∧
  uop P (Instr.storeAt 27 now8_14 t16_13) h_115 fun u_51 h_116 =>
  (∀ w : World, w.heap = h_116 → (Instr.loadAt 22 t17_1).run P w = .ok t18_1 w) ∧
  uop P (Instr.storeAt 25 out9_16 t20_19) h_116 fun u_52 h_117 =>
  J_1 [now8_14, out9_16] h_117) ∧
  (eop P (Instr.alloc 27 true (.tuple #[])) h_113 fun now8_15 h_118 =>
  (∀ w : World, w.heap = h_118 → (Instr.loadAt 22 t17_1).run P w = .ok t18_1 w) ∧
  (∀ w : World, w.heap = h_118 → (Instr.loadAt 27 w4_1).run P w = .ok t15_1 w) ∧
  callM P 89 #[t15_1] h_118 fun t16_14 h_119 =>
  (∀ w : World, w.heap = h_119 → (Instr.loadAt 22 t17_1).run P w = .ok t18_1 w) ∧
  uop P (Instr.storeAt 27 now8_15 t16_14) h_119 fun u_53 h_120 =>
  (∀ w : World, w.heap = h_120 → (Instr.loadAt 22 t17_1).run P w = .ok t18_1 w) ∧
  uop P (Instr.storeAt 25 out9_16 t20_19) h_120 fun u_54 h_121 =>
  J_1 [now8_15, out9_16] h_121)) ∧
  (eop P (Instr.alloc 27 true (.tuple #[])) h_100 fun now8_16 h_122 =>
  (∀ w : World, w.heap = h_122 → (Instr.loadAt 22 t17_1).run P w = .ok t18_1 w) ∧
  (∀ w : World, w.heap = h_122 → (Instr.loadAt 27 w4_1).run P w = .ok t15_1 w) ∧
  (callM P 89 #[t15_1] h_122 fun t16_15 h_123 =>
  (∀ w : World, w.heap = h_123 → (Instr.loadAt 22 t17_1).run P w = .ok t18_1 w) ∧
  (eop P (Instr.makeSlice 25 t19_1 t19_1) h_123 fun t20_20 h_124 =>
  (∀ w : World, w.heap = h_124 → (Instr.loadAt 22 t17_1).run P w = .ok t18_1 w) ∧
  uop P (Instr.storeAt 27 now8_16 t16_15) h_124 fun u_55 h_125 =>
  (∀ w : World, w.heap = h_125 → (Instr.loadAt 22 t17_1).run P w = .ok t18_1 w) ∧
  uop P (Instr.storeAt 25 out9_16 t20_20) h_125 fun u_56 h_126 =>
  J_1 [now8_16, out9_16] h_126) ∧
  (uop P (Instr.storeAt 27 now8_16 t16_15) h_123 fun u_57 h_127 =>
  (∀ w : World, w.heap = h_127 → (Instr.loadAt 22 t17_1).run P w = .ok t18_1 w) ∧
  eop P (Instr.makeSlice 25 t19_1 t19_1) h_127 fun t20_21 h_128 =>
  (∀ w : World, w.heap = h_128 → (Instr.loadAt 22 t17_1).run P w = .ok t18_1 w) ∧
  uop P (Instr.storeAt 25 out9_16 t20_21) h_128 fun u_58 h_129 =>
  J_1 [now8_16, out9_16] h_129)) ∧
  (eop P (Instr.makeSlice 25 t19_1 t19_1) h_122 fun t20_22 h_130 =>
  (∀ w : World, w.heap = h_130 → (Instr.loadAt 22 t17_1).run P w = .ok t18_1 w) ∧
  (∀ w : World, w.heap = h_130 → (Instr.loadAt 27 w4_1).run P w = .ok t15_1 w) ∧
  callM P 89 #[t15_1] h_130 fun t16_16 h_131 =>
  (∀ w : World, w.heap = h_131 → (Instr.loadAt 22 t17_1).run P w = .ok t18_1 w) ∧
  uop P (Instr.storeAt 27 now8_16 t16_16) h_131 fun u_59 h_132 =>
  (∀ w : World, w.heap = h_132 → (Instr.loadAt 22 t17_1).run P w = .ok t18_1 w) ∧
  uop P (Instr.storeAt 25 out9_16 t20_22) h_132 fun u_60 h_133 =>
  J_1 [now8_16, out9_16] h_133)))) ∧
  ∀ (junk_1 : Nat → Value) (now8_17 : Value) (out9_17 : Value) (h_134 : Heap), J_1 [now8_17, out9_17] h_134 →
  rop P (Instr.loadAt 24 g3_1) h_134 fun t21_1 =>
  pop P (Instr.makeFunc (Fn.func 95) #[] #[out9_17, now8_17]) fun t23_1 =>
  callM P 92 #[t21_1, now8_17, n2_1, t23_1] h_134 fun t24_1 h_135 =>
  pop P (Op.unary .not t24_1) fun t25_1 =>
  condM t25_1
  (K (.tuple #[(Value.slice none 0 0), (Value.bool false)]) h_135)
  (rop P (Instr.loadAt 25 out9_17) h_135 fun t26_1 =>
  K (.tuple #[t26_1, (Value.bool true)]) h_135))
theorem e57 (g0_1 : Value) (w1_1 : Value) (n2_1 : Value) (h : Heap) (K : Value → Heap → Prop) : wpA Try.prog 27 (anOf [(7, [8, 9])]) (bodyOf Try.f57) 1 (fun A h => resA Try.prog A h K [.tmp 6, .tmp 7]) (fun _ _ _ => False) (fun A h => resA Try.prog A h K [.tmp 6, .tmp 7]) (aargs [g0_1, w1_1, n2_1] 0) h = t57 Try.prog g0_1 w1_1 n2_1 h K := by kernel_rfl
theorem c57 (g0_1 : Value) (w1_1 : Value) (n2_1 : Value) (h : Heap) (K : Value → Heap → Prop) (H : t57 Try.prog g0_1 w1_1 n2_1 h K) : callM Try.prog 57 #[g0_1, w1_1, n2_1] h K :=
  callM_of_wpA mixed (fn := Try.f57) Try.func57 (c := bodyOf Try.f57) rfl (of_decide_eq_true (by kernel_rfl)) (anOf [(7, [8, 9])]) 24 27 (by kernel_rfl) rfl [.tmp 6, .tmp 7] (by kernel_rfl) (args := [g0_1, w1_1, n2_1]) (by rw [e57]; exact H)

/-! laws.szIntSS -/
def t63 (P : Program) (a0_1 : Value) (left1_1 : Value) (h : Heap) (K : Value → Heap → Prop) : Prop :=
  pop P (lenS 22 3 a0_1) fun t8_1 =>
  pop P (binA .sub 3 left1_1 t8_1) fun t9_1 =>
  pop P (binA .lss 3 t9_1 (Value.int IntKind.i64 0)) fun t11_1 =>
  condM t11_1
  (K (Value.int IntKind.i64 (-1)) h)
  (∃ (I_1 : List Value → Heap → Prop) (μ_1 : List Value → Heap → Nat), I_1 [t9_1, (Value.int IntKind.i64 0)] h ∧
  ∀ (junk_1 : Nat → Value) (left1_2 : Value) (i5_1 : Value) (h_1 : Heap), I_1 [left1_2, i5_1] h_1 →
  pop P (lenS 22 3 a0_1) fun t14_1 =>
  pop P (binA .lss 3 i5_1 t14_1) fun t15_1 =>
  condM t15_1
  (pop P (Instr.indexAt 22 a0_1 i5_1) fun t20_1 =>
  rop P (Instr.loadAt 25 t20_1) h_1 fun t21_1 =>
  callM P 77 #[t21_1, left1_2] h_1 fun t23_1 h_2 =>
  pop P (binA .lss 3 t23_1 (Value.int IntKind.i64 0)) fun t25_1 =>
  condM t25_1
  (K (Value.int IntKind.i64 (-1)) h_2)
  (pop P (binA .add 3 i5_1 (Value.int IntKind.i64 1)) fun t17_1 =>
  I_1 [t23_1, t17_1] h_2 ∧ μ_1 [t23_1, t17_1] h_2 < μ_1 [left1_2, i5_1] h_1))
  (K left1_2 h_1))
theorem e63 (a0_1 : Value) (left1_1 : Value) (h : Heap) (K : Value → Heap → Prop) : wpA Try.prog 27 (anOf [(122, [1, 5])]) (bodyOf Try.f63) 1 (fun A h => resA Try.prog A h K [.tmp 4]) (fun _ _ _ => False) (fun A h => resA Try.prog A h K [.tmp 4]) (aargs [a0_1, left1_1] 0) h = t63 Try.prog a0_1 left1_1 h K := by kernel_rfl
theorem c63 (a0_1 : Value) (left1_1 : Value) (h : Heap) (K : Value → Heap → Prop) (H : t63 Try.prog a0_1 left1_1 h K) : callM Try.prog 63 #[a0_1, left1_1] h K :=
  callM_of_wpA mixed (fn := Try.f63) Try.func63 (c := bodyOf Try.f63) rfl (of_decide_eq_true (by kernel_rfl)) (anOf [(122, [1, 5])]) 25 27 (by kernel_rfl) rfl [.tmp 4] (by kernel_rfl) (args := [a0_1, left1_1]) (by rw [e63]; exact H)

/-! spec.grPlace -/
def t64 (P : Program) (g0_1 : Value) (p1_1 : Value) (h : Heap) (K : Value → Heap → Prop) : Prop :=
  eop P (Instr.box 24 g0_1) h fun g2_1 h_1 =>
  rop P (Instr.loadAt 24 g2_1) h_1 fun t5_1 =>
  callM P 97 #[t5_1] h_1 fun t6_1 h_2 =>
  guardM t6_1 true (fun k_1 => k_1 p1_1 h_2) h_2 fun t8_1 h_3 =>
  guardM t6_1 true (fun k_2 => pop P (Instr.fieldAt 24 g2_1 0) fun t9_1 =>
  k_2 t9_1 h_3) h_3 fun t9_2 h_4 =>
  guardM t6_1 true (fun k_3 => rop P (Instr.loadAt 22 t9_2) h_4 fun t10_1 =>
  k_3 t10_1 h_4) h_4 fun t10_2 h_5 =>
  guardM t6_1 true (fun k_4 => pop P (lenS 22 3 t10_2) fun t11_1 =>
  k_4 t11_1 h_5) h_5 fun t11_2 h_6 =>
  guardM t6_1 true (fun k_5 => pop P (binA .sub 3 t11_2 (Value.int IntKind.i64 1)) fun t12_1 =>
  k_5 t12_1 h_6) h_6 fun t12_2 h_7 =>
  guardM t6_1 true (fun k_6 => callM P 74 #[t8_1, (Value.int IntKind.i64 0), t12_2] h_7 fun t13_1 h_8 =>
  k_6 t13_1 h_8) h_7 fun t13_2 h_9 =>
  pop P (pickS t6_1 t13_2 (Value.bool false)) fun t14_1 =>
  K t14_1 h_9
theorem e64 (g0_1 : Value) (p1_1 : Value) (h : Heap) (K : Value → Heap → Prop) : wpA Try.prog 15 (anOf []) (bodyOf Try.f64) 1 (fun A h => resA Try.prog A h K [.tmp 4]) (fun _ _ _ => False) (fun A h => resA Try.prog A h K [.tmp 4]) (aargs [g0_1, p1_1] 0) h = t64 Try.prog g0_1 p1_1 h K := by kernel_rfl
theorem c64 (g0_1 : Value) (p1_1 : Value) (h : Heap) (K : Value → Heap → Prop) (H : t64 Try.prog g0_1 p1_1 h K) : callM Try.prog 64 #[g0_1, p1_1] h K :=
  callM_of_wpA mixed (fn := Try.f64) Try.func64 (c := bodyOf Try.f64) rfl (of_decide_eq_true (by kernel_rfl)) (anOf []) 13 15 (by kernel_rfl) rfl [.tmp 4] (by kernel_rfl) (args := [g0_1, p1_1]) (by rw [e64]; exact H)

/-! laws.toIntSS -/
def t67 (P : Program) (a0_1 : Value) (h : Heap) (K : Value → Heap → Prop) : Prop :=
  pop P (lenS 22 3 a0_1) fun t6_1 =>
  eop P (Instr.makeSlice 22 t6_1 t6_1) h fun t7_1 h_1 =>
  ∃ (I_1 : List Value → Heap → Prop) (μ_1 : List Value → Heap → Nat), I_1 [(Value.int IntKind.i64 0)] h_1 ∧
  ∀ (junk_1 : Nat → Value) (i4_1 : Value) (h_2 : Heap), I_1 [i4_1] h_2 →
  pop P (lenS 22 3 a0_1) fun t10_1 =>
  pop P (binA .lss 3 i4_1 t10_1) fun t11_1 =>
  condM t11_1
  (pop P (Instr.indexAt 22 a0_1 i4_1) fun t18_1 =>
  rop P (Instr.loadAt 25 t18_1) h_2 fun t19_1 =>
  callM P 80 #[t19_1] h_2 fun t20_1 h_3 =>
  pop P (Instr.indexAt 22 t7_1 i4_1) fun t21_1 =>
  uop P (Instr.storeAt 25 t21_1 t20_1) h_3 fun u_1 h_4 =>
  pop P (binA .add 3 i4_1 (Value.int IntKind.i64 1)) fun t13_1 =>
  I_1 [t13_1] h_4 ∧ μ_1 [t13_1] h_4 < μ_1 [i4_1] h_2)
  (K t7_1 h_2)
theorem e67 (a0_1 : Value) (h : Heap) (K : Value → Heap → Prop) : wpA Try.prog 23 (anOf [(58, [4])]) (bodyOf Try.f67) 1 (fun A h => resA Try.prog A h K [.tmp 2]) (fun _ _ _ => False) (fun A h => resA Try.prog A h K [.tmp 2]) (aargs [a0_1] 0) h = t67 Try.prog a0_1 h K := by kernel_rfl
theorem c67 (a0_1 : Value) (h : Heap) (K : Value → Heap → Prop) (H : t67 Try.prog a0_1 h K) : callM Try.prog 67 #[a0_1] h K :=
  callM_of_wpA mixed (fn := Try.f67) Try.func67 (c := bodyOf Try.f67) rfl (of_decide_eq_true (by kernel_rfl)) (anOf [(58, [4])]) 22 23 (by kernel_rfl) rfl [.tmp 2] (by kernel_rfl) (args := [a0_1]) (by rw [e67]; exact H)

/-! impl.has -/
def t68 (P : Program) (g0_1 : Value) (places1_1 : Value) (h : Heap) (K : Value → Heap → Prop) : Prop :=
  eop P (Instr.box 24 g0_1) h fun g2_1 h_1 =>
  rop P (Instr.loadAt 24 g2_1) h_1 fun t5_1 =>
  callM P 98 #[t5_1] h_1 fun t6_1 h_2 =>
  guardM t6_1 true (fun k_1 => k_1 places1_1 h_2) h_2 fun t8_1 h_3 =>
  guardM t6_1 true (fun k_2 => pop P (Instr.makeFunc (Fn.func 100) #[] #[g2_1]) fun t9_1 =>
  k_2 t9_1 h_3) h_3 fun t9_2 h_4 =>
  guardM t6_1 true (fun k_3 => callM P 99 #[t8_1, t9_2] h_4 fun t10_1 h_5 =>
  k_3 t10_1 h_5) h_4 fun t10_2 h_6 =>
  guardM t6_1 true (fun k_4 => pop P (Op.unary .not t10_2) fun t11_1 =>
  k_4 t11_1 h_6) h_6 fun t11_2 h_7 =>
  pop P (pickS t6_1 t11_2 (Value.bool false)) fun t12_1 =>
  K t12_1 h_7
theorem e68 (g0_1 : Value) (places1_1 : Value) (h : Heap) (K : Value → Heap → Prop) : wpA Try.prog 13 (anOf []) (bodyOf Try.f68) 1 (fun A h => resA Try.prog A h K [.tmp 4]) (fun _ _ _ => False) (fun A h => resA Try.prog A h K [.tmp 4]) (aargs [g0_1, places1_1] 0) h = t68 Try.prog g0_1 places1_1 h K := by kernel_rfl
theorem c68 (g0_1 : Value) (places1_1 : Value) (h : Heap) (K : Value → Heap → Prop) (H : t68 Try.prog g0_1 places1_1 h K) : callM Try.prog 68 #[g0_1, places1_1] h K :=
  callM_of_wpA mixed (fn := Try.f68) Try.func68 (c := bodyOf Try.f68) rfl (of_decide_eq_true (by kernel_rfl)) (anOf []) 11 13 (by kernel_rfl) rfl [.tmp 4] (by kernel_rfl) (args := [g0_1, places1_1]) (by rw [e68]; exact H)

/-! laws.eqIntSS -/
def t71 (P : Program) (a0_1 : Value) (b1_1 : Value) (h : Heap) (K : Value → Heap → Prop) : Prop :=
  pop P (lenS 22 3 a0_1) fun t7_1 =>
  pop P (lenS 22 3 b1_1) fun t9_1 =>
  pop P (binE .neq 3 (.tmp 7) (.tmp 9) t7_1 t9_1) fun t10_1 =>
  condM t10_1
  (K (Value.bool false) h)
  (∃ (I_1 : List Value → Heap → Prop) (μ_1 : List Value → Heap → Nat), I_1 [(Value.int IntKind.i64 0)] h ∧
  ∀ (junk_1 : Nat → Value) (i5_1 : Value) (h_1 : Heap), I_1 [i5_1] h_1 →
  pop P (lenS 22 3 a0_1) fun t13_1 =>
  pop P (binA .lss 3 i5_1 t13_1) fun t14_1 =>
  condM t14_1
  (pop P (Instr.indexAt 22 a0_1 i5_1) fun t19_1 =>
  rop P (Instr.loadAt 25 t19_1) h_1 fun t20_1 =>
  pop P (Instr.indexAt 22 b1_1 i5_1) fun t23_1 =>
  rop P (Instr.loadAt 25 t23_1) h_1 fun t24_1 =>
  callM P 53 #[t20_1, t24_1] h_1 fun t25_1 h_2 =>
  pop P (Op.unary .not t25_1) fun t26_1 =>
  condM t26_1
  (K (Value.bool false) h_2)
  (pop P (binA .add 3 i5_1 (Value.int IntKind.i64 1)) fun t16_1 =>
  I_1 [t16_1] h_2 ∧ μ_1 [t16_1] h_2 < μ_1 [i5_1] h_1))
  (K (Value.bool true) h_1))
theorem e71 (a0_1 : Value) (b1_1 : Value) (h : Heap) (K : Value → Heap → Prop) : wpA Try.prog 27 (anOf [(58, [5])]) (bodyOf Try.f71) 1 (fun A h => resA Try.prog A h K [.tmp 4]) (fun _ _ _ => False) (fun A h => resA Try.prog A h K [.tmp 4]) (aargs [a0_1, b1_1] 0) h = t71 Try.prog a0_1 b1_1 h K := by kernel_rfl
theorem c71 (a0_1 : Value) (b1_1 : Value) (h : Heap) (K : Value → Heap → Prop) (H : t71 Try.prog a0_1 b1_1 h K) : callM Try.prog 71 #[a0_1, b1_1] h K :=
  callM_of_wpA mixed (fn := Try.f71) Try.func71 (c := bodyOf Try.f71) rfl (of_decide_eq_true (by kernel_rfl)) (anOf [(58, [5])]) 25 27 (by kernel_rfl) rfl [.tmp 4] (by kernel_rfl) (args := [a0_1, b1_1]) (by rw [e71]; exact H)

/-! laws.markIntSS -/
def t72 (P : Program) (a0_1 : Value) (k1_1 : Value) (h : Heap) (K : Value → Heap → Prop) : Prop :=
  ∃ (I_1 : List Value → Heap → Prop) (μ_1 : List Value → Heap → Nat), I_1 [k1_1, (Value.int IntKind.i64 0)] h ∧
  ∀ (junk_1 : Nat → Value) (k1_2 : Value) (i5_1 : Value) (h_1 : Heap), I_1 [k1_2, i5_1] h_1 →
  pop P (lenS 22 3 a0_1) fun t8_1 =>
  pop P (binA .lss 3 i5_1 t8_1) fun t9_1 =>
  condM t9_1
  (pop P (Instr.indexAt 22 a0_1 i5_1) fun t14_1 =>
  rop P (Instr.loadAt 25 t14_1) h_1 fun t15_1 =>
  callM P 54 #[t15_1, k1_2] h_1 fun t17_1 h_2 =>
  pop P (binA .add 3 i5_1 (Value.int IntKind.i64 1)) fun t11_1 =>
  I_1 [t17_1, t11_1] h_2 ∧ μ_1 [t17_1, t11_1] h_2 < μ_1 [k1_2, i5_1] h_1)
  (K k1_2 h_1)
theorem e72 (a0_1 : Value) (k1_1 : Value) (h : Heap) (K : Value → Heap → Prop) : wpA Try.prog 19 (anOf [(26, [1, 5])]) (bodyOf Try.f72) 1 (fun A h => resA Try.prog A h K [.tmp 4]) (fun _ _ _ => False) (fun A h => resA Try.prog A h K [.tmp 4]) (aargs [a0_1, k1_1] 0) h = t72 Try.prog a0_1 k1_1 h K := by kernel_rfl
theorem c72 (a0_1 : Value) (k1_1 : Value) (h : Heap) (K : Value → Heap → Prop) (H : t72 Try.prog a0_1 k1_1 h K) : callM Try.prog 72 #[a0_1, k1_1] h K :=
  callM_of_wpA mixed (fn := Try.f72) Try.func72 (c := bodyOf Try.f72) rfl (of_decide_eq_true (by kernel_rfl)) (anOf [(26, [1, 5])]) 17 19 (by kernel_rfl) rfl [.tmp 4] (by kernel_rfl) (args := [a0_1, k1_1]) (by rw [e72]; exact H)

/-! spec.l1In -/
def t74 (P : Program) (n0_1 : Value) (lo1_1 : Value) (hi2_1 : Value) (h : Heap) (K : Value → Heap → Prop) : Prop :=
  pop P (binA .geq 3 n0_1 lo1_1) fun t9_1 =>
  guardM t9_1 true (fun k_1 => k_1 n0_1 h) h fun t11_1 h_1 =>
  guardM t9_1 true (fun k_2 => k_2 hi2_1 h_1) h_1 fun t12_1 h_2 =>
  guardM t9_1 true (fun k_3 => pop P (binA .leq 3 t11_1 t12_1) fun t13_1 =>
  k_3 t13_1 h_2) h_2 fun t13_2 h_3 =>
  pop P (pickS t9_1 t13_2 (Value.bool false)) fun t14_1 =>
  K t14_1 h_3
theorem e74 (n0_1 : Value) (lo1_1 : Value) (hi2_1 : Value) (h : Heap) (K : Value → Heap → Prop) : wpA Try.prog 15 (anOf []) (bodyOf Try.f74) 1 (fun A h => resA Try.prog A h K [.tmp 6]) (fun _ _ _ => False) (fun A h => resA Try.prog A h K [.tmp 6]) (aargs [n0_1, lo1_1, hi2_1] 0) h = t74 Try.prog n0_1 lo1_1 hi2_1 h K := by kernel_rfl
theorem c74 (n0_1 : Value) (lo1_1 : Value) (hi2_1 : Value) (h : Heap) (K : Value → Heap → Prop) (H : t74 Try.prog n0_1 lo1_1 hi2_1 h K) : callM Try.prog 74 #[n0_1, lo1_1, hi2_1] h K :=
  callM_of_wpA mixed (fn := Try.f74) Try.func74 (c := bodyOf Try.f74) rfl (of_decide_eq_true (by kernel_rfl)) (anOf []) 12 15 (by kernel_rfl) rfl [.tmp 6] (by kernel_rfl) (args := [n0_1, lo1_1, hi2_1]) (by rw [e74]; exact H)

/-! impl.in -/
def t75 (P : Program) (n0_1 : Value) (low1_1 : Value) (high2_1 : Value) (h : Heap) (K : Value → Heap → Prop) : Prop :=
  pop P (binA .leq 3 low1_1 n0_1) fun t9_1 =>
  guardM t9_1 true (fun k_1 => k_1 n0_1 h) h fun t11_1 h_1 =>
  guardM t9_1 true (fun k_2 => k_2 high2_1 h_1) h_1 fun t12_1 h_2 =>
  guardM t9_1 true (fun k_3 => pop P (binA .leq 3 t11_1 t12_1) fun t13_1 =>
  k_3 t13_1 h_2) h_2 fun t13_2 h_3 =>
  pop P (pickS t9_1 t13_2 (Value.bool false)) fun t14_1 =>
  K t14_1 h_3
theorem e75 (n0_1 : Value) (low1_1 : Value) (high2_1 : Value) (h : Heap) (K : Value → Heap → Prop) : wpA Try.prog 15 (anOf []) (bodyOf Try.f75) 1 (fun A h => resA Try.prog A h K [.tmp 6]) (fun _ _ _ => False) (fun A h => resA Try.prog A h K [.tmp 6]) (aargs [n0_1, low1_1, high2_1] 0) h = t75 Try.prog n0_1 low1_1 high2_1 h K := by kernel_rfl
theorem c75 (n0_1 : Value) (low1_1 : Value) (high2_1 : Value) (h : Heap) (K : Value → Heap → Prop) (H : t75 Try.prog n0_1 low1_1 high2_1 h K) : callM Try.prog 75 #[n0_1, low1_1, high2_1] h K :=
  callM_of_wpA mixed (fn := Try.f75) Try.func75 (c := bodyOf Try.f75) rfl (of_decide_eq_true (by kernel_rfl)) (anOf []) 12 15 (by kernel_rfl) rfl [.tmp 6] (by kernel_rfl) (args := [n0_1, low1_1, high2_1]) (by rw [e75]; exact H)

/-! laws.szIntS -/
def t77 (P : Program) (a0_1 : Value) (left1_1 : Value) (h : Heap) (K : Value → Heap → Prop) : Prop :=
  pop P (lenS 25 3 a0_1) fun t7_1 =>
  pop P (binA .sub 3 left1_1 t7_1) fun t8_1 =>
  pop P (binA .lss 3 t8_1 (Value.int IntKind.i64 0)) fun t10_1 =>
  condM t10_1
  (K (Value.int IntKind.i64 (-1)) h)
  (K t8_1 h)
theorem e77 (a0_1 : Value) (left1_1 : Value) (h : Heap) (K : Value → Heap → Prop) : wpA Try.prog 12 (anOf []) (bodyOf Try.f77) 1 (fun A h => resA Try.prog A h K [.tmp 4]) (fun _ _ _ => False) (fun A h => resA Try.prog A h K [.tmp 4]) (aargs [a0_1, left1_1] 0) h = t77 Try.prog a0_1 left1_1 h K := by kernel_rfl
theorem c77 (a0_1 : Value) (left1_1 : Value) (h : Heap) (K : Value → Heap → Prop) (H : t77 Try.prog a0_1 left1_1 h K) : callM Try.prog 77 #[a0_1, left1_1] h K :=
  callM_of_wpA mixed (fn := Try.f77) Try.func77 (c := bodyOf Try.f77) rfl (of_decide_eq_true (by kernel_rfl)) (anOf []) 10 12 (by kernel_rfl) rfl [.tmp 4] (by kernel_rfl) (args := [a0_1, left1_1]) (by rw [e77]; exact H)

/-! spec.waGood -/
def t78 (P : Program) (g0_1 : Value) (w1_1 : Value) (h : Heap) (K : Value → Heap → Prop) : Prop :=
  eop P (Instr.box 24 g0_1) h fun g2_1 h_1 =>
  eop P (Instr.box 27 w1_1) h_1 fun w3_1 h_2 =>
  rop P (Instr.loadAt 24 g2_1) h_2 fun t7_1 =>
  pop P (Instr.fieldAt 27 w3_1 1) fun t8_1 =>
  rop P (Instr.loadAt 3 t8_1) h_2 fun t9_1 =>
  callM P 64 #[t7_1, t9_1] h_2 fun t10_1 h_3 =>
  pop P (Op.unary .not t10_1) fun t11_1 =>
  guardM t11_1 false (fun k_1 => pop P (Instr.fieldAt 27 w3_1 0) fun t13_1 =>
  k_1 t13_1 h_3) h_3 fun t13_2 h_4 =>
  guardM t11_1 false (fun k_2 => rop P (Instr.loadAt 25 t13_2) h_4 fun t14_1 =>
  k_2 t14_1 h_4) h_4 fun t14_2 h_5 =>
  guardM t11_1 false (fun k_3 => pop P (lenS 25 3 t14_2) fun t15_1 =>
  k_3 t15_1 h_5) h_5 fun t15_2 h_6 =>
  guardM t11_1 false (fun k_4 => pop P (Instr.fieldAt 24 g2_1 0) fun t16_1 =>
  k_4 t16_1 h_6) h_6 fun t16_2 h_7 =>
  guardM t11_1 false (fun k_5 => rop P (Instr.loadAt 22 t16_2) h_7 fun t17_1 =>
  k_5 t17_1 h_7) h_7 fun t17_2 h_8 =>
  guardM t11_1 false (fun k_6 => pop P (lenS 22 3 t17_2) fun t18_1 =>
  k_6 t18_1 h_8) h_8 fun t18_2 h_9 =>
  guardM t11_1 false (fun k_7 => pop P (binE .neq 3 (.tmp 15) (.tmp 18) t15_2 t18_2) fun t19_1 =>
  k_7 t19_1 h_9) h_9 fun t19_2 h_10 =>
  pop P (pickS t11_1 (Value.bool true) t19_2) fun t20_1 =>
  condM t20_1
  (K (Value.bool false) h_10)
  (pop P (Instr.fieldAt 24 g2_1 0) fun t21_1 =>
  rop P (Instr.loadAt 22 t21_1) h_10 fun t22_1 =>
  pop P (lenS 22 3 t22_1) fun t23_1 =>
  ∃ (I_1 : List Value → Heap → Prop) (μ_1 : List Value → Heap → Nat), I_1 [(Value.int IntKind.i64 0)] h_10 ∧
  ∀ (junk_1 : Nat → Value) (t24_1 : Value) (h_11 : Heap), I_1 [t24_1] h_11 →
  pop P (binA .lss 3 t24_1 t23_1) fun t25_1 =>
  condM t25_1
  (pop P (Instr.indexAt 22 t22_1 t24_1) fun t27_1 =>
  rop P (Instr.loadAt 25 t27_1) h_11 fun t28_1 =>
  pop P (Instr.fieldAt 27 w3_1 0) fun t29_1 =>
  rop P (Instr.loadAt 25 t29_1) h_11 fun t30_1 =>
  pop P (Instr.indexAt 25 t30_1 t24_1) fun t32_1 =>
  rop P (Instr.loadAt 3 t32_1) h_11 fun t33_1 =>
  pop P (lenS 25 3 t28_1) fun t35_1 =>
  pop P (binA .sub 3 t35_1 (Value.int IntKind.i64 1)) fun t36_1 =>
  callM P 103 #[(Value.int IntKind.i64 0), t36_1] h_11 fun t37_1 h_12 =>
  (∀ w : World, w.heap = h_12 → (Instr.loadAt 3 t32_1).run P w = .ok t33_1 w) ∧
  (∀ w : World, w.heap = h_12 → (Instr.loadAt 25 t29_1).run P w = .ok t30_1 w) ∧
  callM P 74 #[t33_1, (Value.int IntKind.i64 0), t37_1] h_12 fun t38_1 h_13 =>
  (∀ w : World, w.heap = h_13 → (Instr.loadAt 25 t29_1).run P w = .ok t30_1 w) ∧
  pop P (Op.unary .not t38_1) fun t39_1 =>
  condM t39_1
  (K (Value.bool false) h_13)
  (pop P (binA .add 3 t24_1 (Value.int IntKind.i64 1)) fun t40_1 =>
  I_1 [t40_1] h_13 ∧ μ_1 [t40_1] h_13 < μ_1 [t24_1] h_11))
  (K (Value.bool true) h_11))
theorem e78 (g0_1 : Value) (w1_1 : Value) (h : Heap) (K : Value → Heap → Prop) : wpA Try.prog 41 (anOf [(58, [24])]) (bodyOf Try.f78) 1 (fun A h => resA Try.prog A h K [.tmp 4]) (fun _ _ _ => False) (fun A h => resA Try.prog A h K [.tmp 4]) (aargs [g0_1, w1_1] 0) h = t78 Try.prog g0_1 w1_1 h K := by kernel_rfl
theorem c78 (g0_1 : Value) (w1_1 : Value) (h : Heap) (K : Value → Heap → Prop) (H : t78 Try.prog g0_1 w1_1 h K) : callM Try.prog 78 #[g0_1, w1_1] h K :=
  callM_of_wpA mixed (fn := Try.f78) Try.func78 (c := bodyOf Try.f78) rfl (of_decide_eq_true (by kernel_rfl)) (anOf [(58, [24])]) 39 41 (by kernel_rfl) rfl [.tmp 4] (by kernel_rfl) (args := [g0_1, w1_1]) (by rw [e78]; exact H)

/-! spec.waStep -/
def t79 (P : Program) (g0_1 : Value) (w1_1 : Value) (h : Heap) (K : Value → Heap → Prop) : Prop :=
  eop P (Instr.box 24 g0_1) h fun g2_1 h_1 =>
  eop P (Instr.box 27 w1_1) h_1 fun w3_1 h_2 =>
  eop P (Instr.alloc 27 true (.tuple #[])) h_2 fun t4_1 h_3 =>
  pop P (Instr.fieldAt 24 g2_1 0) fun t9_1 =>
  rop P (Instr.loadAt 22 t9_1) h_3 fun t10_1 =>
  pop P (Instr.fieldAt 27 w3_1 1) fun t11_1 =>
  rop P (Instr.loadAt 3 t11_1) h_3 fun t12_1 =>
  pop P (Instr.indexAt 22 t10_1 t12_1) fun t13_1 =>
  rop P (Instr.loadAt 25 t13_1) h_3 fun t14_1 =>
  pop P (lenS 25 3 t14_1) fun t16_1 =>
  pop P (binE .eql 3 (.tmp 16) (.const (Value.int IntKind.i64 0)) t16_1 (Value.int IntKind.i64 0)) fun t17_1 =>
  condM t17_1
  (rop P (Instr.loadAt 27 w3_1) h_3 fun t18_1 =>
  uop P (Instr.storeAt 27 t4_1 t18_1) h_3 fun u_1 h_4 =>
  rop P (Instr.loadAt 27 t4_1) h_4 fun r_1 =>
  K (.tuple #[r_1, (Value.bool false)]) h_4)
  (pop P (Instr.fieldAt 27 w3_1 0) fun t19_1 =>
  rop P (Instr.loadAt 25 t19_1) h_3 fun t20_1 =>
  callM P 88 #[t20_1] h_3 fun t21_1 h_5 =>
  pop P (Instr.build 27 #[(0, t21_1)]) fun t22_1 =>
  eop P (Instr.alloc 27 true (.tuple #[])) h_5 fun out7_1 h_6 =>
  uop P (Instr.storeAt 27 out7_1 t22_1) h_6 fun u_2 h_7 =>
  pop P (Instr.fieldAt 27 w3_1 0) fun t23_1 =>
  rop P (Instr.loadAt 25 t23_1) h_7 fun t24_1 =>
  pop P (Instr.fieldAt 27 w3_1 1) fun t25_1 =>
  rop P (Instr.loadAt 3 t25_1) h_7 fun t26_1 =>
  pop P (Instr.indexAt 25 t24_1 t26_1) fun t27_1 =>
  rop P (Instr.loadAt 3 t27_1) h_7 fun t28_1 =>
  pop P (binA .add 3 t28_1 (Value.int IntKind.i64 1)) fun t29_1 =>
  pop P (lenS 25 3 t14_1) fun t31_1 =>
  pop P (binA .rem 3 t29_1 t31_1) fun t32_1 =>
  pop P (Instr.fieldAt 27 out7_1 0) fun t33_1 =>
  rop P (Instr.loadAt 25 t33_1) h_7 fun t34_1 =>
  pop P (Instr.fieldAt 27 w3_1 1) fun t35_1 =>
  rop P (Instr.loadAt 3 t35_1) h_7 fun t36_1 =>
  pop P (Instr.indexAt 25 t34_1 t36_1) fun t38_1 =>
  uop P (Instr.storeAt 3 t38_1 t32_1) h_7 fun u_3 h_8 =>
  pop P (Instr.indexAt 25 t14_1 t32_1) fun t41_1 =>
  rop P (Instr.loadAt 3 t41_1) h_8 fun t42_1 =>
  pop P (Instr.fieldAt 27 out7_1 1) fun t43_1 =>
  uop P (Instr.storeAt 3 t43_1 t42_1) h_8 fun u_4 h_9 =>
  rop P (Instr.loadAt 27 out7_1) h_9 fun t44_1 =>
  uop P (Instr.storeAt 27 t4_1 t44_1) h_9 fun u_5 h_10 =>
  rop P (Instr.loadAt 27 t4_1) h_10 fun r_2 =>
  K (.tuple #[r_2, (Value.bool true)]) h_10)
theorem e79 (g0_1 : Value) (w1_1 : Value) (h : Heap) (K : Value → Heap → Prop) : wpA Try.prog 45 (anOf []) (bodyOf Try.f79) 1 (fun A h => resA Try.prog A h K [.cell 4 27, .tmp 5]) (fun _ _ _ => False) (fun A h => resA Try.prog A h K [.cell 4 27, .tmp 5]) (aargs [g0_1, w1_1] 0) h = t79 Try.prog g0_1 w1_1 h K := by kernel_rfl
theorem c79 (g0_1 : Value) (w1_1 : Value) (h : Heap) (K : Value → Heap → Prop) (H : t79 Try.prog g0_1 w1_1 h K) : callM Try.prog 79 #[g0_1, w1_1] h K :=
  callM_of_wpA mixed (fn := Try.f79) Try.func79 (c := bodyOf Try.f79) rfl (of_decide_eq_true (by kernel_rfl)) (anOf []) 43 45 (by kernel_rfl) rfl [.cell 4 27, .tmp 5] (by kernel_rfl) (args := [g0_1, w1_1]) (by rw [e79]; exact H)

/-! laws.toIntS -/
def t80 (P : Program) (a0_1 : Value) (h : Heap) (K : Value → Heap → Prop) : Prop :=
  pop P (lenS 25 3 a0_1) fun t6_1 =>
  eop P (Instr.makeSlice 25 t6_1 t6_1) h fun t7_1 h_1 =>
  ∃ (I_1 : List Value → Heap → Prop) (μ_1 : List Value → Heap → Nat), I_1 [(Value.int IntKind.i64 0)] h_1 ∧
  ∀ (junk_1 : Nat → Value) (i4_1 : Value) (h_2 : Heap), I_1 [i4_1] h_2 →
  pop P (lenS 25 3 a0_1) fun t10_1 =>
  pop P (binA .lss 3 i4_1 t10_1) fun t11_1 =>
  condM t11_1
  (pop P (Instr.indexAt 25 a0_1 i4_1) fun t18_1 =>
  rop P (Instr.loadAt 3 t18_1) h_2 fun t19_1 =>
  pop P (Instr.indexAt 25 t7_1 i4_1) fun t20_1 =>
  uop P (Instr.storeAt 3 t20_1 t19_1) h_2 fun u_1 h_3 =>
  pop P (binA .add 3 i4_1 (Value.int IntKind.i64 1)) fun t13_1 =>
  I_1 [t13_1] h_3 ∧ μ_1 [t13_1] h_3 < μ_1 [i4_1] h_2)
  (K t7_1 h_2)
theorem e80 (a0_1 : Value) (h : Heap) (K : Value → Heap → Prop) : wpA Try.prog 22 (anOf [(58, [4])]) (bodyOf Try.f80) 1 (fun A h => resA Try.prog A h K [.tmp 2]) (fun _ _ _ => False) (fun A h => resA Try.prog A h K [.tmp 2]) (aargs [a0_1] 0) h = t80 Try.prog a0_1 h K := by kernel_rfl
theorem c80 (a0_1 : Value) (h : Heap) (K : Value → Heap → Prop) (H : t80 Try.prog a0_1 h K) : callM Try.prog 80 #[a0_1] h K :=
  callM_of_wpA mixed (fn := Try.f80) Try.func80 (c := bodyOf Try.f80) rfl (of_decide_eq_true (by kernel_rfl)) (anOf [(58, [4])]) 21 22 (by kernel_rfl) rfl [.tmp 2] (by kernel_rfl) (args := [a0_1]) (by rw [e80]; exact H)

/-! impl.isWalk -/
def t81 (P : Program) (g0_1 : Value) (w1_1 : Value) (h : Heap) (K : Value → Heap → Prop) : Prop :=
  eop P (Instr.box 24 g0_1) h fun g2_1 h_1 =>
  eop P (Instr.box 27 w1_1) h_1 fun w3_1 h_2 =>
  rop P (Instr.loadAt 24 g2_1) h_2 fun t7_1 =>
  pop P (Instr.fieldAt 27 w3_1 1) fun t8_1 =>
  rop P (Instr.loadAt 3 t8_1) h_2 fun t9_1 =>
  eop P (Instr.buildSlice 25 1 #[(0, t9_1)]) h_2 fun t10_1 h_3 =>
  callM P 68 #[t7_1, t10_1] h_3 fun t11_1 h_4 =>
  pop P (Op.unary .not t11_1) fun t12_1 =>
  guardM t12_1 false (fun k_1 => pop P (Instr.fieldAt 27 w3_1 0) fun t14_1 =>
  k_1 t14_1 h_4) h_4 fun t14_2 h_5 =>
  guardM t12_1 false (fun k_2 => rop P (Instr.loadAt 25 t14_2) h_5 fun t15_1 =>
  k_2 t15_1 h_5) h_5 fun t15_2 h_6 =>
  guardM t12_1 false (fun k_3 => pop P (lenS 25 3 t15_2) fun t16_1 =>
  k_3 t16_1 h_6) h_6 fun t16_2 h_7 =>
  guardM t12_1 false (fun k_4 => pop P (Instr.fieldAt 24 g2_1 0) fun t17_1 =>
  k_4 t17_1 h_7) h_7 fun t17_2 h_8 =>
  guardM t12_1 false (fun k_5 => rop P (Instr.loadAt 22 t17_2) h_8 fun t18_1 =>
  k_5 t18_1 h_8) h_8 fun t18_2 h_9 =>
  guardM t12_1 false (fun k_6 => pop P (lenS 22 3 t18_2) fun t19_1 =>
  k_6 t19_1 h_9) h_9 fun t19_2 h_10 =>
  guardM t12_1 false (fun k_7 => pop P (binE .neq 3 (.tmp 16) (.tmp 19) t16_2 t19_2) fun t20_1 =>
  k_7 t20_1 h_10) h_10 fun t20_2 h_11 =>
  pop P (pickS t12_1 (Value.bool true) t20_2) fun t21_1 =>
  condM t21_1
  (K (Value.bool false) h_11)
  (pop P (Instr.fieldAt 27 w3_1 0) fun t22_1 =>
  rop P (Instr.loadAt 25 t22_1) h_11 fun t23_1 =>
  pop P (lenS 25 3 t23_1) fun t24_1 =>
  ∃ (I_1 : List Value → Heap → Prop) (μ_1 : List Value → Heap → Nat), I_1 [(Value.int IntKind.i64 0)] h_11 ∧
  ∀ (junk_1 : Nat → Value) (t25_1 : Value) (h_12 : Heap), I_1 [t25_1] h_12 →
  pop P (binA .lss 3 t25_1 t24_1) fun t26_1 =>
  condM t26_1
  (pop P (Instr.indexAt 25 t23_1 t25_1) fun t28_1 =>
  rop P (Instr.loadAt 3 t28_1) h_12 fun t29_1 =>
  pop P (Instr.fieldAt 24 g2_1 0) fun t31_1 =>
  rop P (Instr.loadAt 22 t31_1) h_12 fun t32_1 =>
  pop P (Instr.indexAt 22 t32_1 t25_1) fun t34_1 =>
  rop P (Instr.loadAt 25 t34_1) h_12 fun t35_1 =>
  pop P (lenS 25 3 t35_1) fun t36_1 =>
  pop P (binA .sub 3 t36_1 (Value.int IntKind.i64 1)) fun t37_1 =>
  pop P (Builtin.max_ #[3, 3] 3 #[t37_1, (Value.int IntKind.i64 0)]) fun t38_1 =>
  callM P 75 #[t29_1, (Value.int IntKind.i64 0), t38_1] h_12 fun t39_1 h_13 =>
  pop P (Op.unary .not t39_1) fun t40_1 =>
  condM t40_1
  (K (Value.bool false) h_13)
  (pop P (binA .add 3 t25_1 (Value.int IntKind.i64 1)) fun t41_1 =>
  I_1 [t41_1] h_13 ∧ μ_1 [t41_1] h_13 < μ_1 [t25_1] h_12))
  (K (Value.bool true) h_12))
theorem e81 (g0_1 : Value) (w1_1 : Value) (h : Heap) (K : Value → Heap → Prop) : wpA Try.prog 42 (anOf [(58, [25])]) (bodyOf Try.f81) 1 (fun A h => resA Try.prog A h K [.tmp 4]) (fun _ _ _ => False) (fun A h => resA Try.prog A h K [.tmp 4]) (aargs [g0_1, w1_1] 0) h = t81 Try.prog g0_1 w1_1 h K := by kernel_rfl
theorem c81 (g0_1 : Value) (w1_1 : Value) (h : Heap) (K : Value → Heap → Prop) (H : t81 Try.prog g0_1 w1_1 h K) : callM Try.prog 81 #[g0_1, w1_1] h K :=
  callM_of_wpA mixed (fn := Try.f81) Try.func81 (c := bodyOf Try.f81) rfl (of_decide_eq_true (by kernel_rfl)) (anOf [(58, [25])]) 40 42 (by kernel_rfl) rfl [.tmp 4] (by kernel_rfl) (args := [g0_1, w1_1]) (by rw [e81]; exact H)

/-! spec.l1Own -/
def t88 (P : Program) (l0_1 : Value) (h : Heap) (K : Value → Heap → Prop) : Prop :=
  eop P (Instr.buildSlice 25 0 #[]) h fun t3_1 h_1 =>
  eop P (appS 25 25 25 t3_1 l0_1) h_1 fun t5_1 h_2 =>
  K t5_1 h_2
theorem e88 (l0_1 : Value) (h : Heap) (K : Value → Heap → Prop) : wpA Try.prog 6 (anOf []) (bodyOf Try.f88) 1 (fun A h => resA Try.prog A h K [.tmp 2]) (fun _ _ _ => False) (fun A h => resA Try.prog A h K [.tmp 2]) (aargs [l0_1] 0) h = t88 Try.prog l0_1 h K := by kernel_rfl
theorem c88 (l0_1 : Value) (h : Heap) (K : Value → Heap → Prop) (H : t88 Try.prog l0_1 h K) : callM Try.prog 88 #[l0_1] h K :=
  callM_of_wpA mixed (fn := Try.f88) Try.func88 (c := bodyOf Try.f88) rfl (of_decide_eq_true (by kernel_rfl)) (anOf []) 5 6 (by kernel_rfl) rfl [.tmp 2] (by kernel_rfl) (args := [l0_1]) (by rw [e88]; exact H)

/-! (impl.Walk).copied -/
def t89 (P : Program) (w0_1 : Value) (h : Heap) (K : Value → Heap → Prop) : Prop :=
  eop P (Instr.box 27 w0_1) h fun w1_1 h_1 =>
  eop P (Instr.alloc 27 true (.tuple #[])) h_1 fun t2_1 h_2 =>
  pop P (Instr.fieldAt 27 w1_1 0) fun t3_1 =>
  rop P (Instr.loadAt 25 t3_1) h_2 fun t4_1 =>
  pop P (Instr.fieldAt 27 w1_1 1) fun t6_1 =>
  rop P (Instr.loadAt 3 t6_1) h_2 fun t7_1 =>
  callM P 101 #[t4_1] h_2 fun t5_1 h_3 =>
  (∀ w : World, w.heap = h_3 → (Instr.loadAt 3 t6_1).run P w = .ok t7_1 w) ∧
  pop P (Instr.build 27 #[(0, t5_1), (1, t7_1)]) fun t8_1 =>
  uop P (Instr.storeAt 27 t2_1 t8_1) h_3 fun u_1 h_4 =>
  rop P (Instr.loadAt 27 t2_1) h_4 fun r_1 =>
  K r_1 h_4
theorem e89 (w0_1 : Value) (h : Heap) (K : Value → Heap → Prop) : wpA Try.prog 9 (anOf []) (bodyOf Try.f89) 1 (fun A h => resA Try.prog A h K [.cell 2 27]) (fun _ _ _ => False) (fun A h => resA Try.prog A h K [.cell 2 27]) (aargs [w0_1] 0) h = t89 Try.prog w0_1 h K := by kernel_rfl
theorem c89 (w0_1 : Value) (h : Heap) (K : Value → Heap → Prop) (H : t89 Try.prog w0_1 h K) : callM Try.prog 89 #[w0_1] h K :=
  callM_of_wpA mixed (fn := Try.f89) Try.func89 (c := bodyOf Try.f89) rfl (of_decide_eq_true (by kernel_rfl)) (anOf []) 8 9 (by kernel_rfl) rfl [.cell 2 27] (by kernel_rfl) (args := [w0_1]) (by rw [e89]; exact H)

/-! spec.waGo -/
def t90 (P : Program) (g0_1 : Value) (w1_1 : Value) (n2_1 : Value) (h : Heap) (K : Value → Heap → Prop) : Prop :=
  eop P (Instr.box 24 g0_1) h fun g3_1 h_1 =>
  eop P (Instr.box 27 w1_1) h_1 fun w4_1 h_2 =>
  eop P (Instr.alloc 92 true (.tuple #[])) h_2 fun t6_1 h_3 =>
  ∃ J_1 : List Value → Heap → Prop, (rop P (Instr.loadAt 27 w4_1) h_3 fun t14_1 =>
  pop P (Instr.fieldAt 27 w4_1 1) fun t15_1 =>
  rop P (Instr.loadAt 3 t15_1) h_3 fun t16_1 =>
  pop P (Instr.fieldAt 24 g3_1 0) fun t18_1 =>
  rop P (Instr.loadAt 22 t18_1) h_3 fun t19_1 =>
  pop P (lenS 22 3 t19_1) fun t20_1 =>
  (eop P (Instr.buildSlice 25 1 #[(0, t16_1)]) h_3 fun t17_1 h_4 =>
  (∀ w : World, w.heap = h_4 → (Instr.loadAt 22 t18_1).run P w = .ok t19_1 w) ∧
  (∀ w : World, w.heap = h_4 → (Instr.loadAt 27 w4_1).run P w = .ok t14_1 w) ∧
  (eop P (Instr.makeSlice 25 t20_1 t20_1) h_4 fun t21_1 h_5 =>
  (∀ w : World, w.heap = h_5 → (Instr.loadAt 22 t18_1).run P w = .ok t19_1 w) ∧
  (∀ w : World, w.heap = h_5 → (Instr.loadAt 27 w4_1).run P w = .ok t14_1 w) ∧
  pop P (Instr.build 92 #[(0, t14_1), (1, t17_1), (2, t21_1)]) fun t22_1 =>
  eop P (Instr.alloc 92 true (.tuple #[])) h_5 fun r8_1 h_6 =>
  (∀ w : World, w.heap = h_6 → (Instr.loadAt 22 t18_1).run P w = .ok t19_1 w) ∧
  (∀ w : World, w.heap = h_6 → (Instr.loadAt 27 w4_1).run P w = .ok t14_1 w) ∧
  uop P (Instr.storeAt 92 r8_1 t22_1) h_6 fun u_1 h_7 =>
  J_1 [r8_1] h_7) ∧
  (eop P (Instr.alloc 92 true (.tuple #[])) h_4 fun r8_2 h_8 =>
  (∀ w : World, w.heap = h_8 → (Instr.loadAt 22 t18_1).run P w = .ok t19_1 w) ∧
  (∀ w : World, w.heap = h_8 → (Instr.loadAt 27 w4_1).run P w = .ok t14_1 w) ∧
  eop P (Instr.makeSlice 25 t20_1 t20_1) h_8 fun t21_2 h_9 =>
  (∀ w : World, w.heap = h_9 → (Instr.loadAt 22 t18_1).run P w = .ok t19_1 w) ∧
  (∀ w : World, w.heap = h_9 → (Instr.loadAt 27 w4_1).run P w = .ok t14_1 w) ∧
  pop P (Instr.build 92 #[(0, t14_1), (1, t17_1), (2, t21_2)]) fun t22_2 =>
  uop P (Instr.storeAt 92 r8_2 t22_2) h_9 fun u_2 h_10 =>
  J_1 [r8_2] h_10)) ∧
  (eop P (Instr.makeSlice 25 t20_1 t20_1) h_3 fun t21_3 h_11 =>
  (∀ w : World, w.heap = h_11 → (Instr.loadAt 22 t18_1).run P w = .ok t19_1 w) ∧
  (∀ w : World, w.heap = h_11 → (Instr.loadAt 3 t15_1).run P w = .ok t16_1 w) ∧
  (∀ w : World, w.heap = h_11 → (Instr.loadAt 27 w4_1).run P w = .ok t14_1 w) ∧
  (eop P (Instr.buildSlice 25 1 #[(0, t16_1)]) h_11 fun t17_2 h_12 =>
  (∀ w : World, w.heap = h_12 → (Instr.loadAt 22 t18_1).run P w = .ok t19_1 w) ∧
  (∀ w : World, w.heap = h_12 → (Instr.loadAt 27 w4_1).run P w = .ok t14_1 w) ∧
  pop P (Instr.build 92 #[(0, t14_1), (1, t17_2), (2, t21_3)]) fun t22_3 =>
  eop P (Instr.alloc 92 true (.tuple #[])) h_12 fun r8_3 h_13 =>
  (∀ w : World, w.heap = h_13 → (Instr.loadAt 22 t18_1).run P w = .ok t19_1 w) ∧
  (∀ w : World, w.heap = h_13 → (Instr.loadAt 27 w4_1).run P w = .ok t14_1 w) ∧
  uop P (Instr.storeAt 92 r8_3 t22_3) h_13 fun u_3 h_14 =>
  J_1 [r8_3] h_14) ∧
  (eop P (Instr.alloc 92 true (.tuple #[])) h_11 fun r8_4 h_15 =>
  (∀ w : World, w.heap = h_15 → (Instr.loadAt 22 t18_1).run P w = .ok t19_1 w) ∧
  (∀ w : World, w.heap = h_15 → (Instr.loadAt 3 t15_1).run P w = .ok t16_1 w) ∧
  (∀ w : World, w.heap = h_15 → (Instr.loadAt 27 w4_1).run P w = .ok t14_1 w) ∧
  eop P (Instr.buildSlice 25 1 #[(0, t16_1)]) h_15 fun t17_3 h_16 =>
  (∀ w : World, w.heap = h_16 → (Instr.loadAt 22 t18_1).run P w = .ok t19_1 w) ∧
  (∀ w : World, w.heap = h_16 → (Instr.loadAt 27 w4_1).run P w = .ok t14_1 w) ∧
  pop P (Instr.build 92 #[(0, t14_1), (1, t17_3), (2, t21_3)]) fun t22_4 =>
  uop P (Instr.storeAt 92 r8_4 t22_4) h_16 fun u_4 h_17 =>
  J_1 [r8_4] h_17)) ∧
  (eop P (Instr.alloc 92 true (.tuple #[])) h_3 fun r8_5 h_18 =>
  (∀ w : World, w.heap = h_18 → (Instr.loadAt 22 t18_1).run P w = .ok t19_1 w) ∧
  (∀ w : World, w.heap = h_18 → (Instr.loadAt 3 t15_1).run P w = .ok t16_1 w) ∧
  (∀ w : World, w.heap = h_18 → (Instr.loadAt 27 w4_1).run P w = .ok t14_1 w) ∧
  (eop P (Instr.buildSlice 25 1 #[(0, t16_1)]) h_18 fun t17_4 h_19 =>
  (∀ w : World, w.heap = h_19 → (Instr.loadAt 22 t18_1).run P w = .ok t19_1 w) ∧
  (∀ w : World, w.heap = h_19 → (Instr.loadAt 27 w4_1).run P w = .ok t14_1 w) ∧
  eop P (Instr.makeSlice 25 t20_1 t20_1) h_19 fun t21_4 h_20 =>
  (∀ w : World, w.heap = h_20 → (Instr.loadAt 22 t18_1).run P w = .ok t19_1 w) ∧
  (∀ w : World, w.heap = h_20 → (Instr.loadAt 27 w4_1).run P w = .ok t14_1 w) ∧
  pop P (Instr.build 92 #[(0, t14_1), (1, t17_4), (2, t21_4)]) fun t22_5 =>
  uop P (Instr.storeAt 92 r8_5 t22_5) h_20 fun u_5 h_21 =>
  J_1 [r8_5] h_21) ∧
  (eop P (Instr.makeSlice 25 t20_1 t20_1) h_18 fun t21_5 h_22 =>
  (∀ w : World, w.heap = h_22 → (Instr.loadAt 22 t18_1).run P w = .ok t19_1 w) ∧
  (∀ w : World, w.heap = h_22 → (Instr.loadAt 3 t15_1).run P w = .ok t16_1 w) ∧
  (∀ w : World, w.heap = h_22 → (Instr.loadAt 27 w4_1).run P w = .ok t14_1 w) ∧
  eop P (Instr.buildSlice 25 1 #[(0, t16_1)]) h_22 fun t17_5 h_23 =>
  (∀ w : World, w.heap = h_23 → (Instr.loadAt 22 t18_1).run P w = .ok t19_1 w) ∧
  (∀ w : World, w.heap = h_23 → (Instr.loadAt 27 w4_1).run P w = .ok t14_1 w) ∧
  pop P (Instr.build 92 #[(0, t14_1), (1, t17_5), (2, t21_5)]) fun t22_6 =>
  uop P (Instr.storeAt 92 r8_5 t22_6) h_23 fun u_6 h_24 =>
  J_1 [r8_5] h_24))) ∧
  ∀ (junk_1 : Nat → Value) (r8_6 : Value) (h_25 : Heap), J_1 [r8_6] h_25 →
  pop P (Instr.fieldAt 24 g3_1 0) fun t23_1 =>
  rop P (Instr.loadAt 22 t23_1) h_25 fun t24_1 =>
  pop P (lenS 22 3 t24_1) fun t25_1 =>
  ∃ (I_1 : List Value → Heap → Prop) (μ_1 : List Value → Heap → Nat), I_1 [(Value.int IntKind.i64 0)] h_25 ∧
  ∀ (junk_2 : Nat → Value) (t26_1 : Value) (h_26 : Heap), I_1 [t26_1] h_26 →
  pop P (binA .lss 3 t26_1 t25_1) fun t27_1 =>
  condM t27_1
  (pop P (Instr.indexAt 22 t24_1 t26_1) fun t28_1 =>
  rop P (Instr.loadAt 25 t28_1) h_26 fun t29_1 =>
  pop P (Instr.fieldAt 92 r8_6 3) fun t30_1 =>
  rop P (Instr.loadAt 22 t30_1) h_26 fun t31_1 =>
  pop P (lenS 25 3 t29_1) fun t33_1 =>
  eop P (Instr.makeSlice 25 t33_1 t33_1) h_26 fun t34_1 h_27 =>
  (∀ w : World, w.heap = h_27 → (Instr.loadAt 22 t30_1).run P w = .ok t31_1 w) ∧
  eop P (Instr.buildSlice 22 1 #[(0, t34_1)]) h_27 fun t35_1 h_28 =>
  (∀ w : World, w.heap = h_28 → (Instr.loadAt 22 t30_1).run P w = .ok t31_1 w) ∧
  eop P (appS 22 22 22 t31_1 t35_1) h_28 fun t36_1 h_29 =>
  pop P (Instr.fieldAt 92 r8_6 3) fun t37_1 =>
  uop P (Instr.storeAt 22 t37_1 t36_1) h_29 fun u_7 h_30 =>
  pop P (binA .add 3 t26_1 (Value.int IntKind.i64 1)) fun t38_1 =>
  I_1 [t38_1] h_30 ∧ μ_1 [t38_1] h_30 < μ_1 [t26_1] h_26)
  (∃ (I_2 : List Value → Heap → Prop) (μ_2 : List Value → Heap → Nat), I_2 [n2_1] h_26 ∧
  ∀ (junk_3 : Nat → Value) (n2_2 : Value) (h_31 : Heap), I_2 [n2_2] h_31 →
  pop P (binA .gtr 3 n2_2 (Value.int IntKind.i64 0)) fun t40_1 =>
  condM t40_1
  (rop P (Instr.loadAt 24 g3_1) h_31 fun t44_1 =>
  pop P (Instr.fieldAt 92 r8_6 0) fun t45_1 =>
  rop P (Instr.loadAt 27 t45_1) h_31 fun t46_1 =>
  callM P 79 #[t44_1, t46_1] h_31 fun t47_1 h_32 =>
  pop P (Instr.extract t47_1 0) fun t48_1 =>
  pop P (Instr.extract t47_1 1) fun t49_1 =>
  eop P (Instr.alloc 27 true (.tuple #[])) h_32 fun next11_1 h_33 =>
  uop P (Instr.storeAt 27 next11_1 t48_1) h_33 fun u_8 h_34 =>
  pop P (Op.unary .not t49_1) fun t51_1 =>
  condM t51_1
  (pop P (Instr.build 92 #[]) fun t52_1 =>
  uop P (Instr.storeAt 92 t6_1 t52_1) h_34 fun u_9 h_35 =>
  rop P (Instr.loadAt 92 t6_1) h_35 fun r_1 =>
  K (.tuple #[r_1, (Value.bool false)]) h_35)
  (pop P (Instr.fieldAt 92 r8_6 3) fun t53_1 =>
  rop P (Instr.loadAt 22 t53_1) h_34 fun t54_1 =>
  pop P (Instr.fieldAt 92 r8_6 0) fun t55_1 =>
  pop P (Instr.fieldAt 27 t55_1 1) fun t56_1 =>
  rop P (Instr.loadAt 3 t56_1) h_34 fun t57_1 =>
  pop P (Instr.indexAt 22 t54_1 t57_1) fun t58_1 =>
  rop P (Instr.loadAt 25 t58_1) h_34 fun t59_1 =>
  pop P (Instr.fieldAt 27 next11_1 0) fun t61_1 =>
  rop P (Instr.loadAt 25 t61_1) h_34 fun t62_1 =>
  pop P (Instr.fieldAt 92 r8_6 0) fun t63_1 =>
  pop P (Instr.fieldAt 27 t63_1 1) fun t64_1 =>
  rop P (Instr.loadAt 3 t64_1) h_34 fun t65_1 =>
  pop P (Instr.indexAt 25 t62_1 t65_1) fun t66_1 =>
  rop P (Instr.loadAt 3 t66_1) h_34 fun t67_1 =>
  pop P (Instr.indexAt 25 t59_1 t67_1) fun t68_1 =>
  rop P (Instr.loadAt 3 t68_1) h_34 fun t69_1 =>
  pop P (binA .add 3 t69_1 (Value.int IntKind.i64 1)) fun t70_1 =>
  pop P (Instr.indexAt 25 t59_1 t67_1) fun t71_1 =>
  uop P (Instr.storeAt 3 t71_1 t70_1) h_34 fun u_10 h_36 =>
  pop P (Instr.fieldAt 92 r8_6 2) fun t72_1 =>
  rop P (Instr.loadAt 25 t72_1) h_36 fun t73_1 =>
  pop P (Instr.fieldAt 27 next11_1 1) fun t74_1 =>
  rop P (Instr.loadAt 3 t74_1) h_36 fun t75_1 =>
  pop P (Instr.indexAt 25 t73_1 t75_1) fun t76_1 =>
  rop P (Instr.loadAt 3 t76_1) h_36 fun t77_1 =>
  pop P (binA .add 3 t77_1 (Value.int IntKind.i64 1)) fun t78_1 =>
  pop P (Instr.indexAt 25 t73_1 t75_1) fun t79_1 =>
  uop P (Instr.storeAt 3 t79_1 t78_1) h_36 fun u_11 h_37 =>
  pop P (Instr.fieldAt 92 r8_6 1) fun t80_1 =>
  rop P (Instr.loadAt 25 t80_1) h_37 fun t81_1 =>
  pop P (Instr.fieldAt 27 next11_1 1) fun t82_1 =>
  rop P (Instr.loadAt 3 t82_1) h_37 fun t83_1 =>
  eop P (Instr.buildSlice 25 1 #[(0, t83_1)]) h_37 fun t84_1 h_38 =>
  eop P (appS 25 25 25 t81_1 t84_1) h_38 fun t85_1 h_39 =>
  pop P (Instr.fieldAt 92 r8_6 1) fun t86_1 =>
  uop P (Instr.storeAt 25 t86_1 t85_1) h_39 fun u_12 h_40 =>
  rop P (Instr.loadAt 27 next11_1) h_40 fun t87_1 =>
  pop P (Instr.fieldAt 92 r8_6 0) fun t88_1 =>
  uop P (Instr.storeAt 27 t88_1 t87_1) h_40 fun u_13 h_41 =>
  pop P (binA .sub 3 n2_2 (Value.int IntKind.i64 1)) fun t42_1 =>
  I_2 [t42_1] h_41 ∧ μ_2 [t42_1] h_41 < μ_2 [n2_2] h_31))
  (rop P (Instr.loadAt 92 r8_6) h_31 fun t89_1 =>
  uop P (Instr.storeAt 92 t6_1 t89_1) h_31 fun u_14 h_42 =>
  rop P (Instr.loadAt 92 t6_1) h_42 fun r_2 =>
  K (.tuple #[r_2, (Value.bool true)]) h_42))
theorem e90 (g0_1 : Value) (w1_1 : Value) (n2_1 : Value) (h : Heap) (K : Value → Heap → Prop) : wpA Try.prog 90 (anOf [(3, [8]), (58, [26]), (60, [2])]) (bodyOf Try.f90) 1 (fun A h => resA Try.prog A h K [.cell 6 92, .tmp 7]) (fun _ _ _ => False) (fun A h => resA Try.prog A h K [.cell 6 92, .tmp 7]) (aargs [g0_1, w1_1, n2_1] 0) h = t90 Try.prog g0_1 w1_1 n2_1 h K := by kernel_rfl
theorem c90 (g0_1 : Value) (w1_1 : Value) (n2_1 : Value) (h : Heap) (K : Value → Heap → Prop) (H : t90 Try.prog g0_1 w1_1 n2_1 h K) : callM Try.prog 90 #[g0_1, w1_1, n2_1] h K :=
  callM_of_wpA mixed (fn := Try.f90) Try.func90 (c := bodyOf Try.f90) rfl (of_decide_eq_true (by kernel_rfl)) (anOf [(3, [8]), (58, [26]), (60, [2])]) 87 90 (by kernel_rfl) rfl [.cell 6 92, .tmp 7] (by kernel_rfl) (args := [g0_1, w1_1, n2_1]) (by rw [e90]; exact H)

/-! impl.isRun -/
def t91 (P : Program) (g0_1 : Value) (w1_1 : Value) (n2_1 : Value) (most3_1 : Value) (h : Heap) (K : Value → Heap → Prop) : Prop :=
  eop P (Instr.box 24 g0_1) h fun g4_1 h_1 =>
  eop P (Instr.box 27 w1_1) h_1 fun w5_1 h_2 =>
  rop P (Instr.loadAt 24 g4_1) h_2 fun t9_1 =>
  rop P (Instr.loadAt 27 w5_1) h_2 fun t10_1 =>
  callM P 81 #[t9_1, t10_1] h_2 fun t11_1 h_3 =>
  guardM t11_1 true (fun k_1 => k_1 n2_1 h_3) h_3 fun t13_1 h_4 =>
  guardM t11_1 true (fun k_2 => k_2 most3_1 h_4) h_4 fun t14_1 h_5 =>
  guardM t11_1 true (fun k_3 => callM P 75 #[t13_1, (Value.int IntKind.i64 0), t14_1] h_5 fun t15_1 h_6 =>
  k_3 t15_1 h_6) h_5 fun t15_2 h_7 =>
  pop P (pickS t11_1 t15_2 (Value.bool false)) fun t16_1 =>
  K t16_1 h_7
theorem e91 (g0_1 : Value) (w1_1 : Value) (n2_1 : Value) (most3_1 : Value) (h : Heap) (K : Value → Heap → Prop) : wpA Try.prog 17 (anOf []) (bodyOf Try.f91) 1 (fun A h => resA Try.prog A h K [.tmp 8]) (fun _ _ _ => False) (fun A h => resA Try.prog A h K [.tmp 8]) (aargs [g0_1, w1_1, n2_1, most3_1] 0) h = t91 Try.prog g0_1 w1_1 n2_1 most3_1 h K := by kernel_rfl
theorem c91 (g0_1 : Value) (w1_1 : Value) (n2_1 : Value) (most3_1 : Value) (h : Heap) (K : Value → Heap → Prop) (H : t91 Try.prog g0_1 w1_1 n2_1 most3_1 h K) : callM Try.prog 91 #[g0_1, w1_1, n2_1, most3_1] h K :=
  callM_of_wpA mixed (fn := Try.f91) Try.func91 (c := bodyOf Try.f91) rfl (of_decide_eq_true (by kernel_rfl)) (anOf []) 13 17 (by kernel_rfl) rfl [.tmp 8] (by kernel_rfl) (args := [g0_1, w1_1, n2_1, most3_1]) (by rw [e91]; exact H)

/-! (impl.Graph).run -/
def t92 (P : Program) (g0_1 : Value) (w1_1 : Value) (n2_1 : Value) (with3_1 : Value) (h : Heap) (K : Value → Heap → Prop) : Prop :=
  eop P (Instr.box 24 g0_1) h fun g4_1 h_1 =>
  ∃ (I_1 : List Value → Heap → Prop) (μ_1 : List Value → Heap → Nat), I_1 [(Value.int IntKind.i64 0)] h_1 ∧
  ∀ (junk_1 : Nat → Value) (t11_1 : Value) (h_2 : Heap), I_1 [t11_1] h_2 →
  pop P (binA .lss 3 t11_1 n2_1) fun t12_1 =>
  condM t12_1
  (pop P (nilS w1_1) fun t14_1 =>
  pop P (Instr.fieldAt 27 t14_1 1) fun t15_1 =>
  rop P (Instr.loadAt 3 t15_1) h_2 fun t16_1 =>
  rop P (Instr.loadAt 24 g4_1) h_2 fun t17_1 =>
  callM P 104 #[t17_1, w1_1] h_2 fun t19_1 h_3 =>
  pop P (Op.unary .not t19_1) fun t20_1 =>
  condM t20_1
  (K (Value.bool false) h_3)
  (callV P with3_1 [t16_1] h_3 fun t23_1 h_4 =>
  pop P (binA .add 3 t11_1 (Value.int IntKind.i64 1)) fun t24_1 =>
  I_1 [t24_1] h_4 ∧ μ_1 [t24_1] h_4 < μ_1 [t11_1] h_2))
  (K (Value.bool true) h_2)
theorem e92 (g0_1 : Value) (w1_1 : Value) (n2_1 : Value) (with3_1 : Value) (h : Heap) (K : Value → Heap → Prop) : wpA Try.prog 25 (anOf [(26, [11])]) (bodyOf Try.f92) 1 (fun A h => resA Try.prog A h K [.tmp 8]) (fun _ _ _ => False) (fun A h => resA Try.prog A h K [.tmp 8]) (aargs [g0_1, w1_1, n2_1, with3_1] 0) h = t92 Try.prog g0_1 w1_1 n2_1 with3_1 h K := by kernel_rfl
theorem c92 (g0_1 : Value) (w1_1 : Value) (n2_1 : Value) (with3_1 : Value) (h : Heap) (K : Value → Heap → Prop) (H : t92 Try.prog g0_1 w1_1 n2_1 with3_1 h K) : callM Try.prog 92 #[g0_1, w1_1, n2_1, with3_1] h K :=
  callM_of_wpA mixed (fn := Try.f92) Try.func92 (c := bodyOf Try.f92) rfl (of_decide_eq_true (by kernel_rfl)) (anOf [(26, [11])]) 21 25 (by kernel_rfl) rfl [.tmp 8] (by kernel_rfl) (args := [g0_1, w1_1, n2_1, with3_1]) (by rw [e92]; exact H)

/-! spec.waAsked -/
def t94 (P : Program) (g0_1 : Value) (w1_1 : Value) (n2_1 : Value) (h : Heap) (K : Value → Heap → Prop) : Prop :=
  eop P (Instr.box 24 g0_1) h fun g3_1 h_1 =>
  eop P (Instr.box 27 w1_1) h_1 fun w4_1 h_2 =>
  rop P (Instr.loadAt 24 g3_1) h_2 fun t7_1 =>
  rop P (Instr.loadAt 27 w4_1) h_2 fun t8_1 =>
  callM P 78 #[t7_1, t8_1] h_2 fun t9_1 h_3 =>
  guardM t9_1 true (fun k_1 => k_1 n2_1 h_3) h_3 fun t11_1 h_4 =>
  guardM t9_1 true (fun k_2 => callM P 74 #[t11_1, (Value.int IntKind.i64 0), (Value.int IntKind.i64 2000)] h_4 fun t12_1 h_5 =>
  k_2 t12_1 h_5) h_4 fun t12_2 h_6 =>
  pop P (pickS t9_1 t12_2 (Value.bool false)) fun t13_1 =>
  K t13_1 h_6
theorem e94 (g0_1 : Value) (w1_1 : Value) (n2_1 : Value) (h : Heap) (K : Value → Heap → Prop) : wpA Try.prog 14 (anOf []) (bodyOf Try.f94) 1 (fun A h => resA Try.prog A h K [.tmp 6]) (fun _ _ _ => False) (fun A h => resA Try.prog A h K [.tmp 6]) (aargs [g0_1, w1_1, n2_1] 0) h = t94 Try.prog g0_1 w1_1 n2_1 h K := by kernel_rfl
theorem c94 (g0_1 : Value) (w1_1 : Value) (n2_1 : Value) (h : Heap) (K : Value → Heap → Prop) (H : t94 Try.prog g0_1 w1_1 n2_1 h K) : callM Try.prog 94 #[g0_1, w1_1, n2_1] h K :=
  callM_of_wpA mixed (fn := Try.f94) Try.func94 (c := bodyOf Try.f94) rfl (of_decide_eq_true (by kernel_rfl)) (anOf []) 11 14 (by kernel_rfl) rfl [.tmp 6] (by kernel_rfl) (args := [g0_1, w1_1, n2_1]) (by rw [e94]; exact H)

/-! impl.VisitsOf$1 -/
def t95 (P : Program) (t0_1 : Value) (t1_1 : Value) (t2_1 : Value) (h : Heap) (K : Value → Heap → Prop) : Prop :=
  rop P (Instr.loadAt 25 t1_1) h fun t4_1 =>
  pop P (Instr.fieldAt 27 t2_1 1) fun t5_1 =>
  rop P (Instr.loadAt 3 t5_1) h fun t6_1 =>
  pop P (Instr.indexAt 25 t4_1 t6_1) fun t7_1 =>
  rop P (Instr.loadAt 3 t7_1) h fun t8_1 =>
  pop P (binA .add 3 t8_1 (Value.int IntKind.i64 1)) fun t9_1 =>
  pop P (Instr.indexAt 25 t4_1 t6_1) fun t10_1 =>
  uop P (Instr.storeAt 3 t10_1 t9_1) h fun u_1 h_1 =>
  K (.tuple #[]) h_1
theorem e95 (t0_1 : Value) (t1_1 : Value) (t2_1 : Value) (h : Heap) (K : Value → Heap → Prop) : wpA Try.prog 11 (anOf []) (bodyOf Try.f95) 1 (fun A h => resA Try.prog A h K []) (fun _ _ _ => False) (fun A h => resA Try.prog A h K []) (aargs [t0_1, t1_1, t2_1] 0) h = t95 Try.prog t0_1 t1_1 t2_1 h K := by kernel_rfl
theorem c95 (t0_1 : Value) (t1_1 : Value) (t2_1 : Value) (h : Heap) (K : Value → Heap → Prop) (H : t95 Try.prog t0_1 t1_1 t2_1 h K) : callM Try.prog 95 #[t0_1, t1_1, t2_1] h K :=
  callM_of_wpA mixed (fn := Try.f95) Try.func95 (c := bodyOf Try.f95) rfl (of_decide_eq_true (by kernel_rfl)) (anOf []) 8 11 (by kernel_rfl) rfl [] (by kernel_rfl) (args := [t0_1, t1_1, t2_1]) (by rw [e95]; exact H)

/-! spec.grGood -/
def t97 (P : Program) (g0_1 : Value) (h : Heap) (K : Value → Heap → Prop) : Prop :=
  eop P (Instr.box 24 g0_1) h fun g1_1 h_1 =>
  pop P (Instr.fieldAt 24 g1_1 0) fun t6_1 =>
  rop P (Instr.loadAt 22 t6_1) h_1 fun t7_1 =>
  pop P (lenS 22 3 t7_1) fun t8_1 =>
  callM P 74 #[t8_1, (Value.int IntKind.i64 1), (Value.int IntKind.i64 8)] h_1 fun t10_1 h_2 =>
  pop P (Op.unary .not t10_1) fun t11_1 =>
  condM t11_1
  (K (Value.bool false) h_2)
  (pop P (Instr.fieldAt 24 g1_1 0) fun t12_1 =>
  rop P (Instr.loadAt 22 t12_1) h_2 fun t13_1 =>
  pop P (lenS 22 3 t13_1) fun t14_1 =>
  ∃ (I_1 : List Value → Heap → Prop) (μ_1 : List Value → Heap → Nat), I_1 [(Value.int IntKind.i64 0)] h_2 ∧
  ∀ (junk_1 : Nat → Value) (t15_1 : Value) (h_3 : Heap), I_1 [t15_1] h_3 →
  pop P (binA .lss 3 t15_1 t14_1) fun t16_1 =>
  condM t16_1
  (pop P (Instr.indexAt 22 t13_1 t15_1) fun t17_1 =>
  rop P (Instr.loadAt 25 t17_1) h_3 fun t18_1 =>
  pop P (lenS 25 3 t18_1) fun t20_1 =>
  pop P (binA .gtr 3 t20_1 (Value.int IntKind.i64 5)) fun t21_1 =>
  guardM t21_1 false (fun k_1 => k_1 t18_1 h_3) h_3 fun t23_1 h_4 =>
  guardM t21_1 false (fun k_2 => k_2 t8_1 h_4) h_4 fun t24_1 h_5 =>
  guardM t21_1 false (fun k_3 => pop P (binA .sub 3 t24_1 (Value.int IntKind.i64 1)) fun t25_1 =>
  k_3 t25_1 h_5) h_5 fun t25_2 h_6 =>
  guardM t21_1 false (fun k_4 => callM P 108 #[t23_1, (Value.int IntKind.i64 0), t25_2] h_6 fun t26_1 h_7 =>
  k_4 t26_1 h_7) h_6 fun t26_2 h_8 =>
  guardM t21_1 false (fun k_5 => pop P (Op.unary .not t26_2) fun t27_1 =>
  k_5 t27_1 h_8) h_8 fun t27_2 h_9 =>
  pop P (pickS t21_1 (Value.bool true) t27_2) fun t28_1 =>
  condM t28_1
  (K (Value.bool false) h_9)
  (pop P (binA .add 3 t15_1 (Value.int IntKind.i64 1)) fun t29_1 =>
  I_1 [t29_1] h_9 ∧ μ_1 [t29_1] h_9 < μ_1 [t15_1] h_3))
  (K (Value.bool true) h_3))
theorem e97 (g0_1 : Value) (h : Heap) (K : Value → Heap → Prop) : wpA Try.prog 30 (anOf [(122, [15])]) (bodyOf Try.f97) 1 (fun A h => resA Try.prog A h K [.tmp 2]) (fun _ _ _ => False) (fun A h => resA Try.prog A h K [.tmp 2]) (aargs [g0_1] 0) h = t97 Try.prog g0_1 h K := by kernel_rfl
theorem c97 (g0_1 : Value) (h : Heap) (K : Value → Heap → Prop) (H : t97 Try.prog g0_1 h K) : callM Try.prog 97 #[g0_1] h K :=
  callM_of_wpA mixed (fn := Try.f97) Try.func97 (c := bodyOf Try.f97) rfl (of_decide_eq_true (by kernel_rfl)) (anOf [(122, [15])]) 29 30 (by kernel_rfl) rfl [.tmp 2] (by kernel_rfl) (args := [g0_1]) (by rw [e97]; exact H)

/-! impl.isGraph -/
def t98 (P : Program) (g0_1 : Value) (h : Heap) (K : Value → Heap → Prop) : Prop :=
  eop P (Instr.box 24 g0_1) h fun g1_1 h_1 =>
  pop P (Instr.fieldAt 24 g1_1 0) fun t6_1 =>
  rop P (Instr.loadAt 22 t6_1) h_1 fun t7_1 =>
  pop P (lenS 22 3 t7_1) fun t8_1 =>
  eop P (Instr.alloc 3 true (.tuple #[])) h_1 fun n3_1 h_2 =>
  uop P (Instr.storeAt 3 n3_1 t8_1) h_2 fun u_1 h_3 =>
  rop P (Instr.loadAt 3 n3_1) h_3 fun t9_1 =>
  callM P 75 #[t9_1, (Value.int IntKind.i64 1), (Value.int IntKind.i64 8)] h_3 fun t10_1 h_4 =>
  pop P (Op.unary .not t10_1) fun t11_1 =>
  condM t11_1
  (K (Value.bool false) h_4)
  (pop P (Instr.fieldAt 24 g1_1 0) fun t12_1 =>
  rop P (Instr.loadAt 22 t12_1) h_4 fun t13_1 =>
  pop P (lenS 22 3 t13_1) fun t14_1 =>
  ∃ (I_1 : List Value → Heap → Prop) (μ_1 : List Value → Heap → Nat), I_1 [(Value.int IntKind.i64 0)] h_4 ∧
  ∀ (junk_1 : Nat → Value) (t15_1 : Value) (h_5 : Heap), I_1 [t15_1] h_5 →
  pop P (binA .lss 3 t15_1 t14_1) fun t16_1 =>
  condM t16_1
  (pop P (Instr.indexAt 22 t13_1 t15_1) fun t17_1 =>
  rop P (Instr.loadAt 25 t17_1) h_5 fun t18_1 =>
  pop P (lenS 25 3 t18_1) fun t20_1 =>
  pop P (binA .gtr 3 t20_1 (Value.int IntKind.i64 5)) fun t21_1 =>
  guardM t21_1 false (fun k_1 => k_1 t18_1 h_5) h_5 fun t23_1 h_6 =>
  guardM t21_1 false (fun k_2 => pop P (Instr.makeFunc (Fn.func 109) #[] #[n3_1]) fun t24_1 =>
  k_2 t24_1 h_6) h_6 fun t24_2 h_7 =>
  guardM t21_1 false (fun k_3 => callM P 99 #[t23_1, t24_2] h_7 fun t25_1 h_8 =>
  k_3 t25_1 h_8) h_7 fun t25_2 h_9 =>
  pop P (pickS t21_1 (Value.bool true) t25_2) fun t26_1 =>
  condM t26_1
  (K (Value.bool false) h_9)
  (pop P (binA .add 3 t15_1 (Value.int IntKind.i64 1)) fun t27_1 =>
  I_1 [t27_1] h_9 ∧ μ_1 [t27_1] h_9 < μ_1 [t15_1] h_5))
  (K (Value.bool true) h_5))
theorem e98 (g0_1 : Value) (h : Heap) (K : Value → Heap → Prop) : wpA Try.prog 28 (anOf [(122, [15])]) (bodyOf Try.f98) 1 (fun A h => resA Try.prog A h K [.tmp 2]) (fun _ _ _ => False) (fun A h => resA Try.prog A h K [.tmp 2]) (aargs [g0_1] 0) h = t98 Try.prog g0_1 h K := by kernel_rfl
theorem c98 (g0_1 : Value) (h : Heap) (K : Value → Heap → Prop) (H : t98 Try.prog g0_1 h K) : callM Try.prog 98 #[g0_1] h K :=
  callM_of_wpA mixed (fn := Try.f98) Try.func98 (c := bodyOf Try.f98) rfl (of_decide_eq_true (by kernel_rfl)) (anOf [(122, [15])]) 27 28 (by kernel_rfl) rfl [.tmp 2] (by kernel_rfl) (args := [g0_1]) (by rw [e98]; exact H)

/-! slices.ContainsFunc[[]int,int] -/
def t99 (P : Program) (s0_1 : Value) (f1_1 : Value) (h : Heap) (K : Value → Heap → Prop) : Prop :=
  callM P 110 #[s0_1, f1_1] h fun t7_1 h_1 =>
  pop P (binA .geq 3 t7_1 (Value.int IntKind.i64 0)) fun t8_1 =>
  K t8_1 h_1
theorem e99 (s0_1 : Value) (f1_1 : Value) (h : Heap) (K : Value → Heap → Prop) : wpA Try.prog 9 (anOf []) (bodyOf Try.f99) 1 (fun A h => resA Try.prog A h K [.tmp 4]) (fun _ _ _ => False) (fun A h => resA Try.prog A h K [.tmp 4]) (aargs [s0_1, f1_1] 0) h = t99 Try.prog s0_1 f1_1 h K := by kernel_rfl
theorem c99 (s0_1 : Value) (f1_1 : Value) (h : Heap) (K : Value → Heap → Prop) (H : t99 Try.prog s0_1 f1_1 h K) : callM Try.prog 99 #[s0_1, f1_1] h K :=
  callM_of_wpA mixed (fn := Try.f99) Try.func99 (c := bodyOf Try.f99) rfl (of_decide_eq_true (by kernel_rfl)) (anOf []) 7 9 (by kernel_rfl) rfl [.tmp 4] (by kernel_rfl) (args := [s0_1, f1_1]) (by rw [e99]; exact H)

/-! impl.has$1 -/
def t100 (P : Program) (p0_1 : Value) (t1_1 : Value) (h : Heap) (K : Value → Heap → Prop) : Prop :=
  pop P (Instr.fieldAt 24 t1_1 0) fun t5_1 =>
  rop P (Instr.loadAt 22 t5_1) h fun t6_1 =>
  pop P (lenS 22 3 t6_1) fun t7_1 =>
  pop P (binA .sub 3 t7_1 (Value.int IntKind.i64 1)) fun t8_1 =>
  callM P 75 #[p0_1, (Value.int IntKind.i64 0), t8_1] h fun t9_1 h_1 =>
  pop P (Op.unary .not t9_1) fun t10_1 =>
  K t10_1 h_1
theorem e100 (p0_1 : Value) (t1_1 : Value) (h : Heap) (K : Value → Heap → Prop) : wpA Try.prog 11 (anOf []) (bodyOf Try.f100) 1 (fun A h => resA Try.prog A h K [.tmp 3]) (fun _ _ _ => False) (fun A h => resA Try.prog A h K [.tmp 3]) (aargs [p0_1, t1_1] 0) h = t100 Try.prog p0_1 t1_1 h K := by kernel_rfl
theorem c100 (p0_1 : Value) (t1_1 : Value) (h : Heap) (K : Value → Heap → Prop) (H : t100 Try.prog p0_1 t1_1 h K) : callM Try.prog 100 #[p0_1, t1_1] h K :=
  callM_of_wpA mixed (fn := Try.f100) Try.func100 (c := bodyOf Try.f100) rfl (of_decide_eq_true (by kernel_rfl)) (anOf []) 9 11 (by kernel_rfl) rfl [.tmp 3] (by kernel_rfl) (args := [p0_1, t1_1]) (by rw [e100]; exact H)

/-! slices.Clone[[]int,int] -/
def t101 (P : Program) (s0_1 : Value) (h : Heap) (K : Value → Heap → Prop) : Prop :=
  pop P (binE .eql 25 (.tmp 3) (.const (Value.slice none 0 0)) s0_1 (Value.slice none 0 0)) fun t4_1 =>
  condM t4_1
  (K (Value.slice none 0 0) h)
  (eop P (Instr.buildSlice 25 0 #[]) h fun t5_1 h_1 =>
  eop P (appS 25 25 25 t5_1 s0_1) h_1 fun t7_1 h_2 =>
  K t7_1 h_2)
theorem e101 (s0_1 : Value) (h : Heap) (K : Value → Heap → Prop) : wpA Try.prog 8 (anOf []) (bodyOf Try.f101) 1 (fun A h => resA Try.prog A h K [.tmp 2]) (fun _ _ _ => False) (fun A h => resA Try.prog A h K [.tmp 2]) (aargs [s0_1] 0) h = t101 Try.prog s0_1 h K := by kernel_rfl
theorem c101 (s0_1 : Value) (h : Heap) (K : Value → Heap → Prop) (H : t101 Try.prog s0_1 h K) : callM Try.prog 101 #[s0_1] h K :=
  callM_of_wpA mixed (fn := Try.f101) Try.func101 (c := bodyOf Try.f101) rfl (of_decide_eq_true (by kernel_rfl)) (anOf []) 7 8 (by kernel_rfl) rfl [.tmp 2] (by kernel_rfl) (args := [s0_1]) (by rw [e101]; exact H)

/-! spec.l1Most -/
def t103 (P : Program) (a0_1 : Value) (b1_1 : Value) (h : Heap) (K : Value → Heap → Prop) : Prop :=
  pop P (binA .gtr 3 a0_1 b1_1) fun t7_1 =>
  condM t7_1
  (K a0_1 h)
  (K b1_1 h)
theorem e103 (a0_1 : Value) (b1_1 : Value) (h : Heap) (K : Value → Heap → Prop) : wpA Try.prog 10 (anOf []) (bodyOf Try.f103) 1 (fun A h => resA Try.prog A h K [.tmp 4]) (fun _ _ _ => False) (fun A h => resA Try.prog A h K [.tmp 4]) (aargs [a0_1, b1_1] 0) h = t103 Try.prog a0_1 b1_1 h K := by kernel_rfl
theorem c103 (a0_1 : Value) (b1_1 : Value) (h : Heap) (K : Value → Heap → Prop) (H : t103 Try.prog a0_1 b1_1 h K) : callM Try.prog 103 #[a0_1, b1_1] h K :=
  callM_of_wpA mixed (fn := Try.f103) Try.func103 (c := bodyOf Try.f103) rfl (of_decide_eq_true (by kernel_rfl)) (anOf []) 8 10 (by kernel_rfl) rfl [.tmp 4] (by kernel_rfl) (args := [a0_1, b1_1]) (by rw [e103]; exact H)

/-! (impl.Graph).step -/
def t104 (P : Program) (g0_1 : Value) (w1_1 : Value) (h : Heap) (K : Value → Heap → Prop) : Prop :=
  eop P (Instr.box 24 g0_1) h fun g2_1 h_1 =>
  pop P (Instr.fieldAt 24 g2_1 0) fun t6_1 =>
  rop P (Instr.loadAt 22 t6_1) h_1 fun t7_1 =>
  pop P (nilS w1_1) fun t9_1 =>
  pop P (Instr.fieldAt 27 t9_1 1) fun t10_1 =>
  rop P (Instr.loadAt 3 t10_1) h_1 fun t11_1 =>
  pop P (Instr.indexAt 22 t7_1 t11_1) fun t12_1 =>
  rop P (Instr.loadAt 25 t12_1) h_1 fun t13_1 =>
  pop P (lenS 25 3 t13_1) fun t15_1 =>
  pop P (binE .eql 3 (.tmp 15) (.const (Value.int IntKind.i64 0)) t15_1 (Value.int IntKind.i64 0)) fun t16_1 =>
  condM t16_1
  (K (Value.bool false) h_1)
  (pop P (nilS w1_1) fun t18_1 =>
  pop P (Instr.fieldAt 27 t18_1 0) fun t19_1 =>
  rop P (Instr.loadAt 25 t19_1) h_1 fun t20_1 =>
  pop P (nilS w1_1) fun t22_1 =>
  pop P (Instr.fieldAt 27 t22_1 1) fun t23_1 =>
  rop P (Instr.loadAt 3 t23_1) h_1 fun t24_1 =>
  pop P (nilS w1_1) fun t26_1 =>
  pop P (Instr.fieldAt 27 t26_1 0) fun t27_1 =>
  rop P (Instr.loadAt 25 t27_1) h_1 fun t28_1 =>
  pop P (nilS w1_1) fun t30_1 =>
  pop P (Instr.fieldAt 27 t30_1 1) fun t31_1 =>
  rop P (Instr.loadAt 3 t31_1) h_1 fun t32_1 =>
  pop P (Instr.indexAt 25 t28_1 t32_1) fun t33_1 =>
  rop P (Instr.loadAt 3 t33_1) h_1 fun t34_1 =>
  pop P (binA .add 3 t34_1 (Value.int IntKind.i64 1)) fun t35_1 =>
  pop P (lenS 25 3 t13_1) fun t37_1 =>
  pop P (binA .rem 3 t35_1 t37_1) fun t38_1 =>
  pop P (Instr.indexAt 25 t20_1 t24_1) fun t39_1 =>
  uop P (Instr.storeAt 3 t39_1 t38_1) h_1 fun u_1 h_2 =>
  pop P (nilS w1_1) fun t43_1 =>
  pop P (Instr.fieldAt 27 t43_1 0) fun t44_1 =>
  rop P (Instr.loadAt 25 t44_1) h_2 fun t45_1 =>
  pop P (nilS w1_1) fun t47_1 =>
  pop P (Instr.fieldAt 27 t47_1 1) fun t48_1 =>
  rop P (Instr.loadAt 3 t48_1) h_2 fun t49_1 =>
  pop P (Instr.indexAt 25 t45_1 t49_1) fun t50_1 =>
  rop P (Instr.loadAt 3 t50_1) h_2 fun t51_1 =>
  pop P (Instr.indexAt 25 t13_1 t51_1) fun t52_1 =>
  rop P (Instr.loadAt 3 t52_1) h_2 fun t53_1 =>
  pop P (nilS w1_1) fun t54_1 =>
  pop P (Instr.fieldAt 27 t54_1 1) fun t55_1 =>
  uop P (Instr.storeAt 3 t55_1 t53_1) h_2 fun u_2 h_3 =>
  K (Value.bool true) h_3)
theorem e104 (g0_1 : Value) (w1_1 : Value) (h : Heap) (K : Value → Heap → Prop) : wpA Try.prog 56 (anOf []) (bodyOf Try.f104) 1 (fun A h => resA Try.prog A h K [.tmp 4]) (fun _ _ _ => False) (fun A h => resA Try.prog A h K [.tmp 4]) (aargs [g0_1, w1_1] 0) h = t104 Try.prog g0_1 w1_1 h K := by kernel_rfl
theorem c104 (g0_1 : Value) (w1_1 : Value) (h : Heap) (K : Value → Heap → Prop) (H : t104 Try.prog g0_1 w1_1 h K) : callM Try.prog 104 #[g0_1, w1_1] h K :=
  callM_of_wpA mixed (fn := Try.f104) Try.func104 (c := bodyOf Try.f104) rfl (of_decide_eq_true (by kernel_rfl)) (anOf []) 54 56 (by kernel_rfl) rfl [.tmp 4] (by kernel_rfl) (args := [g0_1, w1_1]) (by rw [e104]; exact H)

/-! spec.l1All -/
def t108 (P : Program) (l0_1 : Value) (lo1_1 : Value) (hi2_1 : Value) (h : Heap) (K : Value → Heap → Prop) : Prop :=
  pop P (lenS 25 3 l0_1) fun t10_1 =>
  ∃ (I_1 : List Value → Heap → Prop) (μ_1 : List Value → Heap → Nat), I_1 [(Value.int IntKind.i64 0)] h ∧
  ∀ (junk_1 : Nat → Value) (t11_1 : Value) (h_1 : Heap), I_1 [t11_1] h_1 →
  pop P (binA .lss 3 t11_1 t10_1) fun t12_1 =>
  condM t12_1
  (pop P (Instr.indexAt 25 l0_1 t11_1) fun t13_1 =>
  rop P (Instr.loadAt 3 t13_1) h_1 fun t14_1 =>
  callM P 74 #[t14_1, lo1_1, hi2_1] h_1 fun t18_1 h_2 =>
  pop P (Op.unary .not t18_1) fun t19_1 =>
  condM t19_1
  (K (Value.bool false) h_2)
  (pop P (binA .add 3 t11_1 (Value.int IntKind.i64 1)) fun t20_1 =>
  I_1 [t20_1] h_2 ∧ μ_1 [t20_1] h_2 < μ_1 [t11_1] h_1))
  (K (Value.bool true) h_1)
theorem e108 (l0_1 : Value) (lo1_1 : Value) (hi2_1 : Value) (h : Heap) (K : Value → Heap → Prop) : wpA Try.prog 21 (anOf [(26, [11])]) (bodyOf Try.f108) 1 (fun A h => resA Try.prog A h K [.tmp 6]) (fun _ _ _ => False) (fun A h => resA Try.prog A h K [.tmp 6]) (aargs [l0_1, lo1_1, hi2_1] 0) h = t108 Try.prog l0_1 lo1_1 hi2_1 h K := by kernel_rfl
theorem c108 (l0_1 : Value) (lo1_1 : Value) (hi2_1 : Value) (h : Heap) (K : Value → Heap → Prop) (H : t108 Try.prog l0_1 lo1_1 hi2_1 h K) : callM Try.prog 108 #[l0_1, lo1_1, hi2_1] h K :=
  callM_of_wpA mixed (fn := Try.f108) Try.func108 (c := bodyOf Try.f108) rfl (of_decide_eq_true (by kernel_rfl)) (anOf [(26, [11])]) 18 21 (by kernel_rfl) rfl [.tmp 6] (by kernel_rfl) (args := [l0_1, lo1_1, hi2_1]) (by rw [e108]; exact H)

/-! impl.isGraph$1 -/
def t109 (P : Program) (q0_1 : Value) (t1_1 : Value) (h : Heap) (K : Value → Heap → Prop) : Prop :=
  rop P (Instr.loadAt 3 t1_1) h fun t5_1 =>
  pop P (binA .sub 3 t5_1 (Value.int IntKind.i64 1)) fun t6_1 =>
  callM P 75 #[q0_1, (Value.int IntKind.i64 0), t6_1] h fun t7_1 h_1 =>
  pop P (Op.unary .not t7_1) fun t8_1 =>
  K t8_1 h_1
theorem e109 (q0_1 : Value) (t1_1 : Value) (h : Heap) (K : Value → Heap → Prop) : wpA Try.prog 9 (anOf []) (bodyOf Try.f109) 1 (fun A h => resA Try.prog A h K [.tmp 3]) (fun _ _ _ => False) (fun A h => resA Try.prog A h K [.tmp 3]) (aargs [q0_1, t1_1] 0) h = t109 Try.prog q0_1 t1_1 h K := by kernel_rfl
theorem c109 (q0_1 : Value) (t1_1 : Value) (h : Heap) (K : Value → Heap → Prop) (H : t109 Try.prog q0_1 t1_1 h K) : callM Try.prog 109 #[q0_1, t1_1] h K :=
  callM_of_wpA mixed (fn := Try.f109) Try.func109 (c := bodyOf Try.f109) rfl (of_decide_eq_true (by kernel_rfl)) (anOf []) 7 9 (by kernel_rfl) rfl [.tmp 3] (by kernel_rfl) (args := [q0_1, t1_1]) (by rw [e109]; exact H)

/-! slices.IndexFunc[[]int,int] -/
def t110 (P : Program) (s0_1 : Value) (f1_1 : Value) (h : Heap) (K : Value → Heap → Prop) : Prop :=
  pop P (lenS 25 3 s0_1) fun t7_1 =>
  ∃ (I_1 : List Value → Heap → Prop) (μ_1 : List Value → Heap → Nat), I_1 [(Value.int IntKind.i64 0)] h ∧
  ∀ (junk_1 : Nat → Value) (t8_1 : Value) (h_1 : Heap), I_1 [t8_1] h_1 →
  pop P (binA .lss 3 t8_1 t7_1) fun t9_1 =>
  condM t9_1
  (pop P (Instr.indexAt 25 s0_1 t8_1) fun t14_1 =>
  rop P (Instr.loadAt 3 t14_1) h_1 fun t15_1 =>
  callV P f1_1 [t15_1] h_1 fun t16_1 h_2 =>
  condM t16_1
  (K t8_1 h_2)
  (pop P (binA .add 3 t8_1 (Value.int IntKind.i64 1)) fun t18_1 =>
  I_1 [t18_1] h_2 ∧ μ_1 [t18_1] h_2 < μ_1 [t8_1] h_1))
  (K (Value.int IntKind.i64 (-1)) h_1)
theorem e110 (s0_1 : Value) (f1_1 : Value) (h : Heap) (K : Value → Heap → Prop) : wpA Try.prog 19 (anOf [(26, [8])]) (bodyOf Try.f110) 1 (fun A h => resA Try.prog A h K [.tmp 4]) (fun _ _ _ => False) (fun A h => resA Try.prog A h K [.tmp 4]) (aargs [s0_1, f1_1] 0) h = t110 Try.prog s0_1 f1_1 h K := by kernel_rfl
theorem c110 (s0_1 : Value) (f1_1 : Value) (h : Heap) (K : Value → Heap → Prop) (H : t110 Try.prog s0_1 f1_1 h K) : callM Try.prog 110 #[s0_1, f1_1] h K :=
  callM_of_wpA mixed (fn := Try.f110) Try.func110 (c := bodyOf Try.f110) rfl (of_decide_eq_true (by kernel_rfl)) (anOf [(26, [8])]) 17 19 (by kernel_rfl) rfl [.tmp 4] (by kernel_rfl) (args := [s0_1, f1_1]) (by rw [e110]; exact H)

end Go.Proofs.Ytkphbhochacllaa
