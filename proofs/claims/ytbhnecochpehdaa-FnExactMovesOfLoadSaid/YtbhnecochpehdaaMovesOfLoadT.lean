/-
  What each function that the law 'FnExactMovesOfLoad' comes to asks of the heap, named; tied to the loaded program by the kernel. Written by a program.
-/
import Derived.Test.YtbhnecochpehdaaProg
import Derived.Test.YtbhnecochpehdaaM1
set_option linter.unusedVariables false
namespace Go.Proofs.Ytbhnecochpehdaa
open Go Go.Mx
theorem mixed : Try.prog.follows .mixedOrders = true := by kernel_rfl
/-! laws.FnExactMovesOfLoad -/
def t3 (P : Program) (aG0_1 : Value) (aSink1_1 : Value) (aL2_1 : Value) (h : Heap) (K : Value → Heap → Prop) : Prop :=
  eop P (Instr.box 24 aG0_1) h fun aG3_1 h_1 =>
  eop P (Instr.box 27 aL2_1) h_1 fun aL5_1 h_2 =>
  rop P (Instr.loadAt 24 aG3_1) h_2 fun t19_1 =>
  callM P 10 #[t19_1, (Value.int IntKind.i64 1048576)] h_2 fun t21_1 h_3 =>
  pop P (binA .lss 3 t21_1 (Value.int IntKind.i64 0)) fun t23_1 =>
  condM t23_1
  (K (Value.bool true) h_3)
  (rop P (Instr.loadAt 27 aL5_1) h_3 fun t24_1 =>
  callM P 11 #[t24_1, t21_1] h_3 fun t26_1 h_4 =>
  pop P (binA .lss 3 t26_1 (Value.int IntKind.i64 0)) fun t28_1 =>
  condM t28_1
  (K (Value.bool true) h_4)
  (rop P (Instr.loadAt 24 aG3_1) h_4 fun t30_1 =>
  rop P (Instr.loadAt 27 aL5_1) h_4 fun t33_1 =>
  callM P 13 #[t30_1] h_4 fun t31_1 h_5 =>
  (∀ w : World, w.heap = h_5 → (Instr.loadAt 27 aL5_1).run P w = .ok t33_1 w) ∧
  callM P 14 #[t33_1] h_5 fun t34_1 h_6 =>
  callM P 12 #[t31_1, aSink1_1, t34_1] h_6 fun t35_1 h_7 =>
  pop P (Instr.extract t35_1 0) fun t36_1 =>
  pop P (Instr.extract t35_1 1) fun t37_1 =>
  rop P (Instr.loadAt 24 aG3_1) h_7 fun t38_1 =>
  callM P 13 #[t38_1] h_7 fun t39_1 h_8 =>
  eop P (Instr.alloc 32 true (.tuple #[])) h_8 fun x010_1 h_9 =>
  uop P (Instr.storeAt 32 x010_1 t39_1) h_9 fun u_1 h_10 =>
  rop P (Instr.loadAt 27 aL5_1) h_10 fun t40_1 =>
  callM P 14 #[t40_1] h_10 fun t41_1 h_11 =>
  eop P (Instr.alloc 34 true (.tuple #[])) h_11 fun x211_1 h_12 =>
  uop P (Instr.storeAt 34 x211_1 t41_1) h_12 fun u_2 h_13 =>
  rop P (Instr.loadAt 32 x010_1) h_13 fun t43_1 =>
  rop P (Instr.loadAt 34 x211_1) h_13 fun t45_1 =>
  callM P 15 #[t43_1, aSink1_1, t45_1] h_13 fun t46_1 h_14 =>
  pop P (Instr.extract t46_1 0) fun t47_1 =>
  pop P (Instr.extract t46_1 1) fun t48_1 =>
  callM P 16 #[t47_1, t36_1] h_14 fun t51_1 h_15 =>
  pop P (Op.unary .not t51_1) fun t52_1 =>
  guardM t52_1 false (fun k_1 => k_1 t48_1 h_15) h_15 fun t54_1 h_16 =>
  guardM t52_1 false (fun k_2 => k_2 t37_1 h_16) h_16 fun t55_1 h_17 =>
  guardM t52_1 false (fun k_3 => pop P (binE .neq 4 (.tmp 54) (.tmp 55) t54_1 t55_1) fun t56_1 =>
  k_3 t56_1 h_17) h_17 fun t56_2 h_18 =>
  pop P (pickS t52_1 (Value.bool true) t56_2) fun t57_1 =>
  condM t57_1
  (K (Value.bool false) h_18)
  (rop P (Instr.loadAt 32 x010_1) h_18 fun t58_1 =>
  rop P (Instr.loadAt 24 aG3_1) h_18 fun t59_1 =>
  callM P 13 #[t59_1] h_18 fun t60_1 h_19 =>
  (∀ w : World, w.heap = h_19 → (Instr.loadAt 32 x010_1).run P w = .ok t58_1 w) ∧
  callM P 17 #[t58_1, t60_1] h_19 fun t61_1 h_20 =>
  pop P (Op.unary .not t61_1) fun t62_1 =>
  condM t62_1
  (K (Value.bool false) h_20)
  (rop P (Instr.loadAt 34 x211_1) h_20 fun t63_1 =>
  rop P (Instr.loadAt 27 aL5_1) h_20 fun t64_1 =>
  callM P 14 #[t64_1] h_20 fun t65_1 h_21 =>
  (∀ w : World, w.heap = h_21 → (Instr.loadAt 34 x211_1).run P w = .ok t63_1 w) ∧
  callM P 18 #[t63_1, t65_1] h_21 fun t66_1 h_22 =>
  pop P (Op.unary .not t66_1) fun t67_1 =>
  condM t67_1
  (K (Value.bool false) h_22)
  (rop P (Instr.loadAt 32 x010_1) h_22 fun t68_1 =>
  callM P 19 #[t68_1, (Value.int IntKind.i64 1)] h_22 fun t70_1 h_23 =>
  rop P (Instr.loadAt 34 x211_1) h_23 fun t71_1 =>
  callM P 20 #[t71_1, t70_1] h_23 fun t73_1 h_24 =>
  pop P (binA .lss 3 t73_1 (Value.int IntKind.i64 0)) fun t75_1 =>
  guardM t75_1 false (fun k_4 => k_4 t47_1 h_24) h_24 fun t77_1 h_25 =>
  guardM t75_1 false (fun k_5 => k_5 t36_1 h_25) h_25 fun t78_1 h_26 =>
  guardM t75_1 false (fun k_6 => callM P 16 #[t77_1, t78_1] h_26 fun t79_1 h_27 =>
  k_6 t79_1 h_27) h_26 fun t79_2 h_28 =>
  guardM t75_1 false (fun k_7 => pop P (Op.unary .not t79_2) fun t80_1 =>
  k_7 t80_1 h_28) h_28 fun t80_2 h_29 =>
  pop P (pickS t75_1 (Value.bool true) t80_2) fun t81_1 =>
  guardM t81_1 false (fun k_8 => k_8 t48_1 h_29) h_29 fun t83_1 h_30 =>
  guardM t81_1 false (fun k_9 => k_9 t37_1 h_30) h_30 fun t84_1 h_31 =>
  guardM t81_1 false (fun k_10 => pop P (binE .neq 4 (.tmp 83) (.tmp 84) t83_1 t84_1) fun t85_1 =>
  k_10 t85_1 h_31) h_31 fun t85_2 h_32 =>
  pop P (pickS t81_1 (Value.bool true) t85_2) fun t86_1 =>
  condM t86_1
  (K (Value.bool false) h_32)
  (callM P 21 #[t47_1, (Value.int IntKind.i64 1)] h_32 fun t89_1 h_33 =>
  callM P 22 #[t47_1, (Value.int IntKind.i64 1)] h_33 fun t92_1 h_34 =>
  pop P (binA .lss 3 t92_1 (Value.int IntKind.i64 0)) fun t94_1 =>
  condM t94_1
  (K (Value.bool false) h_34)
  (pop P (binE .neq 3 (.tmp 95) (.tmp 96) t92_1 t89_1) fun t97_1 =>
  condM t97_1
  (K (Value.bool false) h_34)
  (rop P (Instr.loadAt 24 aG3_1) h_34 fun t99_1 =>
  rop P (Instr.loadAt 27 aL5_1) h_34 fun t102_1 =>
  callM P 13 #[t99_1] h_34 fun t100_1 h_35 =>
  (∀ w : World, w.heap = h_35 → (Instr.loadAt 27 aL5_1).run P w = .ok t102_1 w) ∧
  callM P 14 #[t102_1] h_35 fun t103_1 h_36 =>
  callM P 15 #[t100_1, aSink1_1, t103_1] h_36 fun t104_1 h_37 =>
  pop P (Instr.extract t104_1 0) fun t105_1 =>
  pop P (Instr.extract t104_1 1) fun t106_1 =>
  callM P 16 #[t105_1, t36_1] h_37 fun t109_1 h_38 =>
  pop P (Op.unary .not t109_1) fun t110_1 =>
  guardM t110_1 false (fun k_11 => k_11 t106_1 h_38) h_38 fun t112_1 h_39 =>
  guardM t110_1 false (fun k_12 => k_12 t37_1 h_39) h_39 fun t113_1 h_40 =>
  guardM t110_1 false (fun k_13 => pop P (binE .neq 4 (.tmp 112) (.tmp 113) t112_1 t113_1) fun t114_1 =>
  k_13 t114_1 h_40) h_40 fun t114_2 h_41 =>
  pop P (pickS t110_1 (Value.bool true) t114_2) fun t115_1 =>
  condM t115_1
  (K (Value.bool false) h_41)
  (callM P 22 #[t47_1, (Value.int IntKind.i64 1)] h_41 fun t118_1 h_42 =>
  pop P (binA .lss 3 t118_1 (Value.int IntKind.i64 0)) fun t120_1 =>
  condM t120_1
  (K (Value.bool false) h_42)
  (pop P (binE .neq 3 (.tmp 121) (.tmp 122) t118_1 t89_1) fun t123_1 =>
  condM t123_1
  (K (Value.bool false) h_42)
  (K (Value.bool true) h_42)))))))))))
theorem e3 (aG0_1 : Value) (aSink1_1 : Value) (aL2_1 : Value) (h : Heap) (K : Value → Heap → Prop) : wpA Try.prog 124 (anOf []) (bodyOf Try.f3) 1 (fun A h => resA Try.prog A h K [.tmp 6]) (fun _ _ _ => False) (fun A h => resA Try.prog A h K [.tmp 6]) (aargs [aG0_1, aSink1_1, aL2_1] 0) h = t3 Try.prog aG0_1 aSink1_1 aL2_1 h K := by kernel_rfl
theorem c3 (aG0_1 : Value) (aSink1_1 : Value) (aL2_1 : Value) (h : Heap) (K : Value → Heap → Prop) (H : t3 Try.prog aG0_1 aSink1_1 aL2_1 h K) : callM Try.prog 3 #[aG0_1, aSink1_1, aL2_1] h K :=
  callM_of_wpA mixed (fn := Try.f3) Try.func3 (c := bodyOf Try.f3) rfl (of_decide_eq_true (by kernel_rfl)) (anOf []) 121 124 (by kernel_rfl) rfl [.tmp 6] (by kernel_rfl) (args := [aG0_1, aSink1_1, aL2_1]) (by rw [e3]; exact H)

/-! laws.szGraph -/
def t10 (P : Program) (a0_1 : Value) (left1_1 : Value) (h : Heap) (K : Value → Heap → Prop) : Prop :=
  eop P (Instr.box 24 a0_1) h fun a2_1 h_1 =>
  pop P (Instr.fieldAt 24 a2_1 0) fun t5_1 =>
  rop P (Instr.loadAt 22 t5_1) h_1 fun t6_1 =>
  callM P 74 #[t6_1, left1_1] h_1 fun t8_1 h_2 =>
  pop P (binA .lss 3 t8_1 (Value.int IntKind.i64 0)) fun t10_1 =>
  condM t10_1
  (K (Value.int IntKind.i64 (-1)) h_2)
  (K t8_1 h_2)
theorem e10 (a0_1 : Value) (left1_1 : Value) (h : Heap) (K : Value → Heap → Prop) : wpA Try.prog 12 (anOf []) (bodyOf Try.f10) 1 (fun A h => resA Try.prog A h K [.tmp 4]) (fun _ _ _ => False) (fun A h => resA Try.prog A h K [.tmp 4]) (aargs [a0_1, left1_1] 0) h = t10 Try.prog a0_1 left1_1 h K := by kernel_rfl
theorem c10 (a0_1 : Value) (left1_1 : Value) (h : Heap) (K : Value → Heap → Prop) (H : t10 Try.prog a0_1 left1_1 h K) : callM Try.prog 10 #[a0_1, left1_1] h K :=
  callM_of_wpA mixed (fn := Try.f10) Try.func10 (c := bodyOf Try.f10) rfl (of_decide_eq_true (by kernel_rfl)) (anOf []) 10 12 (by kernel_rfl) rfl [.tmp 4] (by kernel_rfl) (args := [a0_1, left1_1]) (by rw [e10]; exact H)

/-! laws.szLoad -/
def t11 (P : Program) (a0_1 : Value) (left1_1 : Value) (h : Heap) (K : Value → Heap → Prop) : Prop :=
  eop P (Instr.box 27 a0_1) h fun a2_1 h_1 =>
  pop P (Instr.fieldAt 27 a2_1 0) fun t5_1 =>
  rop P (Instr.loadAt 25 t5_1) h_1 fun t6_1 =>
  callM P 75 #[t6_1, left1_1] h_1 fun t8_1 h_2 =>
  pop P (binA .lss 3 t8_1 (Value.int IntKind.i64 0)) fun t10_1 =>
  condM t10_1
  (K (Value.int IntKind.i64 (-1)) h_2)
  (pop P (Instr.fieldAt 27 a2_1 1) fun t11_1 =>
  rop P (Instr.loadAt 25 t11_1) h_2 fun t12_1 =>
  callM P 75 #[t12_1, t8_1] h_2 fun t14_1 h_3 =>
  pop P (binA .lss 3 t14_1 (Value.int IntKind.i64 0)) fun t16_1 =>
  condM t16_1
  (K (Value.int IntKind.i64 (-1)) h_3)
  (K t14_1 h_3))
theorem e11 (a0_1 : Value) (left1_1 : Value) (h : Heap) (K : Value → Heap → Prop) : wpA Try.prog 18 (anOf []) (bodyOf Try.f11) 1 (fun A h => resA Try.prog A h K [.tmp 4]) (fun _ _ _ => False) (fun A h => resA Try.prog A h K [.tmp 4]) (aargs [a0_1, left1_1] 0) h = t11 Try.prog a0_1 left1_1 h K := by kernel_rfl
theorem c11 (a0_1 : Value) (left1_1 : Value) (h : Heap) (K : Value → Heap → Prop) (H : t11 Try.prog a0_1 left1_1 h K) : callM Try.prog 11 #[a0_1, left1_1] h K :=
  callM_of_wpA mixed (fn := Try.f11) Try.func11 (c := bodyOf Try.f11) rfl (of_decide_eq_true (by kernel_rfl)) (anOf []) 16 18 (by kernel_rfl) rfl [.tmp 4] (by kernel_rfl) (args := [a0_1, left1_1]) (by rw [e11]; exact H)

/-! spec.MovesOfLoad -/
def t12 (P : Program) (g0_1 : Value) (sink1_1 : Value) (l2_1 : Value) (h : Heap) (K : Value → Heap → Prop) : Prop :=
  eop P (Instr.box 32 g0_1) h fun g3_1 h_1 =>
  eop P (Instr.box 34 l2_1) h_1 fun l5_1 h_2 =>
  rop P (Instr.loadAt 32 g3_1) h_2 fun t11_1 =>
  rop P (Instr.loadAt 34 l5_1) h_2 fun t13_1 =>
  callM P 76 #[t11_1, sink1_1, t13_1] h_2 fun t14_1 h_3 =>
  pop P (Op.unary .not t14_1) fun t15_1 =>
  condM t15_1
  (K (.tuple #[(Value.slice none 0 0), (Value.bool false)]) h_3)
  (rop P (Instr.loadAt 32 g3_1) h_3 fun t17_1 =>
  rop P (Instr.loadAt 34 l5_1) h_3 fun t19_1 =>
  callM P 77 #[t17_1, sink1_1, t19_1, (Value.slice none 0 0)] h_3 fun t20_1 h_4 =>
  pop P (Instr.extract t20_1 0) fun t21_1 =>
  pop P (Instr.extract t20_1 1) fun t22_1 =>
  pop P (Instr.extract t20_1 2) fun t23_1 =>
  eop P (Instr.alloc 34 true (.tuple #[])) h_4 fun _8_1 h_5 =>
  uop P (Instr.storeAt 34 _8_1 t21_1) h_5 fun u_1 h_6 =>
  K (.tuple #[t22_1, t23_1]) h_6)
theorem e12 (g0_1 : Value) (sink1_1 : Value) (l2_1 : Value) (h : Heap) (K : Value → Heap → Prop) : wpA Try.prog 26 (anOf []) (bodyOf Try.f12) 1 (fun A h => resA Try.prog A h K [.tmp 6, .tmp 7]) (fun _ _ _ => False) (fun A h => resA Try.prog A h K [.tmp 6, .tmp 7]) (aargs [g0_1, sink1_1, l2_1] 0) h = t12 Try.prog g0_1 sink1_1 l2_1 h K := by kernel_rfl
theorem c12 (g0_1 : Value) (sink1_1 : Value) (l2_1 : Value) (h : Heap) (K : Value → Heap → Prop) (H : t12 Try.prog g0_1 sink1_1 l2_1 h K) : callM Try.prog 12 #[g0_1, sink1_1, l2_1] h K :=
  callM_of_wpA mixed (fn := Try.f12) Try.func12 (c := bodyOf Try.f12) rfl (of_decide_eq_true (by kernel_rfl)) (anOf []) 23 26 (by kernel_rfl) rfl [.tmp 6, .tmp 7] (by kernel_rfl) (args := [g0_1, sink1_1, l2_1]) (by rw [e12]; exact H)

/-! laws.toGraph -/
def t13 (P : Program) (a0_1 : Value) (h : Heap) (K : Value → Heap → Prop) : Prop :=
  eop P (Instr.box 24 a0_1) h fun a1_1 h_1 =>
  eop P (Instr.alloc 32 true (.tuple #[])) h_1 fun t2_1 h_2 =>
  eop P (Instr.alloc 32 true (.tuple #[])) h_2 fun out3_1 h_3 =>
  pop P (Instr.fieldAt 24 a1_1 0) fun t4_1 =>
  rop P (Instr.loadAt 22 t4_1) h_3 fun t5_1 =>
  callM P 78 #[t5_1] h_3 fun t6_1 h_4 =>
  pop P (Instr.fieldAt 32 out3_1 0) fun t7_1 =>
  uop P (Instr.storeAt 22 t7_1 t6_1) h_4 fun u_1 h_5 =>
  rop P (Instr.loadAt 32 out3_1) h_5 fun t8_1 =>
  uop P (Instr.storeAt 32 t2_1 t8_1) h_5 fun u_2 h_6 =>
  rop P (Instr.loadAt 32 t2_1) h_6 fun r_1 =>
  K r_1 h_6
theorem e13 (a0_1 : Value) (h : Heap) (K : Value → Heap → Prop) : wpA Try.prog 9 (anOf []) (bodyOf Try.f13) 1 (fun A h => resA Try.prog A h K [.cell 2 32]) (fun _ _ _ => False) (fun A h => resA Try.prog A h K [.cell 2 32]) (aargs [a0_1] 0) h = t13 Try.prog a0_1 h K := by kernel_rfl
theorem c13 (a0_1 : Value) (h : Heap) (K : Value → Heap → Prop) (H : t13 Try.prog a0_1 h K) : callM Try.prog 13 #[a0_1] h K :=
  callM_of_wpA mixed (fn := Try.f13) Try.func13 (c := bodyOf Try.f13) rfl (of_decide_eq_true (by kernel_rfl)) (anOf []) 8 9 (by kernel_rfl) rfl [.cell 2 32] (by kernel_rfl) (args := [a0_1]) (by rw [e13]; exact H)

/-! laws.toLoad -/
def t14 (P : Program) (a0_1 : Value) (h : Heap) (K : Value → Heap → Prop) : Prop :=
  eop P (Instr.box 27 a0_1) h fun a1_1 h_1 =>
  eop P (Instr.alloc 34 true (.tuple #[])) h_1 fun t2_1 h_2 =>
  eop P (Instr.alloc 34 true (.tuple #[])) h_2 fun out3_1 h_3 =>
  pop P (Instr.fieldAt 27 a1_1 0) fun t4_1 =>
  rop P (Instr.loadAt 25 t4_1) h_3 fun t5_1 =>
  callM P 26 #[t5_1] h_3 fun t6_1 h_4 =>
  pop P (Instr.fieldAt 34 out3_1 0) fun t7_1 =>
  uop P (Instr.storeAt 25 t7_1 t6_1) h_4 fun u_1 h_5 =>
  pop P (Instr.fieldAt 27 a1_1 1) fun t8_1 =>
  rop P (Instr.loadAt 25 t8_1) h_5 fun t9_1 =>
  callM P 26 #[t9_1] h_5 fun t10_1 h_6 =>
  pop P (Instr.fieldAt 34 out3_1 1) fun t11_1 =>
  uop P (Instr.storeAt 25 t11_1 t10_1) h_6 fun u_2 h_7 =>
  rop P (Instr.loadAt 34 out3_1) h_7 fun t12_1 =>
  uop P (Instr.storeAt 34 t2_1 t12_1) h_7 fun u_3 h_8 =>
  rop P (Instr.loadAt 34 t2_1) h_8 fun r_1 =>
  K r_1 h_8
theorem e14 (a0_1 : Value) (h : Heap) (K : Value → Heap → Prop) : wpA Try.prog 13 (anOf []) (bodyOf Try.f14) 1 (fun A h => resA Try.prog A h K [.cell 2 34]) (fun _ _ _ => False) (fun A h => resA Try.prog A h K [.cell 2 34]) (aargs [a0_1] 0) h = t14 Try.prog a0_1 h K := by kernel_rfl
theorem c14 (a0_1 : Value) (h : Heap) (K : Value → Heap → Prop) (H : t14 Try.prog a0_1 h K) : callM Try.prog 14 #[a0_1] h K :=
  callM_of_wpA mixed (fn := Try.f14) Try.func14 (c := bodyOf Try.f14) rfl (of_decide_eq_true (by kernel_rfl)) (anOf []) 12 13 (by kernel_rfl) rfl [.cell 2 34] (by kernel_rfl) (args := [a0_1]) (by rw [e14]; exact H)

/-! impl.MovesOfLoad -/
def t15 (P : Program) (g0_1 : Value) (sink1_1 : Value) (l2_1 : Value) (h : Heap) (K : Value → Heap → Prop) : Prop :=
  eop P (Instr.box 32 g0_1) h fun g3_1 h_1 =>
  eop P (Instr.box 34 l2_1) h_1 fun l5_1 h_2 =>
  rop P (Instr.loadAt 32 g3_1) h_2 fun t9_1 =>
  rop P (Instr.loadAt 34 l5_1) h_2 fun t11_1 =>
  callM P 79 #[t9_1, sink1_1, t11_1] h_2 fun t12_1 h_3 =>
  pop P (Op.unary .not t12_1) fun t13_1 =>
  condM t13_1
  (K (.tuple #[(Value.slice none 0 0), (Value.bool false)]) h_3)
  (rop P (Instr.loadAt 34 l5_1) h_3 fun t14_1 =>
  callM P 80 #[t14_1] h_3 fun t15_1 h_4 =>
  eop P (Instr.alloc 34 true (.tuple #[])) h_4 fun out8_1 h_5 =>
  uop P (Instr.storeAt 34 out8_1 t15_1) h_5 fun u_1 h_6 =>
  rop P (Instr.loadAt 32 g3_1) h_6 fun t16_1 =>
  callM P 81 #[out8_1, t16_1, sink1_1, (Value.slice none 0 0)] h_6 fun t18_1 h_7 =>
  pop P (Instr.extract t18_1 0) fun t19_1 =>
  pop P (Instr.extract t18_1 1) fun t20_1 =>
  K (.tuple #[t19_1, t20_1]) h_7)
theorem e15 (g0_1 : Value) (sink1_1 : Value) (l2_1 : Value) (h : Heap) (K : Value → Heap → Prop) : wpA Try.prog 21 (anOf []) (bodyOf Try.f15) 1 (fun A h => resA Try.prog A h K [.tmp 6, .tmp 7]) (fun _ _ _ => False) (fun A h => resA Try.prog A h K [.tmp 6, .tmp 7]) (aargs [g0_1, sink1_1, l2_1] 0) h = t15 Try.prog g0_1 sink1_1 l2_1 h K := by kernel_rfl
theorem c15 (g0_1 : Value) (sink1_1 : Value) (l2_1 : Value) (h : Heap) (K : Value → Heap → Prop) (H : t15 Try.prog g0_1 sink1_1 l2_1 h K) : callM Try.prog 15 #[g0_1, sink1_1, l2_1] h K :=
  callM_of_wpA mixed (fn := Try.f15) Try.func15 (c := bodyOf Try.f15) rfl (of_decide_eq_true (by kernel_rfl)) (anOf []) 18 21 (by kernel_rfl) rfl [.tmp 6, .tmp 7] (by kernel_rfl) (args := [g0_1, sink1_1, l2_1]) (by rw [e15]; exact H)

/-! laws.eqIntS -/
def t16 (P : Program) (a0_1 : Value) (b1_1 : Value) (h : Heap) (K : Value → Heap → Prop) : Prop :=
  pop P (lenS 25 3 a0_1) fun t7_1 =>
  pop P (lenS 25 3 b1_1) fun t9_1 =>
  pop P (binE .neq 3 (.tmp 7) (.tmp 9) t7_1 t9_1) fun t10_1 =>
  condM t10_1
  (K (Value.bool false) h)
  (∃ (I_1 : List Value → Heap → Prop) (μ_1 : List Value → Heap → Nat), I_1 [(Value.int IntKind.i64 0)] h ∧
  ∀ (junk_1 : Nat → Value) (i5_1 : Value) (h_1 : Heap), I_1 [i5_1] h_1 →
  pop P (lenS 25 3 a0_1) fun t13_1 =>
  pop P (binA .lss 3 i5_1 t13_1) fun t14_1 =>
  condM t14_1
  (pop P (Instr.indexAt 25 a0_1 i5_1) fun t19_1 =>
  rop P (Instr.loadAt 3 t19_1) h_1 fun t20_1 =>
  pop P (Instr.indexAt 25 b1_1 i5_1) fun t23_1 =>
  rop P (Instr.loadAt 3 t23_1) h_1 fun t24_1 =>
  pop P (binE .neq 3 (.tmp 20) (.tmp 24) t20_1 t24_1) fun t25_1 =>
  condM t25_1
  (K (Value.bool false) h_1)
  (pop P (binA .add 3 i5_1 (Value.int IntKind.i64 1)) fun t16_1 =>
  I_1 [t16_1] h_1 ∧ μ_1 [t16_1] h_1 < μ_1 [i5_1] h_1))
  (K (Value.bool true) h_1))
theorem e16 (a0_1 : Value) (b1_1 : Value) (h : Heap) (K : Value → Heap → Prop) : wpA Try.prog 26 (anOf [(58, [5])]) (bodyOf Try.f16) 1 (fun A h => resA Try.prog A h K [.tmp 4]) (fun _ _ _ => False) (fun A h => resA Try.prog A h K [.tmp 4]) (aargs [a0_1, b1_1] 0) h = t16 Try.prog a0_1 b1_1 h K := by kernel_rfl
theorem c16 (a0_1 : Value) (b1_1 : Value) (h : Heap) (K : Value → Heap → Prop) (H : t16 Try.prog a0_1 b1_1 h K) : callM Try.prog 16 #[a0_1, b1_1] h K :=
  callM_of_wpA mixed (fn := Try.f16) Try.func16 (c := bodyOf Try.f16) rfl (of_decide_eq_true (by kernel_rfl)) (anOf [(58, [5])]) 24 26 (by kernel_rfl) rfl [.tmp 4] (by kernel_rfl) (args := [a0_1, b1_1]) (by rw [e16]; exact H)

/-! laws.eqGraph -/
def t17 (P : Program) (a0_1 : Value) (b1_1 : Value) (h : Heap) (K : Value → Heap → Prop) : Prop :=
  eop P (Instr.box 32 a0_1) h fun a2_1 h_1 =>
  eop P (Instr.box 32 b1_1) h_1 fun b3_1 h_2 =>
  pop P (Instr.fieldAt 32 a2_1 0) fun t5_1 =>
  rop P (Instr.loadAt 22 t5_1) h_2 fun t6_1 =>
  pop P (Instr.fieldAt 32 b3_1 0) fun t7_1 =>
  rop P (Instr.loadAt 22 t7_1) h_2 fun t8_1 =>
  callM P 82 #[t6_1, t8_1] h_2 fun t9_1 h_3 =>
  pop P (Op.unary .not t9_1) fun t10_1 =>
  condM t10_1
  (K (Value.bool false) h_3)
  (K (Value.bool true) h_3)
theorem e17 (a0_1 : Value) (b1_1 : Value) (h : Heap) (K : Value → Heap → Prop) : wpA Try.prog 11 (anOf []) (bodyOf Try.f17) 1 (fun A h => resA Try.prog A h K [.tmp 4]) (fun _ _ _ => False) (fun A h => resA Try.prog A h K [.tmp 4]) (aargs [a0_1, b1_1] 0) h = t17 Try.prog a0_1 b1_1 h K := by kernel_rfl
theorem c17 (a0_1 : Value) (b1_1 : Value) (h : Heap) (K : Value → Heap → Prop) (H : t17 Try.prog a0_1 b1_1 h K) : callM Try.prog 17 #[a0_1, b1_1] h K :=
  callM_of_wpA mixed (fn := Try.f17) Try.func17 (c := bodyOf Try.f17) rfl (of_decide_eq_true (by kernel_rfl)) (anOf []) 9 11 (by kernel_rfl) rfl [.tmp 4] (by kernel_rfl) (args := [a0_1, b1_1]) (by rw [e17]; exact H)

/-! laws.eqLoad -/
def t18 (P : Program) (a0_1 : Value) (b1_1 : Value) (h : Heap) (K : Value → Heap → Prop) : Prop :=
  eop P (Instr.box 34 a0_1) h fun a2_1 h_1 =>
  eop P (Instr.box 34 b1_1) h_1 fun b3_1 h_2 =>
  pop P (Instr.fieldAt 34 a2_1 0) fun t5_1 =>
  rop P (Instr.loadAt 25 t5_1) h_2 fun t6_1 =>
  pop P (Instr.fieldAt 34 b3_1 0) fun t7_1 =>
  rop P (Instr.loadAt 25 t7_1) h_2 fun t8_1 =>
  callM P 16 #[t6_1, t8_1] h_2 fun t9_1 h_3 =>
  pop P (Op.unary .not t9_1) fun t10_1 =>
  condM t10_1
  (K (Value.bool false) h_3)
  (pop P (Instr.fieldAt 34 a2_1 1) fun t11_1 =>
  rop P (Instr.loadAt 25 t11_1) h_3 fun t12_1 =>
  pop P (Instr.fieldAt 34 b3_1 1) fun t13_1 =>
  rop P (Instr.loadAt 25 t13_1) h_3 fun t14_1 =>
  callM P 16 #[t12_1, t14_1] h_3 fun t15_1 h_4 =>
  pop P (Op.unary .not t15_1) fun t16_1 =>
  condM t16_1
  (K (Value.bool false) h_4)
  (K (Value.bool true) h_4))
theorem e18 (a0_1 : Value) (b1_1 : Value) (h : Heap) (K : Value → Heap → Prop) : wpA Try.prog 17 (anOf []) (bodyOf Try.f18) 1 (fun A h => resA Try.prog A h K [.tmp 4]) (fun _ _ _ => False) (fun A h => resA Try.prog A h K [.tmp 4]) (aargs [a0_1, b1_1] 0) h = t18 Try.prog a0_1 b1_1 h K := by kernel_rfl
theorem c18 (a0_1 : Value) (b1_1 : Value) (h : Heap) (K : Value → Heap → Prop) (H : t18 Try.prog a0_1 b1_1 h K) : callM Try.prog 18 #[a0_1, b1_1] h K :=
  callM_of_wpA mixed (fn := Try.f18) Try.func18 (c := bodyOf Try.f18) rfl (of_decide_eq_true (by kernel_rfl)) (anOf []) 15 17 (by kernel_rfl) rfl [.tmp 4] (by kernel_rfl) (args := [a0_1, b1_1]) (by rw [e18]; exact H)

/-! laws.markGraph -/
def t19 (P : Program) (a0_1 : Value) (k1_1 : Value) (h : Heap) (K : Value → Heap → Prop) : Prop :=
  eop P (Instr.box 32 a0_1) h fun a2_1 h_1 =>
  pop P (Instr.fieldAt 32 a2_1 0) fun t5_1 =>
  rop P (Instr.loadAt 22 t5_1) h_1 fun t6_1 =>
  callM P 83 #[t6_1, k1_1] h_1 fun t8_1 h_2 =>
  K t8_1 h_2
theorem e19 (a0_1 : Value) (k1_1 : Value) (h : Heap) (K : Value → Heap → Prop) : wpA Try.prog 10 (anOf []) (bodyOf Try.f19) 1 (fun A h => resA Try.prog A h K [.tmp 4]) (fun _ _ _ => False) (fun A h => resA Try.prog A h K [.tmp 4]) (aargs [a0_1, k1_1] 0) h = t19 Try.prog a0_1 k1_1 h K := by kernel_rfl
theorem c19 (a0_1 : Value) (k1_1 : Value) (h : Heap) (K : Value → Heap → Prop) (H : t19 Try.prog a0_1 k1_1 h K) : callM Try.prog 19 #[a0_1, k1_1] h K :=
  callM_of_wpA mixed (fn := Try.f19) Try.func19 (c := bodyOf Try.f19) rfl (of_decide_eq_true (by kernel_rfl)) (anOf []) 8 10 (by kernel_rfl) rfl [.tmp 4] (by kernel_rfl) (args := [a0_1, k1_1]) (by rw [e19]; exact H)

/-! laws.markLoad -/
def t20 (P : Program) (a0_1 : Value) (k1_1 : Value) (h : Heap) (K : Value → Heap → Prop) : Prop :=
  eop P (Instr.box 34 a0_1) h fun a2_1 h_1 =>
  pop P (Instr.fieldAt 34 a2_1 0) fun t5_1 =>
  rop P (Instr.loadAt 25 t5_1) h_1 fun t6_1 =>
  callM P 21 #[t6_1, k1_1] h_1 fun t8_1 h_2 =>
  pop P (Instr.fieldAt 34 a2_1 1) fun t9_1 =>
  rop P (Instr.loadAt 25 t9_1) h_2 fun t10_1 =>
  callM P 21 #[t10_1, t8_1] h_2 fun t12_1 h_3 =>
  K t12_1 h_3
theorem e20 (a0_1 : Value) (k1_1 : Value) (h : Heap) (K : Value → Heap → Prop) : wpA Try.prog 14 (anOf []) (bodyOf Try.f20) 1 (fun A h => resA Try.prog A h K [.tmp 4]) (fun _ _ _ => False) (fun A h => resA Try.prog A h K [.tmp 4]) (aargs [a0_1, k1_1] 0) h = t20 Try.prog a0_1 k1_1 h K := by kernel_rfl
theorem c20 (a0_1 : Value) (k1_1 : Value) (h : Heap) (K : Value → Heap → Prop) (H : t20 Try.prog a0_1 k1_1 h K) : callM Try.prog 20 #[a0_1, k1_1] h K :=
  callM_of_wpA mixed (fn := Try.f20) Try.func20 (c := bodyOf Try.f20) rfl (of_decide_eq_true (by kernel_rfl)) (anOf []) 12 14 (by kernel_rfl) rfl [.tmp 4] (by kernel_rfl) (args := [a0_1, k1_1]) (by rw [e20]; exact H)

/-! laws.markIntS -/
def t21 (P : Program) (a0_1 : Value) (k1_1 : Value) (h : Heap) (K : Value → Heap → Prop) : Prop :=
  ∃ (I_1 : List Value → Heap → Prop) (μ_1 : List Value → Heap → Nat), I_1 [k1_1, (Value.int IntKind.i64 0)] h ∧
  ∀ (junk_1 : Nat → Value) (k1_2 : Value) (i5_1 : Value) (h_1 : Heap), I_1 [k1_2, i5_1] h_1 →
  pop P (lenS 25 3 a0_1) fun t8_1 =>
  pop P (binA .lss 3 i5_1 t8_1) fun t9_1 =>
  condM t9_1
  (pop P (Instr.indexAt 25 a0_1 i5_1) fun t15_1 =>
  uop P (Instr.storeAt 3 t15_1 k1_2) h_1 fun u_1 h_2 =>
  pop P (binA .add 3 k1_2 (Value.int IntKind.i64 1)) fun t17_1 =>
  pop P (binA .add 3 i5_1 (Value.int IntKind.i64 1)) fun t11_1 =>
  I_1 [t17_1, t11_1] h_2 ∧ μ_1 [t17_1, t11_1] h_2 < μ_1 [k1_2, i5_1] h_1)
  (K k1_2 h_1)
theorem e21 (a0_1 : Value) (k1_1 : Value) (h : Heap) (K : Value → Heap → Prop) : wpA Try.prog 19 (anOf [(26, [1, 5])]) (bodyOf Try.f21) 1 (fun A h => resA Try.prog A h K [.tmp 4]) (fun _ _ _ => False) (fun A h => resA Try.prog A h K [.tmp 4]) (aargs [a0_1, k1_1] 0) h = t21 Try.prog a0_1 k1_1 h K := by kernel_rfl
theorem c21 (a0_1 : Value) (k1_1 : Value) (h : Heap) (K : Value → Heap → Prop) (H : t21 Try.prog a0_1 k1_1 h K) : callM Try.prog 21 #[a0_1, k1_1] h K :=
  callM_of_wpA mixed (fn := Try.f21) Try.func21 (c := bodyOf Try.f21) rfl (of_decide_eq_true (by kernel_rfl)) (anOf [(26, [1, 5])]) 17 19 (by kernel_rfl) rfl [.tmp 4] (by kernel_rfl) (args := [a0_1, k1_1]) (by rw [e21]; exact H)

/-! laws.heldIntS -/
def t22 (P : Program) (a0_1 : Value) (k1_1 : Value) (h : Heap) (K : Value → Heap → Prop) : Prop :=
  ∃ (I_1 : List Value → Heap → Prop) (μ_1 : List Value → Heap → Nat), I_1 [k1_1, (Value.int IntKind.i64 0)] h ∧
  ∀ (junk_1 : Nat → Value) (k1_2 : Value) (i5_1 : Value) (h_1 : Heap), I_1 [k1_2, i5_1] h_1 →
  pop P (lenS 25 3 a0_1) fun t8_1 =>
  pop P (binA .lss 3 i5_1 t8_1) fun t9_1 =>
  condM t9_1
  (pop P (Instr.indexAt 25 a0_1 i5_1) fun t14_1 =>
  rop P (Instr.loadAt 3 t14_1) h_1 fun t15_1 =>
  pop P (binE .neq 3 (.tmp 15) (.tmp 16) t15_1 k1_2) fun t17_1 =>
  condM t17_1
  (K (Value.int IntKind.i64 (-1)) h_1)
  (pop P (binA .add 3 k1_2 (Value.int IntKind.i64 1)) fun t19_1 =>
  pop P (binA .add 3 i5_1 (Value.int IntKind.i64 1)) fun t11_1 =>
  I_1 [t19_1, t11_1] h_1 ∧ μ_1 [t19_1, t11_1] h_1 < μ_1 [k1_2, i5_1] h_1))
  (K k1_2 h_1)
theorem e22 (a0_1 : Value) (k1_1 : Value) (h : Heap) (K : Value → Heap → Prop) : wpA Try.prog 21 (anOf [(26, [1, 5])]) (bodyOf Try.f22) 1 (fun A h => resA Try.prog A h K [.tmp 4]) (fun _ _ _ => False) (fun A h => resA Try.prog A h K [.tmp 4]) (aargs [a0_1, k1_1] 0) h = t22 Try.prog a0_1 k1_1 h K := by kernel_rfl
theorem c22 (a0_1 : Value) (k1_1 : Value) (h : Heap) (K : Value → Heap → Prop) (H : t22 Try.prog a0_1 k1_1 h K) : callM Try.prog 22 #[a0_1, k1_1] h K :=
  callM_of_wpA mixed (fn := Try.f22) Try.func22 (c := bodyOf Try.f22) rfl (of_decide_eq_true (by kernel_rfl)) (anOf [(26, [1, 5])]) 19 21 (by kernel_rfl) rfl [.tmp 4] (by kernel_rfl) (args := [a0_1, k1_1]) (by rw [e22]; exact H)

/-! laws.toIntS -/
def t26 (P : Program) (a0_1 : Value) (h : Heap) (K : Value → Heap → Prop) : Prop :=
  pop P (lenS 25 3 a0_1) fun t6_1 =>
  eop P (Instr.makeSlice 25 t6_1 t6_1) h fun t7_1 h_1 =>
  ∃ (I_1 : List Value → Heap → Prop) (μ_1 : List Value → Heap → Nat), I_1 [(Value.int IntKind.i64 0)] h_1 ∧
  ∀ (junk_1 : Nat → Value) (i4_1 : Value) (h_2 : Heap), I_1 [i4_1] h_2 →
  pop P (lenS 25 3 a0_1) fun t10_1 =>
  pop P (binA .lss 3 i4_1 t10_1) fun t11_1 =>
  condM t11_1
  (pop P (Instr.indexAt 25 a0_1 i4_1) fun t18_1 =>
  rop P (Instr.loadAt 3 t18_1) h_2 fun t19_1 =>
  pop P (Instr.indexAt 25 t7_1 i4_1) fun t20_1 =>
  uop P (Instr.storeAt 3 t20_1 t19_1) h_2 fun u_1 h_3 =>
  pop P (binA .add 3 i4_1 (Value.int IntKind.i64 1)) fun t13_1 =>
  I_1 [t13_1] h_3 ∧ μ_1 [t13_1] h_3 < μ_1 [i4_1] h_2)
  (K t7_1 h_2)
theorem e26 (a0_1 : Value) (h : Heap) (K : Value → Heap → Prop) : wpA Try.prog 22 (anOf [(58, [4])]) (bodyOf Try.f26) 1 (fun A h => resA Try.prog A h K [.tmp 2]) (fun _ _ _ => False) (fun A h => resA Try.prog A h K [.tmp 2]) (aargs [a0_1] 0) h = t26 Try.prog a0_1 h K := by kernel_rfl
theorem c26 (a0_1 : Value) (h : Heap) (K : Value → Heap → Prop) (H : t26 Try.prog a0_1 h K) : callM Try.prog 26 #[a0_1] h K :=
  callM_of_wpA mixed (fn := Try.f26) Try.func26 (c := bodyOf Try.f26) rfl (of_decide_eq_true (by kernel_rfl)) (anOf [(58, [4])]) 21 22 (by kernel_rfl) rfl [.tmp 2] (by kernel_rfl) (args := [a0_1]) (by rw [e26]; exact H)

/-! laws.szIntSS -/
def t74 (P : Program) (a0_1 : Value) (left1_1 : Value) (h : Heap) (K : Value → Heap → Prop) : Prop :=
  pop P (lenS 22 3 a0_1) fun t8_1 =>
  pop P (binA .sub 3 left1_1 t8_1) fun t9_1 =>
  pop P (binA .lss 3 t9_1 (Value.int IntKind.i64 0)) fun t11_1 =>
  condM t11_1
  (K (Value.int IntKind.i64 (-1)) h)
  (∃ (I_1 : List Value → Heap → Prop) (μ_1 : List Value → Heap → Nat), I_1 [t9_1, (Value.int IntKind.i64 0)] h ∧
  ∀ (junk_1 : Nat → Value) (left1_2 : Value) (i5_1 : Value) (h_1 : Heap), I_1 [left1_2, i5_1] h_1 →
  pop P (lenS 22 3 a0_1) fun t14_1 =>
  pop P (binA .lss 3 i5_1 t14_1) fun t15_1 =>
  condM t15_1
  (pop P (Instr.indexAt 22 a0_1 i5_1) fun t20_1 =>
  rop P (Instr.loadAt 25 t20_1) h_1 fun t21_1 =>
  callM P 75 #[t21_1, left1_2] h_1 fun t23_1 h_2 =>
  pop P (binA .lss 3 t23_1 (Value.int IntKind.i64 0)) fun t25_1 =>
  condM t25_1
  (K (Value.int IntKind.i64 (-1)) h_2)
  (pop P (binA .add 3 i5_1 (Value.int IntKind.i64 1)) fun t17_1 =>
  I_1 [t23_1, t17_1] h_2 ∧ μ_1 [t23_1, t17_1] h_2 < μ_1 [left1_2, i5_1] h_1))
  (K left1_2 h_1))
theorem e74 (a0_1 : Value) (left1_1 : Value) (h : Heap) (K : Value → Heap → Prop) : wpA Try.prog 27 (anOf [(122, [1, 5])]) (bodyOf Try.f74) 1 (fun A h => resA Try.prog A h K [.tmp 4]) (fun _ _ _ => False) (fun A h => resA Try.prog A h K [.tmp 4]) (aargs [a0_1, left1_1] 0) h = t74 Try.prog a0_1 left1_1 h K := by kernel_rfl
theorem c74 (a0_1 : Value) (left1_1 : Value) (h : Heap) (K : Value → Heap → Prop) (H : t74 Try.prog a0_1 left1_1 h K) : callM Try.prog 74 #[a0_1, left1_1] h K :=
  callM_of_wpA mixed (fn := Try.f74) Try.func74 (c := bodyOf Try.f74) rfl (of_decide_eq_true (by kernel_rfl)) (anOf [(122, [1, 5])]) 25 27 (by kernel_rfl) rfl [.tmp 4] (by kernel_rfl) (args := [a0_1, left1_1]) (by rw [e74]; exact H)

/-! laws.szIntS -/
def t75 (P : Program) (a0_1 : Value) (left1_1 : Value) (h : Heap) (K : Value → Heap → Prop) : Prop :=
  pop P (lenS 25 3 a0_1) fun t7_1 =>
  pop P (binA .sub 3 left1_1 t7_1) fun t8_1 =>
  pop P (binA .lss 3 t8_1 (Value.int IntKind.i64 0)) fun t10_1 =>
  condM t10_1
  (K (Value.int IntKind.i64 (-1)) h)
  (K t8_1 h)
theorem e75 (a0_1 : Value) (left1_1 : Value) (h : Heap) (K : Value → Heap → Prop) : wpA Try.prog 12 (anOf []) (bodyOf Try.f75) 1 (fun A h => resA Try.prog A h K [.tmp 4]) (fun _ _ _ => False) (fun A h => resA Try.prog A h K [.tmp 4]) (aargs [a0_1, left1_1] 0) h = t75 Try.prog a0_1 left1_1 h K := by kernel_rfl
theorem c75 (a0_1 : Value) (left1_1 : Value) (h : Heap) (K : Value → Heap → Prop) (H : t75 Try.prog a0_1 left1_1 h K) : callM Try.prog 75 #[a0_1, left1_1] h K :=
  callM_of_wpA mixed (fn := Try.f75) Try.func75 (c := bodyOf Try.f75) rfl (of_decide_eq_true (by kernel_rfl)) (anOf []) 10 12 (by kernel_rfl) rfl [.tmp 4] (by kernel_rfl) (args := [a0_1, left1_1]) (by rw [e75]; exact H)

/-! spec.chGood -/
def t76 (P : Program) (g0_1 : Value) (sink1_1 : Value) (l2_1 : Value) (h : Heap) (K : Value → Heap → Prop) : Prop :=
  eop P (Instr.box 32 g0_1) h fun g3_1 h_1 =>
  eop P (Instr.box 34 l2_1) h_1 fun l5_1 h_2 =>
  rop P (Instr.loadAt 32 g3_1) h_2 fun t7_1 =>
  callM P 111 #[t7_1, sink1_1] h_2 fun t9_1 h_3 =>
  pop P (Op.unary .not t9_1) fun t10_1 =>
  guardM t10_1 false (fun k_1 => rop P (Instr.loadAt 32 g3_1) h_3 fun t12_1 =>
  k_1 t12_1 h_3) h_3 fun t12_2 h_4 =>
  guardM t10_1 false (fun k_2 => pop P (Instr.fieldAt 34 l5_1 0) fun t13_1 =>
  k_2 t13_1 h_4) h_4 fun t13_2 h_5 =>
  guardM t10_1 false (fun k_3 => rop P (Instr.loadAt 25 t13_2) h_5 fun t14_1 =>
  k_3 t14_1 h_5) h_5 fun t14_2 h_6 =>
  guardM t10_1 false (fun k_4 => k_4 sink1_1 h_6) h_6 fun t15_1 h_7 =>
  guardM t10_1 false (fun k_5 => pop P (Instr.build 132 #[(0, t14_2), (1, t15_1)]) fun t16_1 =>
  k_5 t16_1 h_7) h_7 fun t16_2 h_8 =>
  guardM t10_1 false (fun k_6 => callM P 138 #[t12_2, t16_2] h_8 fun t17_1 h_9 =>
  k_6 t17_1 h_9) h_8 fun t17_2 h_10 =>
  guardM t10_1 false (fun k_7 => pop P (Op.unary .not t17_2) fun t18_1 =>
  k_7 t18_1 h_10) h_10 fun t18_2 h_11 =>
  pop P (pickS t10_1 (Value.bool true) t18_2) fun t19_1 =>
  guardM t19_1 false (fun k_8 => pop P (Instr.fieldAt 34 l5_1 1) fun t21_1 =>
  k_8 t21_1 h_11) h_11 fun t21_2 h_12 =>
  guardM t19_1 false (fun k_9 => rop P (Instr.loadAt 25 t21_2) h_12 fun t22_1 =>
  k_9 t22_1 h_12) h_12 fun t22_2 h_13 =>
  guardM t19_1 false (fun k_10 => pop P (lenS 25 3 t22_2) fun t23_1 =>
  k_10 t23_1 h_13) h_13 fun t23_2 h_14 =>
  guardM t19_1 false (fun k_11 => pop P (Instr.fieldAt 32 g3_1 0) fun t24_1 =>
  k_11 t24_1 h_14) h_14 fun t24_2 h_15 =>
  guardM t19_1 false (fun k_12 => rop P (Instr.loadAt 22 t24_2) h_15 fun t25_1 =>
  k_12 t25_1 h_15) h_15 fun t25_2 h_16 =>
  guardM t19_1 false (fun k_13 => pop P (lenS 22 3 t25_2) fun t26_1 =>
  k_13 t26_1 h_16) h_16 fun t26_2 h_17 =>
  guardM t19_1 false (fun k_14 => pop P (binE .neq 3 (.tmp 23) (.tmp 26) t23_2 t26_2) fun t27_1 =>
  k_14 t27_1 h_17) h_17 fun t27_2 h_18 =>
  pop P (pickS t19_1 (Value.bool true) t27_2) fun t28_1 =>
  condM t28_1
  (K (Value.bool false) h_18)
  (pop P (Instr.fieldAt 34 l5_1 1) fun t29_1 =>
  rop P (Instr.loadAt 25 t29_1) h_18 fun t30_1 =>
  callM P 104 #[t30_1, (Value.int IntKind.i64 0), (Value.int IntKind.i64 20)] h_18 fun t31_1 h_19 =>
  guardM t31_1 true (fun k_15 => pop P (Instr.fieldAt 34 l5_1 1) fun t33_1 =>
  k_15 t33_1 h_19) h_19 fun t33_2 h_20 =>
  guardM t31_1 true (fun k_16 => rop P (Instr.loadAt 25 t33_2) h_20 fun t34_1 =>
  k_16 t34_1 h_20) h_20 fun t34_2 h_21 =>
  guardM t31_1 true (fun k_17 => callM P 139 #[t34_2] h_21 fun t35_1 h_22 =>
  k_17 t35_1 h_22) h_21 fun t35_2 h_23 =>
  guardM t31_1 true (fun k_18 => pop P (binA .leq 3 t35_2 (Value.int IntKind.i64 20)) fun t36_1 =>
  k_18 t36_1 h_23) h_23 fun t36_2 h_24 =>
  pop P (pickS t31_1 t36_2 (Value.bool false)) fun t37_1 =>
  K t37_1 h_24)
theorem e76 (g0_1 : Value) (sink1_1 : Value) (l2_1 : Value) (h : Heap) (K : Value → Heap → Prop) : wpA Try.prog 38 (anOf []) (bodyOf Try.f76) 1 (fun A h => resA Try.prog A h K [.tmp 6]) (fun _ _ _ => False) (fun A h => resA Try.prog A h K [.tmp 6]) (aargs [g0_1, sink1_1, l2_1] 0) h = t76 Try.prog g0_1 sink1_1 l2_1 h K := by kernel_rfl
theorem c76 (g0_1 : Value) (sink1_1 : Value) (l2_1 : Value) (h : Heap) (K : Value → Heap → Prop) (H : t76 Try.prog g0_1 sink1_1 l2_1 h K) : callM Try.prog 76 #[g0_1, sink1_1, l2_1] h K :=
  callM_of_wpA mixed (fn := Try.f76) Try.func76 (c := bodyOf Try.f76) rfl (of_decide_eq_true (by kernel_rfl)) (anOf []) 35 38 (by kernel_rfl) rfl [.tmp 6] (by kernel_rfl) (args := [g0_1, sink1_1, l2_1]) (by rw [e76]; exact H)

/-! spec.chEnd -/
def t77 (P : Program) (g0_1 : Value) (sink1_1 : Value) (l2_1 : Value) (choices3_1 : Value) (h : Heap) (K : Value → Heap → Prop) : Prop :=
  eop P (Instr.box 32 g0_1) h fun g4_1 h_1 =>
  eop P (Instr.box 34 l2_1) h_1 fun l6_1 h_2 =>
  eop P (Instr.alloc 34 true (.tuple #[])) h_2 fun t8_1 h_3 =>
  ∃ J_1 : List Value → Heap → Prop, (rop P (Instr.loadAt 34 l6_1) h_3 fun t16_1 =>
  pop P (Instr.fieldAt 32 g4_1 0) fun t18_1 =>
  rop P (Instr.loadAt 22 t18_1) h_3 fun t19_1 =>
  pop P (lenS 22 3 t19_1) fun t20_1 =>
  (callM P 109 #[t16_1] h_3 fun t17_1 h_4 =>
  (∀ w : World, w.heap = h_4 → (Instr.loadAt 22 t18_1).run P w = .ok t19_1 w) ∧
  (eop P (Instr.makeSlice 25 t20_1 t20_1) h_4 fun t21_1 h_5 =>
  (∀ w : World, w.heap = h_5 → (Instr.loadAt 22 t18_1).run P w = .ok t19_1 w) ∧
  eop P (Instr.alloc 34 true (.tuple #[])) h_5 fun out11_1 h_6 =>
  (∀ w : World, w.heap = h_6 → (Instr.loadAt 22 t18_1).run P w = .ok t19_1 w) ∧
  uop P (Instr.storeAt 34 out11_1 t17_1) h_6 fun u_1 h_7 =>
  (∀ w : World, w.heap = h_7 → (Instr.loadAt 22 t18_1).run P w = .ok t19_1 w) ∧
  J_1 [out11_1, t21_1] h_7) ∧
  (eop P (Instr.alloc 34 true (.tuple #[])) h_4 fun out11_2 h_8 =>
  (∀ w : World, w.heap = h_8 → (Instr.loadAt 22 t18_1).run P w = .ok t19_1 w) ∧
  (eop P (Instr.makeSlice 25 t20_1 t20_1) h_8 fun t21_2 h_9 =>
  (∀ w : World, w.heap = h_9 → (Instr.loadAt 22 t18_1).run P w = .ok t19_1 w) ∧
  uop P (Instr.storeAt 34 out11_2 t17_1) h_9 fun u_2 h_10 =>
  (∀ w : World, w.heap = h_10 → (Instr.loadAt 22 t18_1).run P w = .ok t19_1 w) ∧
  J_1 [out11_2, t21_2] h_10) ∧
  (uop P (Instr.storeAt 34 out11_2 t17_1) h_8 fun u_3 h_11 =>
  (∀ w : World, w.heap = h_11 → (Instr.loadAt 22 t18_1).run P w = .ok t19_1 w) ∧
  eop P (Instr.makeSlice 25 t20_1 t20_1) h_11 fun t21_3 h_12 =>
  (∀ w : World, w.heap = h_12 → (Instr.loadAt 22 t18_1).run P w = .ok t19_1 w) ∧
  J_1 [out11_2, t21_3] h_12))) ∧
  (eop P (Instr.makeSlice 25 t20_1 t20_1) h_3 fun t21_4 h_13 =>
  (∀ w : World, w.heap = h_13 → (Instr.loadAt 22 t18_1).run P w = .ok t19_1 w) ∧
  (∀ w : World, w.heap = h_13 → (Instr.loadAt 34 l6_1).run P w = .ok t16_1 w) ∧
  (callM P 109 #[t16_1] h_13 fun t17_2 h_14 =>
  (∀ w : World, w.heap = h_14 → (Instr.loadAt 22 t18_1).run P w = .ok t19_1 w) ∧
  eop P (Instr.alloc 34 true (.tuple #[])) h_14 fun out11_3 h_15 =>
  (∀ w : World, w.heap = h_15 → (Instr.loadAt 22 t18_1).run P w = .ok t19_1 w) ∧
  uop P (Instr.storeAt 34 out11_3 t17_2) h_15 fun u_4 h_16 =>
  (∀ w : World, w.heap = h_16 → (Instr.loadAt 22 t18_1).run P w = .ok t19_1 w) ∧
  J_1 [out11_3, t21_4] h_16) ∧
  (eop P (Instr.alloc 34 true (.tuple #[])) h_13 fun out11_4 h_17 =>
  (∀ w : World, w.heap = h_17 → (Instr.loadAt 22 t18_1).run P w = .ok t19_1 w) ∧
  (∀ w : World, w.heap = h_17 → (Instr.loadAt 34 l6_1).run P w = .ok t16_1 w) ∧
  callM P 109 #[t16_1] h_17 fun t17_3 h_18 =>
  (∀ w : World, w.heap = h_18 → (Instr.loadAt 22 t18_1).run P w = .ok t19_1 w) ∧
  uop P (Instr.storeAt 34 out11_4 t17_3) h_18 fun u_5 h_19 =>
  (∀ w : World, w.heap = h_19 → (Instr.loadAt 22 t18_1).run P w = .ok t19_1 w) ∧
  J_1 [out11_4, t21_4] h_19)) ∧
  (eop P (Instr.alloc 34 true (.tuple #[])) h_3 fun out11_5 h_20 =>
  (∀ w : World, w.heap = h_20 → (Instr.loadAt 22 t18_1).run P w = .ok t19_1 w) ∧
  (∀ w : World, w.heap = h_20 → (Instr.loadAt 34 l6_1).run P w = .ok t16_1 w) ∧
  (callM P 109 #[t16_1] h_20 fun t17_4 h_21 =>
  (∀ w : World, w.heap = h_21 → (Instr.loadAt 22 t18_1).run P w = .ok t19_1 w) ∧
  (eop P (Instr.makeSlice 25 t20_1 t20_1) h_21 fun t21_5 h_22 =>
  (∀ w : World, w.heap = h_22 → (Instr.loadAt 22 t18_1).run P w = .ok t19_1 w) ∧
  uop P (Instr.storeAt 34 out11_5 t17_4) h_22 fun u_6 h_23 =>
  (∀ w : World, w.heap = h_23 → (Instr.loadAt 22 t18_1).run P w = .ok t19_1 w) ∧
  J_1 [out11_5, t21_5] h_23) ∧
  (uop P (Instr.storeAt 34 out11_5 t17_4) h_21 fun u_7 h_24 =>
  (∀ w : World, w.heap = h_24 → (Instr.loadAt 22 t18_1).run P w = .ok t19_1 w) ∧
  eop P (Instr.makeSlice 25 t20_1 t20_1) h_24 fun t21_6 h_25 =>
  (∀ w : World, w.heap = h_25 → (Instr.loadAt 22 t18_1).run P w = .ok t19_1 w) ∧
  J_1 [out11_5, t21_6] h_25)) ∧
  (eop P (Instr.makeSlice 25 t20_1 t20_1) h_20 fun t21_7 h_26 =>
  (∀ w : World, w.heap = h_26 → (Instr.loadAt 22 t18_1).run P w = .ok t19_1 w) ∧
  (∀ w : World, w.heap = h_26 → (Instr.loadAt 34 l6_1).run P w = .ok t16_1 w) ∧
  callM P 109 #[t16_1] h_26 fun t17_5 h_27 =>
  (∀ w : World, w.heap = h_27 → (Instr.loadAt 22 t18_1).run P w = .ok t19_1 w) ∧
  uop P (Instr.storeAt 34 out11_5 t17_5) h_27 fun u_8 h_28 =>
  (∀ w : World, w.heap = h_28 → (Instr.loadAt 22 t18_1).run P w = .ok t19_1 w) ∧
  J_1 [out11_5, t21_7] h_28))) ∧
  ∀ (junk_1 : Nat → Value) (out11_6 : Value) (moves12_1 : Value) (h_29 : Heap), J_1 [out11_6, moves12_1] h_29 →
  ∃ (I_1 : List Value → Heap → Prop) (μ_1 : List Value → Heap → Nat), I_1 [(Value.int IntKind.i64 0)] h_29 ∧
  ∀ (junk_2 : Nat → Value) (k13_1 : Value) (h_30 : Heap), I_1 [k13_1] h_30 →
  pop P (Instr.fieldAt 34 out11_6 1) fun t25_1 =>
  rop P (Instr.loadAt 25 t25_1) h_30 fun t26_1 =>
  callM P 96 #[sink1_1, t26_1] h_30 fun t27_1 h_31 =>
  pop P (lenS 25 3 t27_1) fun t29_1 =>
  pop P (binE .eql 3 (.tmp 29) (.const (Value.int IntKind.i64 0)) t29_1 (Value.int IntKind.i64 0)) fun t30_1 =>
  condM t30_1
  (rop P (Instr.loadAt 34 out11_6) h_31 fun t31_1 =>
  uop P (Instr.storeAt 34 t8_1 t31_1) h_31 fun u_9 h_32 =>
  rop P (Instr.loadAt 34 t8_1) h_32 fun r_1 =>
  K (.tuple #[r_1, moves12_1, (Value.bool true)]) h_32)
  (pop P (binA .geq 3 k13_1 (Value.int IntKind.i64 4000)) fun t34_1 =>
  condM t34_1
  (pop P (Instr.build 34 #[]) fun t35_1 =>
  uop P (Instr.storeAt 34 t8_1 t35_1) h_31 fun u_10 h_33 =>
  rop P (Instr.loadAt 34 t8_1) h_33 fun r_2 =>
  K (.tuple #[r_2, (Value.slice none 0 0), (Value.bool false)]) h_33)
  (pop P (Instr.indexAt 25 t27_1 (Value.int IntKind.i64 0)) fun t37_1 =>
  rop P (Instr.loadAt 3 t37_1) h_31 fun t38_1 =>
  ∃ J_2 : List Value → Heap → Prop, (pop P (lenS 25 3 choices3_1) fun t41_1 =>
  pop P (binA .lss 3 k13_1 t41_1) fun t42_1 =>
  condM t42_1
  (pop P (Instr.indexAt 25 choices3_1 k13_1) fun t46_1 =>
  rop P (Instr.loadAt 3 t46_1) h_31 fun t47_1 =>
  pop P (lenS 25 3 t27_1) fun t49_1 =>
  pop P (binA .rem 3 t47_1 t49_1) fun t50_1 =>
  pop P (Instr.indexAt 25 t27_1 t50_1) fun t51_1 =>
  rop P (Instr.loadAt 3 t51_1) h_31 fun t52_1 =>
  J_2 [t52_1] h_31)
  (J_2 [t38_1] h_31)) ∧
  ∀ (junk_3 : Nat → Value) (p15_1 : Value) (h_34 : Heap), J_2 [p15_1] h_34 →
  rop P (Instr.loadAt 32 g4_1) h_34 fun t53_1 =>
  rop P (Instr.loadAt 34 out11_6) h_34 fun t54_1 =>
  callM P 110 #[t53_1, t54_1, p15_1] h_34 fun t56_1 h_35 =>
  pop P (Instr.indexAt 25 moves12_1 p15_1) fun t59_1 =>
  rop P (Instr.loadAt 3 t59_1) h_35 fun t60_1 =>
  pop P (binA .add 3 t60_1 (Value.int IntKind.i64 1)) fun t61_1 =>
  pop P (Instr.indexAt 25 moves12_1 p15_1) fun t62_1 =>
  uop P (Instr.storeAt 3 t62_1 t61_1) h_35 fun u_11 h_36 =>
  pop P (binA .add 3 k13_1 (Value.int IntKind.i64 1)) fun t23_1 =>
  I_1 [t23_1] h_36 ∧ μ_1 [t23_1] h_36 < μ_1 [k13_1] h_30))
theorem e77 (g0_1 : Value) (sink1_1 : Value) (l2_1 : Value) (choices3_1 : Value) (h : Heap) (K : Value → Heap → Prop) : wpA Try.prog 63 (anOf [(3, [11, 12]), (30, [13]), (3855, [15])]) (bodyOf Try.f77) 1 (fun A h => resA Try.prog A h K [.cell 8 34, .tmp 9, .tmp 10]) (fun _ _ _ => False) (fun A h => resA Try.prog A h K [.cell 8 34, .tmp 9, .tmp 10]) (aargs [g0_1, sink1_1, l2_1, choices3_1] 0) h = t77 Try.prog g0_1 sink1_1 l2_1 choices3_1 h K := by kernel_rfl
theorem c77 (g0_1 : Value) (sink1_1 : Value) (l2_1 : Value) (choices3_1 : Value) (h : Heap) (K : Value → Heap → Prop) (H : t77 Try.prog g0_1 sink1_1 l2_1 choices3_1 h K) : callM Try.prog 77 #[g0_1, sink1_1, l2_1, choices3_1] h K :=
  callM_of_wpA mixed (fn := Try.f77) Try.func77 (c := bodyOf Try.f77) rfl (of_decide_eq_true (by kernel_rfl)) (anOf [(3, [11, 12]), (30, [13]), (3855, [15])]) 59 63 (by kernel_rfl) rfl [.cell 8 34, .tmp 9, .tmp 10] (by kernel_rfl) (args := [g0_1, sink1_1, l2_1, choices3_1]) (by rw [e77]; exact H)

/-! laws.toIntSS -/
def t78 (P : Program) (a0_1 : Value) (h : Heap) (K : Value → Heap → Prop) : Prop :=
  pop P (lenS 22 3 a0_1) fun t6_1 =>
  eop P (Instr.makeSlice 22 t6_1 t6_1) h fun t7_1 h_1 =>
  ∃ (I_1 : List Value → Heap → Prop) (μ_1 : List Value → Heap → Nat), I_1 [(Value.int IntKind.i64 0)] h_1 ∧
  ∀ (junk_1 : Nat → Value) (i4_1 : Value) (h_2 : Heap), I_1 [i4_1] h_2 →
  pop P (lenS 22 3 a0_1) fun t10_1 =>
  pop P (binA .lss 3 i4_1 t10_1) fun t11_1 =>
  condM t11_1
  (pop P (Instr.indexAt 22 a0_1 i4_1) fun t18_1 =>
  rop P (Instr.loadAt 25 t18_1) h_2 fun t19_1 =>
  callM P 26 #[t19_1] h_2 fun t20_1 h_3 =>
  pop P (Instr.indexAt 22 t7_1 i4_1) fun t21_1 =>
  uop P (Instr.storeAt 25 t21_1 t20_1) h_3 fun u_1 h_4 =>
  pop P (binA .add 3 i4_1 (Value.int IntKind.i64 1)) fun t13_1 =>
  I_1 [t13_1] h_4 ∧ μ_1 [t13_1] h_4 < μ_1 [i4_1] h_2)
  (K t7_1 h_2)
theorem e78 (a0_1 : Value) (h : Heap) (K : Value → Heap → Prop) : wpA Try.prog 23 (anOf [(58, [4])]) (bodyOf Try.f78) 1 (fun A h => resA Try.prog A h K [.tmp 2]) (fun _ _ _ => False) (fun A h => resA Try.prog A h K [.tmp 2]) (aargs [a0_1] 0) h = t78 Try.prog a0_1 h K := by kernel_rfl
theorem c78 (a0_1 : Value) (h : Heap) (K : Value → Heap → Prop) (H : t78 Try.prog a0_1 h K) : callM Try.prog 78 #[a0_1] h K :=
  callM_of_wpA mixed (fn := Try.f78) Try.func78 (c := bodyOf Try.f78) rfl (of_decide_eq_true (by kernel_rfl)) (anOf [(58, [4])]) 22 23 (by kernel_rfl) rfl [.tmp 2] (by kernel_rfl) (args := [a0_1]) (by rw [e78]; exact H)

/-! impl.isLoad -/
def t79 (P : Program) (g0_1 : Value) (sink1_1 : Value) (l2_1 : Value) (h : Heap) (K : Value → Heap → Prop) : Prop :=
  eop P (Instr.box 32 g0_1) h fun g3_1 h_1 =>
  eop P (Instr.box 34 l2_1) h_1 fun l5_1 h_2 =>
  rop P (Instr.loadAt 32 g3_1) h_2 fun t7_1 =>
  callM P 105 #[t7_1, sink1_1] h_2 fun t9_1 h_3 =>
  guardM t9_1 true (fun k_1 => rop P (Instr.loadAt 32 g3_1) h_3 fun t11_1 =>
  k_1 t11_1 h_3) h_3 fun t11_2 h_4 =>
  guardM t9_1 true (fun k_2 => pop P (Instr.fieldAt 34 l5_1 0) fun t12_1 =>
  k_2 t12_1 h_4) h_4 fun t12_2 h_5 =>
  guardM t9_1 true (fun k_3 => rop P (Instr.loadAt 25 t12_2) h_5 fun t13_1 =>
  k_3 t13_1 h_5) h_5 fun t13_2 h_6 =>
  guardM t9_1 true (fun k_4 => callM P 140 #[t11_2, t13_2] h_6 fun t14_1 h_7 =>
  k_4 t14_1 h_7) h_6 fun t14_2 h_8 =>
  pop P (pickS t9_1 t14_2 (Value.bool false)) fun t15_1 =>
  guardM t15_1 true (fun k_5 => rop P (Instr.loadAt 32 g3_1) h_8 fun t17_1 =>
  k_5 t17_1 h_8) h_8 fun t17_2 h_9 =>
  guardM t15_1 true (fun k_6 => pop P (Instr.fieldAt 34 l5_1 1) fun t18_1 =>
  k_6 t18_1 h_9) h_9 fun t18_2 h_10 =>
  guardM t15_1 true (fun k_7 => rop P (Instr.loadAt 25 t18_2) h_10 fun t19_1 =>
  k_7 t19_1 h_10) h_10 fun t19_2 h_11 =>
  guardM t15_1 true (fun k_8 => callM P 141 #[t17_2, t19_2] h_11 fun t20_1 h_12 =>
  k_8 t20_1 h_12) h_11 fun t20_2 h_13 =>
  pop P (pickS t15_1 t20_2 (Value.bool false)) fun t21_1 =>
  guardM t21_1 true (fun k_9 => pop P (Instr.fieldAt 34 l5_1 1) fun t23_1 =>
  k_9 t23_1 h_13) h_13 fun t23_2 h_14 =>
  guardM t21_1 true (fun k_10 => rop P (Instr.loadAt 25 t23_2) h_14 fun t24_1 =>
  k_10 t24_1 h_14) h_14 fun t24_2 h_15 =>
  guardM t21_1 true (fun k_11 => callM P 92 #[t24_2] h_15 fun t25_1 h_16 =>
  k_11 t25_1 h_16) h_15 fun t25_2 h_17 =>
  guardM t21_1 true (fun k_12 => pop P (binA .leq 3 t25_2 (Value.int IntKind.i64 20)) fun t26_1 =>
  k_12 t26_1 h_17) h_17 fun t26_2 h_18 =>
  pop P (pickS t21_1 t26_2 (Value.bool false)) fun t27_1 =>
  K t27_1 h_18
theorem e79 (g0_1 : Value) (sink1_1 : Value) (l2_1 : Value) (h : Heap) (K : Value → Heap → Prop) : wpA Try.prog 28 (anOf []) (bodyOf Try.f79) 1 (fun A h => resA Try.prog A h K [.tmp 6]) (fun _ _ _ => False) (fun A h => resA Try.prog A h K [.tmp 6]) (aargs [g0_1, sink1_1, l2_1] 0) h = t79 Try.prog g0_1 sink1_1 l2_1 h K := by kernel_rfl
theorem c79 (g0_1 : Value) (sink1_1 : Value) (l2_1 : Value) (h : Heap) (K : Value → Heap → Prop) (H : t79 Try.prog g0_1 sink1_1 l2_1 h K) : callM Try.prog 79 #[g0_1, sink1_1, l2_1] h K :=
  callM_of_wpA mixed (fn := Try.f79) Try.func79 (c := bodyOf Try.f79) rfl (of_decide_eq_true (by kernel_rfl)) (anOf []) 25 28 (by kernel_rfl) rfl [.tmp 6] (by kernel_rfl) (args := [g0_1, sink1_1, l2_1]) (by rw [e79]; exact H)

/-! (impl.Load).copied -/
def t80 (P : Program) (l0_1 : Value) (h : Heap) (K : Value → Heap → Prop) : Prop :=
  eop P (Instr.box 34 l0_1) h fun l1_1 h_1 =>
  eop P (Instr.alloc 34 true (.tuple #[])) h_1 fun t2_1 h_2 =>
  pop P (Instr.fieldAt 34 l1_1 0) fun t3_1 =>
  rop P (Instr.loadAt 25 t3_1) h_2 fun t4_1 =>
  pop P (Instr.fieldAt 34 l1_1 1) fun t6_1 =>
  rop P (Instr.loadAt 25 t6_1) h_2 fun t7_1 =>
  callM P 142 #[t4_1] h_2 fun t5_1 h_3 =>
  (∀ w : World, w.heap = h_3 → (Instr.loadAt 25 t6_1).run P w = .ok t7_1 w) ∧
  callM P 142 #[t7_1] h_3 fun t8_1 h_4 =>
  pop P (Instr.build 34 #[(0, t5_1), (1, t8_1)]) fun t9_1 =>
  uop P (Instr.storeAt 34 t2_1 t9_1) h_4 fun u_1 h_5 =>
  rop P (Instr.loadAt 34 t2_1) h_5 fun r_1 =>
  K r_1 h_5
theorem e80 (l0_1 : Value) (h : Heap) (K : Value → Heap → Prop) : wpA Try.prog 10 (anOf []) (bodyOf Try.f80) 1 (fun A h => resA Try.prog A h K [.cell 2 34]) (fun _ _ _ => False) (fun A h => resA Try.prog A h K [.cell 2 34]) (aargs [l0_1] 0) h = t80 Try.prog l0_1 h K := by kernel_rfl
theorem c80 (l0_1 : Value) (h : Heap) (K : Value → Heap → Prop) (H : t80 Try.prog l0_1 h K) : callM Try.prog 80 #[l0_1] h K :=
  callM_of_wpA mixed (fn := Try.f80) Try.func80 (c := bodyOf Try.f80) rfl (of_decide_eq_true (by kernel_rfl)) (anOf []) 9 10 (by kernel_rfl) rfl [.cell 2 34] (by kernel_rfl) (args := [l0_1]) (by rw [e80]; exact H)

/-! (*impl.Load).end -/
def t81 (P : Program) (l0_1 : Value) (g1_1 : Value) (sink2_1 : Value) (choices3_1 : Value) (h : Heap) (K : Value → Heap → Prop) : Prop :=
  eop P (Instr.box 32 g1_1) h fun g5_1 h_1 =>
  pop P (Instr.fieldAt 32 g5_1 0) fun t14_1 =>
  rop P (Instr.loadAt 22 t14_1) h_1 fun t15_1 =>
  pop P (lenS 22 3 t15_1) fun t16_1 =>
  eop P (Instr.makeSlice 25 t16_1 t16_1) h_1 fun t17_1 h_2 =>
  ∃ (I_1 : List Value → Heap → Prop) (μ_1 : List Value → Heap → Nat), I_1 [(Value.int IntKind.i64 0)] h_2 ∧
  ∀ (junk_1 : Nat → Value) (j11_1 : Value) (h_3 : Heap), I_1 [j11_1] h_3 →
  callM P 94 #[l0_1, sink2_1] h_3 fun t22_1 h_4 =>
  pop P (lenS 25 3 t22_1) fun t24_1 =>
  pop P (binE .eql 3 (.tmp 24) (.const (Value.int IntKind.i64 0)) t24_1 (Value.int IntKind.i64 0)) fun t25_1 =>
  condM t25_1
  (K (.tuple #[t17_1, (Value.bool true)]) h_4)
  (pop P (binE .eql 3 (.tmp 27) (.const (Value.int IntKind.i64 4000)) j11_1 (Value.int IntKind.i64 4000)) fun t28_1 =>
  condM t28_1
  (K (.tuple #[(Value.slice none 0 0), (Value.bool false)]) h_4)
  (pop P (Instr.indexAt 25 t22_1 (Value.int IntKind.i64 0)) fun t30_1 =>
  rop P (Instr.loadAt 3 t30_1) h_4 fun t31_1 =>
  ∃ J_1 : List Value → Heap → Prop, (pop P (lenS 25 3 choices3_1) fun t34_1 =>
  pop P (binA .lss 3 j11_1 t34_1) fun t35_1 =>
  condM t35_1
  (pop P (Instr.indexAt 25 choices3_1 j11_1) fun t39_1 =>
  rop P (Instr.loadAt 3 t39_1) h_4 fun t40_1 =>
  pop P (lenS 25 3 t22_1) fun t42_1 =>
  pop P (binA .rem 3 t40_1 t42_1) fun t43_1 =>
  pop P (Instr.indexAt 25 t22_1 t43_1) fun t44_1 =>
  rop P (Instr.loadAt 3 t44_1) h_4 fun t45_1 =>
  J_1 [t45_1] h_4)
  (J_1 [t31_1] h_4)) ∧
  ∀ (junk_2 : Nat → Value) (p13_1 : Value) (h_5 : Heap), J_1 [p13_1] h_5 →
  rop P (Instr.loadAt 32 g5_1) h_5 fun t47_1 =>
  callM P 143 #[l0_1, t47_1, p13_1] h_5 fun t49_1 h_6 =>
  pop P (Instr.indexAt 25 t17_1 p13_1) fun t52_1 =>
  rop P (Instr.loadAt 3 t52_1) h_6 fun t53_1 =>
  pop P (binA .add 3 t53_1 (Value.int IntKind.i64 1)) fun t54_1 =>
  pop P (Instr.indexAt 25 t17_1 p13_1) fun t55_1 =>
  uop P (Instr.storeAt 3 t55_1 t54_1) h_6 fun u_1 h_7 =>
  pop P (binA .add 3 j11_1 (Value.int IntKind.i64 1)) fun t19_1 =>
  I_1 [t19_1] h_7 ∧ μ_1 [t19_1] h_7 < μ_1 [j11_1] h_3))
theorem e81 (l0_1 : Value) (g1_1 : Value) (sink2_1 : Value) (choices3_1 : Value) (h : Heap) (K : Value → Heap → Prop) : wpA Try.prog 56 (anOf [(30, [11]), (3855, [13])]) (bodyOf Try.f81) 1 (fun A h => resA Try.prog A h K [.tmp 8, .tmp 9]) (fun _ _ _ => False) (fun A h => resA Try.prog A h K [.tmp 8, .tmp 9]) (aargs [l0_1, g1_1, sink2_1, choices3_1] 0) h = t81 Try.prog l0_1 g1_1 sink2_1 choices3_1 h K := by kernel_rfl
theorem c81 (l0_1 : Value) (g1_1 : Value) (sink2_1 : Value) (choices3_1 : Value) (h : Heap) (K : Value → Heap → Prop) (H : t81 Try.prog l0_1 g1_1 sink2_1 choices3_1 h K) : callM Try.prog 81 #[l0_1, g1_1, sink2_1, choices3_1] h K :=
  callM_of_wpA mixed (fn := Try.f81) Try.func81 (c := bodyOf Try.f81) rfl (of_decide_eq_true (by kernel_rfl)) (anOf [(30, [11]), (3855, [13])]) 52 56 (by kernel_rfl) rfl [.tmp 8, .tmp 9] (by kernel_rfl) (args := [l0_1, g1_1, sink2_1, choices3_1]) (by rw [e81]; exact H)

/-! laws.eqIntSS -/
def t82 (P : Program) (a0_1 : Value) (b1_1 : Value) (h : Heap) (K : Value → Heap → Prop) : Prop :=
  pop P (lenS 22 3 a0_1) fun t7_1 =>
  pop P (lenS 22 3 b1_1) fun t9_1 =>
  pop P (binE .neq 3 (.tmp 7) (.tmp 9) t7_1 t9_1) fun t10_1 =>
  condM t10_1
  (K (Value.bool false) h)
  (∃ (I_1 : List Value → Heap → Prop) (μ_1 : List Value → Heap → Nat), I_1 [(Value.int IntKind.i64 0)] h ∧
  ∀ (junk_1 : Nat → Value) (i5_1 : Value) (h_1 : Heap), I_1 [i5_1] h_1 →
  pop P (lenS 22 3 a0_1) fun t13_1 =>
  pop P (binA .lss 3 i5_1 t13_1) fun t14_1 =>
  condM t14_1
  (pop P (Instr.indexAt 22 a0_1 i5_1) fun t19_1 =>
  rop P (Instr.loadAt 25 t19_1) h_1 fun t20_1 =>
  pop P (Instr.indexAt 22 b1_1 i5_1) fun t23_1 =>
  rop P (Instr.loadAt 25 t23_1) h_1 fun t24_1 =>
  callM P 16 #[t20_1, t24_1] h_1 fun t25_1 h_2 =>
  pop P (Op.unary .not t25_1) fun t26_1 =>
  condM t26_1
  (K (Value.bool false) h_2)
  (pop P (binA .add 3 i5_1 (Value.int IntKind.i64 1)) fun t16_1 =>
  I_1 [t16_1] h_2 ∧ μ_1 [t16_1] h_2 < μ_1 [i5_1] h_1))
  (K (Value.bool true) h_1))
theorem e82 (a0_1 : Value) (b1_1 : Value) (h : Heap) (K : Value → Heap → Prop) : wpA Try.prog 27 (anOf [(58, [5])]) (bodyOf Try.f82) 1 (fun A h => resA Try.prog A h K [.tmp 4]) (fun _ _ _ => False) (fun A h => resA Try.prog A h K [.tmp 4]) (aargs [a0_1, b1_1] 0) h = t82 Try.prog a0_1 b1_1 h K := by kernel_rfl
theorem c82 (a0_1 : Value) (b1_1 : Value) (h : Heap) (K : Value → Heap → Prop) (H : t82 Try.prog a0_1 b1_1 h K) : callM Try.prog 82 #[a0_1, b1_1] h K :=
  callM_of_wpA mixed (fn := Try.f82) Try.func82 (c := bodyOf Try.f82) rfl (of_decide_eq_true (by kernel_rfl)) (anOf [(58, [5])]) 25 27 (by kernel_rfl) rfl [.tmp 4] (by kernel_rfl) (args := [a0_1, b1_1]) (by rw [e82]; exact H)

/-! laws.markIntSS -/
def t83 (P : Program) (a0_1 : Value) (k1_1 : Value) (h : Heap) (K : Value → Heap → Prop) : Prop :=
  ∃ (I_1 : List Value → Heap → Prop) (μ_1 : List Value → Heap → Nat), I_1 [k1_1, (Value.int IntKind.i64 0)] h ∧
  ∀ (junk_1 : Nat → Value) (k1_2 : Value) (i5_1 : Value) (h_1 : Heap), I_1 [k1_2, i5_1] h_1 →
  pop P (lenS 22 3 a0_1) fun t8_1 =>
  pop P (binA .lss 3 i5_1 t8_1) fun t9_1 =>
  condM t9_1
  (pop P (Instr.indexAt 22 a0_1 i5_1) fun t14_1 =>
  rop P (Instr.loadAt 25 t14_1) h_1 fun t15_1 =>
  callM P 21 #[t15_1, k1_2] h_1 fun t17_1 h_2 =>
  pop P (binA .add 3 i5_1 (Value.int IntKind.i64 1)) fun t11_1 =>
  I_1 [t17_1, t11_1] h_2 ∧ μ_1 [t17_1, t11_1] h_2 < μ_1 [k1_2, i5_1] h_1)
  (K k1_2 h_1)
theorem e83 (a0_1 : Value) (k1_1 : Value) (h : Heap) (K : Value → Heap → Prop) : wpA Try.prog 19 (anOf [(26, [1, 5])]) (bodyOf Try.f83) 1 (fun A h => resA Try.prog A h K [.tmp 4]) (fun _ _ _ => False) (fun A h => resA Try.prog A h K [.tmp 4]) (aargs [a0_1, k1_1] 0) h = t83 Try.prog a0_1 k1_1 h K := by kernel_rfl
theorem c83 (a0_1 : Value) (k1_1 : Value) (h : Heap) (K : Value → Heap → Prop) (H : t83 Try.prog a0_1 k1_1 h K) : callM Try.prog 83 #[a0_1, k1_1] h K :=
  callM_of_wpA mixed (fn := Try.f83) Try.func83 (c := bodyOf Try.f83) rfl (of_decide_eq_true (by kernel_rfl)) (anOf [(26, [1, 5])]) 17 19 (by kernel_rfl) rfl [.tmp 4] (by kernel_rfl) (args := [a0_1, k1_1]) (by rw [e83]; exact H)

/-! impl.isGraph -/
def t88 (P : Program) (g0_1 : Value) (h : Heap) (K : Value → Heap → Prop) : Prop :=
  eop P (Instr.box 32 g0_1) h fun g1_1 h_1 =>
  pop P (Instr.fieldAt 32 g1_1 0) fun t6_1 =>
  rop P (Instr.loadAt 22 t6_1) h_1 fun t7_1 =>
  pop P (lenS 22 3 t7_1) fun t8_1 =>
  eop P (Instr.alloc 3 true (.tuple #[])) h_1 fun n3_1 h_2 =>
  uop P (Instr.storeAt 3 n3_1 t8_1) h_2 fun u_1 h_3 =>
  rop P (Instr.loadAt 3 n3_1) h_3 fun t9_1 =>
  callM P 113 #[t9_1, (Value.int IntKind.i64 1), (Value.int IntKind.i64 8)] h_3 fun t10_1 h_4 =>
  pop P (Op.unary .not t10_1) fun t11_1 =>
  condM t11_1
  (K (Value.bool false) h_4)
  (pop P (Instr.fieldAt 32 g1_1 0) fun t12_1 =>
  rop P (Instr.loadAt 22 t12_1) h_4 fun t13_1 =>
  pop P (lenS 22 3 t13_1) fun t14_1 =>
  ∃ (I_1 : List Value → Heap → Prop) (μ_1 : List Value → Heap → Nat), I_1 [(Value.int IntKind.i64 0)] h_4 ∧
  ∀ (junk_1 : Nat → Value) (t15_1 : Value) (h_5 : Heap), I_1 [t15_1] h_5 →
  pop P (binA .lss 3 t15_1 t14_1) fun t16_1 =>
  condM t16_1
  (pop P (Instr.indexAt 22 t13_1 t15_1) fun t17_1 =>
  rop P (Instr.loadAt 25 t17_1) h_5 fun t18_1 =>
  pop P (lenS 25 3 t18_1) fun t20_1 =>
  pop P (binA .gtr 3 t20_1 (Value.int IntKind.i64 5)) fun t21_1 =>
  guardM t21_1 false (fun k_1 => k_1 t18_1 h_5) h_5 fun t23_1 h_6 =>
  guardM t21_1 false (fun k_2 => pop P (Instr.makeFunc (Fn.func 150) #[] #[n3_1]) fun t24_1 =>
  k_2 t24_1 h_6) h_6 fun t24_2 h_7 =>
  guardM t21_1 false (fun k_3 => callM P 102 #[t23_1, t24_2] h_7 fun t25_1 h_8 =>
  k_3 t25_1 h_8) h_7 fun t25_2 h_9 =>
  pop P (pickS t21_1 (Value.bool true) t25_2) fun t26_1 =>
  condM t26_1
  (K (Value.bool false) h_9)
  (pop P (binA .add 3 t15_1 (Value.int IntKind.i64 1)) fun t27_1 =>
  I_1 [t27_1] h_9 ∧ μ_1 [t27_1] h_9 < μ_1 [t15_1] h_5))
  (K (Value.bool true) h_5))
theorem e88 (g0_1 : Value) (h : Heap) (K : Value → Heap → Prop) : wpA Try.prog 28 (anOf [(122, [15])]) (bodyOf Try.f88) 1 (fun A h => resA Try.prog A h K [.tmp 2]) (fun _ _ _ => False) (fun A h => resA Try.prog A h K [.tmp 2]) (aargs [g0_1] 0) h = t88 Try.prog g0_1 h K := by kernel_rfl
theorem c88 (g0_1 : Value) (h : Heap) (K : Value → Heap → Prop) (H : t88 Try.prog g0_1 h K) : callM Try.prog 88 #[g0_1] h K :=
  callM_of_wpA mixed (fn := Try.f88) Try.func88 (c := bodyOf Try.f88) rfl (of_decide_eq_true (by kernel_rfl)) (anOf [(122, [15])]) 27 28 (by kernel_rfl) rfl [.tmp 2] (by kernel_rfl) (args := [g0_1]) (by rw [e88]; exact H)

/-! impl.sum -/
def t92 (P : Program) (list0_1 : Value) (h : Heap) (K : Value → Heap → Prop) : Prop :=
  pop P (lenS 25 3 list0_1) fun t7_1 =>
  ∃ (I_1 : List Value → Heap → Prop) (μ_1 : List Value → Heap → Nat), I_1 [(Value.int IntKind.i64 0), (Value.int IntKind.i64 0)] h ∧
  ∀ (junk_1 : Nat → Value) (out3_1 : Value) (t8_1 : Value) (h_1 : Heap), I_1 [out3_1, t8_1] h_1 →
  pop P (binA .lss 3 t8_1 t7_1) fun t9_1 =>
  condM t9_1
  (pop P (Instr.indexAt 25 list0_1 t8_1) fun t10_1 =>
  rop P (Instr.loadAt 3 t10_1) h_1 fun t11_1 =>
  pop P (binA .add 3 out3_1 t11_1) fun t14_1 =>
  pop P (binA .add 3 t8_1 (Value.int IntKind.i64 1)) fun t15_1 =>
  I_1 [t14_1, t15_1] h_1 ∧ μ_1 [t14_1, t15_1] h_1 < μ_1 [out3_1, t8_1] h_1)
  (K out3_1 h_1)
theorem e92 (list0_1 : Value) (h : Heap) (K : Value → Heap → Prop) : wpA Try.prog 17 (anOf [(58, [3, 8])]) (bodyOf Try.f92) 1 (fun A h => resA Try.prog A h K [.tmp 2]) (fun _ _ _ => False) (fun A h => resA Try.prog A h K [.tmp 2]) (aargs [list0_1] 0) h = t92 Try.prog list0_1 h K := by kernel_rfl
theorem c92 (list0_1 : Value) (h : Heap) (K : Value → Heap → Prop) (H : t92 Try.prog list0_1 h K) : callM Try.prog 92 #[list0_1] h K :=
  callM_of_wpA mixed (fn := Try.f92) Try.func92 (c := bodyOf Try.f92) rfl (of_decide_eq_true (by kernel_rfl)) (anOf [(58, [3, 8])]) 16 17 (by kernel_rfl) rfl [.tmp 2] (by kernel_rfl) (args := [list0_1]) (by rw [e92]; exact H)

/-! (*impl.Load).waiting -/
def t94 (P : Program) (l0_1 : Value) (sink1_1 : Value) (h : Heap) (K : Value → Heap → Prop) : Prop :=
  eop P (Instr.buildSlice 25 0 #[]) h fun t8_1 h_1 =>
  pop P (nilS l0_1) fun t10_1 =>
  pop P (Instr.fieldAt 34 t10_1 1) fun t11_1 =>
  rop P (Instr.loadAt 25 t11_1) h_1 fun t12_1 =>
  pop P (lenS 25 3 t12_1) fun t13_1 =>
  ∃ (I_1 : List Value → Heap → Prop) (μ_1 : List Value → Heap → Nat), I_1 [t8_1, (Value.int IntKind.i64 0)] h_1 ∧
  ∀ (junk_1 : Nat → Value) (out5_1 : Value) (t14_1 : Value) (h_2 : Heap), I_1 [out5_1, t14_1] h_2 →
  pop P (binA .lss 3 t14_1 t13_1) fun t15_1 =>
  condM t15_1
  (pop P (Instr.indexAt 25 t12_1 t14_1) fun t17_1 =>
  rop P (Instr.loadAt 3 t17_1) h_2 fun t18_1 =>
  pop P (binE .neq 3 (.tmp 19) (.tmp 20) t14_1 sink1_1) fun t21_1 =>
  guardM t21_1 true (fun k_1 => k_1 t18_1 h_2) h_2 fun t23_1 h_3 =>
  guardM t21_1 true (fun k_2 => pop P (binA .gtr 3 t23_1 (Value.int IntKind.i64 0)) fun t24_1 =>
  k_2 t24_1 h_3) h_3 fun t24_2 h_4 =>
  pop P (pickS t21_1 t24_2 (Value.bool false)) fun t25_1 =>
  condM t25_1
  (eop P (Instr.buildSlice 25 1 #[(0, t14_1)]) h_4 fun t28_1 h_5 =>
  eop P (appS 25 25 25 out5_1 t28_1) h_5 fun t29_1 h_6 =>
  pop P (binA .add 3 t14_1 (Value.int IntKind.i64 1)) fun t30_1 =>
  I_1 [t29_1, t30_1] h_6 ∧ μ_1 [t29_1, t30_1] h_6 < μ_1 [out5_1, t14_1] h_2)
  (pop P (binA .add 3 t14_1 (Value.int IntKind.i64 1)) fun t30_2 =>
  I_1 [out5_1, t30_2] h_4 ∧ μ_1 [out5_1, t30_2] h_4 < μ_1 [out5_1, t14_1] h_2))
  (K out5_1 h_2)
theorem e94 (l0_1 : Value) (sink1_1 : Value) (h : Heap) (K : Value → Heap → Prop) : wpA Try.prog 32 (anOf [(58, [5, 14])]) (bodyOf Try.f94) 1 (fun A h => resA Try.prog A h K [.tmp 4]) (fun _ _ _ => False) (fun A h => resA Try.prog A h K [.tmp 4]) (aargs [l0_1, sink1_1] 0) h = t94 Try.prog l0_1 sink1_1 h K := by kernel_rfl
theorem c94 (l0_1 : Value) (sink1_1 : Value) (h : Heap) (K : Value → Heap → Prop) (H : t94 Try.prog l0_1 sink1_1 h K) : callM Try.prog 94 #[l0_1, sink1_1] h K :=
  callM_of_wpA mixed (fn := Try.f94) Try.func94 (c := bodyOf Try.f94) rfl (of_decide_eq_true (by kernel_rfl)) (anOf [(58, [5, 14])]) 30 32 (by kernel_rfl) rfl [.tmp 4] (by kernel_rfl) (args := [l0_1, sink1_1]) (by rw [e94]; exact H)

/-! spec.chLoaded -/
def t96 (P : Program) (sink0_1 : Value) (chips1_1 : Value) (h : Heap) (K : Value → Heap → Prop) : Prop :=
  pop P (lenS 25 3 chips1_1) fun t9_1 =>
  ∃ (I_1 : List Value → Heap → Prop) (μ_1 : List Value → Heap → Nat), I_1 [(Value.slice none 0 0), (Value.int IntKind.i64 0)] h ∧
  ∀ (junk_1 : Nat → Value) (out5_1 : Value) (t10_1 : Value) (h_1 : Heap), I_1 [out5_1, t10_1] h_1 →
  pop P (binA .lss 3 t10_1 t9_1) fun t11_1 =>
  condM t11_1
  (pop P (Instr.indexAt 25 chips1_1 t10_1) fun t13_1 =>
  rop P (Instr.loadAt 3 t13_1) h_1 fun t14_1 =>
  pop P (binE .neq 3 (.tmp 15) (.tmp 16) t10_1 sink0_1) fun t17_1 =>
  guardM t17_1 true (fun k_1 => k_1 t14_1 h_1) h_1 fun t19_1 h_2 =>
  guardM t17_1 true (fun k_2 => pop P (binA .gtr 3 t19_1 (Value.int IntKind.i64 0)) fun t20_1 =>
  k_2 t20_1 h_2) h_2 fun t20_2 h_3 =>
  pop P (pickS t17_1 t20_2 (Value.bool false)) fun t21_1 =>
  condM t21_1
  (eop P (Instr.buildSlice 25 1 #[(0, t10_1)]) h_3 fun t24_1 h_4 =>
  eop P (appS 25 25 25 out5_1 t24_1) h_4 fun t25_1 h_5 =>
  pop P (binA .add 3 t10_1 (Value.int IntKind.i64 1)) fun t26_1 =>
  I_1 [t25_1, t26_1] h_5 ∧ μ_1 [t25_1, t26_1] h_5 < μ_1 [out5_1, t10_1] h_1)
  (pop P (binA .add 3 t10_1 (Value.int IntKind.i64 1)) fun t26_2 =>
  I_1 [out5_1, t26_2] h_3 ∧ μ_1 [out5_1, t26_2] h_3 < μ_1 [out5_1, t10_1] h_1))
  (K out5_1 h_1)
theorem e96 (sink0_1 : Value) (chips1_1 : Value) (h : Heap) (K : Value → Heap → Prop) : wpA Try.prog 28 (anOf [(58, [5, 10])]) (bodyOf Try.f96) 1 (fun A h => resA Try.prog A h K [.tmp 4]) (fun _ _ _ => False) (fun A h => resA Try.prog A h K [.tmp 4]) (aargs [sink0_1, chips1_1] 0) h = t96 Try.prog sink0_1 chips1_1 h K := by kernel_rfl
theorem c96 (sink0_1 : Value) (chips1_1 : Value) (h : Heap) (K : Value → Heap → Prop) (H : t96 Try.prog sink0_1 chips1_1 h K) : callM Try.prog 96 #[sink0_1, chips1_1] h K :=
  callM_of_wpA mixed (fn := Try.f96) Try.func96 (c := bodyOf Try.f96) rfl (of_decide_eq_true (by kernel_rfl)) (anOf [(58, [5, 10])]) 26 28 (by kernel_rfl) rfl [.tmp 4] (by kernel_rfl) (args := [sink0_1, chips1_1]) (by rw [e96]; exact H)

/-! slices.ContainsFunc[[]int,int] -/
def t102 (P : Program) (s0_1 : Value) (f1_1 : Value) (h : Heap) (K : Value → Heap → Prop) : Prop :=
  callM P 159 #[s0_1, f1_1] h fun t7_1 h_1 =>
  pop P (binA .geq 3 t7_1 (Value.int IntKind.i64 0)) fun t8_1 =>
  K t8_1 h_1
theorem e102 (s0_1 : Value) (f1_1 : Value) (h : Heap) (K : Value → Heap → Prop) : wpA Try.prog 9 (anOf []) (bodyOf Try.f102) 1 (fun A h => resA Try.prog A h K [.tmp 4]) (fun _ _ _ => False) (fun A h => resA Try.prog A h K [.tmp 4]) (aargs [s0_1, f1_1] 0) h = t102 Try.prog s0_1 f1_1 h K := by kernel_rfl
theorem c102 (s0_1 : Value) (f1_1 : Value) (h : Heap) (K : Value → Heap → Prop) (H : t102 Try.prog s0_1 f1_1 h K) : callM Try.prog 102 #[s0_1, f1_1] h K :=
  callM_of_wpA mixed (fn := Try.f102) Try.func102 (c := bodyOf Try.f102) rfl (of_decide_eq_true (by kernel_rfl)) (anOf []) 7 9 (by kernel_rfl) rfl [.tmp 4] (by kernel_rfl) (args := [s0_1, f1_1]) (by rw [e102]; exact H)

/-! spec.l1All -/
def t104 (P : Program) (l0_1 : Value) (lo1_1 : Value) (hi2_1 : Value) (h : Heap) (K : Value → Heap → Prop) : Prop :=
  pop P (lenS 25 3 l0_1) fun t10_1 =>
  ∃ (I_1 : List Value → Heap → Prop) (μ_1 : List Value → Heap → Nat), I_1 [(Value.int IntKind.i64 0)] h ∧
  ∀ (junk_1 : Nat → Value) (t11_1 : Value) (h_1 : Heap), I_1 [t11_1] h_1 →
  pop P (binA .lss 3 t11_1 t10_1) fun t12_1 =>
  condM t12_1
  (pop P (Instr.indexAt 25 l0_1 t11_1) fun t13_1 =>
  rop P (Instr.loadAt 3 t13_1) h_1 fun t14_1 =>
  callM P 117 #[t14_1, lo1_1, hi2_1] h_1 fun t18_1 h_2 =>
  pop P (Op.unary .not t18_1) fun t19_1 =>
  condM t19_1
  (K (Value.bool false) h_2)
  (pop P (binA .add 3 t11_1 (Value.int IntKind.i64 1)) fun t20_1 =>
  I_1 [t20_1] h_2 ∧ μ_1 [t20_1] h_2 < μ_1 [t11_1] h_1))
  (K (Value.bool true) h_1)
theorem e104 (l0_1 : Value) (lo1_1 : Value) (hi2_1 : Value) (h : Heap) (K : Value → Heap → Prop) : wpA Try.prog 21 (anOf [(26, [11])]) (bodyOf Try.f104) 1 (fun A h => resA Try.prog A h K [.tmp 6]) (fun _ _ _ => False) (fun A h => resA Try.prog A h K [.tmp 6]) (aargs [l0_1, lo1_1, hi2_1] 0) h = t104 Try.prog l0_1 lo1_1 hi2_1 h K := by kernel_rfl
theorem c104 (l0_1 : Value) (lo1_1 : Value) (hi2_1 : Value) (h : Heap) (K : Value → Heap → Prop) (H : t104 Try.prog l0_1 lo1_1 hi2_1 h K) : callM Try.prog 104 #[l0_1, lo1_1, hi2_1] h K :=
  callM_of_wpA mixed (fn := Try.f104) Try.func104 (c := bodyOf Try.f104) rfl (of_decide_eq_true (by kernel_rfl)) (anOf [(26, [11])]) 18 21 (by kernel_rfl) rfl [.tmp 6] (by kernel_rfl) (args := [l0_1, lo1_1, hi2_1]) (by rw [e104]; exact H)

/-! impl.hasSink -/
def t105 (P : Program) (g0_1 : Value) (sink1_1 : Value) (h : Heap) (K : Value → Heap → Prop) : Prop :=
  eop P (Instr.box 32 g0_1) h fun g2_1 h_1 =>
  rop P (Instr.loadAt 32 g2_1) h_1 fun t5_1 =>
  eop P (Instr.buildSlice 25 1 #[(0, sink1_1)]) h_1 fun t7_1 h_2 =>
  callM P 107 #[t5_1, t7_1] h_2 fun t8_1 h_3 =>
  guardM t8_1 true (fun k_1 => rop P (Instr.loadAt 32 g2_1) h_3 fun t10_1 =>
  k_1 t10_1 h_3) h_3 fun t10_2 h_4 =>
  guardM t8_1 true (fun k_2 => k_2 sink1_1 h_4) h_4 fun t11_1 h_5 =>
  guardM t8_1 true (fun k_3 => callM P 160 #[t10_2, t11_1] h_5 fun t12_1 h_6 =>
  k_3 t12_1 h_6) h_5 fun t12_2 h_7 =>
  pop P (pickS t8_1 t12_2 (Value.bool false)) fun t13_1 =>
  K t13_1 h_7
theorem e105 (g0_1 : Value) (sink1_1 : Value) (h : Heap) (K : Value → Heap → Prop) : wpA Try.prog 14 (anOf []) (bodyOf Try.f105) 1 (fun A h => resA Try.prog A h K [.tmp 4]) (fun _ _ _ => False) (fun A h => resA Try.prog A h K [.tmp 4]) (aargs [g0_1, sink1_1] 0) h = t105 Try.prog g0_1 sink1_1 h K := by kernel_rfl
theorem c105 (g0_1 : Value) (sink1_1 : Value) (h : Heap) (K : Value → Heap → Prop) (H : t105 Try.prog g0_1 sink1_1 h K) : callM Try.prog 105 #[g0_1, sink1_1] h K :=
  callM_of_wpA mixed (fn := Try.f105) Try.func105 (c := bodyOf Try.f105) rfl (of_decide_eq_true (by kernel_rfl)) (anOf []) 12 14 (by kernel_rfl) rfl [.tmp 4] (by kernel_rfl) (args := [g0_1, sink1_1]) (by rw [e105]; exact H)

/-! impl.has -/
def t107 (P : Program) (g0_1 : Value) (places1_1 : Value) (h : Heap) (K : Value → Heap → Prop) : Prop :=
  eop P (Instr.box 32 g0_1) h fun g2_1 h_1 =>
  rop P (Instr.loadAt 32 g2_1) h_1 fun t5_1 =>
  callM P 88 #[t5_1] h_1 fun t6_1 h_2 =>
  guardM t6_1 true (fun k_1 => k_1 places1_1 h_2) h_2 fun t8_1 h_3 =>
  guardM t6_1 true (fun k_2 => pop P (Instr.makeFunc (Fn.func 161) #[] #[g2_1]) fun t9_1 =>
  k_2 t9_1 h_3) h_3 fun t9_2 h_4 =>
  guardM t6_1 true (fun k_3 => callM P 102 #[t8_1, t9_2] h_4 fun t10_1 h_5 =>
  k_3 t10_1 h_5) h_4 fun t10_2 h_6 =>
  guardM t6_1 true (fun k_4 => pop P (Op.unary .not t10_2) fun t11_1 =>
  k_4 t11_1 h_6) h_6 fun t11_2 h_7 =>
  pop P (pickS t6_1 t11_2 (Value.bool false)) fun t12_1 =>
  K t12_1 h_7
theorem e107 (g0_1 : Value) (places1_1 : Value) (h : Heap) (K : Value → Heap → Prop) : wpA Try.prog 13 (anOf []) (bodyOf Try.f107) 1 (fun A h => resA Try.prog A h K [.tmp 4]) (fun _ _ _ => False) (fun A h => resA Try.prog A h K [.tmp 4]) (aargs [g0_1, places1_1] 0) h = t107 Try.prog g0_1 places1_1 h K := by kernel_rfl
theorem c107 (g0_1 : Value) (places1_1 : Value) (h : Heap) (K : Value → Heap → Prop) (H : t107 Try.prog g0_1 places1_1 h K) : callM Try.prog 107 #[g0_1, places1_1] h K :=
  callM_of_wpA mixed (fn := Try.f107) Try.func107 (c := bodyOf Try.f107) rfl (of_decide_eq_true (by kernel_rfl)) (anOf []) 11 13 (by kernel_rfl) rfl [.tmp 4] (by kernel_rfl) (args := [g0_1, places1_1]) (by rw [e107]; exact H)

/-! spec.chOwn -/
def t109 (P : Program) (l0_1 : Value) (h : Heap) (K : Value → Heap → Prop) : Prop :=
  eop P (Instr.box 34 l0_1) h fun l1_1 h_1 =>
  eop P (Instr.alloc 34 true (.tuple #[])) h_1 fun t2_1 h_2 =>
  pop P (Instr.fieldAt 34 l1_1 0) fun t3_1 =>
  rop P (Instr.loadAt 25 t3_1) h_2 fun t4_1 =>
  pop P (Instr.fieldAt 34 l1_1 1) fun t6_1 =>
  rop P (Instr.loadAt 25 t6_1) h_2 fun t7_1 =>
  callM P 130 #[t4_1] h_2 fun t5_1 h_3 =>
  (∀ w : World, w.heap = h_3 → (Instr.loadAt 25 t6_1).run P w = .ok t7_1 w) ∧
  callM P 130 #[t7_1] h_3 fun t8_1 h_4 =>
  pop P (Instr.build 34 #[(0, t5_1), (1, t8_1)]) fun t9_1 =>
  uop P (Instr.storeAt 34 t2_1 t9_1) h_4 fun u_1 h_5 =>
  rop P (Instr.loadAt 34 t2_1) h_5 fun r_1 =>
  K r_1 h_5
theorem e109 (l0_1 : Value) (h : Heap) (K : Value → Heap → Prop) : wpA Try.prog 10 (anOf []) (bodyOf Try.f109) 1 (fun A h => resA Try.prog A h K [.cell 2 34]) (fun _ _ _ => False) (fun A h => resA Try.prog A h K [.cell 2 34]) (aargs [l0_1] 0) h = t109 Try.prog l0_1 h K := by kernel_rfl
theorem c109 (l0_1 : Value) (h : Heap) (K : Value → Heap → Prop) (H : t109 Try.prog l0_1 h K) : callM Try.prog 109 #[l0_1] h K :=
  callM_of_wpA mixed (fn := Try.f109) Try.func109 (c := bodyOf Try.f109) rfl (of_decide_eq_true (by kernel_rfl)) (anOf []) 9 10 (by kernel_rfl) rfl [.cell 2 34] (by kernel_rfl) (args := [l0_1]) (by rw [e109]; exact H)

/-! spec.chMove -/
def t110 (P : Program) (g0_1 : Value) (l1_1 : Value) (p2_1 : Value) (h : Heap) (K : Value → Heap → Prop) : Prop :=
  eop P (Instr.box 32 g0_1) h fun g3_1 h_1 =>
  eop P (Instr.box 34 l1_1) h_1 fun l4_1 h_2 =>
  pop P (Instr.fieldAt 32 g3_1 0) fun t7_1 =>
  rop P (Instr.loadAt 22 t7_1) h_2 fun t8_1 =>
  pop P (Instr.indexAt 22 t8_1 p2_1) fun t10_1 =>
  rop P (Instr.loadAt 25 t10_1) h_2 fun t11_1 =>
  pop P (Instr.fieldAt 34 l4_1 0) fun t12_1 =>
  rop P (Instr.loadAt 25 t12_1) h_2 fun t13_1 =>
  pop P (Instr.fieldAt 34 l4_1 0) fun t15_1 =>
  rop P (Instr.loadAt 25 t15_1) h_2 fun t16_1 =>
  pop P (Instr.indexAt 25 t16_1 p2_1) fun t18_1 =>
  rop P (Instr.loadAt 3 t18_1) h_2 fun t19_1 =>
  pop P (binA .add 3 t19_1 (Value.int IntKind.i64 1)) fun t20_1 =>
  pop P (lenS 25 3 t11_1) fun t22_1 =>
  pop P (binA .rem 3 t20_1 t22_1) fun t23_1 =>
  pop P (Instr.indexAt 25 t13_1 p2_1) fun t24_1 =>
  uop P (Instr.storeAt 3 t24_1 t23_1) h_2 fun u_1 h_3 =>
  pop P (Instr.fieldAt 34 l4_1 1) fun t25_1 =>
  rop P (Instr.loadAt 25 t25_1) h_3 fun t26_1 =>
  pop P (Instr.indexAt 25 t26_1 p2_1) fun t28_1 =>
  rop P (Instr.loadAt 3 t28_1) h_3 fun t29_1 =>
  pop P (binA .sub 3 t29_1 (Value.int IntKind.i64 1)) fun t30_1 =>
  pop P (Instr.indexAt 25 t26_1 p2_1) fun t31_1 =>
  uop P (Instr.storeAt 3 t31_1 t30_1) h_3 fun u_2 h_4 =>
  pop P (Instr.fieldAt 34 l4_1 1) fun t32_1 =>
  rop P (Instr.loadAt 25 t32_1) h_4 fun t33_1 =>
  pop P (Instr.fieldAt 34 l4_1 0) fun t35_1 =>
  rop P (Instr.loadAt 25 t35_1) h_4 fun t36_1 =>
  pop P (Instr.indexAt 25 t36_1 p2_1) fun t38_1 =>
  rop P (Instr.loadAt 3 t38_1) h_4 fun t39_1 =>
  pop P (Instr.indexAt 25 t11_1 t39_1) fun t40_1 =>
  rop P (Instr.loadAt 3 t40_1) h_4 fun t41_1 =>
  pop P (Instr.indexAt 25 t33_1 t41_1) fun t42_1 =>
  rop P (Instr.loadAt 3 t42_1) h_4 fun t43_1 =>
  pop P (binA .add 3 t43_1 (Value.int IntKind.i64 1)) fun t44_1 =>
  pop P (Instr.indexAt 25 t33_1 t41_1) fun t45_1 =>
  uop P (Instr.storeAt 3 t45_1 t44_1) h_4 fun u_3 h_5 =>
  K (.tuple #[]) h_5
theorem e110 (g0_1 : Value) (l1_1 : Value) (p2_1 : Value) (h : Heap) (K : Value → Heap → Prop) : wpA Try.prog 46 (anOf []) (bodyOf Try.f110) 1 (fun A h => resA Try.prog A h K []) (fun _ _ _ => False) (fun A h => resA Try.prog A h K []) (aargs [g0_1, l1_1, p2_1] 0) h = t110 Try.prog g0_1 l1_1 p2_1 h K := by kernel_rfl
theorem c110 (g0_1 : Value) (l1_1 : Value) (p2_1 : Value) (h : Heap) (K : Value → Heap → Prop) (H : t110 Try.prog g0_1 l1_1 p2_1 h K) : callM Try.prog 110 #[g0_1, l1_1, p2_1] h K :=
  callM_of_wpA mixed (fn := Try.f110) Try.func110 (c := bodyOf Try.f110) rfl (of_decide_eq_true (by kernel_rfl)) (anOf []) 43 46 (by kernel_rfl) rfl [] (by kernel_rfl) (args := [g0_1, l1_1, p2_1]) (by rw [e110]; exact H)

/-! spec.chSink -/
def t111 (P : Program) (g0_1 : Value) (sink1_1 : Value) (h : Heap) (K : Value → Heap → Prop) : Prop :=
  eop P (Instr.box 32 g0_1) h fun g2_1 h_1 =>
  rop P (Instr.loadAt 32 g2_1) h_1 fun t5_1 =>
  callM P 116 #[t5_1, sink1_1] h_1 fun t7_1 h_2 =>
  guardM t7_1 true (fun k_1 => rop P (Instr.loadAt 32 g2_1) h_2 fun t9_1 =>
  k_1 t9_1 h_2) h_2 fun t9_2 h_3 =>
  guardM t7_1 true (fun k_2 => k_2 sink1_1 h_3) h_3 fun t10_1 h_4 =>
  guardM t7_1 true (fun k_3 => callM P 162 #[t9_2, t10_1] h_4 fun t11_1 h_5 =>
  k_3 t11_1 h_5) h_4 fun t11_2 h_6 =>
  pop P (pickS t7_1 t11_2 (Value.bool false)) fun t12_1 =>
  K t12_1 h_6
theorem e111 (g0_1 : Value) (sink1_1 : Value) (h : Heap) (K : Value → Heap → Prop) : wpA Try.prog 13 (anOf []) (bodyOf Try.f111) 1 (fun A h => resA Try.prog A h K [.tmp 4]) (fun _ _ _ => False) (fun A h => resA Try.prog A h K [.tmp 4]) (aargs [g0_1, sink1_1] 0) h = t111 Try.prog g0_1 sink1_1 h K := by kernel_rfl
theorem c111 (g0_1 : Value) (sink1_1 : Value) (h : Heap) (K : Value → Heap → Prop) (H : t111 Try.prog g0_1 sink1_1 h K) : callM Try.prog 111 #[g0_1, sink1_1] h K :=
  callM_of_wpA mixed (fn := Try.f111) Try.func111 (c := bodyOf Try.f111) rfl (of_decide_eq_true (by kernel_rfl)) (anOf []) 11 13 (by kernel_rfl) rfl [.tmp 4] (by kernel_rfl) (args := [g0_1, sink1_1]) (by rw [e111]; exact H)

/-! impl.in -/
def t113 (P : Program) (n0_1 : Value) (low1_1 : Value) (high2_1 : Value) (h : Heap) (K : Value → Heap → Prop) : Prop :=
  pop P (binA .leq 3 low1_1 n0_1) fun t9_1 =>
  guardM t9_1 true (fun k_1 => k_1 n0_1 h) h fun t11_1 h_1 =>
  guardM t9_1 true (fun k_2 => k_2 high2_1 h_1) h_1 fun t12_1 h_2 =>
  guardM t9_1 true (fun k_3 => pop P (binA .leq 3 t11_1 t12_1) fun t13_1 =>
  k_3 t13_1 h_2) h_2 fun t13_2 h_3 =>
  pop P (pickS t9_1 t13_2 (Value.bool false)) fun t14_1 =>
  K t14_1 h_3
theorem e113 (n0_1 : Value) (low1_1 : Value) (high2_1 : Value) (h : Heap) (K : Value → Heap → Prop) : wpA Try.prog 15 (anOf []) (bodyOf Try.f113) 1 (fun A h => resA Try.prog A h K [.tmp 6]) (fun _ _ _ => False) (fun A h => resA Try.prog A h K [.tmp 6]) (aargs [n0_1, low1_1, high2_1] 0) h = t113 Try.prog n0_1 low1_1 high2_1 h K := by kernel_rfl
theorem c113 (n0_1 : Value) (low1_1 : Value) (high2_1 : Value) (h : Heap) (K : Value → Heap → Prop) (H : t113 Try.prog n0_1 low1_1 high2_1 h K) : callM Try.prog 113 #[n0_1, low1_1, high2_1] h K :=
  callM_of_wpA mixed (fn := Try.f113) Try.func113 (c := bodyOf Try.f113) rfl (of_decide_eq_true (by kernel_rfl)) (anOf []) 12 15 (by kernel_rfl) rfl [.tmp 6] (by kernel_rfl) (args := [n0_1, low1_1, high2_1]) (by rw [e113]; exact H)

/-! spec.grPlace -/
def t116 (P : Program) (g0_1 : Value) (p1_1 : Value) (h : Heap) (K : Value → Heap → Prop) : Prop :=
  eop P (Instr.box 32 g0_1) h fun g2_1 h_1 =>
  rop P (Instr.loadAt 32 g2_1) h_1 fun t5_1 =>
  callM P 165 #[t5_1] h_1 fun t6_1 h_2 =>
  guardM t6_1 true (fun k_1 => k_1 p1_1 h_2) h_2 fun t8_1 h_3 =>
  guardM t6_1 true (fun k_2 => pop P (Instr.fieldAt 32 g2_1 0) fun t9_1 =>
  k_2 t9_1 h_3) h_3 fun t9_2 h_4 =>
  guardM t6_1 true (fun k_3 => rop P (Instr.loadAt 22 t9_2) h_4 fun t10_1 =>
  k_3 t10_1 h_4) h_4 fun t10_2 h_5 =>
  guardM t6_1 true (fun k_4 => pop P (lenS 22 3 t10_2) fun t11_1 =>
  k_4 t11_1 h_5) h_5 fun t11_2 h_6 =>
  guardM t6_1 true (fun k_5 => pop P (binA .sub 3 t11_2 (Value.int IntKind.i64 1)) fun t12_1 =>
  k_5 t12_1 h_6) h_6 fun t12_2 h_7 =>
  guardM t6_1 true (fun k_6 => callM P 117 #[t8_1, (Value.int IntKind.i64 0), t12_2] h_7 fun t13_1 h_8 =>
  k_6 t13_1 h_8) h_7 fun t13_2 h_9 =>
  pop P (pickS t6_1 t13_2 (Value.bool false)) fun t14_1 =>
  K t14_1 h_9
theorem e116 (g0_1 : Value) (p1_1 : Value) (h : Heap) (K : Value → Heap → Prop) : wpA Try.prog 15 (anOf []) (bodyOf Try.f116) 1 (fun A h => resA Try.prog A h K [.tmp 4]) (fun _ _ _ => False) (fun A h => resA Try.prog A h K [.tmp 4]) (aargs [g0_1, p1_1] 0) h = t116 Try.prog g0_1 p1_1 h K := by kernel_rfl
theorem c116 (g0_1 : Value) (p1_1 : Value) (h : Heap) (K : Value → Heap → Prop) (H : t116 Try.prog g0_1 p1_1 h K) : callM Try.prog 116 #[g0_1, p1_1] h K :=
  callM_of_wpA mixed (fn := Try.f116) Try.func116 (c := bodyOf Try.f116) rfl (of_decide_eq_true (by kernel_rfl)) (anOf []) 13 15 (by kernel_rfl) rfl [.tmp 4] (by kernel_rfl) (args := [g0_1, p1_1]) (by rw [e116]; exact H)

/-! spec.l1In -/
def t117 (P : Program) (n0_1 : Value) (lo1_1 : Value) (hi2_1 : Value) (h : Heap) (K : Value → Heap → Prop) : Prop :=
  pop P (binA .geq 3 n0_1 lo1_1) fun t9_1 =>
  guardM t9_1 true (fun k_1 => k_1 n0_1 h) h fun t11_1 h_1 =>
  guardM t9_1 true (fun k_2 => k_2 hi2_1 h_1) h_1 fun t12_1 h_2 =>
  guardM t9_1 true (fun k_3 => pop P (binA .leq 3 t11_1 t12_1) fun t13_1 =>
  k_3 t13_1 h_2) h_2 fun t13_2 h_3 =>
  pop P (pickS t9_1 t13_2 (Value.bool false)) fun t14_1 =>
  K t14_1 h_3
theorem e117 (n0_1 : Value) (lo1_1 : Value) (hi2_1 : Value) (h : Heap) (K : Value → Heap → Prop) : wpA Try.prog 15 (anOf []) (bodyOf Try.f117) 1 (fun A h => resA Try.prog A h K [.tmp 6]) (fun _ _ _ => False) (fun A h => resA Try.prog A h K [.tmp 6]) (aargs [n0_1, lo1_1, hi2_1] 0) h = t117 Try.prog n0_1 lo1_1 hi2_1 h K := by kernel_rfl
theorem c117 (n0_1 : Value) (lo1_1 : Value) (hi2_1 : Value) (h : Heap) (K : Value → Heap → Prop) (H : t117 Try.prog n0_1 lo1_1 hi2_1 h K) : callM Try.prog 117 #[n0_1, lo1_1, hi2_1] h K :=
  callM_of_wpA mixed (fn := Try.f117) Try.func117 (c := bodyOf Try.f117) rfl (of_decide_eq_true (by kernel_rfl)) (anOf []) 12 15 (by kernel_rfl) rfl [.tmp 6] (by kernel_rfl) (args := [n0_1, lo1_1, hi2_1]) (by rw [e117]; exact H)

/-! spec.l1Own -/
def t130 (P : Program) (l0_1 : Value) (h : Heap) (K : Value → Heap → Prop) : Prop :=
  eop P (Instr.buildSlice 25 0 #[]) h fun t3_1 h_1 =>
  eop P (appS 25 25 25 t3_1 l0_1) h_1 fun t5_1 h_2 =>
  K t5_1 h_2
theorem e130 (l0_1 : Value) (h : Heap) (K : Value → Heap → Prop) : wpA Try.prog 6 (anOf []) (bodyOf Try.f130) 1 (fun A h => resA Try.prog A h K [.tmp 2]) (fun _ _ _ => False) (fun A h => resA Try.prog A h K [.tmp 2]) (aargs [l0_1] 0) h = t130 Try.prog l0_1 h K := by kernel_rfl
theorem c130 (l0_1 : Value) (h : Heap) (K : Value → Heap → Prop) (H : t130 Try.prog l0_1 h K) : callM Try.prog 130 #[l0_1] h K :=
  callM_of_wpA mixed (fn := Try.f130) Try.func130 (c := bodyOf Try.f130) rfl (of_decide_eq_true (by kernel_rfl)) (anOf []) 5 6 (by kernel_rfl) rfl [.tmp 2] (by kernel_rfl) (args := [l0_1]) (by rw [e130]; exact H)

/-! spec.waGood -/
def t138 (P : Program) (g0_1 : Value) (w1_1 : Value) (h : Heap) (K : Value → Heap → Prop) : Prop :=
  eop P (Instr.box 32 g0_1) h fun g2_1 h_1 =>
  eop P (Instr.box 132 w1_1) h_1 fun w3_1 h_2 =>
  rop P (Instr.loadAt 32 g2_1) h_2 fun t7_1 =>
  pop P (Instr.fieldAt 132 w3_1 1) fun t8_1 =>
  rop P (Instr.loadAt 3 t8_1) h_2 fun t9_1 =>
  callM P 116 #[t7_1, t9_1] h_2 fun t10_1 h_3 =>
  pop P (Op.unary .not t10_1) fun t11_1 =>
  guardM t11_1 false (fun k_1 => pop P (Instr.fieldAt 132 w3_1 0) fun t13_1 =>
  k_1 t13_1 h_3) h_3 fun t13_2 h_4 =>
  guardM t11_1 false (fun k_2 => rop P (Instr.loadAt 25 t13_2) h_4 fun t14_1 =>
  k_2 t14_1 h_4) h_4 fun t14_2 h_5 =>
  guardM t11_1 false (fun k_3 => pop P (lenS 25 3 t14_2) fun t15_1 =>
  k_3 t15_1 h_5) h_5 fun t15_2 h_6 =>
  guardM t11_1 false (fun k_4 => pop P (Instr.fieldAt 32 g2_1 0) fun t16_1 =>
  k_4 t16_1 h_6) h_6 fun t16_2 h_7 =>
  guardM t11_1 false (fun k_5 => rop P (Instr.loadAt 22 t16_2) h_7 fun t17_1 =>
  k_5 t17_1 h_7) h_7 fun t17_2 h_8 =>
  guardM t11_1 false (fun k_6 => pop P (lenS 22 3 t17_2) fun t18_1 =>
  k_6 t18_1 h_8) h_8 fun t18_2 h_9 =>
  guardM t11_1 false (fun k_7 => pop P (binE .neq 3 (.tmp 15) (.tmp 18) t15_2 t18_2) fun t19_1 =>
  k_7 t19_1 h_9) h_9 fun t19_2 h_10 =>
  pop P (pickS t11_1 (Value.bool true) t19_2) fun t20_1 =>
  condM t20_1
  (K (Value.bool false) h_10)
  (pop P (Instr.fieldAt 32 g2_1 0) fun t21_1 =>
  rop P (Instr.loadAt 22 t21_1) h_10 fun t22_1 =>
  pop P (lenS 22 3 t22_1) fun t23_1 =>
  ∃ (I_1 : List Value → Heap → Prop) (μ_1 : List Value → Heap → Nat), I_1 [(Value.int IntKind.i64 0)] h_10 ∧
  ∀ (junk_1 : Nat → Value) (t24_1 : Value) (h_11 : Heap), I_1 [t24_1] h_11 →
  pop P (binA .lss 3 t24_1 t23_1) fun t25_1 =>
  condM t25_1
  (pop P (Instr.indexAt 22 t22_1 t24_1) fun t27_1 =>
  rop P (Instr.loadAt 25 t27_1) h_11 fun t28_1 =>
  pop P (Instr.fieldAt 132 w3_1 0) fun t29_1 =>
  rop P (Instr.loadAt 25 t29_1) h_11 fun t30_1 =>
  pop P (Instr.indexAt 25 t30_1 t24_1) fun t32_1 =>
  rop P (Instr.loadAt 3 t32_1) h_11 fun t33_1 =>
  pop P (lenS 25 3 t28_1) fun t35_1 =>
  pop P (binA .sub 3 t35_1 (Value.int IntKind.i64 1)) fun t36_1 =>
  callM P 173 #[(Value.int IntKind.i64 0), t36_1] h_11 fun t37_1 h_12 =>
  (∀ w : World, w.heap = h_12 → (Instr.loadAt 3 t32_1).run P w = .ok t33_1 w) ∧
  (∀ w : World, w.heap = h_12 → (Instr.loadAt 25 t29_1).run P w = .ok t30_1 w) ∧
  callM P 117 #[t33_1, (Value.int IntKind.i64 0), t37_1] h_12 fun t38_1 h_13 =>
  (∀ w : World, w.heap = h_13 → (Instr.loadAt 25 t29_1).run P w = .ok t30_1 w) ∧
  pop P (Op.unary .not t38_1) fun t39_1 =>
  condM t39_1
  (K (Value.bool false) h_13)
  (pop P (binA .add 3 t24_1 (Value.int IntKind.i64 1)) fun t40_1 =>
  I_1 [t40_1] h_13 ∧ μ_1 [t40_1] h_13 < μ_1 [t24_1] h_11))
  (K (Value.bool true) h_11))
theorem e138 (g0_1 : Value) (w1_1 : Value) (h : Heap) (K : Value → Heap → Prop) : wpA Try.prog 41 (anOf [(58, [24])]) (bodyOf Try.f138) 1 (fun A h => resA Try.prog A h K [.tmp 4]) (fun _ _ _ => False) (fun A h => resA Try.prog A h K [.tmp 4]) (aargs [g0_1, w1_1] 0) h = t138 Try.prog g0_1 w1_1 h K := by kernel_rfl
theorem c138 (g0_1 : Value) (w1_1 : Value) (h : Heap) (K : Value → Heap → Prop) (H : t138 Try.prog g0_1 w1_1 h K) : callM Try.prog 138 #[g0_1, w1_1] h K :=
  callM_of_wpA mixed (fn := Try.f138) Try.func138 (c := bodyOf Try.f138) rfl (of_decide_eq_true (by kernel_rfl)) (anOf [(58, [24])]) 39 41 (by kernel_rfl) rfl [.tmp 4] (by kernel_rfl) (args := [g0_1, w1_1]) (by rw [e138]; exact H)

/-! spec.chSum -/
def t139 (P : Program) (list0_1 : Value) (h : Heap) (K : Value → Heap → Prop) : Prop :=
  pop P (lenS 25 3 list0_1) fun t7_1 =>
  ∃ (I_1 : List Value → Heap → Prop) (μ_1 : List Value → Heap → Nat), I_1 [(Value.int IntKind.i64 0), (Value.int IntKind.i64 0)] h ∧
  ∀ (junk_1 : Nat → Value) (sum3_1 : Value) (t8_1 : Value) (h_1 : Heap), I_1 [sum3_1, t8_1] h_1 →
  pop P (binA .lss 3 t8_1 t7_1) fun t9_1 =>
  condM t9_1
  (pop P (Instr.indexAt 25 list0_1 t8_1) fun t10_1 =>
  rop P (Instr.loadAt 3 t10_1) h_1 fun t11_1 =>
  pop P (binA .add 3 sum3_1 t11_1) fun t14_1 =>
  pop P (binA .add 3 t8_1 (Value.int IntKind.i64 1)) fun t15_1 =>
  I_1 [t14_1, t15_1] h_1 ∧ μ_1 [t14_1, t15_1] h_1 < μ_1 [sum3_1, t8_1] h_1)
  (K sum3_1 h_1)
theorem e139 (list0_1 : Value) (h : Heap) (K : Value → Heap → Prop) : wpA Try.prog 17 (anOf [(58, [3, 8])]) (bodyOf Try.f139) 1 (fun A h => resA Try.prog A h K [.tmp 2]) (fun _ _ _ => False) (fun A h => resA Try.prog A h K [.tmp 2]) (aargs [list0_1] 0) h = t139 Try.prog list0_1 h K := by kernel_rfl
theorem c139 (list0_1 : Value) (h : Heap) (K : Value → Heap → Prop) (H : t139 Try.prog list0_1 h K) : callM Try.prog 139 #[list0_1] h K :=
  callM_of_wpA mixed (fn := Try.f139) Try.func139 (c := bodyOf Try.f139) rfl (of_decide_eq_true (by kernel_rfl)) (anOf [(58, [3, 8])]) 16 17 (by kernel_rfl) rfl [.tmp 2] (by kernel_rfl) (args := [list0_1]) (by rw [e139]; exact H)

/-! impl.areRotors -/
def t140 (P : Program) (g0_1 : Value) (rotors1_1 : Value) (h : Heap) (K : Value → Heap → Prop) : Prop :=
  eop P (Instr.box 32 g0_1) h fun g2_1 h_1 =>
  rop P (Instr.loadAt 32 g2_1) h_1 fun t5_1 =>
  pop P (Instr.build 132 #[(0, rotors1_1), (1, (Value.int IntKind.i64 0))]) fun t7_1 =>
  callM P 174 #[t5_1, t7_1] h_1 fun t8_1 h_2 =>
  K t8_1 h_2
theorem e140 (g0_1 : Value) (rotors1_1 : Value) (h : Heap) (K : Value → Heap → Prop) : wpA Try.prog 9 (anOf []) (bodyOf Try.f140) 1 (fun A h => resA Try.prog A h K [.tmp 4]) (fun _ _ _ => False) (fun A h => resA Try.prog A h K [.tmp 4]) (aargs [g0_1, rotors1_1] 0) h = t140 Try.prog g0_1 rotors1_1 h K := by kernel_rfl
theorem c140 (g0_1 : Value) (rotors1_1 : Value) (h : Heap) (K : Value → Heap → Prop) (H : t140 Try.prog g0_1 rotors1_1 h K) : callM Try.prog 140 #[g0_1, rotors1_1] h K :=
  callM_of_wpA mixed (fn := Try.f140) Try.func140 (c := bodyOf Try.f140) rfl (of_decide_eq_true (by kernel_rfl)) (anOf []) 7 9 (by kernel_rfl) rfl [.tmp 4] (by kernel_rfl) (args := [g0_1, rotors1_1]) (by rw [e140]; exact H)

/-! impl.areChips -/
def t141 (P : Program) (g0_1 : Value) (chips1_1 : Value) (h : Heap) (K : Value → Heap → Prop) : Prop :=
  eop P (Instr.box 32 g0_1) h fun g2_1 h_1 =>
  pop P (lenS 25 3 chips1_1) fun t6_1 =>
  pop P (Instr.fieldAt 32 g2_1 0) fun t7_1 =>
  rop P (Instr.loadAt 22 t7_1) h_1 fun t8_1 =>
  pop P (lenS 22 3 t8_1) fun t9_1 =>
  pop P (binE .eql 3 (.tmp 6) (.tmp 9) t6_1 t9_1) fun t10_1 =>
  guardM t10_1 true (fun k_1 => k_1 chips1_1 h_1) h_1 fun t12_1 h_2 =>
  guardM t10_1 true (fun k_2 => callM P 102 #[t12_1, (.func (.func 175) #[] #[])] h_2 fun t13_1 h_3 =>
  k_2 t13_1 h_3) h_2 fun t13_2 h_4 =>
  guardM t10_1 true (fun k_3 => pop P (Op.unary .not t13_2) fun t14_1 =>
  k_3 t14_1 h_4) h_4 fun t14_2 h_5 =>
  pop P (pickS t10_1 t14_2 (Value.bool false)) fun t15_1 =>
  K t15_1 h_5
theorem e141 (g0_1 : Value) (chips1_1 : Value) (h : Heap) (K : Value → Heap → Prop) : wpA Try.prog 16 (anOf []) (bodyOf Try.f141) 1 (fun A h => resA Try.prog A h K [.tmp 4]) (fun _ _ _ => False) (fun A h => resA Try.prog A h K [.tmp 4]) (aargs [g0_1, chips1_1] 0) h = t141 Try.prog g0_1 chips1_1 h K := by kernel_rfl
theorem c141 (g0_1 : Value) (chips1_1 : Value) (h : Heap) (K : Value → Heap → Prop) (H : t141 Try.prog g0_1 chips1_1 h K) : callM Try.prog 141 #[g0_1, chips1_1] h K :=
  callM_of_wpA mixed (fn := Try.f141) Try.func141 (c := bodyOf Try.f141) rfl (of_decide_eq_true (by kernel_rfl)) (anOf []) 14 16 (by kernel_rfl) rfl [.tmp 4] (by kernel_rfl) (args := [g0_1, chips1_1]) (by rw [e141]; exact H)

/-! slices.Clone[[]int,int] -/
def t142 (P : Program) (s0_1 : Value) (h : Heap) (K : Value → Heap → Prop) : Prop :=
  pop P (binE .eql 25 (.tmp 3) (.const (Value.slice none 0 0)) s0_1 (Value.slice none 0 0)) fun t4_1 =>
  condM t4_1
  (K (Value.slice none 0 0) h)
  (eop P (Instr.buildSlice 25 0 #[]) h fun t5_1 h_1 =>
  eop P (appS 25 25 25 t5_1 s0_1) h_1 fun t7_1 h_2 =>
  K t7_1 h_2)
theorem e142 (s0_1 : Value) (h : Heap) (K : Value → Heap → Prop) : wpA Try.prog 8 (anOf []) (bodyOf Try.f142) 1 (fun A h => resA Try.prog A h K [.tmp 2]) (fun _ _ _ => False) (fun A h => resA Try.prog A h K [.tmp 2]) (aargs [s0_1] 0) h = t142 Try.prog s0_1 h K := by kernel_rfl
theorem c142 (s0_1 : Value) (h : Heap) (K : Value → Heap → Prop) (H : t142 Try.prog s0_1 h K) : callM Try.prog 142 #[s0_1] h K :=
  callM_of_wpA mixed (fn := Try.f142) Try.func142 (c := bodyOf Try.f142) rfl (of_decide_eq_true (by kernel_rfl)) (anOf []) 7 8 (by kernel_rfl) rfl [.tmp 2] (by kernel_rfl) (args := [s0_1]) (by rw [e142]; exact H)

/-! (*impl.Load).send -/
def t143 (P : Program) (l0_1 : Value) (g1_1 : Value) (p2_1 : Value) (h : Heap) (K : Value → Heap → Prop) : Prop :=
  eop P (Instr.box 32 g1_1) h fun g4_1 h_1 =>
  pop P (nilS l0_1) fun t8_1 =>
  pop P (Instr.fieldAt 34 t8_1 0) fun t9_1 =>
  rop P (Instr.loadAt 25 t9_1) h_1 fun t10_1 =>
  pop P (Instr.build 132 #[(0, t10_1), (1, p2_1)]) fun t12_1 =>
  eop P (Instr.alloc 132 true (.tuple #[])) h_1 fun w6_1 h_2 =>
  uop P (Instr.storeAt 132 w6_1 t12_1) h_2 fun u_1 h_3 =>
  rop P (Instr.loadAt 32 g4_1) h_3 fun t13_1 =>
  callM P 176 #[t13_1, w6_1] h_3 fun t14_1 h_4 =>
  pop P (nilS l0_1) fun t16_1 =>
  pop P (Instr.fieldAt 34 t16_1 1) fun t17_1 =>
  rop P (Instr.loadAt 25 t17_1) h_4 fun t18_1 =>
  pop P (Instr.indexAt 25 t18_1 p2_1) fun t20_1 =>
  rop P (Instr.loadAt 3 t20_1) h_4 fun t21_1 =>
  pop P (binA .sub 3 t21_1 (Value.int IntKind.i64 1)) fun t22_1 =>
  pop P (Instr.indexAt 25 t18_1 p2_1) fun t23_1 =>
  uop P (Instr.storeAt 3 t23_1 t22_1) h_4 fun u_2 h_5 =>
  pop P (nilS l0_1) fun t25_1 =>
  pop P (Instr.fieldAt 34 t25_1 1) fun t26_1 =>
  rop P (Instr.loadAt 25 t26_1) h_5 fun t27_1 =>
  pop P (Instr.fieldAt 132 w6_1 1) fun t28_1 =>
  rop P (Instr.loadAt 3 t28_1) h_5 fun t29_1 =>
  pop P (Instr.indexAt 25 t27_1 t29_1) fun t30_1 =>
  rop P (Instr.loadAt 3 t30_1) h_5 fun t31_1 =>
  pop P (binA .add 3 t31_1 (Value.int IntKind.i64 1)) fun t32_1 =>
  pop P (Instr.indexAt 25 t27_1 t29_1) fun t33_1 =>
  uop P (Instr.storeAt 3 t33_1 t32_1) h_5 fun u_3 h_6 =>
  K (.tuple #[]) h_6
theorem e143 (l0_1 : Value) (g1_1 : Value) (p2_1 : Value) (h : Heap) (K : Value → Heap → Prop) : wpA Try.prog 34 (anOf []) (bodyOf Try.f143) 1 (fun A h => resA Try.prog A h K []) (fun _ _ _ => False) (fun A h => resA Try.prog A h K []) (aargs [l0_1, g1_1, p2_1] 0) h = t143 Try.prog l0_1 g1_1 p2_1 h K := by kernel_rfl
theorem c143 (l0_1 : Value) (g1_1 : Value) (p2_1 : Value) (h : Heap) (K : Value → Heap → Prop) (H : t143 Try.prog l0_1 g1_1 p2_1 h K) : callM Try.prog 143 #[l0_1, g1_1, p2_1] h K :=
  callM_of_wpA mixed (fn := Try.f143) Try.func143 (c := bodyOf Try.f143) rfl (of_decide_eq_true (by kernel_rfl)) (anOf []) 31 34 (by kernel_rfl) rfl [] (by kernel_rfl) (args := [l0_1, g1_1, p2_1]) (by rw [e143]; exact H)

/-! impl.isGraph$1 -/
def t150 (P : Program) (q0_1 : Value) (t1_1 : Value) (h : Heap) (K : Value → Heap → Prop) : Prop :=
  rop P (Instr.loadAt 3 t1_1) h fun t5_1 =>
  pop P (binA .sub 3 t5_1 (Value.int IntKind.i64 1)) fun t6_1 =>
  callM P 113 #[q0_1, (Value.int IntKind.i64 0), t6_1] h fun t7_1 h_1 =>
  pop P (Op.unary .not t7_1) fun t8_1 =>
  K t8_1 h_1
theorem e150 (q0_1 : Value) (t1_1 : Value) (h : Heap) (K : Value → Heap → Prop) : wpA Try.prog 9 (anOf []) (bodyOf Try.f150) 1 (fun A h => resA Try.prog A h K [.tmp 3]) (fun _ _ _ => False) (fun A h => resA Try.prog A h K [.tmp 3]) (aargs [q0_1, t1_1] 0) h = t150 Try.prog q0_1 t1_1 h K := by kernel_rfl
theorem c150 (q0_1 : Value) (t1_1 : Value) (h : Heap) (K : Value → Heap → Prop) (H : t150 Try.prog q0_1 t1_1 h K) : callM Try.prog 150 #[q0_1, t1_1] h K :=
  callM_of_wpA mixed (fn := Try.f150) Try.func150 (c := bodyOf Try.f150) rfl (of_decide_eq_true (by kernel_rfl)) (anOf []) 7 9 (by kernel_rfl) rfl [.tmp 3] (by kernel_rfl) (args := [q0_1, t1_1]) (by rw [e150]; exact H)

/-! slices.IndexFunc[[]int,int] -/
def t159 (P : Program) (s0_1 : Value) (f1_1 : Value) (h : Heap) (K : Value → Heap → Prop) : Prop :=
  pop P (lenS 25 3 s0_1) fun t7_1 =>
  ∃ (I_1 : List Value → Heap → Prop) (μ_1 : List Value → Heap → Nat), I_1 [(Value.int IntKind.i64 0)] h ∧
  ∀ (junk_1 : Nat → Value) (t8_1 : Value) (h_1 : Heap), I_1 [t8_1] h_1 →
  pop P (binA .lss 3 t8_1 t7_1) fun t9_1 =>
  condM t9_1
  (pop P (Instr.indexAt 25 s0_1 t8_1) fun t14_1 =>
  rop P (Instr.loadAt 3 t14_1) h_1 fun t15_1 =>
  callV P f1_1 [t15_1] h_1 fun t16_1 h_2 =>
  condM t16_1
  (K t8_1 h_2)
  (pop P (binA .add 3 t8_1 (Value.int IntKind.i64 1)) fun t18_1 =>
  I_1 [t18_1] h_2 ∧ μ_1 [t18_1] h_2 < μ_1 [t8_1] h_1))
  (K (Value.int IntKind.i64 (-1)) h_1)
theorem e159 (s0_1 : Value) (f1_1 : Value) (h : Heap) (K : Value → Heap → Prop) : wpA Try.prog 19 (anOf [(26, [8])]) (bodyOf Try.f159) 1 (fun A h => resA Try.prog A h K [.tmp 4]) (fun _ _ _ => False) (fun A h => resA Try.prog A h K [.tmp 4]) (aargs [s0_1, f1_1] 0) h = t159 Try.prog s0_1 f1_1 h K := by kernel_rfl
theorem c159 (s0_1 : Value) (f1_1 : Value) (h : Heap) (K : Value → Heap → Prop) (H : t159 Try.prog s0_1 f1_1 h K) : callM Try.prog 159 #[s0_1, f1_1] h K :=
  callM_of_wpA mixed (fn := Try.f159) Try.func159 (c := bodyOf Try.f159) rfl (of_decide_eq_true (by kernel_rfl)) (anOf [(26, [8])]) 17 19 (by kernel_rfl) rfl [.tmp 4] (by kernel_rfl) (args := [s0_1, f1_1]) (by rw [e159]; exact H)

/-! (impl.Graph).leadsTo -/
def t160 (P : Program) (g0_1 : Value) (p1_1 : Value) (h : Heap) (K : Value → Heap → Prop) : Prop :=
  eop P (Instr.box 32 g0_1) h fun g2_1 h_1 =>
  pop P (Instr.fieldAt 32 g2_1 0) fun t6_1 =>
  rop P (Instr.loadAt 22 t6_1) h_1 fun t7_1 =>
  pop P (lenS 22 3 t7_1) fun t8_1 =>
  ∃ (I_1 : List Value → Heap → Prop) (μ_1 : List Value → Heap → Nat), I_1 [(Value.int IntKind.i64 0)] h_1 ∧
  ∀ (junk_1 : Nat → Value) (t9_1 : Value) (h_2 : Heap), I_1 [t9_1] h_2 →
  pop P (binA .lss 3 t9_1 t8_1) fun t10_1 =>
  condM t10_1
  (rop P (Instr.loadAt 32 g2_1) h_2 fun t12_1 =>
  callM P 187 #[t12_1, t9_1] h_2 fun t14_1 h_3 =>
  pop P (Instr.indexAt 25 t14_1 p1_1) fun t16_1 =>
  rop P (Instr.loadAt 3 t16_1) h_3 fun t17_1 =>
  pop P (binA .lss 3 t17_1 (Value.int IntKind.i64 0)) fun t18_1 =>
  condM t18_1
  (K (Value.bool false) h_3)
  (pop P (binA .add 3 t9_1 (Value.int IntKind.i64 1)) fun t19_1 =>
  I_1 [t19_1] h_3 ∧ μ_1 [t19_1] h_3 < μ_1 [t9_1] h_2))
  (K (Value.bool true) h_2)
theorem e160 (g0_1 : Value) (p1_1 : Value) (h : Heap) (K : Value → Heap → Prop) : wpA Try.prog 20 (anOf [(26, [9])]) (bodyOf Try.f160) 1 (fun A h => resA Try.prog A h K [.tmp 4]) (fun _ _ _ => False) (fun A h => resA Try.prog A h K [.tmp 4]) (aargs [g0_1, p1_1] 0) h = t160 Try.prog g0_1 p1_1 h K := by kernel_rfl
theorem c160 (g0_1 : Value) (p1_1 : Value) (h : Heap) (K : Value → Heap → Prop) (H : t160 Try.prog g0_1 p1_1 h K) : callM Try.prog 160 #[g0_1, p1_1] h K :=
  callM_of_wpA mixed (fn := Try.f160) Try.func160 (c := bodyOf Try.f160) rfl (of_decide_eq_true (by kernel_rfl)) (anOf [(26, [9])]) 18 20 (by kernel_rfl) rfl [.tmp 4] (by kernel_rfl) (args := [g0_1, p1_1]) (by rw [e160]; exact H)

/-! impl.has$1 -/
def t161 (P : Program) (p0_1 : Value) (t1_1 : Value) (h : Heap) (K : Value → Heap → Prop) : Prop :=
  pop P (Instr.fieldAt 32 t1_1 0) fun t5_1 =>
  rop P (Instr.loadAt 22 t5_1) h fun t6_1 =>
  pop P (lenS 22 3 t6_1) fun t7_1 =>
  pop P (binA .sub 3 t7_1 (Value.int IntKind.i64 1)) fun t8_1 =>
  callM P 113 #[p0_1, (Value.int IntKind.i64 0), t8_1] h fun t9_1 h_1 =>
  pop P (Op.unary .not t9_1) fun t10_1 =>
  K t10_1 h_1
theorem e161 (p0_1 : Value) (t1_1 : Value) (h : Heap) (K : Value → Heap → Prop) : wpA Try.prog 11 (anOf []) (bodyOf Try.f161) 1 (fun A h => resA Try.prog A h K [.tmp 3]) (fun _ _ _ => False) (fun A h => resA Try.prog A h K [.tmp 3]) (aargs [p0_1, t1_1] 0) h = t161 Try.prog p0_1 t1_1 h K := by kernel_rfl
theorem c161 (p0_1 : Value) (t1_1 : Value) (h : Heap) (K : Value → Heap → Prop) (H : t161 Try.prog p0_1 t1_1 h K) : callM Try.prog 161 #[p0_1, t1_1] h K :=
  callM_of_wpA mixed (fn := Try.f161) Try.func161 (c := bodyOf Try.f161) rfl (of_decide_eq_true (by kernel_rfl)) (anOf []) 9 11 (by kernel_rfl) rfl [.tmp 3] (by kernel_rfl) (args := [p0_1, t1_1]) (by rw [e161]; exact H)

/-! spec.grLeads -/
def t162 (P : Program) (g0_1 : Value) (p1_1 : Value) (h : Heap) (K : Value → Heap → Prop) : Prop :=
  eop P (Instr.box 32 g0_1) h fun g2_1 h_1 =>
  pop P (Instr.fieldAt 32 g2_1 0) fun t6_1 =>
  rop P (Instr.loadAt 22 t6_1) h_1 fun t7_1 =>
  pop P (lenS 22 3 t7_1) fun t8_1 =>
  ∃ (I_1 : List Value → Heap → Prop) (μ_1 : List Value → Heap → Nat), I_1 [(Value.int IntKind.i64 0)] h_1 ∧
  ∀ (junk_1 : Nat → Value) (t9_1 : Value) (h_2 : Heap), I_1 [t9_1] h_2 →
  pop P (binA .lss 3 t9_1 t8_1) fun t10_1 =>
  condM t10_1
  (rop P (Instr.loadAt 32 g2_1) h_2 fun t12_1 =>
  callM P 186 #[t12_1, t9_1] h_2 fun t14_1 h_3 =>
  pop P (Instr.indexAt 25 t14_1 p1_1) fun t16_1 =>
  rop P (Instr.loadAt 3 t16_1) h_3 fun t17_1 =>
  pop P (binA .lss 3 t17_1 (Value.int IntKind.i64 0)) fun t18_1 =>
  condM t18_1
  (K (Value.bool false) h_3)
  (pop P (binA .add 3 t9_1 (Value.int IntKind.i64 1)) fun t19_1 =>
  I_1 [t19_1] h_3 ∧ μ_1 [t19_1] h_3 < μ_1 [t9_1] h_2))
  (K (Value.bool true) h_2)
theorem e162 (g0_1 : Value) (p1_1 : Value) (h : Heap) (K : Value → Heap → Prop) : wpA Try.prog 20 (anOf [(26, [9])]) (bodyOf Try.f162) 1 (fun A h => resA Try.prog A h K [.tmp 4]) (fun _ _ _ => False) (fun A h => resA Try.prog A h K [.tmp 4]) (aargs [g0_1, p1_1] 0) h = t162 Try.prog g0_1 p1_1 h K := by kernel_rfl
theorem c162 (g0_1 : Value) (p1_1 : Value) (h : Heap) (K : Value → Heap → Prop) (H : t162 Try.prog g0_1 p1_1 h K) : callM Try.prog 162 #[g0_1, p1_1] h K :=
  callM_of_wpA mixed (fn := Try.f162) Try.func162 (c := bodyOf Try.f162) rfl (of_decide_eq_true (by kernel_rfl)) (anOf [(26, [9])]) 18 20 (by kernel_rfl) rfl [.tmp 4] (by kernel_rfl) (args := [g0_1, p1_1]) (by rw [e162]; exact H)

/-! spec.grGood -/
def t165 (P : Program) (g0_1 : Value) (h : Heap) (K : Value → Heap → Prop) : Prop :=
  eop P (Instr.box 32 g0_1) h fun g1_1 h_1 =>
  pop P (Instr.fieldAt 32 g1_1 0) fun t6_1 =>
  rop P (Instr.loadAt 22 t6_1) h_1 fun t7_1 =>
  pop P (lenS 22 3 t7_1) fun t8_1 =>
  callM P 117 #[t8_1, (Value.int IntKind.i64 1), (Value.int IntKind.i64 8)] h_1 fun t10_1 h_2 =>
  pop P (Op.unary .not t10_1) fun t11_1 =>
  condM t11_1
  (K (Value.bool false) h_2)
  (pop P (Instr.fieldAt 32 g1_1 0) fun t12_1 =>
  rop P (Instr.loadAt 22 t12_1) h_2 fun t13_1 =>
  pop P (lenS 22 3 t13_1) fun t14_1 =>
  ∃ (I_1 : List Value → Heap → Prop) (μ_1 : List Value → Heap → Nat), I_1 [(Value.int IntKind.i64 0)] h_2 ∧
  ∀ (junk_1 : Nat → Value) (t15_1 : Value) (h_3 : Heap), I_1 [t15_1] h_3 →
  pop P (binA .lss 3 t15_1 t14_1) fun t16_1 =>
  condM t16_1
  (pop P (Instr.indexAt 22 t13_1 t15_1) fun t17_1 =>
  rop P (Instr.loadAt 25 t17_1) h_3 fun t18_1 =>
  pop P (lenS 25 3 t18_1) fun t20_1 =>
  pop P (binA .gtr 3 t20_1 (Value.int IntKind.i64 5)) fun t21_1 =>
  guardM t21_1 false (fun k_1 => k_1 t18_1 h_3) h_3 fun t23_1 h_4 =>
  guardM t21_1 false (fun k_2 => k_2 t8_1 h_4) h_4 fun t24_1 h_5 =>
  guardM t21_1 false (fun k_3 => pop P (binA .sub 3 t24_1 (Value.int IntKind.i64 1)) fun t25_1 =>
  k_3 t25_1 h_5) h_5 fun t25_2 h_6 =>
  guardM t21_1 false (fun k_4 => callM P 104 #[t23_1, (Value.int IntKind.i64 0), t25_2] h_6 fun t26_1 h_7 =>
  k_4 t26_1 h_7) h_6 fun t26_2 h_8 =>
  guardM t21_1 false (fun k_5 => pop P (Op.unary .not t26_2) fun t27_1 =>
  k_5 t27_1 h_8) h_8 fun t27_2 h_9 =>
  pop P (pickS t21_1 (Value.bool true) t27_2) fun t28_1 =>
  condM t28_1
  (K (Value.bool false) h_9)
  (pop P (binA .add 3 t15_1 (Value.int IntKind.i64 1)) fun t29_1 =>
  I_1 [t29_1] h_9 ∧ μ_1 [t29_1] h_9 < μ_1 [t15_1] h_3))
  (K (Value.bool true) h_3))
theorem e165 (g0_1 : Value) (h : Heap) (K : Value → Heap → Prop) : wpA Try.prog 30 (anOf [(122, [15])]) (bodyOf Try.f165) 1 (fun A h => resA Try.prog A h K [.tmp 2]) (fun _ _ _ => False) (fun A h => resA Try.prog A h K [.tmp 2]) (aargs [g0_1] 0) h = t165 Try.prog g0_1 h K := by kernel_rfl
theorem c165 (g0_1 : Value) (h : Heap) (K : Value → Heap → Prop) (H : t165 Try.prog g0_1 h K) : callM Try.prog 165 #[g0_1] h K :=
  callM_of_wpA mixed (fn := Try.f165) Try.func165 (c := bodyOf Try.f165) rfl (of_decide_eq_true (by kernel_rfl)) (anOf [(122, [15])]) 29 30 (by kernel_rfl) rfl [.tmp 2] (by kernel_rfl) (args := [g0_1]) (by rw [e165]; exact H)

/-! spec.l1Most -/
def t173 (P : Program) (a0_1 : Value) (b1_1 : Value) (h : Heap) (K : Value → Heap → Prop) : Prop :=
  pop P (binA .gtr 3 a0_1 b1_1) fun t7_1 =>
  condM t7_1
  (K a0_1 h)
  (K b1_1 h)
theorem e173 (a0_1 : Value) (b1_1 : Value) (h : Heap) (K : Value → Heap → Prop) : wpA Try.prog 10 (anOf []) (bodyOf Try.f173) 1 (fun A h => resA Try.prog A h K [.tmp 4]) (fun _ _ _ => False) (fun A h => resA Try.prog A h K [.tmp 4]) (aargs [a0_1, b1_1] 0) h = t173 Try.prog a0_1 b1_1 h K := by kernel_rfl
theorem c173 (a0_1 : Value) (b1_1 : Value) (h : Heap) (K : Value → Heap → Prop) (H : t173 Try.prog a0_1 b1_1 h K) : callM Try.prog 173 #[a0_1, b1_1] h K :=
  callM_of_wpA mixed (fn := Try.f173) Try.func173 (c := bodyOf Try.f173) rfl (of_decide_eq_true (by kernel_rfl)) (anOf []) 8 10 (by kernel_rfl) rfl [.tmp 4] (by kernel_rfl) (args := [a0_1, b1_1]) (by rw [e173]; exact H)

/-! impl.isWalk -/
def t174 (P : Program) (g0_1 : Value) (w1_1 : Value) (h : Heap) (K : Value → Heap → Prop) : Prop :=
  eop P (Instr.box 32 g0_1) h fun g2_1 h_1 =>
  eop P (Instr.box 132 w1_1) h_1 fun w3_1 h_2 =>
  rop P (Instr.loadAt 32 g2_1) h_2 fun t7_1 =>
  pop P (Instr.fieldAt 132 w3_1 1) fun t8_1 =>
  rop P (Instr.loadAt 3 t8_1) h_2 fun t9_1 =>
  eop P (Instr.buildSlice 25 1 #[(0, t9_1)]) h_2 fun t10_1 h_3 =>
  callM P 107 #[t7_1, t10_1] h_3 fun t11_1 h_4 =>
  pop P (Op.unary .not t11_1) fun t12_1 =>
  guardM t12_1 false (fun k_1 => pop P (Instr.fieldAt 132 w3_1 0) fun t14_1 =>
  k_1 t14_1 h_4) h_4 fun t14_2 h_5 =>
  guardM t12_1 false (fun k_2 => rop P (Instr.loadAt 25 t14_2) h_5 fun t15_1 =>
  k_2 t15_1 h_5) h_5 fun t15_2 h_6 =>
  guardM t12_1 false (fun k_3 => pop P (lenS 25 3 t15_2) fun t16_1 =>
  k_3 t16_1 h_6) h_6 fun t16_2 h_7 =>
  guardM t12_1 false (fun k_4 => pop P (Instr.fieldAt 32 g2_1 0) fun t17_1 =>
  k_4 t17_1 h_7) h_7 fun t17_2 h_8 =>
  guardM t12_1 false (fun k_5 => rop P (Instr.loadAt 22 t17_2) h_8 fun t18_1 =>
  k_5 t18_1 h_8) h_8 fun t18_2 h_9 =>
  guardM t12_1 false (fun k_6 => pop P (lenS 22 3 t18_2) fun t19_1 =>
  k_6 t19_1 h_9) h_9 fun t19_2 h_10 =>
  guardM t12_1 false (fun k_7 => pop P (binE .neq 3 (.tmp 16) (.tmp 19) t16_2 t19_2) fun t20_1 =>
  k_7 t20_1 h_10) h_10 fun t20_2 h_11 =>
  pop P (pickS t12_1 (Value.bool true) t20_2) fun t21_1 =>
  condM t21_1
  (K (Value.bool false) h_11)
  (pop P (Instr.fieldAt 132 w3_1 0) fun t22_1 =>
  rop P (Instr.loadAt 25 t22_1) h_11 fun t23_1 =>
  pop P (lenS 25 3 t23_1) fun t24_1 =>
  ∃ (I_1 : List Value → Heap → Prop) (μ_1 : List Value → Heap → Nat), I_1 [(Value.int IntKind.i64 0)] h_11 ∧
  ∀ (junk_1 : Nat → Value) (t25_1 : Value) (h_12 : Heap), I_1 [t25_1] h_12 →
  pop P (binA .lss 3 t25_1 t24_1) fun t26_1 =>
  condM t26_1
  (pop P (Instr.indexAt 25 t23_1 t25_1) fun t28_1 =>
  rop P (Instr.loadAt 3 t28_1) h_12 fun t29_1 =>
  pop P (Instr.fieldAt 32 g2_1 0) fun t31_1 =>
  rop P (Instr.loadAt 22 t31_1) h_12 fun t32_1 =>
  pop P (Instr.indexAt 22 t32_1 t25_1) fun t34_1 =>
  rop P (Instr.loadAt 25 t34_1) h_12 fun t35_1 =>
  pop P (lenS 25 3 t35_1) fun t36_1 =>
  pop P (binA .sub 3 t36_1 (Value.int IntKind.i64 1)) fun t37_1 =>
  pop P (Builtin.max_ #[3, 3] 3 #[t37_1, (Value.int IntKind.i64 0)]) fun t38_1 =>
  callM P 113 #[t29_1, (Value.int IntKind.i64 0), t38_1] h_12 fun t39_1 h_13 =>
  pop P (Op.unary .not t39_1) fun t40_1 =>
  condM t40_1
  (K (Value.bool false) h_13)
  (pop P (binA .add 3 t25_1 (Value.int IntKind.i64 1)) fun t41_1 =>
  I_1 [t41_1] h_13 ∧ μ_1 [t41_1] h_13 < μ_1 [t25_1] h_12))
  (K (Value.bool true) h_12))
theorem e174 (g0_1 : Value) (w1_1 : Value) (h : Heap) (K : Value → Heap → Prop) : wpA Try.prog 42 (anOf [(58, [25])]) (bodyOf Try.f174) 1 (fun A h => resA Try.prog A h K [.tmp 4]) (fun _ _ _ => False) (fun A h => resA Try.prog A h K [.tmp 4]) (aargs [g0_1, w1_1] 0) h = t174 Try.prog g0_1 w1_1 h K := by kernel_rfl
theorem c174 (g0_1 : Value) (w1_1 : Value) (h : Heap) (K : Value → Heap → Prop) (H : t174 Try.prog g0_1 w1_1 h K) : callM Try.prog 174 #[g0_1, w1_1] h K :=
  callM_of_wpA mixed (fn := Try.f174) Try.func174 (c := bodyOf Try.f174) rfl (of_decide_eq_true (by kernel_rfl)) (anOf [(58, [25])]) 40 42 (by kernel_rfl) rfl [.tmp 4] (by kernel_rfl) (args := [g0_1, w1_1]) (by rw [e174]; exact H)

/-! impl.areChips$1 -/
def t175 (P : Program) (n0_1 : Value) (h : Heap) (K : Value → Heap → Prop) : Prop :=
  callM P 113 #[n0_1, (Value.int IntKind.i64 0), (Value.int IntKind.i64 20)] h fun t4_1 h_1 =>
  pop P (Op.unary .not t4_1) fun t5_1 =>
  K t5_1 h_1
theorem e175 (n0_1 : Value) (h : Heap) (K : Value → Heap → Prop) : wpA Try.prog 6 (anOf []) (bodyOf Try.f175) 1 (fun A h => resA Try.prog A h K [.tmp 2]) (fun _ _ _ => False) (fun A h => resA Try.prog A h K [.tmp 2]) (aargs [n0_1] 0) h = t175 Try.prog n0_1 h K := by kernel_rfl
theorem c175 (n0_1 : Value) (h : Heap) (K : Value → Heap → Prop) (H : t175 Try.prog n0_1 h K) : callM Try.prog 175 #[n0_1] h K :=
  callM_of_wpA mixed (fn := Try.f175) Try.func175 (c := bodyOf Try.f175) rfl (of_decide_eq_true (by kernel_rfl)) (anOf []) 5 6 (by kernel_rfl) rfl [.tmp 2] (by kernel_rfl) (args := [n0_1]) (by rw [e175]; exact H)

/-! (impl.Graph).step -/
def t176 (P : Program) (g0_1 : Value) (w1_1 : Value) (h : Heap) (K : Value → Heap → Prop) : Prop :=
  eop P (Instr.box 32 g0_1) h fun g2_1 h_1 =>
  pop P (Instr.fieldAt 32 g2_1 0) fun t6_1 =>
  rop P (Instr.loadAt 22 t6_1) h_1 fun t7_1 =>
  pop P (nilS w1_1) fun t9_1 =>
  pop P (Instr.fieldAt 132 t9_1 1) fun t10_1 =>
  rop P (Instr.loadAt 3 t10_1) h_1 fun t11_1 =>
  pop P (Instr.indexAt 22 t7_1 t11_1) fun t12_1 =>
  rop P (Instr.loadAt 25 t12_1) h_1 fun t13_1 =>
  pop P (lenS 25 3 t13_1) fun t15_1 =>
  pop P (binE .eql 3 (.tmp 15) (.const (Value.int IntKind.i64 0)) t15_1 (Value.int IntKind.i64 0)) fun t16_1 =>
  condM t16_1
  (K (Value.bool false) h_1)
  (pop P (nilS w1_1) fun t18_1 =>
  pop P (Instr.fieldAt 132 t18_1 0) fun t19_1 =>
  rop P (Instr.loadAt 25 t19_1) h_1 fun t20_1 =>
  pop P (nilS w1_1) fun t22_1 =>
  pop P (Instr.fieldAt 132 t22_1 1) fun t23_1 =>
  rop P (Instr.loadAt 3 t23_1) h_1 fun t24_1 =>
  pop P (nilS w1_1) fun t26_1 =>
  pop P (Instr.fieldAt 132 t26_1 0) fun t27_1 =>
  rop P (Instr.loadAt 25 t27_1) h_1 fun t28_1 =>
  pop P (nilS w1_1) fun t30_1 =>
  pop P (Instr.fieldAt 132 t30_1 1) fun t31_1 =>
  rop P (Instr.loadAt 3 t31_1) h_1 fun t32_1 =>
  pop P (Instr.indexAt 25 t28_1 t32_1) fun t33_1 =>
  rop P (Instr.loadAt 3 t33_1) h_1 fun t34_1 =>
  pop P (binA .add 3 t34_1 (Value.int IntKind.i64 1)) fun t35_1 =>
  pop P (lenS 25 3 t13_1) fun t37_1 =>
  pop P (binA .rem 3 t35_1 t37_1) fun t38_1 =>
  pop P (Instr.indexAt 25 t20_1 t24_1) fun t39_1 =>
  uop P (Instr.storeAt 3 t39_1 t38_1) h_1 fun u_1 h_2 =>
  pop P (nilS w1_1) fun t43_1 =>
  pop P (Instr.fieldAt 132 t43_1 0) fun t44_1 =>
  rop P (Instr.loadAt 25 t44_1) h_2 fun t45_1 =>
  pop P (nilS w1_1) fun t47_1 =>
  pop P (Instr.fieldAt 132 t47_1 1) fun t48_1 =>
  rop P (Instr.loadAt 3 t48_1) h_2 fun t49_1 =>
  pop P (Instr.indexAt 25 t45_1 t49_1) fun t50_1 =>
  rop P (Instr.loadAt 3 t50_1) h_2 fun t51_1 =>
  pop P (Instr.indexAt 25 t13_1 t51_1) fun t52_1 =>
  rop P (Instr.loadAt 3 t52_1) h_2 fun t53_1 =>
  pop P (nilS w1_1) fun t54_1 =>
  pop P (Instr.fieldAt 132 t54_1 1) fun t55_1 =>
  uop P (Instr.storeAt 3 t55_1 t53_1) h_2 fun u_2 h_3 =>
  K (Value.bool true) h_3)
theorem e176 (g0_1 : Value) (w1_1 : Value) (h : Heap) (K : Value → Heap → Prop) : wpA Try.prog 56 (anOf []) (bodyOf Try.f176) 1 (fun A h => resA Try.prog A h K [.tmp 4]) (fun _ _ _ => False) (fun A h => resA Try.prog A h K [.tmp 4]) (aargs [g0_1, w1_1] 0) h = t176 Try.prog g0_1 w1_1 h K := by kernel_rfl
theorem c176 (g0_1 : Value) (w1_1 : Value) (h : Heap) (K : Value → Heap → Prop) (H : t176 Try.prog g0_1 w1_1 h K) : callM Try.prog 176 #[g0_1, w1_1] h K :=
  callM_of_wpA mixed (fn := Try.f176) Try.func176 (c := bodyOf Try.f176) rfl (of_decide_eq_true (by kernel_rfl)) (anOf []) 54 56 (by kernel_rfl) rfl [.tmp 4] (by kernel_rfl) (args := [g0_1, w1_1]) (by rw [e176]; exact H)

/-! spec.grFar -/
def t186 (P : Program) (g0_1 : Value) (p1_1 : Value) (h : Heap) (K : Value → Heap → Prop) : Prop :=
  eop P (Instr.box 32 g0_1) h fun g2_1 h_1 =>
  pop P (Instr.fieldAt 32 g2_1 0) fun t11_1 =>
  rop P (Instr.loadAt 22 t11_1) h_1 fun t12_1 =>
  pop P (lenS 22 3 t12_1) fun t13_1 =>
  eop P (Instr.makeSlice 25 t13_1 t13_1) h_1 fun t14_1 h_2 =>
  pop P (lenS 25 3 t14_1) fun t16_1 =>
  ∃ (I_1 : List Value → Heap → Prop) (μ_1 : List Value → Heap → Nat), I_1 [(Value.int IntKind.i64 0)] h_2 ∧
  ∀ (junk_1 : Nat → Value) (t17_1 : Value) (h_3 : Heap), I_1 [t17_1] h_3 →
  pop P (binA .lss 3 t17_1 t16_1) fun t18_1 =>
  condM t18_1
  (pop P (Instr.indexAt 25 t14_1 t17_1) fun t22_1 =>
  uop P (Instr.storeAt 3 t22_1 (Value.int IntKind.i64 (-1))) h_3 fun u_1 h_4 =>
  pop P (binA .add 3 t17_1 (Value.int IntKind.i64 1)) fun t23_1 =>
  I_1 [t23_1] h_4 ∧ μ_1 [t23_1] h_4 < μ_1 [t17_1] h_3)
  (pop P (Instr.indexAt 25 t14_1 p1_1) fun t26_1 =>
  uop P (Instr.storeAt 3 t26_1 (Value.int IntKind.i64 0)) h_3 fun u_2 h_5 =>
  eop P (Instr.buildSlice 25 1 #[(0, p1_1)]) h_5 fun t28_1 h_6 =>
  ∃ (I_2 : List Value → Heap → Prop) (μ_2 : List Value → Heap → Nat), I_2 [t28_1, (Value.int IntKind.i64 0)] h_6 ∧
  ∀ (junk_2 : Nat → Value) (queue7_1 : Value) (k8_1 : Value) (h_7 : Heap), I_2 [queue7_1, k8_1] h_7 →
  pop P (lenS 25 3 queue7_1) fun t31_1 =>
  pop P (binA .lss 3 k8_1 t31_1) fun t32_1 =>
  condM t32_1
  (pop P (Instr.fieldAt 32 g2_1 0) fun t35_1 =>
  rop P (Instr.loadAt 22 t35_1) h_7 fun t36_1 =>
  pop P (Instr.indexAt 25 queue7_1 k8_1) fun t39_1 =>
  rop P (Instr.loadAt 3 t39_1) h_7 fun t40_1 =>
  pop P (Instr.indexAt 22 t36_1 t40_1) fun t41_1 =>
  rop P (Instr.loadAt 25 t41_1) h_7 fun t42_1 =>
  pop P (lenS 25 3 t42_1) fun t43_1 =>
  ∃ (I_3 : List Value → Heap → Prop) (μ_3 : List Value → Heap → Nat), I_3 [queue7_1, (Value.int IntKind.i64 0)] h_7 ∧
  ∀ (junk_3 : Nat → Value) (queue7_2 : Value) (t44_1 : Value) (h_8 : Heap), I_3 [queue7_2, t44_1] h_8 →
  pop P (binA .lss 3 t44_1 t43_1) fun t45_1 =>
  condM t45_1
  (pop P (Instr.indexAt 25 t42_1 t44_1) fun t46_1 =>
  rop P (Instr.loadAt 3 t46_1) h_8 fun t47_1 =>
  pop P (Instr.indexAt 25 t14_1 t47_1) fun t50_1 =>
  rop P (Instr.loadAt 3 t50_1) h_8 fun t51_1 =>
  pop P (binA .lss 3 t51_1 (Value.int IntKind.i64 0)) fun t52_1 =>
  condM t52_1
  (pop P (Instr.indexAt 25 queue7_2 k8_1) fun t58_1 =>
  rop P (Instr.loadAt 3 t58_1) h_8 fun t59_1 =>
  pop P (Instr.indexAt 25 t14_1 t59_1) fun t60_1 =>
  rop P (Instr.loadAt 3 t60_1) h_8 fun t61_1 =>
  pop P (binA .add 3 t61_1 (Value.int IntKind.i64 1)) fun t62_1 =>
  pop P (Instr.indexAt 25 t14_1 t47_1) fun t63_1 =>
  uop P (Instr.storeAt 3 t63_1 t62_1) h_8 fun u_3 h_9 =>
  eop P (Instr.buildSlice 25 1 #[(0, t47_1)]) h_9 fun t66_1 h_10 =>
  eop P (appS 25 25 25 queue7_2 t66_1) h_10 fun t67_1 h_11 =>
  pop P (binA .add 3 t44_1 (Value.int IntKind.i64 1)) fun t68_1 =>
  I_3 [t67_1, t68_1] h_11 ∧ μ_3 [t67_1, t68_1] h_11 < μ_3 [queue7_2, t44_1] h_8)
  (pop P (binA .add 3 t44_1 (Value.int IntKind.i64 1)) fun t68_2 =>
  I_3 [queue7_2, t68_2] h_8 ∧ μ_3 [queue7_2, t68_2] h_8 < μ_3 [queue7_2, t44_1] h_8))
  (pop P (binA .add 3 k8_1 (Value.int IntKind.i64 1)) fun t34_1 =>
  I_2 [queue7_2, t34_1] h_8 ∧ μ_2 [queue7_2, t34_1] h_8 < μ_2 [queue7_1, k8_1] h_7))
  (K t14_1 h_7))
theorem e186 (g0_1 : Value) (p1_1 : Value) (h : Heap) (K : Value → Heap → Prop) : wpA Try.prog 70 (anOf [(58, [17]), (506, [7, 8]), (32402, [7, 44])]) (bodyOf Try.f186) 1 (fun A h => resA Try.prog A h K [.tmp 4]) (fun _ _ _ => False) (fun A h => resA Try.prog A h K [.tmp 4]) (aargs [g0_1, p1_1] 0) h = t186 Try.prog g0_1 p1_1 h K := by kernel_rfl
theorem c186 (g0_1 : Value) (p1_1 : Value) (h : Heap) (K : Value → Heap → Prop) (H : t186 Try.prog g0_1 p1_1 h K) : callM Try.prog 186 #[g0_1, p1_1] h K :=
  callM_of_wpA mixed (fn := Try.f186) Try.func186 (c := bodyOf Try.f186) rfl (of_decide_eq_true (by kernel_rfl)) (anOf [(58, [17]), (506, [7, 8]), (32402, [7, 44])]) 68 70 (by kernel_rfl) rfl [.tmp 4] (by kernel_rfl) (args := [g0_1, p1_1]) (by rw [e186]; exact H)

/-! (impl.Graph).lengths -/
def t187 (P : Program) (g0_1 : Value) (p1_1 : Value) (h : Heap) (K : Value → Heap → Prop) : Prop :=
  eop P (Instr.box 32 g0_1) h fun g2_1 h_1 =>
  eop P (Instr.buildSlice 25 1 #[(0, (Value.int IntKind.i64 (-1)))]) h_1 fun t9_1 h_2 =>
  pop P (Instr.fieldAt 32 g2_1 0) fun t10_1 =>
  rop P (Instr.loadAt 22 t10_1) h_2 fun t11_1 =>
  pop P (lenS 22 3 t11_1) fun t12_1 =>
  callM P 197 #[t9_1, t12_1] h_2 fun t13_1 h_3 =>
  pop P (Instr.indexAt 25 t13_1 p1_1) fun t16_1 =>
  uop P (Instr.storeAt 3 t16_1 (Value.int IntKind.i64 0)) h_3 fun u_1 h_4 =>
  eop P (Instr.buildSlice 25 1 #[(0, p1_1)]) h_4 fun t18_1 h_5 =>
  ∃ (I_1 : List Value → Heap → Prop) (μ_1 : List Value → Heap → Nat), I_1 [t18_1] h_5 ∧
  ∀ (junk_1 : Nat → Value) (list6_1 : Value) (h_6 : Heap), I_1 [list6_1] h_6 →
  pop P (lenS 25 3 list6_1) fun t20_1 =>
  pop P (binA .gtr 3 t20_1 (Value.int IntKind.i64 0)) fun t21_1 =>
  condM t21_1
  (pop P (Instr.fieldAt 32 g2_1 0) fun t24_1 =>
  rop P (Instr.loadAt 22 t24_1) h_6 fun t25_1 =>
  pop P (Instr.indexAt 25 list6_1 (Value.int IntKind.i64 0)) fun t27_1 =>
  rop P (Instr.loadAt 3 t27_1) h_6 fun t28_1 =>
  pop P (Instr.indexAt 22 t25_1 t28_1) fun t29_1 =>
  rop P (Instr.loadAt 25 t29_1) h_6 fun t30_1 =>
  pop P (lenS 25 3 t30_1) fun t31_1 =>
  ∃ (I_2 : List Value → Heap → Prop) (μ_2 : List Value → Heap → Nat), I_2 [list6_1, (Value.int IntKind.i64 0)] h_6 ∧
  ∀ (junk_2 : Nat → Value) (list6_2 : Value) (t32_1 : Value) (h_7 : Heap), I_2 [list6_2, t32_1] h_7 →
  pop P (binA .lss 3 t32_1 t31_1) fun t33_1 =>
  condM t33_1
  (pop P (Instr.indexAt 25 t30_1 t32_1) fun t34_1 =>
  rop P (Instr.loadAt 3 t34_1) h_7 fun t35_1 =>
  pop P (Instr.indexAt 25 t13_1 t35_1) fun t38_1 =>
  rop P (Instr.loadAt 3 t38_1) h_7 fun t39_1 =>
  pop P (binA .lss 3 t39_1 (Value.int IntKind.i64 0)) fun t40_1 =>
  condM t40_1
  (pop P (Instr.indexAt 25 list6_2 (Value.int IntKind.i64 0)) fun t45_1 =>
  rop P (Instr.loadAt 3 t45_1) h_7 fun t46_1 =>
  pop P (Instr.indexAt 25 t13_1 t46_1) fun t47_1 =>
  rop P (Instr.loadAt 3 t47_1) h_7 fun t48_1 =>
  pop P (binA .add 3 t48_1 (Value.int IntKind.i64 1)) fun t49_1 =>
  pop P (Instr.indexAt 25 t13_1 t35_1) fun t50_1 =>
  uop P (Instr.storeAt 3 t50_1 t49_1) h_7 fun u_2 h_8 =>
  eop P (Instr.buildSlice 25 1 #[(0, t35_1)]) h_8 fun t53_1 h_9 =>
  eop P (appS 25 25 25 list6_2 t53_1) h_9 fun t54_1 h_10 =>
  pop P (binA .add 3 t32_1 (Value.int IntKind.i64 1)) fun t55_1 =>
  I_2 [t54_1, t55_1] h_10 ∧ μ_2 [t54_1, t55_1] h_10 < μ_2 [list6_2, t32_1] h_7)
  (pop P (binA .add 3 t32_1 (Value.int IntKind.i64 1)) fun t55_2 =>
  I_2 [list6_2, t55_2] h_7 ∧ μ_2 [list6_2, t55_2] h_7 < μ_2 [list6_2, t32_1] h_7))
  (pop P (Instr.sliceAt 25 list6_2 (some (Value.int IntKind.i64 1)) none none) fun t23_1 =>
  I_1 [t23_1] h_7 ∧ μ_1 [t23_1] h_7 < μ_1 [list6_1] h_6))
  (K t13_1 h_6)
theorem e187 (g0_1 : Value) (p1_1 : Value) (h : Heap) (K : Value → Heap → Prop) : wpA Try.prog 57 (anOf [(122, [6]), (7826, [6, 32])]) (bodyOf Try.f187) 1 (fun A h => resA Try.prog A h K [.tmp 4]) (fun _ _ _ => False) (fun A h => resA Try.prog A h K [.tmp 4]) (aargs [g0_1, p1_1] 0) h = t187 Try.prog g0_1 p1_1 h K := by kernel_rfl
theorem c187 (g0_1 : Value) (p1_1 : Value) (h : Heap) (K : Value → Heap → Prop) (H : t187 Try.prog g0_1 p1_1 h K) : callM Try.prog 187 #[g0_1, p1_1] h K :=
  callM_of_wpA mixed (fn := Try.f187) Try.func187 (c := bodyOf Try.f187) rfl (of_decide_eq_true (by kernel_rfl)) (anOf [(122, [6]), (7826, [6, 32])]) 55 57 (by kernel_rfl) rfl [.tmp 4] (by kernel_rfl) (args := [g0_1, p1_1]) (by rw [e187]; exact H)

/-! slices.Repeat[[]int,int] -/
def t197 (P : Program) (x0_1 : Value) (count1_1 : Value) (h : Heap) (K : Value → Heap → Prop) : Prop :=
  ∃ J_1 : List Value → Heap → Prop, (pop P (binA .lss 3 count1_1 (Value.int IntKind.i64 0)) fun t10_1 =>
  condM t10_1
  (pop P (Instr.makeInterface 9 (Value.string { data := #[99, 97, 110, 110, 111, 116, 32, 98, 101, 32, 110, 101, 103, 97, 116, 105, 118, 101] })) fun t11_1 =>
  False)
  (J_1 [] h)) ∧
  ∀ (junk_1 : Nat → Value) (h_1 : Heap), J_1 [] h_1 →
  pop P (lenS 25 3 x0_1) fun t14_1 =>
  rop P (convert 3 170 t14_1) h_1 fun t15_1 =>
  rop P (convert 3 170 count1_1) h_1 fun t17_1 =>
  callM P 211 #[t15_1, t17_1] h_1 fun t18_1 h_2 =>
  pop P (Instr.extract t18_1 0) fun t19_1 =>
  pop P (Instr.extract t18_1 1) fun t20_1 =>
  ∃ J_2 : List Value → Heap → Prop, (pop P (binA .gtr 170 t19_1 (Value.int IntKind.u64 0)) fun t22_1 =>
  guardM t22_1 false (fun k_1 => k_1 t20_1 h_2) h_2 fun t24_1 h_3 =>
  guardM t22_1 false (fun k_2 => pop P (binA .gtr 170 t24_1 (Value.int IntKind.u64 9223372036854775807)) fun t25_1 =>
  k_2 t25_1 h_3) h_3 fun t25_2 h_4 =>
  pop P (pickS t22_1 (Value.bool true) t25_2) fun t26_1 =>
  condM t26_1
  (pop P (Instr.makeInterface 9 (Value.string { data := #[116, 104, 101, 32, 114, 101, 115, 117, 108, 116, 32, 111, 102, 32, 40, 108, 101, 110, 40, 120, 41, 32, 42, 32, 99, 111, 117, 110, 116, 41, 32, 111, 118, 101, 114, 102, 108, 111, 119, 115] })) fun t27_1 =>
  False)
  (J_2 [] h_4)) ∧
  ∀ (junk_2 : Nat → Value) (h_5 : Heap), J_2 [] h_5 →
  rop P (convert 170 3 t20_1) h_5 fun t29_1 =>
  eop P (Instr.makeSlice 25 t29_1 t29_1) h_5 fun t30_1 h_6 =>
  eop P (Builtin.copy_ #[25, 25] 3 #[t30_1, x0_1]) h_6 fun t33_1 h_7 =>
  ∃ (I_1 : List Value → Heap → Prop) (μ_1 : List Value → Heap → Nat), I_1 [t33_1] h_7 ∧
  ∀ (junk_3 : Nat → Value) (n8_1 : Value) (h_8 : Heap), I_1 [n8_1] h_8 →
  pop P (lenS 25 3 t30_1) fun t36_1 =>
  pop P (binA .lss 3 n8_1 t36_1) fun t37_1 =>
  condM t37_1
  (pop P (Instr.sliceAt 25 t30_1 (some n8_1) none none) fun t41_1 =>
  pop P (Instr.sliceAt 25 t30_1 none (some n8_1) none) fun t44_1 =>
  eop P (Builtin.copy_ #[25, 25] 3 #[t41_1, t44_1]) h_8 fun t45_1 h_9 =>
  pop P (binA .add 3 n8_1 t45_1) fun t46_1 =>
  I_1 [t46_1] h_9 ∧ μ_1 [t46_1] h_9 < μ_1 [n8_1] h_8)
  (K t30_1 h_8)
theorem e197 (x0_1 : Value) (count1_1 : Value) (h : Heap) (K : Value → Heap → Prop) : wpA Try.prog 48 (anOf [(3, []), (15, []), (508, [8])]) (bodyOf Try.f197) 1 (fun A h => resA Try.prog A h K [.tmp 4]) (fun _ _ _ => False) (fun A h => resA Try.prog A h K [.tmp 4]) (aargs [x0_1, count1_1] 0) h = t197 Try.prog x0_1 count1_1 h K := by kernel_rfl
theorem c197 (x0_1 : Value) (count1_1 : Value) (h : Heap) (K : Value → Heap → Prop) (H : t197 Try.prog x0_1 count1_1 h K) : callM Try.prog 197 #[x0_1, count1_1] h K :=
  callM_of_wpA mixed (fn := Try.f197) Try.func197 (c := bodyOf Try.f197) rfl (of_decide_eq_true (by kernel_rfl)) (anOf [(3, []), (15, []), (508, [8])]) 46 48 (by kernel_rfl) rfl [.tmp 4] (by kernel_rfl) (args := [x0_1, count1_1]) (by rw [e197]; exact H)

/-! math/bits.Mul -/
def t211 (P : Program) (x0_1 : Value) (y1_1 : Value) (h : Heap) (K : Value → Heap → Prop) : Prop :=
  condM (Value.bool false)
  (rop P (convert 170 184 x0_1) h fun t12_1 =>
  rop P (convert 170 184 y1_1) h fun t14_1 =>
  callM P 218 #[t12_1, t14_1] h fun t15_1 h_1 =>
  pop P (Instr.extract t15_1 0) fun t16_1 =>
  pop P (Instr.extract t15_1 1) fun t17_1 =>
  rop P (convert 184 170 t16_1) h_1 fun t19_1 =>
  rop P (convert 184 170 t17_1) h_1 fun t21_1 =>
  K (.tuple #[t19_1, t21_1]) h_1)
  (callM P 219 #[x0_1, y1_1] h fun t25_1 h_2 =>
  pop P (Instr.extract t25_1 0) fun t26_1 =>
  pop P (Instr.extract t25_1 1) fun t27_1 =>
  K (.tuple #[t26_1, t27_1]) h_2)
theorem e211 (x0_1 : Value) (y1_1 : Value) (h : Heap) (K : Value → Heap → Prop) : wpA Try.prog 30 (anOf []) (bodyOf Try.f211) 1 (fun A h => resA Try.prog A h K [.tmp 4, .tmp 5]) (fun _ _ _ => False) (fun A h => resA Try.prog A h K [.tmp 4, .tmp 5]) (aargs [x0_1, y1_1] 0) h = t211 Try.prog x0_1 y1_1 h K := by kernel_rfl
theorem c211 (x0_1 : Value) (y1_1 : Value) (h : Heap) (K : Value → Heap → Prop) (H : t211 Try.prog x0_1 y1_1 h K) : callM Try.prog 211 #[x0_1, y1_1] h K :=
  callM_of_wpA mixed (fn := Try.f211) Try.func211 (c := bodyOf Try.f211) rfl (of_decide_eq_true (by kernel_rfl)) (anOf []) 28 30 (by kernel_rfl) rfl [.tmp 4, .tmp 5] (by kernel_rfl) (args := [x0_1, y1_1]) (by rw [e211]; exact H)

/-! math/bits.Mul32 -/
def t218 (P : Program) (x0_1 : Value) (y1_1 : Value) (h : Heap) (K : Value → Heap → Prop) : Prop :=
  rop P (convert 184 107 x0_1) h fun t8_1 =>
  rop P (convert 184 107 y1_1) h fun t10_1 =>
  pop P (binA .mul 107 t8_1 t10_1) fun t11_1 =>
  pop P (binA .shr 107 t11_1 (Value.int IntKind.u64 32)) fun t13_1 =>
  rop P (convert 107 184 t13_1) h fun t14_1 =>
  rop P (convert 107 184 t11_1) h fun t16_1 =>
  K (.tuple #[t14_1, t16_1]) h
theorem e218 (x0_1 : Value) (y1_1 : Value) (h : Heap) (K : Value → Heap → Prop) : wpA Try.prog 17 (anOf []) (bodyOf Try.f218) 1 (fun A h => resA Try.prog A h K [.tmp 4, .tmp 5]) (fun _ _ _ => False) (fun A h => resA Try.prog A h K [.tmp 4, .tmp 5]) (aargs [x0_1, y1_1] 0) h = t218 Try.prog x0_1 y1_1 h K := by kernel_rfl
theorem c218 (x0_1 : Value) (y1_1 : Value) (h : Heap) (K : Value → Heap → Prop) (H : t218 Try.prog x0_1 y1_1 h K) : callM Try.prog 218 #[x0_1, y1_1] h K :=
  callM_of_wpA mixed (fn := Try.f218) Try.func218 (c := bodyOf Try.f218) rfl (of_decide_eq_true (by kernel_rfl)) (anOf []) 15 17 (by kernel_rfl) rfl [.tmp 4, .tmp 5] (by kernel_rfl) (args := [x0_1, y1_1]) (by rw [e218]; exact H)

/-! math/bits.Mul64 -/
def t219 (P : Program) (x0_1 : Value) (y1_1 : Value) (h : Heap) (K : Value → Heap → Prop) : Prop :=
  pop P (binA .and 107 x0_1 (Value.int IntKind.u64 4294967295)) fun t15_1 =>
  pop P (binA .shr 107 x0_1 (Value.int IntKind.u64 32)) fun t17_1 =>
  pop P (binA .and 107 y1_1 (Value.int IntKind.u64 4294967295)) fun t19_1 =>
  pop P (binA .shr 107 y1_1 (Value.int IntKind.u64 32)) fun t21_1 =>
  pop P (binA .mul 107 t15_1 t19_1) fun t24_1 =>
  pop P (binA .mul 107 t17_1 t19_1) fun t27_1 =>
  pop P (binA .shr 107 t24_1 (Value.int IntKind.u64 32)) fun t29_1 =>
  pop P (binA .add 107 t27_1 t29_1) fun t30_1 =>
  pop P (binA .and 107 t30_1 (Value.int IntKind.u64 4294967295)) fun t32_1 =>
  pop P (binA .shr 107 t30_1 (Value.int IntKind.u64 32)) fun t34_1 =>
  pop P (binA .mul 107 t15_1 t21_1) fun t38_1 =>
  pop P (binA .add 107 t32_1 t38_1) fun t39_1 =>
  pop P (binA .mul 107 t17_1 t21_1) fun t42_1 =>
  pop P (binA .add 107 t42_1 t34_1) fun t44_1 =>
  pop P (binA .shr 107 t39_1 (Value.int IntKind.u64 32)) fun t46_1 =>
  pop P (binA .add 107 t44_1 t46_1) fun t47_1 =>
  pop P (binA .mul 107 x0_1 y1_1) fun t50_1 =>
  K (.tuple #[t47_1, t50_1]) h
theorem e219 (x0_1 : Value) (y1_1 : Value) (h : Heap) (K : Value → Heap → Prop) : wpA Try.prog 51 (anOf []) (bodyOf Try.f219) 1 (fun A h => resA Try.prog A h K [.tmp 4, .tmp 5]) (fun _ _ _ => False) (fun A h => resA Try.prog A h K [.tmp 4, .tmp 5]) (aargs [x0_1, y1_1] 0) h = t219 Try.prog x0_1 y1_1 h K := by kernel_rfl
theorem c219 (x0_1 : Value) (y1_1 : Value) (h : Heap) (K : Value → Heap → Prop) (H : t219 Try.prog x0_1 y1_1 h K) : callM Try.prog 219 #[x0_1, y1_1] h K :=
  callM_of_wpA mixed (fn := Try.f219) Try.func219 (c := bodyOf Try.f219) rfl (of_decide_eq_true (by kernel_rfl)) (anOf []) 49 51 (by kernel_rfl) rfl [.tmp 4, .tmp 5] (by kernel_rfl) (args := [x0_1, y1_1]) (by rw [e219]; exact H)

end Go.Proofs.Ytbhnecochpehdaa
