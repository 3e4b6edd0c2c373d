/-
  What each function that the law 'FnExactTurnExits' comes to asks of the heap, named; tied to the loaded program by the kernel. Written by a program.
-/
import Derived.Test.YtkphbhochacllaaProg
import Derived.Test.YtkphbhochacllaaM1
set_option linter.unusedVariables false
namespace Go.Proofs.Ytkphbhochacllaa
open Go Go.Mx
theorem mixed : Try.prog.follows .mixedOrders = true := by kernel_rfl
/-! laws.FnExactTurnExits -/
def t6 (P : Program) (aG0_1 : Value) (aP1_1 : Value) (aK2_1 : Value) (h : Heap) (K : Value → Heap → Prop) : Prop :=
  eop P (Instr.box 34 aG0_1) h fun aG3_1 h_1 =>
  rop P (Instr.loadAt 34 aG3_1) h_1 fun t18_1 =>
  callM P 24 #[t18_1, (Value.int IntKind.i64 1048576)] h_1 fun t20_1 h_2 =>
  pop P (binA .lss 3 t20_1 (Value.int IntKind.i64 0)) fun t22_1 =>
  condM t22_1
  (K (Value.bool true) h_2)
  (rop P (Instr.loadAt 34 aG3_1) h_2 fun t24_1 =>
  callM P 26 #[t24_1] h_2 fun t25_1 h_3 =>
  callM P 31 #[t25_1, aP1_1, aK2_1] h_3 fun t28_1 h_4 =>
  pop P (Instr.extract t28_1 0) fun t29_1 =>
  pop P (Instr.extract t28_1 1) fun t30_1 =>
  eop P (Instr.alloc 24 true (.tuple #[])) h_4 fun w08_1 h_5 =>
  uop P (Instr.storeAt 24 w08_1 t29_1) h_5 fun u_1 h_6 =>
  rop P (Instr.loadAt 34 aG3_1) h_6 fun t31_1 =>
  callM P 26 #[t31_1] h_6 fun t32_1 h_7 =>
  eop P (Instr.alloc 24 true (.tuple #[])) h_7 fun x010_1 h_8 =>
  uop P (Instr.storeAt 24 x010_1 t32_1) h_8 fun u_2 h_9 =>
  rop P (Instr.loadAt 24 x010_1) h_9 fun t34_1 =>
  callM P 32 #[t34_1, aP1_1, aK2_1] h_9 fun t37_1 h_10 =>
  pop P (Instr.extract t37_1 0) fun t38_1 =>
  pop P (Instr.extract t37_1 1) fun t39_1 =>
  eop P (Instr.alloc 24 true (.tuple #[])) h_10 fun g011_1 h_11 =>
  uop P (Instr.storeAt 24 g011_1 t38_1) h_11 fun u_3 h_12 =>
  rop P (Instr.loadAt 24 g011_1) h_12 fun t40_1 =>
  rop P (Instr.loadAt 24 w08_1) h_12 fun t41_1 =>
  callM P 28 #[t40_1, t41_1] h_12 fun t42_1 h_13 =>
  pop P (Op.unary .not t42_1) fun t43_1 =>
  guardM t43_1 false (fun k_1 => k_1 t39_1 h_13) h_13 fun t45_1 h_14 =>
  guardM t43_1 false (fun k_2 => k_2 t30_1 h_14) h_14 fun t46_1 h_15 =>
  guardM t43_1 false (fun k_3 => pop P (binE .neq 4 (.tmp 45) (.tmp 46) t45_1 t46_1) fun t47_1 =>
  k_3 t47_1 h_15) h_15 fun t47_2 h_16 =>
  pop P (pickS t43_1 (Value.bool true) t47_2) fun t48_1 =>
  condM t48_1
  (K (Value.bool false) h_16)
  (rop P (Instr.loadAt 24 x010_1) h_16 fun t49_1 =>
  rop P (Instr.loadAt 34 aG3_1) h_16 fun t50_1 =>
  callM P 26 #[t50_1] h_16 fun t51_1 h_17 =>
  (∀ w : World, w.heap = h_17 → (Instr.loadAt 24 x010_1).run P w = .ok t49_1 w) ∧
  callM P 28 #[t49_1, t51_1] h_17 fun t52_1 h_18 =>
  pop P (Op.unary .not t52_1) fun t53_1 =>
  condM t53_1
  (K (Value.bool false) h_18)
  (rop P (Instr.loadAt 24 x010_1) h_18 fun t54_1 =>
  callM P 29 #[t54_1, (Value.int IntKind.i64 1)] h_18 fun t56_1 h_19 =>
  pop P (binA .lss 3 t56_1 (Value.int IntKind.i64 0)) fun t58_1 =>
  guardM t58_1 false (fun k_4 => rop P (Instr.loadAt 24 g011_1) h_19 fun t60_1 =>
  k_4 t60_1 h_19) h_19 fun t60_2 h_20 =>
  guardM t58_1 false (fun k_5 => rop P (Instr.loadAt 24 w08_1) h_20 fun t61_1 =>
  k_5 t61_1 h_20) h_20 fun t61_2 h_21 =>
  guardM t58_1 false (fun k_6 => callM P 28 #[t60_2, t61_2] h_21 fun t62_1 h_22 =>
  k_6 t62_1 h_22) h_21 fun t62_2 h_23 =>
  guardM t58_1 false (fun k_7 => pop P (Op.unary .not t62_2) fun t63_1 =>
  k_7 t63_1 h_23) h_23 fun t63_2 h_24 =>
  pop P (pickS t58_1 (Value.bool true) t63_2) fun t64_1 =>
  guardM t64_1 false (fun k_8 => k_8 t39_1 h_24) h_24 fun t66_1 h_25 =>
  guardM t64_1 false (fun k_9 => k_9 t30_1 h_25) h_25 fun t67_1 h_26 =>
  guardM t64_1 false (fun k_10 => pop P (binE .neq 4 (.tmp 66) (.tmp 67) t66_1 t67_1) fun t68_1 =>
  k_10 t68_1 h_26) h_26 fun t68_2 h_27 =>
  pop P (pickS t64_1 (Value.bool true) t68_2) fun t69_1 =>
  condM t69_1
  (K (Value.bool false) h_27)
  (rop P (Instr.loadAt 24 g011_1) h_27 fun t70_1 =>
  callM P 29 #[t70_1, (Value.int IntKind.i64 1)] h_27 fun t72_1 h_28 =>
  rop P (Instr.loadAt 24 g011_1) h_28 fun t73_1 =>
  callM P 30 #[t73_1, (Value.int IntKind.i64 1)] h_28 fun t75_1 h_29 =>
  pop P (binA .lss 3 t75_1 (Value.int IntKind.i64 0)) fun t77_1 =>
  condM t77_1
  (K (Value.bool false) h_29)
  (pop P (binE .neq 3 (.tmp 78) (.tmp 79) t75_1 t72_1) fun t80_1 =>
  condM t80_1
  (K (Value.bool false) h_29)
  (rop P (Instr.loadAt 34 aG3_1) h_29 fun t82_1 =>
  callM P 26 #[t82_1] h_29 fun t83_1 h_30 =>
  callM P 32 #[t83_1, aP1_1, aK2_1] h_30 fun t86_1 h_31 =>
  pop P (Instr.extract t86_1 0) fun t87_1 =>
  pop P (Instr.extract t86_1 1) fun t88_1 =>
  eop P (Instr.alloc 24 true (.tuple #[])) h_31 fun h016_1 h_32 =>
  uop P (Instr.storeAt 24 h016_1 t87_1) h_32 fun u_4 h_33 =>
  rop P (Instr.loadAt 24 h016_1) h_33 fun t89_1 =>
  rop P (Instr.loadAt 24 w08_1) h_33 fun t90_1 =>
  callM P 28 #[t89_1, t90_1] h_33 fun t91_1 h_34 =>
  pop P (Op.unary .not t91_1) fun t92_1 =>
  guardM t92_1 false (fun k_11 => k_11 t88_1 h_34) h_34 fun t94_1 h_35 =>
  guardM t92_1 false (fun k_12 => k_12 t30_1 h_35) h_35 fun t95_1 h_36 =>
  guardM t92_1 false (fun k_13 => pop P (binE .neq 4 (.tmp 94) (.tmp 95) t94_1 t95_1) fun t96_1 =>
  k_13 t96_1 h_36) h_36 fun t96_2 h_37 =>
  pop P (pickS t92_1 (Value.bool true) t96_2) fun t97_1 =>
  condM t97_1
  (K (Value.bool false) h_37)
  (rop P (Instr.loadAt 24 g011_1) h_37 fun t98_1 =>
  callM P 30 #[t98_1, (Value.int IntKind.i64 1)] h_37 fun t100_1 h_38 =>
  pop P (binA .lss 3 t100_1 (Value.int IntKind.i64 0)) fun t102_1 =>
  condM t102_1
  (K (Value.bool false) h_38)
  (pop P (binE .neq 3 (.tmp 103) (.tmp 104) t100_1 t72_1) fun t105_1 =>
  condM t105_1
  (K (Value.bool false) h_38)
  (K (Value.bool true) h_38)))))))))
theorem e6 (aG0_1 : Value) (aP1_1 : Value) (aK2_1 : Value) (h : Heap) (K : Value → Heap → Prop) : wpA Try.prog 106 (anOf []) (bodyOf Try.f6) 1 (fun A h => resA Try.prog A h K [.tmp 6]) (fun _ _ _ => False) (fun A h => resA Try.prog A h K [.tmp 6]) (aargs [aG0_1, aP1_1, aK2_1] 0) h = t6 Try.prog aG0_1 aP1_1 aK2_1 h K := by kernel_rfl
theorem c6 (aG0_1 : Value) (aP1_1 : Value) (aK2_1 : Value) (h : Heap) (K : Value → Heap → Prop) (H : t6 Try.prog aG0_1 aP1_1 aK2_1 h K) : callM Try.prog 6 #[aG0_1, aP1_1, aK2_1] h K :=
  callM_of_wpA mixed (fn := Try.f6) Try.func6 (c := bodyOf Try.f6) rfl (of_decide_eq_true (by kernel_rfl)) (anOf []) 103 106 (by kernel_rfl) rfl [.tmp 6] (by kernel_rfl) (args := [aG0_1, aP1_1, aK2_1]) (by rw [e6]; exact H)

/-! laws.szGraph -/
def t24 (P : Program) (a0_1 : Value) (left1_1 : Value) (h : Heap) (K : Value → Heap → Prop) : Prop :=
  eop P (Instr.box 34 a0_1) h fun a2_1 h_1 =>
  pop P (Instr.fieldAt 34 a2_1 0) fun t5_1 =>
  rop P (Instr.loadAt 22 t5_1) h_1 fun t6_1 =>
  callM P 63 #[t6_1, left1_1] h_1 fun t8_1 h_2 =>
  pop P (binA .lss 3 t8_1 (Value.int IntKind.i64 0)) fun t10_1 =>
  condM t10_1
  (K (Value.int IntKind.i64 (-1)) h_2)
  (K t8_1 h_2)
theorem e24 (a0_1 : Value) (left1_1 : Value) (h : Heap) (K : Value → Heap → Prop) : wpA Try.prog 12 (anOf []) (bodyOf Try.f24) 1 (fun A h => resA Try.prog A h K [.tmp 4]) (fun _ _ _ => False) (fun A h => resA Try.prog A h K [.tmp 4]) (aargs [a0_1, left1_1] 0) h = t24 Try.prog a0_1 left1_1 h K := by kernel_rfl
theorem c24 (a0_1 : Value) (left1_1 : Value) (h : Heap) (K : Value → Heap → Prop) (H : t24 Try.prog a0_1 left1_1 h K) : callM Try.prog 24 #[a0_1, left1_1] h K :=
  callM_of_wpA mixed (fn := Try.f24) Try.func24 (c := bodyOf Try.f24) rfl (of_decide_eq_true (by kernel_rfl)) (anOf []) 10 12 (by kernel_rfl) rfl [.tmp 4] (by kernel_rfl) (args := [a0_1, left1_1]) (by rw [e24]; exact H)

/-! laws.toGraph -/
def t26 (P : Program) (a0_1 : Value) (h : Heap) (K : Value → Heap → Prop) : Prop :=
  eop P (Instr.box 34 a0_1) h fun a1_1 h_1 =>
  eop P (Instr.alloc 24 true (.tuple #[])) h_1 fun t2_1 h_2 =>
  eop P (Instr.alloc 24 true (.tuple #[])) h_2 fun out3_1 h_3 =>
  pop P (Instr.fieldAt 34 a1_1 0) fun t4_1 =>
  rop P (Instr.loadAt 22 t4_1) h_3 fun t5_1 =>
  callM P 67 #[t5_1] h_3 fun t6_1 h_4 =>
  pop P (Instr.fieldAt 24 out3_1 0) fun t7_1 =>
  uop P (Instr.storeAt 22 t7_1 t6_1) h_4 fun u_1 h_5 =>
  rop P (Instr.loadAt 24 out3_1) h_5 fun t8_1 =>
  uop P (Instr.storeAt 24 t2_1 t8_1) h_5 fun u_2 h_6 =>
  rop P (Instr.loadAt 24 t2_1) h_6 fun r_1 =>
  K r_1 h_6
theorem e26 (a0_1 : Value) (h : Heap) (K : Value → Heap → Prop) : wpA Try.prog 9 (anOf []) (bodyOf Try.f26) 1 (fun A h => resA Try.prog A h K [.cell 2 24]) (fun _ _ _ => False) (fun A h => resA Try.prog A h K [.cell 2 24]) (aargs [a0_1] 0) h = t26 Try.prog a0_1 h K := by kernel_rfl
theorem c26 (a0_1 : Value) (h : Heap) (K : Value → Heap → Prop) (H : t26 Try.prog a0_1 h K) : callM Try.prog 26 #[a0_1] h K :=
  callM_of_wpA mixed (fn := Try.f26) Try.func26 (c := bodyOf Try.f26) rfl (of_decide_eq_true (by kernel_rfl)) (anOf []) 8 9 (by kernel_rfl) rfl [.cell 2 24] (by kernel_rfl) (args := [a0_1]) (by rw [e26]; exact H)

/-! laws.eqGraph -/
def t28 (P : Program) (a0_1 : Value) (b1_1 : Value) (h : Heap) (K : Value → Heap → Prop) : Prop :=
  eop P (Instr.box 24 a0_1) h fun a2_1 h_1 =>
  eop P (Instr.box 24 b1_1) h_1 fun b3_1 h_2 =>
  pop P (Instr.fieldAt 24 a2_1 0) fun t5_1 =>
  rop P (Instr.loadAt 22 t5_1) h_2 fun t6_1 =>
  pop P (Instr.fieldAt 24 b3_1 0) fun t7_1 =>
  rop P (Instr.loadAt 22 t7_1) h_2 fun t8_1 =>
  callM P 71 #[t6_1, t8_1] h_2 fun t9_1 h_3 =>
  pop P (Op.unary .not t9_1) fun t10_1 =>
  condM t10_1
  (K (Value.bool false) h_3)
  (K (Value.bool true) h_3)
theorem e28 (a0_1 : Value) (b1_1 : Value) (h : Heap) (K : Value → Heap → Prop) : wpA Try.prog 11 (anOf []) (bodyOf Try.f28) 1 (fun A h => resA Try.prog A h K [.tmp 4]) (fun _ _ _ => False) (fun A h => resA Try.prog A h K [.tmp 4]) (aargs [a0_1, b1_1] 0) h = t28 Try.prog a0_1 b1_1 h K := by kernel_rfl
theorem c28 (a0_1 : Value) (b1_1 : Value) (h : Heap) (K : Value → Heap → Prop) (H : t28 Try.prog a0_1 b1_1 h K) : callM Try.prog 28 #[a0_1, b1_1] h K :=
  callM_of_wpA mixed (fn := Try.f28) Try.func28 (c := bodyOf Try.f28) rfl (of_decide_eq_true (by kernel_rfl)) (anOf []) 9 11 (by kernel_rfl) rfl [.tmp 4] (by kernel_rfl) (args := [a0_1, b1_1]) (by rw [e28]; exact H)

/-! laws.markGraph -/
def t29 (P : Program) (a0_1 : Value) (k1_1 : Value) (h : Heap) (K : Value → Heap → Prop) : Prop :=
  eop P (Instr.box 24 a0_1) h fun a2_1 h_1 =>
  pop P (Instr.fieldAt 24 a2_1 0) fun t5_1 =>
  rop P (Instr.loadAt 22 t5_1) h_1 fun t6_1 =>
  callM P 72 #[t6_1, k1_1] h_1 fun t8_1 h_2 =>
  K t8_1 h_2
theorem e29 (a0_1 : Value) (k1_1 : Value) (h : Heap) (K : Value → Heap → Prop) : wpA Try.prog 10 (anOf []) (bodyOf Try.f29) 1 (fun A h => resA Try.prog A h K [.tmp 4]) (fun _ _ _ => False) (fun A h => resA Try.prog A h K [.tmp 4]) (aargs [a0_1, k1_1] 0) h = t29 Try.prog a0_1 k1_1 h K := by kernel_rfl
theorem c29 (a0_1 : Value) (k1_1 : Value) (h : Heap) (K : Value → Heap → Prop) (H : t29 Try.prog a0_1 k1_1 h K) : callM Try.prog 29 #[a0_1, k1_1] h K :=
  callM_of_wpA mixed (fn := Try.f29) Try.func29 (c := bodyOf Try.f29) rfl (of_decide_eq_true (by kernel_rfl)) (anOf []) 8 10 (by kernel_rfl) rfl [.tmp 4] (by kernel_rfl) (args := [a0_1, k1_1]) (by rw [e29]; exact H)

/-! laws.heldGraph -/
def t30 (P : Program) (a0_1 : Value) (k1_1 : Value) (h : Heap) (K : Value → Heap → Prop) : Prop :=
  eop P (Instr.box 24 a0_1) h fun a2_1 h_1 =>
  pop P (Instr.fieldAt 24 a2_1 0) fun t5_1 =>
  rop P (Instr.loadAt 22 t5_1) h_1 fun t6_1 =>
  callM P 73 #[t6_1, k1_1] h_1 fun t8_1 h_2 =>
  pop P (binA .lss 3 t8_1 (Value.int IntKind.i64 0)) fun t10_1 =>
  condM t10_1
  (K (Value.int IntKind.i64 (-1)) h_2)
  (K t8_1 h_2)
theorem e30 (a0_1 : Value) (k1_1 : Value) (h : Heap) (K : Value → Heap → Prop) : wpA Try.prog 12 (anOf []) (bodyOf Try.f30) 1 (fun A h => resA Try.prog A h K [.tmp 4]) (fun _ _ _ => False) (fun A h => resA Try.prog A h K [.tmp 4]) (aargs [a0_1, k1_1] 0) h = t30 Try.prog a0_1 k1_1 h K := by kernel_rfl
theorem c30 (a0_1 : Value) (k1_1 : Value) (h : Heap) (K : Value → Heap → Prop) (H : t30 Try.prog a0_1 k1_1 h K) : callM Try.prog 30 #[a0_1, k1_1] h K :=
  callM_of_wpA mixed (fn := Try.f30) Try.func30 (c := bodyOf Try.f30) rfl (of_decide_eq_true (by kernel_rfl)) (anOf []) 10 12 (by kernel_rfl) rfl [.tmp 4] (by kernel_rfl) (args := [a0_1, k1_1]) (by rw [e30]; exact H)

/-! spec.TurnExits -/
def t31 (P : Program) (g0_1 : Value) (p1_1 : Value) (k2_1 : Value) (h : Heap) (K : Value → Heap → Prop) : Prop :=
  eop P (Instr.box 24 g0_1) h fun g3_1 h_1 =>
  eop P (Instr.alloc 24 true (.tuple #[])) h_1 fun t6_1 h_2 =>
  rop P (Instr.loadAt 24 g3_1) h_2 fun t12_1 =>
  callM P 64 #[t12_1, p1_1] h_2 fun t14_1 h_3 =>
  pop P (Op.unary .not t14_1) fun t15_1 =>
  guardM t15_1 false (fun k_1 => k_1 k2_1 h_3) h_3 fun t17_1 h_4 =>
  guardM t15_1 false (fun k_2 => callM P 74 #[t17_1, (Value.int IntKind.i64 0), (Value.int IntKind.i64 1000)] h_4 fun t18_1 h_5 =>
  k_2 t18_1 h_5) h_4 fun t18_2 h_6 =>
  guardM t15_1 false (fun k_3 => pop P (Op.unary .not t18_2) fun t19_1 =>
  k_3 t19_1 h_6) h_6 fun t19_2 h_7 =>
  pop P (pickS t15_1 (Value.bool true) t19_2) fun t20_1 =>
  condM t20_1
  (pop P (Instr.build 24 #[]) fun t21_1 =>
  uop P (Instr.storeAt 24 t6_1 t21_1) h_7 fun u_1 h_8 =>
  rop P (Instr.loadAt 24 t6_1) h_8 fun r_1 =>
  K (.tuple #[r_1, (Value.bool false)]) h_8)
  (rop P (Instr.loadAt 24 g3_1) h_7 fun t22_1 =>
  callM P 65 #[t22_1] h_7 fun t23_1 h_9 =>
  eop P (Instr.alloc 24 true (.tuple #[])) h_9 fun out8_1 h_10 =>
  uop P (Instr.storeAt 24 out8_1 t23_1) h_10 fun u_2 h_11 =>
  pop P (Instr.fieldAt 24 g3_1 0) fun t24_1 =>
  rop P (Instr.loadAt 22 t24_1) h_11 fun t25_1 =>
  pop P (Instr.indexAt 22 t25_1 p1_1) fun t27_1 =>
  rop P (Instr.loadAt 25 t27_1) h_11 fun t28_1 =>
  pop P (lenS 25 3 t28_1) fun t30_1 =>
  ∃ (I_1 : List Value → Heap → Prop) (μ_1 : List Value → Heap → Nat), I_1 [(Value.int IntKind.i64 0)] h_11 ∧
  ∀ (junk_1 : Nat → Value) (t31_1 : Value) (h_12 : Heap), I_1 [t31_1] h_12 →
  pop P (binA .lss 3 t31_1 t30_1) fun t32_1 =>
  condM t32_1
  (pop P (Instr.fieldAt 24 out8_1 0) fun t34_1 =>
  rop P (Instr.loadAt 22 t34_1) h_12 fun t35_1 =>
  pop P (Instr.indexAt 22 t35_1 p1_1) fun t37_1 =>
  rop P (Instr.loadAt 25 t37_1) h_12 fun t38_1 =>
  pop P (binA .add 3 t31_1 k2_1) fun t44_1 =>
  pop P (lenS 25 3 t28_1) fun t46_1 =>
  pop P (binA .rem 3 t44_1 t46_1) fun t47_1 =>
  pop P (Instr.indexAt 25 t28_1 t47_1) fun t48_1 =>
  rop P (Instr.loadAt 3 t48_1) h_12 fun t49_1 =>
  pop P (Instr.indexAt 25 t38_1 t31_1) fun t50_1 =>
  uop P (Instr.storeAt 3 t50_1 t49_1) h_12 fun u_3 h_13 =>
  pop P (binA .add 3 t31_1 (Value.int IntKind.i64 1)) fun t51_1 =>
  I_1 [t51_1] h_13 ∧ μ_1 [t51_1] h_13 < μ_1 [t31_1] h_12)
  (rop P (Instr.loadAt 24 out8_1) h_12 fun t52_1 =>
  uop P (Instr.storeAt 24 t6_1 t52_1) h_12 fun u_4 h_14 =>
  rop P (Instr.loadAt 24 t6_1) h_14 fun r_2 =>
  K (.tuple #[r_2, (Value.bool true)]) h_14))
theorem e31 (g0_1 : Value) (p1_1 : Value) (k2_1 : Value) (h : Heap) (K : Value → Heap → Prop) : wpA Try.prog 53 (anOf [(250, [31])]) (bodyOf Try.f31) 1 (fun A h => resA Try.prog A h K [.cell 6 24, .tmp 7]) (fun _ _ _ => False) (fun A h => resA Try.prog A h K [.cell 6 24, .tmp 7]) (aargs [g0_1, p1_1, k2_1] 0) h = t31 Try.prog g0_1 p1_1 k2_1 h K := by kernel_rfl
theorem c31 (g0_1 : Value) (p1_1 : Value) (k2_1 : Value) (h : Heap) (K : Value → Heap → Prop) (H : t31 Try.prog g0_1 p1_1 k2_1 h K) : callM Try.prog 31 #[g0_1, p1_1, k2_1] h K :=
  callM_of_wpA mixed (fn := Try.f31) Try.func31 (c := bodyOf Try.f31) rfl (of_decide_eq_true (by kernel_rfl)) (anOf [(250, [31])]) 50 53 (by kernel_rfl) rfl [.cell 6 24, .tmp 7] (by kernel_rfl) (args := [g0_1, p1_1, k2_1]) (by rw [e31]; exact H)

/-! impl.TurnExits -/
def t32 (P : Program) (g0_1 : Value) (p1_1 : Value) (k2_1 : Value) (h : Heap) (K : Value → Heap → Prop) : Prop :=
  eop P (Instr.box 24 g0_1) h fun g3_1 h_1 =>
  eop P (Instr.alloc 24 true (.tuple #[])) h_1 fun t6_1 h_2 =>
  rop P (Instr.loadAt 24 g3_1) h_2 fun t10_1 =>
  eop P (Instr.buildSlice 25 1 #[(0, p1_1)]) h_2 fun t12_1 h_3 =>
  callM P 68 #[t10_1, t12_1] h_3 fun t13_1 h_4 =>
  pop P (Op.unary .not t13_1) fun t14_1 =>
  guardM t14_1 false (fun k_1 => k_1 k2_1 h_4) h_4 fun t16_1 h_5 =>
  guardM t14_1 false (fun k_2 => callM P 75 #[t16_1, (Value.int IntKind.i64 0), (Value.int IntKind.i64 1000)] h_5 fun t17_1 h_6 =>
  k_2 t17_1 h_6) h_5 fun t17_2 h_7 =>
  guardM t14_1 false (fun k_3 => pop P (Op.unary .not t17_2) fun t18_1 =>
  k_3 t18_1 h_7) h_7 fun t18_2 h_8 =>
  pop P (pickS t14_1 (Value.bool true) t18_2) fun t19_1 =>
  condM t19_1
  (pop P (Instr.build 24 #[]) fun t20_1 =>
  uop P (Instr.storeAt 24 t6_1 t20_1) h_8 fun u_1 h_9 =>
  rop P (Instr.loadAt 24 t6_1) h_9 fun r_1 =>
  K (.tuple #[r_1, (Value.bool false)]) h_9)
  (rop P (Instr.loadAt 24 g3_1) h_8 fun t21_1 =>
  callM P 69 #[t21_1] h_8 fun t22_1 h_10 =>
  eop P (Instr.alloc 24 true (.tuple #[])) h_10 fun out8_1 h_11 =>
  uop P (Instr.storeAt 24 out8_1 t22_1) h_11 fun u_2 h_12 =>
  ∃ J_1 : List Value → Heap → Prop, (pop P (Instr.fieldAt 24 g3_1 0) fun t23_1 =>
  rop P (Instr.loadAt 22 t23_1) h_12 fun t24_1 =>
  pop P (Instr.indexAt 22 t24_1 p1_1) fun t26_1 =>
  rop P (Instr.loadAt 25 t26_1) h_12 fun t27_1 =>
  pop P (lenS 25 3 t27_1) fun t29_1 =>
  pop P (binA .gtr 3 t29_1 (Value.int IntKind.i64 0)) fun t30_1 =>
  condM t30_1
  (pop P (lenS 25 3 t27_1) fun t33_1 =>
  pop P (binA .rem 3 k2_1 t33_1) fun t34_1 =>
  pop P (Instr.fieldAt 24 out8_1 0) fun t35_1 =>
  rop P (Instr.loadAt 22 t35_1) h_12 fun t36_1 =>
  pop P (Instr.sliceAt 25 t27_1 (some t34_1) none none) fun t40_1 =>
  pop P (Instr.sliceAt 25 t27_1 none (some t34_1) none) fun t43_1 =>
  eop P (Instr.buildSlice 22 2 #[(0, t40_1), (1, t43_1)]) h_12 fun t44_1 h_13 =>
  (∀ w : World, w.heap = h_13 → (Instr.loadAt 22 t35_1).run P w = .ok t36_1 w) ∧
  callM P 76 #[t44_1] h_13 fun t45_1 h_14 =>
  (∀ w : World, w.heap = h_14 → (Instr.loadAt 22 t35_1).run P w = .ok t36_1 w) ∧
  pop P (Instr.indexAt 22 t36_1 p1_1) fun t46_1 =>
  uop P (Instr.storeAt 25 t46_1 t45_1) h_14 fun u_3 h_15 =>
  J_1 [] h_15)
  (J_1 [] h_12)) ∧
  ∀ (junk_1 : Nat → Value) (h_16 : Heap), J_1 [] h_16 →
  rop P (Instr.loadAt 24 out8_1) h_16 fun t47_1 =>
  uop P (Instr.storeAt 24 t6_1 t47_1) h_16 fun u_4 h_17 =>
  rop P (Instr.loadAt 24 t6_1) h_17 fun r_2 =>
  K (.tuple #[r_2, (Value.bool true)]) h_17)
theorem e32 (g0_1 : Value) (p1_1 : Value) (k2_1 : Value) (h : Heap) (K : Value → Heap → Prop) : wpA Try.prog 48 (anOf [(15, [])]) (bodyOf Try.f32) 1 (fun A h => resA Try.prog A h K [.cell 6 24, .tmp 7]) (fun _ _ _ => False) (fun A h => resA Try.prog A h K [.cell 6 24, .tmp 7]) (aargs [g0_1, p1_1, k2_1] 0) h = t32 Try.prog g0_1 p1_1 k2_1 h K := by kernel_rfl
theorem c32 (g0_1 : Value) (p1_1 : Value) (k2_1 : Value) (h : Heap) (K : Value → Heap → Prop) (H : t32 Try.prog g0_1 p1_1 k2_1 h K) : callM Try.prog 32 #[g0_1, p1_1, k2_1] h K :=
  callM_of_wpA mixed (fn := Try.f32) Try.func32 (c := bodyOf Try.f32) rfl (of_decide_eq_true (by kernel_rfl)) (anOf [(15, [])]) 45 48 (by kernel_rfl) rfl [.cell 6 24, .tmp 7] (by kernel_rfl) (args := [g0_1, p1_1, k2_1]) (by rw [e32]; exact H)

/-! laws.eqIntS -/
def t53 (P : Program) (a0_1 : Value) (b1_1 : Value) (h : Heap) (K : Value → Heap → Prop) : Prop :=
  pop P (lenS 25 3 a0_1) fun t7_1 =>
  pop P (lenS 25 3 b1_1) fun t9_1 =>
  pop P (binE .neq 3 (.tmp 7) (.tmp 9) t7_1 t9_1) fun t10_1 =>
  condM t10_1
  (K (Value.bool false) h)
  (∃ (I_1 : List Value → Heap → Prop) (μ_1 : List Value → Heap → Nat), I_1 [(Value.int IntKind.i64 0)] h ∧
  ∀ (junk_1 : Nat → Value) (i5_1 : Value) (h_1 : Heap), I_1 [i5_1] h_1 →
  pop P (lenS 25 3 a0_1) fun t13_1 =>
  pop P (binA .lss 3 i5_1 t13_1) fun t14_1 =>
  condM t14_1
  (pop P (Instr.indexAt 25 a0_1 i5_1) fun t19_1 =>
  rop P (Instr.loadAt 3 t19_1) h_1 fun t20_1 =>
  pop P (Instr.indexAt 25 b1_1 i5_1) fun t23_1 =>
  rop P (Instr.loadAt 3 t23_1) h_1 fun t24_1 =>
  pop P (binE .neq 3 (.tmp 20) (.tmp 24) t20_1 t24_1) fun t25_1 =>
  condM t25_1
  (K (Value.bool false) h_1)
  (pop P (binA .add 3 i5_1 (Value.int IntKind.i64 1)) fun t16_1 =>
  I_1 [t16_1] h_1 ∧ μ_1 [t16_1] h_1 < μ_1 [i5_1] h_1))
  (K (Value.bool true) h_1))
theorem e53 (a0_1 : Value) (b1_1 : Value) (h : Heap) (K : Value → Heap → Prop) : wpA Try.prog 26 (anOf [(58, [5])]) (bodyOf Try.f53) 1 (fun A h => resA Try.prog A h K [.tmp 4]) (fun _ _ _ => False) (fun A h => resA Try.prog A h K [.tmp 4]) (aargs [a0_1, b1_1] 0) h = t53 Try.prog a0_1 b1_1 h K := by kernel_rfl
theorem c53 (a0_1 : Value) (b1_1 : Value) (h : Heap) (K : Value → Heap → Prop) (H : t53 Try.prog a0_1 b1_1 h K) : callM Try.prog 53 #[a0_1, b1_1] h K :=
  callM_of_wpA mixed (fn := Try.f53) Try.func53 (c := bodyOf Try.f53) rfl (of_decide_eq_true (by kernel_rfl)) (anOf [(58, [5])]) 24 26 (by kernel_rfl) rfl [.tmp 4] (by kernel_rfl) (args := [a0_1, b1_1]) (by rw [e53]; exact H)

/-! laws.markIntS -/
def t54 (P : Program) (a0_1 : Value) (k1_1 : Value) (h : Heap) (K : Value → Heap → Prop) : Prop :=
  ∃ (I_1 : List Value → Heap → Prop) (μ_1 : List Value → Heap → Nat), I_1 [k1_1, (Value.int IntKind.i64 0)] h ∧
  ∀ (junk_1 : Nat → Value) (k1_2 : Value) (i5_1 : Value) (h_1 : Heap), I_1 [k1_2, i5_1] h_1 →
  pop P (lenS 25 3 a0_1) fun t8_1 =>
  pop P (binA .lss 3 i5_1 t8_1) fun t9_1 =>
  condM t9_1
  (pop P (Instr.indexAt 25 a0_1 i5_1) fun t15_1 =>
  uop P (Instr.storeAt 3 t15_1 k1_2) h_1 fun u_1 h_2 =>
  pop P (binA .add 3 k1_2 (Value.int IntKind.i64 1)) fun t17_1 =>
  pop P (binA .add 3 i5_1 (Value.int IntKind.i64 1)) fun t11_1 =>
  I_1 [t17_1, t11_1] h_2 ∧ μ_1 [t17_1, t11_1] h_2 < μ_1 [k1_2, i5_1] h_1)
  (K k1_2 h_1)
theorem e54 (a0_1 : Value) (k1_1 : Value) (h : Heap) (K : Value → Heap → Prop) : wpA Try.prog 19 (anOf [(26, [1, 5])]) (bodyOf Try.f54) 1 (fun A h => resA Try.prog A h K [.tmp 4]) (fun _ _ _ => False) (fun A h => resA Try.prog A h K [.tmp 4]) (aargs [a0_1, k1_1] 0) h = t54 Try.prog a0_1 k1_1 h K := by kernel_rfl
theorem c54 (a0_1 : Value) (k1_1 : Value) (h : Heap) (K : Value → Heap → Prop) (H : t54 Try.prog a0_1 k1_1 h K) : callM Try.prog 54 #[a0_1, k1_1] h K :=
  callM_of_wpA mixed (fn := Try.f54) Try.func54 (c := bodyOf Try.f54) rfl (of_decide_eq_true (by kernel_rfl)) (anOf [(26, [1, 5])]) 17 19 (by kernel_rfl) rfl [.tmp 4] (by kernel_rfl) (args := [a0_1, k1_1]) (by rw [e54]; exact H)

/-! laws.heldIntS -/
def t55 (P : Program) (a0_1 : Value) (k1_1 : Value) (h : Heap) (K : Value → Heap → Prop) : Prop :=
  ∃ (I_1 : List Value → Heap → Prop) (μ_1 : List Value → Heap → Nat), I_1 [k1_1, (Value.int IntKind.i64 0)] h ∧
  ∀ (junk_1 : Nat → Value) (k1_2 : Value) (i5_1 : Value) (h_1 : Heap), I_1 [k1_2, i5_1] h_1 →
  pop P (lenS 25 3 a0_1) fun t8_1 =>
  pop P (binA .lss 3 i5_1 t8_1) fun t9_1 =>
  condM t9_1
  (pop P (Instr.indexAt 25 a0_1 i5_1) fun t14_1 =>
  rop P (Instr.loadAt 3 t14_1) h_1 fun t15_1 =>
  pop P (binE .neq 3 (.tmp 15) (.tmp 16) t15_1 k1_2) fun t17_1 =>
  condM t17_1
  (K (Value.int IntKind.i64 (-1)) h_1)
  (pop P (binA .add 3 k1_2 (Value.int IntKind.i64 1)) fun t19_1 =>
  pop P (binA .add 3 i5_1 (Value.int IntKind.i64 1)) fun t11_1 =>
  I_1 [t19_1, t11_1] h_1 ∧ μ_1 [t19_1, t11_1] h_1 < μ_1 [k1_2, i5_1] h_1))
  (K k1_2 h_1)
theorem e55 (a0_1 : Value) (k1_1 : Value) (h : Heap) (K : Value → Heap → Prop) : wpA Try.prog 21 (anOf [(26, [1, 5])]) (bodyOf Try.f55) 1 (fun A h => resA Try.prog A h K [.tmp 4]) (fun _ _ _ => False) (fun A h => resA Try.prog A h K [.tmp 4]) (aargs [a0_1, k1_1] 0) h = t55 Try.prog a0_1 k1_1 h K := by kernel_rfl
theorem c55 (a0_1 : Value) (k1_1 : Value) (h : Heap) (K : Value → Heap → Prop) (H : t55 Try.prog a0_1 k1_1 h K) : callM Try.prog 55 #[a0_1, k1_1] h K :=
  callM_of_wpA mixed (fn := Try.f55) Try.func55 (c := bodyOf Try.f55) rfl (of_decide_eq_true (by kernel_rfl)) (anOf [(26, [1, 5])]) 19 21 (by kernel_rfl) rfl [.tmp 4] (by kernel_rfl) (args := [a0_1, k1_1]) (by rw [e55]; exact H)

/-! laws.szIntSS -/
def t63 (P : Program) (a0_1 : Value) (left1_1 : Value) (h : Heap) (K : Value → Heap → Prop) : Prop :=
  pop P (lenS 22 3 a0_1) fun t8_1 =>
  pop P (binA .sub 3 left1_1 t8_1) fun t9_1 =>
  pop P (binA .lss 3 t9_1 (Value.int IntKind.i64 0)) fun t11_1 =>
  condM t11_1
  (K (Value.int IntKind.i64 (-1)) h)
  (∃ (I_1 : List Value → Heap → Prop) (μ_1 : List Value → Heap → Nat), I_1 [t9_1, (Value.int IntKind.i64 0)] h ∧
  ∀ (junk_1 : Nat → Value) (left1_2 : Value) (i5_1 : Value) (h_1 : Heap), I_1 [left1_2, i5_1] h_1 →
  pop P (lenS 22 3 a0_1) fun t14_1 =>
  pop P (binA .lss 3 i5_1 t14_1) fun t15_1 =>
  condM t15_1
  (pop P (Instr.indexAt 22 a0_1 i5_1) fun t20_1 =>
  rop P (Instr.loadAt 25 t20_1) h_1 fun t21_1 =>
  callM P 77 #[t21_1, left1_2] h_1 fun t23_1 h_2 =>
  pop P (binA .lss 3 t23_1 (Value.int IntKind.i64 0)) fun t25_1 =>
  condM t25_1
  (K (Value.int IntKind.i64 (-1)) h_2)
  (pop P (binA .add 3 i5_1 (Value.int IntKind.i64 1)) fun t17_1 =>
  I_1 [t23_1, t17_1] h_2 ∧ μ_1 [t23_1, t17_1] h_2 < μ_1 [left1_2, i5_1] h_1))
  (K left1_2 h_1))
theorem e63 (a0_1 : Value) (left1_1 : Value) (h : Heap) (K : Value → Heap → Prop) : wpA Try.prog 27 (anOf [(122, [1, 5])]) (bodyOf Try.f63) 1 (fun A h => resA Try.prog A h K [.tmp 4]) (fun _ _ _ => False) (fun A h => resA Try.prog A h K [.tmp 4]) (aargs [a0_1, left1_1] 0) h = t63 Try.prog a0_1 left1_1 h K := by kernel_rfl
theorem c63 (a0_1 : Value) (left1_1 : Value) (h : Heap) (K : Value → Heap → Prop) (H : t63 Try.prog a0_1 left1_1 h K) : callM Try.prog 63 #[a0_1, left1_1] h K :=
  callM_of_wpA mixed (fn := Try.f63) Try.func63 (c := bodyOf Try.f63) rfl (of_decide_eq_true (by kernel_rfl)) (anOf [(122, [1, 5])]) 25 27 (by kernel_rfl) rfl [.tmp 4] (by kernel_rfl) (args := [a0_1, left1_1]) (by rw [e63]; exact H)

/-! spec.grPlace -/
def t64 (P : Program) (g0_1 : Value) (p1_1 : Value) (h : Heap) (K : Value → Heap → Prop) : Prop :=
  eop P (Instr.box 24 g0_1) h fun g2_1 h_1 =>
  rop P (Instr.loadAt 24 g2_1) h_1 fun t5_1 =>
  callM P 97 #[t5_1] h_1 fun t6_1 h_2 =>
  guardM t6_1 true (fun k_1 => k_1 p1_1 h_2) h_2 fun t8_1 h_3 =>
  guardM t6_1 true (fun k_2 => pop P (Instr.fieldAt 24 g2_1 0) fun t9_1 =>
  k_2 t9_1 h_3) h_3 fun t9_2 h_4 =>
  guardM t6_1 true (fun k_3 => rop P (Instr.loadAt 22 t9_2) h_4 fun t10_1 =>
  k_3 t10_1 h_4) h_4 fun t10_2 h_5 =>
  guardM t6_1 true (fun k_4 => pop P (lenS 22 3 t10_2) fun t11_1 =>
  k_4 t11_1 h_5) h_5 fun t11_2 h_6 =>
  guardM t6_1 true (fun k_5 => pop P (binA .sub 3 t11_2 (Value.int IntKind.i64 1)) fun t12_1 =>
  k_5 t12_1 h_6) h_6 fun t12_2 h_7 =>
  guardM t6_1 true (fun k_6 => callM P 74 #[t8_1, (Value.int IntKind.i64 0), t12_2] h_7 fun t13_1 h_8 =>
  k_6 t13_1 h_8) h_7 fun t13_2 h_9 =>
  pop P (pickS t6_1 t13_2 (Value.bool false)) fun t14_1 =>
  K t14_1 h_9
theorem e64 (g0_1 : Value) (p1_1 : Value) (h : Heap) (K : Value → Heap → Prop) : wpA Try.prog 15 (anOf []) (bodyOf Try.f64) 1 (fun A h => resA Try.prog A h K [.tmp 4]) (fun _ _ _ => False) (fun A h => resA Try.prog A h K [.tmp 4]) (aargs [g0_1, p1_1] 0) h = t64 Try.prog g0_1 p1_1 h K := by kernel_rfl
theorem c64 (g0_1 : Value) (p1_1 : Value) (h : Heap) (K : Value → Heap → Prop) (H : t64 Try.prog g0_1 p1_1 h K) : callM Try.prog 64 #[g0_1, p1_1] h K :=
  callM_of_wpA mixed (fn := Try.f64) Try.func64 (c := bodyOf Try.f64) rfl (of_decide_eq_true (by kernel_rfl)) (anOf []) 13 15 (by kernel_rfl) rfl [.tmp 4] (by kernel_rfl) (args := [g0_1, p1_1]) (by rw [e64]; exact H)

/-! spec.grCopy -/
def t65 (P : Program) (g0_1 : Value) (h : Heap) (K : Value → Heap → Prop) : Prop :=
  eop P (Instr.box 24 g0_1) h fun g1_1 h_1 =>
  eop P (Instr.alloc 24 true (.tuple #[])) h_1 fun t2_1 h_2 =>
  pop P (Instr.build 24 #[]) fun t6_1 =>
  eop P (Instr.alloc 24 true (.tuple #[])) h_2 fun out3_1 h_3 =>
  uop P (Instr.storeAt 24 out3_1 t6_1) h_3 fun u_1 h_4 =>
  pop P (Instr.fieldAt 24 g1_1 0) fun t7_1 =>
  rop P (Instr.loadAt 22 t7_1) h_4 fun t8_1 =>
  pop P (lenS 22 3 t8_1) fun t9_1 =>
  ∃ (I_1 : List Value → Heap → Prop) (μ_1 : List Value → Heap → Nat), I_1 [(Value.int IntKind.i64 0)] h_4 ∧
  ∀ (junk_1 : Nat → Value) (t10_1 : Value) (h_5 : Heap), I_1 [t10_1] h_5 →
  pop P (binA .lss 3 t10_1 t9_1) fun t11_1 =>
  condM t11_1
  (pop P (Instr.indexAt 22 t8_1 t10_1) fun t12_1 =>
  rop P (Instr.loadAt 25 t12_1) h_5 fun t13_1 =>
  pop P (Instr.fieldAt 24 out3_1 0) fun t14_1 =>
  rop P (Instr.loadAt 22 t14_1) h_5 fun t15_1 =>
  callM P 88 #[t13_1] h_5 fun t17_1 h_6 =>
  (∀ w : World, w.heap = h_6 → (Instr.loadAt 22 t14_1).run P w = .ok t15_1 w) ∧
  eop P (Instr.buildSlice 22 1 #[(0, t17_1)]) h_6 fun t18_1 h_7 =>
  (∀ w : World, w.heap = h_7 → (Instr.loadAt 22 t14_1).run P w = .ok t15_1 w) ∧
  eop P (appS 22 22 22 t15_1 t18_1) h_7 fun t19_1 h_8 =>
  pop P (Instr.fieldAt 24 out3_1 0) fun t20_1 =>
  uop P (Instr.storeAt 22 t20_1 t19_1) h_8 fun u_2 h_9 =>
  pop P (binA .add 3 t10_1 (Value.int IntKind.i64 1)) fun t21_1 =>
  I_1 [t21_1] h_9 ∧ μ_1 [t21_1] h_9 < μ_1 [t10_1] h_5)
  (rop P (Instr.loadAt 24 out3_1) h_5 fun t22_1 =>
  uop P (Instr.storeAt 24 t2_1 t22_1) h_5 fun u_3 h_10 =>
  rop P (Instr.loadAt 24 t2_1) h_10 fun r_1 =>
  K r_1 h_10)
theorem e65 (g0_1 : Value) (h : Heap) (K : Value → Heap → Prop) : wpA Try.prog 23 (anOf [(58, [10])]) (bodyOf Try.f65) 1 (fun A h => resA Try.prog A h K [.cell 2 24]) (fun _ _ _ => False) (fun A h => resA Try.prog A h K [.cell 2 24]) (aargs [g0_1] 0) h = t65 Try.prog g0_1 h K := by kernel_rfl
theorem c65 (g0_1 : Value) (h : Heap) (K : Value → Heap → Prop) (H : t65 Try.prog g0_1 h K) : callM Try.prog 65 #[g0_1] h K :=
  callM_of_wpA mixed (fn := Try.f65) Try.func65 (c := bodyOf Try.f65) rfl (of_decide_eq_true (by kernel_rfl)) (anOf [(58, [10])]) 22 23 (by kernel_rfl) rfl [.cell 2 24] (by kernel_rfl) (args := [g0_1]) (by rw [e65]; exact H)

/-! laws.toIntSS -/
def t67 (P : Program) (a0_1 : Value) (h : Heap) (K : Value → Heap → Prop) : Prop :=
  pop P (lenS 22 3 a0_1) fun t6_1 =>
  eop P (Instr.makeSlice 22 t6_1 t6_1) h fun t7_1 h_1 =>
  ∃ (I_1 : List Value → Heap → Prop) (μ_1 : List Value → Heap → Nat), I_1 [(Value.int IntKind.i64 0)] h_1 ∧
  ∀ (junk_1 : Nat → Value) (i4_1 : Value) (h_2 : Heap), I_1 [i4_1] h_2 →
  pop P (lenS 22 3 a0_1) fun t10_1 =>
  pop P (binA .lss 3 i4_1 t10_1) fun t11_1 =>
  condM t11_1
  (pop P (Instr.indexAt 22 a0_1 i4_1) fun t18_1 =>
  rop P (Instr.loadAt 25 t18_1) h_2 fun t19_1 =>
  callM P 80 #[t19_1] h_2 fun t20_1 h_3 =>
  pop P (Instr.indexAt 22 t7_1 i4_1) fun t21_1 =>
  uop P (Instr.storeAt 25 t21_1 t20_1) h_3 fun u_1 h_4 =>
  pop P (binA .add 3 i4_1 (Value.int IntKind.i64 1)) fun t13_1 =>
  I_1 [t13_1] h_4 ∧ μ_1 [t13_1] h_4 < μ_1 [i4_1] h_2)
  (K t7_1 h_2)
theorem e67 (a0_1 : Value) (h : Heap) (K : Value → Heap → Prop) : wpA Try.prog 23 (anOf [(58, [4])]) (bodyOf Try.f67) 1 (fun A h => resA Try.prog A h K [.tmp 2]) (fun _ _ _ => False) (fun A h => resA Try.prog A h K [.tmp 2]) (aargs [a0_1] 0) h = t67 Try.prog a0_1 h K := by kernel_rfl
theorem c67 (a0_1 : Value) (h : Heap) (K : Value → Heap → Prop) (H : t67 Try.prog a0_1 h K) : callM Try.prog 67 #[a0_1] h K :=
  callM_of_wpA mixed (fn := Try.f67) Try.func67 (c := bodyOf Try.f67) rfl (of_decide_eq_true (by kernel_rfl)) (anOf [(58, [4])]) 22 23 (by kernel_rfl) rfl [.tmp 2] (by kernel_rfl) (args := [a0_1]) (by rw [e67]; exact H)

/-! impl.has -/
def t68 (P : Program) (g0_1 : Value) (places1_1 : Value) (h : Heap) (K : Value → Heap → Prop) : Prop :=
  eop P (Instr.box 24 g0_1) h fun g2_1 h_1 =>
  rop P (Instr.loadAt 24 g2_1) h_1 fun t5_1 =>
  callM P 98 #[t5_1] h_1 fun t6_1 h_2 =>
  guardM t6_1 true (fun k_1 => k_1 places1_1 h_2) h_2 fun t8_1 h_3 =>
  guardM t6_1 true (fun k_2 => pop P (Instr.makeFunc (Fn.func 100) #[] #[g2_1]) fun t9_1 =>
  k_2 t9_1 h_3) h_3 fun t9_2 h_4 =>
  guardM t6_1 true (fun k_3 => callM P 99 #[t8_1, t9_2] h_4 fun t10_1 h_5 =>
  k_3 t10_1 h_5) h_4 fun t10_2 h_6 =>
  guardM t6_1 true (fun k_4 => pop P (Op.unary .not t10_2) fun t11_1 =>
  k_4 t11_1 h_6) h_6 fun t11_2 h_7 =>
  pop P (pickS t6_1 t11_2 (Value.bool false)) fun t12_1 =>
  K t12_1 h_7
theorem e68 (g0_1 : Value) (places1_1 : Value) (h : Heap) (K : Value → Heap → Prop) : wpA Try.prog 13 (anOf []) (bodyOf Try.f68) 1 (fun A h => resA Try.prog A h K [.tmp 4]) (fun _ _ _ => False) (fun A h => resA Try.prog A h K [.tmp 4]) (aargs [g0_1, places1_1] 0) h = t68 Try.prog g0_1 places1_1 h K := by kernel_rfl
theorem c68 (g0_1 : Value) (places1_1 : Value) (h : Heap) (K : Value → Heap → Prop) (H : t68 Try.prog g0_1 places1_1 h K) : callM Try.prog 68 #[g0_1, places1_1] h K :=
  callM_of_wpA mixed (fn := Try.f68) Try.func68 (c := bodyOf Try.f68) rfl (of_decide_eq_true (by kernel_rfl)) (anOf []) 11 13 (by kernel_rfl) rfl [.tmp 4] (by kernel_rfl) (args := [g0_1, places1_1]) (by rw [e68]; exact H)

/-! (impl.Graph).copied -/
def t69 (P : Program) (g0_1 : Value) (h : Heap) (K : Value → Heap → Prop) : Prop :=
  eop P (Instr.box 24 g0_1) h fun g1_1 h_1 =>
  eop P (Instr.alloc 24 true (.tuple #[])) h_1 fun t2_1 h_2 =>
  pop P (Instr.build 24 #[]) fun t6_1 =>
  eop P (Instr.alloc 24 true (.tuple #[])) h_2 fun out3_1 h_3 =>
  uop P (Instr.storeAt 24 out3_1 t6_1) h_3 fun u_1 h_4 =>
  pop P (Instr.fieldAt 24 g1_1 0) fun t7_1 =>
  rop P (Instr.loadAt 22 t7_1) h_4 fun t8_1 =>
  pop P (lenS 22 3 t8_1) fun t9_1 =>
  ∃ (I_1 : List Value → Heap → Prop) (μ_1 : List Value → Heap → Nat), I_1 [(Value.int IntKind.i64 0)] h_4 ∧
  ∀ (junk_1 : Nat → Value) (t10_1 : Value) (h_5 : Heap), I_1 [t10_1] h_5 →
  pop P (binA .lss 3 t10_1 t9_1) fun t11_1 =>
  condM t11_1
  (pop P (Instr.indexAt 22 t8_1 t10_1) fun t12_1 =>
  rop P (Instr.loadAt 25 t12_1) h_5 fun t13_1 =>
  pop P (Instr.fieldAt 24 out3_1 0) fun t14_1 =>
  rop P (Instr.loadAt 22 t14_1) h_5 fun t15_1 =>
  callM P 101 #[t13_1] h_5 fun t17_1 h_6 =>
  (∀ w : World, w.heap = h_6 → (Instr.loadAt 22 t14_1).run P w = .ok t15_1 w) ∧
  eop P (Instr.buildSlice 22 1 #[(0, t17_1)]) h_6 fun t18_1 h_7 =>
  (∀ w : World, w.heap = h_7 → (Instr.loadAt 22 t14_1).run P w = .ok t15_1 w) ∧
  eop P (appS 22 22 22 t15_1 t18_1) h_7 fun t19_1 h_8 =>
  pop P (Instr.fieldAt 24 out3_1 0) fun t20_1 =>
  uop P (Instr.storeAt 22 t20_1 t19_1) h_8 fun u_2 h_9 =>
  pop P (binA .add 3 t10_1 (Value.int IntKind.i64 1)) fun t21_1 =>
  I_1 [t21_1] h_9 ∧ μ_1 [t21_1] h_9 < μ_1 [t10_1] h_5)
  (rop P (Instr.loadAt 24 out3_1) h_5 fun t22_1 =>
  uop P (Instr.storeAt 24 t2_1 t22_1) h_5 fun u_3 h_10 =>
  rop P (Instr.loadAt 24 t2_1) h_10 fun r_1 =>
  K r_1 h_10)
theorem e69 (g0_1 : Value) (h : Heap) (K : Value → Heap → Prop) : wpA Try.prog 23 (anOf [(58, [10])]) (bodyOf Try.f69) 1 (fun A h => resA Try.prog A h K [.cell 2 24]) (fun _ _ _ => False) (fun A h => resA Try.prog A h K [.cell 2 24]) (aargs [g0_1] 0) h = t69 Try.prog g0_1 h K := by kernel_rfl
theorem c69 (g0_1 : Value) (h : Heap) (K : Value → Heap → Prop) (H : t69 Try.prog g0_1 h K) : callM Try.prog 69 #[g0_1] h K :=
  callM_of_wpA mixed (fn := Try.f69) Try.func69 (c := bodyOf Try.f69) rfl (of_decide_eq_true (by kernel_rfl)) (anOf [(58, [10])]) 22 23 (by kernel_rfl) rfl [.cell 2 24] (by kernel_rfl) (args := [g0_1]) (by rw [e69]; exact H)

/-! laws.eqIntSS -/
def t71 (P : Program) (a0_1 : Value) (b1_1 : Value) (h : Heap) (K : Value → Heap → Prop) : Prop :=
  pop P (lenS 22 3 a0_1) fun t7_1 =>
  pop P (lenS 22 3 b1_1) fun t9_1 =>
  pop P (binE .neq 3 (.tmp 7) (.tmp 9) t7_1 t9_1) fun t10_1 =>
  condM t10_1
  (K (Value.bool false) h)
  (∃ (I_1 : List Value → Heap → Prop) (μ_1 : List Value → Heap → Nat), I_1 [(Value.int IntKind.i64 0)] h ∧
  ∀ (junk_1 : Nat → Value) (i5_1 : Value) (h_1 : Heap), I_1 [i5_1] h_1 →
  pop P (lenS 22 3 a0_1) fun t13_1 =>
  pop P (binA .lss 3 i5_1 t13_1) fun t14_1 =>
  condM t14_1
  (pop P (Instr.indexAt 22 a0_1 i5_1) fun t19_1 =>
  rop P (Instr.loadAt 25 t19_1) h_1 fun t20_1 =>
  pop P (Instr.indexAt 22 b1_1 i5_1) fun t23_1 =>
  rop P (Instr.loadAt 25 t23_1) h_1 fun t24_1 =>
  callM P 53 #[t20_1, t24_1] h_1 fun t25_1 h_2 =>
  pop P (Op.unary .not t25_1) fun t26_1 =>
  condM t26_1
  (K (Value.bool false) h_2)
  (pop P (binA .add 3 i5_1 (Value.int IntKind.i64 1)) fun t16_1 =>
  I_1 [t16_1] h_2 ∧ μ_1 [t16_1] h_2 < μ_1 [i5_1] h_1))
  (K (Value.bool true) h_1))
theorem e71 (a0_1 : Value) (b1_1 : Value) (h : Heap) (K : Value → Heap → Prop) : wpA Try.prog 27 (anOf [(58, [5])]) (bodyOf Try.f71) 1 (fun A h => resA Try.prog A h K [.tmp 4]) (fun _ _ _ => False) (fun A h => resA Try.prog A h K [.tmp 4]) (aargs [a0_1, b1_1] 0) h = t71 Try.prog a0_1 b1_1 h K := by kernel_rfl
theorem c71 (a0_1 : Value) (b1_1 : Value) (h : Heap) (K : Value → Heap → Prop) (H : t71 Try.prog a0_1 b1_1 h K) : callM Try.prog 71 #[a0_1, b1_1] h K :=
  callM_of_wpA mixed (fn := Try.f71) Try.func71 (c := bodyOf Try.f71) rfl (of_decide_eq_true (by kernel_rfl)) (anOf [(58, [5])]) 25 27 (by kernel_rfl) rfl [.tmp 4] (by kernel_rfl) (args := [a0_1, b1_1]) (by rw [e71]; exact H)

/-! laws.markIntSS -/
def t72 (P : Program) (a0_1 : Value) (k1_1 : Value) (h : Heap) (K : Value → Heap → Prop) : Prop :=
  ∃ (I_1 : List Value → Heap → Prop) (μ_1 : List Value → Heap → Nat), I_1 [k1_1, (Value.int IntKind.i64 0)] h ∧
  ∀ (junk_1 : Nat → Value) (k1_2 : Value) (i5_1 : Value) (h_1 : Heap), I_1 [k1_2, i5_1] h_1 →
  pop P (lenS 22 3 a0_1) fun t8_1 =>
  pop P (binA .lss 3 i5_1 t8_1) fun t9_1 =>
  condM t9_1
  (pop P (Instr.indexAt 22 a0_1 i5_1) fun t14_1 =>
  rop P (Instr.loadAt 25 t14_1) h_1 fun t15_1 =>
  callM P 54 #[t15_1, k1_2] h_1 fun t17_1 h_2 =>
  pop P (binA .add 3 i5_1 (Value.int IntKind.i64 1)) fun t11_1 =>
  I_1 [t17_1, t11_1] h_2 ∧ μ_1 [t17_1, t11_1] h_2 < μ_1 [k1_2, i5_1] h_1)
  (K k1_2 h_1)
theorem e72 (a0_1 : Value) (k1_1 : Value) (h : Heap) (K : Value → Heap → Prop) : wpA Try.prog 19 (anOf [(26, [1, 5])]) (bodyOf Try.f72) 1 (fun A h => resA Try.prog A h K [.tmp 4]) (fun _ _ _ => False) (fun A h => resA Try.prog A h K [.tmp 4]) (aargs [a0_1, k1_1] 0) h = t72 Try.prog a0_1 k1_1 h K := by kernel_rfl
theorem c72 (a0_1 : Value) (k1_1 : Value) (h : Heap) (K : Value → Heap → Prop) (H : t72 Try.prog a0_1 k1_1 h K) : callM Try.prog 72 #[a0_1, k1_1] h K :=
  callM_of_wpA mixed (fn := Try.f72) Try.func72 (c := bodyOf Try.f72) rfl (of_decide_eq_true (by kernel_rfl)) (anOf [(26, [1, 5])]) 17 19 (by kernel_rfl) rfl [.tmp 4] (by kernel_rfl) (args := [a0_1, k1_1]) (by rw [e72]; exact H)

/-! laws.heldIntSS -/
def t73 (P : Program) (a0_1 : Value) (k1_1 : Value) (h : Heap) (K : Value → Heap → Prop) : Prop :=
  ∃ (I_1 : List Value → Heap → Prop) (μ_1 : List Value → Heap → Nat), I_1 [k1_1, (Value.int IntKind.i64 0)] h ∧
  ∀ (junk_1 : Nat → Value) (k1_2 : Value) (i5_1 : Value) (h_1 : Heap), I_1 [k1_2, i5_1] h_1 →
  pop P (lenS 22 3 a0_1) fun t8_1 =>
  pop P (binA .lss 3 i5_1 t8_1) fun t9_1 =>
  condM t9_1
  (pop P (Instr.indexAt 22 a0_1 i5_1) fun t14_1 =>
  rop P (Instr.loadAt 25 t14_1) h_1 fun t15_1 =>
  callM P 55 #[t15_1, k1_2] h_1 fun t17_1 h_2 =>
  pop P (binA .lss 3 t17_1 (Value.int IntKind.i64 0)) fun t19_1 =>
  condM t19_1
  (K (Value.int IntKind.i64 (-1)) h_2)
  (pop P (binA .add 3 i5_1 (Value.int IntKind.i64 1)) fun t11_1 =>
  I_1 [t17_1, t11_1] h_2 ∧ μ_1 [t17_1, t11_1] h_2 < μ_1 [k1_2, i5_1] h_1))
  (K k1_2 h_1)
theorem e73 (a0_1 : Value) (k1_1 : Value) (h : Heap) (K : Value → Heap → Prop) : wpA Try.prog 21 (anOf [(26, [1, 5])]) (bodyOf Try.f73) 1 (fun A h => resA Try.prog A h K [.tmp 4]) (fun _ _ _ => False) (fun A h => resA Try.prog A h K [.tmp 4]) (aargs [a0_1, k1_1] 0) h = t73 Try.prog a0_1 k1_1 h K := by kernel_rfl
theorem c73 (a0_1 : Value) (k1_1 : Value) (h : Heap) (K : Value → Heap → Prop) (H : t73 Try.prog a0_1 k1_1 h K) : callM Try.prog 73 #[a0_1, k1_1] h K :=
  callM_of_wpA mixed (fn := Try.f73) Try.func73 (c := bodyOf Try.f73) rfl (of_decide_eq_true (by kernel_rfl)) (anOf [(26, [1, 5])]) 19 21 (by kernel_rfl) rfl [.tmp 4] (by kernel_rfl) (args := [a0_1, k1_1]) (by rw [e73]; exact H)

/-! spec.l1In -/
def t74 (P : Program) (n0_1 : Value) (lo1_1 : Value) (hi2_1 : Value) (h : Heap) (K : Value → Heap → Prop) : Prop :=
  pop P (binA .geq 3 n0_1 lo1_1) fun t9_1 =>
  guardM t9_1 true (fun k_1 => k_1 n0_1 h) h fun t11_1 h_1 =>
  guardM t9_1 true (fun k_2 => k_2 hi2_1 h_1) h_1 fun t12_1 h_2 =>
  guardM t9_1 true (fun k_3 => pop P (binA .leq 3 t11_1 t12_1) fun t13_1 =>
  k_3 t13_1 h_2) h_2 fun t13_2 h_3 =>
  pop P (pickS t9_1 t13_2 (Value.bool false)) fun t14_1 =>
  K t14_1 h_3
theorem e74 (n0_1 : Value) (lo1_1 : Value) (hi2_1 : Value) (h : Heap) (K : Value → Heap → Prop) : wpA Try.prog 15 (anOf []) (bodyOf Try.f74) 1 (fun A h => resA Try.prog A h K [.tmp 6]) (fun _ _ _ => False) (fun A h => resA Try.prog A h K [.tmp 6]) (aargs [n0_1, lo1_1, hi2_1] 0) h = t74 Try.prog n0_1 lo1_1 hi2_1 h K := by kernel_rfl
theorem c74 (n0_1 : Value) (lo1_1 : Value) (hi2_1 : Value) (h : Heap) (K : Value → Heap → Prop) (H : t74 Try.prog n0_1 lo1_1 hi2_1 h K) : callM Try.prog 74 #[n0_1, lo1_1, hi2_1] h K :=
  callM_of_wpA mixed (fn := Try.f74) Try.func74 (c := bodyOf Try.f74) rfl (of_decide_eq_true (by kernel_rfl)) (anOf []) 12 15 (by kernel_rfl) rfl [.tmp 6] (by kernel_rfl) (args := [n0_1, lo1_1, hi2_1]) (by rw [e74]; exact H)

/-! impl.in -/
def t75 (P : Program) (n0_1 : Value) (low1_1 : Value) (high2_1 : Value) (h : Heap) (K : Value → Heap → Prop) : Prop :=
  pop P (binA .leq 3 low1_1 n0_1) fun t9_1 =>
  guardM t9_1 true (fun k_1 => k_1 n0_1 h) h fun t11_1 h_1 =>
  guardM t9_1 true (fun k_2 => k_2 high2_1 h_1) h_1 fun t12_1 h_2 =>
  guardM t9_1 true (fun k_3 => pop P (binA .leq 3 t11_1 t12_1) fun t13_1 =>
  k_3 t13_1 h_2) h_2 fun t13_2 h_3 =>
  pop P (pickS t9_1 t13_2 (Value.bool false)) fun t14_1 =>
  K t14_1 h_3
theorem e75 (n0_1 : Value) (low1_1 : Value) (high2_1 : Value) (h : Heap) (K : Value → Heap → Prop) : wpA Try.prog 15 (anOf []) (bodyOf Try.f75) 1 (fun A h => resA Try.prog A h K [.tmp 6]) (fun _ _ _ => False) (fun A h => resA Try.prog A h K [.tmp 6]) (aargs [n0_1, low1_1, high2_1] 0) h = t75 Try.prog n0_1 low1_1 high2_1 h K := by kernel_rfl
theorem c75 (n0_1 : Value) (low1_1 : Value) (high2_1 : Value) (h : Heap) (K : Value → Heap → Prop) (H : t75 Try.prog n0_1 low1_1 high2_1 h K) : callM Try.prog 75 #[n0_1, low1_1, high2_1] h K :=
  callM_of_wpA mixed (fn := Try.f75) Try.func75 (c := bodyOf Try.f75) rfl (of_decide_eq_true (by kernel_rfl)) (anOf []) 12 15 (by kernel_rfl) rfl [.tmp 6] (by kernel_rfl) (args := [n0_1, low1_1, high2_1]) (by rw [e75]; exact H)

/-! slices.Concat[[]int,int] -/
def t76 (P : Program) (slices0_1 : Value) (h : Heap) (K : Value → Heap → Prop) : Prop :=
  pop P (lenS 22 3 slices0_1) fun t10_1 =>
  ∃ (I_1 : List Value → Heap → Prop) (μ_1 : List Value → Heap → Nat), I_1 [(Value.int IntKind.i64 0), (Value.int IntKind.i64 0)] h ∧
  ∀ (junk_1 : Nat → Value) (size3_1 : Value) (t11_1 : Value) (h_1 : Heap), I_1 [size3_1, t11_1] h_1 →
  pop P (binA .lss 3 t11_1 t10_1) fun t12_1 =>
  condM t12_1
  (pop P (Instr.indexAt 22 slices0_1 t11_1) fun t13_1 =>
  rop P (Instr.loadAt 25 t13_1) h_1 fun t14_1 =>
  pop P (lenS 25 3 t14_1) fun t17_1 =>
  pop P (binA .add 3 size3_1 t17_1) fun t18_1 =>
  pop P (binA .lss 3 t18_1 (Value.int IntKind.i64 0)) fun t20_1 =>
  condM t20_1
  (pop P (Instr.makeInterface 9 (Value.string { data := #[108, 101, 110, 32, 111, 117, 116, 32, 111, 102, 32, 114, 97, 110, 103, 101] })) fun t21_1 =>
  False)
  (pop P (binA .add 3 t11_1 (Value.int IntKind.i64 1)) fun t22_1 =>
  I_1 [t18_1, t22_1] h_1 ∧ μ_1 [t18_1, t22_1] h_1 < μ_1 [size3_1, t11_1] h_1))
  (callM P 102 #[(Value.slice none 0 0), size3_1] h_1 fun t24_1 h_2 =>
  pop P (lenS 22 3 slices0_1) fun t26_1 =>
  ∃ (I_2 : List Value → Heap → Prop) (μ_2 : List Value → Heap → Nat), I_2 [t24_1, (Value.int IntKind.i64 0)] h_2 ∧
  ∀ (junk_2 : Nat → Value) (newslice6_1 : Value) (t27_1 : Value) (h_3 : Heap), I_2 [newslice6_1, t27_1] h_3 →
  pop P (binA .lss 3 t27_1 t26_1) fun t28_1 =>
  condM t28_1
  (pop P (Instr.indexAt 22 slices0_1 t27_1) fun t29_1 =>
  rop P (Instr.loadAt 25 t29_1) h_3 fun t30_1 =>
  eop P (appS 25 25 25 newslice6_1 t30_1) h_3 fun t33_1 h_4 =>
  pop P (binA .add 3 t27_1 (Value.int IntKind.i64 1)) fun t34_1 =>
  I_2 [t33_1, t34_1] h_4 ∧ μ_2 [t33_1, t34_1] h_4 < μ_2 [newslice6_1, t27_1] h_3)
  (K newslice6_1 h_3))
theorem e76 (slices0_1 : Value) (h : Heap) (K : Value → Heap → Prop) : wpA Try.prog 36 (anOf [(58, [3, 11]), (250, [6, 27])]) (bodyOf Try.f76) 1 (fun A h => resA Try.prog A h K [.tmp 2]) (fun _ _ _ => False) (fun A h => resA Try.prog A h K [.tmp 2]) (aargs [slices0_1] 0) h = t76 Try.prog slices0_1 h K := by kernel_rfl
theorem c76 (slices0_1 : Value) (h : Heap) (K : Value → Heap → Prop) (H : t76 Try.prog slices0_1 h K) : callM Try.prog 76 #[slices0_1] h K :=
  callM_of_wpA mixed (fn := Try.f76) Try.func76 (c := bodyOf Try.f76) rfl (of_decide_eq_true (by kernel_rfl)) (anOf [(58, [3, 11]), (250, [6, 27])]) 35 36 (by kernel_rfl) rfl [.tmp 2] (by kernel_rfl) (args := [slices0_1]) (by rw [e76]; exact H)

/-! laws.szIntS -/
def t77 (P : Program) (a0_1 : Value) (left1_1 : Value) (h : Heap) (K : Value → Heap → Prop) : Prop :=
  pop P (lenS 25 3 a0_1) fun t7_1 =>
  pop P (binA .sub 3 left1_1 t7_1) fun t8_1 =>
  pop P (binA .lss 3 t8_1 (Value.int IntKind.i64 0)) fun t10_1 =>
  condM t10_1
  (K (Value.int IntKind.i64 (-1)) h)
  (K t8_1 h)
theorem e77 (a0_1 : Value) (left1_1 : Value) (h : Heap) (K : Value → Heap → Prop) : wpA Try.prog 12 (anOf []) (bodyOf Try.f77) 1 (fun A h => resA Try.prog A h K [.tmp 4]) (fun _ _ _ => False) (fun A h => resA Try.prog A h K [.tmp 4]) (aargs [a0_1, left1_1] 0) h = t77 Try.prog a0_1 left1_1 h K := by kernel_rfl
theorem c77 (a0_1 : Value) (left1_1 : Value) (h : Heap) (K : Value → Heap → Prop) (H : t77 Try.prog a0_1 left1_1 h K) : callM Try.prog 77 #[a0_1, left1_1] h K :=
  callM_of_wpA mixed (fn := Try.f77) Try.func77 (c := bodyOf Try.f77) rfl (of_decide_eq_true (by kernel_rfl)) (anOf []) 10 12 (by kernel_rfl) rfl [.tmp 4] (by kernel_rfl) (args := [a0_1, left1_1]) (by rw [e77]; exact H)

/-! laws.toIntS -/
def t80 (P : Program) (a0_1 : Value) (h : Heap) (K : Value → Heap → Prop) : Prop :=
  pop P (lenS 25 3 a0_1) fun t6_1 =>
  eop P (Instr.makeSlice 25 t6_1 t6_1) h fun t7_1 h_1 =>
  ∃ (I_1 : List Value → Heap → Prop) (μ_1 : List Value → Heap → Nat), I_1 [(Value.int IntKind.i64 0)] h_1 ∧
  ∀ (junk_1 : Nat → Value) (i4_1 : Value) (h_2 : Heap), I_1 [i4_1] h_2 →
  pop P (lenS 25 3 a0_1) fun t10_1 =>
  pop P (binA .lss 3 i4_1 t10_1) fun t11_1 =>
  condM t11_1
  (pop P (Instr.indexAt 25 a0_1 i4_1) fun t18_1 =>
  rop P (Instr.loadAt 3 t18_1) h_2 fun t19_1 =>
  pop P (Instr.indexAt 25 t7_1 i4_1) fun t20_1 =>
  uop P (Instr.storeAt 3 t20_1 t19_1) h_2 fun u_1 h_3 =>
  pop P (binA .add 3 i4_1 (Value.int IntKind.i64 1)) fun t13_1 =>
  I_1 [t13_1] h_3 ∧ μ_1 [t13_1] h_3 < μ_1 [i4_1] h_2)
  (K t7_1 h_2)
theorem e80 (a0_1 : Value) (h : Heap) (K : Value → Heap → Prop) : wpA Try.prog 22 (anOf [(58, [4])]) (bodyOf Try.f80) 1 (fun A h => resA Try.prog A h K [.tmp 2]) (fun _ _ _ => False) (fun A h => resA Try.prog A h K [.tmp 2]) (aargs [a0_1] 0) h = t80 Try.prog a0_1 h K := by kernel_rfl
theorem c80 (a0_1 : Value) (h : Heap) (K : Value → Heap → Prop) (H : t80 Try.prog a0_1 h K) : callM Try.prog 80 #[a0_1] h K :=
  callM_of_wpA mixed (fn := Try.f80) Try.func80 (c := bodyOf Try.f80) rfl (of_decide_eq_true (by kernel_rfl)) (anOf [(58, [4])]) 21 22 (by kernel_rfl) rfl [.tmp 2] (by kernel_rfl) (args := [a0_1]) (by rw [e80]; exact H)

/-! spec.l1Own -/
def t88 (P : Program) (l0_1 : Value) (h : Heap) (K : Value → Heap → Prop) : Prop :=
  eop P (Instr.buildSlice 25 0 #[]) h fun t3_1 h_1 =>
  eop P (appS 25 25 25 t3_1 l0_1) h_1 fun t5_1 h_2 =>
  K t5_1 h_2
theorem e88 (l0_1 : Value) (h : Heap) (K : Value → Heap → Prop) : wpA Try.prog 6 (anOf []) (bodyOf Try.f88) 1 (fun A h => resA Try.prog A h K [.tmp 2]) (fun _ _ _ => False) (fun A h => resA Try.prog A h K [.tmp 2]) (aargs [l0_1] 0) h = t88 Try.prog l0_1 h K := by kernel_rfl
theorem c88 (l0_1 : Value) (h : Heap) (K : Value → Heap → Prop) (H : t88 Try.prog l0_1 h K) : callM Try.prog 88 #[l0_1] h K :=
  callM_of_wpA mixed (fn := Try.f88) Try.func88 (c := bodyOf Try.f88) rfl (of_decide_eq_true (by kernel_rfl)) (anOf []) 5 6 (by kernel_rfl) rfl [.tmp 2] (by kernel_rfl) (args := [l0_1]) (by rw [e88]; exact H)

/-! spec.grGood -/
def t97 (P : Program) (g0_1 : Value) (h : Heap) (K : Value → Heap → Prop) : Prop :=
  eop P (Instr.box 24 g0_1) h fun g1_1 h_1 =>
  pop P (Instr.fieldAt 24 g1_1 0) fun t6_1 =>
  rop P (Instr.loadAt 22 t6_1) h_1 fun t7_1 =>
  pop P (lenS 22 3 t7_1) fun t8_1 =>
  callM P 74 #[t8_1, (Value.int IntKind.i64 1), (Value.int IntKind.i64 8)] h_1 fun t10_1 h_2 =>
  pop P (Op.unary .not t10_1) fun t11_1 =>
  condM t11_1
  (K (Value.bool false) h_2)
  (pop P (Instr.fieldAt 24 g1_1 0) fun t12_1 =>
  rop P (Instr.loadAt 22 t12_1) h_2 fun t13_1 =>
  pop P (lenS 22 3 t13_1) fun t14_1 =>
  ∃ (I_1 : List Value → Heap → Prop) (μ_1 : List Value → Heap → Nat), I_1 [(Value.int IntKind.i64 0)] h_2 ∧
  ∀ (junk_1 : Nat → Value) (t15_1 : Value) (h_3 : Heap), I_1 [t15_1] h_3 →
  pop P (binA .lss 3 t15_1 t14_1) fun t16_1 =>
  condM t16_1
  (pop P (Instr.indexAt 22 t13_1 t15_1) fun t17_1 =>
  rop P (Instr.loadAt 25 t17_1) h_3 fun t18_1 =>
  pop P (lenS 25 3 t18_1) fun t20_1 =>
  pop P (binA .gtr 3 t20_1 (Value.int IntKind.i64 5)) fun t21_1 =>
  guardM t21_1 false (fun k_1 => k_1 t18_1 h_3) h_3 fun t23_1 h_4 =>
  guardM t21_1 false (fun k_2 => k_2 t8_1 h_4) h_4 fun t24_1 h_5 =>
  guardM t21_1 false (fun k_3 => pop P (binA .sub 3 t24_1 (Value.int IntKind.i64 1)) fun t25_1 =>
  k_3 t25_1 h_5) h_5 fun t25_2 h_6 =>
  guardM t21_1 false (fun k_4 => callM P 108 #[t23_1, (Value.int IntKind.i64 0), t25_2] h_6 fun t26_1 h_7 =>
  k_4 t26_1 h_7) h_6 fun t26_2 h_8 =>
  guardM t21_1 false (fun k_5 => pop P (Op.unary .not t26_2) fun t27_1 =>
  k_5 t27_1 h_8) h_8 fun t27_2 h_9 =>
  pop P (pickS t21_1 (Value.bool true) t27_2) fun t28_1 =>
  condM t28_1
  (K (Value.bool false) h_9)
  (pop P (binA .add 3 t15_1 (Value.int IntKind.i64 1)) fun t29_1 =>
  I_1 [t29_1] h_9 ∧ μ_1 [t29_1] h_9 < μ_1 [t15_1] h_3))
  (K (Value.bool true) h_3))
theorem e97 (g0_1 : Value) (h : Heap) (K : Value → Heap → Prop) : wpA Try.prog 30 (anOf [(122, [15])]) (bodyOf Try.f97) 1 (fun A h => resA Try.prog A h K [.tmp 2]) (fun _ _ _ => False) (fun A h => resA Try.prog A h K [.tmp 2]) (aargs [g0_1] 0) h = t97 Try.prog g0_1 h K := by kernel_rfl
theorem c97 (g0_1 : Value) (h : Heap) (K : Value → Heap → Prop) (H : t97 Try.prog g0_1 h K) : callM Try.prog 97 #[g0_1] h K :=
  callM_of_wpA mixed (fn := Try.f97) Try.func97 (c := bodyOf Try.f97) rfl (of_decide_eq_true (by kernel_rfl)) (anOf [(122, [15])]) 29 30 (by kernel_rfl) rfl [.tmp 2] (by kernel_rfl) (args := [g0_1]) (by rw [e97]; exact H)

/-! impl.isGraph -/
def t98 (P : Program) (g0_1 : Value) (h : Heap) (K : Value → Heap → Prop) : Prop :=
  eop P (Instr.box 24 g0_1) h fun g1_1 h_1 =>
  pop P (Instr.fieldAt 24 g1_1 0) fun t6_1 =>
  rop P (Instr.loadAt 22 t6_1) h_1 fun t7_1 =>
  pop P (lenS 22 3 t7_1) fun t8_1 =>
  eop P (Instr.alloc 3 true (.tuple #[])) h_1 fun n3_1 h_2 =>
  uop P (Instr.storeAt 3 n3_1 t8_1) h_2 fun u_1 h_3 =>
  rop P (Instr.loadAt 3 n3_1) h_3 fun t9_1 =>
  callM P 75 #[t9_1, (Value.int IntKind.i64 1), (Value.int IntKind.i64 8)] h_3 fun t10_1 h_4 =>
  pop P (Op.unary .not t10_1) fun t11_1 =>
  condM t11_1
  (K (Value.bool false) h_4)
  (pop P (Instr.fieldAt 24 g1_1 0) fun t12_1 =>
  rop P (Instr.loadAt 22 t12_1) h_4 fun t13_1 =>
  pop P (lenS 22 3 t13_1) fun t14_1 =>
  ∃ (I_1 : List Value → Heap → Prop) (μ_1 : List Value → Heap → Nat), I_1 [(Value.int IntKind.i64 0)] h_4 ∧
  ∀ (junk_1 : Nat → Value) (t15_1 : Value) (h_5 : Heap), I_1 [t15_1] h_5 →
  pop P (binA .lss 3 t15_1 t14_1) fun t16_1 =>
  condM t16_1
  (pop P (Instr.indexAt 22 t13_1 t15_1) fun t17_1 =>
  rop P (Instr.loadAt 25 t17_1) h_5 fun t18_1 =>
  pop P (lenS 25 3 t18_1) fun t20_1 =>
  pop P (binA .gtr 3 t20_1 (Value.int IntKind.i64 5)) fun t21_1 =>
  guardM t21_1 false (fun k_1 => k_1 t18_1 h_5) h_5 fun t23_1 h_6 =>
  guardM t21_1 false (fun k_2 => pop P (Instr.makeFunc (Fn.func 109) #[] #[n3_1]) fun t24_1 =>
  k_2 t24_1 h_6) h_6 fun t24_2 h_7 =>
  guardM t21_1 false (fun k_3 => callM P 99 #[t23_1, t24_2] h_7 fun t25_1 h_8 =>
  k_3 t25_1 h_8) h_7 fun t25_2 h_9 =>
  pop P (pickS t21_1 (Value.bool true) t25_2) fun t26_1 =>
  condM t26_1
  (K (Value.bool false) h_9)
  (pop P (binA .add 3 t15_1 (Value.int IntKind.i64 1)) fun t27_1 =>
  I_1 [t27_1] h_9 ∧ μ_1 [t27_1] h_9 < μ_1 [t15_1] h_5))
  (K (Value.bool true) h_5))
theorem e98 (g0_1 : Value) (h : Heap) (K : Value → Heap → Prop) : wpA Try.prog 28 (anOf [(122, [15])]) (bodyOf Try.f98) 1 (fun A h => resA Try.prog A h K [.tmp 2]) (fun _ _ _ => False) (fun A h => resA Try.prog A h K [.tmp 2]) (aargs [g0_1] 0) h = t98 Try.prog g0_1 h K := by kernel_rfl
theorem c98 (g0_1 : Value) (h : Heap) (K : Value → Heap → Prop) (H : t98 Try.prog g0_1 h K) : callM Try.prog 98 #[g0_1] h K :=
  callM_of_wpA mixed (fn := Try.f98) Try.func98 (c := bodyOf Try.f98) rfl (of_decide_eq_true (by kernel_rfl)) (anOf [(122, [15])]) 27 28 (by kernel_rfl) rfl [.tmp 2] (by kernel_rfl) (args := [g0_1]) (by rw [e98]; exact H)

/-! slices.ContainsFunc[[]int,int] -/
def t99 (P : Program) (s0_1 : Value) (f1_1 : Value) (h : Heap) (K : Value → Heap → Prop) : Prop :=
  callM P 110 #[s0_1, f1_1] h fun t7_1 h_1 =>
  pop P (binA .geq 3 t7_1 (Value.int IntKind.i64 0)) fun t8_1 =>
  K t8_1 h_1
theorem e99 (s0_1 : Value) (f1_1 : Value) (h : Heap) (K : Value → Heap → Prop) : wpA Try.prog 9 (anOf []) (bodyOf Try.f99) 1 (fun A h => resA Try.prog A h K [.tmp 4]) (fun _ _ _ => False) (fun A h => resA Try.prog A h K [.tmp 4]) (aargs [s0_1, f1_1] 0) h = t99 Try.prog s0_1 f1_1 h K := by kernel_rfl
theorem c99 (s0_1 : Value) (f1_1 : Value) (h : Heap) (K : Value → Heap → Prop) (H : t99 Try.prog s0_1 f1_1 h K) : callM Try.prog 99 #[s0_1, f1_1] h K :=
  callM_of_wpA mixed (fn := Try.f99) Try.func99 (c := bodyOf Try.f99) rfl (of_decide_eq_true (by kernel_rfl)) (anOf []) 7 9 (by kernel_rfl) rfl [.tmp 4] (by kernel_rfl) (args := [s0_1, f1_1]) (by rw [e99]; exact H)

/-! impl.has$1 -/
def t100 (P : Program) (p0_1 : Value) (t1_1 : Value) (h : Heap) (K : Value → Heap → Prop) : Prop :=
  pop P (Instr.fieldAt 24 t1_1 0) fun t5_1 =>
  rop P (Instr.loadAt 22 t5_1) h fun t6_1 =>
  pop P (lenS 22 3 t6_1) fun t7_1 =>
  pop P (binA .sub 3 t7_1 (Value.int IntKind.i64 1)) fun t8_1 =>
  callM P 75 #[p0_1, (Value.int IntKind.i64 0), t8_1] h fun t9_1 h_1 =>
  pop P (Op.unary .not t9_1) fun t10_1 =>
  K t10_1 h_1
theorem e100 (p0_1 : Value) (t1_1 : Value) (h : Heap) (K : Value → Heap → Prop) : wpA Try.prog 11 (anOf []) (bodyOf Try.f100) 1 (fun A h => resA Try.prog A h K [.tmp 3]) (fun _ _ _ => False) (fun A h => resA Try.prog A h K [.tmp 3]) (aargs [p0_1, t1_1] 0) h = t100 Try.prog p0_1 t1_1 h K := by kernel_rfl
theorem c100 (p0_1 : Value) (t1_1 : Value) (h : Heap) (K : Value → Heap → Prop) (H : t100 Try.prog p0_1 t1_1 h K) : callM Try.prog 100 #[p0_1, t1_1] h K :=
  callM_of_wpA mixed (fn := Try.f100) Try.func100 (c := bodyOf Try.f100) rfl (of_decide_eq_true (by kernel_rfl)) (anOf []) 9 11 (by kernel_rfl) rfl [.tmp 3] (by kernel_rfl) (args := [p0_1, t1_1]) (by rw [e100]; exact H)

/-! slices.Clone[[]int,int] -/
def t101 (P : Program) (s0_1 : Value) (h : Heap) (K : Value → Heap → Prop) : Prop :=
  pop P (binE .eql 25 (.tmp 3) (.const (Value.slice none 0 0)) s0_1 (Value.slice none 0 0)) fun t4_1 =>
  condM t4_1
  (K (Value.slice none 0 0) h)
  (eop P (Instr.buildSlice 25 0 #[]) h fun t5_1 h_1 =>
  eop P (appS 25 25 25 t5_1 s0_1) h_1 fun t7_1 h_2 =>
  K t7_1 h_2)
theorem e101 (s0_1 : Value) (h : Heap) (K : Value → Heap → Prop) : wpA Try.prog 8 (anOf []) (bodyOf Try.f101) 1 (fun A h => resA Try.prog A h K [.tmp 2]) (fun _ _ _ => False) (fun A h => resA Try.prog A h K [.tmp 2]) (aargs [s0_1] 0) h = t101 Try.prog s0_1 h K := by kernel_rfl
theorem c101 (s0_1 : Value) (h : Heap) (K : Value → Heap → Prop) (H : t101 Try.prog s0_1 h K) : callM Try.prog 101 #[s0_1] h K :=
  callM_of_wpA mixed (fn := Try.f101) Try.func101 (c := bodyOf Try.f101) rfl (of_decide_eq_true (by kernel_rfl)) (anOf []) 7 8 (by kernel_rfl) rfl [.tmp 2] (by kernel_rfl) (args := [s0_1]) (by rw [e101]; exact H)

/-! slices.Grow[[]int,int] -/
def t102 (P : Program) (s0_1 : Value) (n1_1 : Value) (h : Heap) (K : Value → Heap → Prop) : Prop :=
  ∃ J_1 : List Value → Heap → Prop, (pop P (binA .lss 3 n1_1 (Value.int IntKind.i64 0)) fun t6_1 =>
  condM t6_1
  (pop P (Instr.makeInterface 9 (Value.string { data := #[99, 97, 110, 110, 111, 116, 32, 98, 101, 32, 110, 101, 103, 97, 116, 105, 118, 101] })) fun t7_1 =>
  False)
  (J_1 [] h)) ∧
  ∀ (junk_1 : Nat → Value) (h_1 : Heap), J_1 [] h_1 →
  pop P (Builtin.cap_ #[25] 3 #[s0_1]) fun t10_1 =>
  pop P (lenS 25 3 s0_1) fun t12_1 =>
  pop P (binA .sub 3 t10_1 t12_1) fun t13_1 =>
  pop P (binA .sub 3 n1_1 t13_1) fun t14_1 =>
  pop P (binA .gtr 3 t14_1 (Value.int IntKind.i64 0)) fun t16_1 =>
  condM t16_1
  (pop P (Builtin.cap_ #[25] 3 #[s0_1]) fun t19_1 =>
  pop P (Instr.sliceAt 25 s0_1 none (some t19_1) none) fun t20_1 =>
  eop P (appS 25 3 25 t20_1 t14_1) h_1 fun t22_1 h_2 =>
  pop P (lenS 25 3 s0_1) fun t24_1 =>
  pop P (Instr.sliceAt 25 t22_1 none (some t24_1) none) fun t25_1 =>
  K t25_1 h_2)
  (K s0_1 h_1)
theorem e102 (s0_1 : Value) (n1_1 : Value) (h : Heap) (K : Value → Heap → Prop) : wpA Try.prog 27 (anOf [(3, [])]) (bodyOf Try.f102) 1 (fun A h => resA Try.prog A h K [.tmp 4]) (fun _ _ _ => False) (fun A h => resA Try.prog A h K [.tmp 4]) (aargs [s0_1, n1_1] 0) h = t102 Try.prog s0_1 n1_1 h K := by kernel_rfl
theorem c102 (s0_1 : Value) (n1_1 : Value) (h : Heap) (K : Value → Heap → Prop) (H : t102 Try.prog s0_1 n1_1 h K) : callM Try.prog 102 #[s0_1, n1_1] h K :=
  callM_of_wpA mixed (fn := Try.f102) Try.func102 (c := bodyOf Try.f102) rfl (of_decide_eq_true (by kernel_rfl)) (anOf [(3, [])]) 25 27 (by kernel_rfl) rfl [.tmp 4] (by kernel_rfl) (args := [s0_1, n1_1]) (by rw [e102]; exact H)

/-! spec.l1All -/
def t108 (P : Program) (l0_1 : Value) (lo1_1 : Value) (hi2_1 : Value) (h : Heap) (K : Value → Heap → Prop) : Prop :=
  pop P (lenS 25 3 l0_1) fun t10_1 =>
  ∃ (I_1 : List Value → Heap → Prop) (μ_1 : List Value → Heap → Nat), I_1 [(Value.int IntKind.i64 0)] h ∧
  ∀ (junk_1 : Nat → Value) (t11_1 : Value) (h_1 : Heap), I_1 [t11_1] h_1 →
  pop P (binA .lss 3 t11_1 t10_1) fun t12_1 =>
  condM t12_1
  (pop P (Instr.indexAt 25 l0_1 t11_1) fun t13_1 =>
  rop P (Instr.loadAt 3 t13_1) h_1 fun t14_1 =>
  callM P 74 #[t14_1, lo1_1, hi2_1] h_1 fun t18_1 h_2 =>
  pop P (Op.unary .not t18_1) fun t19_1 =>
  condM t19_1
  (K (Value.bool false) h_2)
  (pop P (binA .add 3 t11_1 (Value.int IntKind.i64 1)) fun t20_1 =>
  I_1 [t20_1] h_2 ∧ μ_1 [t20_1] h_2 < μ_1 [t11_1] h_1))
  (K (Value.bool true) h_1)
theorem e108 (l0_1 : Value) (lo1_1 : Value) (hi2_1 : Value) (h : Heap) (K : Value → Heap → Prop) : wpA Try.prog 21 (anOf [(26, [11])]) (bodyOf Try.f108) 1 (fun A h => resA Try.prog A h K [.tmp 6]) (fun _ _ _ => False) (fun A h => resA Try.prog A h K [.tmp 6]) (aargs [l0_1, lo1_1, hi2_1] 0) h = t108 Try.prog l0_1 lo1_1 hi2_1 h K := by kernel_rfl
theorem c108 (l0_1 : Value) (lo1_1 : Value) (hi2_1 : Value) (h : Heap) (K : Value → Heap → Prop) (H : t108 Try.prog l0_1 lo1_1 hi2_1 h K) : callM Try.prog 108 #[l0_1, lo1_1, hi2_1] h K :=
  callM_of_wpA mixed (fn := Try.f108) Try.func108 (c := bodyOf Try.f108) rfl (of_decide_eq_true (by kernel_rfl)) (anOf [(26, [11])]) 18 21 (by kernel_rfl) rfl [.tmp 6] (by kernel_rfl) (args := [l0_1, lo1_1, hi2_1]) (by rw [e108]; exact H)

/-! impl.isGraph$1 -/
def t109 (P : Program) (q0_1 : Value) (t1_1 : Value) (h : Heap) (K : Value → Heap → Prop) : Prop :=
  rop P (Instr.loadAt 3 t1_1) h fun t5_1 =>
  pop P (binA .sub 3 t5_1 (Value.int IntKind.i64 1)) fun t6_1 =>
  callM P 75 #[q0_1, (Value.int IntKind.i64 0), t6_1] h fun t7_1 h_1 =>
  pop P (Op.unary .not t7_1) fun t8_1 =>
  K t8_1 h_1
theorem e109 (q0_1 : Value) (t1_1 : Value) (h : Heap) (K : Value → Heap → Prop) : wpA Try.prog 9 (anOf []) (bodyOf Try.f109) 1 (fun A h => resA Try.prog A h K [.tmp 3]) (fun _ _ _ => False) (fun A h => resA Try.prog A h K [.tmp 3]) (aargs [q0_1, t1_1] 0) h = t109 Try.prog q0_1 t1_1 h K := by kernel_rfl
theorem c109 (q0_1 : Value) (t1_1 : Value) (h : Heap) (K : Value → Heap → Prop) (H : t109 Try.prog q0_1 t1_1 h K) : callM Try.prog 109 #[q0_1, t1_1] h K :=
  callM_of_wpA mixed (fn := Try.f109) Try.func109 (c := bodyOf Try.f109) rfl (of_decide_eq_true (by kernel_rfl)) (anOf []) 7 9 (by kernel_rfl) rfl [.tmp 3] (by kernel_rfl) (args := [q0_1, t1_1]) (by rw [e109]; exact H)

/-! slices.IndexFunc[[]int,int] -/
def t110 (P : Program) (s0_1 : Value) (f1_1 : Value) (h : Heap) (K : Value → Heap → Prop) : Prop :=
  pop P (lenS 25 3 s0_1) fun t7_1 =>
  ∃ (I_1 : List Value → Heap → Prop) (μ_1 : List Value → Heap → Nat), I_1 [(Value.int IntKind.i64 0)] h ∧
  ∀ (junk_1 : Nat → Value) (t8_1 : Value) (h_1 : Heap), I_1 [t8_1] h_1 →
  pop P (binA .lss 3 t8_1 t7_1) fun t9_1 =>
  condM t9_1
  (pop P (Instr.indexAt 25 s0_1 t8_1) fun t14_1 =>
  rop P (Instr.loadAt 3 t14_1) h_1 fun t15_1 =>
  callV P f1_1 [t15_1] h_1 fun t16_1 h_2 =>
  condM t16_1
  (K t8_1 h_2)
  (pop P (binA .add 3 t8_1 (Value.int IntKind.i64 1)) fun t18_1 =>
  I_1 [t18_1] h_2 ∧ μ_1 [t18_1] h_2 < μ_1 [t8_1] h_1))
  (K (Value.int IntKind.i64 (-1)) h_1)
theorem e110 (s0_1 : Value) (f1_1 : Value) (h : Heap) (K : Value → Heap → Prop) : wpA Try.prog 19 (anOf [(26, [8])]) (bodyOf Try.f110) 1 (fun A h => resA Try.prog A h K [.tmp 4]) (fun _ _ _ => False) (fun A h => resA Try.prog A h K [.tmp 4]) (aargs [s0_1, f1_1] 0) h = t110 Try.prog s0_1 f1_1 h K := by kernel_rfl
theorem c110 (s0_1 : Value) (f1_1 : Value) (h : Heap) (K : Value → Heap → Prop) (H : t110 Try.prog s0_1 f1_1 h K) : callM Try.prog 110 #[s0_1, f1_1] h K :=
  callM_of_wpA mixed (fn := Try.f110) Try.func110 (c := bodyOf Try.f110) rfl (of_decide_eq_true (by kernel_rfl)) (anOf [(26, [8])]) 17 19 (by kernel_rfl) rfl [.tmp 4] (by kernel_rfl) (args := [s0_1, f1_1]) (by rw [e110]; exact H)

end Go.Proofs.Ytkphbhochacllaa
