/-
  What each function that the law 'FnExactEndOfLoad' comes to asks of the heap, named; tied to the loaded program by the kernel. Written by a program.
-/
import Derived.Test.YtjinpagnbflmiaaProg
import Derived.Test.YtjinpagnbflmiaaM1
set_option linter.unusedVariables false
namespace Go.Proofs.Ytjinpagnbflmiaa
open Go Go.Mx
theorem mixed : Try.prog.follows .mixedOrders = true := by kernel_rfl
/-! laws.FnExactEndOfLoad -/
def t14 (P : Program) (C0_1 : Value) (o1_1 : Value) (d2_1 : Value) (e3_1 : Value) (h : Heap) (K : Value → Heap → Prop) : Prop :=
  eop P (Instr.box 24 C0_1) h fun t4_1 h_1 =>
  eop P (Instr.box 59 d2_1) h_1 fun o6_1 h_2 =>
  pop P (lenS 25 3 e3_1) fun t23_1 =>
  pop P (binA .gtr 3 t23_1 (Value.int IntKind.i64 1048576)) fun t24_1 =>
  condM t24_1
  (K (Value.bool true) h_2)
  (rop P (Instr.loadAt 24 t4_1) h_2 fun t25_1 =>
  callM P 15 #[t25_1, (Value.int IntKind.i64 1048576)] h_2 fun t27_1 h_3 =>
  pop P (binA .lss 3 t27_1 (Value.int IntKind.i64 0)) fun t29_1 =>
  condM t29_1
  (K (Value.bool true) h_3)
  (rop P (Instr.loadAt 59 o6_1) h_3 fun t30_1 =>
  callM P 39 #[t30_1, t27_1] h_3 fun t32_1 h_4 =>
  pop P (binA .lss 3 t32_1 (Value.int IntKind.i64 0)) fun t34_1 =>
  condM t34_1
  (K (Value.bool true) h_4)
  (∃ J_1 : List Value → Heap → Prop, (rop P (Instr.loadAt 24 t4_1) h_4 fun t36_1 =>
  rop P (Instr.loadAt 59 o6_1) h_4 fun t39_1 =>
  (callM P 18 #[t36_1] h_4 fun t37_1 h_5 =>
  (∀ w : World, w.heap = h_5 → (Instr.loadAt 59 o6_1).run P w = .ok t39_1 w) ∧
  (callM P 41 #[t39_1] h_5 fun t40_1 h_6 =>
  (callM P 42 #[e3_1] h_6 fun t42_1 h_7 =>
  (callM P 62 #[t37_1, o1_1, t40_1, t42_1] h_7 fun t43_1 h_8 =>
  pop P (Instr.extract t43_1 0) fun t44_1 =>
  pop P (Instr.extract t43_1 1) fun t45_1 =>
  eop P (Instr.alloc 63 true (.tuple #[])) h_8 fun a10_1 h_9 =>
  uop P (Instr.storeAt 63 a10_1 t44_1) h_9 fun u_1 h_10 =>
  J_1 [a10_1, t45_1] h_10) ∧
  (eop P (Instr.alloc 63 true (.tuple #[])) h_7 fun a10_2 h_11 =>
  callM P 62 #[t37_1, o1_1, t40_1, t42_1] h_11 fun t43_2 h_12 =>
  pop P (Instr.extract t43_2 0) fun t44_2 =>
  pop P (Instr.extract t43_2 1) fun t45_2 =>
  uop P (Instr.storeAt 63 a10_2 t44_2) h_12 fun u_2 h_13 =>
  J_1 [a10_2, t45_2] h_13)) ∧
  (eop P (Instr.alloc 63 true (.tuple #[])) h_6 fun a10_3 h_14 =>
  callM P 42 #[e3_1] h_14 fun t42_2 h_15 =>
  callM P 62 #[t37_1, o1_1, t40_1, t42_2] h_15 fun t43_3 h_16 =>
  pop P (Instr.extract t43_3 0) fun t44_3 =>
  pop P (Instr.extract t43_3 1) fun t45_3 =>
  uop P (Instr.storeAt 63 a10_3 t44_3) h_16 fun u_3 h_17 =>
  J_1 [a10_3, t45_3] h_17)) ∧
  (eop P (Instr.alloc 63 true (.tuple #[])) h_5 fun a10_4 h_18 =>
  (∀ w : World, w.heap = h_18 → (Instr.loadAt 59 o6_1).run P w = .ok t39_1 w) ∧
  callM P 41 #[t39_1] h_18 fun t40_2 h_19 =>
  callM P 42 #[e3_1] h_19 fun t42_3 h_20 =>
  callM P 62 #[t37_1, o1_1, t40_2, t42_3] h_20 fun t43_4 h_21 =>
  pop P (Instr.extract t43_4 0) fun t44_4 =>
  pop P (Instr.extract t43_4 1) fun t45_4 =>
  uop P (Instr.storeAt 63 a10_4 t44_4) h_21 fun u_4 h_22 =>
  J_1 [a10_4, t45_4] h_22)) ∧
  (eop P (Instr.alloc 63 true (.tuple #[])) h_4 fun a10_5 h_23 =>
  (∀ w : World, w.heap = h_23 → (Instr.loadAt 59 o6_1).run P w = .ok t39_1 w) ∧
  (∀ w : World, w.heap = h_23 → (Instr.loadAt 24 t4_1).run P w = .ok t36_1 w) ∧
  callM P 18 #[t36_1] h_23 fun t37_2 h_24 =>
  (∀ w : World, w.heap = h_24 → (Instr.loadAt 59 o6_1).run P w = .ok t39_1 w) ∧
  callM P 41 #[t39_1] h_24 fun t40_3 h_25 =>
  callM P 42 #[e3_1] h_25 fun t42_4 h_26 =>
  callM P 62 #[t37_2, o1_1, t40_3, t42_4] h_26 fun t43_5 h_27 =>
  pop P (Instr.extract t43_5 0) fun t44_5 =>
  pop P (Instr.extract t43_5 1) fun t45_5 =>
  uop P (Instr.storeAt 63 a10_5 t44_5) h_27 fun u_5 h_28 =>
  J_1 [a10_5, t45_5] h_28)) ∧
  ∀ (junk_1 : Nat → Value) (a10_6 : Value) (y11_1 : Value) (h_29 : Heap), J_1 [a10_6, y11_1] h_29 →
  rop P (Instr.loadAt 24 t4_1) h_29 fun t46_1 =>
  callM P 18 #[t46_1] h_29 fun t47_1 h_30 =>
  eop P (Instr.alloc 32 true (.tuple #[])) h_30 fun t12_1 h_31 =>
  uop P (Instr.storeAt 32 t12_1 t47_1) h_31 fun u_6 h_32 =>
  rop P (Instr.loadAt 59 o6_1) h_32 fun t48_1 =>
  callM P 41 #[t48_1] h_32 fun t49_1 h_33 =>
  eop P (Instr.alloc 63 true (.tuple #[])) h_33 fun t13_1 h_34 =>
  uop P (Instr.storeAt 63 t13_1 t49_1) h_34 fun u_7 h_35 =>
  callM P 42 #[e3_1] h_35 fun t51_1 h_36 =>
  rop P (Instr.loadAt 32 t12_1) h_36 fun t53_1 =>
  rop P (Instr.loadAt 63 t13_1) h_36 fun t55_1 =>
  callM P 63 #[t53_1, o1_1, t55_1, t51_1] h_36 fun t57_1 h_37 =>
  pop P (Instr.extract t57_1 0) fun t58_1 =>
  pop P (Instr.extract t57_1 1) fun t59_1 =>
  eop P (Instr.alloc 63 true (.tuple #[])) h_37 fun t15_1 h_38 =>
  uop P (Instr.storeAt 63 t15_1 t58_1) h_38 fun u_8 h_39 =>
  rop P (Instr.loadAt 63 t15_1) h_39 fun t60_1 =>
  rop P (Instr.loadAt 63 a10_6) h_39 fun t61_1 =>
  callM P 44 #[t60_1, t61_1] h_39 fun t62_1 h_40 =>
  pop P (Op.unary .not t62_1) fun t63_1 =>
  guardM t63_1 false (fun k_1 => k_1 t59_1 h_40) h_40 fun t65_1 h_41 =>
  guardM t63_1 false (fun k_2 => k_2 y11_1 h_41) h_41 fun t66_1 h_42 =>
  guardM t63_1 false (fun k_3 => pop P (binE .neq 4 (.tmp 65) (.tmp 66) t65_1 t66_1) fun t67_1 =>
  k_3 t67_1 h_42) h_42 fun t67_2 h_43 =>
  pop P (pickS t63_1 (Value.bool true) t67_2) fun t68_1 =>
  condM t68_1
  (K (Value.bool false) h_43)
  (rop P (Instr.loadAt 32 t12_1) h_43 fun t69_1 =>
  rop P (Instr.loadAt 24 t4_1) h_43 fun t70_1 =>
  callM P 18 #[t70_1] h_43 fun t71_1 h_44 =>
  (∀ w : World, w.heap = h_44 → (Instr.loadAt 32 t12_1).run P w = .ok t69_1 w) ∧
  callM P 22 #[t69_1, t71_1] h_44 fun t72_1 h_45 =>
  pop P (Op.unary .not t72_1) fun t73_1 =>
  condM t73_1
  (K (Value.bool false) h_45)
  (rop P (Instr.loadAt 63 t13_1) h_45 fun t74_1 =>
  rop P (Instr.loadAt 59 o6_1) h_45 fun t75_1 =>
  callM P 41 #[t75_1] h_45 fun t76_1 h_46 =>
  (∀ w : World, w.heap = h_46 → (Instr.loadAt 63 t13_1).run P w = .ok t74_1 w) ∧
  callM P 44 #[t74_1, t76_1] h_46 fun t77_1 h_47 =>
  pop P (Op.unary .not t77_1) fun t78_1 =>
  condM t78_1
  (K (Value.bool false) h_47)
  (callM P 42 #[e3_1] h_47 fun t81_1 h_48 =>
  callM P 45 #[t51_1, t81_1] h_48 fun t82_1 h_49 =>
  pop P (Op.unary .not t82_1) fun t83_1 =>
  condM t83_1
  (K (Value.bool false) h_49)
  (rop P (Instr.loadAt 32 t12_1) h_49 fun t84_1 =>
  callM P 24 #[t84_1, (Value.int IntKind.i64 1)] h_49 fun t86_1 h_50 =>
  rop P (Instr.loadAt 63 t13_1) h_50 fun t87_1 =>
  callM P 48 #[t87_1, t86_1] h_50 fun t89_1 h_51 =>
  callM P 49 #[t51_1, t89_1] h_51 fun t92_1 h_52 =>
  pop P (binA .lss 3 t92_1 (Value.int IntKind.i64 0)) fun t94_1 =>
  guardM t94_1 false (fun k_4 => rop P (Instr.loadAt 63 t15_1) h_52 fun t96_1 =>
  k_4 t96_1 h_52) h_52 fun t96_2 h_53 =>
  guardM t94_1 false (fun k_5 => rop P (Instr.loadAt 63 a10_6) h_53 fun t97_1 =>
  k_5 t97_1 h_53) h_53 fun t97_2 h_54 =>
  guardM t94_1 false (fun k_6 => callM P 44 #[t96_2, t97_2] h_54 fun t98_1 h_55 =>
  k_6 t98_1 h_55) h_54 fun t98_2 h_56 =>
  guardM t94_1 false (fun k_7 => pop P (Op.unary .not t98_2) fun t99_1 =>
  k_7 t99_1 h_56) h_56 fun t99_2 h_57 =>
  pop P (pickS t94_1 (Value.bool true) t99_2) fun t100_1 =>
  guardM t100_1 false (fun k_8 => k_8 t59_1 h_57) h_57 fun t102_1 h_58 =>
  guardM t100_1 false (fun k_9 => k_9 y11_1 h_58) h_58 fun t103_1 h_59 =>
  guardM t100_1 false (fun k_10 => pop P (binE .neq 4 (.tmp 102) (.tmp 103) t102_1 t103_1) fun t104_1 =>
  k_10 t104_1 h_59) h_59 fun t104_2 h_60 =>
  pop P (pickS t100_1 (Value.bool true) t104_2) fun t105_1 =>
  condM t105_1
  (K (Value.bool false) h_60)
  (rop P (Instr.loadAt 63 t15_1) h_60 fun t106_1 =>
  callM P 48 #[t106_1, (Value.int IntKind.i64 1)] h_60 fun t108_1 h_61 =>
  rop P (Instr.loadAt 63 t15_1) h_61 fun t109_1 =>
  callM P 50 #[t109_1, (Value.int IntKind.i64 1)] h_61 fun t111_1 h_62 =>
  pop P (binA .lss 3 t111_1 (Value.int IntKind.i64 0)) fun t113_1 =>
  condM t113_1
  (K (Value.bool false) h_62)
  (pop P (binE .neq 3 (.tmp 114) (.tmp 115) t111_1 t108_1) fun t116_1 =>
  condM t116_1
  (K (Value.bool false) h_62)
  (∃ J_2 : List Value → Heap → Prop, (rop P (Instr.loadAt 24 t4_1) h_62 fun t118_1 =>
  rop P (Instr.loadAt 59 o6_1) h_62 fun t121_1 =>
  (callM P 18 #[t118_1] h_62 fun t119_1 h_63 =>
  (∀ w : World, w.heap = h_63 → (Instr.loadAt 59 o6_1).run P w = .ok t121_1 w) ∧
  (callM P 41 #[t121_1] h_63 fun t122_1 h_64 =>
  (callM P 42 #[e3_1] h_64 fun t124_1 h_65 =>
  (callM P 63 #[t119_1, o1_1, t122_1, t124_1] h_65 fun t125_1 h_66 =>
  pop P (Instr.extract t125_1 0) fun t126_1 =>
  pop P (Instr.extract t125_1 1) fun t127_1 =>
  eop P (Instr.alloc 63 true (.tuple #[])) h_66 fun t20_1 h_67 =>
  uop P (Instr.storeAt 63 t20_1 t126_1) h_67 fun u_9 h_68 =>
  J_2 [t20_1, t127_1] h_68) ∧
  (eop P (Instr.alloc 63 true (.tuple #[])) h_65 fun t20_2 h_69 =>
  callM P 63 #[t119_1, o1_1, t122_1, t124_1] h_69 fun t125_2 h_70 =>
  pop P (Instr.extract t125_2 0) fun t126_2 =>
  pop P (Instr.extract t125_2 1) fun t127_2 =>
  uop P (Instr.storeAt 63 t20_2 t126_2) h_70 fun u_10 h_71 =>
  J_2 [t20_2, t127_2] h_71)) ∧
  (eop P (Instr.alloc 63 true (.tuple #[])) h_64 fun t20_3 h_72 =>
  callM P 42 #[e3_1] h_72 fun t124_2 h_73 =>
  callM P 63 #[t119_1, o1_1, t122_1, t124_2] h_73 fun t125_3 h_74 =>
  pop P (Instr.extract t125_3 0) fun t126_3 =>
  pop P (Instr.extract t125_3 1) fun t127_3 =>
  uop P (Instr.storeAt 63 t20_3 t126_3) h_74 fun u_11 h_75 =>
  J_2 [t20_3, t127_3] h_75)) ∧
  (eop P (Instr.alloc 63 true (.tuple #[])) h_63 fun t20_4 h_76 =>
  (∀ w : World, w.heap = h_76 → (Instr.loadAt 59 o6_1).run P w = .ok t121_1 w) ∧
  callM P 41 #[t121_1] h_76 fun t122_2 h_77 =>
  callM P 42 #[e3_1] h_77 fun t124_3 h_78 =>
  callM P 63 #[t119_1, o1_1, t122_2, t124_3] h_78 fun t125_4 h_79 =>
  pop P (Instr.extract t125_4 0) fun t126_4 =>
  pop P (Instr.extract t125_4 1) fun t127_4 =>
  uop P (Instr.storeAt 63 t20_4 t126_4) h_79 fun u_12 h_80 =>
  J_2 [t20_4, t127_4] h_80)) ∧
  (eop P (Instr.alloc 63 true (.tuple #[])) h_62 fun t20_5 h_81 =>
  (∀ w : World, w.heap = h_81 → (Instr.loadAt 59 o6_1).run P w = .ok t121_1 w) ∧
  (∀ w : World, w.heap = h_81 → (Instr.loadAt 24 t4_1).run P w = .ok t118_1 w) ∧
  callM P 18 #[t118_1] h_81 fun t119_2 h_82 =>
  (∀ w : World, w.heap = h_82 → (Instr.loadAt 59 o6_1).run P w = .ok t121_1 w) ∧
  callM P 41 #[t121_1] h_82 fun t122_3 h_83 =>
  callM P 42 #[e3_1] h_83 fun t124_4 h_84 =>
  callM P 63 #[t119_2, o1_1, t122_3, t124_4] h_84 fun t125_5 h_85 =>
  pop P (Instr.extract t125_5 0) fun t126_5 =>
  pop P (Instr.extract t125_5 1) fun t127_5 =>
  uop P (Instr.storeAt 63 t20_5 t126_5) h_85 fun u_13 h_86 =>
  J_2 [t20_5, t127_5] h_86)) ∧
  ∀ (junk_2 : Nat → Value) (t20_6 : Value) (t21_1 : Value) (h_87 : Heap), J_2 [t20_6, t21_1] h_87 →
  rop P (Instr.loadAt 63 t20_6) h_87 fun t128_1 =>
  rop P (Instr.loadAt 63 a10_6) h_87 fun t129_1 =>
  callM P 44 #[t128_1, t129_1] h_87 fun t130_1 h_88 =>
  pop P (Op.unary .not t130_1) fun t131_1 =>
  guardM t131_1 false (fun k_11 => k_11 t21_1 h_88) h_88 fun t133_1 h_89 =>
  guardM t131_1 false (fun k_12 => k_12 y11_1 h_89) h_89 fun t134_1 h_90 =>
  guardM t131_1 false (fun k_13 => pop P (binE .neq 4 (.tmp 133) (.tmp 134) t133_1 t134_1) fun t135_1 =>
  k_13 t135_1 h_90) h_90 fun t135_2 h_91 =>
  pop P (pickS t131_1 (Value.bool true) t135_2) fun t136_1 =>
  condM t136_1
  (K (Value.bool false) h_91)
  (rop P (Instr.loadAt 63 t15_1) h_91 fun t137_1 =>
  callM P 50 #[t137_1, (Value.int IntKind.i64 1)] h_91 fun t139_1 h_92 =>
  pop P (binA .lss 3 t139_1 (Value.int IntKind.i64 0)) fun t141_1 =>
  condM t141_1
  (K (Value.bool false) h_92)
  (pop P (binE .neq 3 (.tmp 142) (.tmp 143) t139_1 t108_1) fun t144_1 =>
  condM t144_1
  (K (Value.bool false) h_92)
  (K (Value.bool true) h_92)))))))))))))
theorem e14 (C0_1 : Value) (o1_1 : Value) (d2_1 : Value) (e3_1 : Value) (h : Heap) (K : Value → Heap → Prop) : wpA Try.prog 145 (anOf [(255, [10, 11]), (268435455, [20, 21])]) (bodyOf Try.f14) 1 (fun A h => resA Try.prog A h K [.tmp 8]) (fun _ _ _ => False) (fun A h => resA Try.prog A h K [.tmp 8]) (aargs [C0_1, o1_1, d2_1, e3_1] 0) h = t14 Try.prog C0_1 o1_1 d2_1 e3_1 h K := by kernel_rfl
theorem c14 (C0_1 : Value) (o1_1 : Value) (d2_1 : Value) (e3_1 : Value) (h : Heap) (K : Value → Heap → Prop) (H : t14 Try.prog C0_1 o1_1 d2_1 e3_1 h K) : callM Try.prog 14 #[C0_1, o1_1, d2_1, e3_1] h K :=
  callM_of_wpA mixed (fn := Try.f14) Try.func14 (c := bodyOf Try.f14) rfl (of_decide_eq_true (by kernel_rfl)) (anOf [(255, [10, 11]), (268435455, [20, 21])]) 141 145 (by kernel_rfl) rfl [.tmp 8] (by kernel_rfl) (args := [C0_1, o1_1, d2_1, e3_1]) (by rw [e14]; exact H)

/-! laws.szGraph -/
def t15 (P : Program) (a0_1 : Value) (left1_1 : Value) (h : Heap) (K : Value → Heap → Prop) : Prop :=
  eop P (Instr.box 24 a0_1) h fun a2_1 h_1 =>
  pop P (Instr.fieldAt 24 a2_1 0) fun t5_1 =>
  rop P (Instr.loadAt 22 t5_1) h_1 fun t6_1 =>
  callM P 64 #[t6_1, left1_1] h_1 fun t8_1 h_2 =>
  pop P (binA .lss 3 t8_1 (Value.int IntKind.i64 0)) fun t10_1 =>
  condM t10_1
  (K (Value.int IntKind.i64 (-1)) h_2)
  (K t8_1 h_2)
theorem e15 (a0_1 : Value) (left1_1 : Value) (h : Heap) (K : Value → Heap → Prop) : wpA Try.prog 12 (anOf []) (bodyOf Try.f15) 1 (fun A h => resA Try.prog A h K [.tmp 4]) (fun _ _ _ => False) (fun A h => resA Try.prog A h K [.tmp 4]) (aargs [a0_1, left1_1] 0) h = t15 Try.prog a0_1 left1_1 h K := by kernel_rfl
theorem c15 (a0_1 : Value) (left1_1 : Value) (h : Heap) (K : Value → Heap → Prop) (H : t15 Try.prog a0_1 left1_1 h K) : callM Try.prog 15 #[a0_1, left1_1] h K :=
  callM_of_wpA mixed (fn := Try.f15) Try.func15 (c := bodyOf Try.f15) rfl (of_decide_eq_true (by kernel_rfl)) (anOf []) 10 12 (by kernel_rfl) rfl [.tmp 4] (by kernel_rfl) (args := [a0_1, left1_1]) (by rw [e15]; exact H)

/-! laws.toGraph -/
def t18 (P : Program) (a0_1 : Value) (h : Heap) (K : Value → Heap → Prop) : Prop :=
  eop P (Instr.box 24 a0_1) h fun a1_1 h_1 =>
  eop P (Instr.alloc 32 true (.tuple #[])) h_1 fun t2_1 h_2 =>
  eop P (Instr.alloc 32 true (.tuple #[])) h_2 fun out3_1 h_3 =>
  pop P (Instr.fieldAt 24 a1_1 0) fun t4_1 =>
  rop P (Instr.loadAt 22 t4_1) h_3 fun t5_1 =>
  callM P 68 #[t5_1] h_3 fun t6_1 h_4 =>
  pop P (Instr.fieldAt 32 out3_1 0) fun t7_1 =>
  uop P (Instr.storeAt 22 t7_1 t6_1) h_4 fun u_1 h_5 =>
  rop P (Instr.loadAt 32 out3_1) h_5 fun t8_1 =>
  uop P (Instr.storeAt 32 t2_1 t8_1) h_5 fun u_2 h_6 =>
  rop P (Instr.loadAt 32 t2_1) h_6 fun r_1 =>
  K r_1 h_6
theorem e18 (a0_1 : Value) (h : Heap) (K : Value → Heap → Prop) : wpA Try.prog 9 (anOf []) (bodyOf Try.f18) 1 (fun A h => resA Try.prog A h K [.cell 2 32]) (fun _ _ _ => False) (fun A h => resA Try.prog A h K [.cell 2 32]) (aargs [a0_1] 0) h = t18 Try.prog a0_1 h K := by kernel_rfl
theorem c18 (a0_1 : Value) (h : Heap) (K : Value → Heap → Prop) (H : t18 Try.prog a0_1 h K) : callM Try.prog 18 #[a0_1] h K :=
  callM_of_wpA mixed (fn := Try.f18) Try.func18 (c := bodyOf Try.f18) rfl (of_decide_eq_true (by kernel_rfl)) (anOf []) 8 9 (by kernel_rfl) rfl [.cell 2 32] (by kernel_rfl) (args := [a0_1]) (by rw [e18]; exact H)

/-! laws.eqIntSS -/
def t21 (P : Program) (a0_1 : Value) (b1_1 : Value) (h : Heap) (K : Value → Heap → Prop) : Prop :=
  pop P (lenS 22 3 a0_1) fun t7_1 =>
  pop P (lenS 22 3 b1_1) fun t9_1 =>
  pop P (binE .neq 3 (.tmp 7) (.tmp 9) t7_1 t9_1) fun t10_1 =>
  condM t10_1
  (K (Value.bool false) h)
  (∃ (I_1 : List Value → Heap → Prop) (μ_1 : List Value → Heap → Nat), I_1 [(Value.int IntKind.i64 0)] h ∧
  ∀ (junk_1 : Nat → Value) (i5_1 : Value) (h_1 : Heap), I_1 [i5_1] h_1 →
  pop P (lenS 22 3 a0_1) fun t13_1 =>
  pop P (binA .lss 3 i5_1 t13_1) fun t14_1 =>
  condM t14_1
  (pop P (Instr.indexAt 22 a0_1 i5_1) fun t19_1 =>
  rop P (Instr.loadAt 25 t19_1) h_1 fun t20_1 =>
  pop P (Instr.indexAt 22 b1_1 i5_1) fun t23_1 =>
  rop P (Instr.loadAt 25 t23_1) h_1 fun t24_1 =>
  callM P 45 #[t20_1, t24_1] h_1 fun t25_1 h_2 =>
  pop P (Op.unary .not t25_1) fun t26_1 =>
  condM t26_1
  (K (Value.bool false) h_2)
  (pop P (binA .add 3 i5_1 (Value.int IntKind.i64 1)) fun t16_1 =>
  I_1 [t16_1] h_2 ∧ μ_1 [t16_1] h_2 < μ_1 [i5_1] h_1))
  (K (Value.bool true) h_1))
theorem e21 (a0_1 : Value) (b1_1 : Value) (h : Heap) (K : Value → Heap → Prop) : wpA Try.prog 27 (anOf [(58, [5])]) (bodyOf Try.f21) 1 (fun A h => resA Try.prog A h K [.tmp 4]) (fun _ _ _ => False) (fun A h => resA Try.prog A h K [.tmp 4]) (aargs [a0_1, b1_1] 0) h = t21 Try.prog a0_1 b1_1 h K := by kernel_rfl
theorem c21 (a0_1 : Value) (b1_1 : Value) (h : Heap) (K : Value → Heap → Prop) (H : t21 Try.prog a0_1 b1_1 h K) : callM Try.prog 21 #[a0_1, b1_1] h K :=
  callM_of_wpA mixed (fn := Try.f21) Try.func21 (c := bodyOf Try.f21) rfl (of_decide_eq_true (by kernel_rfl)) (anOf [(58, [5])]) 25 27 (by kernel_rfl) rfl [.tmp 4] (by kernel_rfl) (args := [a0_1, b1_1]) (by rw [e21]; exact H)

/-! laws.eqGraph -/
def t22 (P : Program) (a0_1 : Value) (b1_1 : Value) (h : Heap) (K : Value → Heap → Prop) : Prop :=
  eop P (Instr.box 32 a0_1) h fun a2_1 h_1 =>
  eop P (Instr.box 32 b1_1) h_1 fun b3_1 h_2 =>
  pop P (Instr.fieldAt 32 a2_1 0) fun t5_1 =>
  rop P (Instr.loadAt 22 t5_1) h_2 fun t6_1 =>
  pop P (Instr.fieldAt 32 b3_1 0) fun t7_1 =>
  rop P (Instr.loadAt 22 t7_1) h_2 fun t8_1 =>
  callM P 21 #[t6_1, t8_1] h_2 fun t9_1 h_3 =>
  pop P (Op.unary .not t9_1) fun t10_1 =>
  condM t10_1
  (K (Value.bool false) h_3)
  (K (Value.bool true) h_3)
theorem e22 (a0_1 : Value) (b1_1 : Value) (h : Heap) (K : Value → Heap → Prop) : wpA Try.prog 11 (anOf []) (bodyOf Try.f22) 1 (fun A h => resA Try.prog A h K [.tmp 4]) (fun _ _ _ => False) (fun A h => resA Try.prog A h K [.tmp 4]) (aargs [a0_1, b1_1] 0) h = t22 Try.prog a0_1 b1_1 h K := by kernel_rfl
theorem c22 (a0_1 : Value) (b1_1 : Value) (h : Heap) (K : Value → Heap → Prop) (H : t22 Try.prog a0_1 b1_1 h K) : callM Try.prog 22 #[a0_1, b1_1] h K :=
  callM_of_wpA mixed (fn := Try.f22) Try.func22 (c := bodyOf Try.f22) rfl (of_decide_eq_true (by kernel_rfl)) (anOf []) 9 11 (by kernel_rfl) rfl [.tmp 4] (by kernel_rfl) (args := [a0_1, b1_1]) (by rw [e22]; exact H)

/-! laws.markGraph -/
def t24 (P : Program) (a0_1 : Value) (k1_1 : Value) (h : Heap) (K : Value → Heap → Prop) : Prop :=
  eop P (Instr.box 32 a0_1) h fun a2_1 h_1 =>
  pop P (Instr.fieldAt 32 a2_1 0) fun t5_1 =>
  rop P (Instr.loadAt 22 t5_1) h_1 fun t6_1 =>
  callM P 26 #[t6_1, k1_1] h_1 fun t8_1 h_2 =>
  K t8_1 h_2
theorem e24 (a0_1 : Value) (k1_1 : Value) (h : Heap) (K : Value → Heap → Prop) : wpA Try.prog 10 (anOf []) (bodyOf Try.f24) 1 (fun A h => resA Try.prog A h K [.tmp 4]) (fun _ _ _ => False) (fun A h => resA Try.prog A h K [.tmp 4]) (aargs [a0_1, k1_1] 0) h = t24 Try.prog a0_1 k1_1 h K := by kernel_rfl
theorem c24 (a0_1 : Value) (k1_1 : Value) (h : Heap) (K : Value → Heap → Prop) (H : t24 Try.prog a0_1 k1_1 h K) : callM Try.prog 24 #[a0_1, k1_1] h K :=
  callM_of_wpA mixed (fn := Try.f24) Try.func24 (c := bodyOf Try.f24) rfl (of_decide_eq_true (by kernel_rfl)) (anOf []) 8 10 (by kernel_rfl) rfl [.tmp 4] (by kernel_rfl) (args := [a0_1, k1_1]) (by rw [e24]; exact H)

/-! laws.markIntSS -/
def t26 (P : Program) (a0_1 : Value) (k1_1 : Value) (h : Heap) (K : Value → Heap → Prop) : Prop :=
  ∃ (I_1 : List Value → Heap → Prop) (μ_1 : List Value → Heap → Nat), I_1 [k1_1, (Value.int IntKind.i64 0)] h ∧
  ∀ (junk_1 : Nat → Value) (k1_2 : Value) (i5_1 : Value) (h_1 : Heap), I_1 [k1_2, i5_1] h_1 →
  pop P (lenS 22 3 a0_1) fun t8_1 =>
  pop P (binA .lss 3 i5_1 t8_1) fun t9_1 =>
  condM t9_1
  (pop P (Instr.indexAt 22 a0_1 i5_1) fun t14_1 =>
  rop P (Instr.loadAt 25 t14_1) h_1 fun t15_1 =>
  callM P 49 #[t15_1, k1_2] h_1 fun t17_1 h_2 =>
  pop P (binA .add 3 i5_1 (Value.int IntKind.i64 1)) fun t11_1 =>
  I_1 [t17_1, t11_1] h_2 ∧ μ_1 [t17_1, t11_1] h_2 < μ_1 [k1_2, i5_1] h_1)
  (K k1_2 h_1)
theorem e26 (a0_1 : Value) (k1_1 : Value) (h : Heap) (K : Value → Heap → Prop) : wpA Try.prog 19 (anOf [(26, [1, 5])]) (bodyOf Try.f26) 1 (fun A h => resA Try.prog A h K [.tmp 4]) (fun _ _ _ => False) (fun A h => resA Try.prog A h K [.tmp 4]) (aargs [a0_1, k1_1] 0) h = t26 Try.prog a0_1 k1_1 h K := by kernel_rfl
theorem c26 (a0_1 : Value) (k1_1 : Value) (h : Heap) (K : Value → Heap → Prop) (H : t26 Try.prog a0_1 k1_1 h K) : callM Try.prog 26 #[a0_1, k1_1] h K :=
  callM_of_wpA mixed (fn := Try.f26) Try.func26 (c := bodyOf Try.f26) rfl (of_decide_eq_true (by kernel_rfl)) (anOf [(26, [1, 5])]) 17 19 (by kernel_rfl) rfl [.tmp 4] (by kernel_rfl) (args := [a0_1, k1_1]) (by rw [e26]; exact H)

/-! laws.szLoad -/
def t39 (P : Program) (a0_1 : Value) (left1_1 : Value) (h : Heap) (K : Value → Heap → Prop) : Prop :=
  eop P (Instr.box 59 a0_1) h fun a2_1 h_1 =>
  pop P (Instr.fieldAt 59 a2_1 0) fun t5_1 =>
  rop P (Instr.loadAt 25 t5_1) h_1 fun t6_1 =>
  callM P 65 #[t6_1, left1_1] h_1 fun t8_1 h_2 =>
  pop P (binA .lss 3 t8_1 (Value.int IntKind.i64 0)) fun t10_1 =>
  condM t10_1
  (K (Value.int IntKind.i64 (-1)) h_2)
  (pop P (Instr.fieldAt 59 a2_1 1) fun t11_1 =>
  rop P (Instr.loadAt 25 t11_1) h_2 fun t12_1 =>
  callM P 65 #[t12_1, t8_1] h_2 fun t14_1 h_3 =>
  pop P (binA .lss 3 t14_1 (Value.int IntKind.i64 0)) fun t16_1 =>
  condM t16_1
  (K (Value.int IntKind.i64 (-1)) h_3)
  (K t14_1 h_3))
theorem e39 (a0_1 : Value) (left1_1 : Value) (h : Heap) (K : Value → Heap → Prop) : wpA Try.prog 18 (anOf []) (bodyOf Try.f39) 1 (fun A h => resA Try.prog A h K [.tmp 4]) (fun _ _ _ => False) (fun A h => resA Try.prog A h K [.tmp 4]) (aargs [a0_1, left1_1] 0) h = t39 Try.prog a0_1 left1_1 h K := by kernel_rfl
theorem c39 (a0_1 : Value) (left1_1 : Value) (h : Heap) (K : Value → Heap → Prop) (H : t39 Try.prog a0_1 left1_1 h K) : callM Try.prog 39 #[a0_1, left1_1] h K :=
  callM_of_wpA mixed (fn := Try.f39) Try.func39 (c := bodyOf Try.f39) rfl (of_decide_eq_true (by kernel_rfl)) (anOf []) 16 18 (by kernel_rfl) rfl [.tmp 4] (by kernel_rfl) (args := [a0_1, left1_1]) (by rw [e39]; exact H)

/-! laws.toLoad -/
def t41 (P : Program) (a0_1 : Value) (h : Heap) (K : Value → Heap → Prop) : Prop :=
  eop P (Instr.box 59 a0_1) h fun a1_1 h_1 =>
  eop P (Instr.alloc 63 true (.tuple #[])) h_1 fun t2_1 h_2 =>
  eop P (Instr.alloc 63 true (.tuple #[])) h_2 fun out3_1 h_3 =>
  pop P (Instr.fieldAt 59 a1_1 0) fun t4_1 =>
  rop P (Instr.loadAt 25 t4_1) h_3 fun t5_1 =>
  callM P 42 #[t5_1] h_3 fun t6_1 h_4 =>
  pop P (Instr.fieldAt 63 out3_1 0) fun t7_1 =>
  uop P (Instr.storeAt 25 t7_1 t6_1) h_4 fun u_1 h_5 =>
  pop P (Instr.fieldAt 59 a1_1 1) fun t8_1 =>
  rop P (Instr.loadAt 25 t8_1) h_5 fun t9_1 =>
  callM P 42 #[t9_1] h_5 fun t10_1 h_6 =>
  pop P (Instr.fieldAt 63 out3_1 1) fun t11_1 =>
  uop P (Instr.storeAt 25 t11_1 t10_1) h_6 fun u_2 h_7 =>
  rop P (Instr.loadAt 63 out3_1) h_7 fun t12_1 =>
  uop P (Instr.storeAt 63 t2_1 t12_1) h_7 fun u_3 h_8 =>
  rop P (Instr.loadAt 63 t2_1) h_8 fun r_1 =>
  K r_1 h_8
theorem e41 (a0_1 : Value) (h : Heap) (K : Value → Heap → Prop) : wpA Try.prog 13 (anOf []) (bodyOf Try.f41) 1 (fun A h => resA Try.prog A h K [.cell 2 63]) (fun _ _ _ => False) (fun A h => resA Try.prog A h K [.cell 2 63]) (aargs [a0_1] 0) h = t41 Try.prog a0_1 h K := by kernel_rfl
theorem c41 (a0_1 : Value) (h : Heap) (K : Value → Heap → Prop) (H : t41 Try.prog a0_1 h K) : callM Try.prog 41 #[a0_1] h K :=
  callM_of_wpA mixed (fn := Try.f41) Try.func41 (c := bodyOf Try.f41) rfl (of_decide_eq_true (by kernel_rfl)) (anOf []) 12 13 (by kernel_rfl) rfl [.cell 2 63] (by kernel_rfl) (args := [a0_1]) (by rw [e41]; exact H)

/-! laws.toIntS -/
def t42 (P : Program) (a0_1 : Value) (h : Heap) (K : Value → Heap → Prop) : Prop :=
  pop P (lenS 25 3 a0_1) fun t6_1 =>
  eop P (Instr.makeSlice 25 t6_1 t6_1) h fun t7_1 h_1 =>
  ∃ (I_1 : List Value → Heap → Prop) (μ_1 : List Value → Heap → Nat), I_1 [(Value.int IntKind.i64 0)] h_1 ∧
  ∀ (junk_1 : Nat → Value) (i4_1 : Value) (h_2 : Heap), I_1 [i4_1] h_2 →
  pop P (lenS 25 3 a0_1) fun t10_1 =>
  pop P (binA .lss 3 i4_1 t10_1) fun t11_1 =>
  condM t11_1
  (pop P (Instr.indexAt 25 a0_1 i4_1) fun t18_1 =>
  rop P (Instr.loadAt 3 t18_1) h_2 fun t19_1 =>
  pop P (Instr.indexAt 25 t7_1 i4_1) fun t20_1 =>
  uop P (Instr.storeAt 3 t20_1 t19_1) h_2 fun u_1 h_3 =>
  pop P (binA .add 3 i4_1 (Value.int IntKind.i64 1)) fun t13_1 =>
  I_1 [t13_1] h_3 ∧ μ_1 [t13_1] h_3 < μ_1 [i4_1] h_2)
  (K t7_1 h_2)
theorem e42 (a0_1 : Value) (h : Heap) (K : Value → Heap → Prop) : wpA Try.prog 22 (anOf [(58, [4])]) (bodyOf Try.f42) 1 (fun A h => resA Try.prog A h K [.tmp 2]) (fun _ _ _ => False) (fun A h => resA Try.prog A h K [.tmp 2]) (aargs [a0_1] 0) h = t42 Try.prog a0_1 h K := by kernel_rfl
theorem c42 (a0_1 : Value) (h : Heap) (K : Value → Heap → Prop) (H : t42 Try.prog a0_1 h K) : callM Try.prog 42 #[a0_1] h K :=
  callM_of_wpA mixed (fn := Try.f42) Try.func42 (c := bodyOf Try.f42) rfl (of_decide_eq_true (by kernel_rfl)) (anOf [(58, [4])]) 21 22 (by kernel_rfl) rfl [.tmp 2] (by kernel_rfl) (args := [a0_1]) (by rw [e42]; exact H)

/-! laws.eqLoad -/
def t44 (P : Program) (a0_1 : Value) (b1_1 : Value) (h : Heap) (K : Value → Heap → Prop) : Prop :=
  eop P (Instr.box 63 a0_1) h fun a2_1 h_1 =>
  eop P (Instr.box 63 b1_1) h_1 fun b3_1 h_2 =>
  pop P (Instr.fieldAt 63 a2_1 0) fun t5_1 =>
  rop P (Instr.loadAt 25 t5_1) h_2 fun t6_1 =>
  pop P (Instr.fieldAt 63 b3_1 0) fun t7_1 =>
  rop P (Instr.loadAt 25 t7_1) h_2 fun t8_1 =>
  callM P 45 #[t6_1, t8_1] h_2 fun t9_1 h_3 =>
  pop P (Op.unary .not t9_1) fun t10_1 =>
  condM t10_1
  (K (Value.bool false) h_3)
  (pop P (Instr.fieldAt 63 a2_1 1) fun t11_1 =>
  rop P (Instr.loadAt 25 t11_1) h_3 fun t12_1 =>
  pop P (Instr.fieldAt 63 b3_1 1) fun t13_1 =>
  rop P (Instr.loadAt 25 t13_1) h_3 fun t14_1 =>
  callM P 45 #[t12_1, t14_1] h_3 fun t15_1 h_4 =>
  pop P (Op.unary .not t15_1) fun t16_1 =>
  condM t16_1
  (K (Value.bool false) h_4)
  (K (Value.bool true) h_4))
theorem e44 (a0_1 : Value) (b1_1 : Value) (h : Heap) (K : Value → Heap → Prop) : wpA Try.prog 17 (anOf []) (bodyOf Try.f44) 1 (fun A h => resA Try.prog A h K [.tmp 4]) (fun _ _ _ => False) (fun A h => resA Try.prog A h K [.tmp 4]) (aargs [a0_1, b1_1] 0) h = t44 Try.prog a0_1 b1_1 h K := by kernel_rfl
theorem c44 (a0_1 : Value) (b1_1 : Value) (h : Heap) (K : Value → Heap → Prop) (H : t44 Try.prog a0_1 b1_1 h K) : callM Try.prog 44 #[a0_1, b1_1] h K :=
  callM_of_wpA mixed (fn := Try.f44) Try.func44 (c := bodyOf Try.f44) rfl (of_decide_eq_true (by kernel_rfl)) (anOf []) 15 17 (by kernel_rfl) rfl [.tmp 4] (by kernel_rfl) (args := [a0_1, b1_1]) (by rw [e44]; exact H)

/-! laws.eqIntS -/
def t45 (P : Program) (a0_1 : Value) (b1_1 : Value) (h : Heap) (K : Value → Heap → Prop) : Prop :=
  pop P (lenS 25 3 a0_1) fun t7_1 =>
  pop P (lenS 25 3 b1_1) fun t9_1 =>
  pop P (binE .neq 3 (.tmp 7) (.tmp 9) t7_1 t9_1) fun t10_1 =>
  condM t10_1
  (K (Value.bool false) h)
  (∃ (I_1 : List Value → Heap → Prop) (μ_1 : List Value → Heap → Nat), I_1 [(Value.int IntKind.i64 0)] h ∧
  ∀ (junk_1 : Nat → Value) (i5_1 : Value) (h_1 : Heap), I_1 [i5_1] h_1 →
  pop P (lenS 25 3 a0_1) fun t13_1 =>
  pop P (binA .lss 3 i5_1 t13_1) fun t14_1 =>
  condM t14_1
  (pop P (Instr.indexAt 25 a0_1 i5_1) fun t19_1 =>
  rop P (Instr.loadAt 3 t19_1) h_1 fun t20_1 =>
  pop P (Instr.indexAt 25 b1_1 i5_1) fun t23_1 =>
  rop P (Instr.loadAt 3 t23_1) h_1 fun t24_1 =>
  pop P (binE .neq 3 (.tmp 20) (.tmp 24) t20_1 t24_1) fun t25_1 =>
  condM t25_1
  (K (Value.bool false) h_1)
  (pop P (binA .add 3 i5_1 (Value.int IntKind.i64 1)) fun t16_1 =>
  I_1 [t16_1] h_1 ∧ μ_1 [t16_1] h_1 < μ_1 [i5_1] h_1))
  (K (Value.bool true) h_1))
theorem e45 (a0_1 : Value) (b1_1 : Value) (h : Heap) (K : Value → Heap → Prop) : wpA Try.prog 26 (anOf [(58, [5])]) (bodyOf Try.f45) 1 (fun A h => resA Try.prog A h K [.tmp 4]) (fun _ _ _ => False) (fun A h => resA Try.prog A h K [.tmp 4]) (aargs [a0_1, b1_1] 0) h = t45 Try.prog a0_1 b1_1 h K := by kernel_rfl
theorem c45 (a0_1 : Value) (b1_1 : Value) (h : Heap) (K : Value → Heap → Prop) (H : t45 Try.prog a0_1 b1_1 h K) : callM Try.prog 45 #[a0_1, b1_1] h K :=
  callM_of_wpA mixed (fn := Try.f45) Try.func45 (c := bodyOf Try.f45) rfl (of_decide_eq_true (by kernel_rfl)) (anOf [(58, [5])]) 24 26 (by kernel_rfl) rfl [.tmp 4] (by kernel_rfl) (args := [a0_1, b1_1]) (by rw [e45]; exact H)

/-! laws.markLoad -/
def t48 (P : Program) (a0_1 : Value) (k1_1 : Value) (h : Heap) (K : Value → Heap → Prop) : Prop :=
  eop P (Instr.box 63 a0_1) h fun a2_1 h_1 =>
  pop P (Instr.fieldAt 63 a2_1 0) fun t5_1 =>
  rop P (Instr.loadAt 25 t5_1) h_1 fun t6_1 =>
  callM P 49 #[t6_1, k1_1] h_1 fun t8_1 h_2 =>
  pop P (Instr.fieldAt 63 a2_1 1) fun t9_1 =>
  rop P (Instr.loadAt 25 t9_1) h_2 fun t10_1 =>
  callM P 49 #[t10_1, t8_1] h_2 fun t12_1 h_3 =>
  K t12_1 h_3
theorem e48 (a0_1 : Value) (k1_1 : Value) (h : Heap) (K : Value → Heap → Prop) : wpA Try.prog 14 (anOf []) (bodyOf Try.f48) 1 (fun A h => resA Try.prog A h K [.tmp 4]) (fun _ _ _ => False) (fun A h => resA Try.prog A h K [.tmp 4]) (aargs [a0_1, k1_1] 0) h = t48 Try.prog a0_1 k1_1 h K := by kernel_rfl
theorem c48 (a0_1 : Value) (k1_1 : Value) (h : Heap) (K : Value → Heap → Prop) (H : t48 Try.prog a0_1 k1_1 h K) : callM Try.prog 48 #[a0_1, k1_1] h K :=
  callM_of_wpA mixed (fn := Try.f48) Try.func48 (c := bodyOf Try.f48) rfl (of_decide_eq_true (by kernel_rfl)) (anOf []) 12 14 (by kernel_rfl) rfl [.tmp 4] (by kernel_rfl) (args := [a0_1, k1_1]) (by rw [e48]; exact H)

/-! laws.markIntS -/
def t49 (P : Program) (a0_1 : Value) (k1_1 : Value) (h : Heap) (K : Value → Heap → Prop) : Prop :=
  ∃ (I_1 : List Value → Heap → Prop) (μ_1 : List Value → Heap → Nat), I_1 [k1_1, (Value.int IntKind.i64 0)] h ∧
  ∀ (junk_1 : Nat → Value) (k1_2 : Value) (i5_1 : Value) (h_1 : Heap), I_1 [k1_2, i5_1] h_1 →
  pop P (lenS 25 3 a0_1) fun t8_1 =>
  pop P (binA .lss 3 i5_1 t8_1) fun t9_1 =>
  condM t9_1
  (pop P (Instr.indexAt 25 a0_1 i5_1) fun t15_1 =>
  uop P (Instr.storeAt 3 t15_1 k1_2) h_1 fun u_1 h_2 =>
  pop P (binA .add 3 k1_2 (Value.int IntKind.i64 1)) fun t17_1 =>
  pop P (binA .add 3 i5_1 (Value.int IntKind.i64 1)) fun t11_1 =>
  I_1 [t17_1, t11_1] h_2 ∧ μ_1 [t17_1, t11_1] h_2 < μ_1 [k1_2, i5_1] h_1)
  (K k1_2 h_1)
theorem e49 (a0_1 : Value) (k1_1 : Value) (h : Heap) (K : Value → Heap → Prop) : wpA Try.prog 19 (anOf [(26, [1, 5])]) (bodyOf Try.f49) 1 (fun A h => resA Try.prog A h K [.tmp 4]) (fun _ _ _ => False) (fun A h => resA Try.prog A h K [.tmp 4]) (aargs [a0_1, k1_1] 0) h = t49 Try.prog a0_1 k1_1 h K := by kernel_rfl
theorem c49 (a0_1 : Value) (k1_1 : Value) (h : Heap) (K : Value → Heap → Prop) (H : t49 Try.prog a0_1 k1_1 h K) : callM Try.prog 49 #[a0_1, k1_1] h K :=
  callM_of_wpA mixed (fn := Try.f49) Try.func49 (c := bodyOf Try.f49) rfl (of_decide_eq_true (by kernel_rfl)) (anOf [(26, [1, 5])]) 17 19 (by kernel_rfl) rfl [.tmp 4] (by kernel_rfl) (args := [a0_1, k1_1]) (by rw [e49]; exact H)

/-! laws.heldLoad -/
def t50 (P : Program) (a0_1 : Value) (k1_1 : Value) (h : Heap) (K : Value → Heap → Prop) : Prop :=
  eop P (Instr.box 63 a0_1) h fun a2_1 h_1 =>
  pop P (Instr.fieldAt 63 a2_1 0) fun t5_1 =>
  rop P (Instr.loadAt 25 t5_1) h_1 fun t6_1 =>
  callM P 57 #[t6_1, k1_1] h_1 fun t8_1 h_2 =>
  pop P (binA .lss 3 t8_1 (Value.int IntKind.i64 0)) fun t10_1 =>
  condM t10_1
  (K (Value.int IntKind.i64 (-1)) h_2)
  (pop P (Instr.fieldAt 63 a2_1 1) fun t11_1 =>
  rop P (Instr.loadAt 25 t11_1) h_2 fun t12_1 =>
  callM P 57 #[t12_1, t8_1] h_2 fun t14_1 h_3 =>
  pop P (binA .lss 3 t14_1 (Value.int IntKind.i64 0)) fun t16_1 =>
  condM t16_1
  (K (Value.int IntKind.i64 (-1)) h_3)
  (K t14_1 h_3))
theorem e50 (a0_1 : Value) (k1_1 : Value) (h : Heap) (K : Value → Heap → Prop) : wpA Try.prog 18 (anOf []) (bodyOf Try.f50) 1 (fun A h => resA Try.prog A h K [.tmp 4]) (fun _ _ _ => False) (fun A h => resA Try.prog A h K [.tmp 4]) (aargs [a0_1, k1_1] 0) h = t50 Try.prog a0_1 k1_1 h K := by kernel_rfl
theorem c50 (a0_1 : Value) (k1_1 : Value) (h : Heap) (K : Value → Heap → Prop) (H : t50 Try.prog a0_1 k1_1 h K) : callM Try.prog 50 #[a0_1, k1_1] h K :=
  callM_of_wpA mixed (fn := Try.f50) Try.func50 (c := bodyOf Try.f50) rfl (of_decide_eq_true (by kernel_rfl)) (anOf []) 16 18 (by kernel_rfl) rfl [.tmp 4] (by kernel_rfl) (args := [a0_1, k1_1]) (by rw [e50]; exact H)

/-! laws.heldIntS -/
def t57 (P : Program) (a0_1 : Value) (k1_1 : Value) (h : Heap) (K : Value → Heap → Prop) : Prop :=
  ∃ (I_1 : List Value → Heap → Prop) (μ_1 : List Value → Heap → Nat), I_1 [k1_1, (Value.int IntKind.i64 0)] h ∧
  ∀ (junk_1 : Nat → Value) (k1_2 : Value) (i5_1 : Value) (h_1 : Heap), I_1 [k1_2, i5_1] h_1 →
  pop P (lenS 25 3 a0_1) fun t8_1 =>
  pop P (binA .lss 3 i5_1 t8_1) fun t9_1 =>
  condM t9_1
  (pop P (Instr.indexAt 25 a0_1 i5_1) fun t14_1 =>
  rop P (Instr.loadAt 3 t14_1) h_1 fun t15_1 =>
  pop P (binE .neq 3 (.tmp 15) (.tmp 16) t15_1 k1_2) fun t17_1 =>
  condM t17_1
  (K (Value.int IntKind.i64 (-1)) h_1)
  (pop P (binA .add 3 k1_2 (Value.int IntKind.i64 1)) fun t19_1 =>
  pop P (binA .add 3 i5_1 (Value.int IntKind.i64 1)) fun t11_1 =>
  I_1 [t19_1, t11_1] h_1 ∧ μ_1 [t19_1, t11_1] h_1 < μ_1 [k1_2, i5_1] h_1))
  (K k1_2 h_1)
theorem e57 (a0_1 : Value) (k1_1 : Value) (h : Heap) (K : Value → Heap → Prop) : wpA Try.prog 21 (anOf [(26, [1, 5])]) (bodyOf Try.f57) 1 (fun A h => resA Try.prog A h K [.tmp 4]) (fun _ _ _ => False) (fun A h => resA Try.prog A h K [.tmp 4]) (aargs [a0_1, k1_1] 0) h = t57 Try.prog a0_1 k1_1 h K := by kernel_rfl
theorem c57 (a0_1 : Value) (k1_1 : Value) (h : Heap) (K : Value → Heap → Prop) (H : t57 Try.prog a0_1 k1_1 h K) : callM Try.prog 57 #[a0_1, k1_1] h K :=
  callM_of_wpA mixed (fn := Try.f57) Try.func57 (c := bodyOf Try.f57) rfl (of_decide_eq_true (by kernel_rfl)) (anOf [(26, [1, 5])]) 19 21 (by kernel_rfl) rfl [.tmp 4] (by kernel_rfl) (args := [a0_1, k1_1]) (by rw [e57]; exact H)

/-! spec.EndOfLoad -/
def t62 (P : Program) (g0_1 : Value) (sink1_1 : Value) (l2_1 : Value) (choices3_1 : Value) (h : Heap) (K : Value → Heap → Prop) : Prop :=
  eop P (Instr.box 32 g0_1) h fun g4_1 h_1 =>
  eop P (Instr.box 63 l2_1) h_1 fun l6_1 h_2 =>
  eop P (Instr.alloc 63 true (.tuple #[])) h_2 fun t8_1 h_3 =>
  rop P (Instr.loadAt 32 g4_1) h_3 fun t13_1 =>
  rop P (Instr.loadAt 63 l6_1) h_3 fun t15_1 =>
  callM P 96 #[t13_1, sink1_1, t15_1] h_3 fun t16_1 h_4 =>
  pop P (Op.unary .not t16_1) fun t17_1 =>
  guardM t17_1 false (fun k_1 => k_1 choices3_1 h_4) h_4 fun t19_1 h_5 =>
  guardM t17_1 false (fun k_2 => pop P (lenS 25 3 t19_1) fun t20_1 =>
  k_2 t20_1 h_5) h_5 fun t20_2 h_6 =>
  guardM t17_1 false (fun k_3 => pop P (binA .gtr 3 t20_2 (Value.int IntKind.i64 100)) fun t21_1 =>
  k_3 t21_1 h_6) h_6 fun t21_2 h_7 =>
  pop P (pickS t17_1 (Value.bool true) t21_2) fun t22_1 =>
  guardM t22_1 false (fun k_4 => k_4 choices3_1 h_7) h_7 fun t24_1 h_8 =>
  guardM t22_1 false (fun k_5 => callM P 97 #[t24_1, (Value.int IntKind.i64 0), (Value.int IntKind.i64 9223372036854775807)] h_8 fun t25_1 h_9 =>
  k_5 t25_1 h_9) h_8 fun t25_2 h_10 =>
  guardM t22_1 false (fun k_6 => pop P (Op.unary .not t25_2) fun t26_1 =>
  k_6 t26_1 h_10) h_10 fun t26_2 h_11 =>
  pop P (pickS t22_1 (Value.bool true) t26_2) fun t27_1 =>
  condM t27_1
  (pop P (Instr.build 63 #[]) fun t28_1 =>
  uop P (Instr.storeAt 63 t8_1 t28_1) h_11 fun u_1 h_12 =>
  rop P (Instr.loadAt 63 t8_1) h_12 fun r_1 =>
  K (.tuple #[r_1, (Value.bool false)]) h_12)
  (rop P (Instr.loadAt 32 g4_1) h_11 fun t30_1 =>
  rop P (Instr.loadAt 63 l6_1) h_11 fun t32_1 =>
  callM P 105 #[t30_1, sink1_1, t32_1, choices3_1] h_11 fun t34_1 h_13 =>
  pop P (Instr.extract t34_1 0) fun t35_1 =>
  pop P (Instr.extract t34_1 1) fun t36_1 =>
  pop P (Instr.extract t34_1 2) fun t37_1 =>
  eop P (Instr.alloc 63 true (.tuple #[])) h_13 fun out10_1 h_14 =>
  uop P (Instr.storeAt 63 out10_1 t35_1) h_14 fun u_2 h_15 =>
  rop P (Instr.loadAt 63 out10_1) h_15 fun t38_1 =>
  uop P (Instr.storeAt 63 t8_1 t38_1) h_15 fun u_3 h_16 =>
  rop P (Instr.loadAt 63 t8_1) h_16 fun r_2 =>
  K (.tuple #[r_2, t37_1]) h_16)
theorem e62 (g0_1 : Value) (sink1_1 : Value) (l2_1 : Value) (choices3_1 : Value) (h : Heap) (K : Value → Heap → Prop) : wpA Try.prog 40 (anOf []) (bodyOf Try.f62) 1 (fun A h => resA Try.prog A h K [.cell 8 63, .tmp 9]) (fun _ _ _ => False) (fun A h => resA Try.prog A h K [.cell 8 63, .tmp 9]) (aargs [g0_1, sink1_1, l2_1, choices3_1] 0) h = t62 Try.prog g0_1 sink1_1 l2_1 choices3_1 h K := by kernel_rfl
theorem c62 (g0_1 : Value) (sink1_1 : Value) (l2_1 : Value) (choices3_1 : Value) (h : Heap) (K : Value → Heap → Prop) (H : t62 Try.prog g0_1 sink1_1 l2_1 choices3_1 h K) : callM Try.prog 62 #[g0_1, sink1_1, l2_1, choices3_1] h K :=
  callM_of_wpA mixed (fn := Try.f62) Try.func62 (c := bodyOf Try.f62) rfl (of_decide_eq_true (by kernel_rfl)) (anOf []) 36 40 (by kernel_rfl) rfl [.cell 8 63, .tmp 9] (by kernel_rfl) (args := [g0_1, sink1_1, l2_1, choices3_1]) (by rw [e62]; exact H)

/-! impl.EndOfLoad -/
def t63 (P : Program) (g0_1 : Value) (sink1_1 : Value) (l2_1 : Value) (choices3_1 : Value) (h : Heap) (K : Value → Heap → Prop) : Prop :=
  eop P (Instr.box 32 g0_1) h fun g4_1 h_1 =>
  eop P (Instr.box 63 l2_1) h_1 fun l6_1 h_2 =>
  eop P (Instr.alloc 63 true (.tuple #[])) h_2 fun t8_1 h_3 =>
  rop P (Instr.loadAt 32 g4_1) h_3 fun t13_1 =>
  rop P (Instr.loadAt 63 l6_1) h_3 fun t15_1 =>
  callM P 100 #[t13_1, sink1_1, t15_1] h_3 fun t16_1 h_4 =>
  pop P (Op.unary .not t16_1) fun t17_1 =>
  guardM t17_1 false (fun k_1 => k_1 choices3_1 h_4) h_4 fun t19_1 h_5 =>
  guardM t17_1 false (fun k_2 => pop P (lenS 25 3 t19_1) fun t20_1 =>
  k_2 t20_1 h_5) h_5 fun t20_2 h_6 =>
  guardM t17_1 false (fun k_3 => pop P (binA .gtr 3 t20_2 (Value.int IntKind.i64 100)) fun t21_1 =>
  k_3 t21_1 h_6) h_6 fun t21_2 h_7 =>
  pop P (pickS t17_1 (Value.bool true) t21_2) fun t22_1 =>
  guardM t22_1 false (fun k_4 => k_4 choices3_1 h_7) h_7 fun t24_1 h_8 =>
  guardM t22_1 false (fun k_5 => callM P 106 #[t24_1, (.func (.func 107) #[] #[])] h_8 fun t25_1 h_9 =>
  k_5 t25_1 h_9) h_8 fun t25_2 h_10 =>
  pop P (pickS t22_1 (Value.bool true) t25_2) fun t26_1 =>
  condM t26_1
  (pop P (Instr.build 63 #[]) fun t27_1 =>
  uop P (Instr.storeAt 63 t8_1 t27_1) h_10 fun u_1 h_11 =>
  rop P (Instr.loadAt 63 t8_1) h_11 fun r_1 =>
  K (.tuple #[r_1, (Value.bool false)]) h_11)
  (rop P (Instr.loadAt 63 l6_1) h_10 fun t28_1 =>
  callM P 101 #[t28_1] h_10 fun t29_1 h_12 =>
  eop P (Instr.alloc 63 true (.tuple #[])) h_12 fun out10_1 h_13 =>
  uop P (Instr.storeAt 63 out10_1 t29_1) h_13 fun u_2 h_14 =>
  rop P (Instr.loadAt 32 g4_1) h_14 fun t31_1 =>
  callM P 108 #[out10_1, t31_1, sink1_1, choices3_1] h_14 fun t34_1 h_15 =>
  pop P (Instr.extract t34_1 0) fun t35_1 =>
  pop P (Instr.extract t34_1 1) fun t36_1 =>
  pop P (Op.unary .not t36_1) fun t38_1 =>
  condM t38_1
  (pop P (Instr.build 63 #[]) fun t39_1 =>
  uop P (Instr.storeAt 63 t8_1 t39_1) h_15 fun u_3 h_16 =>
  rop P (Instr.loadAt 63 t8_1) h_16 fun r_2 =>
  K (.tuple #[r_2, (Value.bool false)]) h_16)
  (rop P (Instr.loadAt 63 out10_1) h_15 fun t40_1 =>
  uop P (Instr.storeAt 63 t8_1 t40_1) h_15 fun u_4 h_17 =>
  rop P (Instr.loadAt 63 t8_1) h_17 fun r_3 =>
  K (.tuple #[r_3, (Value.bool true)]) h_17))
theorem e63 (g0_1 : Value) (sink1_1 : Value) (l2_1 : Value) (choices3_1 : Value) (h : Heap) (K : Value → Heap → Prop) : wpA Try.prog 41 (anOf []) (bodyOf Try.f63) 1 (fun A h => resA Try.prog A h K [.cell 8 63, .tmp 9]) (fun _ _ _ => False) (fun A h => resA Try.prog A h K [.cell 8 63, .tmp 9]) (aargs [g0_1, sink1_1, l2_1, choices3_1] 0) h = t63 Try.prog g0_1 sink1_1 l2_1 choices3_1 h K := by kernel_rfl
theorem c63 (g0_1 : Value) (sink1_1 : Value) (l2_1 : Value) (choices3_1 : Value) (h : Heap) (K : Value → Heap → Prop) (H : t63 Try.prog g0_1 sink1_1 l2_1 choices3_1 h K) : callM Try.prog 63 #[g0_1, sink1_1, l2_1, choices3_1] h K :=
  callM_of_wpA mixed (fn := Try.f63) Try.func63 (c := bodyOf Try.f63) rfl (of_decide_eq_true (by kernel_rfl)) (anOf []) 37 41 (by kernel_rfl) rfl [.cell 8 63, .tmp 9] (by kernel_rfl) (args := [g0_1, sink1_1, l2_1, choices3_1]) (by rw [e63]; exact H)

/-! laws.szIntSS -/
def t64 (P : Program) (a0_1 : Value) (left1_1 : Value) (h : Heap) (K : Value → Heap → Prop) : Prop :=
  pop P (lenS 22 3 a0_1) fun t8_1 =>
  pop P (binA .sub 3 left1_1 t8_1) fun t9_1 =>
  pop P (binA .lss 3 t9_1 (Value.int IntKind.i64 0)) fun t11_1 =>
  condM t11_1
  (K (Value.int IntKind.i64 (-1)) h)
  (∃ (I_1 : List Value → Heap → Prop) (μ_1 : List Value → Heap → Nat), I_1 [t9_1, (Value.int IntKind.i64 0)] h ∧
  ∀ (junk_1 : Nat → Value) (left1_2 : Value) (i5_1 : Value) (h_1 : Heap), I_1 [left1_2, i5_1] h_1 →
  pop P (lenS 22 3 a0_1) fun t14_1 =>
  pop P (binA .lss 3 i5_1 t14_1) fun t15_1 =>
  condM t15_1
  (pop P (Instr.indexAt 22 a0_1 i5_1) fun t20_1 =>
  rop P (Instr.loadAt 25 t20_1) h_1 fun t21_1 =>
  callM P 65 #[t21_1, left1_2] h_1 fun t23_1 h_2 =>
  pop P (binA .lss 3 t23_1 (Value.int IntKind.i64 0)) fun t25_1 =>
  condM t25_1
  (K (Value.int IntKind.i64 (-1)) h_2)
  (pop P (binA .add 3 i5_1 (Value.int IntKind.i64 1)) fun t17_1 =>
  I_1 [t23_1, t17_1] h_2 ∧ μ_1 [t23_1, t17_1] h_2 < μ_1 [left1_2, i5_1] h_1))
  (K left1_2 h_1))
theorem e64 (a0_1 : Value) (left1_1 : Value) (h : Heap) (K : Value → Heap → Prop) : wpA Try.prog 27 (anOf [(122, [1, 5])]) (bodyOf Try.f64) 1 (fun A h => resA Try.prog A h K [.tmp 4]) (fun _ _ _ => False) (fun A h => resA Try.prog A h K [.tmp 4]) (aargs [a0_1, left1_1] 0) h = t64 Try.prog a0_1 left1_1 h K := by kernel_rfl
theorem c64 (a0_1 : Value) (left1_1 : Value) (h : Heap) (K : Value → Heap → Prop) (H : t64 Try.prog a0_1 left1_1 h K) : callM Try.prog 64 #[a0_1, left1_1] h K :=
  callM_of_wpA mixed (fn := Try.f64) Try.func64 (c := bodyOf Try.f64) rfl (of_decide_eq_true (by kernel_rfl)) (anOf [(122, [1, 5])]) 25 27 (by kernel_rfl) rfl [.tmp 4] (by kernel_rfl) (args := [a0_1, left1_1]) (by rw [e64]; exact H)

/-! laws.szIntS -/
def t65 (P : Program) (a0_1 : Value) (left1_1 : Value) (h : Heap) (K : Value → Heap → Prop) : Prop :=
  pop P (lenS 25 3 a0_1) fun t7_1 =>
  pop P (binA .sub 3 left1_1 t7_1) fun t8_1 =>
  pop P (binA .lss 3 t8_1 (Value.int IntKind.i64 0)) fun t10_1 =>
  condM t10_1
  (K (Value.int IntKind.i64 (-1)) h)
  (K t8_1 h)
theorem e65 (a0_1 : Value) (left1_1 : Value) (h : Heap) (K : Value → Heap → Prop) : wpA Try.prog 12 (anOf []) (bodyOf Try.f65) 1 (fun A h => resA Try.prog A h K [.tmp 4]) (fun _ _ _ => False) (fun A h => resA Try.prog A h K [.tmp 4]) (aargs [a0_1, left1_1] 0) h = t65 Try.prog a0_1 left1_1 h K := by kernel_rfl
theorem c65 (a0_1 : Value) (left1_1 : Value) (h : Heap) (K : Value → Heap → Prop) (H : t65 Try.prog a0_1 left1_1 h K) : callM Try.prog 65 #[a0_1, left1_1] h K :=
  callM_of_wpA mixed (fn := Try.f65) Try.func65 (c := bodyOf Try.f65) rfl (of_decide_eq_true (by kernel_rfl)) (anOf []) 10 12 (by kernel_rfl) rfl [.tmp 4] (by kernel_rfl) (args := [a0_1, left1_1]) (by rw [e65]; exact H)

/-! laws.toIntSS -/
def t68 (P : Program) (a0_1 : Value) (h : Heap) (K : Value → Heap → Prop) : Prop :=
  pop P (lenS 22 3 a0_1) fun t6_1 =>
  eop P (Instr.makeSlice 22 t6_1 t6_1) h fun t7_1 h_1 =>
  ∃ (I_1 : List Value → Heap → Prop) (μ_1 : List Value → Heap → Nat), I_1 [(Value.int IntKind.i64 0)] h_1 ∧
  ∀ (junk_1 : Nat → Value) (i4_1 : Value) (h_2 : Heap), I_1 [i4_1] h_2 →
  pop P (lenS 22 3 a0_1) fun t10_1 =>
  pop P (binA .lss 3 i4_1 t10_1) fun t11_1 =>
  condM t11_1
  (pop P (Instr.indexAt 22 a0_1 i4_1) fun t18_1 =>
  rop P (Instr.loadAt 25 t18_1) h_2 fun t19_1 =>
  callM P 42 #[t19_1] h_2 fun t20_1 h_3 =>
  pop P (Instr.indexAt 22 t7_1 i4_1) fun t21_1 =>
  uop P (Instr.storeAt 25 t21_1 t20_1) h_3 fun u_1 h_4 =>
  pop P (binA .add 3 i4_1 (Value.int IntKind.i64 1)) fun t13_1 =>
  I_1 [t13_1] h_4 ∧ μ_1 [t13_1] h_4 < μ_1 [i4_1] h_2)
  (K t7_1 h_2)
theorem e68 (a0_1 : Value) (h : Heap) (K : Value → Heap → Prop) : wpA Try.prog 23 (anOf [(58, [4])]) (bodyOf Try.f68) 1 (fun A h => resA Try.prog A h K [.tmp 2]) (fun _ _ _ => False) (fun A h => resA Try.prog A h K [.tmp 2]) (aargs [a0_1] 0) h = t68 Try.prog a0_1 h K := by kernel_rfl
theorem c68 (a0_1 : Value) (h : Heap) (K : Value → Heap → Prop) (H : t68 Try.prog a0_1 h K) : callM Try.prog 68 #[a0_1] h K :=
  callM_of_wpA mixed (fn := Try.f68) Try.func68 (c := bodyOf Try.f68) rfl (of_decide_eq_true (by kernel_rfl)) (anOf [(58, [4])]) 22 23 (by kernel_rfl) rfl [.tmp 2] (by kernel_rfl) (args := [a0_1]) (by rw [e68]; exact H)

/-! spec.waGood -/
def t74 (P : Program) (g0_1 : Value) (w1_1 : Value) (h : Heap) (K : Value → Heap → Prop) : Prop :=
  eop P (Instr.box 32 g0_1) h fun g2_1 h_1 =>
  eop P (Instr.box 34 w1_1) h_1 fun w3_1 h_2 =>
  rop P (Instr.loadAt 32 g2_1) h_2 fun t7_1 =>
  pop P (Instr.fieldAt 34 w3_1 1) fun t8_1 =>
  rop P (Instr.loadAt 3 t8_1) h_2 fun t9_1 =>
  callM P 81 #[t7_1, t9_1] h_2 fun t10_1 h_3 =>
  pop P (Op.unary .not t10_1) fun t11_1 =>
  guardM t11_1 false (fun k_1 => pop P (Instr.fieldAt 34 w3_1 0) fun t13_1 =>
  k_1 t13_1 h_3) h_3 fun t13_2 h_4 =>
  guardM t11_1 false (fun k_2 => rop P (Instr.loadAt 25 t13_2) h_4 fun t14_1 =>
  k_2 t14_1 h_4) h_4 fun t14_2 h_5 =>
  guardM t11_1 false (fun k_3 => pop P (lenS 25 3 t14_2) fun t15_1 =>
  k_3 t15_1 h_5) h_5 fun t15_2 h_6 =>
  guardM t11_1 false (fun k_4 => pop P (Instr.fieldAt 32 g2_1 0) fun t16_1 =>
  k_4 t16_1 h_6) h_6 fun t16_2 h_7 =>
  guardM t11_1 false (fun k_5 => rop P (Instr.loadAt 22 t16_2) h_7 fun t17_1 =>
  k_5 t17_1 h_7) h_7 fun t17_2 h_8 =>
  guardM t11_1 false (fun k_6 => pop P (lenS 22 3 t17_2) fun t18_1 =>
  k_6 t18_1 h_8) h_8 fun t18_2 h_9 =>
  guardM t11_1 false (fun k_7 => pop P (binE .neq 3 (.tmp 15) (.tmp 18) t15_2 t18_2) fun t19_1 =>
  k_7 t19_1 h_9) h_9 fun t19_2 h_10 =>
  pop P (pickS t11_1 (Value.bool true) t19_2) fun t20_1 =>
  condM t20_1
  (K (Value.bool false) h_10)
  (pop P (Instr.fieldAt 32 g2_1 0) fun t21_1 =>
  rop P (Instr.loadAt 22 t21_1) h_10 fun t22_1 =>
  pop P (lenS 22 3 t22_1) fun t23_1 =>
  ∃ (I_1 : List Value → Heap → Prop) (μ_1 : List Value → Heap → Nat), I_1 [(Value.int IntKind.i64 0)] h_10 ∧
  ∀ (junk_1 : Nat → Value) (t24_1 : Value) (h_11 : Heap), I_1 [t24_1] h_11 →
  pop P (binA .lss 3 t24_1 t23_1) fun t25_1 =>
  condM t25_1
  (pop P (Instr.indexAt 22 t22_1 t24_1) fun t27_1 =>
  rop P (Instr.loadAt 25 t27_1) h_11 fun t28_1 =>
  pop P (Instr.fieldAt 34 w3_1 0) fun t29_1 =>
  rop P (Instr.loadAt 25 t29_1) h_11 fun t30_1 =>
  pop P (Instr.indexAt 25 t30_1 t24_1) fun t32_1 =>
  rop P (Instr.loadAt 3 t32_1) h_11 fun t33_1 =>
  pop P (lenS 25 3 t28_1) fun t35_1 =>
  pop P (binA .sub 3 t35_1 (Value.int IntKind.i64 1)) fun t36_1 =>
  callM P 113 #[(Value.int IntKind.i64 0), t36_1] h_11 fun t37_1 h_12 =>
  (∀ w : World, w.heap = h_12 → (Instr.loadAt 3 t32_1).run P w = .ok t33_1 w) ∧
  (∀ w : World, w.heap = h_12 → (Instr.loadAt 25 t29_1).run P w = .ok t30_1 w) ∧
  callM P 109 #[t33_1, (Value.int IntKind.i64 0), t37_1] h_12 fun t38_1 h_13 =>
  (∀ w : World, w.heap = h_13 → (Instr.loadAt 25 t29_1).run P w = .ok t30_1 w) ∧
  pop P (Op.unary .not t38_1) fun t39_1 =>
  condM t39_1
  (K (Value.bool false) h_13)
  (pop P (binA .add 3 t24_1 (Value.int IntKind.i64 1)) fun t40_1 =>
  I_1 [t40_1] h_13 ∧ μ_1 [t40_1] h_13 < μ_1 [t24_1] h_11))
  (K (Value.bool true) h_11))
theorem e74 (g0_1 : Value) (w1_1 : Value) (h : Heap) (K : Value → Heap → Prop) : wpA Try.prog 41 (anOf [(58, [24])]) (bodyOf Try.f74) 1 (fun A h => resA Try.prog A h K [.tmp 4]) (fun _ _ _ => False) (fun A h => resA Try.prog A h K [.tmp 4]) (aargs [g0_1, w1_1] 0) h = t74 Try.prog g0_1 w1_1 h K := by kernel_rfl
theorem c74 (g0_1 : Value) (w1_1 : Value) (h : Heap) (K : Value → Heap → Prop) (H : t74 Try.prog g0_1 w1_1 h K) : callM Try.prog 74 #[g0_1, w1_1] h K :=
  callM_of_wpA mixed (fn := Try.f74) Try.func74 (c := bodyOf Try.f74) rfl (of_decide_eq_true (by kernel_rfl)) (anOf [(58, [24])]) 39 41 (by kernel_rfl) rfl [.tmp 4] (by kernel_rfl) (args := [g0_1, w1_1]) (by rw [e74]; exact H)

/-! impl.isWalk -/
def t77 (P : Program) (g0_1 : Value) (w1_1 : Value) (h : Heap) (K : Value → Heap → Prop) : Prop :=
  eop P (Instr.box 32 g0_1) h fun g2_1 h_1 =>
  eop P (Instr.box 34 w1_1) h_1 fun w3_1 h_2 =>
  rop P (Instr.loadAt 32 g2_1) h_2 fun t7_1 =>
  pop P (Instr.fieldAt 34 w3_1 1) fun t8_1 =>
  rop P (Instr.loadAt 3 t8_1) h_2 fun t9_1 =>
  eop P (Instr.buildSlice 25 1 #[(0, t9_1)]) h_2 fun t10_1 h_3 =>
  callM P 85 #[t7_1, t10_1] h_3 fun t11_1 h_4 =>
  pop P (Op.unary .not t11_1) fun t12_1 =>
  guardM t12_1 false (fun k_1 => pop P (Instr.fieldAt 34 w3_1 0) fun t14_1 =>
  k_1 t14_1 h_4) h_4 fun t14_2 h_5 =>
  guardM t12_1 false (fun k_2 => rop P (Instr.loadAt 25 t14_2) h_5 fun t15_1 =>
  k_2 t15_1 h_5) h_5 fun t15_2 h_6 =>
  guardM t12_1 false (fun k_3 => pop P (lenS 25 3 t15_2) fun t16_1 =>
  k_3 t16_1 h_6) h_6 fun t16_2 h_7 =>
  guardM t12_1 false (fun k_4 => pop P (Instr.fieldAt 32 g2_1 0) fun t17_1 =>
  k_4 t17_1 h_7) h_7 fun t17_2 h_8 =>
  guardM t12_1 false (fun k_5 => rop P (Instr.loadAt 22 t17_2) h_8 fun t18_1 =>
  k_5 t18_1 h_8) h_8 fun t18_2 h_9 =>
  guardM t12_1 false (fun k_6 => pop P (lenS 22 3 t18_2) fun t19_1 =>
  k_6 t19_1 h_9) h_9 fun t19_2 h_10 =>
  guardM t12_1 false (fun k_7 => pop P (binE .neq 3 (.tmp 16) (.tmp 19) t16_2 t19_2) fun t20_1 =>
  k_7 t20_1 h_10) h_10 fun t20_2 h_11 =>
  pop P (pickS t12_1 (Value.bool true) t20_2) fun t21_1 =>
  condM t21_1
  (K (Value.bool false) h_11)
  (pop P (Instr.fieldAt 34 w3_1 0) fun t22_1 =>
  rop P (Instr.loadAt 25 t22_1) h_11 fun t23_1 =>
  pop P (lenS 25 3 t23_1) fun t24_1 =>
  ∃ (I_1 : List Value → Heap → Prop) (μ_1 : List Value → Heap → Nat), I_1 [(Value.int IntKind.i64 0)] h_11 ∧
  ∀ (junk_1 : Nat → Value) (t25_1 : Value) (h_12 : Heap), I_1 [t25_1] h_12 →
  pop P (binA .lss 3 t25_1 t24_1) fun t26_1 =>
  condM t26_1
  (pop P (Instr.indexAt 25 t23_1 t25_1) fun t28_1 =>
  rop P (Instr.loadAt 3 t28_1) h_12 fun t29_1 =>
  pop P (Instr.fieldAt 32 g2_1 0) fun t31_1 =>
  rop P (Instr.loadAt 22 t31_1) h_12 fun t32_1 =>
  pop P (Instr.indexAt 22 t32_1 t25_1) fun t34_1 =>
  rop P (Instr.loadAt 25 t34_1) h_12 fun t35_1 =>
  pop P (lenS 25 3 t35_1) fun t36_1 =>
  pop P (binA .sub 3 t36_1 (Value.int IntKind.i64 1)) fun t37_1 =>
  pop P (Builtin.max_ #[3, 3] 3 #[t37_1, (Value.int IntKind.i64 0)]) fun t38_1 =>
  callM P 110 #[t29_1, (Value.int IntKind.i64 0), t38_1] h_12 fun t39_1 h_13 =>
  pop P (Op.unary .not t39_1) fun t40_1 =>
  condM t40_1
  (K (Value.bool false) h_13)
  (pop P (binA .add 3 t25_1 (Value.int IntKind.i64 1)) fun t41_1 =>
  I_1 [t41_1] h_13 ∧ μ_1 [t41_1] h_13 < μ_1 [t25_1] h_12))
  (K (Value.bool true) h_12))
theorem e77 (g0_1 : Value) (w1_1 : Value) (h : Heap) (K : Value → Heap → Prop) : wpA Try.prog 42 (anOf [(58, [25])]) (bodyOf Try.f77) 1 (fun A h => resA Try.prog A h K [.tmp 4]) (fun _ _ _ => False) (fun A h => resA Try.prog A h K [.tmp 4]) (aargs [g0_1, w1_1] 0) h = t77 Try.prog g0_1 w1_1 h K := by kernel_rfl
theorem c77 (g0_1 : Value) (w1_1 : Value) (h : Heap) (K : Value → Heap → Prop) (H : t77 Try.prog g0_1 w1_1 h K) : callM Try.prog 77 #[g0_1, w1_1] h K :=
  callM_of_wpA mixed (fn := Try.f77) Try.func77 (c := bodyOf Try.f77) rfl (of_decide_eq_true (by kernel_rfl)) (anOf [(58, [25])]) 40 42 (by kernel_rfl) rfl [.tmp 4] (by kernel_rfl) (args := [g0_1, w1_1]) (by rw [e77]; exact H)

/-! spec.grPlace -/
def t81 (P : Program) (g0_1 : Value) (p1_1 : Value) (h : Heap) (K : Value → Heap → Prop) : Prop :=
  eop P (Instr.box 32 g0_1) h fun g2_1 h_1 =>
  rop P (Instr.loadAt 32 g2_1) h_1 fun t5_1 =>
  callM P 119 #[t5_1] h_1 fun t6_1 h_2 =>
  guardM t6_1 true (fun k_1 => k_1 p1_1 h_2) h_2 fun t8_1 h_3 =>
  guardM t6_1 true (fun k_2 => pop P (Instr.fieldAt 32 g2_1 0) fun t9_1 =>
  k_2 t9_1 h_3) h_3 fun t9_2 h_4 =>
  guardM t6_1 true (fun k_3 => rop P (Instr.loadAt 22 t9_2) h_4 fun t10_1 =>
  k_3 t10_1 h_4) h_4 fun t10_2 h_5 =>
  guardM t6_1 true (fun k_4 => pop P (lenS 22 3 t10_2) fun t11_1 =>
  k_4 t11_1 h_5) h_5 fun t11_2 h_6 =>
  guardM t6_1 true (fun k_5 => pop P (binA .sub 3 t11_2 (Value.int IntKind.i64 1)) fun t12_1 =>
  k_5 t12_1 h_6) h_6 fun t12_2 h_7 =>
  guardM t6_1 true (fun k_6 => callM P 109 #[t8_1, (Value.int IntKind.i64 0), t12_2] h_7 fun t13_1 h_8 =>
  k_6 t13_1 h_8) h_7 fun t13_2 h_9 =>
  pop P (pickS t6_1 t13_2 (Value.bool false)) fun t14_1 =>
  K t14_1 h_9
theorem e81 (g0_1 : Value) (p1_1 : Value) (h : Heap) (K : Value → Heap → Prop) : wpA Try.prog 15 (anOf []) (bodyOf Try.f81) 1 (fun A h => resA Try.prog A h K [.tmp 4]) (fun _ _ _ => False) (fun A h => resA Try.prog A h K [.tmp 4]) (aargs [g0_1, p1_1] 0) h = t81 Try.prog g0_1 p1_1 h K := by kernel_rfl
theorem c81 (g0_1 : Value) (p1_1 : Value) (h : Heap) (K : Value → Heap → Prop) (H : t81 Try.prog g0_1 p1_1 h K) : callM Try.prog 81 #[g0_1, p1_1] h K :=
  callM_of_wpA mixed (fn := Try.f81) Try.func81 (c := bodyOf Try.f81) rfl (of_decide_eq_true (by kernel_rfl)) (anOf []) 13 15 (by kernel_rfl) rfl [.tmp 4] (by kernel_rfl) (args := [g0_1, p1_1]) (by rw [e81]; exact H)

/-! impl.has -/
def t85 (P : Program) (g0_1 : Value) (places1_1 : Value) (h : Heap) (K : Value → Heap → Prop) : Prop :=
  eop P (Instr.box 32 g0_1) h fun g2_1 h_1 =>
  rop P (Instr.loadAt 32 g2_1) h_1 fun t5_1 =>
  callM P 122 #[t5_1] h_1 fun t6_1 h_2 =>
  guardM t6_1 true (fun k_1 => k_1 places1_1 h_2) h_2 fun t8_1 h_3 =>
  guardM t6_1 true (fun k_2 => pop P (Instr.makeFunc (Fn.func 123) #[] #[g2_1]) fun t9_1 =>
  k_2 t9_1 h_3) h_3 fun t9_2 h_4 =>
  guardM t6_1 true (fun k_3 => callM P 106 #[t8_1, t9_2] h_4 fun t10_1 h_5 =>
  k_3 t10_1 h_5) h_4 fun t10_2 h_6 =>
  guardM t6_1 true (fun k_4 => pop P (Op.unary .not t10_2) fun t11_1 =>
  k_4 t11_1 h_6) h_6 fun t11_2 h_7 =>
  pop P (pickS t6_1 t11_2 (Value.bool false)) fun t12_1 =>
  K t12_1 h_7
theorem e85 (g0_1 : Value) (places1_1 : Value) (h : Heap) (K : Value → Heap → Prop) : wpA Try.prog 13 (anOf []) (bodyOf Try.f85) 1 (fun A h => resA Try.prog A h K [.tmp 4]) (fun _ _ _ => False) (fun A h => resA Try.prog A h K [.tmp 4]) (aargs [g0_1, places1_1] 0) h = t85 Try.prog g0_1 places1_1 h K := by kernel_rfl
theorem c85 (g0_1 : Value) (places1_1 : Value) (h : Heap) (K : Value → Heap → Prop) (H : t85 Try.prog g0_1 places1_1 h K) : callM Try.prog 85 #[g0_1, places1_1] h K :=
  callM_of_wpA mixed (fn := Try.f85) Try.func85 (c := bodyOf Try.f85) rfl (of_decide_eq_true (by kernel_rfl)) (anOf []) 11 13 (by kernel_rfl) rfl [.tmp 4] (by kernel_rfl) (args := [g0_1, places1_1]) (by rw [e85]; exact H)

/-! spec.chLoaded -/
def t92 (P : Program) (sink0_1 : Value) (chips1_1 : Value) (h : Heap) (K : Value → Heap → Prop) : Prop :=
  pop P (lenS 25 3 chips1_1) fun t9_1 =>
  ∃ (I_1 : List Value → Heap → Prop) (μ_1 : List Value → Heap → Nat), I_1 [(Value.slice none 0 0), (Value.int IntKind.i64 0)] h ∧
  ∀ (junk_1 : Nat → Value) (out5_1 : Value) (t10_1 : Value) (h_1 : Heap), I_1 [out5_1, t10_1] h_1 →
  pop P (binA .lss 3 t10_1 t9_1) fun t11_1 =>
  condM t11_1
  (pop P (Instr.indexAt 25 chips1_1 t10_1) fun t13_1 =>
  rop P (Instr.loadAt 3 t13_1) h_1 fun t14_1 =>
  pop P (binE .neq 3 (.tmp 15) (.tmp 16) t10_1 sink0_1) fun t17_1 =>
  guardM t17_1 true (fun k_1 => k_1 t14_1 h_1) h_1 fun t19_1 h_2 =>
  guardM t17_1 true (fun k_2 => pop P (binA .gtr 3 t19_1 (Value.int IntKind.i64 0)) fun t20_1 =>
  k_2 t20_1 h_2) h_2 fun t20_2 h_3 =>
  pop P (pickS t17_1 t20_2 (Value.bool false)) fun t21_1 =>
  condM t21_1
  (eop P (Instr.buildSlice 25 1 #[(0, t10_1)]) h_3 fun t24_1 h_4 =>
  eop P (appS 25 25 25 out5_1 t24_1) h_4 fun t25_1 h_5 =>
  pop P (binA .add 3 t10_1 (Value.int IntKind.i64 1)) fun t26_1 =>
  I_1 [t25_1, t26_1] h_5 ∧ μ_1 [t25_1, t26_1] h_5 < μ_1 [out5_1, t10_1] h_1)
  (pop P (binA .add 3 t10_1 (Value.int IntKind.i64 1)) fun t26_2 =>
  I_1 [out5_1, t26_2] h_3 ∧ μ_1 [out5_1, t26_2] h_3 < μ_1 [out5_1, t10_1] h_1))
  (K out5_1 h_1)
theorem e92 (sink0_1 : Value) (chips1_1 : Value) (h : Heap) (K : Value → Heap → Prop) : wpA Try.prog 28 (anOf [(58, [5, 10])]) (bodyOf Try.f92) 1 (fun A h => resA Try.prog A h K [.tmp 4]) (fun _ _ _ => False) (fun A h => resA Try.prog A h K [.tmp 4]) (aargs [sink0_1, chips1_1] 0) h = t92 Try.prog sink0_1 chips1_1 h K := by kernel_rfl
theorem c92 (sink0_1 : Value) (chips1_1 : Value) (h : Heap) (K : Value → Heap → Prop) (H : t92 Try.prog sink0_1 chips1_1 h K) : callM Try.prog 92 #[sink0_1, chips1_1] h K :=
  callM_of_wpA mixed (fn := Try.f92) Try.func92 (c := bodyOf Try.f92) rfl (of_decide_eq_true (by kernel_rfl)) (anOf [(58, [5, 10])]) 26 28 (by kernel_rfl) rfl [.tmp 4] (by kernel_rfl) (args := [sink0_1, chips1_1]) (by rw [e92]; exact H)

/-! (*impl.Load).waiting -/
def t95 (P : Program) (l0_1 : Value) (sink1_1 : Value) (h : Heap) (K : Value → Heap → Prop) : Prop :=
  eop P (Instr.buildSlice 25 0 #[]) h fun t8_1 h_1 =>
  pop P (nilS l0_1) fun t10_1 =>
  pop P (Instr.fieldAt 63 t10_1 1) fun t11_1 =>
  rop P (Instr.loadAt 25 t11_1) h_1 fun t12_1 =>
  pop P (lenS 25 3 t12_1) fun t13_1 =>
  ∃ (I_1 : List Value → Heap → Prop) (μ_1 : List Value → Heap → Nat), I_1 [t8_1, (Value.int IntKind.i64 0)] h_1 ∧
  ∀ (junk_1 : Nat → Value) (out5_1 : Value) (t14_1 : Value) (h_2 : Heap), I_1 [out5_1, t14_1] h_2 →
  pop P (binA .lss 3 t14_1 t13_1) fun t15_1 =>
  condM t15_1
  (pop P (Instr.indexAt 25 t12_1 t14_1) fun t17_1 =>
  rop P (Instr.loadAt 3 t17_1) h_2 fun t18_1 =>
  pop P (binE .neq 3 (.tmp 19) (.tmp 20) t14_1 sink1_1) fun t21_1 =>
  guardM t21_1 true (fun k_1 => k_1 t18_1 h_2) h_2 fun t23_1 h_3 =>
  guardM t21_1 true (fun k_2 => pop P (binA .gtr 3 t23_1 (Value.int IntKind.i64 0)) fun t24_1 =>
  k_2 t24_1 h_3) h_3 fun t24_2 h_4 =>
  pop P (pickS t21_1 t24_2 (Value.bool false)) fun t25_1 =>
  condM t25_1
  (eop P (Instr.buildSlice 25 1 #[(0, t14_1)]) h_4 fun t28_1 h_5 =>
  eop P (appS 25 25 25 out5_1 t28_1) h_5 fun t29_1 h_6 =>
  pop P (binA .add 3 t14_1 (Value.int IntKind.i64 1)) fun t30_1 =>
  I_1 [t29_1, t30_1] h_6 ∧ μ_1 [t29_1, t30_1] h_6 < μ_1 [out5_1, t14_1] h_2)
  (pop P (binA .add 3 t14_1 (Value.int IntKind.i64 1)) fun t30_2 =>
  I_1 [out5_1, t30_2] h_4 ∧ μ_1 [out5_1, t30_2] h_4 < μ_1 [out5_1, t14_1] h_2))
  (K out5_1 h_2)
theorem e95 (l0_1 : Value) (sink1_1 : Value) (h : Heap) (K : Value → Heap → Prop) : wpA Try.prog 32 (anOf [(58, [5, 14])]) (bodyOf Try.f95) 1 (fun A h => resA Try.prog A h K [.tmp 4]) (fun _ _ _ => False) (fun A h => resA Try.prog A h K [.tmp 4]) (aargs [l0_1, sink1_1] 0) h = t95 Try.prog l0_1 sink1_1 h K := by kernel_rfl
theorem c95 (l0_1 : Value) (sink1_1 : Value) (h : Heap) (K : Value → Heap → Prop) (H : t95 Try.prog l0_1 sink1_1 h K) : callM Try.prog 95 #[l0_1, sink1_1] h K :=
  callM_of_wpA mixed (fn := Try.f95) Try.func95 (c := bodyOf Try.f95) rfl (of_decide_eq_true (by kernel_rfl)) (anOf [(58, [5, 14])]) 30 32 (by kernel_rfl) rfl [.tmp 4] (by kernel_rfl) (args := [l0_1, sink1_1]) (by rw [e95]; exact H)

/-! spec.chGood -/
def t96 (P : Program) (g0_1 : Value) (sink1_1 : Value) (l2_1 : Value) (h : Heap) (K : Value → Heap → Prop) : Prop :=
  eop P (Instr.box 32 g0_1) h fun g3_1 h_1 =>
  eop P (Instr.box 63 l2_1) h_1 fun l5_1 h_2 =>
  rop P (Instr.loadAt 32 g3_1) h_2 fun t7_1 =>
  callM P 132 #[t7_1, sink1_1] h_2 fun t9_1 h_3 =>
  pop P (Op.unary .not t9_1) fun t10_1 =>
  guardM t10_1 false (fun k_1 => rop P (Instr.loadAt 32 g3_1) h_3 fun t12_1 =>
  k_1 t12_1 h_3) h_3 fun t12_2 h_4 =>
  guardM t10_1 false (fun k_2 => pop P (Instr.fieldAt 63 l5_1 0) fun t13_1 =>
  k_2 t13_1 h_4) h_4 fun t13_2 h_5 =>
  guardM t10_1 false (fun k_3 => rop P (Instr.loadAt 25 t13_2) h_5 fun t14_1 =>
  k_3 t14_1 h_5) h_5 fun t14_2 h_6 =>
  guardM t10_1 false (fun k_4 => k_4 sink1_1 h_6) h_6 fun t15_1 h_7 =>
  guardM t10_1 false (fun k_5 => pop P (Instr.build 34 #[(0, t14_2), (1, t15_1)]) fun t16_1 =>
  k_5 t16_1 h_7) h_7 fun t16_2 h_8 =>
  guardM t10_1 false (fun k_6 => callM P 74 #[t12_2, t16_2] h_8 fun t17_1 h_9 =>
  k_6 t17_1 h_9) h_8 fun t17_2 h_10 =>
  guardM t10_1 false (fun k_7 => pop P (Op.unary .not t17_2) fun t18_1 =>
  k_7 t18_1 h_10) h_10 fun t18_2 h_11 =>
  pop P (pickS t10_1 (Value.bool true) t18_2) fun t19_1 =>
  guardM t19_1 false (fun k_8 => pop P (Instr.fieldAt 63 l5_1 1) fun t21_1 =>
  k_8 t21_1 h_11) h_11 fun t21_2 h_12 =>
  guardM t19_1 false (fun k_9 => rop P (Instr.loadAt 25 t21_2) h_12 fun t22_1 =>
  k_9 t22_1 h_12) h_12 fun t22_2 h_13 =>
  guardM t19_1 false (fun k_10 => pop P (lenS 25 3 t22_2) fun t23_1 =>
  k_10 t23_1 h_13) h_13 fun t23_2 h_14 =>
  guardM t19_1 false (fun k_11 => pop P (Instr.fieldAt 32 g3_1 0) fun t24_1 =>
  k_11 t24_1 h_14) h_14 fun t24_2 h_15 =>
  guardM t19_1 false (fun k_12 => rop P (Instr.loadAt 22 t24_2) h_15 fun t25_1 =>
  k_12 t25_1 h_15) h_15 fun t25_2 h_16 =>
  guardM t19_1 false (fun k_13 => pop P (lenS 22 3 t25_2) fun t26_1 =>
  k_13 t26_1 h_16) h_16 fun t26_2 h_17 =>
  guardM t19_1 false (fun k_14 => pop P (binE .neq 3 (.tmp 23) (.tmp 26) t23_2 t26_2) fun t27_1 =>
  k_14 t27_1 h_17) h_17 fun t27_2 h_18 =>
  pop P (pickS t19_1 (Value.bool true) t27_2) fun t28_1 =>
  condM t28_1
  (K (Value.bool false) h_18)
  (pop P (Instr.fieldAt 63 l5_1 1) fun t29_1 =>
  rop P (Instr.loadAt 25 t29_1) h_18 fun t30_1 =>
  callM P 97 #[t30_1, (Value.int IntKind.i64 0), (Value.int IntKind.i64 20)] h_18 fun t31_1 h_19 =>
  guardM t31_1 true (fun k_15 => pop P (Instr.fieldAt 63 l5_1 1) fun t33_1 =>
  k_15 t33_1 h_19) h_19 fun t33_2 h_20 =>
  guardM t31_1 true (fun k_16 => rop P (Instr.loadAt 25 t33_2) h_20 fun t34_1 =>
  k_16 t34_1 h_20) h_20 fun t34_2 h_21 =>
  guardM t31_1 true (fun k_17 => callM P 133 #[t34_2] h_21 fun t35_1 h_22 =>
  k_17 t35_1 h_22) h_21 fun t35_2 h_23 =>
  guardM t31_1 true (fun k_18 => pop P (binA .leq 3 t35_2 (Value.int IntKind.i64 20)) fun t36_1 =>
  k_18 t36_1 h_23) h_23 fun t36_2 h_24 =>
  pop P (pickS t31_1 t36_2 (Value.bool false)) fun t37_1 =>
  K t37_1 h_24)
theorem e96 (g0_1 : Value) (sink1_1 : Value) (l2_1 : Value) (h : Heap) (K : Value → Heap → Prop) : wpA Try.prog 38 (anOf []) (bodyOf Try.f96) 1 (fun A h => resA Try.prog A h K [.tmp 6]) (fun _ _ _ => False) (fun A h => resA Try.prog A h K [.tmp 6]) (aargs [g0_1, sink1_1, l2_1] 0) h = t96 Try.prog g0_1 sink1_1 l2_1 h K := by kernel_rfl
theorem c96 (g0_1 : Value) (sink1_1 : Value) (l2_1 : Value) (h : Heap) (K : Value → Heap → Prop) (H : t96 Try.prog g0_1 sink1_1 l2_1 h K) : callM Try.prog 96 #[g0_1, sink1_1, l2_1] h K :=
  callM_of_wpA mixed (fn := Try.f96) Try.func96 (c := bodyOf Try.f96) rfl (of_decide_eq_true (by kernel_rfl)) (anOf []) 35 38 (by kernel_rfl) rfl [.tmp 6] (by kernel_rfl) (args := [g0_1, sink1_1, l2_1]) (by rw [e96]; exact H)

/-! spec.l1All -/
def t97 (P : Program) (l0_1 : Value) (lo1_1 : Value) (hi2_1 : Value) (h : Heap) (K : Value → Heap → Prop) : Prop :=
  pop P (lenS 25 3 l0_1) fun t10_1 =>
  ∃ (I_1 : List Value → Heap → Prop) (μ_1 : List Value → Heap → Nat), I_1 [(Value.int IntKind.i64 0)] h ∧
  ∀ (junk_1 : Nat → Value) (t11_1 : Value) (h_1 : Heap), I_1 [t11_1] h_1 →
  pop P (binA .lss 3 t11_1 t10_1) fun t12_1 =>
  condM t12_1
  (pop P (Instr.indexAt 25 l0_1 t11_1) fun t13_1 =>
  rop P (Instr.loadAt 3 t13_1) h_1 fun t14_1 =>
  callM P 109 #[t14_1, lo1_1, hi2_1] h_1 fun t18_1 h_2 =>
  pop P (Op.unary .not t18_1) fun t19_1 =>
  condM t19_1
  (K (Value.bool false) h_2)
  (pop P (binA .add 3 t11_1 (Value.int IntKind.i64 1)) fun t20_1 =>
  I_1 [t20_1] h_2 ∧ μ_1 [t20_1] h_2 < μ_1 [t11_1] h_1))
  (K (Value.bool true) h_1)
theorem e97 (l0_1 : Value) (lo1_1 : Value) (hi2_1 : Value) (h : Heap) (K : Value → Heap → Prop) : wpA Try.prog 21 (anOf [(26, [11])]) (bodyOf Try.f97) 1 (fun A h => resA Try.prog A h K [.tmp 6]) (fun _ _ _ => False) (fun A h => resA Try.prog A h K [.tmp 6]) (aargs [l0_1, lo1_1, hi2_1] 0) h = t97 Try.prog l0_1 lo1_1 hi2_1 h K := by kernel_rfl
theorem c97 (l0_1 : Value) (lo1_1 : Value) (hi2_1 : Value) (h : Heap) (K : Value → Heap → Prop) (H : t97 Try.prog l0_1 lo1_1 hi2_1 h K) : callM Try.prog 97 #[l0_1, lo1_1, hi2_1] h K :=
  callM_of_wpA mixed (fn := Try.f97) Try.func97 (c := bodyOf Try.f97) rfl (of_decide_eq_true (by kernel_rfl)) (anOf [(26, [11])]) 18 21 (by kernel_rfl) rfl [.tmp 6] (by kernel_rfl) (args := [l0_1, lo1_1, hi2_1]) (by rw [e97]; exact H)

/-! spec.chOwn -/
def t98 (P : Program) (l0_1 : Value) (h : Heap) (K : Value → Heap → Prop) : Prop :=
  eop P (Instr.box 63 l0_1) h fun l1_1 h_1 =>
  eop P (Instr.alloc 63 true (.tuple #[])) h_1 fun t2_1 h_2 =>
  pop P (Instr.fieldAt 63 l1_1 0) fun t3_1 =>
  rop P (Instr.loadAt 25 t3_1) h_2 fun t4_1 =>
  pop P (Instr.fieldAt 63 l1_1 1) fun t6_1 =>
  rop P (Instr.loadAt 25 t6_1) h_2 fun t7_1 =>
  callM P 116 #[t4_1] h_2 fun t5_1 h_3 =>
  (∀ w : World, w.heap = h_3 → (Instr.loadAt 25 t6_1).run P w = .ok t7_1 w) ∧
  callM P 116 #[t7_1] h_3 fun t8_1 h_4 =>
  pop P (Instr.build 63 #[(0, t5_1), (1, t8_1)]) fun t9_1 =>
  uop P (Instr.storeAt 63 t2_1 t9_1) h_4 fun u_1 h_5 =>
  rop P (Instr.loadAt 63 t2_1) h_5 fun r_1 =>
  K r_1 h_5
theorem e98 (l0_1 : Value) (h : Heap) (K : Value → Heap → Prop) : wpA Try.prog 10 (anOf []) (bodyOf Try.f98) 1 (fun A h => resA Try.prog A h K [.cell 2 63]) (fun _ _ _ => False) (fun A h => resA Try.prog A h K [.cell 2 63]) (aargs [l0_1] 0) h = t98 Try.prog l0_1 h K := by kernel_rfl
theorem c98 (l0_1 : Value) (h : Heap) (K : Value → Heap → Prop) (H : t98 Try.prog l0_1 h K) : callM Try.prog 98 #[l0_1] h K :=
  callM_of_wpA mixed (fn := Try.f98) Try.func98 (c := bodyOf Try.f98) rfl (of_decide_eq_true (by kernel_rfl)) (anOf []) 9 10 (by kernel_rfl) rfl [.cell 2 63] (by kernel_rfl) (args := [l0_1]) (by rw [e98]; exact H)

/-! spec.chMove -/
def t99 (P : Program) (g0_1 : Value) (l1_1 : Value) (p2_1 : Value) (h : Heap) (K : Value → Heap → Prop) : Prop :=
  eop P (Instr.box 32 g0_1) h fun g3_1 h_1 =>
  eop P (Instr.box 63 l1_1) h_1 fun l4_1 h_2 =>
  pop P (Instr.fieldAt 32 g3_1 0) fun t7_1 =>
  rop P (Instr.loadAt 22 t7_1) h_2 fun t8_1 =>
  pop P (Instr.indexAt 22 t8_1 p2_1) fun t10_1 =>
  rop P (Instr.loadAt 25 t10_1) h_2 fun t11_1 =>
  pop P (Instr.fieldAt 63 l4_1 0) fun t12_1 =>
  rop P (Instr.loadAt 25 t12_1) h_2 fun t13_1 =>
  pop P (Instr.fieldAt 63 l4_1 0) fun t15_1 =>
  rop P (Instr.loadAt 25 t15_1) h_2 fun t16_1 =>
  pop P (Instr.indexAt 25 t16_1 p2_1) fun t18_1 =>
  rop P (Instr.loadAt 3 t18_1) h_2 fun t19_1 =>
  pop P (binA .add 3 t19_1 (Value.int IntKind.i64 1)) fun t20_1 =>
  pop P (lenS 25 3 t11_1) fun t22_1 =>
  pop P (binA .rem 3 t20_1 t22_1) fun t23_1 =>
  pop P (Instr.indexAt 25 t13_1 p2_1) fun t24_1 =>
  uop P (Instr.storeAt 3 t24_1 t23_1) h_2 fun u_1 h_3 =>
  pop P (Instr.fieldAt 63 l4_1 1) fun t25_1 =>
  rop P (Instr.loadAt 25 t25_1) h_3 fun t26_1 =>
  pop P (Instr.indexAt 25 t26_1 p2_1) fun t28_1 =>
  rop P (Instr.loadAt 3 t28_1) h_3 fun t29_1 =>
  pop P (binA .sub 3 t29_1 (Value.int IntKind.i64 1)) fun t30_1 =>
  pop P (Instr.indexAt 25 t26_1 p2_1) fun t31_1 =>
  uop P (Instr.storeAt 3 t31_1 t30_1) h_3 fun u_2 h_4 =>
  pop P (Instr.fieldAt 63 l4_1 1) fun t32_1 =>
  rop P (Instr.loadAt 25 t32_1) h_4 fun t33_1 =>
  pop P (Instr.fieldAt 63 l4_1 0) fun t35_1 =>
  rop P (Instr.loadAt 25 t35_1) h_4 fun t36_1 =>
  pop P (Instr.indexAt 25 t36_1 p2_1) fun t38_1 =>
  rop P (Instr.loadAt 3 t38_1) h_4 fun t39_1 =>
  pop P (Instr.indexAt 25 t11_1 t39_1) fun t40_1 =>
  rop P (Instr.loadAt 3 t40_1) h_4 fun t41_1 =>
  pop P (Instr.indexAt 25 t33_1 t41_1) fun t42_1 =>
  rop P (Instr.loadAt 3 t42_1) h_4 fun t43_1 =>
  pop P (binA .add 3 t43_1 (Value.int IntKind.i64 1)) fun t44_1 =>
  pop P (Instr.indexAt 25 t33_1 t41_1) fun t45_1 =>
  uop P (Instr.storeAt 3 t45_1 t44_1) h_4 fun u_3 h_5 =>
  K (.tuple #[]) h_5
theorem e99 (g0_1 : Value) (l1_1 : Value) (p2_1 : Value) (h : Heap) (K : Value → Heap → Prop) : wpA Try.prog 46 (anOf []) (bodyOf Try.f99) 1 (fun A h => resA Try.prog A h K []) (fun _ _ _ => False) (fun A h => resA Try.prog A h K []) (aargs [g0_1, l1_1, p2_1] 0) h = t99 Try.prog g0_1 l1_1 p2_1 h K := by kernel_rfl
theorem c99 (g0_1 : Value) (l1_1 : Value) (p2_1 : Value) (h : Heap) (K : Value → Heap → Prop) (H : t99 Try.prog g0_1 l1_1 p2_1 h K) : callM Try.prog 99 #[g0_1, l1_1, p2_1] h K :=
  callM_of_wpA mixed (fn := Try.f99) Try.func99 (c := bodyOf Try.f99) rfl (of_decide_eq_true (by kernel_rfl)) (anOf []) 43 46 (by kernel_rfl) rfl [] (by kernel_rfl) (args := [g0_1, l1_1, p2_1]) (by rw [e99]; exact H)

/-! impl.isLoad -/
def t100 (P : Program) (g0_1 : Value) (sink1_1 : Value) (l2_1 : Value) (h : Heap) (K : Value → Heap → Prop) : Prop :=
  eop P (Instr.box 32 g0_1) h fun g3_1 h_1 =>
  eop P (Instr.box 63 l2_1) h_1 fun l5_1 h_2 =>
  rop P (Instr.loadAt 32 g3_1) h_2 fun t7_1 =>
  callM P 134 #[t7_1, sink1_1] h_2 fun t9_1 h_3 =>
  guardM t9_1 true (fun k_1 => rop P (Instr.loadAt 32 g3_1) h_3 fun t11_1 =>
  k_1 t11_1 h_3) h_3 fun t11_2 h_4 =>
  guardM t9_1 true (fun k_2 => pop P (Instr.fieldAt 63 l5_1 0) fun t12_1 =>
  k_2 t12_1 h_4) h_4 fun t12_2 h_5 =>
  guardM t9_1 true (fun k_3 => rop P (Instr.loadAt 25 t12_2) h_5 fun t13_1 =>
  k_3 t13_1 h_5) h_5 fun t13_2 h_6 =>
  guardM t9_1 true (fun k_4 => callM P 135 #[t11_2, t13_2] h_6 fun t14_1 h_7 =>
  k_4 t14_1 h_7) h_6 fun t14_2 h_8 =>
  pop P (pickS t9_1 t14_2 (Value.bool false)) fun t15_1 =>
  guardM t15_1 true (fun k_5 => rop P (Instr.loadAt 32 g3_1) h_8 fun t17_1 =>
  k_5 t17_1 h_8) h_8 fun t17_2 h_9 =>
  guardM t15_1 true (fun k_6 => pop P (Instr.fieldAt 63 l5_1 1) fun t18_1 =>
  k_6 t18_1 h_9) h_9 fun t18_2 h_10 =>
  guardM t15_1 true (fun k_7 => rop P (Instr.loadAt 25 t18_2) h_10 fun t19_1 =>
  k_7 t19_1 h_10) h_10 fun t19_2 h_11 =>
  guardM t15_1 true (fun k_8 => callM P 136 #[t17_2, t19_2] h_11 fun t20_1 h_12 =>
  k_8 t20_1 h_12) h_11 fun t20_2 h_13 =>
  pop P (pickS t15_1 t20_2 (Value.bool false)) fun t21_1 =>
  guardM t21_1 true (fun k_9 => pop P (Instr.fieldAt 63 l5_1 1) fun t23_1 =>
  k_9 t23_1 h_13) h_13 fun t23_2 h_14 =>
  guardM t21_1 true (fun k_10 => rop P (Instr.loadAt 25 t23_2) h_14 fun t24_1 =>
  k_10 t24_1 h_14) h_14 fun t24_2 h_15 =>
  guardM t21_1 true (fun k_11 => callM P 137 #[t24_2] h_15 fun t25_1 h_16 =>
  k_11 t25_1 h_16) h_15 fun t25_2 h_17 =>
  guardM t21_1 true (fun k_12 => pop P (binA .leq 3 t25_2 (Value.int IntKind.i64 20)) fun t26_1 =>
  k_12 t26_1 h_17) h_17 fun t26_2 h_18 =>
  pop P (pickS t21_1 t26_2 (Value.bool false)) fun t27_1 =>
  K t27_1 h_18
theorem e100 (g0_1 : Value) (sink1_1 : Value) (l2_1 : Value) (h : Heap) (K : Value → Heap → Prop) : wpA Try.prog 28 (anOf []) (bodyOf Try.f100) 1 (fun A h => resA Try.prog A h K [.tmp 6]) (fun _ _ _ => False) (fun A h => resA Try.prog A h K [.tmp 6]) (aargs [g0_1, sink1_1, l2_1] 0) h = t100 Try.prog g0_1 sink1_1 l2_1 h K := by kernel_rfl
theorem c100 (g0_1 : Value) (sink1_1 : Value) (l2_1 : Value) (h : Heap) (K : Value → Heap → Prop) (H : t100 Try.prog g0_1 sink1_1 l2_1 h K) : callM Try.prog 100 #[g0_1, sink1_1, l2_1] h K :=
  callM_of_wpA mixed (fn := Try.f100) Try.func100 (c := bodyOf Try.f100) rfl (of_decide_eq_true (by kernel_rfl)) (anOf []) 25 28 (by kernel_rfl) rfl [.tmp 6] (by kernel_rfl) (args := [g0_1, sink1_1, l2_1]) (by rw [e100]; exact H)

/-! (impl.Load).copied -/
def t101 (P : Program) (l0_1 : Value) (h : Heap) (K : Value → Heap → Prop) : Prop :=
  eop P (Instr.box 63 l0_1) h fun l1_1 h_1 =>
  eop P (Instr.alloc 63 true (.tuple #[])) h_1 fun t2_1 h_2 =>
  pop P (Instr.fieldAt 63 l1_1 0) fun t3_1 =>
  rop P (Instr.loadAt 25 t3_1) h_2 fun t4_1 =>
  pop P (Instr.fieldAt 63 l1_1 1) fun t6_1 =>
  rop P (Instr.loadAt 25 t6_1) h_2 fun t7_1 =>
  callM P 111 #[t4_1] h_2 fun t5_1 h_3 =>
  (∀ w : World, w.heap = h_3 → (Instr.loadAt 25 t6_1).run P w = .ok t7_1 w) ∧
  callM P 111 #[t7_1] h_3 fun t8_1 h_4 =>
  pop P (Instr.build 63 #[(0, t5_1), (1, t8_1)]) fun t9_1 =>
  uop P (Instr.storeAt 63 t2_1 t9_1) h_4 fun u_1 h_5 =>
  rop P (Instr.loadAt 63 t2_1) h_5 fun r_1 =>
  K r_1 h_5
theorem e101 (l0_1 : Value) (h : Heap) (K : Value → Heap → Prop) : wpA Try.prog 10 (anOf []) (bodyOf Try.f101) 1 (fun A h => resA Try.prog A h K [.cell 2 63]) (fun _ _ _ => False) (fun A h => resA Try.prog A h K [.cell 2 63]) (aargs [l0_1] 0) h = t101 Try.prog l0_1 h K := by kernel_rfl
theorem c101 (l0_1 : Value) (h : Heap) (K : Value → Heap → Prop) (H : t101 Try.prog l0_1 h K) : callM Try.prog 101 #[l0_1] h K :=
  callM_of_wpA mixed (fn := Try.f101) Try.func101 (c := bodyOf Try.f101) rfl (of_decide_eq_true (by kernel_rfl)) (anOf []) 9 10 (by kernel_rfl) rfl [.cell 2 63] (by kernel_rfl) (args := [l0_1]) (by rw [e101]; exact H)

/-! spec.chEnd -/
def t105 (P : Program) (g0_1 : Value) (sink1_1 : Value) (l2_1 : Value) (choices3_1 : Value) (h : Heap) (K : Value → Heap → Prop) : Prop :=
  eop P (Instr.box 32 g0_1) h fun g4_1 h_1 =>
  eop P (Instr.box 63 l2_1) h_1 fun l6_1 h_2 =>
  eop P (Instr.alloc 63 true (.tuple #[])) h_2 fun t8_1 h_3 =>
  ∃ J_1 : List Value → Heap → Prop, (rop P (Instr.loadAt 63 l6_1) h_3 fun t16_1 =>
  pop P (Instr.fieldAt 32 g4_1 0) fun t18_1 =>
  rop P (Instr.loadAt 22 t18_1) h_3 fun t19_1 =>
  pop P (lenS 22 3 t19_1) fun t20_1 =>
  (callM P 98 #[t16_1] h_3 fun t17_1 h_4 =>
  (∀ w : World, w.heap = h_4 → (Instr.loadAt 22 t18_1).run P w = .ok t19_1 w) ∧
  (eop P (Instr.makeSlice 25 t20_1 t20_1) h_4 fun t21_1 h_5 =>
  (∀ w : World, w.heap = h_5 → (Instr.loadAt 22 t18_1).run P w = .ok t19_1 w) ∧
  eop P (Instr.alloc 63 true (.tuple #[])) h_5 fun out11_1 h_6 =>
  (∀ w : World, w.heap = h_6 → (Instr.loadAt 22 t18_1).run P w = .ok t19_1 w) ∧
  uop P (Instr.storeAt 63 out11_1 t17_1) h_6 fun u_1 h_7 =>
  (∀ w : World, w.heap = h_7 → (Instr.loadAt 22 t18_1).run P w = .ok t19_1 w) ∧
  J_1 [out11_1, t21_1] h_7) ∧
  (eop P (Instr.alloc 63 true (.tuple #[])) h_4 fun out11_2 h_8 =>
  (∀ w : World, w.heap = h_8 → (Instr.loadAt 22 t18_1).run P w = .ok t19_1 w) ∧
  (eop P (Instr.makeSlice 25 t20_1 t20_1) h_8 fun t21_2 h_9 =>
  (∀ w : World, w.heap = h_9 → (Instr.loadAt 22 t18_1).run P w = .ok t19_1 w) ∧
  uop P (Instr.storeAt 63 out11_2 t17_1) h_9 fun u_2 h_10 =>
  (∀ w : World, w.heap = h_10 → (Instr.loadAt 22 t18_1).run P w = .ok t19_1 w) ∧
  J_1 [out11_2, t21_2] h_10) ∧
  (uop P (Instr.storeAt 63 out11_2 t17_1) h_8 fun u_3 h_11 =>
  (∀ w : World, w.heap = h_11 → (Instr.loadAt 22 t18_1).run P w = .ok t19_1 w) ∧
  eop P (Instr.makeSlice 25 t20_1 t20_1) h_11 fun t21_3 h_12 =>
  (∀ w : World, w.heap = h_12 → (Instr.loadAt 22 t18_1).run P w = .ok t19_1 w) ∧
  J_1 [out11_2, t21_3] h_12))) ∧
  (eop P (Instr.makeSlice 25 t20_1 t20_1) h_3 fun t21_4 h_13 =>
  (∀ w : World, w.heap = h_13 → (Instr.loadAt 22 t18_1).run P w = .ok t19_1 w) ∧
  (∀ w : World, w.heap = h_13 → (Instr.loadAt 63 l6_1).run P w = .ok t16_1 w) ∧
  (callM P 98 #[t16_1] h_13 fun t17_2 h_14 =>
  (∀ w : World, w.heap = h_14 → (Instr.loadAt 22 t18_1).run P w = .ok t19_1 w) ∧
  eop P (Instr.alloc 63 true (.tuple #[])) h_14 fun out11_3 h_15 =>
  (∀ w : World, w.heap = h_15 → (Instr.loadAt 22 t18_1).run P w = .ok t19_1 w) ∧
  uop P (Instr.storeAt 63 out11_3 t17_2) h_15 fun u_4 h_16 =>
  (∀ w : World, w.heap = h_16 → (Instr.loadAt 22 t18_1).run P w = .ok t19_1 w) ∧
  J_1 [out11_3, t21_4] h_16) ∧
  (eop P (Instr.alloc 63 true (.tuple #[])) h_13 fun out11_4 h_17 =>
  (∀ w : World, w.heap = h_17 → (Instr.loadAt 22 t18_1).run P w = .ok t19_1 w) ∧
  (∀ w : World, w.heap = h_17 → (Instr.loadAt 63 l6_1).run P w = .ok t16_1 w) ∧
  callM P 98 #[t16_1] h_17 fun t17_3 h_18 =>
  (∀ w : World, w.heap = h_18 → (Instr.loadAt 22 t18_1).run P w = .ok t19_1 w) ∧
  uop P (Instr.storeAt 63 out11_4 t17_3) h_18 fun u_5 h_19 =>
  (∀ w : World, w.heap = h_19 → (Instr.loadAt 22 t18_1).run P w = .ok t19_1 w) ∧
  J_1 [out11_4, t21_4] h_19)) ∧
  (eop P (Instr.alloc 63 true (.tuple #[])) h_3 fun out11_5 h_20 =>
  (∀ w : World, w.heap = h_20 → (Instr.loadAt 22 t18_1).run P w = .ok t19_1 w) ∧
  (∀ w : World, w.heap = h_20 → (Instr.loadAt 63 l6_1).run P w = .ok t16_1 w) ∧
  (callM P 98 #[t16_1] h_20 fun t17_4 h_21 =>
  (∀ w : World, w.heap = h_21 → (Instr.loadAt 22 t18_1).run P w = .ok t19_1 w) ∧
  (eop P (Instr.makeSlice 25 t20_1 t20_1) h_21 fun t21_5 h_22 =>
  (∀ w : World, w.heap = h_22 → (Instr.loadAt 22 t18_1).run P w = .ok t19_1 w) ∧
  uop P (Instr.storeAt 63 out11_5 t17_4) h_22 fun u_6 h_23 =>
  (∀ w : World, w.heap = h_23 → (Instr.loadAt 22 t18_1).run P w = .ok t19_1 w) ∧
  J_1 [out11_5, t21_5] h_23) ∧
  (uop P (Instr.storeAt 63 out11_5 t17_4) h_21 fun u_7 h_24 =>
  (∀ w : World, w.heap = h_24 → (Instr.loadAt 22 t18_1).run P w = .ok t19_1 w) ∧
  eop P (Instr.makeSlice 25 t20_1 t20_1) h_24 fun t21_6 h_25 =>
  (∀ w : World, w.heap = h_25 → (Instr.loadAt 22 t18_1).run P w = .ok t19_1 w) ∧
  J_1 [out11_5, t21_6] h_25)) ∧
  (eop P (Instr.makeSlice 25 t20_1 t20_1) h_20 fun t21_7 h_26 =>
  (∀ w : World, w.heap = h_26 → (Instr.loadAt 22 t18_1).run P w = .ok t19_1 w) ∧
  (∀ w : World, w.heap = h_26 → (Instr.loadAt 63 l6_1).run P w = .ok t16_1 w) ∧
  callM P 98 #[t16_1] h_26 fun t17_5 h_27 =>
  (∀ w : World, w.heap = h_27 → (Instr.loadAt 22 t18_1).run P w = .ok t19_1 w) ∧
  uop P (Instr.storeAt 63 out11_5 t17_5) h_27 fun u_8 h_28 =>
  (∀ w : World, w.heap = h_28 → (Instr.loadAt 22 t18_1).run P w = .ok t19_1 w) ∧
  J_1 [out11_5, t21_7] h_28))) ∧
  ∀ (junk_1 : Nat → Value) (out11_6 : Value) (moves12_1 : Value) (h_29 : Heap), J_1 [out11_6, moves12_1] h_29 →
  ∃ (I_1 : List Value → Heap → Prop) (μ_1 : List Value → Heap → Nat), I_1 [(Value.int IntKind.i64 0)] h_29 ∧
  ∀ (junk_2 : Nat → Value) (k13_1 : Value) (h_30 : Heap), I_1 [k13_1] h_30 →
  pop P (Instr.fieldAt 63 out11_6 1) fun t25_1 =>
  rop P (Instr.loadAt 25 t25_1) h_30 fun t26_1 =>
  callM P 92 #[sink1_1, t26_1] h_30 fun t27_1 h_31 =>
  pop P (lenS 25 3 t27_1) fun t29_1 =>
  pop P (binE .eql 3 (.tmp 29) (.const (Value.int IntKind.i64 0)) t29_1 (Value.int IntKind.i64 0)) fun t30_1 =>
  condM t30_1
  (rop P (Instr.loadAt 63 out11_6) h_31 fun t31_1 =>
  uop P (Instr.storeAt 63 t8_1 t31_1) h_31 fun u_9 h_32 =>
  rop P (Instr.loadAt 63 t8_1) h_32 fun r_1 =>
  K (.tuple #[r_1, moves12_1, (Value.bool true)]) h_32)
  (pop P (binA .geq 3 k13_1 (Value.int IntKind.i64 4000)) fun t34_1 =>
  condM t34_1
  (pop P (Instr.build 63 #[]) fun t35_1 =>
  uop P (Instr.storeAt 63 t8_1 t35_1) h_31 fun u_10 h_33 =>
  rop P (Instr.loadAt 63 t8_1) h_33 fun r_2 =>
  K (.tuple #[r_2, (Value.slice none 0 0), (Value.bool false)]) h_33)
  (pop P (Instr.indexAt 25 t27_1 (Value.int IntKind.i64 0)) fun t37_1 =>
  rop P (Instr.loadAt 3 t37_1) h_31 fun t38_1 =>
  ∃ J_2 : List Value → Heap → Prop, (pop P (lenS 25 3 choices3_1) fun t41_1 =>
  pop P (binA .lss 3 k13_1 t41_1) fun t42_1 =>
  condM t42_1
  (pop P (Instr.indexAt 25 choices3_1 k13_1) fun t46_1 =>
  rop P (Instr.loadAt 3 t46_1) h_31 fun t47_1 =>
  pop P (lenS 25 3 t27_1) fun t49_1 =>
  pop P (binA .rem 3 t47_1 t49_1) fun t50_1 =>
  pop P (Instr.indexAt 25 t27_1 t50_1) fun t51_1 =>
  rop P (Instr.loadAt 3 t51_1) h_31 fun t52_1 =>
  J_2 [t52_1] h_31)
  (J_2 [t38_1] h_31)) ∧
  ∀ (junk_3 : Nat → Value) (p15_1 : Value) (h_34 : Heap), J_2 [p15_1] h_34 →
  rop P (Instr.loadAt 32 g4_1) h_34 fun t53_1 =>
  rop P (Instr.loadAt 63 out11_6) h_34 fun t54_1 =>
  callM P 99 #[t53_1, t54_1, p15_1] h_34 fun t56_1 h_35 =>
  pop P (Instr.indexAt 25 moves12_1 p15_1) fun t59_1 =>
  rop P (Instr.loadAt 3 t59_1) h_35 fun t60_1 =>
  pop P (binA .add 3 t60_1 (Value.int IntKind.i64 1)) fun t61_1 =>
  pop P (Instr.indexAt 25 moves12_1 p15_1) fun t62_1 =>
  uop P (Instr.storeAt 3 t62_1 t61_1) h_35 fun u_11 h_36 =>
  pop P (binA .add 3 k13_1 (Value.int IntKind.i64 1)) fun t23_1 =>
  I_1 [t23_1] h_36 ∧ μ_1 [t23_1] h_36 < μ_1 [k13_1] h_30))
theorem e105 (g0_1 : Value) (sink1_1 : Value) (l2_1 : Value) (choices3_1 : Value) (h : Heap) (K : Value → Heap → Prop) : wpA Try.prog 63 (anOf [(3, [11, 12]), (30, [13]), (3855, [15])]) (bodyOf Try.f105) 1 (fun A h => resA Try.prog A h K [.cell 8 63, .tmp 9, .tmp 10]) (fun _ _ _ => False) (fun A h => resA Try.prog A h K [.cell 8 63, .tmp 9, .tmp 10]) (aargs [g0_1, sink1_1, l2_1, choices3_1] 0) h = t105 Try.prog g0_1 sink1_1 l2_1 choices3_1 h K := by kernel_rfl
theorem c105 (g0_1 : Value) (sink1_1 : Value) (l2_1 : Value) (choices3_1 : Value) (h : Heap) (K : Value → Heap → Prop) (H : t105 Try.prog g0_1 sink1_1 l2_1 choices3_1 h K) : callM Try.prog 105 #[g0_1, sink1_1, l2_1, choices3_1] h K :=
  callM_of_wpA mixed (fn := Try.f105) Try.func105 (c := bodyOf Try.f105) rfl (of_decide_eq_true (by kernel_rfl)) (anOf [(3, [11, 12]), (30, [13]), (3855, [15])]) 59 63 (by kernel_rfl) rfl [.cell 8 63, .tmp 9, .tmp 10] (by kernel_rfl) (args := [g0_1, sink1_1, l2_1, choices3_1]) (by rw [e105]; exact H)

/-! slices.ContainsFunc[[]int,int] -/
def t106 (P : Program) (s0_1 : Value) (f1_1 : Value) (h : Heap) (K : Value → Heap → Prop) : Prop :=
  callM P 138 #[s0_1, f1_1] h fun t7_1 h_1 =>
  pop P (binA .geq 3 t7_1 (Value.int IntKind.i64 0)) fun t8_1 =>
  K t8_1 h_1
theorem e106 (s0_1 : Value) (f1_1 : Value) (h : Heap) (K : Value → Heap → Prop) : wpA Try.prog 9 (anOf []) (bodyOf Try.f106) 1 (fun A h => resA Try.prog A h K [.tmp 4]) (fun _ _ _ => False) (fun A h => resA Try.prog A h K [.tmp 4]) (aargs [s0_1, f1_1] 0) h = t106 Try.prog s0_1 f1_1 h K := by kernel_rfl
theorem c106 (s0_1 : Value) (f1_1 : Value) (h : Heap) (K : Value → Heap → Prop) (H : t106 Try.prog s0_1 f1_1 h K) : callM Try.prog 106 #[s0_1, f1_1] h K :=
  callM_of_wpA mixed (fn := Try.f106) Try.func106 (c := bodyOf Try.f106) rfl (of_decide_eq_true (by kernel_rfl)) (anOf []) 7 9 (by kernel_rfl) rfl [.tmp 4] (by kernel_rfl) (args := [s0_1, f1_1]) (by rw [e106]; exact H)

/-! impl.EndOfLoad$1 -/
def t107 (P : Program) (c0_1 : Value) (h : Heap) (K : Value → Heap → Prop) : Prop :=
  pop P (binA .lss 3 c0_1 (Value.int IntKind.i64 0)) fun t4_1 =>
  K t4_1 h
theorem e107 (c0_1 : Value) (h : Heap) (K : Value → Heap → Prop) : wpA Try.prog 5 (anOf []) (bodyOf Try.f107) 1 (fun A h => resA Try.prog A h K [.tmp 2]) (fun _ _ _ => False) (fun A h => resA Try.prog A h K [.tmp 2]) (aargs [c0_1] 0) h = t107 Try.prog c0_1 h K := by kernel_rfl
theorem c107 (c0_1 : Value) (h : Heap) (K : Value → Heap → Prop) (H : t107 Try.prog c0_1 h K) : callM Try.prog 107 #[c0_1] h K :=
  callM_of_wpA mixed (fn := Try.f107) Try.func107 (c := bodyOf Try.f107) rfl (of_decide_eq_true (by kernel_rfl)) (anOf []) 4 5 (by kernel_rfl) rfl [.tmp 2] (by kernel_rfl) (args := [c0_1]) (by rw [e107]; exact H)

/-! (*impl.Load).end -/
def t108 (P : Program) (l0_1 : Value) (g1_1 : Value) (sink2_1 : Value) (choices3_1 : Value) (h : Heap) (K : Value → Heap → Prop) : Prop :=
  eop P (Instr.box 32 g1_1) h fun g5_1 h_1 =>
  pop P (Instr.fieldAt 32 g5_1 0) fun t14_1 =>
  rop P (Instr.loadAt 22 t14_1) h_1 fun t15_1 =>
  pop P (lenS 22 3 t15_1) fun t16_1 =>
  eop P (Instr.makeSlice 25 t16_1 t16_1) h_1 fun t17_1 h_2 =>
  ∃ (I_1 : List Value → Heap → Prop) (μ_1 : List Value → Heap → Nat), I_1 [(Value.int IntKind.i64 0)] h_2 ∧
  ∀ (junk_1 : Nat → Value) (j11_1 : Value) (h_3 : Heap), I_1 [j11_1] h_3 →
  callM P 95 #[l0_1, sink2_1] h_3 fun t22_1 h_4 =>
  pop P (lenS 25 3 t22_1) fun t24_1 =>
  pop P (binE .eql 3 (.tmp 24) (.const (Value.int IntKind.i64 0)) t24_1 (Value.int IntKind.i64 0)) fun t25_1 =>
  condM t25_1
  (K (.tuple #[t17_1, (Value.bool true)]) h_4)
  (pop P (binE .eql 3 (.tmp 27) (.const (Value.int IntKind.i64 4000)) j11_1 (Value.int IntKind.i64 4000)) fun t28_1 =>
  condM t28_1
  (K (.tuple #[(Value.slice none 0 0), (Value.bool false)]) h_4)
  (pop P (Instr.indexAt 25 t22_1 (Value.int IntKind.i64 0)) fun t30_1 =>
  rop P (Instr.loadAt 3 t30_1) h_4 fun t31_1 =>
  ∃ J_1 : List Value → Heap → Prop, (pop P (lenS 25 3 choices3_1) fun t34_1 =>
  pop P (binA .lss 3 j11_1 t34_1) fun t35_1 =>
  condM t35_1
  (pop P (Instr.indexAt 25 choices3_1 j11_1) fun t39_1 =>
  rop P (Instr.loadAt 3 t39_1) h_4 fun t40_1 =>
  pop P (lenS 25 3 t22_1) fun t42_1 =>
  pop P (binA .rem 3 t40_1 t42_1) fun t43_1 =>
  pop P (Instr.indexAt 25 t22_1 t43_1) fun t44_1 =>
  rop P (Instr.loadAt 3 t44_1) h_4 fun t45_1 =>
  J_1 [t45_1] h_4)
  (J_1 [t31_1] h_4)) ∧
  ∀ (junk_2 : Nat → Value) (p13_1 : Value) (h_5 : Heap), J_1 [p13_1] h_5 →
  rop P (Instr.loadAt 32 g5_1) h_5 fun t47_1 =>
  callM P 131 #[l0_1, t47_1, p13_1] h_5 fun t49_1 h_6 =>
  pop P (Instr.indexAt 25 t17_1 p13_1) fun t52_1 =>
  rop P (Instr.loadAt 3 t52_1) h_6 fun t53_1 =>
  pop P (binA .add 3 t53_1 (Value.int IntKind.i64 1)) fun t54_1 =>
  pop P (Instr.indexAt 25 t17_1 p13_1) fun t55_1 =>
  uop P (Instr.storeAt 3 t55_1 t54_1) h_6 fun u_1 h_7 =>
  pop P (binA .add 3 j11_1 (Value.int IntKind.i64 1)) fun t19_1 =>
  I_1 [t19_1] h_7 ∧ μ_1 [t19_1] h_7 < μ_1 [j11_1] h_3))
theorem e108 (l0_1 : Value) (g1_1 : Value) (sink2_1 : Value) (choices3_1 : Value) (h : Heap) (K : Value → Heap → Prop) : wpA Try.prog 56 (anOf [(30, [11]), (3855, [13])]) (bodyOf Try.f108) 1 (fun A h => resA Try.prog A h K [.tmp 8, .tmp 9]) (fun _ _ _ => False) (fun A h => resA Try.prog A h K [.tmp 8, .tmp 9]) (aargs [l0_1, g1_1, sink2_1, choices3_1] 0) h = t108 Try.prog l0_1 g1_1 sink2_1 choices3_1 h K := by kernel_rfl
theorem c108 (l0_1 : Value) (g1_1 : Value) (sink2_1 : Value) (choices3_1 : Value) (h : Heap) (K : Value → Heap → Prop) (H : t108 Try.prog l0_1 g1_1 sink2_1 choices3_1 h K) : callM Try.prog 108 #[l0_1, g1_1, sink2_1, choices3_1] h K :=
  callM_of_wpA mixed (fn := Try.f108) Try.func108 (c := bodyOf Try.f108) rfl (of_decide_eq_true (by kernel_rfl)) (anOf [(30, [11]), (3855, [13])]) 52 56 (by kernel_rfl) rfl [.tmp 8, .tmp 9] (by kernel_rfl) (args := [l0_1, g1_1, sink2_1, choices3_1]) (by rw [e108]; exact H)

/-! spec.l1In -/
def t109 (P : Program) (n0_1 : Value) (lo1_1 : Value) (hi2_1 : Value) (h : Heap) (K : Value → Heap → Prop) : Prop :=
  pop P (binA .geq 3 n0_1 lo1_1) fun t9_1 =>
  guardM t9_1 true (fun k_1 => k_1 n0_1 h) h fun t11_1 h_1 =>
  guardM t9_1 true (fun k_2 => k_2 hi2_1 h_1) h_1 fun t12_1 h_2 =>
  guardM t9_1 true (fun k_3 => pop P (binA .leq 3 t11_1 t12_1) fun t13_1 =>
  k_3 t13_1 h_2) h_2 fun t13_2 h_3 =>
  pop P (pickS t9_1 t13_2 (Value.bool false)) fun t14_1 =>
  K t14_1 h_3
theorem e109 (n0_1 : Value) (lo1_1 : Value) (hi2_1 : Value) (h : Heap) (K : Value → Heap → Prop) : wpA Try.prog 15 (anOf []) (bodyOf Try.f109) 1 (fun A h => resA Try.prog A h K [.tmp 6]) (fun _ _ _ => False) (fun A h => resA Try.prog A h K [.tmp 6]) (aargs [n0_1, lo1_1, hi2_1] 0) h = t109 Try.prog n0_1 lo1_1 hi2_1 h K := by kernel_rfl
theorem c109 (n0_1 : Value) (lo1_1 : Value) (hi2_1 : Value) (h : Heap) (K : Value → Heap → Prop) (H : t109 Try.prog n0_1 lo1_1 hi2_1 h K) : callM Try.prog 109 #[n0_1, lo1_1, hi2_1] h K :=
  callM_of_wpA mixed (fn := Try.f109) Try.func109 (c := bodyOf Try.f109) rfl (of_decide_eq_true (by kernel_rfl)) (anOf []) 12 15 (by kernel_rfl) rfl [.tmp 6] (by kernel_rfl) (args := [n0_1, lo1_1, hi2_1]) (by rw [e109]; exact H)

/-! impl.in -/
def t110 (P : Program) (n0_1 : Value) (low1_1 : Value) (high2_1 : Value) (h : Heap) (K : Value → Heap → Prop) : Prop :=
  pop P (binA .leq 3 low1_1 n0_1) fun t9_1 =>
  guardM t9_1 true (fun k_1 => k_1 n0_1 h) h fun t11_1 h_1 =>
  guardM t9_1 true (fun k_2 => k_2 high2_1 h_1) h_1 fun t12_1 h_2 =>
  guardM t9_1 true (fun k_3 => pop P (binA .leq 3 t11_1 t12_1) fun t13_1 =>
  k_3 t13_1 h_2) h_2 fun t13_2 h_3 =>
  pop P (pickS t9_1 t13_2 (Value.bool false)) fun t14_1 =>
  K t14_1 h_3
theorem e110 (n0_1 : Value) (low1_1 : Value) (high2_1 : Value) (h : Heap) (K : Value → Heap → Prop) : wpA Try.prog 15 (anOf []) (bodyOf Try.f110) 1 (fun A h => resA Try.prog A h K [.tmp 6]) (fun _ _ _ => False) (fun A h => resA Try.prog A h K [.tmp 6]) (aargs [n0_1, low1_1, high2_1] 0) h = t110 Try.prog n0_1 low1_1 high2_1 h K := by kernel_rfl
theorem c110 (n0_1 : Value) (low1_1 : Value) (high2_1 : Value) (h : Heap) (K : Value → Heap → Prop) (H : t110 Try.prog n0_1 low1_1 high2_1 h K) : callM Try.prog 110 #[n0_1, low1_1, high2_1] h K :=
  callM_of_wpA mixed (fn := Try.f110) Try.func110 (c := bodyOf Try.f110) rfl (of_decide_eq_true (by kernel_rfl)) (anOf []) 12 15 (by kernel_rfl) rfl [.tmp 6] (by kernel_rfl) (args := [n0_1, low1_1, high2_1]) (by rw [e110]; exact H)

/-! slices.Clone[[]int,int] -/
def t111 (P : Program) (s0_1 : Value) (h : Heap) (K : Value → Heap → Prop) : Prop :=
  pop P (binE .eql 25 (.tmp 3) (.const (Value.slice none 0 0)) s0_1 (Value.slice none 0 0)) fun t4_1 =>
  condM t4_1
  (K (Value.slice none 0 0) h)
  (eop P (Instr.buildSlice 25 0 #[]) h fun t5_1 h_1 =>
  eop P (appS 25 25 25 t5_1 s0_1) h_1 fun t7_1 h_2 =>
  K t7_1 h_2)
theorem e111 (s0_1 : Value) (h : Heap) (K : Value → Heap → Prop) : wpA Try.prog 8 (anOf []) (bodyOf Try.f111) 1 (fun A h => resA Try.prog A h K [.tmp 2]) (fun _ _ _ => False) (fun A h => resA Try.prog A h K [.tmp 2]) (aargs [s0_1] 0) h = t111 Try.prog s0_1 h K := by kernel_rfl
theorem c111 (s0_1 : Value) (h : Heap) (K : Value → Heap → Prop) (H : t111 Try.prog s0_1 h K) : callM Try.prog 111 #[s0_1] h K :=
  callM_of_wpA mixed (fn := Try.f111) Try.func111 (c := bodyOf Try.f111) rfl (of_decide_eq_true (by kernel_rfl)) (anOf []) 7 8 (by kernel_rfl) rfl [.tmp 2] (by kernel_rfl) (args := [s0_1]) (by rw [e111]; exact H)

/-! (impl.Graph).step -/
def t112 (P : Program) (g0_1 : Value) (w1_1 : Value) (h : Heap) (K : Value → Heap → Prop) : Prop :=
  eop P (Instr.box 32 g0_1) h fun g2_1 h_1 =>
  pop P (Instr.fieldAt 32 g2_1 0) fun t6_1 =>
  rop P (Instr.loadAt 22 t6_1) h_1 fun t7_1 =>
  pop P (nilS w1_1) fun t9_1 =>
  pop P (Instr.fieldAt 34 t9_1 1) fun t10_1 =>
  rop P (Instr.loadAt 3 t10_1) h_1 fun t11_1 =>
  pop P (Instr.indexAt 22 t7_1 t11_1) fun t12_1 =>
  rop P (Instr.loadAt 25 t12_1) h_1 fun t13_1 =>
  pop P (lenS 25 3 t13_1) fun t15_1 =>
  pop P (binE .eql 3 (.tmp 15) (.const (Value.int IntKind.i64 0)) t15_1 (Value.int IntKind.i64 0)) fun t16_1 =>
  condM t16_1
  (K (Value.bool false) h_1)
  (pop P (nilS w1_1) fun t18_1 =>
  pop P (Instr.fieldAt 34 t18_1 0) fun t19_1 =>
  rop P (Instr.loadAt 25 t19_1) h_1 fun t20_1 =>
  pop P (nilS w1_1) fun t22_1 =>
  pop P (Instr.fieldAt 34 t22_1 1) fun t23_1 =>
  rop P (Instr.loadAt 3 t23_1) h_1 fun t24_1 =>
  pop P (nilS w1_1) fun t26_1 =>
  pop P (Instr.fieldAt 34 t26_1 0) fun t27_1 =>
  rop P (Instr.loadAt 25 t27_1) h_1 fun t28_1 =>
  pop P (nilS w1_1) fun t30_1 =>
  pop P (Instr.fieldAt 34 t30_1 1) fun t31_1 =>
  rop P (Instr.loadAt 3 t31_1) h_1 fun t32_1 =>
  pop P (Instr.indexAt 25 t28_1 t32_1) fun t33_1 =>
  rop P (Instr.loadAt 3 t33_1) h_1 fun t34_1 =>
  pop P (binA .add 3 t34_1 (Value.int IntKind.i64 1)) fun t35_1 =>
  pop P (lenS 25 3 t13_1) fun t37_1 =>
  pop P (binA .rem 3 t35_1 t37_1) fun t38_1 =>
  pop P (Instr.indexAt 25 t20_1 t24_1) fun t39_1 =>
  uop P (Instr.storeAt 3 t39_1 t38_1) h_1 fun u_1 h_2 =>
  pop P (nilS w1_1) fun t43_1 =>
  pop P (Instr.fieldAt 34 t43_1 0) fun t44_1 =>
  rop P (Instr.loadAt 25 t44_1) h_2 fun t45_1 =>
  pop P (nilS w1_1) fun t47_1 =>
  pop P (Instr.fieldAt 34 t47_1 1) fun t48_1 =>
  rop P (Instr.loadAt 3 t48_1) h_2 fun t49_1 =>
  pop P (Instr.indexAt 25 t45_1 t49_1) fun t50_1 =>
  rop P (Instr.loadAt 3 t50_1) h_2 fun t51_1 =>
  pop P (Instr.indexAt 25 t13_1 t51_1) fun t52_1 =>
  rop P (Instr.loadAt 3 t52_1) h_2 fun t53_1 =>
  pop P (nilS w1_1) fun t54_1 =>
  pop P (Instr.fieldAt 34 t54_1 1) fun t55_1 =>
  uop P (Instr.storeAt 3 t55_1 t53_1) h_2 fun u_2 h_3 =>
  K (Value.bool true) h_3)
theorem e112 (g0_1 : Value) (w1_1 : Value) (h : Heap) (K : Value → Heap → Prop) : wpA Try.prog 56 (anOf []) (bodyOf Try.f112) 1 (fun A h => resA Try.prog A h K [.tmp 4]) (fun _ _ _ => False) (fun A h => resA Try.prog A h K [.tmp 4]) (aargs [g0_1, w1_1] 0) h = t112 Try.prog g0_1 w1_1 h K := by kernel_rfl
theorem c112 (g0_1 : Value) (w1_1 : Value) (h : Heap) (K : Value → Heap → Prop) (H : t112 Try.prog g0_1 w1_1 h K) : callM Try.prog 112 #[g0_1, w1_1] h K :=
  callM_of_wpA mixed (fn := Try.f112) Try.func112 (c := bodyOf Try.f112) rfl (of_decide_eq_true (by kernel_rfl)) (anOf []) 54 56 (by kernel_rfl) rfl [.tmp 4] (by kernel_rfl) (args := [g0_1, w1_1]) (by rw [e112]; exact H)

/-! spec.l1Most -/
def t113 (P : Program) (a0_1 : Value) (b1_1 : Value) (h : Heap) (K : Value → Heap → Prop) : Prop :=
  pop P (binA .gtr 3 a0_1 b1_1) fun t7_1 =>
  condM t7_1
  (K a0_1 h)
  (K b1_1 h)
theorem e113 (a0_1 : Value) (b1_1 : Value) (h : Heap) (K : Value → Heap → Prop) : wpA Try.prog 10 (anOf []) (bodyOf Try.f113) 1 (fun A h => resA Try.prog A h K [.tmp 4]) (fun _ _ _ => False) (fun A h => resA Try.prog A h K [.tmp 4]) (aargs [a0_1, b1_1] 0) h = t113 Try.prog a0_1 b1_1 h K := by kernel_rfl
theorem c113 (a0_1 : Value) (b1_1 : Value) (h : Heap) (K : Value → Heap → Prop) (H : t113 Try.prog a0_1 b1_1 h K) : callM Try.prog 113 #[a0_1, b1_1] h K :=
  callM_of_wpA mixed (fn := Try.f113) Try.func113 (c := bodyOf Try.f113) rfl (of_decide_eq_true (by kernel_rfl)) (anOf []) 8 10 (by kernel_rfl) rfl [.tmp 4] (by kernel_rfl) (args := [a0_1, b1_1]) (by rw [e113]; exact H)

/-! spec.l1Own -/
def t116 (P : Program) (l0_1 : Value) (h : Heap) (K : Value → Heap → Prop) : Prop :=
  eop P (Instr.buildSlice 25 0 #[]) h fun t3_1 h_1 =>
  eop P (appS 25 25 25 t3_1 l0_1) h_1 fun t5_1 h_2 =>
  K t5_1 h_2
theorem e116 (l0_1 : Value) (h : Heap) (K : Value → Heap → Prop) : wpA Try.prog 6 (anOf []) (bodyOf Try.f116) 1 (fun A h => resA Try.prog A h K [.tmp 2]) (fun _ _ _ => False) (fun A h => resA Try.prog A h K [.tmp 2]) (aargs [l0_1] 0) h = t116 Try.prog l0_1 h K := by kernel_rfl
theorem c116 (l0_1 : Value) (h : Heap) (K : Value → Heap → Prop) (H : t116 Try.prog l0_1 h K) : callM Try.prog 116 #[l0_1] h K :=
  callM_of_wpA mixed (fn := Try.f116) Try.func116 (c := bodyOf Try.f116) rfl (of_decide_eq_true (by kernel_rfl)) (anOf []) 5 6 (by kernel_rfl) rfl [.tmp 2] (by kernel_rfl) (args := [l0_1]) (by rw [e116]; exact H)

/-! spec.grGood -/
def t119 (P : Program) (g0_1 : Value) (h : Heap) (K : Value → Heap → Prop) : Prop :=
  eop P (Instr.box 32 g0_1) h fun g1_1 h_1 =>
  pop P (Instr.fieldAt 32 g1_1 0) fun t6_1 =>
  rop P (Instr.loadAt 22 t6_1) h_1 fun t7_1 =>
  pop P (lenS 22 3 t7_1) fun t8_1 =>
  callM P 109 #[t8_1, (Value.int IntKind.i64 1), (Value.int IntKind.i64 8)] h_1 fun t10_1 h_2 =>
  pop P (Op.unary .not t10_1) fun t11_1 =>
  condM t11_1
  (K (Value.bool false) h_2)
  (pop P (Instr.fieldAt 32 g1_1 0) fun t12_1 =>
  rop P (Instr.loadAt 22 t12_1) h_2 fun t13_1 =>
  pop P (lenS 22 3 t13_1) fun t14_1 =>
  ∃ (I_1 : List Value → Heap → Prop) (μ_1 : List Value → Heap → Nat), I_1 [(Value.int IntKind.i64 0)] h_2 ∧
  ∀ (junk_1 : Nat → Value) (t15_1 : Value) (h_3 : Heap), I_1 [t15_1] h_3 →
  pop P (binA .lss 3 t15_1 t14_1) fun t16_1 =>
  condM t16_1
  (pop P (Instr.indexAt 22 t13_1 t15_1) fun t17_1 =>
  rop P (Instr.loadAt 25 t17_1) h_3 fun t18_1 =>
  pop P (lenS 25 3 t18_1) fun t20_1 =>
  pop P (binA .gtr 3 t20_1 (Value.int IntKind.i64 5)) fun t21_1 =>
  guardM t21_1 false (fun k_1 => k_1 t18_1 h_3) h_3 fun t23_1 h_4 =>
  guardM t21_1 false (fun k_2 => k_2 t8_1 h_4) h_4 fun t24_1 h_5 =>
  guardM t21_1 false (fun k_3 => pop P (binA .sub 3 t24_1 (Value.int IntKind.i64 1)) fun t25_1 =>
  k_3 t25_1 h_5) h_5 fun t25_2 h_6 =>
  guardM t21_1 false (fun k_4 => callM P 97 #[t23_1, (Value.int IntKind.i64 0), t25_2] h_6 fun t26_1 h_7 =>
  k_4 t26_1 h_7) h_6 fun t26_2 h_8 =>
  guardM t21_1 false (fun k_5 => pop P (Op.unary .not t26_2) fun t27_1 =>
  k_5 t27_1 h_8) h_8 fun t27_2 h_9 =>
  pop P (pickS t21_1 (Value.bool true) t27_2) fun t28_1 =>
  condM t28_1
  (K (Value.bool false) h_9)
  (pop P (binA .add 3 t15_1 (Value.int IntKind.i64 1)) fun t29_1 =>
  I_1 [t29_1] h_9 ∧ μ_1 [t29_1] h_9 < μ_1 [t15_1] h_3))
  (K (Value.bool true) h_3))
theorem e119 (g0_1 : Value) (h : Heap) (K : Value → Heap → Prop) : wpA Try.prog 30 (anOf [(122, [15])]) (bodyOf Try.f119) 1 (fun A h => resA Try.prog A h K [.tmp 2]) (fun _ _ _ => False) (fun A h => resA Try.prog A h K [.tmp 2]) (aargs [g0_1] 0) h = t119 Try.prog g0_1 h K := by kernel_rfl
theorem c119 (g0_1 : Value) (h : Heap) (K : Value → Heap → Prop) (H : t119 Try.prog g0_1 h K) : callM Try.prog 119 #[g0_1] h K :=
  callM_of_wpA mixed (fn := Try.f119) Try.func119 (c := bodyOf Try.f119) rfl (of_decide_eq_true (by kernel_rfl)) (anOf [(122, [15])]) 29 30 (by kernel_rfl) rfl [.tmp 2] (by kernel_rfl) (args := [g0_1]) (by rw [e119]; exact H)

/-! impl.isGraph -/
def t122 (P : Program) (g0_1 : Value) (h : Heap) (K : Value → Heap → Prop) : Prop :=
  eop P (Instr.box 32 g0_1) h fun g1_1 h_1 =>
  pop P (Instr.fieldAt 32 g1_1 0) fun t6_1 =>
  rop P (Instr.loadAt 22 t6_1) h_1 fun t7_1 =>
  pop P (lenS 22 3 t7_1) fun t8_1 =>
  eop P (Instr.alloc 3 true (.tuple #[])) h_1 fun n3_1 h_2 =>
  uop P (Instr.storeAt 3 n3_1 t8_1) h_2 fun u_1 h_3 =>
  rop P (Instr.loadAt 3 n3_1) h_3 fun t9_1 =>
  callM P 110 #[t9_1, (Value.int IntKind.i64 1), (Value.int IntKind.i64 8)] h_3 fun t10_1 h_4 =>
  pop P (Op.unary .not t10_1) fun t11_1 =>
  condM t11_1
  (K (Value.bool false) h_4)
  (pop P (Instr.fieldAt 32 g1_1 0) fun t12_1 =>
  rop P (Instr.loadAt 22 t12_1) h_4 fun t13_1 =>
  pop P (lenS 22 3 t13_1) fun t14_1 =>
  ∃ (I_1 : List Value → Heap → Prop) (μ_1 : List Value → Heap → Nat), I_1 [(Value.int IntKind.i64 0)] h_4 ∧
  ∀ (junk_1 : Nat → Value) (t15_1 : Value) (h_5 : Heap), I_1 [t15_1] h_5 →
  pop P (binA .lss 3 t15_1 t14_1) fun t16_1 =>
  condM t16_1
  (pop P (Instr.indexAt 22 t13_1 t15_1) fun t17_1 =>
  rop P (Instr.loadAt 25 t17_1) h_5 fun t18_1 =>
  pop P (lenS 25 3 t18_1) fun t20_1 =>
  pop P (binA .gtr 3 t20_1 (Value.int IntKind.i64 5)) fun t21_1 =>
  guardM t21_1 false (fun k_1 => k_1 t18_1 h_5) h_5 fun t23_1 h_6 =>
  guardM t21_1 false (fun k_2 => pop P (Instr.makeFunc (Fn.func 141) #[] #[n3_1]) fun t24_1 =>
  k_2 t24_1 h_6) h_6 fun t24_2 h_7 =>
  guardM t21_1 false (fun k_3 => callM P 106 #[t23_1, t24_2] h_7 fun t25_1 h_8 =>
  k_3 t25_1 h_8) h_7 fun t25_2 h_9 =>
  pop P (pickS t21_1 (Value.bool true) t25_2) fun t26_1 =>
  condM t26_1
  (K (Value.bool false) h_9)
  (pop P (binA .add 3 t15_1 (Value.int IntKind.i64 1)) fun t27_1 =>
  I_1 [t27_1] h_9 ∧ μ_1 [t27_1] h_9 < μ_1 [t15_1] h_5))
  (K (Value.bool true) h_5))
theorem e122 (g0_1 : Value) (h : Heap) (K : Value → Heap → Prop) : wpA Try.prog 28 (anOf [(122, [15])]) (bodyOf Try.f122) 1 (fun A h => resA Try.prog A h K [.tmp 2]) (fun _ _ _ => False) (fun A h => resA Try.prog A h K [.tmp 2]) (aargs [g0_1] 0) h = t122 Try.prog g0_1 h K := by kernel_rfl
theorem c122 (g0_1 : Value) (h : Heap) (K : Value → Heap → Prop) (H : t122 Try.prog g0_1 h K) : callM Try.prog 122 #[g0_1] h K :=
  callM_of_wpA mixed (fn := Try.f122) Try.func122 (c := bodyOf Try.f122) rfl (of_decide_eq_true (by kernel_rfl)) (anOf [(122, [15])]) 27 28 (by kernel_rfl) rfl [.tmp 2] (by kernel_rfl) (args := [g0_1]) (by rw [e122]; exact H)

/-! impl.has$1 -/
def t123 (P : Program) (p0_1 : Value) (t1_1 : Value) (h : Heap) (K : Value → Heap → Prop) : Prop :=
  pop P (Instr.fieldAt 32 t1_1 0) fun t5_1 =>
  rop P (Instr.loadAt 22 t5_1) h fun t6_1 =>
  pop P (lenS 22 3 t6_1) fun t7_1 =>
  pop P (binA .sub 3 t7_1 (Value.int IntKind.i64 1)) fun t8_1 =>
  callM P 110 #[p0_1, (Value.int IntKind.i64 0), t8_1] h fun t9_1 h_1 =>
  pop P (Op.unary .not t9_1) fun t10_1 =>
  K t10_1 h_1
theorem e123 (p0_1 : Value) (t1_1 : Value) (h : Heap) (K : Value → Heap → Prop) : wpA Try.prog 11 (anOf []) (bodyOf Try.f123) 1 (fun A h => resA Try.prog A h K [.tmp 3]) (fun _ _ _ => False) (fun A h => resA Try.prog A h K [.tmp 3]) (aargs [p0_1, t1_1] 0) h = t123 Try.prog p0_1 t1_1 h K := by kernel_rfl
theorem c123 (p0_1 : Value) (t1_1 : Value) (h : Heap) (K : Value → Heap → Prop) (H : t123 Try.prog p0_1 t1_1 h K) : callM Try.prog 123 #[p0_1, t1_1] h K :=
  callM_of_wpA mixed (fn := Try.f123) Try.func123 (c := bodyOf Try.f123) rfl (of_decide_eq_true (by kernel_rfl)) (anOf []) 9 11 (by kernel_rfl) rfl [.tmp 3] (by kernel_rfl) (args := [p0_1, t1_1]) (by rw [e123]; exact H)

/-! (*impl.Load).send -/
def t131 (P : Program) (l0_1 : Value) (g1_1 : Value) (p2_1 : Value) (h : Heap) (K : Value → Heap → Prop) : Prop :=
  eop P (Instr.box 32 g1_1) h fun g4_1 h_1 =>
  pop P (nilS l0_1) fun t8_1 =>
  pop P (Instr.fieldAt 63 t8_1 0) fun t9_1 =>
  rop P (Instr.loadAt 25 t9_1) h_1 fun t10_1 =>
  pop P (Instr.build 34 #[(0, t10_1), (1, p2_1)]) fun t12_1 =>
  eop P (Instr.alloc 34 true (.tuple #[])) h_1 fun w6_1 h_2 =>
  uop P (Instr.storeAt 34 w6_1 t12_1) h_2 fun u_1 h_3 =>
  rop P (Instr.loadAt 32 g4_1) h_3 fun t13_1 =>
  callM P 112 #[t13_1, w6_1] h_3 fun t14_1 h_4 =>
  pop P (nilS l0_1) fun t16_1 =>
  pop P (Instr.fieldAt 63 t16_1 1) fun t17_1 =>
  rop P (Instr.loadAt 25 t17_1) h_4 fun t18_1 =>
  pop P (Instr.indexAt 25 t18_1 p2_1) fun t20_1 =>
  rop P (Instr.loadAt 3 t20_1) h_4 fun t21_1 =>
  pop P (binA .sub 3 t21_1 (Value.int IntKind.i64 1)) fun t22_1 =>
  pop P (Instr.indexAt 25 t18_1 p2_1) fun t23_1 =>
  uop P (Instr.storeAt 3 t23_1 t22_1) h_4 fun u_2 h_5 =>
  pop P (nilS l0_1) fun t25_1 =>
  pop P (Instr.fieldAt 63 t25_1 1) fun t26_1 =>
  rop P (Instr.loadAt 25 t26_1) h_5 fun t27_1 =>
  pop P (Instr.fieldAt 34 w6_1 1) fun t28_1 =>
  rop P (Instr.loadAt 3 t28_1) h_5 fun t29_1 =>
  pop P (Instr.indexAt 25 t27_1 t29_1) fun t30_1 =>
  rop P (Instr.loadAt 3 t30_1) h_5 fun t31_1 =>
  pop P (binA .add 3 t31_1 (Value.int IntKind.i64 1)) fun t32_1 =>
  pop P (Instr.indexAt 25 t27_1 t29_1) fun t33_1 =>
  uop P (Instr.storeAt 3 t33_1 t32_1) h_5 fun u_3 h_6 =>
  K (.tuple #[]) h_6
theorem e131 (l0_1 : Value) (g1_1 : Value) (p2_1 : Value) (h : Heap) (K : Value → Heap → Prop) : wpA Try.prog 34 (anOf []) (bodyOf Try.f131) 1 (fun A h => resA Try.prog A h K []) (fun _ _ _ => False) (fun A h => resA Try.prog A h K []) (aargs [l0_1, g1_1, p2_1] 0) h = t131 Try.prog l0_1 g1_1 p2_1 h K := by kernel_rfl
theorem c131 (l0_1 : Value) (g1_1 : Value) (p2_1 : Value) (h : Heap) (K : Value → Heap → Prop) (H : t131 Try.prog l0_1 g1_1 p2_1 h K) : callM Try.prog 131 #[l0_1, g1_1, p2_1] h K :=
  callM_of_wpA mixed (fn := Try.f131) Try.func131 (c := bodyOf Try.f131) rfl (of_decide_eq_true (by kernel_rfl)) (anOf []) 31 34 (by kernel_rfl) rfl [] (by kernel_rfl) (args := [l0_1, g1_1, p2_1]) (by rw [e131]; exact H)

/-! spec.chSink -/
def t132 (P : Program) (g0_1 : Value) (sink1_1 : Value) (h : Heap) (K : Value → Heap → Prop) : Prop :=
  eop P (Instr.box 32 g0_1) h fun g2_1 h_1 =>
  rop P (Instr.loadAt 32 g2_1) h_1 fun t5_1 =>
  callM P 81 #[t5_1, sink1_1] h_1 fun t7_1 h_2 =>
  guardM t7_1 true (fun k_1 => rop P (Instr.loadAt 32 g2_1) h_2 fun t9_1 =>
  k_1 t9_1 h_2) h_2 fun t9_2 h_3 =>
  guardM t7_1 true (fun k_2 => k_2 sink1_1 h_3) h_3 fun t10_1 h_4 =>
  guardM t7_1 true (fun k_3 => callM P 143 #[t9_2, t10_1] h_4 fun t11_1 h_5 =>
  k_3 t11_1 h_5) h_4 fun t11_2 h_6 =>
  pop P (pickS t7_1 t11_2 (Value.bool false)) fun t12_1 =>
  K t12_1 h_6
theorem e132 (g0_1 : Value) (sink1_1 : Value) (h : Heap) (K : Value → Heap → Prop) : wpA Try.prog 13 (anOf []) (bodyOf Try.f132) 1 (fun A h => resA Try.prog A h K [.tmp 4]) (fun _ _ _ => False) (fun A h => resA Try.prog A h K [.tmp 4]) (aargs [g0_1, sink1_1] 0) h = t132 Try.prog g0_1 sink1_1 h K := by kernel_rfl
theorem c132 (g0_1 : Value) (sink1_1 : Value) (h : Heap) (K : Value → Heap → Prop) (H : t132 Try.prog g0_1 sink1_1 h K) : callM Try.prog 132 #[g0_1, sink1_1] h K :=
  callM_of_wpA mixed (fn := Try.f132) Try.func132 (c := bodyOf Try.f132) rfl (of_decide_eq_true (by kernel_rfl)) (anOf []) 11 13 (by kernel_rfl) rfl [.tmp 4] (by kernel_rfl) (args := [g0_1, sink1_1]) (by rw [e132]; exact H)

/-! spec.chSum -/
def t133 (P : Program) (list0_1 : Value) (h : Heap) (K : Value → Heap → Prop) : Prop :=
  pop P (lenS 25 3 list0_1) fun t7_1 =>
  ∃ (I_1 : List Value → Heap → Prop) (μ_1 : List Value → Heap → Nat), I_1 [(Value.int IntKind.i64 0), (Value.int IntKind.i64 0)] h ∧
  ∀ (junk_1 : Nat → Value) (sum3_1 : Value) (t8_1 : Value) (h_1 : Heap), I_1 [sum3_1, t8_1] h_1 →
  pop P (binA .lss 3 t8_1 t7_1) fun t9_1 =>
  condM t9_1
  (pop P (Instr.indexAt 25 list0_1 t8_1) fun t10_1 =>
  rop P (Instr.loadAt 3 t10_1) h_1 fun t11_1 =>
  pop P (binA .add 3 sum3_1 t11_1) fun t14_1 =>
  pop P (binA .add 3 t8_1 (Value.int IntKind.i64 1)) fun t15_1 =>
  I_1 [t14_1, t15_1] h_1 ∧ μ_1 [t14_1, t15_1] h_1 < μ_1 [sum3_1, t8_1] h_1)
  (K sum3_1 h_1)
theorem e133 (list0_1 : Value) (h : Heap) (K : Value → Heap → Prop) : wpA Try.prog 17 (anOf [(58, [3, 8])]) (bodyOf Try.f133) 1 (fun A h => resA Try.prog A h K [.tmp 2]) (fun _ _ _ => False) (fun A h => resA Try.prog A h K [.tmp 2]) (aargs [list0_1] 0) h = t133 Try.prog list0_1 h K := by kernel_rfl
theorem c133 (list0_1 : Value) (h : Heap) (K : Value → Heap → Prop) (H : t133 Try.prog list0_1 h K) : callM Try.prog 133 #[list0_1] h K :=
  callM_of_wpA mixed (fn := Try.f133) Try.func133 (c := bodyOf Try.f133) rfl (of_decide_eq_true (by kernel_rfl)) (anOf [(58, [3, 8])]) 16 17 (by kernel_rfl) rfl [.tmp 2] (by kernel_rfl) (args := [list0_1]) (by rw [e133]; exact H)

/-! impl.hasSink -/
def t134 (P : Program) (g0_1 : Value) (sink1_1 : Value) (h : Heap) (K : Value → Heap → Prop) : Prop :=
  eop P (Instr.box 32 g0_1) h fun g2_1 h_1 =>
  rop P (Instr.loadAt 32 g2_1) h_1 fun t5_1 =>
  eop P (Instr.buildSlice 25 1 #[(0, sink1_1)]) h_1 fun t7_1 h_2 =>
  callM P 85 #[t5_1, t7_1] h_2 fun t8_1 h_3 =>
  guardM t8_1 true (fun k_1 => rop P (Instr.loadAt 32 g2_1) h_3 fun t10_1 =>
  k_1 t10_1 h_3) h_3 fun t10_2 h_4 =>
  guardM t8_1 true (fun k_2 => k_2 sink1_1 h_4) h_4 fun t11_1 h_5 =>
  guardM t8_1 true (fun k_3 => callM P 144 #[t10_2, t11_1] h_5 fun t12_1 h_6 =>
  k_3 t12_1 h_6) h_5 fun t12_2 h_7 =>
  pop P (pickS t8_1 t12_2 (Value.bool false)) fun t13_1 =>
  K t13_1 h_7
theorem e134 (g0_1 : Value) (sink1_1 : Value) (h : Heap) (K : Value → Heap → Prop) : wpA Try.prog 14 (anOf []) (bodyOf Try.f134) 1 (fun A h => resA Try.prog A h K [.tmp 4]) (fun _ _ _ => False) (fun A h => resA Try.prog A h K [.tmp 4]) (aargs [g0_1, sink1_1] 0) h = t134 Try.prog g0_1 sink1_1 h K := by kernel_rfl
theorem c134 (g0_1 : Value) (sink1_1 : Value) (h : Heap) (K : Value → Heap → Prop) (H : t134 Try.prog g0_1 sink1_1 h K) : callM Try.prog 134 #[g0_1, sink1_1] h K :=
  callM_of_wpA mixed (fn := Try.f134) Try.func134 (c := bodyOf Try.f134) rfl (of_decide_eq_true (by kernel_rfl)) (anOf []) 12 14 (by kernel_rfl) rfl [.tmp 4] (by kernel_rfl) (args := [g0_1, sink1_1]) (by rw [e134]; exact H)

/-! impl.areRotors -/
def t135 (P : Program) (g0_1 : Value) (rotors1_1 : Value) (h : Heap) (K : Value → Heap → Prop) : Prop :=
  eop P (Instr.box 32 g0_1) h fun g2_1 h_1 =>
  rop P (Instr.loadAt 32 g2_1) h_1 fun t5_1 =>
  pop P (Instr.build 34 #[(0, rotors1_1), (1, (Value.int IntKind.i64 0))]) fun t7_1 =>
  callM P 77 #[t5_1, t7_1] h_1 fun t8_1 h_2 =>
  K t8_1 h_2
theorem e135 (g0_1 : Value) (rotors1_1 : Value) (h : Heap) (K : Value → Heap → Prop) : wpA Try.prog 9 (anOf []) (bodyOf Try.f135) 1 (fun A h => resA Try.prog A h K [.tmp 4]) (fun _ _ _ => False) (fun A h => resA Try.prog A h K [.tmp 4]) (aargs [g0_1, rotors1_1] 0) h = t135 Try.prog g0_1 rotors1_1 h K := by kernel_rfl
theorem c135 (g0_1 : Value) (rotors1_1 : Value) (h : Heap) (K : Value → Heap → Prop) (H : t135 Try.prog g0_1 rotors1_1 h K) : callM Try.prog 135 #[g0_1, rotors1_1] h K :=
  callM_of_wpA mixed (fn := Try.f135) Try.func135 (c := bodyOf Try.f135) rfl (of_decide_eq_true (by kernel_rfl)) (anOf []) 7 9 (by kernel_rfl) rfl [.tmp 4] (by kernel_rfl) (args := [g0_1, rotors1_1]) (by rw [e135]; exact H)

/-! impl.areChips -/
def t136 (P : Program) (g0_1 : Value) (chips1_1 : Value) (h : Heap) (K : Value → Heap → Prop) : Prop :=
  eop P (Instr.box 32 g0_1) h fun g2_1 h_1 =>
  pop P (lenS 25 3 chips1_1) fun t6_1 =>
  pop P (Instr.fieldAt 32 g2_1 0) fun t7_1 =>
  rop P (Instr.loadAt 22 t7_1) h_1 fun t8_1 =>
  pop P (lenS 22 3 t8_1) fun t9_1 =>
  pop P (binE .eql 3 (.tmp 6) (.tmp 9) t6_1 t9_1) fun t10_1 =>
  guardM t10_1 true (fun k_1 => k_1 chips1_1 h_1) h_1 fun t12_1 h_2 =>
  guardM t10_1 true (fun k_2 => callM P 106 #[t12_1, (.func (.func 145) #[] #[])] h_2 fun t13_1 h_3 =>
  k_2 t13_1 h_3) h_2 fun t13_2 h_4 =>
  guardM t10_1 true (fun k_3 => pop P (Op.unary .not t13_2) fun t14_1 =>
  k_3 t14_1 h_4) h_4 fun t14_2 h_5 =>
  pop P (pickS t10_1 t14_2 (Value.bool false)) fun t15_1 =>
  K t15_1 h_5
theorem e136 (g0_1 : Value) (chips1_1 : Value) (h : Heap) (K : Value → Heap → Prop) : wpA Try.prog 16 (anOf []) (bodyOf Try.f136) 1 (fun A h => resA Try.prog A h K [.tmp 4]) (fun _ _ _ => False) (fun A h => resA Try.prog A h K [.tmp 4]) (aargs [g0_1, chips1_1] 0) h = t136 Try.prog g0_1 chips1_1 h K := by kernel_rfl
theorem c136 (g0_1 : Value) (chips1_1 : Value) (h : Heap) (K : Value → Heap → Prop) (H : t136 Try.prog g0_1 chips1_1 h K) : callM Try.prog 136 #[g0_1, chips1_1] h K :=
  callM_of_wpA mixed (fn := Try.f136) Try.func136 (c := bodyOf Try.f136) rfl (of_decide_eq_true (by kernel_rfl)) (anOf []) 14 16 (by kernel_rfl) rfl [.tmp 4] (by kernel_rfl) (args := [g0_1, chips1_1]) (by rw [e136]; exact H)

/-! impl.sum -/
def t137 (P : Program) (list0_1 : Value) (h : Heap) (K : Value → Heap → Prop) : Prop :=
  pop P (lenS 25 3 list0_1) fun t7_1 =>
  ∃ (I_1 : List Value → Heap → Prop) (μ_1 : List Value → Heap → Nat), I_1 [(Value.int IntKind.i64 0), (Value.int IntKind.i64 0)] h ∧
  ∀ (junk_1 : Nat → Value) (out3_1 : Value) (t8_1 : Value) (h_1 : Heap), I_1 [out3_1, t8_1] h_1 →
  pop P (binA .lss 3 t8_1 t7_1) fun t9_1 =>
  condM t9_1
  (pop P (Instr.indexAt 25 list0_1 t8_1) fun t10_1 =>
  rop P (Instr.loadAt 3 t10_1) h_1 fun t11_1 =>
  pop P (binA .add 3 out3_1 t11_1) fun t14_1 =>
  pop P (binA .add 3 t8_1 (Value.int IntKind.i64 1)) fun t15_1 =>
  I_1 [t14_1, t15_1] h_1 ∧ μ_1 [t14_1, t15_1] h_1 < μ_1 [out3_1, t8_1] h_1)
  (K out3_1 h_1)
theorem e137 (list0_1 : Value) (h : Heap) (K : Value → Heap → Prop) : wpA Try.prog 17 (anOf [(58, [3, 8])]) (bodyOf Try.f137) 1 (fun A h => resA Try.prog A h K [.tmp 2]) (fun _ _ _ => False) (fun A h => resA Try.prog A h K [.tmp 2]) (aargs [list0_1] 0) h = t137 Try.prog list0_1 h K := by kernel_rfl
theorem c137 (list0_1 : Value) (h : Heap) (K : Value → Heap → Prop) (H : t137 Try.prog list0_1 h K) : callM Try.prog 137 #[list0_1] h K :=
  callM_of_wpA mixed (fn := Try.f137) Try.func137 (c := bodyOf Try.f137) rfl (of_decide_eq_true (by kernel_rfl)) (anOf [(58, [3, 8])]) 16 17 (by kernel_rfl) rfl [.tmp 2] (by kernel_rfl) (args := [list0_1]) (by rw [e137]; exact H)

/-! slices.IndexFunc[[]int,int] -/
def t138 (P : Program) (s0_1 : Value) (f1_1 : Value) (h : Heap) (K : Value → Heap → Prop) : Prop :=
  pop P (lenS 25 3 s0_1) fun t7_1 =>
  ∃ (I_1 : List Value → Heap → Prop) (μ_1 : List Value → Heap → Nat), I_1 [(Value.int IntKind.i64 0)] h ∧
  ∀ (junk_1 : Nat → Value) (t8_1 : Value) (h_1 : Heap), I_1 [t8_1] h_1 →
  pop P (binA .lss 3 t8_1 t7_1) fun t9_1 =>
  condM t9_1
  (pop P (Instr.indexAt 25 s0_1 t8_1) fun t14_1 =>
  rop P (Instr.loadAt 3 t14_1) h_1 fun t15_1 =>
  callV P f1_1 [t15_1] h_1 fun t16_1 h_2 =>
  condM t16_1
  (K t8_1 h_2)
  (pop P (binA .add 3 t8_1 (Value.int IntKind.i64 1)) fun t18_1 =>
  I_1 [t18_1] h_2 ∧ μ_1 [t18_1] h_2 < μ_1 [t8_1] h_1))
  (K (Value.int IntKind.i64 (-1)) h_1)
theorem e138 (s0_1 : Value) (f1_1 : Value) (h : Heap) (K : Value → Heap → Prop) : wpA Try.prog 19 (anOf [(26, [8])]) (bodyOf Try.f138) 1 (fun A h => resA Try.prog A h K [.tmp 4]) (fun _ _ _ => False) (fun A h => resA Try.prog A h K [.tmp 4]) (aargs [s0_1, f1_1] 0) h = t138 Try.prog s0_1 f1_1 h K := by kernel_rfl
theorem c138 (s0_1 : Value) (f1_1 : Value) (h : Heap) (K : Value → Heap → Prop) (H : t138 Try.prog s0_1 f1_1 h K) : callM Try.prog 138 #[s0_1, f1_1] h K :=
  callM_of_wpA mixed (fn := Try.f138) Try.func138 (c := bodyOf Try.f138) rfl (of_decide_eq_true (by kernel_rfl)) (anOf [(26, [8])]) 17 19 (by kernel_rfl) rfl [.tmp 4] (by kernel_rfl) (args := [s0_1, f1_1]) (by rw [e138]; exact H)

/-! impl.isGraph$1 -/
def t141 (P : Program) (q0_1 : Value) (t1_1 : Value) (h : Heap) (K : Value → Heap → Prop) : Prop :=
  rop P (Instr.loadAt 3 t1_1) h fun t5_1 =>
  pop P (binA .sub 3 t5_1 (Value.int IntKind.i64 1)) fun t6_1 =>
  callM P 110 #[q0_1, (Value.int IntKind.i64 0), t6_1] h fun t7_1 h_1 =>
  pop P (Op.unary .not t7_1) fun t8_1 =>
  K t8_1 h_1
theorem e141 (q0_1 : Value) (t1_1 : Value) (h : Heap) (K : Value → Heap → Prop) : wpA Try.prog 9 (anOf []) (bodyOf Try.f141) 1 (fun A h => resA Try.prog A h K [.tmp 3]) (fun _ _ _ => False) (fun A h => resA Try.prog A h K [.tmp 3]) (aargs [q0_1, t1_1] 0) h = t141 Try.prog q0_1 t1_1 h K := by kernel_rfl
theorem c141 (q0_1 : Value) (t1_1 : Value) (h : Heap) (K : Value → Heap → Prop) (H : t141 Try.prog q0_1 t1_1 h K) : callM Try.prog 141 #[q0_1, t1_1] h K :=
  callM_of_wpA mixed (fn := Try.f141) Try.func141 (c := bodyOf Try.f141) rfl (of_decide_eq_true (by kernel_rfl)) (anOf []) 7 9 (by kernel_rfl) rfl [.tmp 3] (by kernel_rfl) (args := [q0_1, t1_1]) (by rw [e141]; exact H)

/-! spec.grLeads -/
def t143 (P : Program) (g0_1 : Value) (p1_1 : Value) (h : Heap) (K : Value → Heap → Prop) : Prop :=
  eop P (Instr.box 32 g0_1) h fun g2_1 h_1 =>
  pop P (Instr.fieldAt 32 g2_1 0) fun t6_1 =>
  rop P (Instr.loadAt 22 t6_1) h_1 fun t7_1 =>
  pop P (lenS 22 3 t7_1) fun t8_1 =>
  ∃ (I_1 : List Value → Heap → Prop) (μ_1 : List Value → Heap → Nat), I_1 [(Value.int IntKind.i64 0)] h_1 ∧
  ∀ (junk_1 : Nat → Value) (t9_1 : Value) (h_2 : Heap), I_1 [t9_1] h_2 →
  pop P (binA .lss 3 t9_1 t8_1) fun t10_1 =>
  condM t10_1
  (rop P (Instr.loadAt 32 g2_1) h_2 fun t12_1 =>
  callM P 146 #[t12_1, t9_1] h_2 fun t14_1 h_3 =>
  pop P (Instr.indexAt 25 t14_1 p1_1) fun t16_1 =>
  rop P (Instr.loadAt 3 t16_1) h_3 fun t17_1 =>
  pop P (binA .lss 3 t17_1 (Value.int IntKind.i64 0)) fun t18_1 =>
  condM t18_1
  (K (Value.bool false) h_3)
  (pop P (binA .add 3 t9_1 (Value.int IntKind.i64 1)) fun t19_1 =>
  I_1 [t19_1] h_3 ∧ μ_1 [t19_1] h_3 < μ_1 [t9_1] h_2))
  (K (Value.bool true) h_2)
theorem e143 (g0_1 : Value) (p1_1 : Value) (h : Heap) (K : Value → Heap → Prop) : wpA Try.prog 20 (anOf [(26, [9])]) (bodyOf Try.f143) 1 (fun A h => resA Try.prog A h K [.tmp 4]) (fun _ _ _ => False) (fun A h => resA Try.prog A h K [.tmp 4]) (aargs [g0_1, p1_1] 0) h = t143 Try.prog g0_1 p1_1 h K := by kernel_rfl
theorem c143 (g0_1 : Value) (p1_1 : Value) (h : Heap) (K : Value → Heap → Prop) (H : t143 Try.prog g0_1 p1_1 h K) : callM Try.prog 143 #[g0_1, p1_1] h K :=
  callM_of_wpA mixed (fn := Try.f143) Try.func143 (c := bodyOf Try.f143) rfl (of_decide_eq_true (by kernel_rfl)) (anOf [(26, [9])]) 18 20 (by kernel_rfl) rfl [.tmp 4] (by kernel_rfl) (args := [g0_1, p1_1]) (by rw [e143]; exact H)

/-! (impl.Graph).leadsTo -/
def t144 (P : Program) (g0_1 : Value) (p1_1 : Value) (h : Heap) (K : Value → Heap → Prop) : Prop :=
  eop P (Instr.box 32 g0_1) h fun g2_1 h_1 =>
  pop P (Instr.fieldAt 32 g2_1 0) fun t6_1 =>
  rop P (Instr.loadAt 22 t6_1) h_1 fun t7_1 =>
  pop P (lenS 22 3 t7_1) fun t8_1 =>
  ∃ (I_1 : List Value → Heap → Prop) (μ_1 : List Value → Heap → Nat), I_1 [(Value.int IntKind.i64 0)] h_1 ∧
  ∀ (junk_1 : Nat → Value) (t9_1 : Value) (h_2 : Heap), I_1 [t9_1] h_2 →
  pop P (binA .lss 3 t9_1 t8_1) fun t10_1 =>
  condM t10_1
  (rop P (Instr.loadAt 32 g2_1) h_2 fun t12_1 =>
  callM P 147 #[t12_1, t9_1] h_2 fun t14_1 h_3 =>
  pop P (Instr.indexAt 25 t14_1 p1_1) fun t16_1 =>
  rop P (Instr.loadAt 3 t16_1) h_3 fun t17_1 =>
  pop P (binA .lss 3 t17_1 (Value.int IntKind.i64 0)) fun t18_1 =>
  condM t18_1
  (K (Value.bool false) h_3)
  (pop P (binA .add 3 t9_1 (Value.int IntKind.i64 1)) fun t19_1 =>
  I_1 [t19_1] h_3 ∧ μ_1 [t19_1] h_3 < μ_1 [t9_1] h_2))
  (K (Value.bool true) h_2)
theorem e144 (g0_1 : Value) (p1_1 : Value) (h : Heap) (K : Value → Heap → Prop) : wpA Try.prog 20 (anOf [(26, [9])]) (bodyOf Try.f144) 1 (fun A h => resA Try.prog A h K [.tmp 4]) (fun _ _ _ => False) (fun A h => resA Try.prog A h K [.tmp 4]) (aargs [g0_1, p1_1] 0) h = t144 Try.prog g0_1 p1_1 h K := by kernel_rfl
theorem c144 (g0_1 : Value) (p1_1 : Value) (h : Heap) (K : Value → Heap → Prop) (H : t144 Try.prog g0_1 p1_1 h K) : callM Try.prog 144 #[g0_1, p1_1] h K :=
  callM_of_wpA mixed (fn := Try.f144) Try.func144 (c := bodyOf Try.f144) rfl (of_decide_eq_true (by kernel_rfl)) (anOf [(26, [9])]) 18 20 (by kernel_rfl) rfl [.tmp 4] (by kernel_rfl) (args := [g0_1, p1_1]) (by rw [e144]; exact H)

/-! impl.areChips$1 -/
def t145 (P : Program) (n0_1 : Value) (h : Heap) (K : Value → Heap → Prop) : Prop :=
  callM P 110 #[n0_1, (Value.int IntKind.i64 0), (Value.int IntKind.i64 20)] h fun t4_1 h_1 =>
  pop P (Op.unary .not t4_1) fun t5_1 =>
  K t5_1 h_1
theorem e145 (n0_1 : Value) (h : Heap) (K : Value → Heap → Prop) : wpA Try.prog 6 (anOf []) (bodyOf Try.f145) 1 (fun A h => resA Try.prog A h K [.tmp 2]) (fun _ _ _ => False) (fun A h => resA Try.prog A h K [.tmp 2]) (aargs [n0_1] 0) h = t145 Try.prog n0_1 h K := by kernel_rfl
theorem c145 (n0_1 : Value) (h : Heap) (K : Value → Heap → Prop) (H : t145 Try.prog n0_1 h K) : callM Try.prog 145 #[n0_1] h K :=
  callM_of_wpA mixed (fn := Try.f145) Try.func145 (c := bodyOf Try.f145) rfl (of_decide_eq_true (by kernel_rfl)) (anOf []) 5 6 (by kernel_rfl) rfl [.tmp 2] (by kernel_rfl) (args := [n0_1]) (by rw [e145]; exact H)

/-! spec.grFar -/
def t146 (P : Program) (g0_1 : Value) (p1_1 : Value) (h : Heap) (K : Value → Heap → Prop) : Prop :=
  eop P (Instr.box 32 g0_1) h fun g2_1 h_1 =>
  pop P (Instr.fieldAt 32 g2_1 0) fun t11_1 =>
  rop P (Instr.loadAt 22 t11_1) h_1 fun t12_1 =>
  pop P (lenS 22 3 t12_1) fun t13_1 =>
  eop P (Instr.makeSlice 25 t13_1 t13_1) h_1 fun t14_1 h_2 =>
  pop P (lenS 25 3 t14_1) fun t16_1 =>
  ∃ (I_1 : List Value → Heap → Prop) (μ_1 : List Value → Heap → Nat), I_1 [(Value.int IntKind.i64 0)] h_2 ∧
  ∀ (junk_1 : Nat → Value) (t17_1 : Value) (h_3 : Heap), I_1 [t17_1] h_3 →
  pop P (binA .lss 3 t17_1 t16_1) fun t18_1 =>
  condM t18_1
  (pop P (Instr.indexAt 25 t14_1 t17_1) fun t22_1 =>
  uop P (Instr.storeAt 3 t22_1 (Value.int IntKind.i64 (-1))) h_3 fun u_1 h_4 =>
  pop P (binA .add 3 t17_1 (Value.int IntKind.i64 1)) fun t23_1 =>
  I_1 [t23_1] h_4 ∧ μ_1 [t23_1] h_4 < μ_1 [t17_1] h_3)
  (pop P (Instr.indexAt 25 t14_1 p1_1) fun t26_1 =>
  uop P (Instr.storeAt 3 t26_1 (Value.int IntKind.i64 0)) h_3 fun u_2 h_5 =>
  eop P (Instr.buildSlice 25 1 #[(0, p1_1)]) h_5 fun t28_1 h_6 =>
  ∃ (I_2 : List Value → Heap → Prop) (μ_2 : List Value → Heap → Nat), I_2 [t28_1, (Value.int IntKind.i64 0)] h_6 ∧
  ∀ (junk_2 : Nat → Value) (queue7_1 : Value) (k8_1 : Value) (h_7 : Heap), I_2 [queue7_1, k8_1] h_7 →
  pop P (lenS 25 3 queue7_1) fun t31_1 =>
  pop P (binA .lss 3 k8_1 t31_1) fun t32_1 =>
  condM t32_1
  (pop P (Instr.fieldAt 32 g2_1 0) fun t35_1 =>
  rop P (Instr.loadAt 22 t35_1) h_7 fun t36_1 =>
  pop P (Instr.indexAt 25 queue7_1 k8_1) fun t39_1 =>
  rop P (Instr.loadAt 3 t39_1) h_7 fun t40_1 =>
  pop P (Instr.indexAt 22 t36_1 t40_1) fun t41_1 =>
  rop P (Instr.loadAt 25 t41_1) h_7 fun t42_1 =>
  pop P (lenS 25 3 t42_1) fun t43_1 =>
  ∃ (I_3 : List Value → Heap → Prop) (μ_3 : List Value → Heap → Nat), I_3 [queue7_1, (Value.int IntKind.i64 0)] h_7 ∧
  ∀ (junk_3 : Nat → Value) (queue7_2 : Value) (t44_1 : Value) (h_8 : Heap), I_3 [queue7_2, t44_1] h_8 →
  pop P (binA .lss 3 t44_1 t43_1) fun t45_1 =>
  condM t45_1
  (pop P (Instr.indexAt 25 t42_1 t44_1) fun t46_1 =>
  rop P (Instr.loadAt 3 t46_1) h_8 fun t47_1 =>
  pop P (Instr.indexAt 25 t14_1 t47_1) fun t50_1 =>
  rop P (Instr.loadAt 3 t50_1) h_8 fun t51_1 =>
  pop P (binA .lss 3 t51_1 (Value.int IntKind.i64 0)) fun t52_1 =>
  condM t52_1
  (pop P (Instr.indexAt 25 queue7_2 k8_1) fun t58_1 =>
  rop P (Instr.loadAt 3 t58_1) h_8 fun t59_1 =>
  pop P (Instr.indexAt 25 t14_1 t59_1) fun t60_1 =>
  rop P (Instr.loadAt 3 t60_1) h_8 fun t61_1 =>
  pop P (binA .add 3 t61_1 (Value.int IntKind.i64 1)) fun t62_1 =>
  pop P (Instr.indexAt 25 t14_1 t47_1) fun t63_1 =>
  uop P (Instr.storeAt 3 t63_1 t62_1) h_8 fun u_3 h_9 =>
  eop P (Instr.buildSlice 25 1 #[(0, t47_1)]) h_9 fun t66_1 h_10 =>
  eop P (appS 25 25 25 queue7_2 t66_1) h_10 fun t67_1 h_11 =>
  pop P (binA .add 3 t44_1 (Value.int IntKind.i64 1)) fun t68_1 =>
  I_3 [t67_1, t68_1] h_11 ∧ μ_3 [t67_1, t68_1] h_11 < μ_3 [queue7_2, t44_1] h_8)
  (pop P (binA .add 3 t44_1 (Value.int IntKind.i64 1)) fun t68_2 =>
  I_3 [queue7_2, t68_2] h_8 ∧ μ_3 [queue7_2, t68_2] h_8 < μ_3 [queue7_2, t44_1] h_8))
  (pop P (binA .add 3 k8_1 (Value.int IntKind.i64 1)) fun t34_1 =>
  I_2 [queue7_2, t34_1] h_8 ∧ μ_2 [queue7_2, t34_1] h_8 < μ_2 [queue7_1, k8_1] h_7))
  (K t14_1 h_7))
theorem e146 (g0_1 : Value) (p1_1 : Value) (h : Heap) (K : Value → Heap → Prop) : wpA Try.prog 70 (anOf [(58, [17]), (506, [7, 8]), (32402, [7, 44])]) (bodyOf Try.f146) 1 (fun A h => resA Try.prog A h K [.tmp 4]) (fun _ _ _ => False) (fun A h => resA Try.prog A h K [.tmp 4]) (aargs [g0_1, p1_1] 0) h = t146 Try.prog g0_1 p1_1 h K := by kernel_rfl
theorem c146 (g0_1 : Value) (p1_1 : Value) (h : Heap) (K : Value → Heap → Prop) (H : t146 Try.prog g0_1 p1_1 h K) : callM Try.prog 146 #[g0_1, p1_1] h K :=
  callM_of_wpA mixed (fn := Try.f146) Try.func146 (c := bodyOf Try.f146) rfl (of_decide_eq_true (by kernel_rfl)) (anOf [(58, [17]), (506, [7, 8]), (32402, [7, 44])]) 68 70 (by kernel_rfl) rfl [.tmp 4] (by kernel_rfl) (args := [g0_1, p1_1]) (by rw [e146]; exact H)

/-! (impl.Graph).lengths -/
def t147 (P : Program) (g0_1 : Value) (p1_1 : Value) (h : Heap) (K : Value → Heap → Prop) : Prop :=
  eop P (Instr.box 32 g0_1) h fun g2_1 h_1 =>
  eop P (Instr.buildSlice 25 1 #[(0, (Value.int IntKind.i64 (-1)))]) h_1 fun t9_1 h_2 =>
  pop P (Instr.fieldAt 32 g2_1 0) fun t10_1 =>
  rop P (Instr.loadAt 22 t10_1) h_2 fun t11_1 =>
  pop P (lenS 22 3 t11_1) fun t12_1 =>
  callM P 148 #[t9_1, t12_1] h_2 fun t13_1 h_3 =>
  pop P (Instr.indexAt 25 t13_1 p1_1) fun t16_1 =>
  uop P (Instr.storeAt 3 t16_1 (Value.int IntKind.i64 0)) h_3 fun u_1 h_4 =>
  eop P (Instr.buildSlice 25 1 #[(0, p1_1)]) h_4 fun t18_1 h_5 =>
  ∃ (I_1 : List Value → Heap → Prop) (μ_1 : List Value → Heap → Nat), I_1 [t18_1] h_5 ∧
  ∀ (junk_1 : Nat → Value) (list6_1 : Value) (h_6 : Heap), I_1 [list6_1] h_6 →
  pop P (lenS 25 3 list6_1) fun t20_1 =>
  pop P (binA .gtr 3 t20_1 (Value.int IntKind.i64 0)) fun t21_1 =>
  condM t21_1
  (pop P (Instr.fieldAt 32 g2_1 0) fun t24_1 =>
  rop P (Instr.loadAt 22 t24_1) h_6 fun t25_1 =>
  pop P (Instr.indexAt 25 list6_1 (Value.int IntKind.i64 0)) fun t27_1 =>
  rop P (Instr.loadAt 3 t27_1) h_6 fun t28_1 =>
  pop P (Instr.indexAt 22 t25_1 t28_1) fun t29_1 =>
  rop P (Instr.loadAt 25 t29_1) h_6 fun t30_1 =>
  pop P (lenS 25 3 t30_1) fun t31_1 =>
  ∃ (I_2 : List Value → Heap → Prop) (μ_2 : List Value → Heap → Nat), I_2 [list6_1, (Value.int IntKind.i64 0)] h_6 ∧
  ∀ (junk_2 : Nat → Value) (list6_2 : Value) (t32_1 : Value) (h_7 : Heap), I_2 [list6_2, t32_1] h_7 →
  pop P (binA .lss 3 t32_1 t31_1) fun t33_1 =>
  condM t33_1
  (pop P (Instr.indexAt 25 t30_1 t32_1) fun t34_1 =>
  rop P (Instr.loadAt 3 t34_1) h_7 fun t35_1 =>
  pop P (Instr.indexAt 25 t13_1 t35_1) fun t38_1 =>
  rop P (Instr.loadAt 3 t38_1) h_7 fun t39_1 =>
  pop P (binA .lss 3 t39_1 (Value.int IntKind.i64 0)) fun t40_1 =>
  condM t40_1
  (pop P (Instr.indexAt 25 list6_2 (Value.int IntKind.i64 0)) fun t45_1 =>
  rop P (Instr.loadAt 3 t45_1) h_7 fun t46_1 =>
  pop P (Instr.indexAt 25 t13_1 t46_1) fun t47_1 =>
  rop P (Instr.loadAt 3 t47_1) h_7 fun t48_1 =>
  pop P (binA .add 3 t48_1 (Value.int IntKind.i64 1)) fun t49_1 =>
  pop P (Instr.indexAt 25 t13_1 t35_1) fun t50_1 =>
  uop P (Instr.storeAt 3 t50_1 t49_1) h_7 fun u_2 h_8 =>
  eop P (Instr.buildSlice 25 1 #[(0, t35_1)]) h_8 fun t53_1 h_9 =>
  eop P (appS 25 25 25 list6_2 t53_1) h_9 fun t54_1 h_10 =>
  pop P (binA .add 3 t32_1 (Value.int IntKind.i64 1)) fun t55_1 =>
  I_2 [t54_1, t55_1] h_10 ∧ μ_2 [t54_1, t55_1] h_10 < μ_2 [list6_2, t32_1] h_7)
  (pop P (binA .add 3 t32_1 (Value.int IntKind.i64 1)) fun t55_2 =>
  I_2 [list6_2, t55_2] h_7 ∧ μ_2 [list6_2, t55_2] h_7 < μ_2 [list6_2, t32_1] h_7))
  (pop P (Instr.sliceAt 25 list6_2 (some (Value.int IntKind.i64 1)) none none) fun t23_1 =>
  I_1 [t23_1] h_7 ∧ μ_1 [t23_1] h_7 < μ_1 [list6_1] h_6))
  (K t13_1 h_6)
theorem e147 (g0_1 : Value) (p1_1 : Value) (h : Heap) (K : Value → Heap → Prop) : wpA Try.prog 57 (anOf [(122, [6]), (7826, [6, 32])]) (bodyOf Try.f147) 1 (fun A h => resA Try.prog A h K [.tmp 4]) (fun _ _ _ => False) (fun A h => resA Try.prog A h K [.tmp 4]) (aargs [g0_1, p1_1] 0) h = t147 Try.prog g0_1 p1_1 h K := by kernel_rfl
theorem c147 (g0_1 : Value) (p1_1 : Value) (h : Heap) (K : Value → Heap → Prop) (H : t147 Try.prog g0_1 p1_1 h K) : callM Try.prog 147 #[g0_1, p1_1] h K :=
  callM_of_wpA mixed (fn := Try.f147) Try.func147 (c := bodyOf Try.f147) rfl (of_decide_eq_true (by kernel_rfl)) (anOf [(122, [6]), (7826, [6, 32])]) 55 57 (by kernel_rfl) rfl [.tmp 4] (by kernel_rfl) (args := [g0_1, p1_1]) (by rw [e147]; exact H)

/-! slices.Repeat[[]int,int] -/
def t148 (P : Program) (x0_1 : Value) (count1_1 : Value) (h : Heap) (K : Value → Heap → Prop) : Prop :=
  ∃ J_1 : List Value → Heap → Prop, (pop P (binA .lss 3 count1_1 (Value.int IntKind.i64 0)) fun t10_1 =>
  condM t10_1
  (pop P (Instr.makeInterface 9 (Value.string { data := #[99, 97, 110, 110, 111, 116, 32, 98, 101, 32, 110, 101, 103, 97, 116, 105, 118, 101] })) fun t11_1 =>
  False)
  (J_1 [] h)) ∧
  ∀ (junk_1 : Nat → Value) (h_1 : Heap), J_1 [] h_1 →
  pop P (lenS 25 3 x0_1) fun t14_1 =>
  rop P (convert 3 140 t14_1) h_1 fun t15_1 =>
  rop P (convert 3 140 count1_1) h_1 fun t17_1 =>
  callM P 149 #[t15_1, t17_1] h_1 fun t18_1 h_2 =>
  pop P (Instr.extract t18_1 0) fun t19_1 =>
  pop P (Instr.extract t18_1 1) fun t20_1 =>
  ∃ J_2 : List Value → Heap → Prop, (pop P (binA .gtr 140 t19_1 (Value.int IntKind.u64 0)) fun t22_1 =>
  guardM t22_1 false (fun k_1 => k_1 t20_1 h_2) h_2 fun t24_1 h_3 =>
  guardM t22_1 false (fun k_2 => pop P (binA .gtr 140 t24_1 (Value.int IntKind.u64 9223372036854775807)) fun t25_1 =>
  k_2 t25_1 h_3) h_3 fun t25_2 h_4 =>
  pop P (pickS t22_1 (Value.bool true) t25_2) fun t26_1 =>
  condM t26_1
  (pop P (Instr.makeInterface 9 (Value.string { data := #[116, 104, 101, 32, 114, 101, 115, 117, 108, 116, 32, 111, 102, 32, 40, 108, 101, 110, 40, 120, 41, 32, 42, 32, 99, 111, 117, 110, 116, 41, 32, 111, 118, 101, 114, 102, 108, 111, 119, 115] })) fun t27_1 =>
  False)
  (J_2 [] h_4)) ∧
  ∀ (junk_2 : Nat → Value) (h_5 : Heap), J_2 [] h_5 →
  rop P (convert 140 3 t20_1) h_5 fun t29_1 =>
  eop P (Instr.makeSlice 25 t29_1 t29_1) h_5 fun t30_1 h_6 =>
  eop P (Builtin.copy_ #[25, 25] 3 #[t30_1, x0_1]) h_6 fun t33_1 h_7 =>
  ∃ (I_1 : List Value → Heap → Prop) (μ_1 : List Value → Heap → Nat), I_1 [t33_1] h_7 ∧
  ∀ (junk_3 : Nat → Value) (n8_1 : Value) (h_8 : Heap), I_1 [n8_1] h_8 →
  pop P (lenS 25 3 t30_1) fun t36_1 =>
  pop P (binA .lss 3 n8_1 t36_1) fun t37_1 =>
  condM t37_1
  (pop P (Instr.sliceAt 25 t30_1 (some n8_1) none none) fun t41_1 =>
  pop P (Instr.sliceAt 25 t30_1 none (some n8_1) none) fun t44_1 =>
  eop P (Builtin.copy_ #[25, 25] 3 #[t41_1, t44_1]) h_8 fun t45_1 h_9 =>
  pop P (binA .add 3 n8_1 t45_1) fun t46_1 =>
  I_1 [t46_1] h_9 ∧ μ_1 [t46_1] h_9 < μ_1 [n8_1] h_8)
  (K t30_1 h_8)
theorem e148 (x0_1 : Value) (count1_1 : Value) (h : Heap) (K : Value → Heap → Prop) : wpA Try.prog 48 (anOf [(3, []), (15, []), (508, [8])]) (bodyOf Try.f148) 1 (fun A h => resA Try.prog A h K [.tmp 4]) (fun _ _ _ => False) (fun A h => resA Try.prog A h K [.tmp 4]) (aargs [x0_1, count1_1] 0) h = t148 Try.prog x0_1 count1_1 h K := by kernel_rfl
theorem c148 (x0_1 : Value) (count1_1 : Value) (h : Heap) (K : Value → Heap → Prop) (H : t148 Try.prog x0_1 count1_1 h K) : callM Try.prog 148 #[x0_1, count1_1] h K :=
  callM_of_wpA mixed (fn := Try.f148) Try.func148 (c := bodyOf Try.f148) rfl (of_decide_eq_true (by kernel_rfl)) (anOf [(3, []), (15, []), (508, [8])]) 46 48 (by kernel_rfl) rfl [.tmp 4] (by kernel_rfl) (args := [x0_1, count1_1]) (by rw [e148]; exact H)

/-! math/bits.Mul -/
def t149 (P : Program) (x0_1 : Value) (y1_1 : Value) (h : Heap) (K : Value → Heap → Prop) : Prop :=
  condM (Value.bool false)
  (rop P (convert 140 143 x0_1) h fun t12_1 =>
  rop P (convert 140 143 y1_1) h fun t14_1 =>
  callM P 150 #[t12_1, t14_1] h fun t15_1 h_1 =>
  pop P (Instr.extract t15_1 0) fun t16_1 =>
  pop P (Instr.extract t15_1 1) fun t17_1 =>
  rop P (convert 143 140 t16_1) h_1 fun t19_1 =>
  rop P (convert 143 140 t17_1) h_1 fun t21_1 =>
  K (.tuple #[t19_1, t21_1]) h_1)
  (callM P 151 #[x0_1, y1_1] h fun t25_1 h_2 =>
  pop P (Instr.extract t25_1 0) fun t26_1 =>
  pop P (Instr.extract t25_1 1) fun t27_1 =>
  K (.tuple #[t26_1, t27_1]) h_2)
theorem e149 (x0_1 : Value) (y1_1 : Value) (h : Heap) (K : Value → Heap → Prop) : wpA Try.prog 30 (anOf []) (bodyOf Try.f149) 1 (fun A h => resA Try.prog A h K [.tmp 4, .tmp 5]) (fun _ _ _ => False) (fun A h => resA Try.prog A h K [.tmp 4, .tmp 5]) (aargs [x0_1, y1_1] 0) h = t149 Try.prog x0_1 y1_1 h K := by kernel_rfl
theorem c149 (x0_1 : Value) (y1_1 : Value) (h : Heap) (K : Value → Heap → Prop) (H : t149 Try.prog x0_1 y1_1 h K) : callM Try.prog 149 #[x0_1, y1_1] h K :=
  callM_of_wpA mixed (fn := Try.f149) Try.func149 (c := bodyOf Try.f149) rfl (of_decide_eq_true (by kernel_rfl)) (anOf []) 28 30 (by kernel_rfl) rfl [.tmp 4, .tmp 5] (by kernel_rfl) (args := [x0_1, y1_1]) (by rw [e149]; exact H)

/-! math/bits.Mul32 -/
def t150 (P : Program) (x0_1 : Value) (y1_1 : Value) (h : Heap) (K : Value → Heap → Prop) : Prop :=
  rop P (convert 143 146 x0_1) h fun t8_1 =>
  rop P (convert 143 146 y1_1) h fun t10_1 =>
  pop P (binA .mul 146 t8_1 t10_1) fun t11_1 =>
  pop P (binA .shr 146 t11_1 (Value.int IntKind.u64 32)) fun t13_1 =>
  rop P (convert 146 143 t13_1) h fun t14_1 =>
  rop P (convert 146 143 t11_1) h fun t16_1 =>
  K (.tuple #[t14_1, t16_1]) h
theorem e150 (x0_1 : Value) (y1_1 : Value) (h : Heap) (K : Value → Heap → Prop) : wpA Try.prog 17 (anOf []) (bodyOf Try.f150) 1 (fun A h => resA Try.prog A h K [.tmp 4, .tmp 5]) (fun _ _ _ => False) (fun A h => resA Try.prog A h K [.tmp 4, .tmp 5]) (aargs [x0_1, y1_1] 0) h = t150 Try.prog x0_1 y1_1 h K := by kernel_rfl
theorem c150 (x0_1 : Value) (y1_1 : Value) (h : Heap) (K : Value → Heap → Prop) (H : t150 Try.prog x0_1 y1_1 h K) : callM Try.prog 150 #[x0_1, y1_1] h K :=
  callM_of_wpA mixed (fn := Try.f150) Try.func150 (c := bodyOf Try.f150) rfl (of_decide_eq_true (by kernel_rfl)) (anOf []) 15 17 (by kernel_rfl) rfl [.tmp 4, .tmp 5] (by kernel_rfl) (args := [x0_1, y1_1]) (by rw [e150]; exact H)

/-! math/bits.Mul64 -/
def t151 (P : Program) (x0_1 : Value) (y1_1 : Value) (h : Heap) (K : Value → Heap → Prop) : Prop :=
  pop P (binA .and 146 x0_1 (Value.int IntKind.u64 4294967295)) fun t15_1 =>
  pop P (binA .shr 146 x0_1 (Value.int IntKind.u64 32)) fun t17_1 =>
  pop P (binA .and 146 y1_1 (Value.int IntKind.u64 4294967295)) fun t19_1 =>
  pop P (binA .shr 146 y1_1 (Value.int IntKind.u64 32)) fun t21_1 =>
  pop P (binA .mul 146 t15_1 t19_1) fun t24_1 =>
  pop P (binA .mul 146 t17_1 t19_1) fun t27_1 =>
  pop P (binA .shr 146 t24_1 (Value.int IntKind.u64 32)) fun t29_1 =>
  pop P (binA .add 146 t27_1 t29_1) fun t30_1 =>
  pop P (binA .and 146 t30_1 (Value.int IntKind.u64 4294967295)) fun t32_1 =>
  pop P (binA .shr 146 t30_1 (Value.int IntKind.u64 32)) fun t34_1 =>
  pop P (binA .mul 146 t15_1 t21_1) fun t38_1 =>
  pop P (binA .add 146 t32_1 t38_1) fun t39_1 =>
  pop P (binA .mul 146 t17_1 t21_1) fun t42_1 =>
  pop P (binA .add 146 t42_1 t34_1) fun t44_1 =>
  pop P (binA .shr 146 t39_1 (Value.int IntKind.u64 32)) fun t46_1 =>
  pop P (binA .add 146 t44_1 t46_1) fun t47_1 =>
  pop P (binA .mul 146 x0_1 y1_1) fun t50_1 =>
  K (.tuple #[t47_1, t50_1]) h
theorem e151 (x0_1 : Value) (y1_1 : Value) (h : Heap) (K : Value → Heap → Prop) : wpA Try.prog 51 (anOf []) (bodyOf Try.f151) 1 (fun A h => resA Try.prog A h K [.tmp 4, .tmp 5]) (fun _ _ _ => False) (fun A h => resA Try.prog A h K [.tmp 4, .tmp 5]) (aargs [x0_1, y1_1] 0) h = t151 Try.prog x0_1 y1_1 h K := by kernel_rfl
theorem c151 (x0_1 : Value) (y1_1 : Value) (h : Heap) (K : Value → Heap → Prop) (H : t151 Try.prog x0_1 y1_1 h K) : callM Try.prog 151 #[x0_1, y1_1] h K :=
  callM_of_wpA mixed (fn := Try.f151) Try.func151 (c := bodyOf Try.f151) rfl (of_decide_eq_true (by kernel_rfl)) (anOf []) 49 51 (by kernel_rfl) rfl [.tmp 4, .tmp 5] (by kernel_rfl) (args := [x0_1, y1_1]) (by rw [e151]; exact H)

end Go.Proofs.Ytjinpagnbflmiaa
