/-
  What each function that the law 'FnExactPopAll' comes to asks of the heap, named; tied to the loaded program by the kernel. Written by a program.
-/
import Derived.Test.YtjinpagnbflmiaaProg
import Derived.Test.YtjinpagnbflmiaaM1
set_option linter.unusedVariables false
namespace Go.Proofs.Ytjinpagnbflmiaa
open Go Go.Mx
theorem mixed : Try.prog.follows .mixedOrders = true := by kernel_rfl
/-! laws.FnExactPopAll -/
def t13 (P : Program) (C0_1 : Value) (o1_1 : Value) (d2_1 : Value) (e3_1 : Value) (h : Heap) (K : Value → Heap → Prop) : Prop :=
  eop P (Instr.box 24 C0_1) h fun t4_1 h_1 =>
  eop P (Instr.box 47 d2_1) h_1 fun o6_1 h_2 =>
  pop P (lenS 25 3 e3_1) fun t23_1 =>
  pop P (binA .gtr 3 t23_1 (Value.int IntKind.i64 1048576)) fun t24_1 =>
  condM t24_1
  (K (Value.bool true) h_2)
  (rop P (Instr.loadAt 24 t4_1) h_2 fun t25_1 =>
  callM P 15 #[t25_1, (Value.int IntKind.i64 1048576)] h_2 fun t27_1 h_3 =>
  pop P (binA .lss 3 t27_1 (Value.int IntKind.i64 0)) fun t29_1 =>
  condM t29_1
  (K (Value.bool true) h_3)
  (rop P (Instr.loadAt 47 o6_1) h_3 fun t30_1 =>
  callM P 30 #[t30_1, t27_1] h_3 fun t32_1 h_4 =>
  pop P (binA .lss 3 t32_1 (Value.int IntKind.i64 0)) fun t34_1 =>
  condM t34_1
  (K (Value.bool true) h_4)
  (∃ J_1 : List Value → Heap → Prop, (rop P (Instr.loadAt 24 t4_1) h_4 fun t36_1 =>
  rop P (Instr.loadAt 47 o6_1) h_4 fun t39_1 =>
  (callM P 18 #[t36_1] h_4 fun t37_1 h_5 =>
  (∀ w : World, w.heap = h_5 → (Instr.loadAt 47 o6_1).run P w = .ok t39_1 w) ∧
  (callM P 32 #[t39_1] h_5 fun t40_1 h_6 =>
  (callM P 42 #[e3_1] h_6 fun t42_1 h_7 =>
  (callM P 60 #[t37_1, o1_1, t40_1, t42_1] h_7 fun t43_1 h_8 =>
  pop P (Instr.extract t43_1 0) fun t44_1 =>
  pop P (Instr.extract t43_1 1) fun t45_1 =>
  eop P (Instr.alloc 49 true (.tuple #[])) h_8 fun a10_1 h_9 =>
  uop P (Instr.storeAt 49 a10_1 t44_1) h_9 fun u_1 h_10 =>
  J_1 [a10_1, t45_1] h_10) ∧
  (eop P (Instr.alloc 49 true (.tuple #[])) h_7 fun a10_2 h_11 =>
  callM P 60 #[t37_1, o1_1, t40_1, t42_1] h_11 fun t43_2 h_12 =>
  pop P (Instr.extract t43_2 0) fun t44_2 =>
  pop P (Instr.extract t43_2 1) fun t45_2 =>
  uop P (Instr.storeAt 49 a10_2 t44_2) h_12 fun u_2 h_13 =>
  J_1 [a10_2, t45_2] h_13)) ∧
  (eop P (Instr.alloc 49 true (.tuple #[])) h_6 fun a10_3 h_14 =>
  callM P 42 #[e3_1] h_14 fun t42_2 h_15 =>
  callM P 60 #[t37_1, o1_1, t40_1, t42_2] h_15 fun t43_3 h_16 =>
  pop P (Instr.extract t43_3 0) fun t44_3 =>
  pop P (Instr.extract t43_3 1) fun t45_3 =>
  uop P (Instr.storeAt 49 a10_3 t44_3) h_16 fun u_3 h_17 =>
  J_1 [a10_3, t45_3] h_17)) ∧
  (eop P (Instr.alloc 49 true (.tuple #[])) h_5 fun a10_4 h_18 =>
  (∀ w : World, w.heap = h_18 → (Instr.loadAt 47 o6_1).run P w = .ok t39_1 w) ∧
  callM P 32 #[t39_1] h_18 fun t40_2 h_19 =>
  callM P 42 #[e3_1] h_19 fun t42_3 h_20 =>
  callM P 60 #[t37_1, o1_1, t40_2, t42_3] h_20 fun t43_4 h_21 =>
  pop P (Instr.extract t43_4 0) fun t44_4 =>
  pop P (Instr.extract t43_4 1) fun t45_4 =>
  uop P (Instr.storeAt 49 a10_4 t44_4) h_21 fun u_4 h_22 =>
  J_1 [a10_4, t45_4] h_22)) ∧
  (eop P (Instr.alloc 49 true (.tuple #[])) h_4 fun a10_5 h_23 =>
  (∀ w : World, w.heap = h_23 → (Instr.loadAt 47 o6_1).run P w = .ok t39_1 w) ∧
  (∀ w : World, w.heap = h_23 → (Instr.loadAt 24 t4_1).run P w = .ok t36_1 w) ∧
  callM P 18 #[t36_1] h_23 fun t37_2 h_24 =>
  (∀ w : World, w.heap = h_24 → (Instr.loadAt 47 o6_1).run P w = .ok t39_1 w) ∧
  callM P 32 #[t39_1] h_24 fun t40_3 h_25 =>
  callM P 42 #[e3_1] h_25 fun t42_4 h_26 =>
  callM P 60 #[t37_2, o1_1, t40_3, t42_4] h_26 fun t43_5 h_27 =>
  pop P (Instr.extract t43_5 0) fun t44_5 =>
  pop P (Instr.extract t43_5 1) fun t45_5 =>
  uop P (Instr.storeAt 49 a10_5 t44_5) h_27 fun u_5 h_28 =>
  J_1 [a10_5, t45_5] h_28)) ∧
  ∀ (junk_1 : Nat → Value) (a10_6 : Value) (y11_1 : Value) (h_29 : Heap), J_1 [a10_6, y11_1] h_29 →
  rop P (Instr.loadAt 24 t4_1) h_29 fun t46_1 =>
  callM P 18 #[t46_1] h_29 fun t47_1 h_30 =>
  eop P (Instr.alloc 32 true (.tuple #[])) h_30 fun t12_1 h_31 =>
  uop P (Instr.storeAt 32 t12_1 t47_1) h_31 fun u_6 h_32 =>
  rop P (Instr.loadAt 47 o6_1) h_32 fun t48_1 =>
  callM P 32 #[t48_1] h_32 fun t49_1 h_33 =>
  eop P (Instr.alloc 49 true (.tuple #[])) h_33 fun t13_1 h_34 =>
  uop P (Instr.storeAt 49 t13_1 t49_1) h_34 fun u_7 h_35 =>
  callM P 42 #[e3_1] h_35 fun t51_1 h_36 =>
  rop P (Instr.loadAt 32 t12_1) h_36 fun t53_1 =>
  rop P (Instr.loadAt 49 t13_1) h_36 fun t55_1 =>
  callM P 61 #[t53_1, o1_1, t55_1, t51_1] h_36 fun t57_1 h_37 =>
  pop P (Instr.extract t57_1 0) fun t58_1 =>
  pop P (Instr.extract t57_1 1) fun t59_1 =>
  eop P (Instr.alloc 49 true (.tuple #[])) h_37 fun t15_1 h_38 =>
  uop P (Instr.storeAt 49 t15_1 t58_1) h_38 fun u_8 h_39 =>
  rop P (Instr.loadAt 49 t15_1) h_39 fun t60_1 =>
  rop P (Instr.loadAt 49 a10_6) h_39 fun t61_1 =>
  callM P 34 #[t60_1, t61_1] h_39 fun t62_1 h_40 =>
  pop P (Op.unary .not t62_1) fun t63_1 =>
  guardM t63_1 false (fun k_1 => k_1 t59_1 h_40) h_40 fun t65_1 h_41 =>
  guardM t63_1 false (fun k_2 => k_2 y11_1 h_41) h_41 fun t66_1 h_42 =>
  guardM t63_1 false (fun k_3 => pop P (binE .neq 4 (.tmp 65) (.tmp 66) t65_1 t66_1) fun t67_1 =>
  k_3 t67_1 h_42) h_42 fun t67_2 h_43 =>
  pop P (pickS t63_1 (Value.bool true) t67_2) fun t68_1 =>
  condM t68_1
  (K (Value.bool false) h_43)
  (rop P (Instr.loadAt 32 t12_1) h_43 fun t69_1 =>
  rop P (Instr.loadAt 24 t4_1) h_43 fun t70_1 =>
  callM P 18 #[t70_1] h_43 fun t71_1 h_44 =>
  (∀ w : World, w.heap = h_44 → (Instr.loadAt 32 t12_1).run P w = .ok t69_1 w) ∧
  callM P 22 #[t69_1, t71_1] h_44 fun t72_1 h_45 =>
  pop P (Op.unary .not t72_1) fun t73_1 =>
  condM t73_1
  (K (Value.bool false) h_45)
  (rop P (Instr.loadAt 49 t13_1) h_45 fun t74_1 =>
  rop P (Instr.loadAt 47 o6_1) h_45 fun t75_1 =>
  callM P 32 #[t75_1] h_45 fun t76_1 h_46 =>
  (∀ w : World, w.heap = h_46 → (Instr.loadAt 49 t13_1).run P w = .ok t74_1 w) ∧
  callM P 34 #[t74_1, t76_1] h_46 fun t77_1 h_47 =>
  pop P (Op.unary .not t77_1) fun t78_1 =>
  condM t78_1
  (K (Value.bool false) h_47)
  (callM P 42 #[e3_1] h_47 fun t81_1 h_48 =>
  callM P 45 #[t51_1, t81_1] h_48 fun t82_1 h_49 =>
  pop P (Op.unary .not t82_1) fun t83_1 =>
  condM t83_1
  (K (Value.bool false) h_49)
  (rop P (Instr.loadAt 32 t12_1) h_49 fun t84_1 =>
  callM P 24 #[t84_1, (Value.int IntKind.i64 1)] h_49 fun t86_1 h_50 =>
  rop P (Instr.loadAt 49 t13_1) h_50 fun t87_1 =>
  callM P 35 #[t87_1, t86_1] h_50 fun t89_1 h_51 =>
  callM P 49 #[t51_1, t89_1] h_51 fun t92_1 h_52 =>
  pop P (binA .lss 3 t92_1 (Value.int IntKind.i64 0)) fun t94_1 =>
  guardM t94_1 false (fun k_4 => rop P (Instr.loadAt 49 t15_1) h_52 fun t96_1 =>
  k_4 t96_1 h_52) h_52 fun t96_2 h_53 =>
  guardM t94_1 false (fun k_5 => rop P (Instr.loadAt 49 a10_6) h_53 fun t97_1 =>
  k_5 t97_1 h_53) h_53 fun t97_2 h_54 =>
  guardM t94_1 false (fun k_6 => callM P 34 #[t96_2, t97_2] h_54 fun t98_1 h_55 =>
  k_6 t98_1 h_55) h_54 fun t98_2 h_56 =>
  guardM t94_1 false (fun k_7 => pop P (Op.unary .not t98_2) fun t99_1 =>
  k_7 t99_1 h_56) h_56 fun t99_2 h_57 =>
  pop P (pickS t94_1 (Value.bool true) t99_2) fun t100_1 =>
  guardM t100_1 false (fun k_8 => k_8 t59_1 h_57) h_57 fun t102_1 h_58 =>
  guardM t100_1 false (fun k_9 => k_9 y11_1 h_58) h_58 fun t103_1 h_59 =>
  guardM t100_1 false (fun k_10 => pop P (binE .neq 4 (.tmp 102) (.tmp 103) t102_1 t103_1) fun t104_1 =>
  k_10 t104_1 h_59) h_59 fun t104_2 h_60 =>
  pop P (pickS t100_1 (Value.bool true) t104_2) fun t105_1 =>
  condM t105_1
  (K (Value.bool false) h_60)
  (rop P (Instr.loadAt 49 t15_1) h_60 fun t106_1 =>
  callM P 35 #[t106_1, (Value.int IntKind.i64 1)] h_60 fun t108_1 h_61 =>
  rop P (Instr.loadAt 49 t15_1) h_61 fun t109_1 =>
  callM P 36 #[t109_1, (Value.int IntKind.i64 1)] h_61 fun t111_1 h_62 =>
  pop P (binA .lss 3 t111_1 (Value.int IntKind.i64 0)) fun t113_1 =>
  condM t113_1
  (K (Value.bool false) h_62)
  (pop P (binE .neq 3 (.tmp 114) (.tmp 115) t111_1 t108_1) fun t116_1 =>
  condM t116_1
  (K (Value.bool false) h_62)
  (∃ J_2 : List Value → Heap → Prop, (rop P (Instr.loadAt 24 t4_1) h_62 fun t118_1 =>
  rop P (Instr.loadAt 47 o6_1) h_62 fun t121_1 =>
  (callM P 18 #[t118_1] h_62 fun t119_1 h_63 =>
  (∀ w : World, w.heap = h_63 → (Instr.loadAt 47 o6_1).run P w = .ok t121_1 w) ∧
  (callM P 32 #[t121_1] h_63 fun t122_1 h_64 =>
  (callM P 42 #[e3_1] h_64 fun t124_1 h_65 =>
  (callM P 61 #[t119_1, o1_1, t122_1, t124_1] h_65 fun t125_1 h_66 =>
  pop P (Instr.extract t125_1 0) fun t126_1 =>
  pop P (Instr.extract t125_1 1) fun t127_1 =>
  eop P (Instr.alloc 49 true (.tuple #[])) h_66 fun t20_1 h_67 =>
  uop P (Instr.storeAt 49 t20_1 t126_1) h_67 fun u_9 h_68 =>
  J_2 [t20_1, t127_1] h_68) ∧
  (eop P (Instr.alloc 49 true (.tuple #[])) h_65 fun t20_2 h_69 =>
  callM P 61 #[t119_1, o1_1, t122_1, t124_1] h_69 fun t125_2 h_70 =>
  pop P (Instr.extract t125_2 0) fun t126_2 =>
  pop P (Instr.extract t125_2 1) fun t127_2 =>
  uop P (Instr.storeAt 49 t20_2 t126_2) h_70 fun u_10 h_71 =>
  J_2 [t20_2, t127_2] h_71)) ∧
  (eop P (Instr.alloc 49 true (.tuple #[])) h_64 fun t20_3 h_72 =>
  callM P 42 #[e3_1] h_72 fun t124_2 h_73 =>
  callM P 61 #[t119_1, o1_1, t122_1, t124_2] h_73 fun t125_3 h_74 =>
  pop P (Instr.extract t125_3 0) fun t126_3 =>
  pop P (Instr.extract t125_3 1) fun t127_3 =>
  uop P (Instr.storeAt 49 t20_3 t126_3) h_74 fun u_11 h_75 =>
  J_2 [t20_3, t127_3] h_75)) ∧
  (eop P (Instr.alloc 49 true (.tuple #[])) h_63 fun t20_4 h_76 =>
  (∀ w : World, w.heap = h_76 → (Instr.loadAt 47 o6_1).run P w = .ok t121_1 w) ∧
  callM P 32 #[t121_1] h_76 fun t122_2 h_77 =>
  callM P 42 #[e3_1] h_77 fun t124_3 h_78 =>
  callM P 61 #[t119_1, o1_1, t122_2, t124_3] h_78 fun t125_4 h_79 =>
  pop P (Instr.extract t125_4 0) fun t126_4 =>
  pop P (Instr.extract t125_4 1) fun t127_4 =>
  uop P (Instr.storeAt 49 t20_4 t126_4) h_79 fun u_12 h_80 =>
  J_2 [t20_4, t127_4] h_80)) ∧
  (eop P (Instr.alloc 49 true (.tuple #[])) h_62 fun t20_5 h_81 =>
  (∀ w : World, w.heap = h_81 → (Instr.loadAt 47 o6_1).run P w = .ok t121_1 w) ∧
  (∀ w : World, w.heap = h_81 → (Instr.loadAt 24 t4_1).run P w = .ok t118_1 w) ∧
  callM P 18 #[t118_1] h_81 fun t119_2 h_82 =>
  (∀ w : World, w.heap = h_82 → (Instr.loadAt 47 o6_1).run P w = .ok t121_1 w) ∧
  callM P 32 #[t121_1] h_82 fun t122_3 h_83 =>
  callM P 42 #[e3_1] h_83 fun t124_4 h_84 =>
  callM P 61 #[t119_2, o1_1, t122_3, t124_4] h_84 fun t125_5 h_85 =>
  pop P (Instr.extract t125_5 0) fun t126_5 =>
  pop P (Instr.extract t125_5 1) fun t127_5 =>
  uop P (Instr.storeAt 49 t20_5 t126_5) h_85 fun u_13 h_86 =>
  J_2 [t20_5, t127_5] h_86)) ∧
  ∀ (junk_2 : Nat → Value) (t20_6 : Value) (t21_1 : Value) (h_87 : Heap), J_2 [t20_6, t21_1] h_87 →
  rop P (Instr.loadAt 49 t20_6) h_87 fun t128_1 =>
  rop P (Instr.loadAt 49 a10_6) h_87 fun t129_1 =>
  callM P 34 #[t128_1, t129_1] h_87 fun t130_1 h_88 =>
  pop P (Op.unary .not t130_1) fun t131_1 =>
  guardM t131_1 false (fun k_11 => k_11 t21_1 h_88) h_88 fun t133_1 h_89 =>
  guardM t131_1 false (fun k_12 => k_12 y11_1 h_89) h_89 fun t134_1 h_90 =>
  guardM t131_1 false (fun k_13 => pop P (binE .neq 4 (.tmp 133) (.tmp 134) t133_1 t134_1) fun t135_1 =>
  k_13 t135_1 h_90) h_90 fun t135_2 h_91 =>
  pop P (pickS t131_1 (Value.bool true) t135_2) fun t136_1 =>
  condM t136_1
  (K (Value.bool false) h_91)
  (rop P (Instr.loadAt 49 t15_1) h_91 fun t137_1 =>
  callM P 36 #[t137_1, (Value.int IntKind.i64 1)] h_91 fun t139_1 h_92 =>
  pop P (binA .lss 3 t139_1 (Value.int IntKind.i64 0)) fun t141_1 =>
  condM t141_1
  (K (Value.bool false) h_92)
  (pop P (binE .neq 3 (.tmp 142) (.tmp 143) t139_1 t108_1) fun t144_1 =>
  condM t144_1
  (K (Value.bool false) h_92)
  (K (Value.bool true) h_92)))))))))))))
theorem e13 (C0_1 : Value) (o1_1 : Value) (d2_1 : Value) (e3_1 : Value) (h : Heap) (K : Value → Heap → Prop) : wpA Try.prog 145 (anOf [(255, [10, 11]), (268435455, [20, 21])]) (bodyOf Try.f13) 1 (fun A h => resA Try.prog A h K [.tmp 8]) (fun _ _ _ => False) (fun A h => resA Try.prog A h K [.tmp 8]) (aargs [C0_1, o1_1, d2_1, e3_1] 0) h = t13 Try.prog C0_1 o1_1 d2_1 e3_1 h K := by kernel_rfl
theorem c13 (C0_1 : Value) (o1_1 : Value) (d2_1 : Value) (e3_1 : Value) (h : Heap) (K : Value → Heap → Prop) (H : t13 Try.prog C0_1 o1_1 d2_1 e3_1 h K) : callM Try.prog 13 #[C0_1, o1_1, d2_1, e3_1] h K :=
  callM_of_wpA mixed (fn := Try.f13) Try.func13 (c := bodyOf Try.f13) rfl (of_decide_eq_true (by kernel_rfl)) (anOf [(255, [10, 11]), (268435455, [20, 21])]) 141 145 (by kernel_rfl) rfl [.tmp 8] (by kernel_rfl) (args := [C0_1, o1_1, d2_1, e3_1]) (by rw [e13]; exact H)

/-! laws.szGraph -/
def t15 (P : Program) (a0_1 : Value) (left1_1 : Value) (h : Heap) (K : Value → Heap → Prop) : Prop :=
  eop P (Instr.box 24 a0_1) h fun a2_1 h_1 =>
  pop P (Instr.fieldAt 24 a2_1 0) fun t5_1 =>
  rop P (Instr.loadAt 22 t5_1) h_1 fun t6_1 =>
  callM P 64 #[t6_1, left1_1] h_1 fun t8_1 h_2 =>
  pop P (binA .lss 3 t8_1 (Value.int IntKind.i64 0)) fun t10_1 =>
  condM t10_1
  (K (Value.int IntKind.i64 (-1)) h_2)
  (K t8_1 h_2)
theorem e15 (a0_1 : Value) (left1_1 : Value) (h : Heap) (K : Value → Heap → Prop) : wpA Try.prog 12 (anOf []) (bodyOf Try.f15) 1 (fun A h => resA Try.prog A h K [.tmp 4]) (fun _ _ _ => False) (fun A h => resA Try.prog A h K [.tmp 4]) (aargs [a0_1, left1_1] 0) h = t15 Try.prog a0_1 left1_1 h K := by kernel_rfl
theorem c15 (a0_1 : Value) (left1_1 : Value) (h : Heap) (K : Value → Heap → Prop) (H : t15 Try.prog a0_1 left1_1 h K) : callM Try.prog 15 #[a0_1, left1_1] h K :=
  callM_of_wpA mixed (fn := Try.f15) Try.func15 (c := bodyOf Try.f15) rfl (of_decide_eq_true (by kernel_rfl)) (anOf []) 10 12 (by kernel_rfl) rfl [.tmp 4] (by kernel_rfl) (args := [a0_1, left1_1]) (by rw [e15]; exact H)

/-! laws.toGraph -/
def t18 (P : Program) (a0_1 : Value) (h : Heap) (K : Value → Heap → Prop) : Prop :=
  eop P (Instr.box 24 a0_1) h fun a1_1 h_1 =>
  eop P (Instr.alloc 32 true (.tuple #[])) h_1 fun t2_1 h_2 =>
  eop P (Instr.alloc 32 true (.tuple #[])) h_2 fun out3_1 h_3 =>
  pop P (Instr.fieldAt 24 a1_1 0) fun t4_1 =>
  rop P (Instr.loadAt 22 t4_1) h_3 fun t5_1 =>
  callM P 68 #[t5_1] h_3 fun t6_1 h_4 =>
  pop P (Instr.fieldAt 32 out3_1 0) fun t7_1 =>
  uop P (Instr.storeAt 22 t7_1 t6_1) h_4 fun u_1 h_5 =>
  rop P (Instr.loadAt 32 out3_1) h_5 fun t8_1 =>
  uop P (Instr.storeAt 32 t2_1 t8_1) h_5 fun u_2 h_6 =>
  rop P (Instr.loadAt 32 t2_1) h_6 fun r_1 =>
  K r_1 h_6
theorem e18 (a0_1 : Value) (h : Heap) (K : Value → Heap → Prop) : wpA Try.prog 9 (anOf []) (bodyOf Try.f18) 1 (fun A h => resA Try.prog A h K [.cell 2 32]) (fun _ _ _ => False) (fun A h => resA Try.prog A h K [.cell 2 32]) (aargs [a0_1] 0) h = t18 Try.prog a0_1 h K := by kernel_rfl
theorem c18 (a0_1 : Value) (h : Heap) (K : Value → Heap → Prop) (H : t18 Try.prog a0_1 h K) : callM Try.prog 18 #[a0_1] h K :=
  callM_of_wpA mixed (fn := Try.f18) Try.func18 (c := bodyOf Try.f18) rfl (of_decide_eq_true (by kernel_rfl)) (anOf []) 8 9 (by kernel_rfl) rfl [.cell 2 32] (by kernel_rfl) (args := [a0_1]) (by rw [e18]; exact H)

/-! laws.eqIntSS -/
def t21 (P : Program) (a0_1 : Value) (b1_1 : Value) (h : Heap) (K : Value → Heap → Prop) : Prop :=
  pop P (lenS 22 3 a0_1) fun t7_1 =>
  pop P (lenS 22 3 b1_1) fun t9_1 =>
  pop P (binE .neq 3 (.tmp 7) (.tmp 9) t7_1 t9_1) fun t10_1 =>
  condM t10_1
  (K (Value.bool false) h)
  (∃ (I_1 : List Value → Heap → Prop) (μ_1 : List Value → Heap → Nat), I_1 [(Value.int IntKind.i64 0)] h ∧
  ∀ (junk_1 : Nat → Value) (i5_1 : Value) (h_1 : Heap), I_1 [i5_1] h_1 →
  pop P (lenS 22 3 a0_1) fun t13_1 =>
  pop P (binA .lss 3 i5_1 t13_1) fun t14_1 =>
  condM t14_1
  (pop P (Instr.indexAt 22 a0_1 i5_1) fun t19_1 =>
  rop P (Instr.loadAt 25 t19_1) h_1 fun t20_1 =>
  pop P (Instr.indexAt 22 b1_1 i5_1) fun t23_1 =>
  rop P (Instr.loadAt 25 t23_1) h_1 fun t24_1 =>
  callM P 45 #[t20_1, t24_1] h_1 fun t25_1 h_2 =>
  pop P (Op.unary .not t25_1) fun t26_1 =>
  condM t26_1
  (K (Value.bool false) h_2)
  (pop P (binA .add 3 i5_1 (Value.int IntKind.i64 1)) fun t16_1 =>
  I_1 [t16_1] h_2 ∧ μ_1 [t16_1] h_2 < μ_1 [i5_1] h_1))
  (K (Value.bool true) h_1))
theorem e21 (a0_1 : Value) (b1_1 : Value) (h : Heap) (K : Value → Heap → Prop) : wpA Try.prog 27 (anOf [(58, [5])]) (bodyOf Try.f21) 1 (fun A h => resA Try.prog A h K [.tmp 4]) (fun _ _ _ => False) (fun A h => resA Try.prog A h K [.tmp 4]) (aargs [a0_1, b1_1] 0) h = t21 Try.prog a0_1 b1_1 h K := by kernel_rfl
theorem c21 (a0_1 : Value) (b1_1 : Value) (h : Heap) (K : Value → Heap → Prop) (H : t21 Try.prog a0_1 b1_1 h K) : callM Try.prog 21 #[a0_1, b1_1] h K :=
  callM_of_wpA mixed (fn := Try.f21) Try.func21 (c := bodyOf Try.f21) rfl (of_decide_eq_true (by kernel_rfl)) (anOf [(58, [5])]) 25 27 (by kernel_rfl) rfl [.tmp 4] (by kernel_rfl) (args := [a0_1, b1_1]) (by rw [e21]; exact H)

/-! laws.eqGraph -/
def t22 (P : Program) (a0_1 : Value) (b1_1 : Value) (h : Heap) (K : Value → Heap → Prop) : Prop :=
  eop P (Instr.box 32 a0_1) h fun a2_1 h_1 =>
  eop P (Instr.box 32 b1_1) h_1 fun b3_1 h_2 =>
  pop P (Instr.fieldAt 32 a2_1 0) fun t5_1 =>
  rop P (Instr.loadAt 22 t5_1) h_2 fun t6_1 =>
  pop P (Instr.fieldAt 32 b3_1 0) fun t7_1 =>
  rop P (Instr.loadAt 22 t7_1) h_2 fun t8_1 =>
  callM P 21 #[t6_1, t8_1] h_2 fun t9_1 h_3 =>
  pop P (Op.unary .not t9_1) fun t10_1 =>
  condM t10_1
  (K (Value.bool false) h_3)
  (K (Value.bool true) h_3)
theorem e22 (a0_1 : Value) (b1_1 : Value) (h : Heap) (K : Value → Heap → Prop) : wpA Try.prog 11 (anOf []) (bodyOf Try.f22) 1 (fun A h => resA Try.prog A h K [.tmp 4]) (fun _ _ _ => False) (fun A h => resA Try.prog A h K [.tmp 4]) (aargs [a0_1, b1_1] 0) h = t22 Try.prog a0_1 b1_1 h K := by kernel_rfl
theorem c22 (a0_1 : Value) (b1_1 : Value) (h : Heap) (K : Value → Heap → Prop) (H : t22 Try.prog a0_1 b1_1 h K) : callM Try.prog 22 #[a0_1, b1_1] h K :=
  callM_of_wpA mixed (fn := Try.f22) Try.func22 (c := bodyOf Try.f22) rfl (of_decide_eq_true (by kernel_rfl)) (anOf []) 9 11 (by kernel_rfl) rfl [.tmp 4] (by kernel_rfl) (args := [a0_1, b1_1]) (by rw [e22]; exact H)

/-! laws.markGraph -/
def t24 (P : Program) (a0_1 : Value) (k1_1 : Value) (h : Heap) (K : Value → Heap → Prop) : Prop :=
  eop P (Instr.box 32 a0_1) h fun a2_1 h_1 =>
  pop P (Instr.fieldAt 32 a2_1 0) fun t5_1 =>
  rop P (Instr.loadAt 22 t5_1) h_1 fun t6_1 =>
  callM P 26 #[t6_1, k1_1] h_1 fun t8_1 h_2 =>
  K t8_1 h_2
theorem e24 (a0_1 : Value) (k1_1 : Value) (h : Heap) (K : Value → Heap → Prop) : wpA Try.prog 10 (anOf []) (bodyOf Try.f24) 1 (fun A h => resA Try.prog A h K [.tmp 4]) (fun _ _ _ => False) (fun A h => resA Try.prog A h K [.tmp 4]) (aargs [a0_1, k1_1] 0) h = t24 Try.prog a0_1 k1_1 h K := by kernel_rfl
theorem c24 (a0_1 : Value) (k1_1 : Value) (h : Heap) (K : Value → Heap → Prop) (H : t24 Try.prog a0_1 k1_1 h K) : callM Try.prog 24 #[a0_1, k1_1] h K :=
  callM_of_wpA mixed (fn := Try.f24) Try.func24 (c := bodyOf Try.f24) rfl (of_decide_eq_true (by kernel_rfl)) (anOf []) 8 10 (by kernel_rfl) rfl [.tmp 4] (by kernel_rfl) (args := [a0_1, k1_1]) (by rw [e24]; exact H)

/-! laws.markIntSS -/
def t26 (P : Program) (a0_1 : Value) (k1_1 : Value) (h : Heap) (K : Value → Heap → Prop) : Prop :=
  ∃ (I_1 : List Value → Heap → Prop) (μ_1 : List Value → Heap → Nat), I_1 [k1_1, (Value.int IntKind.i64 0)] h ∧
  ∀ (junk_1 : Nat → Value) (k1_2 : Value) (i5_1 : Value) (h_1 : Heap), I_1 [k1_2, i5_1] h_1 →
  pop P (lenS 22 3 a0_1) fun t8_1 =>
  pop P (binA .lss 3 i5_1 t8_1) fun t9_1 =>
  condM t9_1
  (pop P (Instr.indexAt 22 a0_1 i5_1) fun t14_1 =>
  rop P (Instr.loadAt 25 t14_1) h_1 fun t15_1 =>
  callM P 49 #[t15_1, k1_2] h_1 fun t17_1 h_2 =>
  pop P (binA .add 3 i5_1 (Value.int IntKind.i64 1)) fun t11_1 =>
  I_1 [t17_1, t11_1] h_2 ∧ μ_1 [t17_1, t11_1] h_2 < μ_1 [k1_2, i5_1] h_1)
  (K k1_2 h_1)
theorem e26 (a0_1 : Value) (k1_1 : Value) (h : Heap) (K : Value → Heap → Prop) : wpA Try.prog 19 (anOf [(26, [1, 5])]) (bodyOf Try.f26) 1 (fun A h => resA Try.prog A h K [.tmp 4]) (fun _ _ _ => False) (fun A h => resA Try.prog A h K [.tmp 4]) (aargs [a0_1, k1_1] 0) h = t26 Try.prog a0_1 k1_1 h K := by kernel_rfl
theorem c26 (a0_1 : Value) (k1_1 : Value) (h : Heap) (K : Value → Heap → Prop) (H : t26 Try.prog a0_1 k1_1 h K) : callM Try.prog 26 #[a0_1, k1_1] h K :=
  callM_of_wpA mixed (fn := Try.f26) Try.func26 (c := bodyOf Try.f26) rfl (of_decide_eq_true (by kernel_rfl)) (anOf [(26, [1, 5])]) 17 19 (by kernel_rfl) rfl [.tmp 4] (by kernel_rfl) (args := [a0_1, k1_1]) (by rw [e26]; exact H)

/-! laws.heldIntSS -/
def t27 (P : Program) (a0_1 : Value) (k1_1 : Value) (h : Heap) (K : Value → Heap → Prop) : Prop :=
  ∃ (I_1 : List Value → Heap → Prop) (μ_1 : List Value → Heap → Nat), I_1 [k1_1, (Value.int IntKind.i64 0)] h ∧
  ∀ (junk_1 : Nat → Value) (k1_2 : Value) (i5_1 : Value) (h_1 : Heap), I_1 [k1_2, i5_1] h_1 →
  pop P (lenS 22 3 a0_1) fun t8_1 =>
  pop P (binA .lss 3 i5_1 t8_1) fun t9_1 =>
  condM t9_1
  (pop P (Instr.indexAt 22 a0_1 i5_1) fun t14_1 =>
  rop P (Instr.loadAt 25 t14_1) h_1 fun t15_1 =>
  callM P 57 #[t15_1, k1_2] h_1 fun t17_1 h_2 =>
  pop P (binA .lss 3 t17_1 (Value.int IntKind.i64 0)) fun t19_1 =>
  condM t19_1
  (K (Value.int IntKind.i64 (-1)) h_2)
  (pop P (binA .add 3 i5_1 (Value.int IntKind.i64 1)) fun t11_1 =>
  I_1 [t17_1, t11_1] h_2 ∧ μ_1 [t17_1, t11_1] h_2 < μ_1 [k1_2, i5_1] h_1))
  (K k1_2 h_1)
theorem e27 (a0_1 : Value) (k1_1 : Value) (h : Heap) (K : Value → Heap → Prop) : wpA Try.prog 21 (anOf [(26, [1, 5])]) (bodyOf Try.f27) 1 (fun A h => resA Try.prog A h K [.tmp 4]) (fun _ _ _ => False) (fun A h => resA Try.prog A h K [.tmp 4]) (aargs [a0_1, k1_1] 0) h = t27 Try.prog a0_1 k1_1 h K := by kernel_rfl
theorem c27 (a0_1 : Value) (k1_1 : Value) (h : Heap) (K : Value → Heap → Prop) (H : t27 Try.prog a0_1 k1_1 h K) : callM Try.prog 27 #[a0_1, k1_1] h K :=
  callM_of_wpA mixed (fn := Try.f27) Try.func27 (c := bodyOf Try.f27) rfl (of_decide_eq_true (by kernel_rfl)) (anOf [(26, [1, 5])]) 19 21 (by kernel_rfl) rfl [.tmp 4] (by kernel_rfl) (args := [a0_1, k1_1]) (by rw [e27]; exact H)

/-! laws.szStacks -/
def t30 (P : Program) (a0_1 : Value) (left1_1 : Value) (h : Heap) (K : Value → Heap → Prop) : Prop :=
  eop P (Instr.box 47 a0_1) h fun a2_1 h_1 =>
  pop P (Instr.fieldAt 47 a2_1 0) fun t5_1 =>
  rop P (Instr.loadAt 22 t5_1) h_1 fun t6_1 =>
  callM P 64 #[t6_1, left1_1] h_1 fun t8_1 h_2 =>
  pop P (binA .lss 3 t8_1 (Value.int IntKind.i64 0)) fun t10_1 =>
  condM t10_1
  (K (Value.int IntKind.i64 (-1)) h_2)
  (K t8_1 h_2)
theorem e30 (a0_1 : Value) (left1_1 : Value) (h : Heap) (K : Value → Heap → Prop) : wpA Try.prog 12 (anOf []) (bodyOf Try.f30) 1 (fun A h => resA Try.prog A h K [.tmp 4]) (fun _ _ _ => False) (fun A h => resA Try.prog A h K [.tmp 4]) (aargs [a0_1, left1_1] 0) h = t30 Try.prog a0_1 left1_1 h K := by kernel_rfl
theorem c30 (a0_1 : Value) (left1_1 : Value) (h : Heap) (K : Value → Heap → Prop) (H : t30 Try.prog a0_1 left1_1 h K) : callM Try.prog 30 #[a0_1, left1_1] h K :=
  callM_of_wpA mixed (fn := Try.f30) Try.func30 (c := bodyOf Try.f30) rfl (of_decide_eq_true (by kernel_rfl)) (anOf []) 10 12 (by kernel_rfl) rfl [.tmp 4] (by kernel_rfl) (args := [a0_1, left1_1]) (by rw [e30]; exact H)

/-! laws.toStacks -/
def t32 (P : Program) (a0_1 : Value) (h : Heap) (K : Value → Heap → Prop) : Prop :=
  eop P (Instr.box 47 a0_1) h fun a1_1 h_1 =>
  eop P (Instr.alloc 49 true (.tuple #[])) h_1 fun t2_1 h_2 =>
  eop P (Instr.alloc 49 true (.tuple #[])) h_2 fun out3_1 h_3 =>
  pop P (Instr.fieldAt 47 a1_1 0) fun t4_1 =>
  rop P (Instr.loadAt 22 t4_1) h_3 fun t5_1 =>
  callM P 68 #[t5_1] h_3 fun t6_1 h_4 =>
  pop P (Instr.fieldAt 49 out3_1 0) fun t7_1 =>
  uop P (Instr.storeAt 22 t7_1 t6_1) h_4 fun u_1 h_5 =>
  rop P (Instr.loadAt 49 out3_1) h_5 fun t8_1 =>
  uop P (Instr.storeAt 49 t2_1 t8_1) h_5 fun u_2 h_6 =>
  rop P (Instr.loadAt 49 t2_1) h_6 fun r_1 =>
  K r_1 h_6
theorem e32 (a0_1 : Value) (h : Heap) (K : Value → Heap → Prop) : wpA Try.prog 9 (anOf []) (bodyOf Try.f32) 1 (fun A h => resA Try.prog A h K [.cell 2 49]) (fun _ _ _ => False) (fun A h => resA Try.prog A h K [.cell 2 49]) (aargs [a0_1] 0) h = t32 Try.prog a0_1 h K := by kernel_rfl
theorem c32 (a0_1 : Value) (h : Heap) (K : Value → Heap → Prop) (H : t32 Try.prog a0_1 h K) : callM Try.prog 32 #[a0_1] h K :=
  callM_of_wpA mixed (fn := Try.f32) Try.func32 (c := bodyOf Try.f32) rfl (of_decide_eq_true (by kernel_rfl)) (anOf []) 8 9 (by kernel_rfl) rfl [.cell 2 49] (by kernel_rfl) (args := [a0_1]) (by rw [e32]; exact H)

/-! laws.eqStacks -/
def t34 (P : Program) (a0_1 : Value) (b1_1 : Value) (h : Heap) (K : Value → Heap → Prop) : Prop :=
  eop P (Instr.box 49 a0_1) h fun a2_1 h_1 =>
  eop P (Instr.box 49 b1_1) h_1 fun b3_1 h_2 =>
  pop P (Instr.fieldAt 49 a2_1 0) fun t5_1 =>
  rop P (Instr.loadAt 22 t5_1) h_2 fun t6_1 =>
  pop P (Instr.fieldAt 49 b3_1 0) fun t7_1 =>
  rop P (Instr.loadAt 22 t7_1) h_2 fun t8_1 =>
  callM P 21 #[t6_1, t8_1] h_2 fun t9_1 h_3 =>
  pop P (Op.unary .not t9_1) fun t10_1 =>
  condM t10_1
  (K (Value.bool false) h_3)
  (K (Value.bool true) h_3)
theorem e34 (a0_1 : Value) (b1_1 : Value) (h : Heap) (K : Value → Heap → Prop) : wpA Try.prog 11 (anOf []) (bodyOf Try.f34) 1 (fun A h => resA Try.prog A h K [.tmp 4]) (fun _ _ _ => False) (fun A h => resA Try.prog A h K [.tmp 4]) (aargs [a0_1, b1_1] 0) h = t34 Try.prog a0_1 b1_1 h K := by kernel_rfl
theorem c34 (a0_1 : Value) (b1_1 : Value) (h : Heap) (K : Value → Heap → Prop) (H : t34 Try.prog a0_1 b1_1 h K) : callM Try.prog 34 #[a0_1, b1_1] h K :=
  callM_of_wpA mixed (fn := Try.f34) Try.func34 (c := bodyOf Try.f34) rfl (of_decide_eq_true (by kernel_rfl)) (anOf []) 9 11 (by kernel_rfl) rfl [.tmp 4] (by kernel_rfl) (args := [a0_1, b1_1]) (by rw [e34]; exact H)

/-! laws.markStacks -/
def t35 (P : Program) (a0_1 : Value) (k1_1 : Value) (h : Heap) (K : Value → Heap → Prop) : Prop :=
  eop P (Instr.box 49 a0_1) h fun a2_1 h_1 =>
  pop P (Instr.fieldAt 49 a2_1 0) fun t5_1 =>
  rop P (Instr.loadAt 22 t5_1) h_1 fun t6_1 =>
  callM P 26 #[t6_1, k1_1] h_1 fun t8_1 h_2 =>
  K t8_1 h_2
theorem e35 (a0_1 : Value) (k1_1 : Value) (h : Heap) (K : Value → Heap → Prop) : wpA Try.prog 10 (anOf []) (bodyOf Try.f35) 1 (fun A h => resA Try.prog A h K [.tmp 4]) (fun _ _ _ => False) (fun A h => resA Try.prog A h K [.tmp 4]) (aargs [a0_1, k1_1] 0) h = t35 Try.prog a0_1 k1_1 h K := by kernel_rfl
theorem c35 (a0_1 : Value) (k1_1 : Value) (h : Heap) (K : Value → Heap → Prop) (H : t35 Try.prog a0_1 k1_1 h K) : callM Try.prog 35 #[a0_1, k1_1] h K :=
  callM_of_wpA mixed (fn := Try.f35) Try.func35 (c := bodyOf Try.f35) rfl (of_decide_eq_true (by kernel_rfl)) (anOf []) 8 10 (by kernel_rfl) rfl [.tmp 4] (by kernel_rfl) (args := [a0_1, k1_1]) (by rw [e35]; exact H)

/-! laws.heldStacks -/
def t36 (P : Program) (a0_1 : Value) (k1_1 : Value) (h : Heap) (K : Value → Heap → Prop) : Prop :=
  eop P (Instr.box 49 a0_1) h fun a2_1 h_1 =>
  pop P (Instr.fieldAt 49 a2_1 0) fun t5_1 =>
  rop P (Instr.loadAt 22 t5_1) h_1 fun t6_1 =>
  callM P 27 #[t6_1, k1_1] h_1 fun t8_1 h_2 =>
  pop P (binA .lss 3 t8_1 (Value.int IntKind.i64 0)) fun t10_1 =>
  condM t10_1
  (K (Value.int IntKind.i64 (-1)) h_2)
  (K t8_1 h_2)
theorem e36 (a0_1 : Value) (k1_1 : Value) (h : Heap) (K : Value → Heap → Prop) : wpA Try.prog 12 (anOf []) (bodyOf Try.f36) 1 (fun A h => resA Try.prog A h K [.tmp 4]) (fun _ _ _ => False) (fun A h => resA Try.prog A h K [.tmp 4]) (aargs [a0_1, k1_1] 0) h = t36 Try.prog a0_1 k1_1 h K := by kernel_rfl
theorem c36 (a0_1 : Value) (k1_1 : Value) (h : Heap) (K : Value → Heap → Prop) (H : t36 Try.prog a0_1 k1_1 h K) : callM Try.prog 36 #[a0_1, k1_1] h K :=
  callM_of_wpA mixed (fn := Try.f36) Try.func36 (c := bodyOf Try.f36) rfl (of_decide_eq_true (by kernel_rfl)) (anOf []) 10 12 (by kernel_rfl) rfl [.tmp 4] (by kernel_rfl) (args := [a0_1, k1_1]) (by rw [e36]; exact H)

/-! laws.toIntS -/
def t42 (P : Program) (a0_1 : Value) (h : Heap) (K : Value → Heap → Prop) : Prop :=
  pop P (lenS 25 3 a0_1) fun t6_1 =>
  eop P (Instr.makeSlice 25 t6_1 t6_1) h fun t7_1 h_1 =>
  ∃ (I_1 : List Value → Heap → Prop) (μ_1 : List Value → Heap → Nat), I_1 [(Value.int IntKind.i64 0)] h_1 ∧
  ∀ (junk_1 : Nat → Value) (i4_1 : Value) (h_2 : Heap), I_1 [i4_1] h_2 →
  pop P (lenS 25 3 a0_1) fun t10_1 =>
  pop P (binA .lss 3 i4_1 t10_1) fun t11_1 =>
  condM t11_1
  (pop P (Instr.indexAt 25 a0_1 i4_1) fun t18_1 =>
  rop P (Instr.loadAt 3 t18_1) h_2 fun t19_1 =>
  pop P (Instr.indexAt 25 t7_1 i4_1) fun t20_1 =>
  uop P (Instr.storeAt 3 t20_1 t19_1) h_2 fun u_1 h_3 =>
  pop P (binA .add 3 i4_1 (Value.int IntKind.i64 1)) fun t13_1 =>
  I_1 [t13_1] h_3 ∧ μ_1 [t13_1] h_3 < μ_1 [i4_1] h_2)
  (K t7_1 h_2)
theorem e42 (a0_1 : Value) (h : Heap) (K : Value → Heap → Prop) : wpA Try.prog 22 (anOf [(58, [4])]) (bodyOf Try.f42) 1 (fun A h => resA Try.prog A h K [.tmp 2]) (fun _ _ _ => False) (fun A h => resA Try.prog A h K [.tmp 2]) (aargs [a0_1] 0) h = t42 Try.prog a0_1 h K := by kernel_rfl
theorem c42 (a0_1 : Value) (h : Heap) (K : Value → Heap → Prop) (H : t42 Try.prog a0_1 h K) : callM Try.prog 42 #[a0_1] h K :=
  callM_of_wpA mixed (fn := Try.f42) Try.func42 (c := bodyOf Try.f42) rfl (of_decide_eq_true (by kernel_rfl)) (anOf [(58, [4])]) 21 22 (by kernel_rfl) rfl [.tmp 2] (by kernel_rfl) (args := [a0_1]) (by rw [e42]; exact H)

/-! laws.eqIntS -/
def t45 (P : Program) (a0_1 : Value) (b1_1 : Value) (h : Heap) (K : Value → Heap → Prop) : Prop :=
  pop P (lenS 25 3 a0_1) fun t7_1 =>
  pop P (lenS 25 3 b1_1) fun t9_1 =>
  pop P (binE .neq 3 (.tmp 7) (.tmp 9) t7_1 t9_1) fun t10_1 =>
  condM t10_1
  (K (Value.bool false) h)
  (∃ (I_1 : List Value → Heap → Prop) (μ_1 : List Value → Heap → Nat), I_1 [(Value.int IntKind.i64 0)] h ∧
  ∀ (junk_1 : Nat → Value) (i5_1 : Value) (h_1 : Heap), I_1 [i5_1] h_1 →
  pop P (lenS 25 3 a0_1) fun t13_1 =>
  pop P (binA .lss 3 i5_1 t13_1) fun t14_1 =>
  condM t14_1
  (pop P (Instr.indexAt 25 a0_1 i5_1) fun t19_1 =>
  rop P (Instr.loadAt 3 t19_1) h_1 fun t20_1 =>
  pop P (Instr.indexAt 25 b1_1 i5_1) fun t23_1 =>
  rop P (Instr.loadAt 3 t23_1) h_1 fun t24_1 =>
  pop P (binE .neq 3 (.tmp 20) (.tmp 24) t20_1 t24_1) fun t25_1 =>
  condM t25_1
  (K (Value.bool false) h_1)
  (pop P (binA .add 3 i5_1 (Value.int IntKind.i64 1)) fun t16_1 =>
  I_1 [t16_1] h_1 ∧ μ_1 [t16_1] h_1 < μ_1 [i5_1] h_1))
  (K (Value.bool true) h_1))
theorem e45 (a0_1 : Value) (b1_1 : Value) (h : Heap) (K : Value → Heap → Prop) : wpA Try.prog 26 (anOf [(58, [5])]) (bodyOf Try.f45) 1 (fun A h => resA Try.prog A h K [.tmp 4]) (fun _ _ _ => False) (fun A h => resA Try.prog A h K [.tmp 4]) (aargs [a0_1, b1_1] 0) h = t45 Try.prog a0_1 b1_1 h K := by kernel_rfl
theorem c45 (a0_1 : Value) (b1_1 : Value) (h : Heap) (K : Value → Heap → Prop) (H : t45 Try.prog a0_1 b1_1 h K) : callM Try.prog 45 #[a0_1, b1_1] h K :=
  callM_of_wpA mixed (fn := Try.f45) Try.func45 (c := bodyOf Try.f45) rfl (of_decide_eq_true (by kernel_rfl)) (anOf [(58, [5])]) 24 26 (by kernel_rfl) rfl [.tmp 4] (by kernel_rfl) (args := [a0_1, b1_1]) (by rw [e45]; exact H)

/-! laws.markIntS -/
def t49 (P : Program) (a0_1 : Value) (k1_1 : Value) (h : Heap) (K : Value → Heap → Prop) : Prop :=
  ∃ (I_1 : List Value → Heap → Prop) (μ_1 : List Value → Heap → Nat), I_1 [k1_1, (Value.int IntKind.i64 0)] h ∧
  ∀ (junk_1 : Nat → Value) (k1_2 : Value) (i5_1 : Value) (h_1 : Heap), I_1 [k1_2, i5_1] h_1 →
  pop P (lenS 25 3 a0_1) fun t8_1 =>
  pop P (binA .lss 3 i5_1 t8_1) fun t9_1 =>
  condM t9_1
  (pop P (Instr.indexAt 25 a0_1 i5_1) fun t15_1 =>
  uop P (Instr.storeAt 3 t15_1 k1_2) h_1 fun u_1 h_2 =>
  pop P (binA .add 3 k1_2 (Value.int IntKind.i64 1)) fun t17_1 =>
  pop P (binA .add 3 i5_1 (Value.int IntKind.i64 1)) fun t11_1 =>
  I_1 [t17_1, t11_1] h_2 ∧ μ_1 [t17_1, t11_1] h_2 < μ_1 [k1_2, i5_1] h_1)
  (K k1_2 h_1)
theorem e49 (a0_1 : Value) (k1_1 : Value) (h : Heap) (K : Value → Heap → Prop) : wpA Try.prog 19 (anOf [(26, [1, 5])]) (bodyOf Try.f49) 1 (fun A h => resA Try.prog A h K [.tmp 4]) (fun _ _ _ => False) (fun A h => resA Try.prog A h K [.tmp 4]) (aargs [a0_1, k1_1] 0) h = t49 Try.prog a0_1 k1_1 h K := by kernel_rfl
theorem c49 (a0_1 : Value) (k1_1 : Value) (h : Heap) (K : Value → Heap → Prop) (H : t49 Try.prog a0_1 k1_1 h K) : callM Try.prog 49 #[a0_1, k1_1] h K :=
  callM_of_wpA mixed (fn := Try.f49) Try.func49 (c := bodyOf Try.f49) rfl (of_decide_eq_true (by kernel_rfl)) (anOf [(26, [1, 5])]) 17 19 (by kernel_rfl) rfl [.tmp 4] (by kernel_rfl) (args := [a0_1, k1_1]) (by rw [e49]; exact H)

/-! laws.heldIntS -/
def t57 (P : Program) (a0_1 : Value) (k1_1 : Value) (h : Heap) (K : Value → Heap → Prop) : Prop :=
  ∃ (I_1 : List Value → Heap → Prop) (μ_1 : List Value → Heap → Nat), I_1 [k1_1, (Value.int IntKind.i64 0)] h ∧
  ∀ (junk_1 : Nat → Value) (k1_2 : Value) (i5_1 : Value) (h_1 : Heap), I_1 [k1_2, i5_1] h_1 →
  pop P (lenS 25 3 a0_1) fun t8_1 =>
  pop P (binA .lss 3 i5_1 t8_1) fun t9_1 =>
  condM t9_1
  (pop P (Instr.indexAt 25 a0_1 i5_1) fun t14_1 =>
  rop P (Instr.loadAt 3 t14_1) h_1 fun t15_1 =>
  pop P (binE .neq 3 (.tmp 15) (.tmp 16) t15_1 k1_2) fun t17_1 =>
  condM t17_1
  (K (Value.int IntKind.i64 (-1)) h_1)
  (pop P (binA .add 3 k1_2 (Value.int IntKind.i64 1)) fun t19_1 =>
  pop P (binA .add 3 i5_1 (Value.int IntKind.i64 1)) fun t11_1 =>
  I_1 [t19_1, t11_1] h_1 ∧ μ_1 [t19_1, t11_1] h_1 < μ_1 [k1_2, i5_1] h_1))
  (K k1_2 h_1)
theorem e57 (a0_1 : Value) (k1_1 : Value) (h : Heap) (K : Value → Heap → Prop) : wpA Try.prog 21 (anOf [(26, [1, 5])]) (bodyOf Try.f57) 1 (fun A h => resA Try.prog A h K [.tmp 4]) (fun _ _ _ => False) (fun A h => resA Try.prog A h K [.tmp 4]) (aargs [a0_1, k1_1] 0) h = t57 Try.prog a0_1 k1_1 h K := by kernel_rfl
theorem c57 (a0_1 : Value) (k1_1 : Value) (h : Heap) (K : Value → Heap → Prop) (H : t57 Try.prog a0_1 k1_1 h K) : callM Try.prog 57 #[a0_1, k1_1] h K :=
  callM_of_wpA mixed (fn := Try.f57) Try.func57 (c := bodyOf Try.f57) rfl (of_decide_eq_true (by kernel_rfl)) (anOf [(26, [1, 5])]) 19 21 (by kernel_rfl) rfl [.tmp 4] (by kernel_rfl) (args := [a0_1, k1_1]) (by rw [e57]; exact H)

/-! spec.PopAll -/
def t60 (P : Program) (g0_1 : Value) (sink1_1 : Value) (s2_1 : Value) (choices3_1 : Value) (h : Heap) (K : Value → Heap → Prop) : Prop :=
  eop P (Instr.box 32 g0_1) h fun g4_1 h_1 =>
  eop P (Instr.box 49 s2_1) h_1 fun s6_1 h_2 =>
  eop P (Instr.alloc 49 true (.tuple #[])) h_2 fun t8_1 h_3 =>
  rop P (Instr.loadAt 32 g4_1) h_3 fun t13_1 =>
  rop P (Instr.loadAt 49 s6_1) h_3 fun t15_1 =>
  callM P 80 #[t13_1, sink1_1, t15_1] h_3 fun t16_1 h_4 =>
  pop P (Op.unary .not t16_1) fun t17_1 =>
  guardM t17_1 false (fun k_1 => k_1 choices3_1 h_4) h_4 fun t19_1 h_5 =>
  guardM t17_1 false (fun k_2 => pop P (lenS 25 3 t19_1) fun t20_1 =>
  k_2 t20_1 h_5) h_5 fun t20_2 h_6 =>
  guardM t17_1 false (fun k_3 => pop P (binA .gtr 3 t20_2 (Value.int IntKind.i64 100)) fun t21_1 =>
  k_3 t21_1 h_6) h_6 fun t21_2 h_7 =>
  pop P (pickS t17_1 (Value.bool true) t21_2) fun t22_1 =>
  guardM t22_1 false (fun k_4 => k_4 choices3_1 h_7) h_7 fun t24_1 h_8 =>
  guardM t22_1 false (fun k_5 => callM P 97 #[t24_1, (Value.int IntKind.i64 0), (Value.int IntKind.i64 9223372036854775807)] h_8 fun t25_1 h_9 =>
  k_5 t25_1 h_9) h_8 fun t25_2 h_10 =>
  guardM t22_1 false (fun k_6 => pop P (Op.unary .not t25_2) fun t26_1 =>
  k_6 t26_1 h_10) h_10 fun t26_2 h_11 =>
  pop P (pickS t22_1 (Value.bool true) t26_2) fun t27_1 =>
  condM t27_1
  (pop P (Instr.build 49 #[]) fun t28_1 =>
  uop P (Instr.storeAt 49 t8_1 t28_1) h_11 fun u_1 h_12 =>
  rop P (Instr.loadAt 49 t8_1) h_12 fun r_1 =>
  K (.tuple #[r_1, (Value.bool false)]) h_12)
  (rop P (Instr.loadAt 32 g4_1) h_11 fun t30_1 =>
  rop P (Instr.loadAt 49 s6_1) h_11 fun t32_1 =>
  callM P 89 #[t30_1, sink1_1, t32_1, choices3_1] h_11 fun t34_1 h_13 =>
  pop P (Instr.extract t34_1 0) fun t35_1 =>
  pop P (Instr.extract t34_1 1) fun t36_1 =>
  pop P (Instr.extract t34_1 2) fun t37_1 =>
  eop P (Instr.alloc 49 true (.tuple #[])) h_13 fun out10_1 h_14 =>
  uop P (Instr.storeAt 49 out10_1 t35_1) h_14 fun u_2 h_15 =>
  pop P (Op.unary .not t37_1) fun t39_1 =>
  condM t39_1
  (pop P (Instr.build 49 #[]) fun t40_1 =>
  uop P (Instr.storeAt 49 t8_1 t40_1) h_15 fun u_3 h_16 =>
  rop P (Instr.loadAt 49 t8_1) h_16 fun r_2 =>
  K (.tuple #[r_2, (Value.bool false)]) h_16)
  (rop P (Instr.loadAt 49 out10_1) h_15 fun t41_1 =>
  callM P 83 #[t41_1, (Value.slice none 0 0)] h_15 fun t42_1 h_17 =>
  uop P (Instr.storeAt 49 t8_1 t42_1) h_17 fun u_4 h_18 =>
  rop P (Instr.loadAt 49 t8_1) h_18 fun r_3 =>
  K (.tuple #[r_3, (Value.bool true)]) h_18))
theorem e60 (g0_1 : Value) (sink1_1 : Value) (s2_1 : Value) (choices3_1 : Value) (h : Heap) (K : Value → Heap → Prop) : wpA Try.prog 43 (anOf []) (bodyOf Try.f60) 1 (fun A h => resA Try.prog A h K [.cell 8 49, .tmp 9]) (fun _ _ _ => False) (fun A h => resA Try.prog A h K [.cell 8 49, .tmp 9]) (aargs [g0_1, sink1_1, s2_1, choices3_1] 0) h = t60 Try.prog g0_1 sink1_1 s2_1 choices3_1 h K := by kernel_rfl
theorem c60 (g0_1 : Value) (sink1_1 : Value) (s2_1 : Value) (choices3_1 : Value) (h : Heap) (K : Value → Heap → Prop) (H : t60 Try.prog g0_1 sink1_1 s2_1 choices3_1 h K) : callM Try.prog 60 #[g0_1, sink1_1, s2_1, choices3_1] h K :=
  callM_of_wpA mixed (fn := Try.f60) Try.func60 (c := bodyOf Try.f60) rfl (of_decide_eq_true (by kernel_rfl)) (anOf []) 39 43 (by kernel_rfl) rfl [.cell 8 49, .tmp 9] (by kernel_rfl) (args := [g0_1, sink1_1, s2_1, choices3_1]) (by rw [e60]; exact H)

/-! impl.PopAll -/
def t61 (P : Program) (g0_1 : Value) (sink1_1 : Value) (s2_1 : Value) (choices3_1 : Value) (h : Heap) (K : Value → Heap → Prop) : Prop :=
  eop P (Instr.box 32 g0_1) h fun g4_1 h_1 =>
  eop P (Instr.box 49 s2_1) h_1 fun s6_1 h_2 =>
  eop P (Instr.alloc 49 true (.tuple #[])) h_2 fun t8_1 h_3 =>
  rop P (Instr.loadAt 32 g4_1) h_3 fun t14_1 =>
  rop P (Instr.loadAt 49 s6_1) h_3 fun t16_1 =>
  callM P 90 #[t14_1, sink1_1, t16_1, choices3_1] h_3 fun t18_1 h_4 =>
  pop P (Instr.extract t18_1 0) fun t19_1 =>
  pop P (Instr.extract t18_1 1) fun t20_1 =>
  pop P (Instr.extract t18_1 2) fun t21_1 =>
  eop P (Instr.alloc 49 true (.tuple #[])) h_4 fun out10_1 h_5 =>
  uop P (Instr.storeAt 49 out10_1 t19_1) h_5 fun u_1 h_6 =>
  rop P (Instr.loadAt 49 out10_1) h_6 fun t22_1 =>
  uop P (Instr.storeAt 49 t8_1 t22_1) h_6 fun u_2 h_7 =>
  rop P (Instr.loadAt 49 t8_1) h_7 fun r_1 =>
  K (.tuple #[r_1, t21_1]) h_7
theorem e61 (g0_1 : Value) (sink1_1 : Value) (s2_1 : Value) (choices3_1 : Value) (h : Heap) (K : Value → Heap → Prop) : wpA Try.prog 24 (anOf []) (bodyOf Try.f61) 1 (fun A h => resA Try.prog A h K [.cell 8 49, .tmp 9]) (fun _ _ _ => False) (fun A h => resA Try.prog A h K [.cell 8 49, .tmp 9]) (aargs [g0_1, sink1_1, s2_1, choices3_1] 0) h = t61 Try.prog g0_1 sink1_1 s2_1 choices3_1 h K := by kernel_rfl
theorem c61 (g0_1 : Value) (sink1_1 : Value) (s2_1 : Value) (choices3_1 : Value) (h : Heap) (K : Value → Heap → Prop) (H : t61 Try.prog g0_1 sink1_1 s2_1 choices3_1 h K) : callM Try.prog 61 #[g0_1, sink1_1, s2_1, choices3_1] h K :=
  callM_of_wpA mixed (fn := Try.f61) Try.func61 (c := bodyOf Try.f61) rfl (of_decide_eq_true (by kernel_rfl)) (anOf []) 20 24 (by kernel_rfl) rfl [.cell 8 49, .tmp 9] (by kernel_rfl) (args := [g0_1, sink1_1, s2_1, choices3_1]) (by rw [e61]; exact H)

/-! laws.szIntSS -/
def t64 (P : Program) (a0_1 : Value) (left1_1 : Value) (h : Heap) (K : Value → Heap → Prop) : Prop :=
  pop P (lenS 22 3 a0_1) fun t8_1 =>
  pop P (binA .sub 3 left1_1 t8_1) fun t9_1 =>
  pop P (binA .lss 3 t9_1 (Value.int IntKind.i64 0)) fun t11_1 =>
  condM t11_1
  (K (Value.int IntKind.i64 (-1)) h)
  (∃ (I_1 : List Value → Heap → Prop) (μ_1 : List Value → Heap → Nat), I_1 [t9_1, (Value.int IntKind.i64 0)] h ∧
  ∀ (junk_1 : Nat → Value) (left1_2 : Value) (i5_1 : Value) (h_1 : Heap), I_1 [left1_2, i5_1] h_1 →
  pop P (lenS 22 3 a0_1) fun t14_1 =>
  pop P (binA .lss 3 i5_1 t14_1) fun t15_1 =>
  condM t15_1
  (pop P (Instr.indexAt 22 a0_1 i5_1) fun t20_1 =>
  rop P (Instr.loadAt 25 t20_1) h_1 fun t21_1 =>
  callM P 65 #[t21_1, left1_2] h_1 fun t23_1 h_2 =>
  pop P (binA .lss 3 t23_1 (Value.int IntKind.i64 0)) fun t25_1 =>
  condM t25_1
  (K (Value.int IntKind.i64 (-1)) h_2)
  (pop P (binA .add 3 i5_1 (Value.int IntKind.i64 1)) fun t17_1 =>
  I_1 [t23_1, t17_1] h_2 ∧ μ_1 [t23_1, t17_1] h_2 < μ_1 [left1_2, i5_1] h_1))
  (K left1_2 h_1))
theorem e64 (a0_1 : Value) (left1_1 : Value) (h : Heap) (K : Value → Heap → Prop) : wpA Try.prog 27 (anOf [(122, [1, 5])]) (bodyOf Try.f64) 1 (fun A h => resA Try.prog A h K [.tmp 4]) (fun _ _ _ => False) (fun A h => resA Try.prog A h K [.tmp 4]) (aargs [a0_1, left1_1] 0) h = t64 Try.prog a0_1 left1_1 h K := by kernel_rfl
theorem c64 (a0_1 : Value) (left1_1 : Value) (h : Heap) (K : Value → Heap → Prop) (H : t64 Try.prog a0_1 left1_1 h K) : callM Try.prog 64 #[a0_1, left1_1] h K :=
  callM_of_wpA mixed (fn := Try.f64) Try.func64 (c := bodyOf Try.f64) rfl (of_decide_eq_true (by kernel_rfl)) (anOf [(122, [1, 5])]) 25 27 (by kernel_rfl) rfl [.tmp 4] (by kernel_rfl) (args := [a0_1, left1_1]) (by rw [e64]; exact H)

/-! laws.szIntS -/
def t65 (P : Program) (a0_1 : Value) (left1_1 : Value) (h : Heap) (K : Value → Heap → Prop) : Prop :=
  pop P (lenS 25 3 a0_1) fun t7_1 =>
  pop P (binA .sub 3 left1_1 t7_1) fun t8_1 =>
  pop P (binA .lss 3 t8_1 (Value.int IntKind.i64 0)) fun t10_1 =>
  condM t10_1
  (K (Value.int IntKind.i64 (-1)) h)
  (K t8_1 h)
theorem e65 (a0_1 : Value) (left1_1 : Value) (h : Heap) (K : Value → Heap → Prop) : wpA Try.prog 12 (anOf []) (bodyOf Try.f65) 1 (fun A h => resA Try.prog A h K [.tmp 4]) (fun _ _ _ => False) (fun A h => resA Try.prog A h K [.tmp 4]) (aargs [a0_1, left1_1] 0) h = t65 Try.prog a0_1 left1_1 h K := by kernel_rfl
theorem c65 (a0_1 : Value) (left1_1 : Value) (h : Heap) (K : Value → Heap → Prop) (H : t65 Try.prog a0_1 left1_1 h K) : callM Try.prog 65 #[a0_1, left1_1] h K :=
  callM_of_wpA mixed (fn := Try.f65) Try.func65 (c := bodyOf Try.f65) rfl (of_decide_eq_true (by kernel_rfl)) (anOf []) 10 12 (by kernel_rfl) rfl [.tmp 4] (by kernel_rfl) (args := [a0_1, left1_1]) (by rw [e65]; exact H)

/-! laws.toIntSS -/
def t68 (P : Program) (a0_1 : Value) (h : Heap) (K : Value → Heap → Prop) : Prop :=
  pop P (lenS 22 3 a0_1) fun t6_1 =>
  eop P (Instr.makeSlice 22 t6_1 t6_1) h fun t7_1 h_1 =>
  ∃ (I_1 : List Value → Heap → Prop) (μ_1 : List Value → Heap → Nat), I_1 [(Value.int IntKind.i64 0)] h_1 ∧
  ∀ (junk_1 : Nat → Value) (i4_1 : Value) (h_2 : Heap), I_1 [i4_1] h_2 →
  pop P (lenS 22 3 a0_1) fun t10_1 =>
  pop P (binA .lss 3 i4_1 t10_1) fun t11_1 =>
  condM t11_1
  (pop P (Instr.indexAt 22 a0_1 i4_1) fun t18_1 =>
  rop P (Instr.loadAt 25 t18_1) h_2 fun t19_1 =>
  callM P 42 #[t19_1] h_2 fun t20_1 h_3 =>
  pop P (Instr.indexAt 22 t7_1 i4_1) fun t21_1 =>
  uop P (Instr.storeAt 25 t21_1 t20_1) h_3 fun u_1 h_4 =>
  pop P (binA .add 3 i4_1 (Value.int IntKind.i64 1)) fun t13_1 =>
  I_1 [t13_1] h_4 ∧ μ_1 [t13_1] h_4 < μ_1 [i4_1] h_2)
  (K t7_1 h_2)
theorem e68 (a0_1 : Value) (h : Heap) (K : Value → Heap → Prop) : wpA Try.prog 23 (anOf [(58, [4])]) (bodyOf Try.f68) 1 (fun A h => resA Try.prog A h K [.tmp 2]) (fun _ _ _ => False) (fun A h => resA Try.prog A h K [.tmp 2]) (aargs [a0_1] 0) h = t68 Try.prog a0_1 h K := by kernel_rfl
theorem c68 (a0_1 : Value) (h : Heap) (K : Value → Heap → Prop) (H : t68 Try.prog a0_1 h K) : callM Try.prog 68 #[a0_1] h K :=
  callM_of_wpA mixed (fn := Try.f68) Try.func68 (c := bodyOf Try.f68) rfl (of_decide_eq_true (by kernel_rfl)) (anOf [(58, [4])]) 22 23 (by kernel_rfl) rfl [.tmp 2] (by kernel_rfl) (args := [a0_1]) (by rw [e68]; exact H)

/-! spec.skGood -/
def t80 (P : Program) (g0_1 : Value) (sink1_1 : Value) (s2_1 : Value) (h : Heap) (K : Value → Heap → Prop) : Prop :=
  eop P (Instr.box 32 g0_1) h fun g3_1 h_1 =>
  eop P (Instr.box 49 s2_1) h_1 fun s5_1 h_2 =>
  rop P (Instr.loadAt 32 g3_1) h_2 fun t9_1 =>
  callM P 81 #[t9_1, sink1_1] h_2 fun t11_1 h_3 =>
  pop P (Op.unary .not t11_1) fun t12_1 =>
  guardM t12_1 false (fun k_1 => pop P (Instr.fieldAt 49 s5_1 0) fun t14_1 =>
  k_1 t14_1 h_3) h_3 fun t14_2 h_4 =>
  guardM t12_1 false (fun k_2 => rop P (Instr.loadAt 22 t14_2) h_4 fun t15_1 =>
  k_2 t15_1 h_4) h_4 fun t15_2 h_5 =>
  guardM t12_1 false (fun k_3 => pop P (lenS 22 3 t15_2) fun t16_1 =>
  k_3 t16_1 h_5) h_5 fun t16_2 h_6 =>
  guardM t12_1 false (fun k_4 => pop P (Instr.fieldAt 32 g3_1 0) fun t17_1 =>
  k_4 t17_1 h_6) h_6 fun t17_2 h_7 =>
  guardM t12_1 false (fun k_5 => rop P (Instr.loadAt 22 t17_2) h_7 fun t18_1 =>
  k_5 t18_1 h_7) h_7 fun t18_2 h_8 =>
  guardM t12_1 false (fun k_6 => pop P (lenS 22 3 t18_2) fun t19_1 =>
  k_6 t19_1 h_8) h_8 fun t19_2 h_9 =>
  guardM t12_1 false (fun k_7 => pop P (binE .neq 3 (.tmp 16) (.tmp 19) t16_2 t19_2) fun t20_1 =>
  k_7 t20_1 h_9) h_9 fun t20_2 h_10 =>
  pop P (pickS t12_1 (Value.bool true) t20_2) fun t21_1 =>
  guardM t21_1 false (fun k_8 => pop P (Instr.fieldAt 49 s5_1 0) fun t23_1 =>
  k_8 t23_1 h_10) h_10 fun t23_2 h_11 =>
  guardM t21_1 false (fun k_9 => rop P (Instr.loadAt 22 t23_2) h_11 fun t24_1 =>
  k_9 t24_1 h_11) h_11 fun t24_2 h_12 =>
  guardM t21_1 false (fun k_10 => k_10 sink1_1 h_12) h_12 fun t25_1 h_13 =>
  guardM t21_1 false (fun k_11 => pop P (Instr.indexAt 22 t24_2 t25_1) fun t26_1 =>
  k_11 t26_1 h_13) h_13 fun t26_2 h_14 =>
  guardM t21_1 false (fun k_12 => rop P (Instr.loadAt 25 t26_2) h_14 fun t27_1 =>
  k_12 t27_1 h_14) h_14 fun t27_2 h_15 =>
  guardM t21_1 false (fun k_13 => pop P (lenS 25 3 t27_2) fun t28_1 =>
  k_13 t28_1 h_15) h_15 fun t28_2 h_16 =>
  guardM t21_1 false (fun k_14 => pop P (binA .gtr 3 t28_2 (Value.int IntKind.i64 0)) fun t29_1 =>
  k_14 t29_1 h_16) h_16 fun t29_2 h_17 =>
  pop P (pickS t21_1 (Value.bool true) t29_2) fun t30_1 =>
  condM t30_1
  (K (Value.bool false) h_17)
  (pop P (Instr.fieldAt 49 s5_1 0) fun t31_1 =>
  rop P (Instr.loadAt 22 t31_1) h_17 fun t32_1 =>
  pop P (lenS 22 3 t32_1) fun t33_1 =>
  ∃ (I_1 : List Value → Heap → Prop) (μ_1 : List Value → Heap → Nat), I_1 [(Value.int IntKind.i64 0)] h_17 ∧
  ∀ (junk_1 : Nat → Value) (t34_1 : Value) (h_18 : Heap), I_1 [t34_1] h_18 →
  pop P (binA .lss 3 t34_1 t33_1) fun t35_1 =>
  condM t35_1
  (pop P (Instr.indexAt 22 t32_1 t34_1) fun t37_1 =>
  rop P (Instr.loadAt 25 t37_1) h_18 fun t38_1 =>
  pop P (lenS 25 3 t38_1) fun t40_1 =>
  pop P (binA .gtr 3 t40_1 (Value.int IntKind.i64 12)) fun t41_1 =>
  guardM t41_1 false (fun k_15 => k_15 t38_1 h_18) h_18 fun t43_1 h_19 =>
  guardM t41_1 false (fun k_16 => pop P (Instr.fieldAt 32 g3_1 0) fun t44_1 =>
  k_16 t44_1 h_19) h_19 fun t44_2 h_20 =>
  guardM t41_1 false (fun k_17 => rop P (Instr.loadAt 22 t44_2) h_20 fun t45_1 =>
  k_17 t45_1 h_20) h_20 fun t45_2 h_21 =>
  guardM t41_1 false (fun k_18 => k_18 t34_1 h_21) h_21 fun t46_1 h_22 =>
  guardM t41_1 false (fun k_19 => pop P (Instr.indexAt 22 t45_2 t46_1) fun t47_1 =>
  k_19 t47_1 h_22) h_22 fun t47_2 h_23 =>
  guardM t41_1 false (fun k_20 => rop P (Instr.loadAt 25 t47_2) h_23 fun t48_1 =>
  k_20 t48_1 h_23) h_23 fun t48_2 h_24 =>
  guardM t41_1 false (fun k_21 => pop P (lenS 25 3 t48_2) fun t49_1 =>
  k_21 t49_1 h_24) h_24 fun t49_2 h_25 =>
  guardM t41_1 false (fun k_22 => pop P (binA .sub 3 t49_2 (Value.int IntKind.i64 1)) fun t50_1 =>
  k_22 t50_1 h_25) h_25 fun t50_2 h_26 =>
  guardM t41_1 false (fun k_23 => callM P 97 #[t43_1, (Value.int IntKind.i64 0), t50_2] h_26 fun t51_1 h_27 =>
  k_23 t51_1 h_27) h_26 fun t51_2 h_28 =>
  guardM t41_1 false (fun k_24 => pop P (Op.unary .not t51_2) fun t52_1 =>
  k_24 t52_1 h_28) h_28 fun t52_2 h_29 =>
  pop P (pickS t41_1 (Value.bool true) t52_2) fun t53_1 =>
  condM t53_1
  (K (Value.bool false) h_29)
  (pop P (binA .add 3 t34_1 (Value.int IntKind.i64 1)) fun t54_1 =>
  I_1 [t54_1] h_29 ∧ μ_1 [t54_1] h_29 < μ_1 [t34_1] h_18))
  (K (Value.bool true) h_18))
theorem e80 (g0_1 : Value) (sink1_1 : Value) (s2_1 : Value) (h : Heap) (K : Value → Heap → Prop) : wpA Try.prog 55 (anOf [(58, [34])]) (bodyOf Try.f80) 1 (fun A h => resA Try.prog A h K [.tmp 6]) (fun _ _ _ => False) (fun A h => resA Try.prog A h K [.tmp 6]) (aargs [g0_1, sink1_1, s2_1] 0) h = t80 Try.prog g0_1 sink1_1 s2_1 h K := by kernel_rfl
theorem c80 (g0_1 : Value) (sink1_1 : Value) (s2_1 : Value) (h : Heap) (K : Value → Heap → Prop) (H : t80 Try.prog g0_1 sink1_1 s2_1 h K) : callM Try.prog 80 #[g0_1, sink1_1, s2_1] h K :=
  callM_of_wpA mixed (fn := Try.f80) Try.func80 (c := bodyOf Try.f80) rfl (of_decide_eq_true (by kernel_rfl)) (anOf [(58, [34])]) 52 55 (by kernel_rfl) rfl [.tmp 6] (by kernel_rfl) (args := [g0_1, sink1_1, s2_1]) (by rw [e80]; exact H)

/-! spec.grPlace -/
def t81 (P : Program) (g0_1 : Value) (p1_1 : Value) (h : Heap) (K : Value → Heap → Prop) : Prop :=
  eop P (Instr.box 32 g0_1) h fun g2_1 h_1 =>
  rop P (Instr.loadAt 32 g2_1) h_1 fun t5_1 =>
  callM P 119 #[t5_1] h_1 fun t6_1 h_2 =>
  guardM t6_1 true (fun k_1 => k_1 p1_1 h_2) h_2 fun t8_1 h_3 =>
  guardM t6_1 true (fun k_2 => pop P (Instr.fieldAt 32 g2_1 0) fun t9_1 =>
  k_2 t9_1 h_3) h_3 fun t9_2 h_4 =>
  guardM t6_1 true (fun k_3 => rop P (Instr.loadAt 22 t9_2) h_4 fun t10_1 =>
  k_3 t10_1 h_4) h_4 fun t10_2 h_5 =>
  guardM t6_1 true (fun k_4 => pop P (lenS 22 3 t10_2) fun t11_1 =>
  k_4 t11_1 h_5) h_5 fun t11_2 h_6 =>
  guardM t6_1 true (fun k_5 => pop P (binA .sub 3 t11_2 (Value.int IntKind.i64 1)) fun t12_1 =>
  k_5 t12_1 h_6) h_6 fun t12_2 h_7 =>
  guardM t6_1 true (fun k_6 => callM P 109 #[t8_1, (Value.int IntKind.i64 0), t12_2] h_7 fun t13_1 h_8 =>
  k_6 t13_1 h_8) h_7 fun t13_2 h_9 =>
  pop P (pickS t6_1 t13_2 (Value.bool false)) fun t14_1 =>
  K t14_1 h_9
theorem e81 (g0_1 : Value) (p1_1 : Value) (h : Heap) (K : Value → Heap → Prop) : wpA Try.prog 15 (anOf []) (bodyOf Try.f81) 1 (fun A h => resA Try.prog A h K [.tmp 4]) (fun _ _ _ => False) (fun A h => resA Try.prog A h K [.tmp 4]) (aargs [g0_1, p1_1] 0) h = t81 Try.prog g0_1 p1_1 h K := by kernel_rfl
theorem c81 (g0_1 : Value) (p1_1 : Value) (h : Heap) (K : Value → Heap → Prop) (H : t81 Try.prog g0_1 p1_1 h K) : callM Try.prog 81 #[g0_1, p1_1] h K :=
  callM_of_wpA mixed (fn := Try.f81) Try.func81 (c := bodyOf Try.f81) rfl (of_decide_eq_true (by kernel_rfl)) (anOf []) 13 15 (by kernel_rfl) rfl [.tmp 4] (by kernel_rfl) (args := [g0_1, p1_1]) (by rw [e81]; exact H)

/-! spec.skCycle -/
def t82 (P : Program) (g0_1 : Value) (s1_1 : Value) (p2_1 : Value) (h : Heap) (K : Value → Heap → Prop) : Prop :=
  eop P (Instr.box 32 g0_1) h fun g3_1 h_1 =>
  eop P (Instr.box 49 s1_1) h_1 fun s4_1 h_2 =>
  eop P (Instr.buildSlice 25 1 #[(0, p2_1)]) h_2 fun t14_1 h_3 =>
  rop P (Instr.loadAt 32 g3_1) h_3 fun t15_1 =>
  rop P (Instr.loadAt 49 s4_1) h_3 fun t16_1 =>
  callM P 120 #[t15_1, t16_1, p2_1] h_3 fun t18_1 h_4 =>
  ∃ (I_1 : List Value → Heap → Prop) (μ_1 : List Value → Heap → Nat), I_1 [t14_1, t18_1, (Value.int IntKind.i64 0)] h_4 ∧
  ∀ (junk_1 : Nat → Value) (out7_1 : Value) (q8_1 : Value) (n9_1 : Value) (h_5 : Heap), I_1 [out7_1, q8_1, n9_1] h_5 →
  pop P (Instr.fieldAt 32 g3_1 0) fun t20_1 =>
  rop P (Instr.loadAt 22 t20_1) h_5 fun t21_1 =>
  pop P (lenS 22 3 t21_1) fun t22_1 =>
  pop P (binA .lss 3 n9_1 t22_1) fun t23_1 =>
  guardM t23_1 true (fun k_1 => k_1 q8_1 h_5) h_5 fun t25_1 h_6 =>
  guardM t23_1 true (fun k_2 => pop P (binA .geq 3 t25_1 (Value.int IntKind.i64 0)) fun t26_1 =>
  k_2 t26_1 h_6) h_6 fun t26_2 h_7 =>
  pop P (pickS t23_1 t26_2 (Value.bool false)) fun t27_1 =>
  guardM t27_1 true (fun k_3 => k_3 q8_1 h_7) h_7 fun t29_1 h_8 =>
  guardM t27_1 true (fun k_4 => k_4 p2_1 h_8) h_8 fun t30_1 h_9 =>
  guardM t27_1 true (fun k_5 => pop P (binE .neq 3 (.tmp 29) (.tmp 30) t29_1 t30_1) fun t31_1 =>
  k_5 t31_1 h_9) h_9 fun t31_2 h_10 =>
  pop P (pickS t27_1 t31_2 (Value.bool false)) fun t32_1 =>
  condM t32_1
  (eop P (Instr.buildSlice 25 1 #[(0, q8_1)]) h_10 fun t37_1 h_11 =>
  eop P (appS 25 25 25 out7_1 t37_1) h_11 fun t38_1 h_12 =>
  rop P (Instr.loadAt 32 g3_1) h_12 fun t39_1 =>
  rop P (Instr.loadAt 49 s4_1) h_12 fun t40_1 =>
  callM P 120 #[t39_1, t40_1, q8_1] h_12 fun t42_1 h_13 =>
  pop P (binA .add 3 n9_1 (Value.int IntKind.i64 1)) fun t34_1 =>
  I_1 [t38_1, t42_1, t34_1] h_13 ∧ μ_1 [t38_1, t42_1, t34_1] h_13 < μ_1 [out7_1, q8_1, n9_1] h_5)
  (pop P (binE .neq 3 (.tmp 43) (.tmp 44) q8_1 p2_1) fun t45_1 =>
  condM t45_1
  (K (Value.slice none 0 0) h_10)
  (pop P (lenS 25 3 out7_1) fun t47_1 =>
  ∃ (I_2 : List Value → Heap → Prop) (μ_2 : List Value → Heap → Nat), I_2 [(Value.int IntKind.i64 0), (Value.int IntKind.i64 0)] h_10 ∧
  ∀ (junk_2 : Nat → Value) (least10_1 : Value) (t48_1 : Value) (h_14 : Heap), I_2 [least10_1, t48_1] h_14 →
  pop P (binA .lss 3 t48_1 t47_1) fun t49_1 =>
  condM t49_1
  (pop P (Instr.indexAt 25 out7_1 t48_1) fun t51_1 =>
  rop P (Instr.loadAt 3 t51_1) h_14 fun t52_1 =>
  pop P (Instr.indexAt 25 out7_1 least10_1) fun t56_1 =>
  rop P (Instr.loadAt 3 t56_1) h_14 fun t57_1 =>
  pop P (binA .lss 3 t52_1 t57_1) fun t58_1 =>
  condM t58_1
  (pop P (binA .add 3 t48_1 (Value.int IntKind.i64 1)) fun t60_1 =>
  I_2 [t48_1, t60_1] h_14 ∧ μ_2 [t48_1, t60_1] h_14 < μ_2 [least10_1, t48_1] h_14)
  (pop P (binA .add 3 t48_1 (Value.int IntKind.i64 1)) fun t60_2 =>
  I_2 [least10_1, t60_2] h_14 ∧ μ_2 [least10_1, t60_2] h_14 < μ_2 [least10_1, t48_1] h_14))
  (pop P (Instr.sliceAt 25 out7_1 (some least10_1) none none) fun t63_1 =>
  pop P (Instr.sliceAt 25 out7_1 none (some least10_1) none) fun t67_1 =>
  callM P 116 #[t63_1] h_14 fun t64_1 h_15 =>
  eop P (appS 25 25 25 t64_1 t67_1) h_15 fun t68_1 h_16 =>
  K t68_1 h_16)))
theorem e82 (g0_1 : Value) (s1_1 : Value) (p2_1 : Value) (h : Heap) (K : Value → Heap → Prop) : wpA Try.prog 69 (anOf [(122, [7, 8, 9]), (1018, [10, 48])]) (bodyOf Try.f82) 1 (fun A h => resA Try.prog A h K [.tmp 6]) (fun _ _ _ => False) (fun A h => resA Try.prog A h K [.tmp 6]) (aargs [g0_1, s1_1, p2_1] 0) h = t82 Try.prog g0_1 s1_1 p2_1 h K := by kernel_rfl
theorem c82 (g0_1 : Value) (s1_1 : Value) (p2_1 : Value) (h : Heap) (K : Value → Heap → Prop) (H : t82 Try.prog g0_1 s1_1 p2_1 h K) : callM Try.prog 82 #[g0_1, s1_1, p2_1] h K :=
  callM_of_wpA mixed (fn := Try.f82) Try.func82 (c := bodyOf Try.f82) rfl (of_decide_eq_true (by kernel_rfl)) (anOf [(122, [7, 8, 9]), (1018, [10, 48])]) 66 69 (by kernel_rfl) rfl [.tmp 6] (by kernel_rfl) (args := [g0_1, s1_1, p2_1]) (by rw [e82]; exact H)

/-! spec.skPop -/
def t83 (P : Program) (s0_1 : Value) (cycle1_1 : Value) (h : Heap) (K : Value → Heap → Prop) : Prop :=
  eop P (Instr.box 49 s0_1) h fun s2_1 h_1 =>
  eop P (Instr.alloc 49 true (.tuple #[])) h_1 fun t4_1 h_2 =>
  pop P (Instr.build 49 #[]) fun t8_1 =>
  eop P (Instr.alloc 49 true (.tuple #[])) h_2 fun out5_1 h_3 =>
  uop P (Instr.storeAt 49 out5_1 t8_1) h_3 fun u_1 h_4 =>
  pop P (Instr.fieldAt 49 s2_1 0) fun t9_1 =>
  rop P (Instr.loadAt 22 t9_1) h_4 fun t10_1 =>
  pop P (lenS 22 3 t10_1) fun t11_1 =>
  ∃ (I_1 : List Value → Heap → Prop) (μ_1 : List Value → Heap → Nat), I_1 [(Value.int IntKind.i64 0)] h_4 ∧
  ∀ (junk_1 : Nat → Value) (t12_1 : Value) (h_5 : Heap), I_1 [t12_1] h_5 →
  pop P (binA .lss 3 t12_1 t11_1) fun t13_1 =>
  condM t13_1
  (pop P (Instr.indexAt 22 t10_1 t12_1) fun t15_1 =>
  rop P (Instr.loadAt 25 t15_1) h_5 fun t16_1 =>
  ∃ J_1 : List Value → Heap → Prop, (callM P 115 #[cycle1_1, t12_1] h_5 fun t19_1 h_6 =>
  condM t19_1
  (pop P (Instr.sliceAt 25 t16_1 (some (Value.int IntKind.i64 1)) none none) fun t21_1 =>
  J_1 [t21_1] h_6)
  (J_1 [t16_1] h_6)) ∧
  ∀ (junk_2 : Nat → Value) (list7_1 : Value) (h_7 : Heap), J_1 [list7_1] h_7 →
  pop P (Instr.fieldAt 49 out5_1 0) fun t22_1 =>
  rop P (Instr.loadAt 22 t22_1) h_7 fun t23_1 =>
  callM P 116 #[list7_1] h_7 fun t25_1 h_8 =>
  (∀ w : World, w.heap = h_8 → (Instr.loadAt 22 t22_1).run P w = .ok t23_1 w) ∧
  eop P (Instr.buildSlice 22 1 #[(0, t25_1)]) h_8 fun t26_1 h_9 =>
  (∀ w : World, w.heap = h_9 → (Instr.loadAt 22 t22_1).run P w = .ok t23_1 w) ∧
  eop P (appS 22 22 22 t23_1 t26_1) h_9 fun t27_1 h_10 =>
  pop P (Instr.fieldAt 49 out5_1 0) fun t28_1 =>
  uop P (Instr.storeAt 22 t28_1 t27_1) h_10 fun u_2 h_11 =>
  pop P (binA .add 3 t12_1 (Value.int IntKind.i64 1)) fun t29_1 =>
  I_1 [t29_1] h_11 ∧ μ_1 [t29_1] h_11 < μ_1 [t12_1] h_5)
  (rop P (Instr.loadAt 49 out5_1) h_5 fun t30_1 =>
  uop P (Instr.storeAt 49 t4_1 t30_1) h_5 fun u_3 h_12 =>
  rop P (Instr.loadAt 49 t4_1) h_12 fun r_1 =>
  K r_1 h_12)
theorem e83 (s0_1 : Value) (cycle1_1 : Value) (h : Heap) (K : Value → Heap → Prop) : wpA Try.prog 31 (anOf [(58, [12]), (3737, [7])]) (bodyOf Try.f83) 1 (fun A h => resA Try.prog A h K [.cell 4 49]) (fun _ _ _ => False) (fun A h => resA Try.prog A h K [.cell 4 49]) (aargs [s0_1, cycle1_1] 0) h = t83 Try.prog s0_1 cycle1_1 h K := by kernel_rfl
theorem c83 (s0_1 : Value) (cycle1_1 : Value) (h : Heap) (K : Value → Heap → Prop) (H : t83 Try.prog s0_1 cycle1_1 h K) : callM Try.prog 83 #[s0_1, cycle1_1] h K :=
  callM_of_wpA mixed (fn := Try.f83) Try.func83 (c := bodyOf Try.f83) rfl (of_decide_eq_true (by kernel_rfl)) (anOf [(58, [12]), (3737, [7])]) 29 31 (by kernel_rfl) rfl [.cell 4 49] (by kernel_rfl) (args := [s0_1, cycle1_1]) (by rw [e83]; exact H)

/-! impl.areStacks -/
def t84 (P : Program) (g0_1 : Value) (sink1_1 : Value) (s2_1 : Value) (h : Heap) (K : Value → Heap → Prop) : Prop :=
  eop P (Instr.box 32 g0_1) h fun g3_1 h_1 =>
  eop P (Instr.box 49 s2_1) h_1 fun s5_1 h_2 =>
  rop P (Instr.loadAt 32 g3_1) h_2 fun t9_1 =>
  eop P (Instr.buildSlice 25 1 #[(0, sink1_1)]) h_2 fun t11_1 h_3 =>
  callM P 85 #[t9_1, t11_1] h_3 fun t12_1 h_4 =>
  pop P (Op.unary .not t12_1) fun t13_1 =>
  guardM t13_1 false (fun k_1 => pop P (Instr.fieldAt 49 s5_1 0) fun t15_1 =>
  k_1 t15_1 h_4) h_4 fun t15_2 h_5 =>
  guardM t13_1 false (fun k_2 => rop P (Instr.loadAt 22 t15_2) h_5 fun t16_1 =>
  k_2 t16_1 h_5) h_5 fun t16_2 h_6 =>
  guardM t13_1 false (fun k_3 => pop P (lenS 22 3 t16_2) fun t17_1 =>
  k_3 t17_1 h_6) h_6 fun t17_2 h_7 =>
  guardM t13_1 false (fun k_4 => pop P (Instr.fieldAt 32 g3_1 0) fun t18_1 =>
  k_4 t18_1 h_7) h_7 fun t18_2 h_8 =>
  guardM t13_1 false (fun k_5 => rop P (Instr.loadAt 22 t18_2) h_8 fun t19_1 =>
  k_5 t19_1 h_8) h_8 fun t19_2 h_9 =>
  guardM t13_1 false (fun k_6 => pop P (lenS 22 3 t19_2) fun t20_1 =>
  k_6 t20_1 h_9) h_9 fun t20_2 h_10 =>
  guardM t13_1 false (fun k_7 => pop P (binE .neq 3 (.tmp 17) (.tmp 20) t17_2 t20_2) fun t21_1 =>
  k_7 t21_1 h_10) h_10 fun t21_2 h_11 =>
  pop P (pickS t13_1 (Value.bool true) t21_2) fun t22_1 =>
  guardM t22_1 false (fun k_8 => pop P (Instr.fieldAt 49 s5_1 0) fun t24_1 =>
  k_8 t24_1 h_11) h_11 fun t24_2 h_12 =>
  guardM t22_1 false (fun k_9 => rop P (Instr.loadAt 22 t24_2) h_12 fun t25_1 =>
  k_9 t25_1 h_12) h_12 fun t25_2 h_13 =>
  guardM t22_1 false (fun k_10 => k_10 sink1_1 h_13) h_13 fun t26_1 h_14 =>
  guardM t22_1 false (fun k_11 => pop P (Instr.indexAt 22 t25_2 t26_1) fun t27_1 =>
  k_11 t27_1 h_14) h_14 fun t27_2 h_15 =>
  guardM t22_1 false (fun k_12 => rop P (Instr.loadAt 25 t27_2) h_15 fun t28_1 =>
  k_12 t28_1 h_15) h_15 fun t28_2 h_16 =>
  guardM t22_1 false (fun k_13 => pop P (lenS 25 3 t28_2) fun t29_1 =>
  k_13 t29_1 h_16) h_16 fun t29_2 h_17 =>
  guardM t22_1 false (fun k_14 => pop P (binE .neq 3 (.tmp 29) (.const (Value.int IntKind.i64 0)) t29_2 (Value.int IntKind.i64 0)) fun t30_1 =>
  k_14 t30_1 h_17) h_17 fun t30_2 h_18 =>
  pop P (pickS t22_1 (Value.bool true) t30_2) fun t31_1 =>
  condM t31_1
  (K (Value.bool false) h_18)
  (pop P (Instr.fieldAt 49 s5_1 0) fun t32_1 =>
  rop P (Instr.loadAt 22 t32_1) h_18 fun t33_1 =>
  pop P (lenS 22 3 t33_1) fun t34_1 =>
  ∃ (I_1 : List Value → Heap → Prop) (μ_1 : List Value → Heap → Nat), I_1 [(Value.int IntKind.i64 0)] h_18 ∧
  ∀ (junk_1 : Nat → Value) (t35_1 : Value) (h_19 : Heap), I_1 [t35_1] h_19 →
  pop P (binA .lss 3 t35_1 t34_1) fun t36_1 =>
  condM t36_1
  (pop P (Instr.indexAt 22 t33_1 t35_1) fun t38_1 =>
  rop P (Instr.loadAt 25 t38_1) h_19 fun t39_1 =>
  eop P (Instr.alloc 3 true (.tuple #[])) h_19 fun p7_1 h_20 =>
  uop P (Instr.storeAt 3 p7_1 t35_1) h_20 fun u_1 h_21 =>
  pop P (lenS 25 3 t39_1) fun t41_1 =>
  pop P (binA .gtr 3 t41_1 (Value.int IntKind.i64 12)) fun t42_1 =>
  guardM t42_1 false (fun k_15 => k_15 t39_1 h_21) h_21 fun t44_1 h_22 =>
  guardM t42_1 false (fun k_16 => pop P (Instr.makeFunc (Fn.func 121) #[] #[g3_1, p7_1]) fun t45_1 =>
  k_16 t45_1 h_22) h_22 fun t45_2 h_23 =>
  guardM t42_1 false (fun k_17 => callM P 106 #[t44_1, t45_2] h_23 fun t46_1 h_24 =>
  k_17 t46_1 h_24) h_23 fun t46_2 h_25 =>
  pop P (pickS t42_1 (Value.bool true) t46_2) fun t47_1 =>
  condM t47_1
  (K (Value.bool false) h_25)
  (pop P (binA .add 3 t35_1 (Value.int IntKind.i64 1)) fun t48_1 =>
  I_1 [t48_1] h_25 ∧ μ_1 [t48_1] h_25 < μ_1 [t35_1] h_19))
  (K (Value.bool true) h_19))
theorem e84 (g0_1 : Value) (sink1_1 : Value) (s2_1 : Value) (h : Heap) (K : Value → Heap → Prop) : wpA Try.prog 49 (anOf [(58, [35])]) (bodyOf Try.f84) 1 (fun A h => resA Try.prog A h K [.tmp 6]) (fun _ _ _ => False) (fun A h => resA Try.prog A h K [.tmp 6]) (aargs [g0_1, sink1_1, s2_1] 0) h = t84 Try.prog g0_1 sink1_1 s2_1 h K := by kernel_rfl
theorem c84 (g0_1 : Value) (sink1_1 : Value) (s2_1 : Value) (h : Heap) (K : Value → Heap → Prop) (H : t84 Try.prog g0_1 sink1_1 s2_1 h K) : callM Try.prog 84 #[g0_1, sink1_1, s2_1] h K :=
  callM_of_wpA mixed (fn := Try.f84) Try.func84 (c := bodyOf Try.f84) rfl (of_decide_eq_true (by kernel_rfl)) (anOf [(58, [35])]) 46 49 (by kernel_rfl) rfl [.tmp 6] (by kernel_rfl) (args := [g0_1, sink1_1, s2_1]) (by rw [e84]; exact H)

/-! impl.has -/
def t85 (P : Program) (g0_1 : Value) (places1_1 : Value) (h : Heap) (K : Value → Heap → Prop) : Prop :=
  eop P (Instr.box 32 g0_1) h fun g2_1 h_1 =>
  rop P (Instr.loadAt 32 g2_1) h_1 fun t5_1 =>
  callM P 122 #[t5_1] h_1 fun t6_1 h_2 =>
  guardM t6_1 true (fun k_1 => k_1 places1_1 h_2) h_2 fun t8_1 h_3 =>
  guardM t6_1 true (fun k_2 => pop P (Instr.makeFunc (Fn.func 123) #[] #[g2_1]) fun t9_1 =>
  k_2 t9_1 h_3) h_3 fun t9_2 h_4 =>
  guardM t6_1 true (fun k_3 => callM P 106 #[t8_1, t9_2] h_4 fun t10_1 h_5 =>
  k_3 t10_1 h_5) h_4 fun t10_2 h_6 =>
  guardM t6_1 true (fun k_4 => pop P (Op.unary .not t10_2) fun t11_1 =>
  k_4 t11_1 h_6) h_6 fun t11_2 h_7 =>
  pop P (pickS t6_1 t11_2 (Value.bool false)) fun t12_1 =>
  K t12_1 h_7
theorem e85 (g0_1 : Value) (places1_1 : Value) (h : Heap) (K : Value → Heap → Prop) : wpA Try.prog 13 (anOf []) (bodyOf Try.f85) 1 (fun A h => resA Try.prog A h K [.tmp 4]) (fun _ _ _ => False) (fun A h => resA Try.prog A h K [.tmp 4]) (aargs [g0_1, places1_1] 0) h = t85 Try.prog g0_1 places1_1 h K := by kernel_rfl
theorem c85 (g0_1 : Value) (places1_1 : Value) (h : Heap) (K : Value → Heap → Prop) (H : t85 Try.prog g0_1 places1_1 h K) : callM Try.prog 85 #[g0_1, places1_1] h K :=
  callM_of_wpA mixed (fn := Try.f85) Try.func85 (c := bodyOf Try.f85) rfl (of_decide_eq_true (by kernel_rfl)) (anOf []) 11 13 (by kernel_rfl) rfl [.tmp 4] (by kernel_rfl) (args := [g0_1, places1_1]) (by rw [e85]; exact H)

/-! (impl.Stacks).cycleOf -/
def t86 (P : Program) (s0_1 : Value) (g1_1 : Value) (p2_1 : Value) (h : Heap) (K : Value → Heap → Prop) : Prop :=
  eop P (Instr.box 49 s0_1) h fun s3_1 h_1 =>
  eop P (Instr.box 32 g1_1) h_1 fun g4_1 h_2 =>
  eop P (Instr.buildSlice 25 0 #[]) h_2 fun t10_1 h_3 =>
  ∃ (I_1 : List Value → Heap → Prop) (μ_1 : List Value → Heap → Nat), I_1 [t10_1, p2_1] h_3 ∧
  ∀ (junk_1 : Nat → Value) (out7_1 : Value) (at8_1 : Value) (h_4 : Heap), I_1 [out7_1, at8_1] h_4 →
  pop P (Instr.fieldAt 49 s3_1 0) fun t12_1 =>
  rop P (Instr.loadAt 22 t12_1) h_4 fun t13_1 =>
  pop P (Instr.indexAt 22 t13_1 at8_1) fun t15_1 =>
  rop P (Instr.loadAt 25 t15_1) h_4 fun t16_1 =>
  pop P (lenS 25 3 t16_1) fun t17_1 =>
  pop P (binE .eql 3 (.tmp 17) (.const (Value.int IntKind.i64 0)) t17_1 (Value.int IntKind.i64 0)) fun t18_1 =>
  guardM t18_1 false (fun k_1 => k_1 out7_1 h_4) h_4 fun t20_1 h_5 =>
  guardM t18_1 false (fun k_2 => pop P (lenS 25 3 t20_1) fun t21_1 =>
  k_2 t21_1 h_5) h_5 fun t21_2 h_6 =>
  guardM t18_1 false (fun k_3 => pop P (Instr.fieldAt 32 g4_1 0) fun t22_1 =>
  k_3 t22_1 h_6) h_6 fun t22_2 h_7 =>
  guardM t18_1 false (fun k_4 => rop P (Instr.loadAt 22 t22_2) h_7 fun t23_1 =>
  k_4 t23_1 h_7) h_7 fun t23_2 h_8 =>
  guardM t18_1 false (fun k_5 => pop P (lenS 22 3 t23_2) fun t24_1 =>
  k_5 t24_1 h_8) h_8 fun t24_2 h_9 =>
  guardM t18_1 false (fun k_6 => pop P (binA .gtr 3 t21_2 t24_2) fun t25_1 =>
  k_6 t25_1 h_9) h_9 fun t25_2 h_10 =>
  pop P (pickS t18_1 (Value.bool true) t25_2) fun t26_1 =>
  condM t26_1
  (K (Value.slice none 0 0) h_10)
  (eop P (Instr.buildSlice 25 1 #[(0, at8_1)]) h_10 fun t29_1 h_11 =>
  eop P (appS 25 25 25 out7_1 t29_1) h_11 fun t30_1 h_12 =>
  pop P (Instr.fieldAt 32 g4_1 0) fun t31_1 =>
  rop P (Instr.loadAt 22 t31_1) h_12 fun t32_1 =>
  pop P (Instr.indexAt 22 t32_1 at8_1) fun t34_1 =>
  rop P (Instr.loadAt 25 t34_1) h_12 fun t35_1 =>
  pop P (Instr.fieldAt 49 s3_1 0) fun t36_1 =>
  rop P (Instr.loadAt 22 t36_1) h_12 fun t37_1 =>
  pop P (Instr.indexAt 22 t37_1 at8_1) fun t39_1 =>
  rop P (Instr.loadAt 25 t39_1) h_12 fun t40_1 =>
  pop P (Instr.indexAt 25 t40_1 (Value.int IntKind.i64 0)) fun t41_1 =>
  rop P (Instr.loadAt 3 t41_1) h_12 fun t42_1 =>
  pop P (Instr.indexAt 25 t35_1 t42_1) fun t43_1 =>
  rop P (Instr.loadAt 3 t43_1) h_12 fun t44_1 =>
  pop P (binE .eql 3 (.tmp 45) (.tmp 46) t44_1 p2_1) fun t47_1 =>
  condM t47_1
  (callM P 125 #[t30_1] h_12 fun t50_1 h_13 =>
  callM P 124 #[t30_1, t50_1] h_13 fun t51_1 h_14 =>
  pop P (Instr.sliceAt 25 t30_1 (some t51_1) none none) fun t54_1 =>
  pop P (Instr.sliceAt 25 t30_1 none (some t51_1) none) fun t57_1 =>
  eop P (Instr.buildSlice 22 2 #[(0, t54_1), (1, t57_1)]) h_14 fun t58_1 h_15 =>
  callM P 126 #[t58_1] h_15 fun t59_1 h_16 =>
  K t59_1 h_16)
  (I_1 [t30_1, t44_1] h_12 ∧ μ_1 [t30_1, t44_1] h_12 < μ_1 [out7_1, at8_1] h_4))
theorem e86 (s0_1 : Value) (g1_1 : Value) (p2_1 : Value) (h : Heap) (K : Value → Heap → Prop) : wpA Try.prog 60 (anOf [(58, [7, 8])]) (bodyOf Try.f86) 1 (fun A h => resA Try.prog A h K [.tmp 6]) (fun _ _ _ => False) (fun A h => resA Try.prog A h K [.tmp 6]) (aargs [s0_1, g1_1, p2_1] 0) h = t86 Try.prog s0_1 g1_1 p2_1 h K := by kernel_rfl
theorem c86 (s0_1 : Value) (g1_1 : Value) (p2_1 : Value) (h : Heap) (K : Value → Heap → Prop) (H : t86 Try.prog s0_1 g1_1 p2_1 h K) : callM Try.prog 86 #[s0_1, g1_1, p2_1] h K :=
  callM_of_wpA mixed (fn := Try.f86) Try.func86 (c := bodyOf Try.f86) rfl (of_decide_eq_true (by kernel_rfl)) (anOf [(58, [7, 8])]) 57 60 (by kernel_rfl) rfl [.tmp 6] (by kernel_rfl) (args := [s0_1, g1_1, p2_1]) (by rw [e86]; exact H)

/-! (impl.Stacks).copied -/
def t87 (P : Program) (s0_1 : Value) (h : Heap) (K : Value → Heap → Prop) : Prop :=
  eop P (Instr.box 49 s0_1) h fun s1_1 h_1 =>
  eop P (Instr.alloc 49 true (.tuple #[])) h_1 fun t2_1 h_2 =>
  pop P (Instr.build 49 #[]) fun t6_1 =>
  eop P (Instr.alloc 49 true (.tuple #[])) h_2 fun out3_1 h_3 =>
  uop P (Instr.storeAt 49 out3_1 t6_1) h_3 fun u_1 h_4 =>
  pop P (Instr.fieldAt 49 s1_1 0) fun t7_1 =>
  rop P (Instr.loadAt 22 t7_1) h_4 fun t8_1 =>
  pop P (lenS 22 3 t8_1) fun t9_1 =>
  ∃ (I_1 : List Value → Heap → Prop) (μ_1 : List Value → Heap → Nat), I_1 [(Value.int IntKind.i64 0)] h_4 ∧
  ∀ (junk_1 : Nat → Value) (t10_1 : Value) (h_5 : Heap), I_1 [t10_1] h_5 →
  pop P (binA .lss 3 t10_1 t9_1) fun t11_1 =>
  condM t11_1
  (pop P (Instr.indexAt 22 t8_1 t10_1) fun t12_1 =>
  rop P (Instr.loadAt 25 t12_1) h_5 fun t13_1 =>
  pop P (Instr.fieldAt 49 out3_1 0) fun t14_1 =>
  rop P (Instr.loadAt 22 t14_1) h_5 fun t15_1 =>
  callM P 111 #[t13_1] h_5 fun t17_1 h_6 =>
  (∀ w : World, w.heap = h_6 → (Instr.loadAt 22 t14_1).run P w = .ok t15_1 w) ∧
  eop P (Instr.buildSlice 22 1 #[(0, t17_1)]) h_6 fun t18_1 h_7 =>
  (∀ w : World, w.heap = h_7 → (Instr.loadAt 22 t14_1).run P w = .ok t15_1 w) ∧
  eop P (appS 22 22 22 t15_1 t18_1) h_7 fun t19_1 h_8 =>
  pop P (Instr.fieldAt 49 out3_1 0) fun t20_1 =>
  uop P (Instr.storeAt 22 t20_1 t19_1) h_8 fun u_2 h_9 =>
  pop P (binA .add 3 t10_1 (Value.int IntKind.i64 1)) fun t21_1 =>
  I_1 [t21_1] h_9 ∧ μ_1 [t21_1] h_9 < μ_1 [t10_1] h_5)
  (rop P (Instr.loadAt 49 out3_1) h_5 fun t22_1 =>
  uop P (Instr.storeAt 49 t2_1 t22_1) h_5 fun u_3 h_10 =>
  rop P (Instr.loadAt 49 t2_1) h_10 fun r_1 =>
  K r_1 h_10)
theorem e87 (s0_1 : Value) (h : Heap) (K : Value → Heap → Prop) : wpA Try.prog 23 (anOf [(58, [10])]) (bodyOf Try.f87) 1 (fun A h => resA Try.prog A h K [.cell 2 49]) (fun _ _ _ => False) (fun A h => resA Try.prog A h K [.cell 2 49]) (aargs [s0_1] 0) h = t87 Try.prog s0_1 h K := by kernel_rfl
theorem c87 (s0_1 : Value) (h : Heap) (K : Value → Heap → Prop) (H : t87 Try.prog s0_1 h K) : callM Try.prog 87 #[s0_1] h K :=
  callM_of_wpA mixed (fn := Try.f87) Try.func87 (c := bodyOf Try.f87) rfl (of_decide_eq_true (by kernel_rfl)) (anOf [(58, [10])]) 22 23 (by kernel_rfl) rfl [.cell 2 49] (by kernel_rfl) (args := [s0_1]) (by rw [e87]; exact H)

/-! (impl.Stacks).pop -/
def t88 (P : Program) (s0_1 : Value) (cycle1_1 : Value) (h : Heap) (K : Value → Heap → Prop) : Prop :=
  eop P (Instr.box 49 s0_1) h fun s2_1 h_1 =>
  pop P (lenS 25 3 cycle1_1) fun t7_1 =>
  ∃ (I_1 : List Value → Heap → Prop) (μ_1 : List Value → Heap → Nat), I_1 [(Value.int IntKind.i64 0)] h_1 ∧
  ∀ (junk_1 : Nat → Value) (t8_1 : Value) (h_2 : Heap), I_1 [t8_1] h_2 →
  pop P (binA .lss 3 t8_1 t7_1) fun t9_1 =>
  condM t9_1
  (pop P (Instr.indexAt 25 cycle1_1 t8_1) fun t10_1 =>
  rop P (Instr.loadAt 3 t10_1) h_2 fun t11_1 =>
  pop P (Instr.fieldAt 49 s2_1 0) fun t12_1 =>
  rop P (Instr.loadAt 22 t12_1) h_2 fun t13_1 =>
  pop P (Instr.fieldAt 49 s2_1 0) fun t15_1 =>
  rop P (Instr.loadAt 22 t15_1) h_2 fun t16_1 =>
  pop P (Instr.indexAt 22 t16_1 t11_1) fun t18_1 =>
  rop P (Instr.loadAt 25 t18_1) h_2 fun t19_1 =>
  pop P (Instr.sliceAt 25 t19_1 (some (Value.int IntKind.i64 1)) none none) fun t20_1 =>
  pop P (Instr.indexAt 22 t13_1 t11_1) fun t21_1 =>
  uop P (Instr.storeAt 25 t21_1 t20_1) h_2 fun u_1 h_3 =>
  pop P (binA .add 3 t8_1 (Value.int IntKind.i64 1)) fun t22_1 =>
  I_1 [t22_1] h_3 ∧ μ_1 [t22_1] h_3 < μ_1 [t8_1] h_2)
  (K (.tuple #[]) h_2)
theorem e88 (s0_1 : Value) (cycle1_1 : Value) (h : Heap) (K : Value → Heap → Prop) : wpA Try.prog 23 (anOf [(14, [8])]) (bodyOf Try.f88) 1 (fun A h => resA Try.prog A h K []) (fun _ _ _ => False) (fun A h => resA Try.prog A h K []) (aargs [s0_1, cycle1_1] 0) h = t88 Try.prog s0_1 cycle1_1 h K := by kernel_rfl
theorem c88 (s0_1 : Value) (cycle1_1 : Value) (h : Heap) (K : Value → Heap → Prop) (H : t88 Try.prog s0_1 cycle1_1 h K) : callM Try.prog 88 #[s0_1, cycle1_1] h K :=
  callM_of_wpA mixed (fn := Try.f88) Try.func88 (c := bodyOf Try.f88) rfl (of_decide_eq_true (by kernel_rfl)) (anOf [(14, [8])]) 21 23 (by kernel_rfl) rfl [] (by kernel_rfl) (args := [s0_1, cycle1_1]) (by rw [e88]; exact H)

/-! spec.skEnd -/
def t89 (P : Program) (g0_1 : Value) (sink1_1 : Value) (s2_1 : Value) (choices3_1 : Value) (h : Heap) (K : Value → Heap → Prop) : Prop :=
  eop P (Instr.box 32 g0_1) h fun g4_1 h_1 =>
  eop P (Instr.box 49 s2_1) h_1 fun s6_1 h_2 =>
  eop P (Instr.alloc 49 true (.tuple #[])) h_2 fun t8_1 h_3 =>
  ∃ (I_1 : List Value → Heap → Prop) (μ_1 : List Value → Heap → Nat), I_1 [(Value.int IntKind.i64 0)] h_3 ∧
  ∀ (junk_1 : Nat → Value) (n11_1 : Value) (h_4 : Heap), I_1 [n11_1] h_4 →
  pop P (binA .leq 3 n11_1 (Value.int IntKind.i64 200)) fun t17_1 =>
  condM t17_1
  (rop P (Instr.loadAt 32 g4_1) h_4 fun t20_1 =>
  rop P (Instr.loadAt 49 s6_1) h_4 fun t21_1 =>
  callM P 127 #[t20_1, t21_1] h_4 fun t22_1 h_5 =>
  pop P (lenS 22 3 t22_1) fun t24_1 =>
  pop P (binE .eql 3 (.tmp 24) (.const (Value.int IntKind.i64 0)) t24_1 (Value.int IntKind.i64 0)) fun t25_1 =>
  condM t25_1
  (rop P (Instr.loadAt 32 g4_1) h_5 fun t27_1 =>
  rop P (Instr.loadAt 49 s6_1) h_5 fun t29_1 =>
  callM P 103 #[t27_1, sink1_1, t29_1] h_5 fun t30_1 h_6 =>
  pop P (Instr.extract t30_1 0) fun t31_1 =>
  pop P (Instr.extract t30_1 1) fun t32_1 =>
  rop P (Instr.loadAt 49 s6_1) h_6 fun t33_1 =>
  uop P (Instr.storeAt 49 t8_1 t33_1) h_6 fun u_1 h_7 =>
  rop P (Instr.loadAt 49 t8_1) h_7 fun r_1 =>
  K (.tuple #[r_1, n11_1, t32_1]) h_7)
  (∃ J_1 : List Value → Heap → Prop, (pop P (lenS 25 3 choices3_1) fun t38_1 =>
  pop P (binA .lss 3 n11_1 t38_1) fun t39_1 =>
  condM t39_1
  (pop P (Instr.indexAt 25 choices3_1 n11_1) fun t42_1 =>
  rop P (Instr.loadAt 3 t42_1) h_5 fun t43_1 =>
  pop P (lenS 22 3 t22_1) fun t45_1 =>
  pop P (binA .rem 3 t43_1 t45_1) fun t46_1 =>
  J_1 [t46_1] h_5)
  (J_1 [(Value.int IntKind.i64 0)] h_5)) ∧
  ∀ (junk_2 : Nat → Value) (k15_1 : Value) (h_8 : Heap), J_1 [k15_1] h_8 →
  rop P (Instr.loadAt 49 s6_1) h_8 fun t47_1 =>
  pop P (Instr.indexAt 22 t22_1 k15_1) fun t50_1 =>
  rop P (Instr.loadAt 25 t50_1) h_8 fun t51_1 =>
  callM P 83 #[t47_1, t51_1] h_8 fun t52_1 h_9 =>
  uop P (Instr.storeAt 49 s6_1 t52_1) h_9 fun u_2 h_10 =>
  pop P (binA .add 3 n11_1 (Value.int IntKind.i64 1)) fun t19_1 =>
  I_1 [t19_1] h_10 ∧ μ_1 [t19_1] h_10 < μ_1 [n11_1] h_4))
  (rop P (Instr.loadAt 49 s6_1) h_4 fun t53_1 =>
  uop P (Instr.storeAt 49 t8_1 t53_1) h_4 fun u_3 h_11 =>
  rop P (Instr.loadAt 49 t8_1) h_11 fun r_2 =>
  K (.tuple #[r_2, (Value.int IntKind.i64 0), (Value.bool false)]) h_11)
theorem e89 (g0_1 : Value) (sink1_1 : Value) (s2_1 : Value) (choices3_1 : Value) (h : Heap) (K : Value → Heap → Prop) : wpA Try.prog 54 (anOf [(26, [11]), (3367, [15])]) (bodyOf Try.f89) 1 (fun A h => resA Try.prog A h K [.cell 8 49, .tmp 9, .tmp 10]) (fun _ _ _ => False) (fun A h => resA Try.prog A h K [.cell 8 49, .tmp 9, .tmp 10]) (aargs [g0_1, sink1_1, s2_1, choices3_1] 0) h = t89 Try.prog g0_1 sink1_1 s2_1 choices3_1 h K := by kernel_rfl
theorem c89 (g0_1 : Value) (sink1_1 : Value) (s2_1 : Value) (choices3_1 : Value) (h : Heap) (K : Value → Heap → Prop) (H : t89 Try.prog g0_1 sink1_1 s2_1 choices3_1 h K) : callM Try.prog 89 #[g0_1, sink1_1, s2_1, choices3_1] h K :=
  callM_of_wpA mixed (fn := Try.f89) Try.func89 (c := bodyOf Try.f89) rfl (of_decide_eq_true (by kernel_rfl)) (anOf [(26, [11]), (3367, [15])]) 50 54 (by kernel_rfl) rfl [.cell 8 49, .tmp 9, .tmp 10] (by kernel_rfl) (args := [g0_1, sink1_1, s2_1, choices3_1]) (by rw [e89]; exact H)

/-! impl.popped -/
def t90 (P : Program) (g0_1 : Value) (sink1_1 : Value) (s2_1 : Value) (choices3_1 : Value) (h : Heap) (K : Value → Heap → Prop) : Prop :=
  eop P (Instr.box 32 g0_1) h fun g4_1 h_1 =>
  eop P (Instr.box 49 s2_1) h_1 fun s6_1 h_2 =>
  eop P (Instr.alloc 49 true (.tuple #[])) h_2 fun t8_1 h_3 =>
  rop P (Instr.loadAt 32 g4_1) h_3 fun t17_1 =>
  rop P (Instr.loadAt 49 s6_1) h_3 fun t19_1 =>
  callM P 84 #[t17_1, sink1_1, t19_1] h_3 fun t20_1 h_4 =>
  pop P (Op.unary .not t20_1) fun t21_1 =>
  guardM t21_1 false (fun k_1 => k_1 choices3_1 h_4) h_4 fun t23_1 h_5 =>
  guardM t21_1 false (fun k_2 => pop P (lenS 25 3 t23_1) fun t24_1 =>
  k_2 t24_1 h_5) h_5 fun t24_2 h_6 =>
  guardM t21_1 false (fun k_3 => pop P (binA .gtr 3 t24_2 (Value.int IntKind.i64 100)) fun t25_1 =>
  k_3 t25_1 h_6) h_6 fun t25_2 h_7 =>
  pop P (pickS t21_1 (Value.bool true) t25_2) fun t26_1 =>
  guardM t26_1 false (fun k_4 => k_4 choices3_1 h_7) h_7 fun t28_1 h_8 =>
  guardM t26_1 false (fun k_5 => callM P 106 #[t28_1, (.func (.func 128) #[] #[])] h_8 fun t29_1 h_9 =>
  k_5 t29_1 h_9) h_8 fun t29_2 h_10 =>
  pop P (pickS t26_1 (Value.bool true) t29_2) fun t30_1 =>
  condM t30_1
  (pop P (Instr.build 49 #[]) fun t31_1 =>
  uop P (Instr.storeAt 49 t8_1 t31_1) h_10 fun u_1 h_11 =>
  rop P (Instr.loadAt 49 t8_1) h_11 fun r_1 =>
  K (.tuple #[r_1, (Value.int IntKind.i64 0), (Value.bool false)]) h_11)
  (rop P (Instr.loadAt 49 s6_1) h_10 fun t32_1 =>
  callM P 87 #[t32_1] h_10 fun t33_1 h_12 =>
  eop P (Instr.alloc 49 true (.tuple #[])) h_12 fun out11_1 h_13 =>
  uop P (Instr.storeAt 49 out11_1 t33_1) h_13 fun u_2 h_14 =>
  ∃ (I_1 : List Value → Heap → Prop) (μ_1 : List Value → Heap → Nat), I_1 [(Value.int IntKind.i64 0)] h_14 ∧
  ∀ (junk_1 : Nat → Value) (many12_1 : Value) (h_15 : Heap), I_1 [many12_1] h_15 →
  rop P (Instr.loadAt 49 out11_1) h_15 fun t34_1 =>
  rop P (Instr.loadAt 32 g4_1) h_15 fun t35_1 =>
  callM P 129 #[t34_1, t35_1] h_15 fun t36_1 h_16 =>
  pop P (lenS 22 3 t36_1) fun t38_1 =>
  pop P (binE .eql 3 (.tmp 38) (.const (Value.int IntKind.i64 0)) t38_1 (Value.int IntKind.i64 0)) fun t39_1 =>
  condM t39_1
  (rop P (Instr.loadAt 49 out11_1) h_16 fun t63_1 =>
  callM P 104 #[t63_1, sink1_1] h_16 fun t65_1 h_17 =>
  pop P (Instr.extract t65_1 0) fun t66_1 =>
  pop P (Instr.extract t65_1 1) fun t67_1 =>
  pop P (Op.unary .not t67_1) fun t69_1 =>
  condM t69_1
  (pop P (Instr.build 49 #[]) fun t70_1 =>
  uop P (Instr.storeAt 49 t8_1 t70_1) h_17 fun u_3 h_18 =>
  rop P (Instr.loadAt 49 t8_1) h_18 fun r_2 =>
  K (.tuple #[r_2, (Value.int IntKind.i64 0), (Value.bool false)]) h_18)
  (rop P (Instr.loadAt 49 out11_1) h_17 fun t71_1 =>
  callM P 87 #[t71_1] h_17 fun t72_1 h_19 =>
  uop P (Instr.storeAt 49 t8_1 t72_1) h_19 fun u_4 h_20 =>
  rop P (Instr.loadAt 49 t8_1) h_20 fun r_3 =>
  K (.tuple #[r_3, many12_1, (Value.bool true)]) h_20))
  (pop P (binE .eql 3 (.tmp 40) (.const (Value.int IntKind.i64 200)) many12_1 (Value.int IntKind.i64 200)) fun t41_1 =>
  condM t41_1
  (pop P (Instr.build 49 #[]) fun t42_1 =>
  uop P (Instr.storeAt 49 t8_1 t42_1) h_16 fun u_5 h_21 =>
  rop P (Instr.loadAt 49 t8_1) h_21 fun r_4 =>
  K (.tuple #[r_4, (Value.int IntKind.i64 0), (Value.bool false)]) h_21)
  (∃ J_1 : List Value → Heap → Prop, (pop P (lenS 25 3 choices3_1) fun t45_1 =>
  pop P (binA .lss 3 many12_1 t45_1) fun t46_1 =>
  condM t46_1
  (pop P (Instr.indexAt 25 choices3_1 many12_1) fun t49_1 =>
  rop P (Instr.loadAt 3 t49_1) h_16 fun t50_1 =>
  pop P (lenS 22 3 t36_1) fun t52_1 =>
  pop P (binA .rem 3 t50_1 t52_1) fun t53_1 =>
  J_1 [t53_1] h_16)
  (J_1 [(Value.int IntKind.i64 0)] h_16)) ∧
  ∀ (junk_2 : Nat → Value) (k14_1 : Value) (h_22 : Heap), J_1 [k14_1] h_22 →
  rop P (Instr.loadAt 49 out11_1) h_22 fun t54_1 =>
  pop P (Instr.indexAt 22 t36_1 k14_1) fun t57_1 =>
  rop P (Instr.loadAt 25 t57_1) h_22 fun t58_1 =>
  callM P 88 #[t54_1, t58_1] h_22 fun t59_1 h_23 =>
  pop P (binA .add 3 many12_1 (Value.int IntKind.i64 1)) fun t61_1 =>
  I_1 [t61_1] h_23 ∧ μ_1 [t61_1] h_23 < μ_1 [many12_1] h_15)))
theorem e90 (g0_1 : Value) (sink1_1 : Value) (s2_1 : Value) (choices3_1 : Value) (h : Heap) (K : Value → Heap → Prop) : wpA Try.prog 74 (anOf [(60, [12]), (3855, [14])]) (bodyOf Try.f90) 1 (fun A h => resA Try.prog A h K [.cell 8 49, .tmp 9, .tmp 10]) (fun _ _ _ => False) (fun A h => resA Try.prog A h K [.cell 8 49, .tmp 9, .tmp 10]) (aargs [g0_1, sink1_1, s2_1, choices3_1] 0) h = t90 Try.prog g0_1 sink1_1 s2_1 choices3_1 h K := by kernel_rfl
theorem c90 (g0_1 : Value) (sink1_1 : Value) (s2_1 : Value) (choices3_1 : Value) (h : Heap) (K : Value → Heap → Prop) (H : t90 Try.prog g0_1 sink1_1 s2_1 choices3_1 h K) : callM Try.prog 90 #[g0_1, sink1_1, s2_1, choices3_1] h K :=
  callM_of_wpA mixed (fn := Try.f90) Try.func90 (c := bodyOf Try.f90) rfl (of_decide_eq_true (by kernel_rfl)) (anOf [(60, [12]), (3855, [14])]) 70 74 (by kernel_rfl) rfl [.cell 8 49, .tmp 9, .tmp 10] (by kernel_rfl) (args := [g0_1, sink1_1, s2_1, choices3_1]) (by rw [e90]; exact H)

/-! spec.l1All -/
def t97 (P : Program) (l0_1 : Value) (lo1_1 : Value) (hi2_1 : Value) (h : Heap) (K : Value → Heap → Prop) : Prop :=
  pop P (lenS 25 3 l0_1) fun t10_1 =>
  ∃ (I_1 : List Value → Heap → Prop) (μ_1 : List Value → Heap → Nat), I_1 [(Value.int IntKind.i64 0)] h ∧
  ∀ (junk_1 : Nat → Value) (t11_1 : Value) (h_1 : Heap), I_1 [t11_1] h_1 →
  pop P (binA .lss 3 t11_1 t10_1) fun t12_1 =>
  condM t12_1
  (pop P (Instr.indexAt 25 l0_1 t11_1) fun t13_1 =>
  rop P (Instr.loadAt 3 t13_1) h_1 fun t14_1 =>
  callM P 109 #[t14_1, lo1_1, hi2_1] h_1 fun t18_1 h_2 =>
  pop P (Op.unary .not t18_1) fun t19_1 =>
  condM t19_1
  (K (Value.bool false) h_2)
  (pop P (binA .add 3 t11_1 (Value.int IntKind.i64 1)) fun t20_1 =>
  I_1 [t20_1] h_2 ∧ μ_1 [t20_1] h_2 < μ_1 [t11_1] h_1))
  (K (Value.bool true) h_1)
theorem e97 (l0_1 : Value) (lo1_1 : Value) (hi2_1 : Value) (h : Heap) (K : Value → Heap → Prop) : wpA Try.prog 21 (anOf [(26, [11])]) (bodyOf Try.f97) 1 (fun A h => resA Try.prog A h K [.tmp 6]) (fun _ _ _ => False) (fun A h => resA Try.prog A h K [.tmp 6]) (aargs [l0_1, lo1_1, hi2_1] 0) h = t97 Try.prog l0_1 lo1_1 hi2_1 h K := by kernel_rfl
theorem c97 (l0_1 : Value) (lo1_1 : Value) (hi2_1 : Value) (h : Heap) (K : Value → Heap → Prop) (H : t97 Try.prog l0_1 lo1_1 hi2_1 h K) : callM Try.prog 97 #[l0_1, lo1_1, hi2_1] h K :=
  callM_of_wpA mixed (fn := Try.f97) Try.func97 (c := bodyOf Try.f97) rfl (of_decide_eq_true (by kernel_rfl)) (anOf [(26, [11])]) 18 21 (by kernel_rfl) rfl [.tmp 6] (by kernel_rfl) (args := [l0_1, lo1_1, hi2_1]) (by rw [e97]; exact H)

/-! spec.skTops -/
def t103 (P : Program) (g0_1 : Value) (sink1_1 : Value) (s2_1 : Value) (h : Heap) (K : Value → Heap → Prop) : Prop :=
  eop P (Instr.box 32 g0_1) h fun g3_1 h_1 =>
  eop P (Instr.box 49 s2_1) h_1 fun s5_1 h_2 =>
  pop P (Instr.fieldAt 32 g3_1 0) fun t11_1 =>
  rop P (Instr.loadAt 22 t11_1) h_2 fun t12_1 =>
  pop P (lenS 22 3 t12_1) fun t13_1 =>
  eop P (Instr.makeSlice 25 t13_1 t13_1) h_2 fun t14_1 h_3 =>
  pop P (Instr.fieldAt 49 s5_1 0) fun t15_1 =>
  rop P (Instr.loadAt 22 t15_1) h_3 fun t16_1 =>
  pop P (lenS 22 3 t16_1) fun t17_1 =>
  ∃ (I_1 : List Value → Heap → Prop) (μ_1 : List Value → Heap → Nat), I_1 [(Value.int IntKind.i64 0)] h_3 ∧
  ∀ (junk_1 : Nat → Value) (t18_1 : Value) (h_4 : Heap), I_1 [t18_1] h_4 →
  pop P (binA .lss 3 t18_1 t17_1) fun t19_1 =>
  condM t19_1
  (pop P (Instr.indexAt 22 t16_1 t18_1) fun t21_1 =>
  rop P (Instr.loadAt 25 t21_1) h_4 fun t22_1 =>
  pop P (binE .eql 3 (.tmp 23) (.tmp 24) t18_1 sink1_1) fun t25_1 =>
  condM t25_1
  (pop P (binA .add 3 t18_1 (Value.int IntKind.i64 1)) fun t35_1 =>
  I_1 [t35_1] h_4 ∧ μ_1 [t35_1] h_4 < μ_1 [t18_1] h_4)
  (pop P (lenS 25 3 t22_1) fun t27_1 =>
  pop P (binE .eql 3 (.tmp 27) (.const (Value.int IntKind.i64 0)) t27_1 (Value.int IntKind.i64 0)) fun t28_1 =>
  condM t28_1
  (K (.tuple #[(Value.slice none 0 0), (Value.bool false)]) h_4)
  (pop P (Instr.indexAt 25 t22_1 (Value.int IntKind.i64 0)) fun t32_1 =>
  rop P (Instr.loadAt 3 t32_1) h_4 fun t33_1 =>
  pop P (Instr.indexAt 25 t14_1 t18_1) fun t34_1 =>
  uop P (Instr.storeAt 3 t34_1 t33_1) h_4 fun u_1 h_5 =>
  pop P (binA .add 3 t18_1 (Value.int IntKind.i64 1)) fun t35_2 =>
  I_1 [t35_2] h_5 ∧ μ_1 [t35_2] h_5 < μ_1 [t18_1] h_4)))
  (K (.tuple #[t14_1, (Value.bool true)]) h_4)
theorem e103 (g0_1 : Value) (sink1_1 : Value) (s2_1 : Value) (h : Heap) (K : Value → Heap → Prop) : wpA Try.prog 37 (anOf [(58, [18])]) (bodyOf Try.f103) 1 (fun A h => resA Try.prog A h K [.tmp 6, .tmp 7]) (fun _ _ _ => False) (fun A h => resA Try.prog A h K [.tmp 6, .tmp 7]) (aargs [g0_1, sink1_1, s2_1] 0) h = t103 Try.prog g0_1 sink1_1 s2_1 h K := by kernel_rfl
theorem c103 (g0_1 : Value) (sink1_1 : Value) (s2_1 : Value) (h : Heap) (K : Value → Heap → Prop) (H : t103 Try.prog g0_1 sink1_1 s2_1 h K) : callM Try.prog 103 #[g0_1, sink1_1, s2_1] h K :=
  callM_of_wpA mixed (fn := Try.f103) Try.func103 (c := bodyOf Try.f103) rfl (of_decide_eq_true (by kernel_rfl)) (anOf [(58, [18])]) 34 37 (by kernel_rfl) rfl [.tmp 6, .tmp 7] (by kernel_rfl) (args := [g0_1, sink1_1, s2_1]) (by rw [e103]; exact H)

/-! (impl.Stacks).tops -/
def t104 (P : Program) (s0_1 : Value) (sink1_1 : Value) (h : Heap) (K : Value → Heap → Prop) : Prop :=
  eop P (Instr.box 49 s0_1) h fun s2_1 h_1 =>
  eop P (Instr.buildSlice 25 0 #[]) h_1 fun t9_1 h_2 =>
  pop P (Instr.fieldAt 49 s2_1 0) fun t10_1 =>
  rop P (Instr.loadAt 22 t10_1) h_2 fun t11_1 =>
  pop P (lenS 22 3 t11_1) fun t12_1 =>
  ∃ (I_1 : List Value → Heap → Prop) (μ_1 : List Value → Heap → Nat), I_1 [t9_1, (Value.int IntKind.i64 0)] h_2 ∧
  ∀ (junk_1 : Nat → Value) (out6_1 : Value) (t13_1 : Value) (h_3 : Heap), I_1 [out6_1, t13_1] h_3 →
  pop P (binA .lss 3 t13_1 t12_1) fun t14_1 =>
  condM t14_1
  (pop P (Instr.indexAt 22 t11_1 t13_1) fun t16_1 =>
  rop P (Instr.loadAt 25 t16_1) h_3 fun t17_1 =>
  pop P (binE .eql 3 (.tmp 25) (.tmp 26) t13_1 sink1_1) fun t27_1 =>
  condM t27_1
  (eop P (Instr.buildSlice 25 1 #[(0, (Value.int IntKind.i64 0))]) h_3 fun t29_1 h_4 =>
  eop P (appS 25 25 25 out6_1 t29_1) h_4 fun t30_1 h_5 =>
  pop P (binA .add 3 t13_1 (Value.int IntKind.i64 1)) fun t35_1 =>
  I_1 [t30_1, t35_1] h_5 ∧ μ_1 [t30_1, t35_1] h_5 < μ_1 [out6_1, t13_1] h_3)
  (pop P (lenS 25 3 t17_1) fun t33_1 =>
  pop P (binE .eql 3 (.tmp 33) (.const (Value.int IntKind.i64 0)) t33_1 (Value.int IntKind.i64 0)) fun t34_1 =>
  condM t34_1
  (K (.tuple #[(Value.slice none 0 0), (Value.bool false)]) h_3)
  (pop P (Instr.indexAt 25 t17_1 (Value.int IntKind.i64 0)) fun t20_1 =>
  rop P (Instr.loadAt 3 t20_1) h_3 fun t21_1 =>
  eop P (Instr.buildSlice 25 1 #[(0, t21_1)]) h_3 fun t22_1 h_6 =>
  eop P (appS 25 25 25 out6_1 t22_1) h_6 fun t23_1 h_7 =>
  pop P (binA .add 3 t13_1 (Value.int IntKind.i64 1)) fun t35_2 =>
  I_1 [t23_1, t35_2] h_7 ∧ μ_1 [t23_1, t35_2] h_7 < μ_1 [out6_1, t13_1] h_3)))
  (K (.tuple #[out6_1, (Value.bool true)]) h_3)
theorem e104 (s0_1 : Value) (sink1_1 : Value) (h : Heap) (K : Value → Heap → Prop) : wpA Try.prog 37 (anOf [(58, [6, 13])]) (bodyOf Try.f104) 1 (fun A h => resA Try.prog A h K [.tmp 4, .tmp 5]) (fun _ _ _ => False) (fun A h => resA Try.prog A h K [.tmp 4, .tmp 5]) (aargs [s0_1, sink1_1] 0) h = t104 Try.prog s0_1 sink1_1 h K := by kernel_rfl
theorem c104 (s0_1 : Value) (sink1_1 : Value) (h : Heap) (K : Value → Heap → Prop) (H : t104 Try.prog s0_1 sink1_1 h K) : callM Try.prog 104 #[s0_1, sink1_1] h K :=
  callM_of_wpA mixed (fn := Try.f104) Try.func104 (c := bodyOf Try.f104) rfl (of_decide_eq_true (by kernel_rfl)) (anOf [(58, [6, 13])]) 35 37 (by kernel_rfl) rfl [.tmp 4, .tmp 5] (by kernel_rfl) (args := [s0_1, sink1_1]) (by rw [e104]; exact H)

/-! slices.ContainsFunc[[]int,int] -/
def t106 (P : Program) (s0_1 : Value) (f1_1 : Value) (h : Heap) (K : Value → Heap → Prop) : Prop :=
  callM P 138 #[s0_1, f1_1] h fun t7_1 h_1 =>
  pop P (binA .geq 3 t7_1 (Value.int IntKind.i64 0)) fun t8_1 =>
  K t8_1 h_1
theorem e106 (s0_1 : Value) (f1_1 : Value) (h : Heap) (K : Value → Heap → Prop) : wpA Try.prog 9 (anOf []) (bodyOf Try.f106) 1 (fun A h => resA Try.prog A h K [.tmp 4]) (fun _ _ _ => False) (fun A h => resA Try.prog A h K [.tmp 4]) (aargs [s0_1, f1_1] 0) h = t106 Try.prog s0_1 f1_1 h K := by kernel_rfl
theorem c106 (s0_1 : Value) (f1_1 : Value) (h : Heap) (K : Value → Heap → Prop) (H : t106 Try.prog s0_1 f1_1 h K) : callM Try.prog 106 #[s0_1, f1_1] h K :=
  callM_of_wpA mixed (fn := Try.f106) Try.func106 (c := bodyOf Try.f106) rfl (of_decide_eq_true (by kernel_rfl)) (anOf []) 7 9 (by kernel_rfl) rfl [.tmp 4] (by kernel_rfl) (args := [s0_1, f1_1]) (by rw [e106]; exact H)

/-! spec.l1In -/
def t109 (P : Program) (n0_1 : Value) (lo1_1 : Value) (hi2_1 : Value) (h : Heap) (K : Value → Heap → Prop) : Prop :=
  pop P (binA .geq 3 n0_1 lo1_1) fun t9_1 =>
  guardM t9_1 true (fun k_1 => k_1 n0_1 h) h fun t11_1 h_1 =>
  guardM t9_1 true (fun k_2 => k_2 hi2_1 h_1) h_1 fun t12_1 h_2 =>
  guardM t9_1 true (fun k_3 => pop P (binA .leq 3 t11_1 t12_1) fun t13_1 =>
  k_3 t13_1 h_2) h_2 fun t13_2 h_3 =>
  pop P (pickS t9_1 t13_2 (Value.bool false)) fun t14_1 =>
  K t14_1 h_3
theorem e109 (n0_1 : Value) (lo1_1 : Value) (hi2_1 : Value) (h : Heap) (K : Value → Heap → Prop) : wpA Try.prog 15 (anOf []) (bodyOf Try.f109) 1 (fun A h => resA Try.prog A h K [.tmp 6]) (fun _ _ _ => False) (fun A h => resA Try.prog A h K [.tmp 6]) (aargs [n0_1, lo1_1, hi2_1] 0) h = t109 Try.prog n0_1 lo1_1 hi2_1 h K := by kernel_rfl
theorem c109 (n0_1 : Value) (lo1_1 : Value) (hi2_1 : Value) (h : Heap) (K : Value → Heap → Prop) (H : t109 Try.prog n0_1 lo1_1 hi2_1 h K) : callM Try.prog 109 #[n0_1, lo1_1, hi2_1] h K :=
  callM_of_wpA mixed (fn := Try.f109) Try.func109 (c := bodyOf Try.f109) rfl (of_decide_eq_true (by kernel_rfl)) (anOf []) 12 15 (by kernel_rfl) rfl [.tmp 6] (by kernel_rfl) (args := [n0_1, lo1_1, hi2_1]) (by rw [e109]; exact H)

/-! impl.in -/
def t110 (P : Program) (n0_1 : Value) (low1_1 : Value) (high2_1 : Value) (h : Heap) (K : Value → Heap → Prop) : Prop :=
  pop P (binA .leq 3 low1_1 n0_1) fun t9_1 =>
  guardM t9_1 true (fun k_1 => k_1 n0_1 h) h fun t11_1 h_1 =>
  guardM t9_1 true (fun k_2 => k_2 high2_1 h_1) h_1 fun t12_1 h_2 =>
  guardM t9_1 true (fun k_3 => pop P (binA .leq 3 t11_1 t12_1) fun t13_1 =>
  k_3 t13_1 h_2) h_2 fun t13_2 h_3 =>
  pop P (pickS t9_1 t13_2 (Value.bool false)) fun t14_1 =>
  K t14_1 h_3
theorem e110 (n0_1 : Value) (low1_1 : Value) (high2_1 : Value) (h : Heap) (K : Value → Heap → Prop) : wpA Try.prog 15 (anOf []) (bodyOf Try.f110) 1 (fun A h => resA Try.prog A h K [.tmp 6]) (fun _ _ _ => False) (fun A h => resA Try.prog A h K [.tmp 6]) (aargs [n0_1, low1_1, high2_1] 0) h = t110 Try.prog n0_1 low1_1 high2_1 h K := by kernel_rfl
theorem c110 (n0_1 : Value) (low1_1 : Value) (high2_1 : Value) (h : Heap) (K : Value → Heap → Prop) (H : t110 Try.prog n0_1 low1_1 high2_1 h K) : callM Try.prog 110 #[n0_1, low1_1, high2_1] h K :=
  callM_of_wpA mixed (fn := Try.f110) Try.func110 (c := bodyOf Try.f110) rfl (of_decide_eq_true (by kernel_rfl)) (anOf []) 12 15 (by kernel_rfl) rfl [.tmp 6] (by kernel_rfl) (args := [n0_1, low1_1, high2_1]) (by rw [e110]; exact H)

/-! slices.Clone[[]int,int] -/
def t111 (P : Program) (s0_1 : Value) (h : Heap) (K : Value → Heap → Prop) : Prop :=
  pop P (binE .eql 25 (.tmp 3) (.const (Value.slice none 0 0)) s0_1 (Value.slice none 0 0)) fun t4_1 =>
  condM t4_1
  (K (Value.slice none 0 0) h)
  (eop P (Instr.buildSlice 25 0 #[]) h fun t5_1 h_1 =>
  eop P (appS 25 25 25 t5_1 s0_1) h_1 fun t7_1 h_2 =>
  K t7_1 h_2)
theorem e111 (s0_1 : Value) (h : Heap) (K : Value → Heap → Prop) : wpA Try.prog 8 (anOf []) (bodyOf Try.f111) 1 (fun A h => resA Try.prog A h K [.tmp 2]) (fun _ _ _ => False) (fun A h => resA Try.prog A h K [.tmp 2]) (aargs [s0_1] 0) h = t111 Try.prog s0_1 h K := by kernel_rfl
theorem c111 (s0_1 : Value) (h : Heap) (K : Value → Heap → Prop) (H : t111 Try.prog s0_1 h K) : callM Try.prog 111 #[s0_1] h K :=
  callM_of_wpA mixed (fn := Try.f111) Try.func111 (c := bodyOf Try.f111) rfl (of_decide_eq_true (by kernel_rfl)) (anOf []) 7 8 (by kernel_rfl) rfl [.tmp 2] (by kernel_rfl) (args := [s0_1]) (by rw [e111]; exact H)

/-! spec.l1Has -/
def t115 (P : Program) (l0_1 : Value) (n1_1 : Value) (h : Heap) (K : Value → Heap → Prop) : Prop :=
  pop P (lenS 25 3 l0_1) fun t8_1 =>
  ∃ (I_1 : List Value → Heap → Prop) (μ_1 : List Value → Heap → Nat), I_1 [(Value.int IntKind.i64 0)] h ∧
  ∀ (junk_1 : Nat → Value) (t9_1 : Value) (h_1 : Heap), I_1 [t9_1] h_1 →
  pop P (binA .lss 3 t9_1 t8_1) fun t10_1 =>
  condM t10_1
  (pop P (Instr.indexAt 25 l0_1 t9_1) fun t11_1 =>
  rop P (Instr.loadAt 3 t11_1) h_1 fun t12_1 =>
  pop P (binE .eql 3 (.tmp 13) (.tmp 14) t12_1 n1_1) fun t15_1 =>
  condM t15_1
  (K (Value.bool true) h_1)
  (pop P (binA .add 3 t9_1 (Value.int IntKind.i64 1)) fun t16_1 =>
  I_1 [t16_1] h_1 ∧ μ_1 [t16_1] h_1 < μ_1 [t9_1] h_1))
  (K (Value.bool false) h_1)
theorem e115 (l0_1 : Value) (n1_1 : Value) (h : Heap) (K : Value → Heap → Prop) : wpA Try.prog 17 (anOf [(26, [9])]) (bodyOf Try.f115) 1 (fun A h => resA Try.prog A h K [.tmp 4]) (fun _ _ _ => False) (fun A h => resA Try.prog A h K [.tmp 4]) (aargs [l0_1, n1_1] 0) h = t115 Try.prog l0_1 n1_1 h K := by kernel_rfl
theorem c115 (l0_1 : Value) (n1_1 : Value) (h : Heap) (K : Value → Heap → Prop) (H : t115 Try.prog l0_1 n1_1 h K) : callM Try.prog 115 #[l0_1, n1_1] h K :=
  callM_of_wpA mixed (fn := Try.f115) Try.func115 (c := bodyOf Try.f115) rfl (of_decide_eq_true (by kernel_rfl)) (anOf [(26, [9])]) 15 17 (by kernel_rfl) rfl [.tmp 4] (by kernel_rfl) (args := [l0_1, n1_1]) (by rw [e115]; exact H)

/-! spec.l1Own -/
def t116 (P : Program) (l0_1 : Value) (h : Heap) (K : Value → Heap → Prop) : Prop :=
  eop P (Instr.buildSlice 25 0 #[]) h fun t3_1 h_1 =>
  eop P (appS 25 25 25 t3_1 l0_1) h_1 fun t5_1 h_2 =>
  K t5_1 h_2
theorem e116 (l0_1 : Value) (h : Heap) (K : Value → Heap → Prop) : wpA Try.prog 6 (anOf []) (bodyOf Try.f116) 1 (fun A h => resA Try.prog A h K [.tmp 2]) (fun _ _ _ => False) (fun A h => resA Try.prog A h K [.tmp 2]) (aargs [l0_1] 0) h = t116 Try.prog l0_1 h K := by kernel_rfl
theorem c116 (l0_1 : Value) (h : Heap) (K : Value → Heap → Prop) (H : t116 Try.prog l0_1 h K) : callM Try.prog 116 #[l0_1] h K :=
  callM_of_wpA mixed (fn := Try.f116) Try.func116 (c := bodyOf Try.f116) rfl (of_decide_eq_true (by kernel_rfl)) (anOf []) 5 6 (by kernel_rfl) rfl [.tmp 2] (by kernel_rfl) (args := [l0_1]) (by rw [e116]; exact H)

/-! spec.grGood -/
def t119 (P : Program) (g0_1 : Value) (h : Heap) (K : Value → Heap → Prop) : Prop :=
  eop P (Instr.box 32 g0_1) h fun g1_1 h_1 =>
  pop P (Instr.fieldAt 32 g1_1 0) fun t6_1 =>
  rop P (Instr.loadAt 22 t6_1) h_1 fun t7_1 =>
  pop P (lenS 22 3 t7_1) fun t8_1 =>
  callM P 109 #[t8_1, (Value.int IntKind.i64 1), (Value.int IntKind.i64 8)] h_1 fun t10_1 h_2 =>
  pop P (Op.unary .not t10_1) fun t11_1 =>
  condM t11_1
  (K (Value.bool false) h_2)
  (pop P (Instr.fieldAt 32 g1_1 0) fun t12_1 =>
  rop P (Instr.loadAt 22 t12_1) h_2 fun t13_1 =>
  pop P (lenS 22 3 t13_1) fun t14_1 =>
  ∃ (I_1 : List Value → Heap → Prop) (μ_1 : List Value → Heap → Nat), I_1 [(Value.int IntKind.i64 0)] h_2 ∧
  ∀ (junk_1 : Nat → Value) (t15_1 : Value) (h_3 : Heap), I_1 [t15_1] h_3 →
  pop P (binA .lss 3 t15_1 t14_1) fun t16_1 =>
  condM t16_1
  (pop P (Instr.indexAt 22 t13_1 t15_1) fun t17_1 =>
  rop P (Instr.loadAt 25 t17_1) h_3 fun t18_1 =>
  pop P (lenS 25 3 t18_1) fun t20_1 =>
  pop P (binA .gtr 3 t20_1 (Value.int IntKind.i64 5)) fun t21_1 =>
  guardM t21_1 false (fun k_1 => k_1 t18_1 h_3) h_3 fun t23_1 h_4 =>
  guardM t21_1 false (fun k_2 => k_2 t8_1 h_4) h_4 fun t24_1 h_5 =>
  guardM t21_1 false (fun k_3 => pop P (binA .sub 3 t24_1 (Value.int IntKind.i64 1)) fun t25_1 =>
  k_3 t25_1 h_5) h_5 fun t25_2 h_6 =>
  guardM t21_1 false (fun k_4 => callM P 97 #[t23_1, (Value.int IntKind.i64 0), t25_2] h_6 fun t26_1 h_7 =>
  k_4 t26_1 h_7) h_6 fun t26_2 h_8 =>
  guardM t21_1 false (fun k_5 => pop P (Op.unary .not t26_2) fun t27_1 =>
  k_5 t27_1 h_8) h_8 fun t27_2 h_9 =>
  pop P (pickS t21_1 (Value.bool true) t27_2) fun t28_1 =>
  condM t28_1
  (K (Value.bool false) h_9)
  (pop P (binA .add 3 t15_1 (Value.int IntKind.i64 1)) fun t29_1 =>
  I_1 [t29_1] h_9 ∧ μ_1 [t29_1] h_9 < μ_1 [t15_1] h_3))
  (K (Value.bool true) h_3))
theorem e119 (g0_1 : Value) (h : Heap) (K : Value → Heap → Prop) : wpA Try.prog 30 (anOf [(122, [15])]) (bodyOf Try.f119) 1 (fun A h => resA Try.prog A h K [.tmp 2]) (fun _ _ _ => False) (fun A h => resA Try.prog A h K [.tmp 2]) (aargs [g0_1] 0) h = t119 Try.prog g0_1 h K := by kernel_rfl
theorem c119 (g0_1 : Value) (h : Heap) (K : Value → Heap → Prop) (H : t119 Try.prog g0_1 h K) : callM Try.prog 119 #[g0_1] h K :=
  callM_of_wpA mixed (fn := Try.f119) Try.func119 (c := bodyOf Try.f119) rfl (of_decide_eq_true (by kernel_rfl)) (anOf [(122, [15])]) 29 30 (by kernel_rfl) rfl [.tmp 2] (by kernel_rfl) (args := [g0_1]) (by rw [e119]; exact H)

/-! spec.skNext -/
def t120 (P : Program) (g0_1 : Value) (s1_1 : Value) (p2_1 : Value) (h : Heap) (K : Value → Heap → Prop) : Prop :=
  eop P (Instr.box 32 g0_1) h fun g3_1 h_1 =>
  eop P (Instr.box 49 s1_1) h_1 fun s4_1 h_2 =>
  pop P (Instr.fieldAt 49 s4_1 0) fun t7_1 =>
  rop P (Instr.loadAt 22 t7_1) h_2 fun t8_1 =>
  pop P (Instr.indexAt 22 t8_1 p2_1) fun t10_1 =>
  rop P (Instr.loadAt 25 t10_1) h_2 fun t11_1 =>
  pop P (lenS 25 3 t11_1) fun t12_1 =>
  pop P (binE .eql 3 (.tmp 12) (.const (Value.int IntKind.i64 0)) t12_1 (Value.int IntKind.i64 0)) fun t13_1 =>
  condM t13_1
  (K (Value.int IntKind.i64 (-1)) h_2)
  (pop P (Instr.fieldAt 32 g3_1 0) fun t14_1 =>
  rop P (Instr.loadAt 22 t14_1) h_2 fun t15_1 =>
  pop P (Instr.indexAt 22 t15_1 p2_1) fun t17_1 =>
  rop P (Instr.loadAt 25 t17_1) h_2 fun t18_1 =>
  pop P (Instr.fieldAt 49 s4_1 0) fun t19_1 =>
  rop P (Instr.loadAt 22 t19_1) h_2 fun t20_1 =>
  pop P (Instr.indexAt 22 t20_1 p2_1) fun t22_1 =>
  rop P (Instr.loadAt 25 t22_1) h_2 fun t23_1 =>
  pop P (Instr.indexAt 25 t23_1 (Value.int IntKind.i64 0)) fun t24_1 =>
  rop P (Instr.loadAt 3 t24_1) h_2 fun t25_1 =>
  pop P (Instr.indexAt 25 t18_1 t25_1) fun t26_1 =>
  rop P (Instr.loadAt 3 t26_1) h_2 fun t27_1 =>
  K t27_1 h_2)
theorem e120 (g0_1 : Value) (s1_1 : Value) (p2_1 : Value) (h : Heap) (K : Value → Heap → Prop) : wpA Try.prog 28 (anOf []) (bodyOf Try.f120) 1 (fun A h => resA Try.prog A h K [.tmp 6]) (fun _ _ _ => False) (fun A h => resA Try.prog A h K [.tmp 6]) (aargs [g0_1, s1_1, p2_1] 0) h = t120 Try.prog g0_1 s1_1 p2_1 h K := by kernel_rfl
theorem c120 (g0_1 : Value) (s1_1 : Value) (p2_1 : Value) (h : Heap) (K : Value → Heap → Prop) (H : t120 Try.prog g0_1 s1_1 p2_1 h K) : callM Try.prog 120 #[g0_1, s1_1, p2_1] h K :=
  callM_of_wpA mixed (fn := Try.f120) Try.func120 (c := bodyOf Try.f120) rfl (of_decide_eq_true (by kernel_rfl)) (anOf []) 25 28 (by kernel_rfl) rfl [.tmp 6] (by kernel_rfl) (args := [g0_1, s1_1, p2_1]) (by rw [e120]; exact H)

/-! impl.areStacks$1 -/
def t121 (P : Program) (k0_1 : Value) (t1_1 : Value) (t2_1 : Value) (h : Heap) (K : Value → Heap → Prop) : Prop :=
  pop P (Instr.fieldAt 32 t1_1 0) fun t6_1 =>
  rop P (Instr.loadAt 22 t6_1) h fun t7_1 =>
  rop P (Instr.loadAt 3 t2_1) h fun t8_1 =>
  pop P (Instr.indexAt 22 t7_1 t8_1) fun t9_1 =>
  rop P (Instr.loadAt 25 t9_1) h fun t10_1 =>
  pop P (lenS 25 3 t10_1) fun t11_1 =>
  pop P (binA .sub 3 t11_1 (Value.int IntKind.i64 1)) fun t12_1 =>
  callM P 110 #[k0_1, (Value.int IntKind.i64 0), t12_1] h fun t13_1 h_1 =>
  pop P (Op.unary .not t13_1) fun t14_1 =>
  K t14_1 h_1
theorem e121 (k0_1 : Value) (t1_1 : Value) (t2_1 : Value) (h : Heap) (K : Value → Heap → Prop) : wpA Try.prog 15 (anOf []) (bodyOf Try.f121) 1 (fun A h => resA Try.prog A h K [.tmp 4]) (fun _ _ _ => False) (fun A h => resA Try.prog A h K [.tmp 4]) (aargs [k0_1, t1_1, t2_1] 0) h = t121 Try.prog k0_1 t1_1 t2_1 h K := by kernel_rfl
theorem c121 (k0_1 : Value) (t1_1 : Value) (t2_1 : Value) (h : Heap) (K : Value → Heap → Prop) (H : t121 Try.prog k0_1 t1_1 t2_1 h K) : callM Try.prog 121 #[k0_1, t1_1, t2_1] h K :=
  callM_of_wpA mixed (fn := Try.f121) Try.func121 (c := bodyOf Try.f121) rfl (of_decide_eq_true (by kernel_rfl)) (anOf []) 12 15 (by kernel_rfl) rfl [.tmp 4] (by kernel_rfl) (args := [k0_1, t1_1, t2_1]) (by rw [e121]; exact H)

/-! impl.isGraph -/
def t122 (P : Program) (g0_1 : Value) (h : Heap) (K : Value → Heap → Prop) : Prop :=
  eop P (Instr.box 32 g0_1) h fun g1_1 h_1 =>
  pop P (Instr.fieldAt 32 g1_1 0) fun t6_1 =>
  rop P (Instr.loadAt 22 t6_1) h_1 fun t7_1 =>
  pop P (lenS 22 3 t7_1) fun t8_1 =>
  eop P (Instr.alloc 3 true (.tuple #[])) h_1 fun n3_1 h_2 =>
  uop P (Instr.storeAt 3 n3_1 t8_1) h_2 fun u_1 h_3 =>
  rop P (Instr.loadAt 3 n3_1) h_3 fun t9_1 =>
  callM P 110 #[t9_1, (Value.int IntKind.i64 1), (Value.int IntKind.i64 8)] h_3 fun t10_1 h_4 =>
  pop P (Op.unary .not t10_1) fun t11_1 =>
  condM t11_1
  (K (Value.bool false) h_4)
  (pop P (Instr.fieldAt 32 g1_1 0) fun t12_1 =>
  rop P (Instr.loadAt 22 t12_1) h_4 fun t13_1 =>
  pop P (lenS 22 3 t13_1) fun t14_1 =>
  ∃ (I_1 : List Value → Heap → Prop) (μ_1 : List Value → Heap → Nat), I_1 [(Value.int IntKind.i64 0)] h_4 ∧
  ∀ (junk_1 : Nat → Value) (t15_1 : Value) (h_5 : Heap), I_1 [t15_1] h_5 →
  pop P (binA .lss 3 t15_1 t14_1) fun t16_1 =>
  condM t16_1
  (pop P (Instr.indexAt 22 t13_1 t15_1) fun t17_1 =>
  rop P (Instr.loadAt 25 t17_1) h_5 fun t18_1 =>
  pop P (lenS 25 3 t18_1) fun t20_1 =>
  pop P (binA .gtr 3 t20_1 (Value.int IntKind.i64 5)) fun t21_1 =>
  guardM t21_1 false (fun k_1 => k_1 t18_1 h_5) h_5 fun t23_1 h_6 =>
  guardM t21_1 false (fun k_2 => pop P (Instr.makeFunc (Fn.func 141) #[] #[n3_1]) fun t24_1 =>
  k_2 t24_1 h_6) h_6 fun t24_2 h_7 =>
  guardM t21_1 false (fun k_3 => callM P 106 #[t23_1, t24_2] h_7 fun t25_1 h_8 =>
  k_3 t25_1 h_8) h_7 fun t25_2 h_9 =>
  pop P (pickS t21_1 (Value.bool true) t25_2) fun t26_1 =>
  condM t26_1
  (K (Value.bool false) h_9)
  (pop P (binA .add 3 t15_1 (Value.int IntKind.i64 1)) fun t27_1 =>
  I_1 [t27_1] h_9 ∧ μ_1 [t27_1] h_9 < μ_1 [t15_1] h_5))
  (K (Value.bool true) h_5))
theorem e122 (g0_1 : Value) (h : Heap) (K : Value → Heap → Prop) : wpA Try.prog 28 (anOf [(122, [15])]) (bodyOf Try.f122) 1 (fun A h => resA Try.prog A h K [.tmp 2]) (fun _ _ _ => False) (fun A h => resA Try.prog A h K [.tmp 2]) (aargs [g0_1] 0) h = t122 Try.prog g0_1 h K := by kernel_rfl
theorem c122 (g0_1 : Value) (h : Heap) (K : Value → Heap → Prop) (H : t122 Try.prog g0_1 h K) : callM Try.prog 122 #[g0_1] h K :=
  callM_of_wpA mixed (fn := Try.f122) Try.func122 (c := bodyOf Try.f122) rfl (of_decide_eq_true (by kernel_rfl)) (anOf [(122, [15])]) 27 28 (by kernel_rfl) rfl [.tmp 2] (by kernel_rfl) (args := [g0_1]) (by rw [e122]; exact H)

/-! impl.has$1 -/
def t123 (P : Program) (p0_1 : Value) (t1_1 : Value) (h : Heap) (K : Value → Heap → Prop) : Prop :=
  pop P (Instr.fieldAt 32 t1_1 0) fun t5_1 =>
  rop P (Instr.loadAt 22 t5_1) h fun t6_1 =>
  pop P (lenS 22 3 t6_1) fun t7_1 =>
  pop P (binA .sub 3 t7_1 (Value.int IntKind.i64 1)) fun t8_1 =>
  callM P 110 #[p0_1, (Value.int IntKind.i64 0), t8_1] h fun t9_1 h_1 =>
  pop P (Op.unary .not t9_1) fun t10_1 =>
  K t10_1 h_1
theorem e123 (p0_1 : Value) (t1_1 : Value) (h : Heap) (K : Value → Heap → Prop) : wpA Try.prog 11 (anOf []) (bodyOf Try.f123) 1 (fun A h => resA Try.prog A h K [.tmp 3]) (fun _ _ _ => False) (fun A h => resA Try.prog A h K [.tmp 3]) (aargs [p0_1, t1_1] 0) h = t123 Try.prog p0_1 t1_1 h K := by kernel_rfl
theorem c123 (p0_1 : Value) (t1_1 : Value) (h : Heap) (K : Value → Heap → Prop) (H : t123 Try.prog p0_1 t1_1 h K) : callM Try.prog 123 #[p0_1, t1_1] h K :=
  callM_of_wpA mixed (fn := Try.f123) Try.func123 (c := bodyOf Try.f123) rfl (of_decide_eq_true (by kernel_rfl)) (anOf []) 9 11 (by kernel_rfl) rfl [.tmp 3] (by kernel_rfl) (args := [p0_1, t1_1]) (by rw [e123]; exact H)

/-! slices.Index[[]int,int] -/
def t124 (P : Program) (s0_1 : Value) (v1_1 : Value) (h : Heap) (K : Value → Heap → Prop) : Prop :=
  pop P (lenS 25 3 s0_1) fun t7_1 =>
  ∃ (I_1 : List Value → Heap → Prop) (μ_1 : List Value → Heap → Nat), I_1 [(Value.int IntKind.i64 0)] h ∧
  ∀ (junk_1 : Nat → Value) (t8_1 : Value) (h_1 : Heap), I_1 [t8_1] h_1 →
  pop P (binA .lss 3 t8_1 t7_1) fun t9_1 =>
  condM t9_1
  (pop P (Instr.indexAt 25 s0_1 t8_1) fun t14_1 =>
  rop P (Instr.loadAt 3 t14_1) h_1 fun t15_1 =>
  pop P (binE .eql 3 (.tmp 11) (.tmp 15) v1_1 t15_1) fun t16_1 =>
  condM t16_1
  (K t8_1 h_1)
  (pop P (binA .add 3 t8_1 (Value.int IntKind.i64 1)) fun t18_1 =>
  I_1 [t18_1] h_1 ∧ μ_1 [t18_1] h_1 < μ_1 [t8_1] h_1))
  (K (Value.int IntKind.i64 (-1)) h_1)
theorem e124 (s0_1 : Value) (v1_1 : Value) (h : Heap) (K : Value → Heap → Prop) : wpA Try.prog 19 (anOf [(26, [8])]) (bodyOf Try.f124) 1 (fun A h => resA Try.prog A h K [.tmp 4]) (fun _ _ _ => False) (fun A h => resA Try.prog A h K [.tmp 4]) (aargs [s0_1, v1_1] 0) h = t124 Try.prog s0_1 v1_1 h K := by kernel_rfl
theorem c124 (s0_1 : Value) (v1_1 : Value) (h : Heap) (K : Value → Heap → Prop) (H : t124 Try.prog s0_1 v1_1 h K) : callM Try.prog 124 #[s0_1, v1_1] h K :=
  callM_of_wpA mixed (fn := Try.f124) Try.func124 (c := bodyOf Try.f124) rfl (of_decide_eq_true (by kernel_rfl)) (anOf [(26, [8])]) 17 19 (by kernel_rfl) rfl [.tmp 4] (by kernel_rfl) (args := [s0_1, v1_1]) (by rw [e124]; exact H)

/-! slices.Min[[]int,int] -/
def t125 (P : Program) (x0_1 : Value) (h : Heap) (K : Value → Heap → Prop) : Prop :=
  ∃ J_1 : List Value → Heap → Prop, (pop P (lenS 25 3 x0_1) fun t6_1 =>
  pop P (binA .lss 3 t6_1 (Value.int IntKind.i64 1)) fun t7_1 =>
  condM t7_1
  (pop P (Instr.makeInterface 9 (Value.string { data := #[115, 108, 105, 99, 101, 115, 46, 77, 105, 110, 58, 32, 101, 109, 112, 116, 121, 32, 108, 105, 115, 116] })) fun t8_1 =>
  False)
  (J_1 [] h)) ∧
  ∀ (junk_1 : Nat → Value) (h_1 : Heap), J_1 [] h_1 →
  pop P (Instr.indexAt 25 x0_1 (Value.int IntKind.i64 0)) fun t10_1 =>
  rop P (Instr.loadAt 3 t10_1) h_1 fun t11_1 =>
  ∃ (I_1 : List Value → Heap → Prop) (μ_1 : List Value → Heap → Nat), I_1 [t11_1, (Value.int IntKind.i64 1)] h_1 ∧
  ∀ (junk_2 : Nat → Value) (m3_1 : Value) (i4_1 : Value) (h_2 : Heap), I_1 [m3_1, i4_1] h_2 →
  pop P (lenS 25 3 x0_1) fun t14_1 =>
  pop P (binA .lss 3 i4_1 t14_1) fun t15_1 =>
  condM t15_1
  (pop P (Instr.indexAt 25 x0_1 i4_1) fun t21_1 =>
  rop P (Instr.loadAt 3 t21_1) h_2 fun t22_1 =>
  pop P (Builtin.min_ #[3, 3] 3 #[m3_1, t22_1]) fun t23_1 =>
  pop P (binA .add 3 i4_1 (Value.int IntKind.i64 1)) fun t17_1 =>
  I_1 [t23_1, t17_1] h_2 ∧ μ_1 [t23_1, t17_1] h_2 < μ_1 [m3_1, i4_1] h_2)
  (K m3_1 h_2)
theorem e125 (x0_1 : Value) (h : Heap) (K : Value → Heap → Prop) : wpA Try.prog 25 (anOf [(3, []), (122, [3, 4])]) (bodyOf Try.f125) 1 (fun A h => resA Try.prog A h K [.tmp 2]) (fun _ _ _ => False) (fun A h => resA Try.prog A h K [.tmp 2]) (aargs [x0_1] 0) h = t125 Try.prog x0_1 h K := by kernel_rfl
theorem c125 (x0_1 : Value) (h : Heap) (K : Value → Heap → Prop) (H : t125 Try.prog x0_1 h K) : callM Try.prog 125 #[x0_1] h K :=
  callM_of_wpA mixed (fn := Try.f125) Try.func125 (c := bodyOf Try.f125) rfl (of_decide_eq_true (by kernel_rfl)) (anOf [(3, []), (122, [3, 4])]) 24 25 (by kernel_rfl) rfl [.tmp 2] (by kernel_rfl) (args := [x0_1]) (by rw [e125]; exact H)

/-! slices.Concat[[]int,int] -/
def t126 (P : Program) (slices0_1 : Value) (h : Heap) (K : Value → Heap → Prop) : Prop :=
  pop P (lenS 22 3 slices0_1) fun t10_1 =>
  ∃ (I_1 : List Value → Heap → Prop) (μ_1 : List Value → Heap → Nat), I_1 [(Value.int IntKind.i64 0), (Value.int IntKind.i64 0)] h ∧
  ∀ (junk_1 : Nat → Value) (size3_1 : Value) (t11_1 : Value) (h_1 : Heap), I_1 [size3_1, t11_1] h_1 →
  pop P (binA .lss 3 t11_1 t10_1) fun t12_1 =>
  condM t12_1
  (pop P (Instr.indexAt 22 slices0_1 t11_1) fun t13_1 =>
  rop P (Instr.loadAt 25 t13_1) h_1 fun t14_1 =>
  pop P (lenS 25 3 t14_1) fun t17_1 =>
  pop P (binA .add 3 size3_1 t17_1) fun t18_1 =>
  pop P (binA .lss 3 t18_1 (Value.int IntKind.i64 0)) fun t20_1 =>
  condM t20_1
  (pop P (Instr.makeInterface 9 (Value.string { data := #[108, 101, 110, 32, 111, 117, 116, 32, 111, 102, 32, 114, 97, 110, 103, 101] })) fun t21_1 =>
  False)
  (pop P (binA .add 3 t11_1 (Value.int IntKind.i64 1)) fun t22_1 =>
  I_1 [t18_1, t22_1] h_1 ∧ μ_1 [t18_1, t22_1] h_1 < μ_1 [size3_1, t11_1] h_1))
  (callM P 142 #[(Value.slice none 0 0), size3_1] h_1 fun t24_1 h_2 =>
  pop P (lenS 22 3 slices0_1) fun t26_1 =>
  ∃ (I_2 : List Value → Heap → Prop) (μ_2 : List Value → Heap → Nat), I_2 [t24_1, (Value.int IntKind.i64 0)] h_2 ∧
  ∀ (junk_2 : Nat → Value) (newslice6_1 : Value) (t27_1 : Value) (h_3 : Heap), I_2 [newslice6_1, t27_1] h_3 →
  pop P (binA .lss 3 t27_1 t26_1) fun t28_1 =>
  condM t28_1
  (pop P (Instr.indexAt 22 slices0_1 t27_1) fun t29_1 =>
  rop P (Instr.loadAt 25 t29_1) h_3 fun t30_1 =>
  eop P (appS 25 25 25 newslice6_1 t30_1) h_3 fun t33_1 h_4 =>
  pop P (binA .add 3 t27_1 (Value.int IntKind.i64 1)) fun t34_1 =>
  I_2 [t33_1, t34_1] h_4 ∧ μ_2 [t33_1, t34_1] h_4 < μ_2 [newslice6_1, t27_1] h_3)
  (K newslice6_1 h_3))
theorem e126 (slices0_1 : Value) (h : Heap) (K : Value → Heap → Prop) : wpA Try.prog 36 (anOf [(58, [3, 11]), (250, [6, 27])]) (bodyOf Try.f126) 1 (fun A h => resA Try.prog A h K [.tmp 2]) (fun _ _ _ => False) (fun A h => resA Try.prog A h K [.tmp 2]) (aargs [slices0_1] 0) h = t126 Try.prog slices0_1 h K := by kernel_rfl
theorem c126 (slices0_1 : Value) (h : Heap) (K : Value → Heap → Prop) (H : t126 Try.prog slices0_1 h K) : callM Try.prog 126 #[slices0_1] h K :=
  callM_of_wpA mixed (fn := Try.f126) Try.func126 (c := bodyOf Try.f126) rfl (of_decide_eq_true (by kernel_rfl)) (anOf [(58, [3, 11]), (250, [6, 27])]) 35 36 (by kernel_rfl) rfl [.tmp 2] (by kernel_rfl) (args := [slices0_1]) (by rw [e126]; exact H)

/-! spec.skCycles -/
def t127 (P : Program) (g0_1 : Value) (s1_1 : Value) (h : Heap) (K : Value → Heap → Prop) : Prop :=
  eop P (Instr.box 32 g0_1) h fun g2_1 h_1 =>
  eop P (Instr.box 49 s1_1) h_1 fun s3_1 h_2 =>
  pop P (Instr.fieldAt 32 g2_1 0) fun t8_1 =>
  rop P (Instr.loadAt 22 t8_1) h_2 fun t9_1 =>
  pop P (lenS 22 3 t9_1) fun t10_1 =>
  ∃ (I_1 : List Value → Heap → Prop) (μ_1 : List Value → Heap → Nat), I_1 [(Value.slice none 0 0), (Value.int IntKind.i64 0)] h_2 ∧
  ∀ (junk_1 : Nat → Value) (out5_1 : Value) (t11_1 : Value) (h_3 : Heap), I_1 [out5_1, t11_1] h_3 →
  pop P (binA .lss 3 t11_1 t10_1) fun t12_1 =>
  condM t12_1
  (rop P (Instr.loadAt 32 g2_1) h_3 fun t14_1 =>
  rop P (Instr.loadAt 49 s3_1) h_3 fun t15_1 =>
  callM P 82 #[t14_1, t15_1, t11_1] h_3 fun t17_1 h_4 =>
  pop P (lenS 25 3 t17_1) fun t19_1 =>
  pop P (binA .gtr 3 t19_1 (Value.int IntKind.i64 0)) fun t20_1 =>
  guardM t20_1 true (fun k_1 => k_1 t17_1 h_4) h_4 fun t22_1 h_5 =>
  guardM t20_1 true (fun k_2 => pop P (Instr.indexAt 25 t22_1 (Value.int IntKind.i64 0)) fun t23_1 =>
  k_2 t23_1 h_5) h_5 fun t23_2 h_6 =>
  guardM t20_1 true (fun k_3 => rop P (Instr.loadAt 3 t23_2) h_6 fun t24_1 =>
  k_3 t24_1 h_6) h_6 fun t24_2 h_7 =>
  guardM t20_1 true (fun k_4 => k_4 t11_1 h_7) h_7 fun t25_1 h_8 =>
  guardM t20_1 true (fun k_5 => pop P (binE .eql 3 (.tmp 24) (.tmp 25) t24_2 t25_1) fun t26_1 =>
  k_5 t26_1 h_8) h_8 fun t26_2 h_9 =>
  pop P (pickS t20_1 t26_2 (Value.bool false)) fun t27_1 =>
  condM t27_1
  (eop P (Instr.buildSlice 22 1 #[(0, t17_1)]) h_9 fun t30_1 h_10 =>
  eop P (appS 22 22 22 out5_1 t30_1) h_10 fun t31_1 h_11 =>
  pop P (binA .add 3 t11_1 (Value.int IntKind.i64 1)) fun t32_1 =>
  I_1 [t31_1, t32_1] h_11 ∧ μ_1 [t31_1, t32_1] h_11 < μ_1 [out5_1, t11_1] h_3)
  (pop P (binA .add 3 t11_1 (Value.int IntKind.i64 1)) fun t32_2 =>
  I_1 [out5_1, t32_2] h_9 ∧ μ_1 [out5_1, t32_2] h_9 < μ_1 [out5_1, t11_1] h_3))
  (K out5_1 h_3)
theorem e127 (g0_1 : Value) (s1_1 : Value) (h : Heap) (K : Value → Heap → Prop) : wpA Try.prog 34 (anOf [(58, [5, 11])]) (bodyOf Try.f127) 1 (fun A h => resA Try.prog A h K [.tmp 4]) (fun _ _ _ => False) (fun A h => resA Try.prog A h K [.tmp 4]) (aargs [g0_1, s1_1] 0) h = t127 Try.prog g0_1 s1_1 h K := by kernel_rfl
theorem c127 (g0_1 : Value) (s1_1 : Value) (h : Heap) (K : Value → Heap → Prop) (H : t127 Try.prog g0_1 s1_1 h K) : callM Try.prog 127 #[g0_1, s1_1] h K :=
  callM_of_wpA mixed (fn := Try.f127) Try.func127 (c := bodyOf Try.f127) rfl (of_decide_eq_true (by kernel_rfl)) (anOf [(58, [5, 11])]) 32 34 (by kernel_rfl) rfl [.tmp 4] (by kernel_rfl) (args := [g0_1, s1_1]) (by rw [e127]; exact H)

/-! impl.popped$1 -/
def t128 (P : Program) (c0_1 : Value) (h : Heap) (K : Value → Heap → Prop) : Prop :=
  pop P (binA .lss 3 c0_1 (Value.int IntKind.i64 0)) fun t4_1 =>
  K t4_1 h
theorem e128 (c0_1 : Value) (h : Heap) (K : Value → Heap → Prop) : wpA Try.prog 5 (anOf []) (bodyOf Try.f128) 1 (fun A h => resA Try.prog A h K [.tmp 2]) (fun _ _ _ => False) (fun A h => resA Try.prog A h K [.tmp 2]) (aargs [c0_1] 0) h = t128 Try.prog c0_1 h K := by kernel_rfl
theorem c128 (c0_1 : Value) (h : Heap) (K : Value → Heap → Prop) (H : t128 Try.prog c0_1 h K) : callM Try.prog 128 #[c0_1] h K :=
  callM_of_wpA mixed (fn := Try.f128) Try.func128 (c := bodyOf Try.f128) rfl (of_decide_eq_true (by kernel_rfl)) (anOf []) 4 5 (by kernel_rfl) rfl [.tmp 2] (by kernel_rfl) (args := [c0_1]) (by rw [e128]; exact H)

/-! (impl.Stacks).cycles -/
def t129 (P : Program) (s0_1 : Value) (g1_1 : Value) (h : Heap) (K : Value → Heap → Prop) : Prop :=
  eop P (Instr.box 49 s0_1) h fun s2_1 h_1 =>
  eop P (Instr.box 32 g1_1) h_1 fun g3_1 h_2 =>
  eop P (Instr.buildSlice 22 0 #[]) h_2 fun t8_1 h_3 =>
  pop P (Instr.fieldAt 32 g3_1 0) fun t9_1 =>
  rop P (Instr.loadAt 22 t9_1) h_3 fun t10_1 =>
  pop P (lenS 22 3 t10_1) fun t11_1 =>
  ∃ (I_1 : List Value → Heap → Prop) (μ_1 : List Value → Heap → Nat), I_1 [t8_1, (Value.int IntKind.i64 0)] h_3 ∧
  ∀ (junk_1 : Nat → Value) (out5_1 : Value) (t12_1 : Value) (h_4 : Heap), I_1 [out5_1, t12_1] h_4 →
  pop P (binA .lss 3 t12_1 t11_1) fun t13_1 =>
  condM t13_1
  (rop P (Instr.loadAt 49 s2_1) h_4 fun t15_1 =>
  rop P (Instr.loadAt 32 g3_1) h_4 fun t16_1 =>
  callM P 86 #[t15_1, t16_1, t12_1] h_4 fun t18_1 h_5 =>
  pop P (binE .neq 25 (.tmp 19) (.const (Value.slice none 0 0)) t18_1 (Value.slice none 0 0)) fun t20_1 =>
  guardM t20_1 true (fun k_1 => k_1 t18_1 h_5) h_5 fun t22_1 h_6 =>
  guardM t20_1 true (fun k_2 => pop P (Instr.indexAt 25 t22_1 (Value.int IntKind.i64 0)) fun t23_1 =>
  k_2 t23_1 h_6) h_6 fun t23_2 h_7 =>
  guardM t20_1 true (fun k_3 => rop P (Instr.loadAt 3 t23_2) h_7 fun t24_1 =>
  k_3 t24_1 h_7) h_7 fun t24_2 h_8 =>
  guardM t20_1 true (fun k_4 => k_4 t12_1 h_8) h_8 fun t25_1 h_9 =>
  guardM t20_1 true (fun k_5 => pop P (binE .eql 3 (.tmp 24) (.tmp 25) t24_2 t25_1) fun t26_1 =>
  k_5 t26_1 h_9) h_9 fun t26_2 h_10 =>
  pop P (pickS t20_1 t26_2 (Value.bool false)) fun t27_1 =>
  condM t27_1
  (eop P (Instr.buildSlice 22 1 #[(0, t18_1)]) h_10 fun t30_1 h_11 =>
  eop P (appS 22 22 22 out5_1 t30_1) h_11 fun t31_1 h_12 =>
  pop P (binA .add 3 t12_1 (Value.int IntKind.i64 1)) fun t32_1 =>
  I_1 [t31_1, t32_1] h_12 ∧ μ_1 [t31_1, t32_1] h_12 < μ_1 [out5_1, t12_1] h_4)
  (pop P (binA .add 3 t12_1 (Value.int IntKind.i64 1)) fun t32_2 =>
  I_1 [out5_1, t32_2] h_10 ∧ μ_1 [out5_1, t32_2] h_10 < μ_1 [out5_1, t12_1] h_4))
  (K out5_1 h_4)
theorem e129 (s0_1 : Value) (g1_1 : Value) (h : Heap) (K : Value → Heap → Prop) : wpA Try.prog 34 (anOf [(58, [5, 12])]) (bodyOf Try.f129) 1 (fun A h => resA Try.prog A h K [.tmp 4]) (fun _ _ _ => False) (fun A h => resA Try.prog A h K [.tmp 4]) (aargs [s0_1, g1_1] 0) h = t129 Try.prog s0_1 g1_1 h K := by kernel_rfl
theorem c129 (s0_1 : Value) (g1_1 : Value) (h : Heap) (K : Value → Heap → Prop) (H : t129 Try.prog s0_1 g1_1 h K) : callM Try.prog 129 #[s0_1, g1_1] h K :=
  callM_of_wpA mixed (fn := Try.f129) Try.func129 (c := bodyOf Try.f129) rfl (of_decide_eq_true (by kernel_rfl)) (anOf [(58, [5, 12])]) 32 34 (by kernel_rfl) rfl [.tmp 4] (by kernel_rfl) (args := [s0_1, g1_1]) (by rw [e129]; exact H)

/-! slices.IndexFunc[[]int,int] -/
def t138 (P : Program) (s0_1 : Value) (f1_1 : Value) (h : Heap) (K : Value → Heap → Prop) : Prop :=
  pop P (lenS 25 3 s0_1) fun t7_1 =>
  ∃ (I_1 : List Value → Heap → Prop) (μ_1 : List Value → Heap → Nat), I_1 [(Value.int IntKind.i64 0)] h ∧
  ∀ (junk_1 : Nat → Value) (t8_1 : Value) (h_1 : Heap), I_1 [t8_1] h_1 →
  pop P (binA .lss 3 t8_1 t7_1) fun t9_1 =>
  condM t9_1
  (pop P (Instr.indexAt 25 s0_1 t8_1) fun t14_1 =>
  rop P (Instr.loadAt 3 t14_1) h_1 fun t15_1 =>
  callV P f1_1 [t15_1] h_1 fun t16_1 h_2 =>
  condM t16_1
  (K t8_1 h_2)
  (pop P (binA .add 3 t8_1 (Value.int IntKind.i64 1)) fun t18_1 =>
  I_1 [t18_1] h_2 ∧ μ_1 [t18_1] h_2 < μ_1 [t8_1] h_1))
  (K (Value.int IntKind.i64 (-1)) h_1)
theorem e138 (s0_1 : Value) (f1_1 : Value) (h : Heap) (K : Value → Heap → Prop) : wpA Try.prog 19 (anOf [(26, [8])]) (bodyOf Try.f138) 1 (fun A h => resA Try.prog A h K [.tmp 4]) (fun _ _ _ => False) (fun A h => resA Try.prog A h K [.tmp 4]) (aargs [s0_1, f1_1] 0) h = t138 Try.prog s0_1 f1_1 h K := by kernel_rfl
theorem c138 (s0_1 : Value) (f1_1 : Value) (h : Heap) (K : Value → Heap → Prop) (H : t138 Try.prog s0_1 f1_1 h K) : callM Try.prog 138 #[s0_1, f1_1] h K :=
  callM_of_wpA mixed (fn := Try.f138) Try.func138 (c := bodyOf Try.f138) rfl (of_decide_eq_true (by kernel_rfl)) (anOf [(26, [8])]) 17 19 (by kernel_rfl) rfl [.tmp 4] (by kernel_rfl) (args := [s0_1, f1_1]) (by rw [e138]; exact H)

/-! impl.isGraph$1 -/
def t141 (P : Program) (q0_1 : Value) (t1_1 : Value) (h : Heap) (K : Value → Heap → Prop) : Prop :=
  rop P (Instr.loadAt 3 t1_1) h fun t5_1 =>
  pop P (binA .sub 3 t5_1 (Value.int IntKind.i64 1)) fun t6_1 =>
  callM P 110 #[q0_1, (Value.int IntKind.i64 0), t6_1] h fun t7_1 h_1 =>
  pop P (Op.unary .not t7_1) fun t8_1 =>
  K t8_1 h_1
theorem e141 (q0_1 : Value) (t1_1 : Value) (h : Heap) (K : Value → Heap → Prop) : wpA Try.prog 9 (anOf []) (bodyOf Try.f141) 1 (fun A h => resA Try.prog A h K [.tmp 3]) (fun _ _ _ => False) (fun A h => resA Try.prog A h K [.tmp 3]) (aargs [q0_1, t1_1] 0) h = t141 Try.prog q0_1 t1_1 h K := by kernel_rfl
theorem c141 (q0_1 : Value) (t1_1 : Value) (h : Heap) (K : Value → Heap → Prop) (H : t141 Try.prog q0_1 t1_1 h K) : callM Try.prog 141 #[q0_1, t1_1] h K :=
  callM_of_wpA mixed (fn := Try.f141) Try.func141 (c := bodyOf Try.f141) rfl (of_decide_eq_true (by kernel_rfl)) (anOf []) 7 9 (by kernel_rfl) rfl [.tmp 3] (by kernel_rfl) (args := [q0_1, t1_1]) (by rw [e141]; exact H)

/-! slices.Grow[[]int,int] -/
def t142 (P : Program) (s0_1 : Value) (n1_1 : Value) (h : Heap) (K : Value → Heap → Prop) : Prop :=
  ∃ J_1 : List Value → Heap → Prop, (pop P (binA .lss 3 n1_1 (Value.int IntKind.i64 0)) fun t6_1 =>
  condM t6_1
  (pop P (Instr.makeInterface 9 (Value.string { data := #[99, 97, 110, 110, 111, 116, 32, 98, 101, 32, 110, 101, 103, 97, 116, 105, 118, 101] })) fun t7_1 =>
  False)
  (J_1 [] h)) ∧
  ∀ (junk_1 : Nat → Value) (h_1 : Heap), J_1 [] h_1 →
  pop P (Builtin.cap_ #[25] 3 #[s0_1]) fun t10_1 =>
  pop P (lenS 25 3 s0_1) fun t12_1 =>
  pop P (binA .sub 3 t10_1 t12_1) fun t13_1 =>
  pop P (binA .sub 3 n1_1 t13_1) fun t14_1 =>
  pop P (binA .gtr 3 t14_1 (Value.int IntKind.i64 0)) fun t16_1 =>
  condM t16_1
  (pop P (Builtin.cap_ #[25] 3 #[s0_1]) fun t19_1 =>
  pop P (Instr.sliceAt 25 s0_1 none (some t19_1) none) fun t20_1 =>
  eop P (appS 25 3 25 t20_1 t14_1) h_1 fun t22_1 h_2 =>
  pop P (lenS 25 3 s0_1) fun t24_1 =>
  pop P (Instr.sliceAt 25 t22_1 none (some t24_1) none) fun t25_1 =>
  K t25_1 h_2)
  (K s0_1 h_1)
theorem e142 (s0_1 : Value) (n1_1 : Value) (h : Heap) (K : Value → Heap → Prop) : wpA Try.prog 27 (anOf [(3, [])]) (bodyOf Try.f142) 1 (fun A h => resA Try.prog A h K [.tmp 4]) (fun _ _ _ => False) (fun A h => resA Try.prog A h K [.tmp 4]) (aargs [s0_1, n1_1] 0) h = t142 Try.prog s0_1 n1_1 h K := by kernel_rfl
theorem c142 (s0_1 : Value) (n1_1 : Value) (h : Heap) (K : Value → Heap → Prop) (H : t142 Try.prog s0_1 n1_1 h K) : callM Try.prog 142 #[s0_1, n1_1] h K :=
  callM_of_wpA mixed (fn := Try.f142) Try.func142 (c := bodyOf Try.f142) rfl (of_decide_eq_true (by kernel_rfl)) (anOf [(3, [])]) 25 27 (by kernel_rfl) rfl [.tmp 4] (by kernel_rfl) (args := [s0_1, n1_1]) (by rw [e142]; exact H)

end Go.Proofs.Ytjinpagnbflmiaa
