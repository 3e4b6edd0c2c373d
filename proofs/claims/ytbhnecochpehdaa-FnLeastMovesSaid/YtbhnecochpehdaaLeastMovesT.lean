/-
  What each function that the law 'FnLeastMoves' comes to asks of the heap, named; tied to the loaded program by the kernel. Written by a program.
-/
import Derived.Test.YtbhnecochpehdaaProg
import Derived.Test.YtbhnecochpehdaaM1
set_option linter.unusedVariables false
namespace Go.Proofs.Ytbhnecochpehdaa
open Go Go.Mx
theorem mixed : Try.prog.follows .mixedOrders = true := by kernel_rfl
/-! laws.FnLeastMoves -/
def t6 (P : Program) (code0_1 : Value) (more1_1 : Value) (h : Heap) (K : Value → Heap → Prop) : Prop :=
  callM P 32 #[code0_1, more1_1] h fun t29_1 h_1 =>
  condM t29_1
  (K (Value.bool true) h_1)
  (callM P 33 #[code0_1] h_1 fun t32_1 h_2 =>
  pop P (Instr.extract t32_1 0) fun t33_1 =>
  pop P (Instr.extract t32_1 1) fun t34_1 =>
  pop P (Instr.extract t32_1 2) fun t35_1 =>
  pop P (Instr.extract t32_1 3) fun t36_1 =>
  eop P (Instr.alloc 32 true (.tuple #[])) h_2 fun g5_1 h_3 =>
  eop P (Instr.alloc 34 true (.tuple #[])) h_3 fun l7_1 h_4 =>
  uop P (Instr.storeAt 32 g5_1 t33_1) h_4 fun u_1 h_5 =>
  uop P (Instr.storeAt 34 l7_1 t35_1) h_5 fun u_2 h_6 =>
  rop P (Instr.loadAt 32 g5_1) h_6 fun t38_1 =>
  rop P (Instr.loadAt 34 l7_1) h_6 fun t40_1 =>
  callM P 34 #[t38_1, t34_1, t40_1, t36_1] h_6 fun t42_1 h_7 =>
  pop P (Instr.extract t42_1 0) fun t43_1 =>
  pop P (Instr.extract t42_1 1) fun t44_1 =>
  rop P (Instr.loadAt 32 g5_1) h_7 fun t46_1 =>
  rop P (Instr.loadAt 34 l7_1) h_7 fun t48_1 =>
  callM P 35 #[t46_1, t34_1, t48_1, t36_1] h_7 fun t50_1 h_8 =>
  pop P (Instr.extract t50_1 0) fun t51_1 =>
  pop P (Instr.extract t50_1 1) fun t52_1 =>
  rop P (Instr.loadAt 32 g5_1) h_8 fun t54_1 =>
  rop P (Instr.loadAt 34 l7_1) h_8 fun t56_1 =>
  callM P 15 #[t54_1, t34_1, t56_1] h_8 fun t57_1 h_9 =>
  pop P (Instr.extract t57_1 0) fun t58_1 =>
  pop P (Instr.extract t57_1 1) fun t59_1 =>
  pop P (binE .neq 4 (.tmp 60) (.tmp 61) t44_1 t52_1) fun t62_1 =>
  guardM t62_1 false (fun k_1 => k_1 t43_1 h_9) h_9 fun t64_1 h_10 =>
  guardM t62_1 false (fun k_2 => k_2 t51_1 h_10) h_10 fun t65_1 h_11 =>
  guardM t62_1 false (fun k_3 => pop P (binE .neq 4 (.tmp 64) (.tmp 65) t64_1 t65_1) fun t66_1 =>
  k_3 t66_1 h_11) h_11 fun t66_2 h_12 =>
  pop P (pickS t62_1 (Value.bool true) t66_2) fun t67_1 =>
  condM t67_1
  (K (Value.bool false) h_12)
  (∃ J_1 : List Value → Heap → Prop, (guardM t44_1 true (fun k_4 => k_4 t59_1 h_12) h_12 fun t70_1 h_13 =>
  pop P (pickS t44_1 t70_1 (Value.bool false)) fun t71_1 =>
  condM t71_1
  (pop P (lenS 25 3 t36_1) fun t73_1 =>
  ∃ (I_1 : List Value → Heap → Prop) (μ_1 : List Value → Heap → Nat), I_1 [(Value.int IntKind.i64 0)] h_13 ∧
  ∀ (junk_1 : Nat → Value) (t74_1 : Value) (h_14 : Heap), I_1 [t74_1] h_14 →
  pop P (binA .lss 3 t74_1 t73_1) fun t75_1 =>
  condM t75_1
  (pop P (Instr.indexAt 25 t36_1 t74_1) fun t77_1 =>
  rop P (Instr.loadAt 3 t77_1) h_14 fun t78_1 =>
  guardM t43_1 true (fun k_5 => k_5 t78_1 h_14) h_14 fun t81_1 h_15 =>
  guardM t43_1 true (fun k_6 => k_6 t58_1 h_15) h_15 fun t82_1 h_16 =>
  guardM t43_1 true (fun k_7 => k_7 t74_1 h_16) h_16 fun t83_1 h_17 =>
  guardM t43_1 true (fun k_8 => pop P (Instr.indexAt 25 t82_1 t83_1) fun t84_1 =>
  k_8 t84_1 h_17) h_17 fun t84_2 h_18 =>
  guardM t43_1 true (fun k_9 => rop P (Instr.loadAt 3 t84_2) h_18 fun t85_1 =>
  k_9 t85_1 h_18) h_18 fun t85_2 h_19 =>
  guardM t43_1 true (fun k_10 => pop P (binA .lss 3 t81_1 t85_2) fun t86_1 =>
  k_10 t86_1 h_19) h_19 fun t86_2 h_20 =>
  pop P (pickS t43_1 t86_2 (Value.bool false)) fun t87_1 =>
  condM t87_1
  (K (Value.bool false) h_20)
  (pop P (binA .add 3 t74_1 (Value.int IntKind.i64 1)) fun t88_1 =>
  I_1 [t88_1] h_20 ∧ μ_1 [t88_1] h_20 < μ_1 [t74_1] h_14))
  (callM P 36 #[t58_1] h_14 fun t90_1 h_21 =>
  pop P (binA .leq 3 t90_1 (Value.int IntKind.i64 50)) fun t91_1 =>
  condM t91_1
  (rop P (Instr.loadAt 32 g5_1) h_21 fun t93_1 =>
  rop P (Instr.loadAt 34 l7_1) h_21 fun t95_1 =>
  callM P 34 #[t93_1, t34_1, t95_1, t58_1] h_21 fun t97_1 h_22 =>
  pop P (Instr.extract t97_1 0) fun t98_1 =>
  pop P (Instr.extract t97_1 1) fun t99_1 =>
  pop P (Op.unary .not t99_1) fun t101_1 =>
  guardM t101_1 false (fun k_11 => k_11 t98_1 h_22) h_22 fun t103_1 h_23 =>
  guardM t101_1 false (fun k_12 => pop P (Op.unary .not t103_1) fun t104_1 =>
  k_12 t104_1 h_23) h_23 fun t104_2 h_24 =>
  pop P (pickS t101_1 (Value.bool true) t104_2) fun t105_1 =>
  condM t105_1
  (K (Value.bool false) h_24)
  (J_1 [] h_24))
  (J_1 [] h_21)))
  (J_1 [] h_13)) ∧
  ∀ (junk_2 : Nat → Value) (h_25 : Heap), J_1 [] h_25 →
  callM P 37 #[more1_1] h_25 fun t108_1 h_26 =>
  pop P (Instr.extract t108_1 0) fun t109_1 =>
  pop P (Instr.extract t108_1 1) fun t110_1 =>
  pop P (Instr.extract t108_1 2) fun t111_1 =>
  pop P (Instr.extract t108_1 3) fun t112_1 =>
  eop P (Instr.alloc 32 true (.tuple #[])) h_26 fun h19_1 h_27 =>
  eop P (Instr.alloc 34 true (.tuple #[])) h_27 fun m21_1 h_28 =>
  uop P (Instr.storeAt 32 h19_1 t109_1) h_28 fun u_3 h_29 =>
  uop P (Instr.storeAt 34 m21_1 t111_1) h_29 fun u_4 h_30 =>
  rop P (Instr.loadAt 32 h19_1) h_30 fun t114_1 =>
  rop P (Instr.loadAt 34 m21_1) h_30 fun t116_1 =>
  callM P 38 #[t114_1, t110_1, t116_1, t112_1] h_30 fun t118_1 h_31 =>
  pop P (Instr.extract t118_1 0) fun t119_1 =>
  pop P (Instr.extract t118_1 1) fun t120_1 =>
  eop P (Instr.alloc 34 true (.tuple #[])) h_31 fun forced23_1 h_32 =>
  uop P (Instr.storeAt 34 forced23_1 t119_1) h_32 fun u_5 h_33 =>
  rop P (Instr.loadAt 32 h19_1) h_33 fun t122_1 =>
  rop P (Instr.loadAt 34 m21_1) h_33 fun t124_1 =>
  callM P 39 #[t122_1, t110_1, t124_1, t112_1] h_33 fun t126_1 h_34 =>
  pop P (Instr.extract t126_1 0) fun t127_1 =>
  pop P (Instr.extract t126_1 1) fun t128_1 =>
  eop P (Instr.alloc 34 true (.tuple #[])) h_34 fun model25_1 h_35 =>
  uop P (Instr.storeAt 34 model25_1 t127_1) h_35 fun u_6 h_36 =>
  pop P (binE .neq 4 (.tmp 129) (.tmp 130) t120_1 t128_1) fun t131_1 =>
  guardM t131_1 false (fun k_13 => rop P (Instr.loadAt 34 forced23_1) h_36 fun t133_1 =>
  k_13 t133_1 h_36) h_36 fun t133_2 h_37 =>
  guardM t131_1 false (fun k_14 => rop P (Instr.loadAt 34 model25_1) h_37 fun t134_1 =>
  k_14 t134_1 h_37) h_37 fun t134_2 h_38 =>
  guardM t131_1 false (fun k_15 => callM P 40 #[t133_2, t134_2] h_38 fun t135_1 h_39 =>
  k_15 t135_1 h_39) h_38 fun t135_2 h_40 =>
  guardM t131_1 false (fun k_16 => pop P (Op.unary .not t135_2) fun t136_1 =>
  k_16 t136_1 h_40) h_40 fun t136_2 h_41 =>
  pop P (pickS t131_1 (Value.bool true) t136_2) fun t137_1 =>
  condM t137_1
  (K (Value.bool false) h_41)
  (pop P (Op.unary .not t120_1) fun t139_1 =>
  guardM t139_1 false (fun k_17 => pop P (Instr.fieldAt 34 forced23_1 1) fun t141_1 =>
  k_17 t141_1 h_41) h_41 fun t141_2 h_42 =>
  guardM t139_1 false (fun k_18 => rop P (Instr.loadAt 25 t141_2) h_42 fun t142_1 =>
  k_18 t142_1 h_42) h_42 fun t142_2 h_43 =>
  guardM t139_1 false (fun k_19 => pop P (Instr.fieldAt 34 m21_1 1) fun t144_1 =>
  k_19 t144_1 h_43) h_43 fun t144_2 h_44 =>
  guardM t139_1 false (fun k_20 => rop P (Instr.loadAt 25 t144_2) h_44 fun t145_1 =>
  k_20 t145_1 h_44) h_44 fun t145_2 h_45 =>
  guardM t139_1 false (fun k_21 => callM P 41 #[t142_2] h_45 fun t143_1 h_46 =>
  k_21 t143_1 h_46) h_45 fun t143_2 h_47 =>
  (∃ b_1 : Bool, t139_1 = .bool b_1 ∧ (b_1 = false → ∀ w : World, w.heap = h_47 → (Instr.loadAt 25 t144_2).run P w = .ok t145_2 w) ∧ (b_1 ≠ false → t145_2 = undef)) ∧
  guardM t139_1 false (fun k_22 => callM P 41 #[t145_2] h_47 fun t146_1 h_48 =>
  k_22 t146_1 h_48) h_47 fun t146_2 h_49 =>
  guardM t139_1 false (fun k_23 => pop P (binE .eql 3 (.tmp 143) (.tmp 146) t143_2 t146_2) fun t147_1 =>
  k_23 t147_1 h_49) h_49 fun t147_2 h_50 =>
  pop P (pickS t139_1 (Value.bool true) t147_2) fun t148_1 =>
  K t148_1 h_50)))
theorem e6 (code0_1 : Value) (more1_1 : Value) (h : Heap) (K : Value → Heap → Prop) : wpA Try.prog 149 (anOf [(255, []), (16338, [74])]) (bodyOf Try.f6) 1 (fun A h => resA Try.prog A h K [.tmp 4]) (fun _ _ _ => False) (fun A h => resA Try.prog A h K [.tmp 4]) (aargs [code0_1, more1_1] 0) h = t6 Try.prog code0_1 more1_1 h K := by kernel_rfl
theorem c6 (code0_1 : Value) (more1_1 : Value) (h : Heap) (K : Value → Heap → Prop) (H : t6 Try.prog code0_1 more1_1 h K) : callM Try.prog 6 #[code0_1, more1_1] h K :=
  callM_of_wpA mixed (fn := Try.f6) Try.func6 (c := bodyOf Try.f6) rfl (of_decide_eq_true (by kernel_rfl)) (anOf [(255, []), (16338, [74])]) 147 149 (by kernel_rfl) rfl [.tmp 4] (by kernel_rfl) (args := [code0_1, more1_1]) (by rw [e6]; exact H)

/-! spec.MovesOfLoad -/
def t12 (P : Program) (g0_1 : Value) (sink1_1 : Value) (l2_1 : Value) (h : Heap) (K : Value → Heap → Prop) : Prop :=
  eop P (Instr.box 32 g0_1) h fun g3_1 h_1 =>
  eop P (Instr.box 34 l2_1) h_1 fun l5_1 h_2 =>
  rop P (Instr.loadAt 32 g3_1) h_2 fun t11_1 =>
  rop P (Instr.loadAt 34 l5_1) h_2 fun t13_1 =>
  callM P 76 #[t11_1, sink1_1, t13_1] h_2 fun t14_1 h_3 =>
  pop P (Op.unary .not t14_1) fun t15_1 =>
  condM t15_1
  (K (.tuple #[(Value.slice none 0 0), (Value.bool false)]) h_3)
  (rop P (Instr.loadAt 32 g3_1) h_3 fun t17_1 =>
  rop P (Instr.loadAt 34 l5_1) h_3 fun t19_1 =>
  callM P 77 #[t17_1, sink1_1, t19_1, (Value.slice none 0 0)] h_3 fun t20_1 h_4 =>
  pop P (Instr.extract t20_1 0) fun t21_1 =>
  pop P (Instr.extract t20_1 1) fun t22_1 =>
  pop P (Instr.extract t20_1 2) fun t23_1 =>
  eop P (Instr.alloc 34 true (.tuple #[])) h_4 fun _8_1 h_5 =>
  uop P (Instr.storeAt 34 _8_1 t21_1) h_5 fun u_1 h_6 =>
  K (.tuple #[t22_1, t23_1]) h_6)
theorem e12 (g0_1 : Value) (sink1_1 : Value) (l2_1 : Value) (h : Heap) (K : Value → Heap → Prop) : wpA Try.prog 26 (anOf []) (bodyOf Try.f12) 1 (fun A h => resA Try.prog A h K [.tmp 6, .tmp 7]) (fun _ _ _ => False) (fun A h => resA Try.prog A h K [.tmp 6, .tmp 7]) (aargs [g0_1, sink1_1, l2_1] 0) h = t12 Try.prog g0_1 sink1_1 l2_1 h K := by kernel_rfl
theorem c12 (g0_1 : Value) (sink1_1 : Value) (l2_1 : Value) (h : Heap) (K : Value → Heap → Prop) (H : t12 Try.prog g0_1 sink1_1 l2_1 h K) : callM Try.prog 12 #[g0_1, sink1_1, l2_1] h K :=
  callM_of_wpA mixed (fn := Try.f12) Try.func12 (c := bodyOf Try.f12) rfl (of_decide_eq_true (by kernel_rfl)) (anOf []) 23 26 (by kernel_rfl) rfl [.tmp 6, .tmp 7] (by kernel_rfl) (args := [g0_1, sink1_1, l2_1]) (by rw [e12]; exact H)

/-! impl.MovesOfLoad -/
def t15 (P : Program) (g0_1 : Value) (sink1_1 : Value) (l2_1 : Value) (h : Heap) (K : Value → Heap → Prop) : Prop :=
  eop P (Instr.box 32 g0_1) h fun g3_1 h_1 =>
  eop P (Instr.box 34 l2_1) h_1 fun l5_1 h_2 =>
  rop P (Instr.loadAt 32 g3_1) h_2 fun t9_1 =>
  rop P (Instr.loadAt 34 l5_1) h_2 fun t11_1 =>
  callM P 79 #[t9_1, sink1_1, t11_1] h_2 fun t12_1 h_3 =>
  pop P (Op.unary .not t12_1) fun t13_1 =>
  condM t13_1
  (K (.tuple #[(Value.slice none 0 0), (Value.bool false)]) h_3)
  (rop P (Instr.loadAt 34 l5_1) h_3 fun t14_1 =>
  callM P 80 #[t14_1] h_3 fun t15_1 h_4 =>
  eop P (Instr.alloc 34 true (.tuple #[])) h_4 fun out8_1 h_5 =>
  uop P (Instr.storeAt 34 out8_1 t15_1) h_5 fun u_1 h_6 =>
  rop P (Instr.loadAt 32 g3_1) h_6 fun t16_1 =>
  callM P 81 #[out8_1, t16_1, sink1_1, (Value.slice none 0 0)] h_6 fun t18_1 h_7 =>
  pop P (Instr.extract t18_1 0) fun t19_1 =>
  pop P (Instr.extract t18_1 1) fun t20_1 =>
  K (.tuple #[t19_1, t20_1]) h_7)
theorem e15 (g0_1 : Value) (sink1_1 : Value) (l2_1 : Value) (h : Heap) (K : Value → Heap → Prop) : wpA Try.prog 21 (anOf []) (bodyOf Try.f15) 1 (fun A h => resA Try.prog A h K [.tmp 6, .tmp 7]) (fun _ _ _ => False) (fun A h => resA Try.prog A h K [.tmp 6, .tmp 7]) (aargs [g0_1, sink1_1, l2_1] 0) h = t15 Try.prog g0_1 sink1_1 l2_1 h K := by kernel_rfl
theorem c15 (g0_1 : Value) (sink1_1 : Value) (l2_1 : Value) (h : Heap) (K : Value → Heap → Prop) (H : t15 Try.prog g0_1 sink1_1 l2_1 h K) : callM Try.prog 15 #[g0_1, sink1_1, l2_1] h K :=
  callM_of_wpA mixed (fn := Try.f15) Try.func15 (c := bodyOf Try.f15) rfl (of_decide_eq_true (by kernel_rfl)) (anOf []) 18 21 (by kernel_rfl) rfl [.tmp 6, .tmp 7] (by kernel_rfl) (args := [g0_1, sink1_1, l2_1]) (by rw [e15]; exact H)

/-! laws.big -/
def t32 (P : Program) (code0_1 : Value) (more1_1 : Value) (h : Heap) (K : Value → Heap → Prop) : Prop :=
  pop P (lenS 55 3 code0_1) fun t6_1 =>
  pop P (binA .gtr 3 t6_1 (Value.int IntKind.i64 1048576)) fun t7_1 =>
  guardM t7_1 false (fun k_1 => k_1 more1_1 h) h fun t9_1 h_1 =>
  guardM t7_1 false (fun k_2 => pop P (lenS 55 3 t9_1) fun t10_1 =>
  k_2 t10_1 h_1) h_1 fun t10_2 h_2 =>
  guardM t7_1 false (fun k_3 => k_3 code0_1 h_2) h_2 fun t11_1 h_3 =>
  guardM t7_1 false (fun k_4 => pop P (lenS 55 3 t11_1) fun t12_1 =>
  k_4 t12_1 h_3) h_3 fun t12_2 h_4 =>
  guardM t7_1 false (fun k_5 => pop P (binA .sub 3 (Value.int IntKind.i64 1048576) t12_2) fun t13_1 =>
  k_5 t13_1 h_4) h_4 fun t13_2 h_5 =>
  guardM t7_1 false (fun k_6 => pop P (binA .gtr 3 t10_2 t13_2) fun t14_1 =>
  k_6 t14_1 h_5) h_5 fun t14_2 h_6 =>
  pop P (pickS t7_1 (Value.bool true) t14_2) fun t15_1 =>
  K t15_1 h_6
theorem e32 (code0_1 : Value) (more1_1 : Value) (h : Heap) (K : Value → Heap → Prop) : wpA Try.prog 16 (anOf []) (bodyOf Try.f32) 1 (fun A h => resA Try.prog A h K [.tmp 4]) (fun _ _ _ => False) (fun A h => resA Try.prog A h K [.tmp 4]) (aargs [code0_1, more1_1] 0) h = t32 Try.prog code0_1 more1_1 h K := by kernel_rfl
theorem c32 (code0_1 : Value) (more1_1 : Value) (h : Heap) (K : Value → Heap → Prop) (H : t32 Try.prog code0_1 more1_1 h K) : callM Try.prog 32 #[code0_1, more1_1] h K :=
  callM_of_wpA mixed (fn := Try.f32) Try.func32 (c := bodyOf Try.f32) rfl (of_decide_eq_true (by kernel_rfl)) (anOf []) 14 16 (by kernel_rfl) rfl [.tmp 4] (by kernel_rfl) (args := [code0_1, more1_1]) (by rw [e32]; exact H)

/-! spec.DrawAreEnough -/
def t33 (P : Program) (code0_1 : Value) (h : Heap) (K : Value → Heap → Prop) : Prop :=
  eop P (Instr.alloc 32 true (.tuple #[])) h fun t2_1 h_1 =>
  eop P (Instr.alloc 34 true (.tuple #[])) h_1 fun t4_1 h_2 =>
  callM P 37 #[code0_1] h_2 fun t7_1 h_3 =>
  pop P (Instr.extract t7_1 0) fun t8_1 =>
  pop P (Instr.extract t7_1 1) fun t9_1 =>
  pop P (Instr.extract t7_1 2) fun t10_1 =>
  pop P (Instr.extract t7_1 3) fun t11_1 =>
  uop P (Instr.storeAt 32 t2_1 t8_1) h_3 fun u_1 h_4 =>
  uop P (Instr.storeAt 34 t4_1 t10_1) h_4 fun u_2 h_5 =>
  rop P (Instr.loadAt 32 t2_1) h_5 fun r_1 =>
  rop P (Instr.loadAt 34 t4_1) h_5 fun r_2 =>
  K (.tuple #[r_1, t9_1, r_2, t11_1]) h_5
theorem e33 (code0_1 : Value) (h : Heap) (K : Value → Heap → Prop) : wpA Try.prog 12 (anOf []) (bodyOf Try.f33) 1 (fun A h => resA Try.prog A h K [.cell 2 32, .tmp 3, .cell 4 34, .tmp 5]) (fun _ _ _ => False) (fun A h => resA Try.prog A h K [.cell 2 32, .tmp 3, .cell 4 34, .tmp 5]) (aargs [code0_1] 0) h = t33 Try.prog code0_1 h K := by kernel_rfl
theorem c33 (code0_1 : Value) (h : Heap) (K : Value → Heap → Prop) (H : t33 Try.prog code0_1 h K) : callM Try.prog 33 #[code0_1] h K :=
  callM_of_wpA mixed (fn := Try.f33) Try.func33 (c := bodyOf Try.f33) rfl (of_decide_eq_true (by kernel_rfl)) (anOf []) 11 12 (by kernel_rfl) rfl [.cell 2 32, .tmp 3, .cell 4 34, .tmp 5] (by kernel_rfl) (args := [code0_1]) (by rw [e33]; exact H)

/-! impl.AreEnough -/
def t34 (P : Program) (g0_1 : Value) (sink1_1 : Value) (l2_1 : Value) (counts3_1 : Value) (h : Heap) (K : Value → Heap → Prop) : Prop :=
  eop P (Instr.box 32 g0_1) h fun g4_1 h_1 =>
  eop P (Instr.box 34 l2_1) h_1 fun l6_1 h_2 =>
  rop P (Instr.loadAt 32 g4_1) h_2 fun t13_1 =>
  rop P (Instr.loadAt 34 l6_1) h_2 fun t15_1 =>
  callM P 93 #[t13_1, sink1_1, t15_1, counts3_1] h_2 fun t17_1 h_3 =>
  pop P (Instr.extract t17_1 0) fun t18_1 =>
  pop P (Instr.extract t17_1 1) fun t19_1 =>
  eop P (Instr.alloc 34 true (.tuple #[])) h_3 fun out10_1 h_4 =>
  uop P (Instr.storeAt 34 out10_1 t18_1) h_4 fun u_1 h_5 =>
  pop P (Op.unary .not t19_1) fun t21_1 =>
  condM t21_1
  (K (.tuple #[(Value.bool false), (Value.bool false)]) h_5)
  (callM P 94 #[out10_1, sink1_1] h_5 fun t23_1 h_6 =>
  pop P (lenS 25 3 t23_1) fun t24_1 =>
  pop P (binE .eql 3 (.tmp 24) (.const (Value.int IntKind.i64 0)) t24_1 (Value.int IntKind.i64 0)) fun t25_1 =>
  K (.tuple #[t25_1, (Value.bool true)]) h_6)
theorem e34 (g0_1 : Value) (sink1_1 : Value) (l2_1 : Value) (counts3_1 : Value) (h : Heap) (K : Value → Heap → Prop) : wpA Try.prog 26 (anOf []) (bodyOf Try.f34) 1 (fun A h => resA Try.prog A h K [.tmp 8, .tmp 9]) (fun _ _ _ => False) (fun A h => resA Try.prog A h K [.tmp 8, .tmp 9]) (aargs [g0_1, sink1_1, l2_1, counts3_1] 0) h = t34 Try.prog g0_1 sink1_1 l2_1 counts3_1 h K := by kernel_rfl
theorem c34 (g0_1 : Value) (sink1_1 : Value) (l2_1 : Value) (counts3_1 : Value) (h : Heap) (K : Value → Heap → Prop) (H : t34 Try.prog g0_1 sink1_1 l2_1 counts3_1 h K) : callM Try.prog 34 #[g0_1, sink1_1, l2_1, counts3_1] h K :=
  callM_of_wpA mixed (fn := Try.f34) Try.func34 (c := bodyOf Try.f34) rfl (of_decide_eq_true (by kernel_rfl)) (anOf []) 22 26 (by kernel_rfl) rfl [.tmp 8, .tmp 9] (by kernel_rfl) (args := [g0_1, sink1_1, l2_1, counts3_1]) (by rw [e34]; exact H)

/-! spec.AreEnough -/
def t35 (P : Program) (g0_1 : Value) (sink1_1 : Value) (l2_1 : Value) (counts3_1 : Value) (h : Heap) (K : Value → Heap → Prop) : Prop :=
  eop P (Instr.box 32 g0_1) h fun g4_1 h_1 =>
  eop P (Instr.box 34 l2_1) h_1 fun l6_1 h_2 =>
  rop P (Instr.loadAt 32 g4_1) h_2 fun t10_1 =>
  rop P (Instr.loadAt 34 l6_1) h_2 fun t12_1 =>
  callM P 95 #[t10_1, sink1_1, t12_1, counts3_1] h_2 fun t14_1 h_3 =>
  pop P (Op.unary .not t14_1) fun t15_1 =>
  condM t15_1
  (K (.tuple #[(Value.bool false), (Value.bool false)]) h_3)
  (rop P (Instr.loadAt 32 g4_1) h_3 fun t17_1 =>
  rop P (Instr.loadAt 34 l6_1) h_3 fun t18_1 =>
  callM P 97 #[t17_1, t18_1, counts3_1] h_3 fun t20_1 h_4 =>
  pop P (Instr.field 34 t20_1 1) fun t21_1 =>
  callM P 96 #[sink1_1, t21_1] h_4 fun t22_1 h_5 =>
  pop P (lenS 25 3 t22_1) fun t23_1 =>
  pop P (binE .eql 3 (.tmp 23) (.const (Value.int IntKind.i64 0)) t23_1 (Value.int IntKind.i64 0)) fun t24_1 =>
  K (.tuple #[t24_1, (Value.bool true)]) h_5)
theorem e35 (g0_1 : Value) (sink1_1 : Value) (l2_1 : Value) (counts3_1 : Value) (h : Heap) (K : Value → Heap → Prop) : wpA Try.prog 25 (anOf []) (bodyOf Try.f35) 1 (fun A h => resA Try.prog A h K [.tmp 8, .tmp 9]) (fun _ _ _ => False) (fun A h => resA Try.prog A h K [.tmp 8, .tmp 9]) (aargs [g0_1, sink1_1, l2_1, counts3_1] 0) h = t35 Try.prog g0_1 sink1_1 l2_1 counts3_1 h K := by kernel_rfl
theorem c35 (g0_1 : Value) (sink1_1 : Value) (l2_1 : Value) (counts3_1 : Value) (h : Heap) (K : Value → Heap → Prop) (H : t35 Try.prog g0_1 sink1_1 l2_1 counts3_1 h K) : callM Try.prog 35 #[g0_1, sink1_1, l2_1, counts3_1] h K :=
  callM_of_wpA mixed (fn := Try.f35) Try.func35 (c := bodyOf Try.f35) rfl (of_decide_eq_true (by kernel_rfl)) (anOf []) 21 25 (by kernel_rfl) rfl [.tmp 8, .tmp 9] (by kernel_rfl) (args := [g0_1, sink1_1, l2_1, counts3_1]) (by rw [e35]; exact H)

/-! laws.xMost -/
def t36 (P : Program) (a0_1 : Value) (h : Heap) (K : Value → Heap → Prop) : Prop :=
  pop P (lenS 25 3 a0_1) fun t7_1 =>
  ∃ (I_1 : List Value → Heap → Prop) (μ_1 : List Value → Heap → Nat), I_1 [(Value.int IntKind.i64 0), (Value.int IntKind.i64 0)] h ∧
  ∀ (junk_1 : Nat → Value) (most3_1 : Value) (t8_1 : Value) (h_1 : Heap), I_1 [most3_1, t8_1] h_1 →
  pop P (binA .lss 3 t8_1 t7_1) fun t9_1 =>
  condM t9_1
  (pop P (Instr.indexAt 25 a0_1 t8_1) fun t10_1 =>
  rop P (Instr.loadAt 3 t10_1) h_1 fun t11_1 =>
  pop P (binA .gtr 3 t11_1 most3_1) fun t14_1 =>
  condM t14_1
  (pop P (binA .add 3 t8_1 (Value.int IntKind.i64 1)) fun t16_1 =>
  I_1 [t11_1, t16_1] h_1 ∧ μ_1 [t11_1, t16_1] h_1 < μ_1 [most3_1, t8_1] h_1)
  (pop P (binA .add 3 t8_1 (Value.int IntKind.i64 1)) fun t16_2 =>
  I_1 [most3_1, t16_2] h_1 ∧ μ_1 [most3_1, t16_2] h_1 < μ_1 [most3_1, t8_1] h_1))
  (K most3_1 h_1)
theorem e36 (a0_1 : Value) (h : Heap) (K : Value → Heap → Prop) : wpA Try.prog 18 (anOf [(58, [3, 8])]) (bodyOf Try.f36) 1 (fun A h => resA Try.prog A h K [.tmp 2]) (fun _ _ _ => False) (fun A h => resA Try.prog A h K [.tmp 2]) (aargs [a0_1] 0) h = t36 Try.prog a0_1 h K := by kernel_rfl
theorem c36 (a0_1 : Value) (h : Heap) (K : Value → Heap → Prop) (H : t36 Try.prog a0_1 h K) : callM Try.prog 36 #[a0_1] h K :=
  callM_of_wpA mixed (fn := Try.f36) Try.func36 (c := bodyOf Try.f36) rfl (of_decide_eq_true (by kernel_rfl)) (anOf [(58, [3, 8])]) 17 18 (by kernel_rfl) rfl [.tmp 2] (by kernel_rfl) (args := [a0_1]) (by rw [e36]; exact H)

/-! spec.DrawForceMoves -/
def t37 (P : Program) (code0_1 : Value) (h : Heap) (K : Value → Heap → Prop) : Prop :=
  eop P (Instr.alloc 32 true (.tuple #[])) h fun t2_1 h_1 =>
  eop P (Instr.alloc 34 true (.tuple #[])) h_1 fun t4_1 h_2 =>
  pop P (Instr.build 109 #[(0, code0_1)]) fun t14_1 =>
  eop P (Instr.box 109 t14_1) h_2 fun t15_1 h_3 =>
  callM P 98 #[t15_1] h_3 fun t18_1 h_4 =>
  pop P (Instr.extract t18_1 0) fun t19_1 =>
  pop P (Instr.extract t18_1 1) fun t20_1 =>
  pop P (Instr.extract t18_1 2) fun t21_1 =>
  eop P (Instr.alloc 32 true (.tuple #[])) h_4 fun g7_1 h_5 =>
  eop P (Instr.alloc 34 true (.tuple #[])) h_5 fun l9_1 h_6 =>
  uop P (Instr.storeAt 32 g7_1 t19_1) h_6 fun u_1 h_7 =>
  uop P (Instr.storeAt 34 l9_1 t21_1) h_7 fun u_2 h_8 =>
  rop P (Instr.loadAt 32 g7_1) h_8 fun t23_1 =>
  rop P (Instr.loadAt 34 l9_1) h_8 fun t25_1 =>
  callM P 12 #[t23_1, t20_1, t25_1] h_8 fun t26_1 h_9 =>
  pop P (Instr.extract t26_1 0) fun t27_1 =>
  pop P (Instr.extract t26_1 1) fun t28_1 =>
  ∃ J_1 : List Value → Heap → Prop, (pop P (Op.unary .not t28_1) fun t30_1 =>
  guardM t30_1 false (fun k_1 => k_1 t15_1 h_9) h_9 fun t32_1 h_10 =>
  guardM t30_1 false (fun k_2 => callM P 99 #[t32_1, (Value.int IntKind.i64 3)] h_10 fun t33_1 h_11 =>
  k_2 t33_1 h_11) h_10 fun t33_2 h_12 =>
  pop P (pickS t30_1 (Value.bool true) t33_2) fun t34_1 =>
  condM t34_1
  (pop P (Instr.fieldAt 32 g7_1 0) fun t35_1 =>
  rop P (Instr.loadAt 22 t35_1) h_12 fun t36_1 =>
  pop P (lenS 22 3 t36_1) fun t37_1 =>
  ∃ (I_1 : List Value → Heap → Prop) (μ_1 : List Value → Heap → Nat), I_1 [(Value.slice none 0 0), (Value.int IntKind.i64 0)] h_12 ∧
  ∀ (junk_1 : Nat → Value) (counts10_1 : Value) (t38_1 : Value) (h_13 : Heap), I_1 [counts10_1, t38_1] h_13 →
  pop P (binA .lss 3 t38_1 t37_1) fun t39_1 =>
  condM t39_1
  (callM P 100 #[t15_1, (Value.int IntKind.i64 4)] h_13 fun t42_1 h_14 =>
  eop P (Instr.buildSlice 25 1 #[(0, t42_1)]) h_14 fun t43_1 h_15 =>
  eop P (appS 25 25 25 counts10_1 t43_1) h_15 fun t44_1 h_16 =>
  pop P (binA .add 3 t38_1 (Value.int IntKind.i64 1)) fun t45_1 =>
  I_1 [t44_1, t45_1] h_16 ∧ μ_1 [t44_1, t45_1] h_16 < μ_1 [counts10_1, t38_1] h_13)
  (J_1 [counts10_1] h_13))
  (J_1 [t27_1] h_12)) ∧
  ∀ (junk_2 : Nat → Value) (counts10_2 : Value) (h_17 : Heap), J_1 [counts10_2] h_17 →
  pop P (lenS 25 3 counts10_2) fun t47_1 =>
  ∃ (I_2 : List Value → Heap → Prop) (μ_2 : List Value → Heap → Nat), I_2 [(Value.int IntKind.i64 0)] h_17 ∧
  ∀ (junk_3 : Nat → Value) (t48_1 : Value) (h_18 : Heap), I_2 [t48_1] h_18 →
  pop P (binA .lss 3 t48_1 t47_1) fun t49_1 =>
  condM t49_1
  (pop P (binE .eql 3 (.tmp 51) (.tmp 52) t48_1 t20_1) fun t53_1 =>
  guardM t53_1 true (fun k_3 => k_3 t15_1 h_18) h_18 fun t55_1 h_19 =>
  guardM t53_1 true (fun k_4 => callM P 99 #[t55_1, (Value.int IntKind.i64 20)] h_19 fun t56_1 h_20 =>
  k_4 t56_1 h_20) h_19 fun t56_2 h_21 =>
  guardM t53_1 true (fun k_5 => pop P (Op.unary .not t56_2) fun t57_1 =>
  k_5 t57_1 h_21) h_21 fun t57_2 h_22 =>
  pop P (pickS t53_1 t57_2 (Value.bool false)) fun t58_1 =>
  condM t58_1
  (pop P (Instr.indexAt 25 counts10_2 t48_1) fun t61_1 =>
  uop P (Instr.storeAt 3 t61_1 (Value.int IntKind.i64 0)) h_22 fun u_3 h_23 =>
  pop P (binA .add 3 t48_1 (Value.int IntKind.i64 1)) fun t73_1 =>
  I_2 [t73_1] h_23 ∧ μ_2 [t73_1] h_23 < μ_2 [t48_1] h_18)
  (callM P 99 #[t15_1, (Value.int IntKind.i64 4)] h_22 fun t63_1 h_24 =>
  condM t63_1
  (pop P (Instr.indexAt 25 counts10_2 t48_1) fun t66_1 =>
  rop P (Instr.loadAt 3 t66_1) h_24 fun t67_1 =>
  eop P (Instr.buildSlice 25 4 #[(0, (Value.int IntKind.i64 1)), (1, (Value.int IntKind.i64 (-1))), (2, (Value.int IntKind.i64 2)), (3, (Value.int IntKind.i64 1))]) h_24 fun t69_1 h_25 =>
  (∀ w : World, w.heap = h_25 → (Instr.loadAt 3 t66_1).run P w = .ok t67_1 w) ∧
  callM P 101 #[t15_1, t69_1] h_25 fun t70_1 h_26 =>
  (∀ w : World, w.heap = h_26 → (Instr.loadAt 3 t66_1).run P w = .ok t67_1 w) ∧
  pop P (binA .add 3 t67_1 t70_1) fun t71_1 =>
  pop P (Instr.indexAt 25 counts10_2 t48_1) fun t72_1 =>
  uop P (Instr.storeAt 3 t72_1 t71_1) h_26 fun u_4 h_27 =>
  pop P (binA .add 3 t48_1 (Value.int IntKind.i64 1)) fun t73_2 =>
  I_2 [t73_2] h_27 ∧ μ_2 [t73_2] h_27 < μ_2 [t48_1] h_18)
  (pop P (binA .add 3 t48_1 (Value.int IntKind.i64 1)) fun t73_3 =>
  I_2 [t73_3] h_24 ∧ μ_2 [t73_3] h_24 < μ_2 [t48_1] h_18)))
  (rop P (Instr.loadAt 32 g7_1) h_18 fun t74_1 =>
  rop P (Instr.loadAt 34 l9_1) h_18 fun t76_1 =>
  uop P (Instr.storeAt 32 t2_1 t74_1) h_18 fun u_5 h_28 =>
  (∀ w : World, w.heap = h_28 → (Instr.loadAt 34 l9_1).run P w = .ok t76_1 w) ∧
  uop P (Instr.storeAt 34 t4_1 t76_1) h_28 fun u_6 h_29 =>
  rop P (Instr.loadAt 32 t2_1) h_29 fun r_1 =>
  rop P (Instr.loadAt 34 t4_1) h_29 fun r_2 =>
  K (.tuple #[r_1, t20_1, r_2, counts10_2]) h_29)
theorem e37 (code0_1 : Value) (h : Heap) (K : Value → Heap → Prop) : wpA Try.prog 78 (anOf [(31, [10]), (506, [48]), (2006, [10, 38])]) (bodyOf Try.f37) 1 (fun A h => resA Try.prog A h K [.cell 2 32, .tmp 3, .cell 4 34, .tmp 5]) (fun _ _ _ => False) (fun A h => resA Try.prog A h K [.cell 2 32, .tmp 3, .cell 4 34, .tmp 5]) (aargs [code0_1] 0) h = t37 Try.prog code0_1 h K := by kernel_rfl
theorem c37 (code0_1 : Value) (h : Heap) (K : Value → Heap → Prop) (H : t37 Try.prog code0_1 h K) : callM Try.prog 37 #[code0_1] h K :=
  callM_of_wpA mixed (fn := Try.f37) Try.func37 (c := bodyOf Try.f37) rfl (of_decide_eq_true (by kernel_rfl)) (anOf [(31, [10]), (506, [48]), (2006, [10, 38])]) 77 78 (by kernel_rfl) rfl [.cell 2 32, .tmp 3, .cell 4 34, .tmp 5] (by kernel_rfl) (args := [code0_1]) (by rw [e37]; exact H)

/-! impl.ForceMoves -/
def t38 (P : Program) (g0_1 : Value) (sink1_1 : Value) (l2_1 : Value) (counts3_1 : Value) (h : Heap) (K : Value → Heap → Prop) : Prop :=
  eop P (Instr.box 32 g0_1) h fun g4_1 h_1 =>
  eop P (Instr.box 34 l2_1) h_1 fun l6_1 h_2 =>
  eop P (Instr.alloc 34 true (.tuple #[])) h_2 fun t8_1 h_3 =>
  rop P (Instr.loadAt 32 g4_1) h_3 fun t10_1 =>
  rop P (Instr.loadAt 34 l6_1) h_3 fun t12_1 =>
  callM P 93 #[t10_1, sink1_1, t12_1, counts3_1] h_3 fun t14_1 h_4 =>
  pop P (Instr.extract t14_1 0) fun t15_1 =>
  pop P (Instr.extract t14_1 1) fun t16_1 =>
  uop P (Instr.storeAt 34 t8_1 t15_1) h_4 fun u_1 h_5 =>
  rop P (Instr.loadAt 34 t8_1) h_5 fun r_1 =>
  K (.tuple #[r_1, t16_1]) h_5
theorem e38 (g0_1 : Value) (sink1_1 : Value) (l2_1 : Value) (counts3_1 : Value) (h : Heap) (K : Value → Heap → Prop) : wpA Try.prog 17 (anOf []) (bodyOf Try.f38) 1 (fun A h => resA Try.prog A h K [.cell 8 34, .tmp 9]) (fun _ _ _ => False) (fun A h => resA Try.prog A h K [.cell 8 34, .tmp 9]) (aargs [g0_1, sink1_1, l2_1, counts3_1] 0) h = t38 Try.prog g0_1 sink1_1 l2_1 counts3_1 h K := by kernel_rfl
theorem c38 (g0_1 : Value) (sink1_1 : Value) (l2_1 : Value) (counts3_1 : Value) (h : Heap) (K : Value → Heap → Prop) (H : t38 Try.prog g0_1 sink1_1 l2_1 counts3_1 h K) : callM Try.prog 38 #[g0_1, sink1_1, l2_1, counts3_1] h K :=
  callM_of_wpA mixed (fn := Try.f38) Try.func38 (c := bodyOf Try.f38) rfl (of_decide_eq_true (by kernel_rfl)) (anOf []) 13 17 (by kernel_rfl) rfl [.cell 8 34, .tmp 9] (by kernel_rfl) (args := [g0_1, sink1_1, l2_1, counts3_1]) (by rw [e38]; exact H)

/-! spec.ForceMoves -/
def t39 (P : Program) (g0_1 : Value) (sink1_1 : Value) (l2_1 : Value) (counts3_1 : Value) (h : Heap) (K : Value → Heap → Prop) : Prop :=
  eop P (Instr.box 32 g0_1) h fun g4_1 h_1 =>
  eop P (Instr.box 34 l2_1) h_1 fun l6_1 h_2 =>
  eop P (Instr.alloc 34 true (.tuple #[])) h_2 fun t8_1 h_3 =>
  rop P (Instr.loadAt 32 g4_1) h_3 fun t10_1 =>
  rop P (Instr.loadAt 34 l6_1) h_3 fun t12_1 =>
  callM P 95 #[t10_1, sink1_1, t12_1, counts3_1] h_3 fun t14_1 h_4 =>
  pop P (Op.unary .not t14_1) fun t15_1 =>
  condM t15_1
  (pop P (Instr.build 34 #[]) fun t16_1 =>
  uop P (Instr.storeAt 34 t8_1 t16_1) h_4 fun u_1 h_5 =>
  rop P (Instr.loadAt 34 t8_1) h_5 fun r_1 =>
  K (.tuple #[r_1, (Value.bool false)]) h_5)
  (rop P (Instr.loadAt 32 g4_1) h_4 fun t17_1 =>
  rop P (Instr.loadAt 34 l6_1) h_4 fun t18_1 =>
  callM P 97 #[t17_1, t18_1, counts3_1] h_4 fun t20_1 h_6 =>
  uop P (Instr.storeAt 34 t8_1 t20_1) h_6 fun u_2 h_7 =>
  rop P (Instr.loadAt 34 t8_1) h_7 fun r_2 =>
  K (.tuple #[r_2, (Value.bool true)]) h_7)
theorem e39 (g0_1 : Value) (sink1_1 : Value) (l2_1 : Value) (counts3_1 : Value) (h : Heap) (K : Value → Heap → Prop) : wpA Try.prog 21 (anOf []) (bodyOf Try.f39) 1 (fun A h => resA Try.prog A h K [.cell 8 34, .tmp 9]) (fun _ _ _ => False) (fun A h => resA Try.prog A h K [.cell 8 34, .tmp 9]) (aargs [g0_1, sink1_1, l2_1, counts3_1] 0) h = t39 Try.prog g0_1 sink1_1 l2_1 counts3_1 h K := by kernel_rfl
theorem c39 (g0_1 : Value) (sink1_1 : Value) (l2_1 : Value) (counts3_1 : Value) (h : Heap) (K : Value → Heap → Prop) (H : t39 Try.prog g0_1 sink1_1 l2_1 counts3_1 h K) : callM Try.prog 39 #[g0_1, sink1_1, l2_1, counts3_1] h K :=
  callM_of_wpA mixed (fn := Try.f39) Try.func39 (c := bodyOf Try.f39) rfl (of_decide_eq_true (by kernel_rfl)) (anOf []) 17 21 (by kernel_rfl) rfl [.cell 8 34, .tmp 9] (by kernel_rfl) (args := [g0_1, sink1_1, l2_1, counts3_1]) (by rw [e39]; exact H)

/-! laws.xLoad -/
def t40 (P : Program) (a0_1 : Value) (b1_1 : Value) (h : Heap) (K : Value → Heap → Prop) : Prop :=
  eop P (Instr.box 34 a0_1) h fun a2_1 h_1 =>
  eop P (Instr.box 34 b1_1) h_1 fun b3_1 h_2 =>
  pop P (Instr.fieldAt 34 a2_1 0) fun t5_1 =>
  rop P (Instr.loadAt 25 t5_1) h_2 fun t6_1 =>
  pop P (Instr.fieldAt 34 b3_1 0) fun t7_1 =>
  rop P (Instr.loadAt 25 t7_1) h_2 fun t8_1 =>
  callM P 45 #[t6_1, t8_1] h_2 fun t9_1 h_3 =>
  guardM t9_1 true (fun k_1 => pop P (Instr.fieldAt 34 a2_1 1) fun t11_1 =>
  k_1 t11_1 h_3) h_3 fun t11_2 h_4 =>
  guardM t9_1 true (fun k_2 => rop P (Instr.loadAt 25 t11_2) h_4 fun t12_1 =>
  k_2 t12_1 h_4) h_4 fun t12_2 h_5 =>
  guardM t9_1 true (fun k_3 => pop P (Instr.fieldAt 34 b3_1 1) fun t13_1 =>
  k_3 t13_1 h_5) h_5 fun t13_2 h_6 =>
  guardM t9_1 true (fun k_4 => rop P (Instr.loadAt 25 t13_2) h_6 fun t14_1 =>
  k_4 t14_1 h_6) h_6 fun t14_2 h_7 =>
  guardM t9_1 true (fun k_5 => callM P 45 #[t12_2, t14_2] h_7 fun t15_1 h_8 =>
  k_5 t15_1 h_8) h_7 fun t15_2 h_9 =>
  pop P (pickS t9_1 t15_2 (Value.bool false)) fun t16_1 =>
  K t16_1 h_9
theorem e40 (a0_1 : Value) (b1_1 : Value) (h : Heap) (K : Value → Heap → Prop) : wpA Try.prog 17 (anOf []) (bodyOf Try.f40) 1 (fun A h => resA Try.prog A h K [.tmp 4]) (fun _ _ _ => False) (fun A h => resA Try.prog A h K [.tmp 4]) (aargs [a0_1, b1_1] 0) h = t40 Try.prog a0_1 b1_1 h K := by kernel_rfl
theorem c40 (a0_1 : Value) (b1_1 : Value) (h : Heap) (K : Value → Heap → Prop) (H : t40 Try.prog a0_1 b1_1 h K) : callM Try.prog 40 #[a0_1, b1_1] h K :=
  callM_of_wpA mixed (fn := Try.f40) Try.func40 (c := bodyOf Try.f40) rfl (of_decide_eq_true (by kernel_rfl)) (anOf []) 15 17 (by kernel_rfl) rfl [.tmp 4] (by kernel_rfl) (args := [a0_1, b1_1]) (by rw [e40]; exact H)

/-! laws.xSum -/
def t41 (P : Program) (a0_1 : Value) (h : Heap) (K : Value → Heap → Prop) : Prop :=
  pop P (lenS 25 3 a0_1) fun t7_1 =>
  ∃ (I_1 : List Value → Heap → Prop) (μ_1 : List Value → Heap → Nat), I_1 [(Value.int IntKind.i64 0), (Value.int IntKind.i64 0)] h ∧
  ∀ (junk_1 : Nat → Value) (sum3_1 : Value) (t8_1 : Value) (h_1 : Heap), I_1 [sum3_1, t8_1] h_1 →
  pop P (binA .lss 3 t8_1 t7_1) fun t9_1 =>
  condM t9_1
  (pop P (Instr.indexAt 25 a0_1 t8_1) fun t10_1 =>
  rop P (Instr.loadAt 3 t10_1) h_1 fun t11_1 =>
  pop P (binA .add 3 sum3_1 t11_1) fun t14_1 =>
  pop P (binA .add 3 t8_1 (Value.int IntKind.i64 1)) fun t15_1 =>
  I_1 [t14_1, t15_1] h_1 ∧ μ_1 [t14_1, t15_1] h_1 < μ_1 [sum3_1, t8_1] h_1)
  (K sum3_1 h_1)
theorem e41 (a0_1 : Value) (h : Heap) (K : Value → Heap → Prop) : wpA Try.prog 17 (anOf [(58, [3, 8])]) (bodyOf Try.f41) 1 (fun A h => resA Try.prog A h K [.tmp 2]) (fun _ _ _ => False) (fun A h => resA Try.prog A h K [.tmp 2]) (aargs [a0_1] 0) h = t41 Try.prog a0_1 h K := by kernel_rfl
theorem c41 (a0_1 : Value) (h : Heap) (K : Value → Heap → Prop) (H : t41 Try.prog a0_1 h K) : callM Try.prog 41 #[a0_1] h K :=
  callM_of_wpA mixed (fn := Try.f41) Try.func41 (c := bodyOf Try.f41) rfl (of_decide_eq_true (by kernel_rfl)) (anOf [(58, [3, 8])]) 16 17 (by kernel_rfl) rfl [.tmp 2] (by kernel_rfl) (args := [a0_1]) (by rw [e41]; exact H)

/-! laws.xSame -/
def t45 (P : Program) (a0_1 : Value) (b1_1 : Value) (h : Heap) (K : Value → Heap → Prop) : Prop :=
  pop P (lenS 25 3 a0_1) fun t7_1 =>
  pop P (lenS 25 3 b1_1) fun t9_1 =>
  pop P (binE .neq 3 (.tmp 7) (.tmp 9) t7_1 t9_1) fun t10_1 =>
  condM t10_1
  (K (Value.bool false) h)
  (pop P (lenS 25 3 a0_1) fun t12_1 =>
  ∃ (I_1 : List Value → Heap → Prop) (μ_1 : List Value → Heap → Nat), I_1 [(Value.int IntKind.i64 0)] h ∧
  ∀ (junk_1 : Nat → Value) (t13_1 : Value) (h_1 : Heap), I_1 [t13_1] h_1 →
  pop P (binA .lss 3 t13_1 t12_1) fun t14_1 =>
  condM t14_1
  (pop P (Instr.indexAt 25 a0_1 t13_1) fun t18_1 =>
  rop P (Instr.loadAt 3 t18_1) h_1 fun t19_1 =>
  pop P (Instr.indexAt 25 b1_1 t13_1) fun t22_1 =>
  rop P (Instr.loadAt 3 t22_1) h_1 fun t23_1 =>
  pop P (binE .neq 3 (.tmp 19) (.tmp 23) t19_1 t23_1) fun t24_1 =>
  condM t24_1
  (K (Value.bool false) h_1)
  (pop P (binA .add 3 t13_1 (Value.int IntKind.i64 1)) fun t25_1 =>
  I_1 [t25_1] h_1 ∧ μ_1 [t25_1] h_1 < μ_1 [t13_1] h_1))
  (K (Value.bool true) h_1))
theorem e45 (a0_1 : Value) (b1_1 : Value) (h : Heap) (K : Value → Heap → Prop) : wpA Try.prog 26 (anOf [(58, [13])]) (bodyOf Try.f45) 1 (fun A h => resA Try.prog A h K [.tmp 4]) (fun _ _ _ => False) (fun A h => resA Try.prog A h K [.tmp 4]) (aargs [a0_1, b1_1] 0) h = t45 Try.prog a0_1 b1_1 h K := by kernel_rfl
theorem c45 (a0_1 : Value) (b1_1 : Value) (h : Heap) (K : Value → Heap → Prop) (H : t45 Try.prog a0_1 b1_1 h K) : callM Try.prog 45 #[a0_1, b1_1] h K :=
  callM_of_wpA mixed (fn := Try.f45) Try.func45 (c := bodyOf Try.f45) rfl (of_decide_eq_true (by kernel_rfl)) (anOf [(58, [13])]) 24 26 (by kernel_rfl) rfl [.tmp 4] (by kernel_rfl) (args := [a0_1, b1_1]) (by rw [e45]; exact H)

/-! spec.chGood -/
def t76 (P : Program) (g0_1 : Value) (sink1_1 : Value) (l2_1 : Value) (h : Heap) (K : Value → Heap → Prop) : Prop :=
  eop P (Instr.box 32 g0_1) h fun g3_1 h_1 =>
  eop P (Instr.box 34 l2_1) h_1 fun l5_1 h_2 =>
  rop P (Instr.loadAt 32 g3_1) h_2 fun t7_1 =>
  callM P 111 #[t7_1, sink1_1] h_2 fun t9_1 h_3 =>
  pop P (Op.unary .not t9_1) fun t10_1 =>
  guardM t10_1 false (fun k_1 => rop P (Instr.loadAt 32 g3_1) h_3 fun t12_1 =>
  k_1 t12_1 h_3) h_3 fun t12_2 h_4 =>
  guardM t10_1 false (fun k_2 => pop P (Instr.fieldAt 34 l5_1 0) fun t13_1 =>
  k_2 t13_1 h_4) h_4 fun t13_2 h_5 =>
  guardM t10_1 false (fun k_3 => rop P (Instr.loadAt 25 t13_2) h_5 fun t14_1 =>
  k_3 t14_1 h_5) h_5 fun t14_2 h_6 =>
  guardM t10_1 false (fun k_4 => k_4 sink1_1 h_6) h_6 fun t15_1 h_7 =>
  guardM t10_1 false (fun k_5 => pop P (Instr.build 132 #[(0, t14_2), (1, t15_1)]) fun t16_1 =>
  k_5 t16_1 h_7) h_7 fun t16_2 h_8 =>
  guardM t10_1 false (fun k_6 => callM P 138 #[t12_2, t16_2] h_8 fun t17_1 h_9 =>
  k_6 t17_1 h_9) h_8 fun t17_2 h_10 =>
  guardM t10_1 false (fun k_7 => pop P (Op.unary .not t17_2) fun t18_1 =>
  k_7 t18_1 h_10) h_10 fun t18_2 h_11 =>
  pop P (pickS t10_1 (Value.bool true) t18_2) fun t19_1 =>
  guardM t19_1 false (fun k_8 => pop P (Instr.fieldAt 34 l5_1 1) fun t21_1 =>
  k_8 t21_1 h_11) h_11 fun t21_2 h_12 =>
  guardM t19_1 false (fun k_9 => rop P (Instr.loadAt 25 t21_2) h_12 fun t22_1 =>
  k_9 t22_1 h_12) h_12 fun t22_2 h_13 =>
  guardM t19_1 false (fun k_10 => pop P (lenS 25 3 t22_2) fun t23_1 =>
  k_10 t23_1 h_13) h_13 fun t23_2 h_14 =>
  guardM t19_1 false (fun k_11 => pop P (Instr.fieldAt 32 g3_1 0) fun t24_1 =>
  k_11 t24_1 h_14) h_14 fun t24_2 h_15 =>
  guardM t19_1 false (fun k_12 => rop P (Instr.loadAt 22 t24_2) h_15 fun t25_1 =>
  k_12 t25_1 h_15) h_15 fun t25_2 h_16 =>
  guardM t19_1 false (fun k_13 => pop P (lenS 22 3 t25_2) fun t26_1 =>
  k_13 t26_1 h_16) h_16 fun t26_2 h_17 =>
  guardM t19_1 false (fun k_14 => pop P (binE .neq 3 (.tmp 23) (.tmp 26) t23_2 t26_2) fun t27_1 =>
  k_14 t27_1 h_17) h_17 fun t27_2 h_18 =>
  pop P (pickS t19_1 (Value.bool true) t27_2) fun t28_1 =>
  condM t28_1
  (K (Value.bool false) h_18)
  (pop P (Instr.fieldAt 34 l5_1 1) fun t29_1 =>
  rop P (Instr.loadAt 25 t29_1) h_18 fun t30_1 =>
  callM P 104 #[t30_1, (Value.int IntKind.i64 0), (Value.int IntKind.i64 20)] h_18 fun t31_1 h_19 =>
  guardM t31_1 true (fun k_15 => pop P (Instr.fieldAt 34 l5_1 1) fun t33_1 =>
  k_15 t33_1 h_19) h_19 fun t33_2 h_20 =>
  guardM t31_1 true (fun k_16 => rop P (Instr.loadAt 25 t33_2) h_20 fun t34_1 =>
  k_16 t34_1 h_20) h_20 fun t34_2 h_21 =>
  guardM t31_1 true (fun k_17 => callM P 139 #[t34_2] h_21 fun t35_1 h_22 =>
  k_17 t35_1 h_22) h_21 fun t35_2 h_23 =>
  guardM t31_1 true (fun k_18 => pop P (binA .leq 3 t35_2 (Value.int IntKind.i64 20)) fun t36_1 =>
  k_18 t36_1 h_23) h_23 fun t36_2 h_24 =>
  pop P (pickS t31_1 t36_2 (Value.bool false)) fun t37_1 =>
  K t37_1 h_24)
theorem e76 (g0_1 : Value) (sink1_1 : Value) (l2_1 : Value) (h : Heap) (K : Value → Heap → Prop) : wpA Try.prog 38 (anOf []) (bodyOf Try.f76) 1 (fun A h => resA Try.prog A h K [.tmp 6]) (fun _ _ _ => False) (fun A h => resA Try.prog A h K [.tmp 6]) (aargs [g0_1, sink1_1, l2_1] 0) h = t76 Try.prog g0_1 sink1_1 l2_1 h K := by kernel_rfl
theorem c76 (g0_1 : Value) (sink1_1 : Value) (l2_1 : Value) (h : Heap) (K : Value → Heap → Prop) (H : t76 Try.prog g0_1 sink1_1 l2_1 h K) : callM Try.prog 76 #[g0_1, sink1_1, l2_1] h K :=
  callM_of_wpA mixed (fn := Try.f76) Try.func76 (c := bodyOf Try.f76) rfl (of_decide_eq_true (by kernel_rfl)) (anOf []) 35 38 (by kernel_rfl) rfl [.tmp 6] (by kernel_rfl) (args := [g0_1, sink1_1, l2_1]) (by rw [e76]; exact H)

/-! spec.chEnd -/
def t77 (P : Program) (g0_1 : Value) (sink1_1 : Value) (l2_1 : Value) (choices3_1 : Value) (h : Heap) (K : Value → Heap → Prop) : Prop :=
  eop P (Instr.box 32 g0_1) h fun g4_1 h_1 =>
  eop P (Instr.box 34 l2_1) h_1 fun l6_1 h_2 =>
  eop P (Instr.alloc 34 true (.tuple #[])) h_2 fun t8_1 h_3 =>
  ∃ J_1 : List Value → Heap → Prop, (rop P (Instr.loadAt 34 l6_1) h_3 fun t16_1 =>
  pop P (Instr.fieldAt 32 g4_1 0) fun t18_1 =>
  rop P (Instr.loadAt 22 t18_1) h_3 fun t19_1 =>
  pop P (lenS 22 3 t19_1) fun t20_1 =>
  (callM P 109 #[t16_1] h_3 fun t17_1 h_4 =>
  (∀ w : World, w.heap = h_4 → (Instr.loadAt 22 t18_1).run P w = .ok t19_1 w) ∧
  (eop P (Instr.makeSlice 25 t20_1 t20_1) h_4 fun t21_1 h_5 =>
  (∀ w : World, w.heap = h_5 → (Instr.loadAt 22 t18_1).run P w = .ok t19_1 w) ∧
  eop P (Instr.alloc 34 true (.tuple #[])) h_5 fun out11_1 h_6 =>
  (∀ w : World, w.heap = h_6 → (Instr.loadAt 22 t18_1).run P w = .ok t19_1 w) ∧
  uop P (Instr.storeAt 34 out11_1 t17_1) h_6 fun u_1 h_7 =>
  (∀ w : World, w.heap = h_7 → (Instr.loadAt 22 t18_1).run P w = .ok t19_1 w) ∧
  J_1 [out11_1, t21_1] h_7) ∧
  (eop P (Instr.alloc 34 true (.tuple #[])) h_4 fun out11_2 h_8 =>
  (∀ w : World, w.heap = h_8 → (Instr.loadAt 22 t18_1).run P w = .ok t19_1 w) ∧
  (eop P (Instr.makeSlice 25 t20_1 t20_1) h_8 fun t21_2 h_9 =>
  (∀ w : World, w.heap = h_9 → (Instr.loadAt 22 t18_1).run P w = .ok t19_1 w) ∧
  uop P (Instr.storeAt 34 out11_2 t17_1) h_9 fun u_2 h_10 =>
  (∀ w : World, w.heap = h_10 → (Instr.loadAt 22 t18_1).run P w = .ok t19_1 w) ∧
  J_1 [out11_2, t21_2] h_10) ∧
  (uop P (Instr.storeAt 34 out11_2 t17_1) h_8 fun u_3 h_11 =>
  (∀ w : World, w.heap = h_11 → (Instr.loadAt 22 t18_1).run P w = .ok t19_1 w) ∧
  eop P (Instr.makeSlice 25 t20_1 t20_1) h_11 fun t21_3 h_12 =>
  (∀ w : World, w.heap = h_12 → (Instr.loadAt 22 t18_1).run P w = .ok t19_1 w) ∧
  J_1 [out11_2, t21_3] h_12))) ∧
  (eop P (Instr.makeSlice 25 t20_1 t20_1) h_3 fun t21_4 h_13 =>
  (∀ w : World, w.heap = h_13 → (Instr.loadAt 22 t18_1).run P w = .ok t19_1 w) ∧
  (∀ w : World, w.heap = h_13 → (Instr.loadAt 34 l6_1).run P w = .ok t16_1 w) ∧
  (callM P 109 #[t16_1] h_13 fun t17_2 h_14 =>
  (∀ w : World, w.heap = h_14 → (Instr.loadAt 22 t18_1).run P w = .ok t19_1 w) ∧
  eop P (Instr.alloc 34 true (.tuple #[])) h_14 fun out11_3 h_15 =>
  (∀ w : World, w.heap = h_15 → (Instr.loadAt 22 t18_1).run P w = .ok t19_1 w) ∧
  uop P (Instr.storeAt 34 out11_3 t17_2) h_15 fun u_4 h_16 =>
  (∀ w : World, w.heap = h_16 → (Instr.loadAt 22 t18_1).run P w = .ok t19_1 w) ∧
  J_1 [out11_3, t21_4] h_16) ∧
  (eop P (Instr.alloc 34 true (.tuple #[])) h_13 fun out11_4 h_17 =>
  (∀ w : World, w.heap = h_17 → (Instr.loadAt 22 t18_1).run P w = .ok t19_1 w) ∧
  (∀ w : World, w.heap = h_17 → (Instr.loadAt 34 l6_1).run P w = .ok t16_1 w) ∧
  callM P 109 #[t16_1] h_17 fun t17_3 h_18 =>
  (∀ w : World, w.heap = h_18 → (Instr.loadAt 22 t18_1).run P w = .ok t19_1 w) ∧
  uop P (Instr.storeAt 34 out11_4 t17_3) h_18 fun u_5 h_19 =>
  (∀ w : World, w.heap = h_19 → (Instr.loadAt 22 t18_1).run P w = .ok t19_1 w) ∧
  J_1 [out11_4, t21_4] h_19)) ∧
  (eop P (Instr.alloc 34 true (.tuple #[])) h_3 fun out11_5 h_20 =>
  (∀ w : World, w.heap = h_20 → (Instr.loadAt 22 t18_1).run P w = .ok t19_1 w) ∧
  (∀ w : World, w.heap = h_20 → (Instr.loadAt 34 l6_1).run P w = .ok t16_1 w) ∧
  (callM P 109 #[t16_1] h_20 fun t17_4 h_21 =>
  (∀ w : World, w.heap = h_21 → (Instr.loadAt 22 t18_1).run P w = .ok t19_1 w) ∧
  (eop P (Instr.makeSlice 25 t20_1 t20_1) h_21 fun t21_5 h_22 =>
  (∀ w : World, w.heap = h_22 → (Instr.loadAt 22 t18_1).run P w = .ok t19_1 w) ∧
  uop P (Instr.storeAt 34 out11_5 t17_4) h_22 fun u_6 h_23 =>
  (∀ w : World, w.heap = h_23 → (Instr.loadAt 22 t18_1).run P w = .ok t19_1 w) ∧
  J_1 [out11_5, t21_5] h_23) ∧
  (uop P (Instr.storeAt 34 out11_5 t17_4) h_21 fun u_7 h_24 =>
  (∀ w : World, w.heap = h_24 → (Instr.loadAt 22 t18_1).run P w = .ok t19_1 w) ∧
  eop P (Instr.makeSlice 25 t20_1 t20_1) h_24 fun t21_6 h_25 =>
  (∀ w : World, w.heap = h_25 → (Instr.loadAt 22 t18_1).run P w = .ok t19_1 w) ∧
  J_1 [out11_5, t21_6] h_25)) ∧
  (eop P (Instr.makeSlice 25 t20_1 t20_1) h_20 fun t21_7 h_26 =>
  (∀ w : World, w.heap = h_26 → (Instr.loadAt 22 t18_1).run P w = .ok t19_1 w) ∧
  (∀ w : World, w.heap = h_26 → (Instr.loadAt 34 l6_1).run P w = .ok t16_1 w) ∧
  callM P 109 #[t16_1] h_26 fun t17_5 h_27 =>
  (∀ w : World, w.heap = h_27 → (Instr.loadAt 22 t18_1).run P w = .ok t19_1 w) ∧
  uop P (Instr.storeAt 34 out11_5 t17_5) h_27 fun u_8 h_28 =>
  (∀ w : World, w.heap = h_28 → (Instr.loadAt 22 t18_1).run P w = .ok t19_1 w) ∧
  J_1 [out11_5, t21_7] h_28))) ∧
  ∀ (junk_1 : Nat → Value) (out11_6 : Value) (moves12_1 : Value) (h_29 : Heap), J_1 [out11_6, moves12_1] h_29 →
  ∃ (I_1 : List Value → Heap → Prop) (μ_1 : List Value → Heap → Nat), I_1 [(Value.int IntKind.i64 0)] h_29 ∧
  ∀ (junk_2 : Nat → Value) (k13_1 : Value) (h_30 : Heap), I_1 [k13_1] h_30 →
  pop P (Instr.fieldAt 34 out11_6 1) fun t25_1 =>
  rop P (Instr.loadAt 25 t25_1) h_30 fun t26_1 =>
  callM P 96 #[sink1_1, t26_1] h_30 fun t27_1 h_31 =>
  pop P (lenS 25 3 t27_1) fun t29_1 =>
  pop P (binE .eql 3 (.tmp 29) (.const (Value.int IntKind.i64 0)) t29_1 (Value.int IntKind.i64 0)) fun t30_1 =>
  condM t30_1
  (rop P (Instr.loadAt 34 out11_6) h_31 fun t31_1 =>
  uop P (Instr.storeAt 34 t8_1 t31_1) h_31 fun u_9 h_32 =>
  rop P (Instr.loadAt 34 t8_1) h_32 fun r_1 =>
  K (.tuple #[r_1, moves12_1, (Value.bool true)]) h_32)
  (pop P (binA .geq 3 k13_1 (Value.int IntKind.i64 4000)) fun t34_1 =>
  condM t34_1
  (pop P (Instr.build 34 #[]) fun t35_1 =>
  uop P (Instr.storeAt 34 t8_1 t35_1) h_31 fun u_10 h_33 =>
  rop P (Instr.loadAt 34 t8_1) h_33 fun r_2 =>
  K (.tuple #[r_2, (Value.slice none 0 0), (Value.bool false)]) h_33)
  (pop P (Instr.indexAt 25 t27_1 (Value.int IntKind.i64 0)) fun t37_1 =>
  rop P (Instr.loadAt 3 t37_1) h_31 fun t38_1 =>
  ∃ J_2 : List Value → Heap → Prop, (pop P (lenS 25 3 choices3_1) fun t41_1 =>
  pop P (binA .lss 3 k13_1 t41_1) fun t42_1 =>
  condM t42_1
  (pop P (Instr.indexAt 25 choices3_1 k13_1) fun t46_1 =>
  rop P (Instr.loadAt 3 t46_1) h_31 fun t47_1 =>
  pop P (lenS 25 3 t27_1) fun t49_1 =>
  pop P (binA .rem 3 t47_1 t49_1) fun t50_1 =>
  pop P (Instr.indexAt 25 t27_1 t50_1) fun t51_1 =>
  rop P (Instr.loadAt 3 t51_1) h_31 fun t52_1 =>
  J_2 [t52_1] h_31)
  (J_2 [t38_1] h_31)) ∧
  ∀ (junk_3 : Nat → Value) (p15_1 : Value) (h_34 : Heap), J_2 [p15_1] h_34 →
  rop P (Instr.loadAt 32 g4_1) h_34 fun t53_1 =>
  rop P (Instr.loadAt 34 out11_6) h_34 fun t54_1 =>
  callM P 110 #[t53_1, t54_1, p15_1] h_34 fun t56_1 h_35 =>
  pop P (Instr.indexAt 25 moves12_1 p15_1) fun t59_1 =>
  rop P (Instr.loadAt 3 t59_1) h_35 fun t60_1 =>
  pop P (binA .add 3 t60_1 (Value.int IntKind.i64 1)) fun t61_1 =>
  pop P (Instr.indexAt 25 moves12_1 p15_1) fun t62_1 =>
  uop P (Instr.storeAt 3 t62_1 t61_1) h_35 fun u_11 h_36 =>
  pop P (binA .add 3 k13_1 (Value.int IntKind.i64 1)) fun t23_1 =>
  I_1 [t23_1] h_36 ∧ μ_1 [t23_1] h_36 < μ_1 [k13_1] h_30))
theorem e77 (g0_1 : Value) (sink1_1 : Value) (l2_1 : Value) (choices3_1 : Value) (h : Heap) (K : Value → Heap → Prop) : wpA Try.prog 63 (anOf [(3, [11, 12]), (30, [13]), (3855, [15])]) (bodyOf Try.f77) 1 (fun A h => resA Try.prog A h K [.cell 8 34, .tmp 9, .tmp 10]) (fun _ _ _ => False) (fun A h => resA Try.prog A h K [.cell 8 34, .tmp 9, .tmp 10]) (aargs [g0_1, sink1_1, l2_1, choices3_1] 0) h = t77 Try.prog g0_1 sink1_1 l2_1 choices3_1 h K := by kernel_rfl
theorem c77 (g0_1 : Value) (sink1_1 : Value) (l2_1 : Value) (choices3_1 : Value) (h : Heap) (K : Value → Heap → Prop) (H : t77 Try.prog g0_1 sink1_1 l2_1 choices3_1 h K) : callM Try.prog 77 #[g0_1, sink1_1, l2_1, choices3_1] h K :=
  callM_of_wpA mixed (fn := Try.f77) Try.func77 (c := bodyOf Try.f77) rfl (of_decide_eq_true (by kernel_rfl)) (anOf [(3, [11, 12]), (30, [13]), (3855, [15])]) 59 63 (by kernel_rfl) rfl [.cell 8 34, .tmp 9, .tmp 10] (by kernel_rfl) (args := [g0_1, sink1_1, l2_1, choices3_1]) (by rw [e77]; exact H)

/-! impl.isLoad -/
def t79 (P : Program) (g0_1 : Value) (sink1_1 : Value) (l2_1 : Value) (h : Heap) (K : Value → Heap → Prop) : Prop :=
  eop P (Instr.box 32 g0_1) h fun g3_1 h_1 =>
  eop P (Instr.box 34 l2_1) h_1 fun l5_1 h_2 =>
  rop P (Instr.loadAt 32 g3_1) h_2 fun t7_1 =>
  callM P 105 #[t7_1, sink1_1] h_2 fun t9_1 h_3 =>
  guardM t9_1 true (fun k_1 => rop P (Instr.loadAt 32 g3_1) h_3 fun t11_1 =>
  k_1 t11_1 h_3) h_3 fun t11_2 h_4 =>
  guardM t9_1 true (fun k_2 => pop P (Instr.fieldAt 34 l5_1 0) fun t12_1 =>
  k_2 t12_1 h_4) h_4 fun t12_2 h_5 =>
  guardM t9_1 true (fun k_3 => rop P (Instr.loadAt 25 t12_2) h_5 fun t13_1 =>
  k_3 t13_1 h_5) h_5 fun t13_2 h_6 =>
  guardM t9_1 true (fun k_4 => callM P 140 #[t11_2, t13_2] h_6 fun t14_1 h_7 =>
  k_4 t14_1 h_7) h_6 fun t14_2 h_8 =>
  pop P (pickS t9_1 t14_2 (Value.bool false)) fun t15_1 =>
  guardM t15_1 true (fun k_5 => rop P (Instr.loadAt 32 g3_1) h_8 fun t17_1 =>
  k_5 t17_1 h_8) h_8 fun t17_2 h_9 =>
  guardM t15_1 true (fun k_6 => pop P (Instr.fieldAt 34 l5_1 1) fun t18_1 =>
  k_6 t18_1 h_9) h_9 fun t18_2 h_10 =>
  guardM t15_1 true (fun k_7 => rop P (Instr.loadAt 25 t18_2) h_10 fun t19_1 =>
  k_7 t19_1 h_10) h_10 fun t19_2 h_11 =>
  guardM t15_1 true (fun k_8 => callM P 141 #[t17_2, t19_2] h_11 fun t20_1 h_12 =>
  k_8 t20_1 h_12) h_11 fun t20_2 h_13 =>
  pop P (pickS t15_1 t20_2 (Value.bool false)) fun t21_1 =>
  guardM t21_1 true (fun k_9 => pop P (Instr.fieldAt 34 l5_1 1) fun t23_1 =>
  k_9 t23_1 h_13) h_13 fun t23_2 h_14 =>
  guardM t21_1 true (fun k_10 => rop P (Instr.loadAt 25 t23_2) h_14 fun t24_1 =>
  k_10 t24_1 h_14) h_14 fun t24_2 h_15 =>
  guardM t21_1 true (fun k_11 => callM P 92 #[t24_2] h_15 fun t25_1 h_16 =>
  k_11 t25_1 h_16) h_15 fun t25_2 h_17 =>
  guardM t21_1 true (fun k_12 => pop P (binA .leq 3 t25_2 (Value.int IntKind.i64 20)) fun t26_1 =>
  k_12 t26_1 h_17) h_17 fun t26_2 h_18 =>
  pop P (pickS t21_1 t26_2 (Value.bool false)) fun t27_1 =>
  K t27_1 h_18
theorem e79 (g0_1 : Value) (sink1_1 : Value) (l2_1 : Value) (h : Heap) (K : Value → Heap → Prop) : wpA Try.prog 28 (anOf []) (bodyOf Try.f79) 1 (fun A h => resA Try.prog A h K [.tmp 6]) (fun _ _ _ => False) (fun A h => resA Try.prog A h K [.tmp 6]) (aargs [g0_1, sink1_1, l2_1] 0) h = t79 Try.prog g0_1 sink1_1 l2_1 h K := by kernel_rfl
theorem c79 (g0_1 : Value) (sink1_1 : Value) (l2_1 : Value) (h : Heap) (K : Value → Heap → Prop) (H : t79 Try.prog g0_1 sink1_1 l2_1 h K) : callM Try.prog 79 #[g0_1, sink1_1, l2_1] h K :=
  callM_of_wpA mixed (fn := Try.f79) Try.func79 (c := bodyOf Try.f79) rfl (of_decide_eq_true (by kernel_rfl)) (anOf []) 25 28 (by kernel_rfl) rfl [.tmp 6] (by kernel_rfl) (args := [g0_1, sink1_1, l2_1]) (by rw [e79]; exact H)

/-! (impl.Load).copied -/
def t80 (P : Program) (l0_1 : Value) (h : Heap) (K : Value → Heap → Prop) : Prop :=
  eop P (Instr.box 34 l0_1) h fun l1_1 h_1 =>
  eop P (Instr.alloc 34 true (.tuple #[])) h_1 fun t2_1 h_2 =>
  pop P (Instr.fieldAt 34 l1_1 0) fun t3_1 =>
  rop P (Instr.loadAt 25 t3_1) h_2 fun t4_1 =>
  pop P (Instr.fieldAt 34 l1_1 1) fun t6_1 =>
  rop P (Instr.loadAt 25 t6_1) h_2 fun t7_1 =>
  callM P 142 #[t4_1] h_2 fun t5_1 h_3 =>
  (∀ w : World, w.heap = h_3 → (Instr.loadAt 25 t6_1).run P w = .ok t7_1 w) ∧
  callM P 142 #[t7_1] h_3 fun t8_1 h_4 =>
  pop P (Instr.build 34 #[(0, t5_1), (1, t8_1)]) fun t9_1 =>
  uop P (Instr.storeAt 34 t2_1 t9_1) h_4 fun u_1 h_5 =>
  rop P (Instr.loadAt 34 t2_1) h_5 fun r_1 =>
  K r_1 h_5
theorem e80 (l0_1 : Value) (h : Heap) (K : Value → Heap → Prop) : wpA Try.prog 10 (anOf []) (bodyOf Try.f80) 1 (fun A h => resA Try.prog A h K [.cell 2 34]) (fun _ _ _ => False) (fun A h => resA Try.prog A h K [.cell 2 34]) (aargs [l0_1] 0) h = t80 Try.prog l0_1 h K := by kernel_rfl
theorem c80 (l0_1 : Value) (h : Heap) (K : Value → Heap → Prop) (H : t80 Try.prog l0_1 h K) : callM Try.prog 80 #[l0_1] h K :=
  callM_of_wpA mixed (fn := Try.f80) Try.func80 (c := bodyOf Try.f80) rfl (of_decide_eq_true (by kernel_rfl)) (anOf []) 9 10 (by kernel_rfl) rfl [.cell 2 34] (by kernel_rfl) (args := [l0_1]) (by rw [e80]; exact H)

/-! (*impl.Load).end -/
def t81 (P : Program) (l0_1 : Value) (g1_1 : Value) (sink2_1 : Value) (choices3_1 : Value) (h : Heap) (K : Value → Heap → Prop) : Prop :=
  eop P (Instr.box 32 g1_1) h fun g5_1 h_1 =>
  pop P (Instr.fieldAt 32 g5_1 0) fun t14_1 =>
  rop P (Instr.loadAt 22 t14_1) h_1 fun t15_1 =>
  pop P (lenS 22 3 t15_1) fun t16_1 =>
  eop P (Instr.makeSlice 25 t16_1 t16_1) h_1 fun t17_1 h_2 =>
  ∃ (I_1 : List Value → Heap → Prop) (μ_1 : List Value → Heap → Nat), I_1 [(Value.int IntKind.i64 0)] h_2 ∧
  ∀ (junk_1 : Nat → Value) (j11_1 : Value) (h_3 : Heap), I_1 [j11_1] h_3 →
  callM P 94 #[l0_1, sink2_1] h_3 fun t22_1 h_4 =>
  pop P (lenS 25 3 t22_1) fun t24_1 =>
  pop P (binE .eql 3 (.tmp 24) (.const (Value.int IntKind.i64 0)) t24_1 (Value.int IntKind.i64 0)) fun t25_1 =>
  condM t25_1
  (K (.tuple #[t17_1, (Value.bool true)]) h_4)
  (pop P (binE .eql 3 (.tmp 27) (.const (Value.int IntKind.i64 4000)) j11_1 (Value.int IntKind.i64 4000)) fun t28_1 =>
  condM t28_1
  (K (.tuple #[(Value.slice none 0 0), (Value.bool false)]) h_4)
  (pop P (Instr.indexAt 25 t22_1 (Value.int IntKind.i64 0)) fun t30_1 =>
  rop P (Instr.loadAt 3 t30_1) h_4 fun t31_1 =>
  ∃ J_1 : List Value → Heap → Prop, (pop P (lenS 25 3 choices3_1) fun t34_1 =>
  pop P (binA .lss 3 j11_1 t34_1) fun t35_1 =>
  condM t35_1
  (pop P (Instr.indexAt 25 choices3_1 j11_1) fun t39_1 =>
  rop P (Instr.loadAt 3 t39_1) h_4 fun t40_1 =>
  pop P (lenS 25 3 t22_1) fun t42_1 =>
  pop P (binA .rem 3 t40_1 t42_1) fun t43_1 =>
  pop P (Instr.indexAt 25 t22_1 t43_1) fun t44_1 =>
  rop P (Instr.loadAt 3 t44_1) h_4 fun t45_1 =>
  J_1 [t45_1] h_4)
  (J_1 [t31_1] h_4)) ∧
  ∀ (junk_2 : Nat → Value) (p13_1 : Value) (h_5 : Heap), J_1 [p13_1] h_5 →
  rop P (Instr.loadAt 32 g5_1) h_5 fun t47_1 =>
  callM P 143 #[l0_1, t47_1, p13_1] h_5 fun t49_1 h_6 =>
  pop P (Instr.indexAt 25 t17_1 p13_1) fun t52_1 =>
  rop P (Instr.loadAt 3 t52_1) h_6 fun t53_1 =>
  pop P (binA .add 3 t53_1 (Value.int IntKind.i64 1)) fun t54_1 =>
  pop P (Instr.indexAt 25 t17_1 p13_1) fun t55_1 =>
  uop P (Instr.storeAt 3 t55_1 t54_1) h_6 fun u_1 h_7 =>
  pop P (binA .add 3 j11_1 (Value.int IntKind.i64 1)) fun t19_1 =>
  I_1 [t19_1] h_7 ∧ μ_1 [t19_1] h_7 < μ_1 [j11_1] h_3))
theorem e81 (l0_1 : Value) (g1_1 : Value) (sink2_1 : Value) (choices3_1 : Value) (h : Heap) (K : Value → Heap → Prop) : wpA Try.prog 56 (anOf [(30, [11]), (3855, [13])]) (bodyOf Try.f81) 1 (fun A h => resA Try.prog A h K [.tmp 8, .tmp 9]) (fun _ _ _ => False) (fun A h => resA Try.prog A h K [.tmp 8, .tmp 9]) (aargs [l0_1, g1_1, sink2_1, choices3_1] 0) h = t81 Try.prog l0_1 g1_1 sink2_1 choices3_1 h K := by kernel_rfl
theorem c81 (l0_1 : Value) (g1_1 : Value) (sink2_1 : Value) (choices3_1 : Value) (h : Heap) (K : Value → Heap → Prop) (H : t81 Try.prog l0_1 g1_1 sink2_1 choices3_1 h K) : callM Try.prog 81 #[l0_1, g1_1, sink2_1, choices3_1] h K :=
  callM_of_wpA mixed (fn := Try.f81) Try.func81 (c := bodyOf Try.f81) rfl (of_decide_eq_true (by kernel_rfl)) (anOf [(30, [11]), (3855, [13])]) 52 56 (by kernel_rfl) rfl [.tmp 8, .tmp 9] (by kernel_rfl) (args := [l0_1, g1_1, sink2_1, choices3_1]) (by rw [e81]; exact H)

/-! impl.isGraph -/
def t88 (P : Program) (g0_1 : Value) (h : Heap) (K : Value → Heap → Prop) : Prop :=
  eop P (Instr.box 32 g0_1) h fun g1_1 h_1 =>
  pop P (Instr.fieldAt 32 g1_1 0) fun t6_1 =>
  rop P (Instr.loadAt 22 t6_1) h_1 fun t7_1 =>
  pop P (lenS 22 3 t7_1) fun t8_1 =>
  eop P (Instr.alloc 3 true (.tuple #[])) h_1 fun n3_1 h_2 =>
  uop P (Instr.storeAt 3 n3_1 t8_1) h_2 fun u_1 h_3 =>
  rop P (Instr.loadAt 3 n3_1) h_3 fun t9_1 =>
  callM P 113 #[t9_1, (Value.int IntKind.i64 1), (Value.int IntKind.i64 8)] h_3 fun t10_1 h_4 =>
  pop P (Op.unary .not t10_1) fun t11_1 =>
  condM t11_1
  (K (Value.bool false) h_4)
  (pop P (Instr.fieldAt 32 g1_1 0) fun t12_1 =>
  rop P (Instr.loadAt 22 t12_1) h_4 fun t13_1 =>
  pop P (lenS 22 3 t13_1) fun t14_1 =>
  ∃ (I_1 : List Value → Heap → Prop) (μ_1 : List Value → Heap → Nat), I_1 [(Value.int IntKind.i64 0)] h_4 ∧
  ∀ (junk_1 : Nat → Value) (t15_1 : Value) (h_5 : Heap), I_1 [t15_1] h_5 →
  pop P (binA .lss 3 t15_1 t14_1) fun t16_1 =>
  condM t16_1
  (pop P (Instr.indexAt 22 t13_1 t15_1) fun t17_1 =>
  rop P (Instr.loadAt 25 t17_1) h_5 fun t18_1 =>
  pop P (lenS 25 3 t18_1) fun t20_1 =>
  pop P (binA .gtr 3 t20_1 (Value.int IntKind.i64 5)) fun t21_1 =>
  guardM t21_1 false (fun k_1 => k_1 t18_1 h_5) h_5 fun t23_1 h_6 =>
  guardM t21_1 false (fun k_2 => pop P (Instr.makeFunc (Fn.func 150) #[] #[n3_1]) fun t24_1 =>
  k_2 t24_1 h_6) h_6 fun t24_2 h_7 =>
  guardM t21_1 false (fun k_3 => callM P 102 #[t23_1, t24_2] h_7 fun t25_1 h_8 =>
  k_3 t25_1 h_8) h_7 fun t25_2 h_9 =>
  pop P (pickS t21_1 (Value.bool true) t25_2) fun t26_1 =>
  condM t26_1
  (K (Value.bool false) h_9)
  (pop P (binA .add 3 t15_1 (Value.int IntKind.i64 1)) fun t27_1 =>
  I_1 [t27_1] h_9 ∧ μ_1 [t27_1] h_9 < μ_1 [t15_1] h_5))
  (K (Value.bool true) h_5))
theorem e88 (g0_1 : Value) (h : Heap) (K : Value → Heap → Prop) : wpA Try.prog 28 (anOf [(122, [15])]) (bodyOf Try.f88) 1 (fun A h => resA Try.prog A h K [.tmp 2]) (fun _ _ _ => False) (fun A h => resA Try.prog A h K [.tmp 2]) (aargs [g0_1] 0) h = t88 Try.prog g0_1 h K := by kernel_rfl
theorem c88 (g0_1 : Value) (h : Heap) (K : Value → Heap → Prop) (H : t88 Try.prog g0_1 h K) : callM Try.prog 88 #[g0_1] h K :=
  callM_of_wpA mixed (fn := Try.f88) Try.func88 (c := bodyOf Try.f88) rfl (of_decide_eq_true (by kernel_rfl)) (anOf [(122, [15])]) 27 28 (by kernel_rfl) rfl [.tmp 2] (by kernel_rfl) (args := [g0_1]) (by rw [e88]; exact H)

/-! impl.sum -/
def t92 (P : Program) (list0_1 : Value) (h : Heap) (K : Value → Heap → Prop) : Prop :=
  pop P (lenS 25 3 list0_1) fun t7_1 =>
  ∃ (I_1 : List Value → Heap → Prop) (μ_1 : List Value → Heap → Nat), I_1 [(Value.int IntKind.i64 0), (Value.int IntKind.i64 0)] h ∧
  ∀ (junk_1 : Nat → Value) (out3_1 : Value) (t8_1 : Value) (h_1 : Heap), I_1 [out3_1, t8_1] h_1 →
  pop P (binA .lss 3 t8_1 t7_1) fun t9_1 =>
  condM t9_1
  (pop P (Instr.indexAt 25 list0_1 t8_1) fun t10_1 =>
  rop P (Instr.loadAt 3 t10_1) h_1 fun t11_1 =>
  pop P (binA .add 3 out3_1 t11_1) fun t14_1 =>
  pop P (binA .add 3 t8_1 (Value.int IntKind.i64 1)) fun t15_1 =>
  I_1 [t14_1, t15_1] h_1 ∧ μ_1 [t14_1, t15_1] h_1 < μ_1 [out3_1, t8_1] h_1)
  (K out3_1 h_1)
theorem e92 (list0_1 : Value) (h : Heap) (K : Value → Heap → Prop) : wpA Try.prog 17 (anOf [(58, [3, 8])]) (bodyOf Try.f92) 1 (fun A h => resA Try.prog A h K [.tmp 2]) (fun _ _ _ => False) (fun A h => resA Try.prog A h K [.tmp 2]) (aargs [list0_1] 0) h = t92 Try.prog list0_1 h K := by kernel_rfl
theorem c92 (list0_1 : Value) (h : Heap) (K : Value → Heap → Prop) (H : t92 Try.prog list0_1 h K) : callM Try.prog 92 #[list0_1] h K :=
  callM_of_wpA mixed (fn := Try.f92) Try.func92 (c := bodyOf Try.f92) rfl (of_decide_eq_true (by kernel_rfl)) (anOf [(58, [3, 8])]) 16 17 (by kernel_rfl) rfl [.tmp 2] (by kernel_rfl) (args := [list0_1]) (by rw [e92]; exact H)

/-! impl.force -/
def t93 (P : Program) (g0_1 : Value) (sink1_1 : Value) (l2_1 : Value) (counts3_1 : Value) (h : Heap) (K : Value → Heap → Prop) : Prop :=
  eop P (Instr.box 32 g0_1) h fun g4_1 h_1 =>
  eop P (Instr.box 34 l2_1) h_1 fun l6_1 h_2 =>
  eop P (Instr.alloc 34 true (.tuple #[])) h_2 fun t8_1 h_3 =>
  rop P (Instr.loadAt 32 g4_1) h_3 fun t13_1 =>
  rop P (Instr.loadAt 34 l6_1) h_3 fun t15_1 =>
  callM P 79 #[t13_1, sink1_1, t15_1] h_3 fun t16_1 h_4 =>
  pop P (Op.unary .not t16_1) fun t17_1 =>
  guardM t17_1 false (fun k_1 => k_1 counts3_1 h_4) h_4 fun t19_1 h_5 =>
  guardM t17_1 false (fun k_2 => pop P (lenS 25 3 t19_1) fun t20_1 =>
  k_2 t20_1 h_5) h_5 fun t20_2 h_6 =>
  guardM t17_1 false (fun k_3 => pop P (Instr.fieldAt 32 g4_1 0) fun t21_1 =>
  k_3 t21_1 h_6) h_6 fun t21_2 h_7 =>
  guardM t17_1 false (fun k_4 => rop P (Instr.loadAt 22 t21_2) h_7 fun t22_1 =>
  k_4 t22_1 h_7) h_7 fun t22_2 h_8 =>
  guardM t17_1 false (fun k_5 => pop P (lenS 22 3 t22_2) fun t23_1 =>
  k_5 t23_1 h_8) h_8 fun t23_2 h_9 =>
  guardM t17_1 false (fun k_6 => pop P (binE .neq 3 (.tmp 20) (.tmp 23) t20_2 t23_2) fun t24_1 =>
  k_6 t24_1 h_9) h_9 fun t24_2 h_10 =>
  pop P (pickS t17_1 (Value.bool true) t24_2) fun t25_1 =>
  guardM t25_1 false (fun k_7 => k_7 counts3_1 h_10) h_10 fun t27_1 h_11 =>
  guardM t25_1 false (fun k_8 => k_8 sink1_1 h_11) h_11 fun t28_1 h_12 =>
  guardM t25_1 false (fun k_9 => pop P (Instr.indexAt 25 t27_1 t28_1) fun t29_1 =>
  k_9 t29_1 h_12) h_12 fun t29_2 h_13 =>
  guardM t25_1 false (fun k_10 => rop P (Instr.loadAt 3 t29_2) h_13 fun t30_1 =>
  k_10 t30_1 h_13) h_13 fun t30_2 h_14 =>
  guardM t25_1 false (fun k_11 => pop P (binE .neq 3 (.tmp 30) (.const (Value.int IntKind.i64 0)) t30_2 (Value.int IntKind.i64 0)) fun t31_1 =>
  k_11 t31_1 h_14) h_14 fun t31_2 h_15 =>
  pop P (pickS t25_1 (Value.bool true) t31_2) fun t32_1 =>
  guardM t32_1 false (fun k_12 => k_12 counts3_1 h_15) h_15 fun t34_1 h_16 =>
  guardM t32_1 false (fun k_13 => callM P 102 #[t34_1, (.func (.func 155) #[] #[])] h_16 fun t35_1 h_17 =>
  k_13 t35_1 h_17) h_16 fun t35_2 h_18 =>
  pop P (pickS t32_1 (Value.bool true) t35_2) fun t36_1 =>
  condM t36_1
  (pop P (Instr.build 34 #[]) fun t37_1 =>
  uop P (Instr.storeAt 34 t8_1 t37_1) h_18 fun u_1 h_19 =>
  rop P (Instr.loadAt 34 t8_1) h_19 fun r_1 =>
  K (.tuple #[r_1, (Value.bool false)]) h_19)
  (rop P (Instr.loadAt 34 l6_1) h_18 fun t38_1 =>
  callM P 80 #[t38_1] h_18 fun t39_1 h_20 =>
  eop P (Instr.alloc 34 true (.tuple #[])) h_20 fun out10_1 h_21 =>
  uop P (Instr.storeAt 34 out10_1 t39_1) h_21 fun u_2 h_22 =>
  pop P (lenS 25 3 counts3_1) fun t41_1 =>
  ∃ (I_1 : List Value → Heap → Prop) (μ_1 : List Value → Heap → Nat), I_1 [(Value.int IntKind.i64 0)] h_22 ∧
  ∀ (junk_1 : Nat → Value) (t42_1 : Value) (h_23 : Heap), I_1 [t42_1] h_23 →
  pop P (binA .lss 3 t42_1 t41_1) fun t43_1 =>
  condM t43_1
  (pop P (Instr.indexAt 25 counts3_1 t42_1) fun t45_1 =>
  rop P (Instr.loadAt 3 t45_1) h_23 fun t46_1 =>
  ∃ (I_2 : List Value → Heap → Prop) (μ_2 : List Value → Heap → Nat), I_2 [(Value.int IntKind.i64 0)] h_23 ∧
  ∀ (junk_2 : Nat → Value) (t48_1 : Value) (h_24 : Heap), I_2 [t48_1] h_24 →
  pop P (binA .lss 3 t48_1 t46_1) fun t49_1 =>
  condM t49_1
  (rop P (Instr.loadAt 32 g4_1) h_24 fun t50_1 =>
  callM P 143 #[out10_1, t50_1, t42_1] h_24 fun t52_1 h_25 =>
  pop P (binA .add 3 t48_1 (Value.int IntKind.i64 1)) fun t53_1 =>
  I_2 [t53_1] h_25 ∧ μ_2 [t53_1] h_25 < μ_2 [t48_1] h_24)
  (pop P (binA .add 3 t42_1 (Value.int IntKind.i64 1)) fun t54_1 =>
  I_1 [t54_1] h_24 ∧ μ_1 [t54_1] h_24 < μ_1 [t42_1] h_23))
  (rop P (Instr.loadAt 34 out10_1) h_23 fun t55_1 =>
  uop P (Instr.storeAt 34 t8_1 t55_1) h_23 fun u_3 h_26 =>
  rop P (Instr.loadAt 34 t8_1) h_26 fun r_2 =>
  K (.tuple #[r_2, (Value.bool true)]) h_26))
theorem e93 (g0_1 : Value) (sink1_1 : Value) (l2_1 : Value) (counts3_1 : Value) (h : Heap) (K : Value → Heap → Prop) : wpA Try.prog 56 (anOf [(122, [42]), (31334, [48])]) (bodyOf Try.f93) 1 (fun A h => resA Try.prog A h K [.cell 8 34, .tmp 9]) (fun _ _ _ => False) (fun A h => resA Try.prog A h K [.cell 8 34, .tmp 9]) (aargs [g0_1, sink1_1, l2_1, counts3_1] 0) h = t93 Try.prog g0_1 sink1_1 l2_1 counts3_1 h K := by kernel_rfl
theorem c93 (g0_1 : Value) (sink1_1 : Value) (l2_1 : Value) (counts3_1 : Value) (h : Heap) (K : Value → Heap → Prop) (H : t93 Try.prog g0_1 sink1_1 l2_1 counts3_1 h K) : callM Try.prog 93 #[g0_1, sink1_1, l2_1, counts3_1] h K :=
  callM_of_wpA mixed (fn := Try.f93) Try.func93 (c := bodyOf Try.f93) rfl (of_decide_eq_true (by kernel_rfl)) (anOf [(122, [42]), (31334, [48])]) 52 56 (by kernel_rfl) rfl [.cell 8 34, .tmp 9] (by kernel_rfl) (args := [g0_1, sink1_1, l2_1, counts3_1]) (by rw [e93]; exact H)

/-! (*impl.Load).waiting -/
def t94 (P : Program) (l0_1 : Value) (sink1_1 : Value) (h : Heap) (K : Value → Heap → Prop) : Prop :=
  eop P (Instr.buildSlice 25 0 #[]) h fun t8_1 h_1 =>
  pop P (nilS l0_1) fun t10_1 =>
  pop P (Instr.fieldAt 34 t10_1 1) fun t11_1 =>
  rop P (Instr.loadAt 25 t11_1) h_1 fun t12_1 =>
  pop P (lenS 25 3 t12_1) fun t13_1 =>
  ∃ (I_1 : List Value → Heap → Prop) (μ_1 : List Value → Heap → Nat), I_1 [t8_1, (Value.int IntKind.i64 0)] h_1 ∧
  ∀ (junk_1 : Nat → Value) (out5_1 : Value) (t14_1 : Value) (h_2 : Heap), I_1 [out5_1, t14_1] h_2 →
  pop P (binA .lss 3 t14_1 t13_1) fun t15_1 =>
  condM t15_1
  (pop P (Instr.indexAt 25 t12_1 t14_1) fun t17_1 =>
  rop P (Instr.loadAt 3 t17_1) h_2 fun t18_1 =>
  pop P (binE .neq 3 (.tmp 19) (.tmp 20) t14_1 sink1_1) fun t21_1 =>
  guardM t21_1 true (fun k_1 => k_1 t18_1 h_2) h_2 fun t23_1 h_3 =>
  guardM t21_1 true (fun k_2 => pop P (binA .gtr 3 t23_1 (Value.int IntKind.i64 0)) fun t24_1 =>
  k_2 t24_1 h_3) h_3 fun t24_2 h_4 =>
  pop P (pickS t21_1 t24_2 (Value.bool false)) fun t25_1 =>
  condM t25_1
  (eop P (Instr.buildSlice 25 1 #[(0, t14_1)]) h_4 fun t28_1 h_5 =>
  eop P (appS 25 25 25 out5_1 t28_1) h_5 fun t29_1 h_6 =>
  pop P (binA .add 3 t14_1 (Value.int IntKind.i64 1)) fun t30_1 =>
  I_1 [t29_1, t30_1] h_6 ∧ μ_1 [t29_1, t30_1] h_6 < μ_1 [out5_1, t14_1] h_2)
  (pop P (binA .add 3 t14_1 (Value.int IntKind.i64 1)) fun t30_2 =>
  I_1 [out5_1, t30_2] h_4 ∧ μ_1 [out5_1, t30_2] h_4 < μ_1 [out5_1, t14_1] h_2))
  (K out5_1 h_2)
theorem e94 (l0_1 : Value) (sink1_1 : Value) (h : Heap) (K : Value → Heap → Prop) : wpA Try.prog 32 (anOf [(58, [5, 14])]) (bodyOf Try.f94) 1 (fun A h => resA Try.prog A h K [.tmp 4]) (fun _ _ _ => False) (fun A h => resA Try.prog A h K [.tmp 4]) (aargs [l0_1, sink1_1] 0) h = t94 Try.prog l0_1 sink1_1 h K := by kernel_rfl
theorem c94 (l0_1 : Value) (sink1_1 : Value) (h : Heap) (K : Value → Heap → Prop) (H : t94 Try.prog l0_1 sink1_1 h K) : callM Try.prog 94 #[l0_1, sink1_1] h K :=
  callM_of_wpA mixed (fn := Try.f94) Try.func94 (c := bodyOf Try.f94) rfl (of_decide_eq_true (by kernel_rfl)) (anOf [(58, [5, 14])]) 30 32 (by kernel_rfl) rfl [.tmp 4] (by kernel_rfl) (args := [l0_1, sink1_1]) (by rw [e94]; exact H)

/-! spec.chCounts -/
def t95 (P : Program) (g0_1 : Value) (sink1_1 : Value) (l2_1 : Value) (counts3_1 : Value) (h : Heap) (K : Value → Heap → Prop) : Prop :=
  eop P (Instr.box 32 g0_1) h fun g4_1 h_1 =>
  eop P (Instr.box 34 l2_1) h_1 fun l6_1 h_2 =>
  rop P (Instr.loadAt 32 g4_1) h_2 fun t9_1 =>
  rop P (Instr.loadAt 34 l6_1) h_2 fun t11_1 =>
  callM P 76 #[t9_1, sink1_1, t11_1] h_2 fun t12_1 h_3 =>
  guardM t12_1 true (fun k_1 => k_1 counts3_1 h_3) h_3 fun t14_1 h_4 =>
  guardM t12_1 true (fun k_2 => pop P (lenS 25 3 t14_1) fun t15_1 =>
  k_2 t15_1 h_4) h_4 fun t15_2 h_5 =>
  guardM t12_1 true (fun k_3 => pop P (Instr.fieldAt 32 g4_1 0) fun t16_1 =>
  k_3 t16_1 h_5) h_5 fun t16_2 h_6 =>
  guardM t12_1 true (fun k_4 => rop P (Instr.loadAt 22 t16_2) h_6 fun t17_1 =>
  k_4 t17_1 h_6) h_6 fun t17_2 h_7 =>
  guardM t12_1 true (fun k_5 => pop P (lenS 22 3 t17_2) fun t18_1 =>
  k_5 t18_1 h_7) h_7 fun t18_2 h_8 =>
  guardM t12_1 true (fun k_6 => pop P (binE .eql 3 (.tmp 15) (.tmp 18) t15_2 t18_2) fun t19_1 =>
  k_6 t19_1 h_8) h_8 fun t19_2 h_9 =>
  pop P (pickS t12_1 t19_2 (Value.bool false)) fun t20_1 =>
  guardM t20_1 true (fun k_7 => k_7 counts3_1 h_9) h_9 fun t22_1 h_10 =>
  guardM t20_1 true (fun k_8 => callM P 104 #[t22_1, (Value.int IntKind.i64 0), (Value.int IntKind.i64 50)] h_10 fun t23_1 h_11 =>
  k_8 t23_1 h_11) h_10 fun t23_2 h_12 =>
  pop P (pickS t20_1 t23_2 (Value.bool false)) fun t24_1 =>
  guardM t24_1 true (fun k_9 => k_9 counts3_1 h_12) h_12 fun t26_1 h_13 =>
  guardM t24_1 true (fun k_10 => k_10 sink1_1 h_13) h_13 fun t27_1 h_14 =>
  guardM t24_1 true (fun k_11 => pop P (Instr.indexAt 25 t26_1 t27_1) fun t28_1 =>
  k_11 t28_1 h_14) h_14 fun t28_2 h_15 =>
  guardM t24_1 true (fun k_12 => rop P (Instr.loadAt 3 t28_2) h_15 fun t29_1 =>
  k_12 t29_1 h_15) h_15 fun t29_2 h_16 =>
  guardM t24_1 true (fun k_13 => pop P (binE .eql 3 (.tmp 29) (.const (Value.int IntKind.i64 0)) t29_2 (Value.int IntKind.i64 0)) fun t30_1 =>
  k_13 t30_1 h_16) h_16 fun t30_2 h_17 =>
  pop P (pickS t24_1 t30_2 (Value.bool false)) fun t31_1 =>
  K t31_1 h_17
theorem e95 (g0_1 : Value) (sink1_1 : Value) (l2_1 : Value) (counts3_1 : Value) (h : Heap) (K : Value → Heap → Prop) : wpA Try.prog 32 (anOf []) (bodyOf Try.f95) 1 (fun A h => resA Try.prog A h K [.tmp 8]) (fun _ _ _ => False) (fun A h => resA Try.prog A h K [.tmp 8]) (aargs [g0_1, sink1_1, l2_1, counts3_1] 0) h = t95 Try.prog g0_1 sink1_1 l2_1 counts3_1 h K := by kernel_rfl
theorem c95 (g0_1 : Value) (sink1_1 : Value) (l2_1 : Value) (counts3_1 : Value) (h : Heap) (K : Value → Heap → Prop) (H : t95 Try.prog g0_1 sink1_1 l2_1 counts3_1 h K) : callM Try.prog 95 #[g0_1, sink1_1, l2_1, counts3_1] h K :=
  callM_of_wpA mixed (fn := Try.f95) Try.func95 (c := bodyOf Try.f95) rfl (of_decide_eq_true (by kernel_rfl)) (anOf []) 28 32 (by kernel_rfl) rfl [.tmp 8] (by kernel_rfl) (args := [g0_1, sink1_1, l2_1, counts3_1]) (by rw [e95]; exact H)

/-! spec.chLoaded -/
def t96 (P : Program) (sink0_1 : Value) (chips1_1 : Value) (h : Heap) (K : Value → Heap → Prop) : Prop :=
  pop P (lenS 25 3 chips1_1) fun t9_1 =>
  ∃ (I_1 : List Value → Heap → Prop) (μ_1 : List Value → Heap → Nat), I_1 [(Value.slice none 0 0), (Value.int IntKind.i64 0)] h ∧
  ∀ (junk_1 : Nat → Value) (out5_1 : Value) (t10_1 : Value) (h_1 : Heap), I_1 [out5_1, t10_1] h_1 →
  pop P (binA .lss 3 t10_1 t9_1) fun t11_1 =>
  condM t11_1
  (pop P (Instr.indexAt 25 chips1_1 t10_1) fun t13_1 =>
  rop P (Instr.loadAt 3 t13_1) h_1 fun t14_1 =>
  pop P (binE .neq 3 (.tmp 15) (.tmp 16) t10_1 sink0_1) fun t17_1 =>
  guardM t17_1 true (fun k_1 => k_1 t14_1 h_1) h_1 fun t19_1 h_2 =>
  guardM t17_1 true (fun k_2 => pop P (binA .gtr 3 t19_1 (Value.int IntKind.i64 0)) fun t20_1 =>
  k_2 t20_1 h_2) h_2 fun t20_2 h_3 =>
  pop P (pickS t17_1 t20_2 (Value.bool false)) fun t21_1 =>
  condM t21_1
  (eop P (Instr.buildSlice 25 1 #[(0, t10_1)]) h_3 fun t24_1 h_4 =>
  eop P (appS 25 25 25 out5_1 t24_1) h_4 fun t25_1 h_5 =>
  pop P (binA .add 3 t10_1 (Value.int IntKind.i64 1)) fun t26_1 =>
  I_1 [t25_1, t26_1] h_5 ∧ μ_1 [t25_1, t26_1] h_5 < μ_1 [out5_1, t10_1] h_1)
  (pop P (binA .add 3 t10_1 (Value.int IntKind.i64 1)) fun t26_2 =>
  I_1 [out5_1, t26_2] h_3 ∧ μ_1 [out5_1, t26_2] h_3 < μ_1 [out5_1, t10_1] h_1))
  (K out5_1 h_1)
theorem e96 (sink0_1 : Value) (chips1_1 : Value) (h : Heap) (K : Value → Heap → Prop) : wpA Try.prog 28 (anOf [(58, [5, 10])]) (bodyOf Try.f96) 1 (fun A h => resA Try.prog A h K [.tmp 4]) (fun _ _ _ => False) (fun A h => resA Try.prog A h K [.tmp 4]) (aargs [sink0_1, chips1_1] 0) h = t96 Try.prog sink0_1 chips1_1 h K := by kernel_rfl
theorem c96 (sink0_1 : Value) (chips1_1 : Value) (h : Heap) (K : Value → Heap → Prop) (H : t96 Try.prog sink0_1 chips1_1 h K) : callM Try.prog 96 #[sink0_1, chips1_1] h K :=
  callM_of_wpA mixed (fn := Try.f96) Try.func96 (c := bodyOf Try.f96) rfl (of_decide_eq_true (by kernel_rfl)) (anOf [(58, [5, 10])]) 26 28 (by kernel_rfl) rfl [.tmp 4] (by kernel_rfl) (args := [sink0_1, chips1_1]) (by rw [e96]; exact H)

/-! spec.chForce -/
def t97 (P : Program) (g0_1 : Value) (l1_1 : Value) (counts2_1 : Value) (h : Heap) (K : Value → Heap → Prop) : Prop :=
  eop P (Instr.box 32 g0_1) h fun g3_1 h_1 =>
  eop P (Instr.box 34 l1_1) h_1 fun l4_1 h_2 =>
  eop P (Instr.alloc 34 true (.tuple #[])) h_2 fun t6_1 h_3 =>
  rop P (Instr.loadAt 34 l4_1) h_3 fun t10_1 =>
  callM P 109 #[t10_1] h_3 fun t11_1 h_4 =>
  eop P (Instr.alloc 34 true (.tuple #[])) h_4 fun out7_1 h_5 =>
  uop P (Instr.storeAt 34 out7_1 t11_1) h_5 fun u_1 h_6 =>
  pop P (lenS 25 3 counts2_1) fun t13_1 =>
  ∃ (I_1 : List Value → Heap → Prop) (μ_1 : List Value → Heap → Nat), I_1 [(Value.int IntKind.i64 0)] h_6 ∧
  ∀ (junk_1 : Nat → Value) (t14_1 : Value) (h_7 : Heap), I_1 [t14_1] h_7 →
  pop P (binA .lss 3 t14_1 t13_1) fun t15_1 =>
  condM t15_1
  (pop P (Instr.indexAt 25 counts2_1 t14_1) fun t17_1 =>
  rop P (Instr.loadAt 3 t17_1) h_7 fun t18_1 =>
  ∃ (I_2 : List Value → Heap → Prop) (μ_2 : List Value → Heap → Nat), I_2 [t18_1] h_7 ∧
  ∀ (junk_2 : Nat → Value) (n9_1 : Value) (h_8 : Heap), I_2 [n9_1] h_8 →
  pop P (binA .gtr 3 n9_1 (Value.int IntKind.i64 0)) fun t20_1 =>
  condM t20_1
  (rop P (Instr.loadAt 32 g3_1) h_8 fun t23_1 =>
  rop P (Instr.loadAt 34 out7_1) h_8 fun t24_1 =>
  callM P 110 #[t23_1, t24_1, t14_1] h_8 fun t26_1 h_9 =>
  pop P (binA .sub 3 n9_1 (Value.int IntKind.i64 1)) fun t22_1 =>
  I_2 [t22_1] h_9 ∧ μ_2 [t22_1] h_9 < μ_2 [n9_1] h_8)
  (pop P (binA .add 3 t14_1 (Value.int IntKind.i64 1)) fun t27_1 =>
  I_1 [t27_1] h_8 ∧ μ_1 [t27_1] h_8 < μ_1 [t14_1] h_7))
  (rop P (Instr.loadAt 34 out7_1) h_7 fun t28_1 =>
  uop P (Instr.storeAt 34 t6_1 t28_1) h_7 fun u_2 h_10 =>
  rop P (Instr.loadAt 34 t6_1) h_10 fun r_1 =>
  K r_1 h_10)
theorem e97 (g0_1 : Value) (l1_1 : Value) (counts2_1 : Value) (h : Heap) (K : Value → Heap → Prop) : wpA Try.prog 29 (anOf [(58, [14]), (7474, [9])]) (bodyOf Try.f97) 1 (fun A h => resA Try.prog A h K [.cell 6 34]) (fun _ _ _ => False) (fun A h => resA Try.prog A h K [.cell 6 34]) (aargs [g0_1, l1_1, counts2_1] 0) h = t97 Try.prog g0_1 l1_1 counts2_1 h K := by kernel_rfl
theorem c97 (g0_1 : Value) (l1_1 : Value) (counts2_1 : Value) (h : Heap) (K : Value → Heap → Prop) (H : t97 Try.prog g0_1 l1_1 counts2_1 h K) : callM Try.prog 97 #[g0_1, l1_1, counts2_1] h K :=
  callM_of_wpA mixed (fn := Try.f97) Try.func97 (c := bodyOf Try.f97) rfl (of_decide_eq_true (by kernel_rfl)) (anOf [(58, [14]), (7474, [9])]) 26 29 (by kernel_rfl) rfl [.cell 6 34] (by kernel_rfl) (args := [g0_1, l1_1, counts2_1]) (by rw [e97]; exact H)

/-! (*spec.l1Cur).load -/
def t98 (P : Program) (c0_1 : Value) (h : Heap) (K : Value → Heap → Prop) : Prop :=
  eop P (Instr.alloc 32 true (.tuple #[])) h fun t2_1 h_1 =>
  eop P (Instr.alloc 34 true (.tuple #[])) h_1 fun t4_1 h_2 =>
  callM P 156 #[c0_1] h_2 fun t10_1 h_3 =>
  pop P (Instr.extract t10_1 0) fun t11_1 =>
  pop P (Instr.extract t10_1 1) fun t12_1 =>
  eop P (Instr.alloc 32 true (.tuple #[])) h_3 fun g5_1 h_4 =>
  uop P (Instr.storeAt 32 g5_1 t11_1) h_4 fun u_1 h_5 =>
  rop P (Instr.loadAt 32 g5_1) h_5 fun t14_1 =>
  callM P 157 #[c0_1, t14_1] h_5 fun t15_1 h_6 =>
  pop P (Instr.field 132 t15_1 0) fun t16_1 =>
  pop P (Instr.build 34 #[(0, t16_1)]) fun t17_1 =>
  eop P (Instr.alloc 34 true (.tuple #[])) h_6 fun l7_1 h_7 =>
  uop P (Instr.storeAt 34 l7_1 t17_1) h_7 fun u_2 h_8 =>
  pop P (Instr.fieldAt 32 g5_1 0) fun t18_1 =>
  rop P (Instr.loadAt 22 t18_1) h_8 fun t19_1 =>
  pop P (lenS 22 3 t19_1) fun t20_1 =>
  ∃ (I_1 : List Value → Heap → Prop) (μ_1 : List Value → Heap → Nat), I_1 [(Value.int IntKind.i64 0)] h_8 ∧
  ∀ (junk_1 : Nat → Value) (t21_1 : Value) (h_9 : Heap), I_1 [t21_1] h_9 →
  pop P (binA .lss 3 t21_1 t20_1) fun t22_1 =>
  condM t22_1
  (pop P (Instr.fieldAt 34 l7_1 1) fun t23_1 =>
  rop P (Instr.loadAt 25 t23_1) h_9 fun t24_1 =>
  eop P (Instr.buildSlice 25 6 #[(0, (Value.int IntKind.i64 0)), (1, (Value.int IntKind.i64 0)), (2, (Value.int IntKind.i64 1)), (3, (Value.int IntKind.i64 2)), (4, (Value.int IntKind.i64 0)), (5, (Value.int IntKind.i64 3))]) h_9 fun t26_1 h_10 =>
  (∀ w : World, w.heap = h_10 → (Instr.loadAt 25 t23_1).run P w = .ok t24_1 w) ∧
  callM P 101 #[c0_1, t26_1] h_10 fun t27_1 h_11 =>
  (∀ w : World, w.heap = h_11 → (Instr.loadAt 25 t23_1).run P w = .ok t24_1 w) ∧
  eop P (Instr.buildSlice 25 1 #[(0, t27_1)]) h_11 fun t28_1 h_12 =>
  (∀ w : World, w.heap = h_12 → (Instr.loadAt 25 t23_1).run P w = .ok t24_1 w) ∧
  eop P (appS 25 25 25 t24_1 t28_1) h_12 fun t29_1 h_13 =>
  pop P (Instr.fieldAt 34 l7_1 1) fun t30_1 =>
  uop P (Instr.storeAt 25 t30_1 t29_1) h_13 fun u_3 h_14 =>
  pop P (binA .add 3 t21_1 (Value.int IntKind.i64 1)) fun t31_1 =>
  I_1 [t31_1] h_14 ∧ μ_1 [t31_1] h_14 < μ_1 [t21_1] h_9)
  (∃ J_1 : List Value → Heap → Prop, (callM P 100 #[c0_1, (Value.int IntKind.i64 18)] h_9 fun t33_1 h_15 =>
  pop P (binE .eql 3 (.tmp 33) (.const (Value.int IntKind.i64 0)) t33_1 (Value.int IntKind.i64 0)) fun t35_1 =>
  condM t35_1
  (pop P (Instr.fieldAt 34 l7_1 1) fun t36_1 =>
  rop P (Instr.loadAt 25 t36_1) h_15 fun t37_1 =>
  pop P (Instr.fieldAt 34 l7_1 1) fun t39_1 =>
  rop P (Instr.loadAt 25 t39_1) h_15 fun t40_1 =>
  pop P (lenS 25 3 t40_1) fun t41_1 =>
  (callM P 100 #[c0_1, t41_1] h_15 fun t42_1 h_16 =>
  (∀ w : World, w.heap = h_16 → (Instr.loadAt 25 t39_1).run P w = .ok t40_1 w) ∧
  (∀ w : World, w.heap = h_16 → (Instr.loadAt 25 t36_1).run P w = .ok t37_1 w) ∧
  eop P (Instr.buildSlice 25 4 #[(0, (Value.int IntKind.i64 (-1))), (1, (Value.int IntKind.i64 21)), (2, (Value.int IntKind.i64 20)), (3, (Value.int IntKind.i64 4611686018427387904))]) h_16 fun t44_1 h_17 =>
  (∀ w : World, w.heap = h_17 → (Instr.loadAt 25 t39_1).run P w = .ok t40_1 w) ∧
  (∀ w : World, w.heap = h_17 → (Instr.loadAt 25 t36_1).run P w = .ok t37_1 w) ∧
  callM P 101 #[c0_1, t44_1] h_17 fun t45_1 h_18 =>
  (∀ w : World, w.heap = h_18 → (Instr.loadAt 25 t39_1).run P w = .ok t40_1 w) ∧
  (∀ w : World, w.heap = h_18 → (Instr.loadAt 25 t36_1).run P w = .ok t37_1 w) ∧
  pop P (Instr.indexAt 25 t37_1 t42_1) fun t46_1 =>
  uop P (Instr.storeAt 3 t46_1 t45_1) h_18 fun u_4 h_19 =>
  J_1 [t12_1] h_19) ∧
  (eop P (Instr.buildSlice 25 4 #[(0, (Value.int IntKind.i64 (-1))), (1, (Value.int IntKind.i64 21)), (2, (Value.int IntKind.i64 20)), (3, (Value.int IntKind.i64 4611686018427387904))]) h_15 fun t44_2 h_20 =>
  (∀ w : World, w.heap = h_20 → (Instr.loadAt 25 t39_1).run P w = .ok t40_1 w) ∧
  (∀ w : World, w.heap = h_20 → (Instr.loadAt 25 t36_1).run P w = .ok t37_1 w) ∧
  callM P 100 #[c0_1, t41_1] h_20 fun t42_2 h_21 =>
  (∀ w : World, w.heap = h_21 → (Instr.loadAt 25 t39_1).run P w = .ok t40_1 w) ∧
  (∀ w : World, w.heap = h_21 → (Instr.loadAt 25 t36_1).run P w = .ok t37_1 w) ∧
  callM P 101 #[c0_1, t44_2] h_21 fun t45_2 h_22 =>
  (∀ w : World, w.heap = h_22 → (Instr.loadAt 25 t39_1).run P w = .ok t40_1 w) ∧
  (∀ w : World, w.heap = h_22 → (Instr.loadAt 25 t36_1).run P w = .ok t37_1 w) ∧
  pop P (Instr.indexAt 25 t37_1 t42_2) fun t46_2 =>
  uop P (Instr.storeAt 3 t46_2 t45_2) h_22 fun u_5 h_23 =>
  J_1 [t12_1] h_23))
  (pop P (binE .eql 3 (.tmp 33) (.const (Value.int IntKind.i64 1)) t33_1 (Value.int IntKind.i64 1)) fun t48_1 =>
  condM t48_1
  (pop P (Instr.fieldAt 34 l7_1 0) fun t49_1 =>
  rop P (Instr.loadAt 25 t49_1) h_15 fun t50_1 =>
  eop P (Instr.buildSlice 25 1 #[(0, (Value.int IntKind.i64 0))]) h_15 fun t51_1 h_24 =>
  eop P (appS 25 25 25 t50_1 t51_1) h_24 fun t52_1 h_25 =>
  pop P (Instr.fieldAt 34 l7_1 0) fun t53_1 =>
  uop P (Instr.storeAt 25 t53_1 t52_1) h_25 fun u_6 h_26 =>
  J_1 [t12_1] h_26)
  (pop P (binE .eql 3 (.tmp 33) (.const (Value.int IntKind.i64 2)) t33_1 (Value.int IntKind.i64 2)) fun t55_1 =>
  condM t55_1
  (pop P (Instr.fieldAt 32 g5_1 0) fun t57_1 =>
  rop P (Instr.loadAt 22 t57_1) h_15 fun t58_1 =>
  pop P (lenS 22 3 t58_1) fun t59_1 =>
  eop P (Instr.buildSlice 25 3 #[(0, (Value.int IntKind.i64 (-1))), (1, t59_1), (2, (Value.int IntKind.i64 0))]) h_15 fun t60_1 h_27 =>
  callM P 101 #[c0_1, t60_1] h_27 fun t61_1 h_28 =>
  J_1 [t61_1] h_28)
  (J_1 [t12_1] h_15)))) ∧
  ∀ (junk_2 : Nat → Value) (sink6_1 : Value) (h_29 : Heap), J_1 [sink6_1] h_29 →
  rop P (Instr.loadAt 32 g5_1) h_29 fun t62_1 =>
  rop P (Instr.loadAt 34 l7_1) h_29 fun t64_1 =>
  uop P (Instr.storeAt 32 t2_1 t62_1) h_29 fun u_7 h_30 =>
  (∀ w : World, w.heap = h_30 → (Instr.loadAt 34 l7_1).run P w = .ok t64_1 w) ∧
  uop P (Instr.storeAt 34 t4_1 t64_1) h_30 fun u_8 h_31 =>
  rop P (Instr.loadAt 32 t2_1) h_31 fun r_1 =>
  rop P (Instr.loadAt 34 t4_1) h_31 fun r_2 =>
  K (.tuple #[r_1, sink6_1, r_2]) h_31)
theorem e98 (c0_1 : Value) (h : Heap) (K : Value → Heap → Prop) : wpA Try.prog 65 (anOf [(31, [6]), (122, [21])]) (bodyOf Try.f98) 1 (fun A h => resA Try.prog A h K [.cell 2 32, .tmp 3, .cell 4 34]) (fun _ _ _ => False) (fun A h => resA Try.prog A h K [.cell 2 32, .tmp 3, .cell 4 34]) (aargs [c0_1] 0) h = t98 Try.prog c0_1 h K := by kernel_rfl
theorem c98 (c0_1 : Value) (h : Heap) (K : Value → Heap → Prop) (H : t98 Try.prog c0_1 h K) : callM Try.prog 98 #[c0_1] h K :=
  callM_of_wpA mixed (fn := Try.f98) Try.func98 (c := bodyOf Try.f98) rfl (of_decide_eq_true (by kernel_rfl)) (anOf [(31, [6]), (122, [21])]) 64 65 (by kernel_rfl) rfl [.cell 2 32, .tmp 3, .cell 4 34] (by kernel_rfl) (args := [c0_1]) (by rw [e98]; exact H)

/-! (*spec.l1Cur).one -/
def t99 (P : Program) (c0_1 : Value) (n1_1 : Value) (h : Heap) (K : Value → Heap → Prop) : Prop :=
  callM P 100 #[c0_1, n1_1] h fun t7_1 h_1 =>
  pop P (binE .eql 3 (.tmp 7) (.const (Value.int IntKind.i64 0)) t7_1 (Value.int IntKind.i64 0)) fun t8_1 =>
  K t8_1 h_1
theorem e99 (c0_1 : Value) (n1_1 : Value) (h : Heap) (K : Value → Heap → Prop) : wpA Try.prog 9 (anOf []) (bodyOf Try.f99) 1 (fun A h => resA Try.prog A h K [.tmp 4]) (fun _ _ _ => False) (fun A h => resA Try.prog A h K [.tmp 4]) (aargs [c0_1, n1_1] 0) h = t99 Try.prog c0_1 n1_1 h K := by kernel_rfl
theorem c99 (c0_1 : Value) (n1_1 : Value) (h : Heap) (K : Value → Heap → Prop) (H : t99 Try.prog c0_1 n1_1 h K) : callM Try.prog 99 #[c0_1, n1_1] h K :=
  callM_of_wpA mixed (fn := Try.f99) Try.func99 (c := bodyOf Try.f99) rfl (of_decide_eq_true (by kernel_rfl)) (anOf []) 7 9 (by kernel_rfl) rfl [.tmp 4] (by kernel_rfl) (args := [c0_1, n1_1]) (by rw [e99]; exact H)

/-! (*spec.l1Cur).pick -/
def t100 (P : Program) (c0_1 : Value) (n1_1 : Value) (h : Heap) (K : Value → Heap → Prop) : Prop :=
  pop P (binA .leq 3 n1_1 (Value.int IntKind.i64 1)) fun t7_1 =>
  condM t7_1
  (K (Value.int IntKind.i64 0) h)
  (callM P 158 #[c0_1] h fun t9_1 h_1 =>
  ∃ J_1 : List Value → Heap → Prop, (pop P (binA .gtr 3 n1_1 (Value.int IntKind.i64 200)) fun t11_1 =>
  condM t11_1
  (pop P (binA .mul 3 t9_1 (Value.int IntKind.i64 256)) fun t13_1 =>
  callM P 158 #[c0_1] h_1 fun t15_1 h_2 =>
  pop P (binA .add 3 t13_1 t15_1) fun t16_1 =>
  J_1 [t16_1] h_2)
  (J_1 [t9_1] h_1)) ∧
  ∀ (junk_1 : Nat → Value) (x5_1 : Value) (h_3 : Heap), J_1 [x5_1] h_3 →
  pop P (binA .rem 3 x5_1 n1_1) fun t19_1 =>
  K t19_1 h_3)
theorem e100 (c0_1 : Value) (n1_1 : Value) (h : Heap) (K : Value → Heap → Prop) : wpA Try.prog 20 (anOf [(15, [5])]) (bodyOf Try.f100) 1 (fun A h => resA Try.prog A h K [.tmp 4]) (fun _ _ _ => False) (fun A h => resA Try.prog A h K [.tmp 4]) (aargs [c0_1, n1_1] 0) h = t100 Try.prog c0_1 n1_1 h K := by kernel_rfl
theorem c100 (c0_1 : Value) (n1_1 : Value) (h : Heap) (K : Value → Heap → Prop) (H : t100 Try.prog c0_1 n1_1 h K) : callM Try.prog 100 #[c0_1, n1_1] h K :=
  callM_of_wpA mixed (fn := Try.f100) Try.func100 (c := bodyOf Try.f100) rfl (of_decide_eq_true (by kernel_rfl)) (anOf [(15, [5])]) 18 20 (by kernel_rfl) rfl [.tmp 4] (by kernel_rfl) (args := [c0_1, n1_1]) (by rw [e100]; exact H)

/-! (*spec.l1Cur).among -/
def t101 (P : Program) (c0_1 : Value) (list1_1 : Value) (h : Heap) (K : Value → Heap → Prop) : Prop :=
  pop P (lenS 25 3 list1_1) fun t8_1 =>
  callM P 100 #[c0_1, t8_1] h fun t9_1 h_1 =>
  pop P (Instr.indexAt 25 list1_1 t9_1) fun t10_1 =>
  rop P (Instr.loadAt 3 t10_1) h_1 fun t11_1 =>
  K t11_1 h_1
theorem e101 (c0_1 : Value) (list1_1 : Value) (h : Heap) (K : Value → Heap → Prop) : wpA Try.prog 12 (anOf []) (bodyOf Try.f101) 1 (fun A h => resA Try.prog A h K [.tmp 4]) (fun _ _ _ => False) (fun A h => resA Try.prog A h K [.tmp 4]) (aargs [c0_1, list1_1] 0) h = t101 Try.prog c0_1 list1_1 h K := by kernel_rfl
theorem c101 (c0_1 : Value) (list1_1 : Value) (h : Heap) (K : Value → Heap → Prop) (H : t101 Try.prog c0_1 list1_1 h K) : callM Try.prog 101 #[c0_1, list1_1] h K :=
  callM_of_wpA mixed (fn := Try.f101) Try.func101 (c := bodyOf Try.f101) rfl (of_decide_eq_true (by kernel_rfl)) (anOf []) 10 12 (by kernel_rfl) rfl [.tmp 4] (by kernel_rfl) (args := [c0_1, list1_1]) (by rw [e101]; exact H)

/-! slices.ContainsFunc[[]int,int] -/
def t102 (P : Program) (s0_1 : Value) (f1_1 : Value) (h : Heap) (K : Value → Heap → Prop) : Prop :=
  callM P 159 #[s0_1, f1_1] h fun t7_1 h_1 =>
  pop P (binA .geq 3 t7_1 (Value.int IntKind.i64 0)) fun t8_1 =>
  K t8_1 h_1
theorem e102 (s0_1 : Value) (f1_1 : Value) (h : Heap) (K : Value → Heap → Prop) : wpA Try.prog 9 (anOf []) (bodyOf Try.f102) 1 (fun A h => resA Try.prog A h K [.tmp 4]) (fun _ _ _ => False) (fun A h => resA Try.prog A h K [.tmp 4]) (aargs [s0_1, f1_1] 0) h = t102 Try.prog s0_1 f1_1 h K := by kernel_rfl
theorem c102 (s0_1 : Value) (f1_1 : Value) (h : Heap) (K : Value → Heap → Prop) (H : t102 Try.prog s0_1 f1_1 h K) : callM Try.prog 102 #[s0_1, f1_1] h K :=
  callM_of_wpA mixed (fn := Try.f102) Try.func102 (c := bodyOf Try.f102) rfl (of_decide_eq_true (by kernel_rfl)) (anOf []) 7 9 (by kernel_rfl) rfl [.tmp 4] (by kernel_rfl) (args := [s0_1, f1_1]) (by rw [e102]; exact H)

/-! spec.l1All -/
def t104 (P : Program) (l0_1 : Value) (lo1_1 : Value) (hi2_1 : Value) (h : Heap) (K : Value → Heap → Prop) : Prop :=
  pop P (lenS 25 3 l0_1) fun t10_1 =>
  ∃ (I_1 : List Value → Heap → Prop) (μ_1 : List Value → Heap → Nat), I_1 [(Value.int IntKind.i64 0)] h ∧
  ∀ (junk_1 : Nat → Value) (t11_1 : Value) (h_1 : Heap), I_1 [t11_1] h_1 →
  pop P (binA .lss 3 t11_1 t10_1) fun t12_1 =>
  condM t12_1
  (pop P (Instr.indexAt 25 l0_1 t11_1) fun t13_1 =>
  rop P (Instr.loadAt 3 t13_1) h_1 fun t14_1 =>
  callM P 117 #[t14_1, lo1_1, hi2_1] h_1 fun t18_1 h_2 =>
  pop P (Op.unary .not t18_1) fun t19_1 =>
  condM t19_1
  (K (Value.bool false) h_2)
  (pop P (binA .add 3 t11_1 (Value.int IntKind.i64 1)) fun t20_1 =>
  I_1 [t20_1] h_2 ∧ μ_1 [t20_1] h_2 < μ_1 [t11_1] h_1))
  (K (Value.bool true) h_1)
theorem e104 (l0_1 : Value) (lo1_1 : Value) (hi2_1 : Value) (h : Heap) (K : Value → Heap → Prop) : wpA Try.prog 21 (anOf [(26, [11])]) (bodyOf Try.f104) 1 (fun A h => resA Try.prog A h K [.tmp 6]) (fun _ _ _ => False) (fun A h => resA Try.prog A h K [.tmp 6]) (aargs [l0_1, lo1_1, hi2_1] 0) h = t104 Try.prog l0_1 lo1_1 hi2_1 h K := by kernel_rfl
theorem c104 (l0_1 : Value) (lo1_1 : Value) (hi2_1 : Value) (h : Heap) (K : Value → Heap → Prop) (H : t104 Try.prog l0_1 lo1_1 hi2_1 h K) : callM Try.prog 104 #[l0_1, lo1_1, hi2_1] h K :=
  callM_of_wpA mixed (fn := Try.f104) Try.func104 (c := bodyOf Try.f104) rfl (of_decide_eq_true (by kernel_rfl)) (anOf [(26, [11])]) 18 21 (by kernel_rfl) rfl [.tmp 6] (by kernel_rfl) (args := [l0_1, lo1_1, hi2_1]) (by rw [e104]; exact H)

/-! impl.hasSink -/
def t105 (P : Program) (g0_1 : Value) (sink1_1 : Value) (h : Heap) (K : Value → Heap → Prop) : Prop :=
  eop P (Instr.box 32 g0_1) h fun g2_1 h_1 =>
  rop P (Instr.loadAt 32 g2_1) h_1 fun t5_1 =>
  eop P (Instr.buildSlice 25 1 #[(0, sink1_1)]) h_1 fun t7_1 h_2 =>
  callM P 107 #[t5_1, t7_1] h_2 fun t8_1 h_3 =>
  guardM t8_1 true (fun k_1 => rop P (Instr.loadAt 32 g2_1) h_3 fun t10_1 =>
  k_1 t10_1 h_3) h_3 fun t10_2 h_4 =>
  guardM t8_1 true (fun k_2 => k_2 sink1_1 h_4) h_4 fun t11_1 h_5 =>
  guardM t8_1 true (fun k_3 => callM P 160 #[t10_2, t11_1] h_5 fun t12_1 h_6 =>
  k_3 t12_1 h_6) h_5 fun t12_2 h_7 =>
  pop P (pickS t8_1 t12_2 (Value.bool false)) fun t13_1 =>
  K t13_1 h_7
theorem e105 (g0_1 : Value) (sink1_1 : Value) (h : Heap) (K : Value → Heap → Prop) : wpA Try.prog 14 (anOf []) (bodyOf Try.f105) 1 (fun A h => resA Try.prog A h K [.tmp 4]) (fun _ _ _ => False) (fun A h => resA Try.prog A h K [.tmp 4]) (aargs [g0_1, sink1_1] 0) h = t105 Try.prog g0_1 sink1_1 h K := by kernel_rfl
theorem c105 (g0_1 : Value) (sink1_1 : Value) (h : Heap) (K : Value → Heap → Prop) (H : t105 Try.prog g0_1 sink1_1 h K) : callM Try.prog 105 #[g0_1, sink1_1] h K :=
  callM_of_wpA mixed (fn := Try.f105) Try.func105 (c := bodyOf Try.f105) rfl (of_decide_eq_true (by kernel_rfl)) (anOf []) 12 14 (by kernel_rfl) rfl [.tmp 4] (by kernel_rfl) (args := [g0_1, sink1_1]) (by rw [e105]; exact H)

/-! impl.has -/
def t107 (P : Program) (g0_1 : Value) (places1_1 : Value) (h : Heap) (K : Value → Heap → Prop) : Prop :=
  eop P (Instr.box 32 g0_1) h fun g2_1 h_1 =>
  rop P (Instr.loadAt 32 g2_1) h_1 fun t5_1 =>
  callM P 88 #[t5_1] h_1 fun t6_1 h_2 =>
  guardM t6_1 true (fun k_1 => k_1 places1_1 h_2) h_2 fun t8_1 h_3 =>
  guardM t6_1 true (fun k_2 => pop P (Instr.makeFunc (Fn.func 161) #[] #[g2_1]) fun t9_1 =>
  k_2 t9_1 h_3) h_3 fun t9_2 h_4 =>
  guardM t6_1 true (fun k_3 => callM P 102 #[t8_1, t9_2] h_4 fun t10_1 h_5 =>
  k_3 t10_1 h_5) h_4 fun t10_2 h_6 =>
  guardM t6_1 true (fun k_4 => pop P (Op.unary .not t10_2) fun t11_1 =>
  k_4 t11_1 h_6) h_6 fun t11_2 h_7 =>
  pop P (pickS t6_1 t11_2 (Value.bool false)) fun t12_1 =>
  K t12_1 h_7
theorem e107 (g0_1 : Value) (places1_1 : Value) (h : Heap) (K : Value → Heap → Prop) : wpA Try.prog 13 (anOf []) (bodyOf Try.f107) 1 (fun A h => resA Try.prog A h K [.tmp 4]) (fun _ _ _ => False) (fun A h => resA Try.prog A h K [.tmp 4]) (aargs [g0_1, places1_1] 0) h = t107 Try.prog g0_1 places1_1 h K := by kernel_rfl
theorem c107 (g0_1 : Value) (places1_1 : Value) (h : Heap) (K : Value → Heap → Prop) (H : t107 Try.prog g0_1 places1_1 h K) : callM Try.prog 107 #[g0_1, places1_1] h K :=
  callM_of_wpA mixed (fn := Try.f107) Try.func107 (c := bodyOf Try.f107) rfl (of_decide_eq_true (by kernel_rfl)) (anOf []) 11 13 (by kernel_rfl) rfl [.tmp 4] (by kernel_rfl) (args := [g0_1, places1_1]) (by rw [e107]; exact H)

/-! spec.chOwn -/
def t109 (P : Program) (l0_1 : Value) (h : Heap) (K : Value → Heap → Prop) : Prop :=
  eop P (Instr.box 34 l0_1) h fun l1_1 h_1 =>
  eop P (Instr.alloc 34 true (.tuple #[])) h_1 fun t2_1 h_2 =>
  pop P (Instr.fieldAt 34 l1_1 0) fun t3_1 =>
  rop P (Instr.loadAt 25 t3_1) h_2 fun t4_1 =>
  pop P (Instr.fieldAt 34 l1_1 1) fun t6_1 =>
  rop P (Instr.loadAt 25 t6_1) h_2 fun t7_1 =>
  callM P 130 #[t4_1] h_2 fun t5_1 h_3 =>
  (∀ w : World, w.heap = h_3 → (Instr.loadAt 25 t6_1).run P w = .ok t7_1 w) ∧
  callM P 130 #[t7_1] h_3 fun t8_1 h_4 =>
  pop P (Instr.build 34 #[(0, t5_1), (1, t8_1)]) fun t9_1 =>
  uop P (Instr.storeAt 34 t2_1 t9_1) h_4 fun u_1 h_5 =>
  rop P (Instr.loadAt 34 t2_1) h_5 fun r_1 =>
  K r_1 h_5
theorem e109 (l0_1 : Value) (h : Heap) (K : Value → Heap → Prop) : wpA Try.prog 10 (anOf []) (bodyOf Try.f109) 1 (fun A h => resA Try.prog A h K [.cell 2 34]) (fun _ _ _ => False) (fun A h => resA Try.prog A h K [.cell 2 34]) (aargs [l0_1] 0) h = t109 Try.prog l0_1 h K := by kernel_rfl
theorem c109 (l0_1 : Value) (h : Heap) (K : Value → Heap → Prop) (H : t109 Try.prog l0_1 h K) : callM Try.prog 109 #[l0_1] h K :=
  callM_of_wpA mixed (fn := Try.f109) Try.func109 (c := bodyOf Try.f109) rfl (of_decide_eq_true (by kernel_rfl)) (anOf []) 9 10 (by kernel_rfl) rfl [.cell 2 34] (by kernel_rfl) (args := [l0_1]) (by rw [e109]; exact H)

/-! spec.chMove -/
def t110 (P : Program) (g0_1 : Value) (l1_1 : Value) (p2_1 : Value) (h : Heap) (K : Value → Heap → Prop) : Prop :=
  eop P (Instr.box 32 g0_1) h fun g3_1 h_1 =>
  eop P (Instr.box 34 l1_1) h_1 fun l4_1 h_2 =>
  pop P (Instr.fieldAt 32 g3_1 0) fun t7_1 =>
  rop P (Instr.loadAt 22 t7_1) h_2 fun t8_1 =>
  pop P (Instr.indexAt 22 t8_1 p2_1) fun t10_1 =>
  rop P (Instr.loadAt 25 t10_1) h_2 fun t11_1 =>
  pop P (Instr.fieldAt 34 l4_1 0) fun t12_1 =>
  rop P (Instr.loadAt 25 t12_1) h_2 fun t13_1 =>
  pop P (Instr.fieldAt 34 l4_1 0) fun t15_1 =>
  rop P (Instr.loadAt 25 t15_1) h_2 fun t16_1 =>
  pop P (Instr.indexAt 25 t16_1 p2_1) fun t18_1 =>
  rop P (Instr.loadAt 3 t18_1) h_2 fun t19_1 =>
  pop P (binA .add 3 t19_1 (Value.int IntKind.i64 1)) fun t20_1 =>
  pop P (lenS 25 3 t11_1) fun t22_1 =>
  pop P (binA .rem 3 t20_1 t22_1) fun t23_1 =>
  pop P (Instr.indexAt 25 t13_1 p2_1) fun t24_1 =>
  uop P (Instr.storeAt 3 t24_1 t23_1) h_2 fun u_1 h_3 =>
  pop P (Instr.fieldAt 34 l4_1 1) fun t25_1 =>
  rop P (Instr.loadAt 25 t25_1) h_3 fun t26_1 =>
  pop P (Instr.indexAt 25 t26_1 p2_1) fun t28_1 =>
  rop P (Instr.loadAt 3 t28_1) h_3 fun t29_1 =>
  pop P (binA .sub 3 t29_1 (Value.int IntKind.i64 1)) fun t30_1 =>
  pop P (Instr.indexAt 25 t26_1 p2_1) fun t31_1 =>
  uop P (Instr.storeAt 3 t31_1 t30_1) h_3 fun u_2 h_4 =>
  pop P (Instr.fieldAt 34 l4_1 1) fun t32_1 =>
  rop P (Instr.loadAt 25 t32_1) h_4 fun t33_1 =>
  pop P (Instr.fieldAt 34 l4_1 0) fun t35_1 =>
  rop P (Instr.loadAt 25 t35_1) h_4 fun t36_1 =>
  pop P (Instr.indexAt 25 t36_1 p2_1) fun t38_1 =>
  rop P (Instr.loadAt 3 t38_1) h_4 fun t39_1 =>
  pop P (Instr.indexAt 25 t11_1 t39_1) fun t40_1 =>
  rop P (Instr.loadAt 3 t40_1) h_4 fun t41_1 =>
  pop P (Instr.indexAt 25 t33_1 t41_1) fun t42_1 =>
  rop P (Instr.loadAt 3 t42_1) h_4 fun t43_1 =>
  pop P (binA .add 3 t43_1 (Value.int IntKind.i64 1)) fun t44_1 =>
  pop P (Instr.indexAt 25 t33_1 t41_1) fun t45_1 =>
  uop P (Instr.storeAt 3 t45_1 t44_1) h_4 fun u_3 h_5 =>
  K (.tuple #[]) h_5
theorem e110 (g0_1 : Value) (l1_1 : Value) (p2_1 : Value) (h : Heap) (K : Value → Heap → Prop) : wpA Try.prog 46 (anOf []) (bodyOf Try.f110) 1 (fun A h => resA Try.prog A h K []) (fun _ _ _ => False) (fun A h => resA Try.prog A h K []) (aargs [g0_1, l1_1, p2_1] 0) h = t110 Try.prog g0_1 l1_1 p2_1 h K := by kernel_rfl
theorem c110 (g0_1 : Value) (l1_1 : Value) (p2_1 : Value) (h : Heap) (K : Value → Heap → Prop) (H : t110 Try.prog g0_1 l1_1 p2_1 h K) : callM Try.prog 110 #[g0_1, l1_1, p2_1] h K :=
  callM_of_wpA mixed (fn := Try.f110) Try.func110 (c := bodyOf Try.f110) rfl (of_decide_eq_true (by kernel_rfl)) (anOf []) 43 46 (by kernel_rfl) rfl [] (by kernel_rfl) (args := [g0_1, l1_1, p2_1]) (by rw [e110]; exact H)

/-! spec.chSink -/
def t111 (P : Program) (g0_1 : Value) (sink1_1 : Value) (h : Heap) (K : Value → Heap → Prop) : Prop :=
  eop P (Instr.box 32 g0_1) h fun g2_1 h_1 =>
  rop P (Instr.loadAt 32 g2_1) h_1 fun t5_1 =>
  callM P 116 #[t5_1, sink1_1] h_1 fun t7_1 h_2 =>
  guardM t7_1 true (fun k_1 => rop P (Instr.loadAt 32 g2_1) h_2 fun t9_1 =>
  k_1 t9_1 h_2) h_2 fun t9_2 h_3 =>
  guardM t7_1 true (fun k_2 => k_2 sink1_1 h_3) h_3 fun t10_1 h_4 =>
  guardM t7_1 true (fun k_3 => callM P 162 #[t9_2, t10_1] h_4 fun t11_1 h_5 =>
  k_3 t11_1 h_5) h_4 fun t11_2 h_6 =>
  pop P (pickS t7_1 t11_2 (Value.bool false)) fun t12_1 =>
  K t12_1 h_6
theorem e111 (g0_1 : Value) (sink1_1 : Value) (h : Heap) (K : Value → Heap → Prop) : wpA Try.prog 13 (anOf []) (bodyOf Try.f111) 1 (fun A h => resA Try.prog A h K [.tmp 4]) (fun _ _ _ => False) (fun A h => resA Try.prog A h K [.tmp 4]) (aargs [g0_1, sink1_1] 0) h = t111 Try.prog g0_1 sink1_1 h K := by kernel_rfl
theorem c111 (g0_1 : Value) (sink1_1 : Value) (h : Heap) (K : Value → Heap → Prop) (H : t111 Try.prog g0_1 sink1_1 h K) : callM Try.prog 111 #[g0_1, sink1_1] h K :=
  callM_of_wpA mixed (fn := Try.f111) Try.func111 (c := bodyOf Try.f111) rfl (of_decide_eq_true (by kernel_rfl)) (anOf []) 11 13 (by kernel_rfl) rfl [.tmp 4] (by kernel_rfl) (args := [g0_1, sink1_1]) (by rw [e111]; exact H)

/-! impl.in -/
def t113 (P : Program) (n0_1 : Value) (low1_1 : Value) (high2_1 : Value) (h : Heap) (K : Value → Heap → Prop) : Prop :=
  pop P (binA .leq 3 low1_1 n0_1) fun t9_1 =>
  guardM t9_1 true (fun k_1 => k_1 n0_1 h) h fun t11_1 h_1 =>
  guardM t9_1 true (fun k_2 => k_2 high2_1 h_1) h_1 fun t12_1 h_2 =>
  guardM t9_1 true (fun k_3 => pop P (binA .leq 3 t11_1 t12_1) fun t13_1 =>
  k_3 t13_1 h_2) h_2 fun t13_2 h_3 =>
  pop P (pickS t9_1 t13_2 (Value.bool false)) fun t14_1 =>
  K t14_1 h_3
theorem e113 (n0_1 : Value) (low1_1 : Value) (high2_1 : Value) (h : Heap) (K : Value → Heap → Prop) : wpA Try.prog 15 (anOf []) (bodyOf Try.f113) 1 (fun A h => resA Try.prog A h K [.tmp 6]) (fun _ _ _ => False) (fun A h => resA Try.prog A h K [.tmp 6]) (aargs [n0_1, low1_1, high2_1] 0) h = t113 Try.prog n0_1 low1_1 high2_1 h K := by kernel_rfl
theorem c113 (n0_1 : Value) (low1_1 : Value) (high2_1 : Value) (h : Heap) (K : Value → Heap → Prop) (H : t113 Try.prog n0_1 low1_1 high2_1 h K) : callM Try.prog 113 #[n0_1, low1_1, high2_1] h K :=
  callM_of_wpA mixed (fn := Try.f113) Try.func113 (c := bodyOf Try.f113) rfl (of_decide_eq_true (by kernel_rfl)) (anOf []) 12 15 (by kernel_rfl) rfl [.tmp 6] (by kernel_rfl) (args := [n0_1, low1_1, high2_1]) (by rw [e113]; exact H)

/-! spec.grPlace -/
def t116 (P : Program) (g0_1 : Value) (p1_1 : Value) (h : Heap) (K : Value → Heap → Prop) : Prop :=
  eop P (Instr.box 32 g0_1) h fun g2_1 h_1 =>
  rop P (Instr.loadAt 32 g2_1) h_1 fun t5_1 =>
  callM P 165 #[t5_1] h_1 fun t6_1 h_2 =>
  guardM t6_1 true (fun k_1 => k_1 p1_1 h_2) h_2 fun t8_1 h_3 =>
  guardM t6_1 true (fun k_2 => pop P (Instr.fieldAt 32 g2_1 0) fun t9_1 =>
  k_2 t9_1 h_3) h_3 fun t9_2 h_4 =>
  guardM t6_1 true (fun k_3 => rop P (Instr.loadAt 22 t9_2) h_4 fun t10_1 =>
  k_3 t10_1 h_4) h_4 fun t10_2 h_5 =>
  guardM t6_1 true (fun k_4 => pop P (lenS 22 3 t10_2) fun t11_1 =>
  k_4 t11_1 h_5) h_5 fun t11_2 h_6 =>
  guardM t6_1 true (fun k_5 => pop P (binA .sub 3 t11_2 (Value.int IntKind.i64 1)) fun t12_1 =>
  k_5 t12_1 h_6) h_6 fun t12_2 h_7 =>
  guardM t6_1 true (fun k_6 => callM P 117 #[t8_1, (Value.int IntKind.i64 0), t12_2] h_7 fun t13_1 h_8 =>
  k_6 t13_1 h_8) h_7 fun t13_2 h_9 =>
  pop P (pickS t6_1 t13_2 (Value.bool false)) fun t14_1 =>
  K t14_1 h_9
theorem e116 (g0_1 : Value) (p1_1 : Value) (h : Heap) (K : Value → Heap → Prop) : wpA Try.prog 15 (anOf []) (bodyOf Try.f116) 1 (fun A h => resA Try.prog A h K [.tmp 4]) (fun _ _ _ => False) (fun A h => resA Try.prog A h K [.tmp 4]) (aargs [g0_1, p1_1] 0) h = t116 Try.prog g0_1 p1_1 h K := by kernel_rfl
theorem c116 (g0_1 : Value) (p1_1 : Value) (h : Heap) (K : Value → Heap → Prop) (H : t116 Try.prog g0_1 p1_1 h K) : callM Try.prog 116 #[g0_1, p1_1] h K :=
  callM_of_wpA mixed (fn := Try.f116) Try.func116 (c := bodyOf Try.f116) rfl (of_decide_eq_true (by kernel_rfl)) (anOf []) 13 15 (by kernel_rfl) rfl [.tmp 4] (by kernel_rfl) (args := [g0_1, p1_1]) (by rw [e116]; exact H)

/-! spec.l1In -/
def t117 (P : Program) (n0_1 : Value) (lo1_1 : Value) (hi2_1 : Value) (h : Heap) (K : Value → Heap → Prop) : Prop :=
  pop P (binA .geq 3 n0_1 lo1_1) fun t9_1 =>
  guardM t9_1 true (fun k_1 => k_1 n0_1 h) h fun t11_1 h_1 =>
  guardM t9_1 true (fun k_2 => k_2 hi2_1 h_1) h_1 fun t12_1 h_2 =>
  guardM t9_1 true (fun k_3 => pop P (binA .leq 3 t11_1 t12_1) fun t13_1 =>
  k_3 t13_1 h_2) h_2 fun t13_2 h_3 =>
  pop P (pickS t9_1 t13_2 (Value.bool false)) fun t14_1 =>
  K t14_1 h_3
theorem e117 (n0_1 : Value) (lo1_1 : Value) (hi2_1 : Value) (h : Heap) (K : Value → Heap → Prop) : wpA Try.prog 15 (anOf []) (bodyOf Try.f117) 1 (fun A h => resA Try.prog A h K [.tmp 6]) (fun _ _ _ => False) (fun A h => resA Try.prog A h K [.tmp 6]) (aargs [n0_1, lo1_1, hi2_1] 0) h = t117 Try.prog n0_1 lo1_1 hi2_1 h K := by kernel_rfl
theorem c117 (n0_1 : Value) (lo1_1 : Value) (hi2_1 : Value) (h : Heap) (K : Value → Heap → Prop) (H : t117 Try.prog n0_1 lo1_1 hi2_1 h K) : callM Try.prog 117 #[n0_1, lo1_1, hi2_1] h K :=
  callM_of_wpA mixed (fn := Try.f117) Try.func117 (c := bodyOf Try.f117) rfl (of_decide_eq_true (by kernel_rfl)) (anOf []) 12 15 (by kernel_rfl) rfl [.tmp 6] (by kernel_rfl) (args := [n0_1, lo1_1, hi2_1]) (by rw [e117]; exact H)

/-! spec.grCycle -/
def t124 (P : Program) (n0_1 : Value) (both1_1 : Value) (h : Heap) (K : Value → Heap → Prop) : Prop :=
  eop P (Instr.alloc 32 true (.tuple #[])) h fun t4_1 h_1 =>
  pop P (Instr.build 32 #[]) fun t8_1 =>
  eop P (Instr.alloc 32 true (.tuple #[])) h_1 fun g5_1 h_2 =>
  uop P (Instr.storeAt 32 g5_1 t8_1) h_2 fun u_1 h_3 =>
  ∃ (I_1 : List Value → Heap → Prop) (μ_1 : List Value → Heap → Nat), I_1 [(Value.int IntKind.i64 0)] h_3 ∧
  ∀ (junk_1 : Nat → Value) (p6_1 : Value) (h_4 : Heap), I_1 [p6_1] h_4 →
  pop P (binA .lss 3 p6_1 n0_1) fun t11_1 =>
  condM t11_1
  (pop P (binA .add 3 p6_1 (Value.int IntKind.i64 1)) fun t15_1 =>
  pop P (binA .rem 3 t15_1 n0_1) fun t17_1 =>
  eop P (Instr.buildSlice 25 1 #[(0, t17_1)]) h_4 fun t18_1 h_5 =>
  ∃ J_1 : List Value → Heap → Prop, (condM both1_1
  (pop P (binA .add 3 p6_1 n0_1) fun t23_1 =>
  pop P (binA .sub 3 t23_1 (Value.int IntKind.i64 1)) fun t24_1 =>
  pop P (binA .rem 3 t24_1 n0_1) fun t26_1 =>
  eop P (Instr.buildSlice 25 1 #[(0, t26_1)]) h_5 fun t27_1 h_6 =>
  eop P (appS 25 25 25 t18_1 t27_1) h_6 fun t28_1 h_7 =>
  J_1 [t28_1] h_7)
  (J_1 [t18_1] h_5)) ∧
  ∀ (junk_2 : Nat → Value) (list7_1 : Value) (h_8 : Heap), J_1 [list7_1] h_8 →
  pop P (Instr.fieldAt 32 g5_1 0) fun t29_1 =>
  rop P (Instr.loadAt 22 t29_1) h_8 fun t30_1 =>
  eop P (Instr.buildSlice 22 1 #[(0, list7_1)]) h_8 fun t32_1 h_9 =>
  eop P (appS 22 22 22 t30_1 t32_1) h_9 fun t33_1 h_10 =>
  pop P (Instr.fieldAt 32 g5_1 0) fun t34_1 =>
  uop P (Instr.storeAt 22 t34_1 t33_1) h_10 fun u_2 h_11 =>
  pop P (binA .add 3 p6_1 (Value.int IntKind.i64 1)) fun t13_1 =>
  I_1 [t13_1] h_11 ∧ μ_1 [t13_1] h_11 < μ_1 [p6_1] h_4)
  (rop P (Instr.loadAt 32 g5_1) h_4 fun t35_1 =>
  uop P (Instr.storeAt 32 t4_1 t35_1) h_4 fun u_3 h_12 =>
  rop P (Instr.loadAt 32 t4_1) h_12 fun r_1 =>
  K r_1 h_12)
theorem e124 (n0_1 : Value) (both1_1 : Value) (h : Heap) (K : Value → Heap → Prop) : wpA Try.prog 36 (anOf [(58, [6]), (1865, [7])]) (bodyOf Try.f124) 1 (fun A h => resA Try.prog A h K [.cell 4 32]) (fun _ _ _ => False) (fun A h => resA Try.prog A h K [.cell 4 32]) (aargs [n0_1, both1_1] 0) h = t124 Try.prog n0_1 both1_1 h K := by kernel_rfl
theorem c124 (n0_1 : Value) (both1_1 : Value) (h : Heap) (K : Value → Heap → Prop) (H : t124 Try.prog n0_1 both1_1 h K) : callM Try.prog 124 #[n0_1, both1_1] h K :=
  callM_of_wpA mixed (fn := Try.f124) Try.func124 (c := bodyOf Try.f124) rfl (of_decide_eq_true (by kernel_rfl)) (anOf [(58, [6]), (1865, [7])]) 34 36 (by kernel_rfl) rfl [.cell 4 32] (by kernel_rfl) (args := [n0_1, both1_1]) (by rw [e124]; exact H)

/-! spec.l1Own -/
def t130 (P : Program) (l0_1 : Value) (h : Heap) (K : Value → Heap → Prop) : Prop :=
  eop P (Instr.buildSlice 25 0 #[]) h fun t3_1 h_1 =>
  eop P (appS 25 25 25 t3_1 l0_1) h_1 fun t5_1 h_2 =>
  K t5_1 h_2
theorem e130 (l0_1 : Value) (h : Heap) (K : Value → Heap → Prop) : wpA Try.prog 6 (anOf []) (bodyOf Try.f130) 1 (fun A h => resA Try.prog A h K [.tmp 2]) (fun _ _ _ => False) (fun A h => resA Try.prog A h K [.tmp 2]) (aargs [l0_1] 0) h = t130 Try.prog l0_1 h K := by kernel_rfl
theorem c130 (l0_1 : Value) (h : Heap) (K : Value → Heap → Prop) (H : t130 Try.prog l0_1 h K) : callM Try.prog 130 #[l0_1] h K :=
  callM_of_wpA mixed (fn := Try.f130) Try.func130 (c := bodyOf Try.f130) rfl (of_decide_eq_true (by kernel_rfl)) (anOf []) 5 6 (by kernel_rfl) rfl [.tmp 2] (by kernel_rfl) (args := [l0_1]) (by rw [e130]; exact H)

/-! spec.waGood -/
def t138 (P : Program) (g0_1 : Value) (w1_1 : Value) (h : Heap) (K : Value → Heap → Prop) : Prop :=
  eop P (Instr.box 32 g0_1) h fun g2_1 h_1 =>
  eop P (Instr.box 132 w1_1) h_1 fun w3_1 h_2 =>
  rop P (Instr.loadAt 32 g2_1) h_2 fun t7_1 =>
  pop P (Instr.fieldAt 132 w3_1 1) fun t8_1 =>
  rop P (Instr.loadAt 3 t8_1) h_2 fun t9_1 =>
  callM P 116 #[t7_1, t9_1] h_2 fun t10_1 h_3 =>
  pop P (Op.unary .not t10_1) fun t11_1 =>
  guardM t11_1 false (fun k_1 => pop P (Instr.fieldAt 132 w3_1 0) fun t13_1 =>
  k_1 t13_1 h_3) h_3 fun t13_2 h_4 =>
  guardM t11_1 false (fun k_2 => rop P (Instr.loadAt 25 t13_2) h_4 fun t14_1 =>
  k_2 t14_1 h_4) h_4 fun t14_2 h_5 =>
  guardM t11_1 false (fun k_3 => pop P (lenS 25 3 t14_2) fun t15_1 =>
  k_3 t15_1 h_5) h_5 fun t15_2 h_6 =>
  guardM t11_1 false (fun k_4 => pop P (Instr.fieldAt 32 g2_1 0) fun t16_1 =>
  k_4 t16_1 h_6) h_6 fun t16_2 h_7 =>
  guardM t11_1 false (fun k_5 => rop P (Instr.loadAt 22 t16_2) h_7 fun t17_1 =>
  k_5 t17_1 h_7) h_7 fun t17_2 h_8 =>
  guardM t11_1 false (fun k_6 => pop P (lenS 22 3 t17_2) fun t18_1 =>
  k_6 t18_1 h_8) h_8 fun t18_2 h_9 =>
  guardM t11_1 false (fun k_7 => pop P (binE .neq 3 (.tmp 15) (.tmp 18) t15_2 t18_2) fun t19_1 =>
  k_7 t19_1 h_9) h_9 fun t19_2 h_10 =>
  pop P (pickS t11_1 (Value.bool true) t19_2) fun t20_1 =>
  condM t20_1
  (K (Value.bool false) h_10)
  (pop P (Instr.fieldAt 32 g2_1 0) fun t21_1 =>
  rop P (Instr.loadAt 22 t21_1) h_10 fun t22_1 =>
  pop P (lenS 22 3 t22_1) fun t23_1 =>
  ∃ (I_1 : List Value → Heap → Prop) (μ_1 : List Value → Heap → Nat), I_1 [(Value.int IntKind.i64 0)] h_10 ∧
  ∀ (junk_1 : Nat → Value) (t24_1 : Value) (h_11 : Heap), I_1 [t24_1] h_11 →
  pop P (binA .lss 3 t24_1 t23_1) fun t25_1 =>
  condM t25_1
  (pop P (Instr.indexAt 22 t22_1 t24_1) fun t27_1 =>
  rop P (Instr.loadAt 25 t27_1) h_11 fun t28_1 =>
  pop P (Instr.fieldAt 132 w3_1 0) fun t29_1 =>
  rop P (Instr.loadAt 25 t29_1) h_11 fun t30_1 =>
  pop P (Instr.indexAt 25 t30_1 t24_1) fun t32_1 =>
  rop P (Instr.loadAt 3 t32_1) h_11 fun t33_1 =>
  pop P (lenS 25 3 t28_1) fun t35_1 =>
  pop P (binA .sub 3 t35_1 (Value.int IntKind.i64 1)) fun t36_1 =>
  callM P 173 #[(Value.int IntKind.i64 0), t36_1] h_11 fun t37_1 h_12 =>
  (∀ w : World, w.heap = h_12 → (Instr.loadAt 3 t32_1).run P w = .ok t33_1 w) ∧
  (∀ w : World, w.heap = h_12 → (Instr.loadAt 25 t29_1).run P w = .ok t30_1 w) ∧
  callM P 117 #[t33_1, (Value.int IntKind.i64 0), t37_1] h_12 fun t38_1 h_13 =>
  (∀ w : World, w.heap = h_13 → (Instr.loadAt 25 t29_1).run P w = .ok t30_1 w) ∧
  pop P (Op.unary .not t38_1) fun t39_1 =>
  condM t39_1
  (K (Value.bool false) h_13)
  (pop P (binA .add 3 t24_1 (Value.int IntKind.i64 1)) fun t40_1 =>
  I_1 [t40_1] h_13 ∧ μ_1 [t40_1] h_13 < μ_1 [t24_1] h_11))
  (K (Value.bool true) h_11))
theorem e138 (g0_1 : Value) (w1_1 : Value) (h : Heap) (K : Value → Heap → Prop) : wpA Try.prog 41 (anOf [(58, [24])]) (bodyOf Try.f138) 1 (fun A h => resA Try.prog A h K [.tmp 4]) (fun _ _ _ => False) (fun A h => resA Try.prog A h K [.tmp 4]) (aargs [g0_1, w1_1] 0) h = t138 Try.prog g0_1 w1_1 h K := by kernel_rfl
theorem c138 (g0_1 : Value) (w1_1 : Value) (h : Heap) (K : Value → Heap → Prop) (H : t138 Try.prog g0_1 w1_1 h K) : callM Try.prog 138 #[g0_1, w1_1] h K :=
  callM_of_wpA mixed (fn := Try.f138) Try.func138 (c := bodyOf Try.f138) rfl (of_decide_eq_true (by kernel_rfl)) (anOf [(58, [24])]) 39 41 (by kernel_rfl) rfl [.tmp 4] (by kernel_rfl) (args := [g0_1, w1_1]) (by rw [e138]; exact H)

/-! spec.chSum -/
def t139 (P : Program) (list0_1 : Value) (h : Heap) (K : Value → Heap → Prop) : Prop :=
  pop P (lenS 25 3 list0_1) fun t7_1 =>
  ∃ (I_1 : List Value → Heap → Prop) (μ_1 : List Value → Heap → Nat), I_1 [(Value.int IntKind.i64 0), (Value.int IntKind.i64 0)] h ∧
  ∀ (junk_1 : Nat → Value) (sum3_1 : Value) (t8_1 : Value) (h_1 : Heap), I_1 [sum3_1, t8_1] h_1 →
  pop P (binA .lss 3 t8_1 t7_1) fun t9_1 =>
  condM t9_1
  (pop P (Instr.indexAt 25 list0_1 t8_1) fun t10_1 =>
  rop P (Instr.loadAt 3 t10_1) h_1 fun t11_1 =>
  pop P (binA .add 3 sum3_1 t11_1) fun t14_1 =>
  pop P (binA .add 3 t8_1 (Value.int IntKind.i64 1)) fun t15_1 =>
  I_1 [t14_1, t15_1] h_1 ∧ μ_1 [t14_1, t15_1] h_1 < μ_1 [sum3_1, t8_1] h_1)
  (K sum3_1 h_1)
theorem e139 (list0_1 : Value) (h : Heap) (K : Value → Heap → Prop) : wpA Try.prog 17 (anOf [(58, [3, 8])]) (bodyOf Try.f139) 1 (fun A h => resA Try.prog A h K [.tmp 2]) (fun _ _ _ => False) (fun A h => resA Try.prog A h K [.tmp 2]) (aargs [list0_1] 0) h = t139 Try.prog list0_1 h K := by kernel_rfl
theorem c139 (list0_1 : Value) (h : Heap) (K : Value → Heap → Prop) (H : t139 Try.prog list0_1 h K) : callM Try.prog 139 #[list0_1] h K :=
  callM_of_wpA mixed (fn := Try.f139) Try.func139 (c := bodyOf Try.f139) rfl (of_decide_eq_true (by kernel_rfl)) (anOf [(58, [3, 8])]) 16 17 (by kernel_rfl) rfl [.tmp 2] (by kernel_rfl) (args := [list0_1]) (by rw [e139]; exact H)

/-! impl.areRotors -/
def t140 (P : Program) (g0_1 : Value) (rotors1_1 : Value) (h : Heap) (K : Value → Heap → Prop) : Prop :=
  eop P (Instr.box 32 g0_1) h fun g2_1 h_1 =>
  rop P (Instr.loadAt 32 g2_1) h_1 fun t5_1 =>
  pop P (Instr.build 132 #[(0, rotors1_1), (1, (Value.int IntKind.i64 0))]) fun t7_1 =>
  callM P 174 #[t5_1, t7_1] h_1 fun t8_1 h_2 =>
  K t8_1 h_2
theorem e140 (g0_1 : Value) (rotors1_1 : Value) (h : Heap) (K : Value → Heap → Prop) : wpA Try.prog 9 (anOf []) (bodyOf Try.f140) 1 (fun A h => resA Try.prog A h K [.tmp 4]) (fun _ _ _ => False) (fun A h => resA Try.prog A h K [.tmp 4]) (aargs [g0_1, rotors1_1] 0) h = t140 Try.prog g0_1 rotors1_1 h K := by kernel_rfl
theorem c140 (g0_1 : Value) (rotors1_1 : Value) (h : Heap) (K : Value → Heap → Prop) (H : t140 Try.prog g0_1 rotors1_1 h K) : callM Try.prog 140 #[g0_1, rotors1_1] h K :=
  callM_of_wpA mixed (fn := Try.f140) Try.func140 (c := bodyOf Try.f140) rfl (of_decide_eq_true (by kernel_rfl)) (anOf []) 7 9 (by kernel_rfl) rfl [.tmp 4] (by kernel_rfl) (args := [g0_1, rotors1_1]) (by rw [e140]; exact H)

/-! impl.areChips -/
def t141 (P : Program) (g0_1 : Value) (chips1_1 : Value) (h : Heap) (K : Value → Heap → Prop) : Prop :=
  eop P (Instr.box 32 g0_1) h fun g2_1 h_1 =>
  pop P (lenS 25 3 chips1_1) fun t6_1 =>
  pop P (Instr.fieldAt 32 g2_1 0) fun t7_1 =>
  rop P (Instr.loadAt 22 t7_1) h_1 fun t8_1 =>
  pop P (lenS 22 3 t8_1) fun t9_1 =>
  pop P (binE .eql 3 (.tmp 6) (.tmp 9) t6_1 t9_1) fun t10_1 =>
  guardM t10_1 true (fun k_1 => k_1 chips1_1 h_1) h_1 fun t12_1 h_2 =>
  guardM t10_1 true (fun k_2 => callM P 102 #[t12_1, (.func (.func 175) #[] #[])] h_2 fun t13_1 h_3 =>
  k_2 t13_1 h_3) h_2 fun t13_2 h_4 =>
  guardM t10_1 true (fun k_3 => pop P (Op.unary .not t13_2) fun t14_1 =>
  k_3 t14_1 h_4) h_4 fun t14_2 h_5 =>
  pop P (pickS t10_1 t14_2 (Value.bool false)) fun t15_1 =>
  K t15_1 h_5
theorem e141 (g0_1 : Value) (chips1_1 : Value) (h : Heap) (K : Value → Heap → Prop) : wpA Try.prog 16 (anOf []) (bodyOf Try.f141) 1 (fun A h => resA Try.prog A h K [.tmp 4]) (fun _ _ _ => False) (fun A h => resA Try.prog A h K [.tmp 4]) (aargs [g0_1, chips1_1] 0) h = t141 Try.prog g0_1 chips1_1 h K := by kernel_rfl
theorem c141 (g0_1 : Value) (chips1_1 : Value) (h : Heap) (K : Value → Heap → Prop) (H : t141 Try.prog g0_1 chips1_1 h K) : callM Try.prog 141 #[g0_1, chips1_1] h K :=
  callM_of_wpA mixed (fn := Try.f141) Try.func141 (c := bodyOf Try.f141) rfl (of_decide_eq_true (by kernel_rfl)) (anOf []) 14 16 (by kernel_rfl) rfl [.tmp 4] (by kernel_rfl) (args := [g0_1, chips1_1]) (by rw [e141]; exact H)

/-! slices.Clone[[]int,int] -/
def t142 (P : Program) (s0_1 : Value) (h : Heap) (K : Value → Heap → Prop) : Prop :=
  pop P (binE .eql 25 (.tmp 3) (.const (Value.slice none 0 0)) s0_1 (Value.slice none 0 0)) fun t4_1 =>
  condM t4_1
  (K (Value.slice none 0 0) h)
  (eop P (Instr.buildSlice 25 0 #[]) h fun t5_1 h_1 =>
  eop P (appS 25 25 25 t5_1 s0_1) h_1 fun t7_1 h_2 =>
  K t7_1 h_2)
theorem e142 (s0_1 : Value) (h : Heap) (K : Value → Heap → Prop) : wpA Try.prog 8 (anOf []) (bodyOf Try.f142) 1 (fun A h => resA Try.prog A h K [.tmp 2]) (fun _ _ _ => False) (fun A h => resA Try.prog A h K [.tmp 2]) (aargs [s0_1] 0) h = t142 Try.prog s0_1 h K := by kernel_rfl
theorem c142 (s0_1 : Value) (h : Heap) (K : Value → Heap → Prop) (H : t142 Try.prog s0_1 h K) : callM Try.prog 142 #[s0_1] h K :=
  callM_of_wpA mixed (fn := Try.f142) Try.func142 (c := bodyOf Try.f142) rfl (of_decide_eq_true (by kernel_rfl)) (anOf []) 7 8 (by kernel_rfl) rfl [.tmp 2] (by kernel_rfl) (args := [s0_1]) (by rw [e142]; exact H)

/-! (*impl.Load).send -/
def t143 (P : Program) (l0_1 : Value) (g1_1 : Value) (p2_1 : Value) (h : Heap) (K : Value → Heap → Prop) : Prop :=
  eop P (Instr.box 32 g1_1) h fun g4_1 h_1 =>
  pop P (nilS l0_1) fun t8_1 =>
  pop P (Instr.fieldAt 34 t8_1 0) fun t9_1 =>
  rop P (Instr.loadAt 25 t9_1) h_1 fun t10_1 =>
  pop P (Instr.build 132 #[(0, t10_1), (1, p2_1)]) fun t12_1 =>
  eop P (Instr.alloc 132 true (.tuple #[])) h_1 fun w6_1 h_2 =>
  uop P (Instr.storeAt 132 w6_1 t12_1) h_2 fun u_1 h_3 =>
  rop P (Instr.loadAt 32 g4_1) h_3 fun t13_1 =>
  callM P 176 #[t13_1, w6_1] h_3 fun t14_1 h_4 =>
  pop P (nilS l0_1) fun t16_1 =>
  pop P (Instr.fieldAt 34 t16_1 1) fun t17_1 =>
  rop P (Instr.loadAt 25 t17_1) h_4 fun t18_1 =>
  pop P (Instr.indexAt 25 t18_1 p2_1) fun t20_1 =>
  rop P (Instr.loadAt 3 t20_1) h_4 fun t21_1 =>
  pop P (binA .sub 3 t21_1 (Value.int IntKind.i64 1)) fun t22_1 =>
  pop P (Instr.indexAt 25 t18_1 p2_1) fun t23_1 =>
  uop P (Instr.storeAt 3 t23_1 t22_1) h_4 fun u_2 h_5 =>
  pop P (nilS l0_1) fun t25_1 =>
  pop P (Instr.fieldAt 34 t25_1 1) fun t26_1 =>
  rop P (Instr.loadAt 25 t26_1) h_5 fun t27_1 =>
  pop P (Instr.fieldAt 132 w6_1 1) fun t28_1 =>
  rop P (Instr.loadAt 3 t28_1) h_5 fun t29_1 =>
  pop P (Instr.indexAt 25 t27_1 t29_1) fun t30_1 =>
  rop P (Instr.loadAt 3 t30_1) h_5 fun t31_1 =>
  pop P (binA .add 3 t31_1 (Value.int IntKind.i64 1)) fun t32_1 =>
  pop P (Instr.indexAt 25 t27_1 t29_1) fun t33_1 =>
  uop P (Instr.storeAt 3 t33_1 t32_1) h_5 fun u_3 h_6 =>
  K (.tuple #[]) h_6
theorem e143 (l0_1 : Value) (g1_1 : Value) (p2_1 : Value) (h : Heap) (K : Value → Heap → Prop) : wpA Try.prog 34 (anOf []) (bodyOf Try.f143) 1 (fun A h => resA Try.prog A h K []) (fun _ _ _ => False) (fun A h => resA Try.prog A h K []) (aargs [l0_1, g1_1, p2_1] 0) h = t143 Try.prog l0_1 g1_1 p2_1 h K := by kernel_rfl
theorem c143 (l0_1 : Value) (g1_1 : Value) (p2_1 : Value) (h : Heap) (K : Value → Heap → Prop) (H : t143 Try.prog l0_1 g1_1 p2_1 h K) : callM Try.prog 143 #[l0_1, g1_1, p2_1] h K :=
  callM_of_wpA mixed (fn := Try.f143) Try.func143 (c := bodyOf Try.f143) rfl (of_decide_eq_true (by kernel_rfl)) (anOf []) 31 34 (by kernel_rfl) rfl [] (by kernel_rfl) (args := [l0_1, g1_1, p2_1]) (by rw [e143]; exact H)

/-! impl.isGraph$1 -/
def t150 (P : Program) (q0_1 : Value) (t1_1 : Value) (h : Heap) (K : Value → Heap → Prop) : Prop :=
  rop P (Instr.loadAt 3 t1_1) h fun t5_1 =>
  pop P (binA .sub 3 t5_1 (Value.int IntKind.i64 1)) fun t6_1 =>
  callM P 113 #[q0_1, (Value.int IntKind.i64 0), t6_1] h fun t7_1 h_1 =>
  pop P (Op.unary .not t7_1) fun t8_1 =>
  K t8_1 h_1
theorem e150 (q0_1 : Value) (t1_1 : Value) (h : Heap) (K : Value → Heap → Prop) : wpA Try.prog 9 (anOf []) (bodyOf Try.f150) 1 (fun A h => resA Try.prog A h K [.tmp 3]) (fun _ _ _ => False) (fun A h => resA Try.prog A h K [.tmp 3]) (aargs [q0_1, t1_1] 0) h = t150 Try.prog q0_1 t1_1 h K := by kernel_rfl
theorem c150 (q0_1 : Value) (t1_1 : Value) (h : Heap) (K : Value → Heap → Prop) (H : t150 Try.prog q0_1 t1_1 h K) : callM Try.prog 150 #[q0_1, t1_1] h K :=
  callM_of_wpA mixed (fn := Try.f150) Try.func150 (c := bodyOf Try.f150) rfl (of_decide_eq_true (by kernel_rfl)) (anOf []) 7 9 (by kernel_rfl) rfl [.tmp 3] (by kernel_rfl) (args := [q0_1, t1_1]) (by rw [e150]; exact H)

/-! impl.force$1 -/
def t155 (P : Program) (n0_1 : Value) (h : Heap) (K : Value → Heap → Prop) : Prop :=
  callM P 113 #[n0_1, (Value.int IntKind.i64 0), (Value.int IntKind.i64 50)] h fun t4_1 h_1 =>
  pop P (Op.unary .not t4_1) fun t5_1 =>
  K t5_1 h_1
theorem e155 (n0_1 : Value) (h : Heap) (K : Value → Heap → Prop) : wpA Try.prog 6 (anOf []) (bodyOf Try.f155) 1 (fun A h => resA Try.prog A h K [.tmp 2]) (fun _ _ _ => False) (fun A h => resA Try.prog A h K [.tmp 2]) (aargs [n0_1] 0) h = t155 Try.prog n0_1 h K := by kernel_rfl
theorem c155 (n0_1 : Value) (h : Heap) (K : Value → Heap → Prop) (H : t155 Try.prog n0_1 h K) : callM Try.prog 155 #[n0_1] h K :=
  callM_of_wpA mixed (fn := Try.f155) Try.func155 (c := bodyOf Try.f155) rfl (of_decide_eq_true (by kernel_rfl)) (anOf []) 5 6 (by kernel_rfl) rfl [.tmp 2] (by kernel_rfl) (args := [n0_1]) (by rw [e155]; exact H)

/-! (*spec.l1Cur).sunk -/
def t156 (P : Program) (c0_1 : Value) (h : Heap) (K : Value → Heap → Prop) : Prop :=
  eop P (Instr.alloc 32 true (.tuple #[])) h fun t2_1 h_1 =>
  callM P 163 #[c0_1, (Value.int IntKind.i64 5)] h_1 fun t8_1 h_2 =>
  eop P (Instr.alloc 32 true (.tuple #[])) h_2 fun g4_1 h_3 =>
  uop P (Instr.storeAt 32 g4_1 t8_1) h_3 fun u_1 h_4 =>
  pop P (Instr.fieldAt 32 g4_1 0) fun t10_1 =>
  rop P (Instr.loadAt 22 t10_1) h_4 fun t11_1 =>
  pop P (lenS 22 3 t11_1) fun t12_1 =>
  callM P 100 #[c0_1, t12_1] h_4 fun t13_1 h_5 =>
  pop P (Instr.fieldAt 32 g4_1 0) fun t14_1 =>
  rop P (Instr.loadAt 22 t14_1) h_5 fun t15_1 =>
  pop P (lenS 22 3 t15_1) fun t16_1 =>
  ∃ (I_1 : List Value → Heap → Prop) (μ_1 : List Value → Heap → Nat), I_1 [(Value.int IntKind.i64 0)] h_5 ∧
  ∀ (junk_1 : Nat → Value) (t17_1 : Value) (h_6 : Heap), I_1 [t17_1] h_6 →
  pop P (binA .lss 3 t17_1 t16_1) fun t18_1 =>
  condM t18_1
  (rop P (Instr.loadAt 32 g4_1) h_6 fun t20_1 =>
  callM P 186 #[t20_1, t17_1] h_6 fun t22_1 h_7 =>
  pop P (lenS 25 3 t22_1) fun t23_1 =>
  pop P (binA .gtr 3 t23_1 (Value.int IntKind.i64 0)) fun t24_1 =>
  guardM t24_1 true (fun k_1 => k_1 t17_1 h_7) h_7 fun t26_1 h_8 =>
  guardM t24_1 true (fun k_2 => k_2 t13_1 h_8) h_8 fun t27_1 h_9 =>
  guardM t24_1 true (fun k_3 => pop P (binE .neq 3 (.tmp 26) (.tmp 27) t26_1 t27_1) fun t28_1 =>
  k_3 t28_1 h_9) h_9 fun t28_2 h_10 =>
  pop P (pickS t24_1 t28_2 (Value.bool false)) fun t29_1 =>
  guardM t29_1 true (fun k_4 => rop P (Instr.loadAt 32 g4_1) h_10 fun t31_1 =>
  k_4 t31_1 h_10) h_10 fun t31_2 h_11 =>
  guardM t29_1 true (fun k_5 => k_5 t17_1 h_11) h_11 fun t32_1 h_12 =>
  guardM t29_1 true (fun k_6 => callM P 186 #[t31_2, t32_1] h_12 fun t33_1 h_13 =>
  k_6 t33_1 h_13) h_12 fun t33_2 h_14 =>
  guardM t29_1 true (fun k_7 => k_7 t13_1 h_14) h_14 fun t34_1 h_15 =>
  guardM t29_1 true (fun k_8 => pop P (Instr.indexAt 25 t33_2 t34_1) fun t35_1 =>
  k_8 t35_1 h_15) h_15 fun t35_2 h_16 =>
  guardM t29_1 true (fun k_9 => rop P (Instr.loadAt 3 t35_2) h_16 fun t36_1 =>
  k_9 t36_1 h_16) h_16 fun t36_2 h_17 =>
  guardM t29_1 true (fun k_10 => pop P (binA .lss 3 t36_2 (Value.int IntKind.i64 0)) fun t37_1 =>
  k_10 t37_1 h_17) h_17 fun t37_2 h_18 =>
  pop P (pickS t29_1 t37_2 (Value.bool false)) fun t38_1 =>
  guardM t38_1 true (fun k_11 => k_11 c0_1 h_18) h_18 fun t40_1 h_19 =>
  guardM t38_1 true (fun k_12 => callM P 99 #[t40_1, (Value.int IntKind.i64 12)] h_19 fun t41_1 h_20 =>
  k_12 t41_1 h_20) h_19 fun t41_2 h_21 =>
  guardM t38_1 true (fun k_13 => pop P (Op.unary .not t41_2) fun t42_1 =>
  k_13 t42_1 h_21) h_21 fun t42_2 h_22 =>
  pop P (pickS t38_1 t42_2 (Value.bool false)) fun t43_1 =>
  condM t43_1
  (pop P (Instr.fieldAt 32 g4_1 0) fun t44_1 =>
  rop P (Instr.loadAt 22 t44_1) h_22 fun t45_1 =>
  pop P (Instr.indexAt 22 t45_1 t17_1) fun t47_1 =>
  rop P (Instr.loadAt 25 t47_1) h_22 fun t48_1 =>
  pop P (lenS 25 3 t48_1) fun t49_1 =>
  pop P (binA .lss 3 t49_1 (Value.int IntKind.i64 5)) fun t50_1 =>
  condM t50_1
  (pop P (Instr.fieldAt 32 g4_1 0) fun t51_1 =>
  rop P (Instr.loadAt 22 t51_1) h_22 fun t52_1 =>
  pop P (Instr.fieldAt 32 g4_1 0) fun t54_1 =>
  rop P (Instr.loadAt 22 t54_1) h_22 fun t55_1 =>
  pop P (Instr.indexAt 22 t55_1 t17_1) fun t57_1 =>
  rop P (Instr.loadAt 25 t57_1) h_22 fun t58_1 =>
  (callM P 130 #[t58_1] h_22 fun t59_1 h_23 =>
  (∀ w : World, w.heap = h_23 → (Instr.loadAt 22 t54_1).run P w = .ok t55_1 w) ∧
  (∀ w : World, w.heap = h_23 → (Instr.loadAt 22 t51_1).run P w = .ok t52_1 w) ∧
  eop P (Instr.buildSlice 25 1 #[(0, t13_1)]) h_23 fun t61_1 h_24 =>
  (∀ w : World, w.heap = h_24 → (Instr.loadAt 22 t54_1).run P w = .ok t55_1 w) ∧
  (∀ w : World, w.heap = h_24 → (Instr.loadAt 22 t51_1).run P w = .ok t52_1 w) ∧
  eop P (appS 25 25 25 t59_1 t61_1) h_24 fun t62_1 h_25 =>
  (∀ w : World, w.heap = h_25 → (Instr.loadAt 22 t54_1).run P w = .ok t55_1 w) ∧
  (∀ w : World, w.heap = h_25 → (Instr.loadAt 22 t51_1).run P w = .ok t52_1 w) ∧
  pop P (Instr.indexAt 22 t52_1 t17_1) fun t63_1 =>
  uop P (Instr.storeAt 25 t63_1 t62_1) h_25 fun u_2 h_26 =>
  pop P (binA .add 3 t17_1 (Value.int IntKind.i64 1)) fun t77_1 =>
  I_1 [t77_1] h_26 ∧ μ_1 [t77_1] h_26 < μ_1 [t17_1] h_6) ∧
  (eop P (Instr.buildSlice 25 1 #[(0, t13_1)]) h_22 fun t61_2 h_27 =>
  (∀ w : World, w.heap = h_27 → (Instr.loadAt 25 t57_1).run P w = .ok t58_1 w) ∧
  (∀ w : World, w.heap = h_27 → (Instr.loadAt 22 t54_1).run P w = .ok t55_1 w) ∧
  (∀ w : World, w.heap = h_27 → (Instr.loadAt 22 t51_1).run P w = .ok t52_1 w) ∧
  callM P 130 #[t58_1] h_27 fun t59_2 h_28 =>
  (∀ w : World, w.heap = h_28 → (Instr.loadAt 22 t54_1).run P w = .ok t55_1 w) ∧
  (∀ w : World, w.heap = h_28 → (Instr.loadAt 22 t51_1).run P w = .ok t52_1 w) ∧
  eop P (appS 25 25 25 t59_2 t61_2) h_28 fun t62_2 h_29 =>
  (∀ w : World, w.heap = h_29 → (Instr.loadAt 22 t54_1).run P w = .ok t55_1 w) ∧
  (∀ w : World, w.heap = h_29 → (Instr.loadAt 22 t51_1).run P w = .ok t52_1 w) ∧
  pop P (Instr.indexAt 22 t52_1 t17_1) fun t63_2 =>
  uop P (Instr.storeAt 25 t63_2 t62_2) h_29 fun u_3 h_30 =>
  pop P (binA .add 3 t17_1 (Value.int IntKind.i64 1)) fun t77_2 =>
  I_1 [t77_2] h_30 ∧ μ_1 [t77_2] h_30 < μ_1 [t17_1] h_6))
  (pop P (Instr.fieldAt 32 g4_1 0) fun t64_1 =>
  rop P (Instr.loadAt 22 t64_1) h_22 fun t65_1 =>
  pop P (Instr.fieldAt 32 g4_1 0) fun t69_1 =>
  rop P (Instr.loadAt 22 t69_1) h_22 fun t70_1 =>
  pop P (Instr.indexAt 22 t70_1 t17_1) fun t72_1 =>
  rop P (Instr.loadAt 25 t72_1) h_22 fun t73_1 =>
  pop P (Instr.sliceAt 25 t73_1 (some (Value.int IntKind.i64 1)) none none) fun t74_1 =>
  eop P (Instr.buildSlice 25 1 #[(0, t13_1)]) h_22 fun t68_1 h_31 =>
  (∀ w : World, w.heap = h_31 → (Instr.loadAt 25 t72_1).run P w = .ok t73_1 w) ∧
  (∀ w : World, w.heap = h_31 → (Instr.loadAt 22 t69_1).run P w = .ok t70_1 w) ∧
  (∀ w : World, w.heap = h_31 → (Instr.loadAt 22 t64_1).run P w = .ok t65_1 w) ∧
  eop P (appS 25 25 25 t68_1 t74_1) h_31 fun t75_1 h_32 =>
  (∀ w : World, w.heap = h_32 → (Instr.loadAt 25 t72_1).run P w = .ok t73_1 w) ∧
  (∀ w : World, w.heap = h_32 → (Instr.loadAt 22 t69_1).run P w = .ok t70_1 w) ∧
  (∀ w : World, w.heap = h_32 → (Instr.loadAt 22 t64_1).run P w = .ok t65_1 w) ∧
  pop P (Instr.indexAt 22 t65_1 t17_1) fun t76_1 =>
  uop P (Instr.storeAt 25 t76_1 t75_1) h_32 fun u_4 h_33 =>
  pop P (binA .add 3 t17_1 (Value.int IntKind.i64 1)) fun t77_3 =>
  I_1 [t77_3] h_33 ∧ μ_1 [t77_3] h_33 < μ_1 [t17_1] h_6))
  (pop P (binA .add 3 t17_1 (Value.int IntKind.i64 1)) fun t77_4 =>
  I_1 [t77_4] h_22 ∧ μ_1 [t77_4] h_22 < μ_1 [t17_1] h_6))
  (rop P (Instr.loadAt 32 g4_1) h_6 fun t78_1 =>
  uop P (Instr.storeAt 32 t2_1 t78_1) h_6 fun u_5 h_34 =>
  rop P (Instr.loadAt 32 t2_1) h_34 fun r_1 =>
  K (.tuple #[r_1, t13_1]) h_34)
theorem e156 (c0_1 : Value) (h : Heap) (K : Value → Heap → Prop) : wpA Try.prog 80 (anOf [(122, [17])]) (bodyOf Try.f156) 1 (fun A h => resA Try.prog A h K [.cell 2 32, .tmp 3]) (fun _ _ _ => False) (fun A h => resA Try.prog A h K [.cell 2 32, .tmp 3]) (aargs [c0_1] 0) h = t156 Try.prog c0_1 h K := by kernel_rfl
theorem c156 (c0_1 : Value) (h : Heap) (K : Value → Heap → Prop) (H : t156 Try.prog c0_1 h K) : callM Try.prog 156 #[c0_1] h K :=
  callM_of_wpA mixed (fn := Try.f156) Try.func156 (c := bodyOf Try.f156) rfl (of_decide_eq_true (by kernel_rfl)) (anOf [(122, [17])]) 79 80 (by kernel_rfl) rfl [.cell 2 32, .tmp 3] (by kernel_rfl) (args := [c0_1]) (by rw [e156]; exact H)

/-! (*spec.l1Cur).sureWalk -/
def t157 (P : Program) (c0_1 : Value) (g1_1 : Value) (h : Heap) (K : Value → Heap → Prop) : Prop :=
  eop P (Instr.box 32 g1_1) h fun g3_1 h_1 =>
  eop P (Instr.alloc 132 true (.tuple #[])) h_1 fun t4_1 h_2 =>
  pop P (Instr.fieldAt 32 g3_1 0) fun t10_1 =>
  rop P (Instr.loadAt 22 t10_1) h_2 fun t11_1 =>
  pop P (lenS 22 3 t11_1) fun t12_1 =>
  callM P 100 #[c0_1, t12_1] h_2 fun t13_1 h_3 =>
  pop P (Instr.build 132 #[(1, t13_1)]) fun t14_1 =>
  eop P (Instr.alloc 132 true (.tuple #[])) h_3 fun w5_1 h_4 =>
  uop P (Instr.storeAt 132 w5_1 t14_1) h_4 fun u_1 h_5 =>
  pop P (Instr.fieldAt 32 g3_1 0) fun t15_1 =>
  rop P (Instr.loadAt 22 t15_1) h_5 fun t16_1 =>
  pop P (lenS 22 3 t16_1) fun t17_1 =>
  ∃ (I_1 : List Value → Heap → Prop) (μ_1 : List Value → Heap → Nat), I_1 [(Value.int IntKind.i64 0)] h_5 ∧
  ∀ (junk_1 : Nat → Value) (t18_1 : Value) (h_6 : Heap), I_1 [t18_1] h_6 →
  pop P (binA .lss 3 t18_1 t17_1) fun t19_1 =>
  condM t19_1
  (pop P (Instr.indexAt 22 t16_1 t18_1) fun t20_1 =>
  rop P (Instr.loadAt 25 t20_1) h_6 fun t21_1 =>
  ∃ J_1 : List Value → Heap → Prop, (pop P (lenS 25 3 t21_1) fun t23_1 =>
  pop P (binA .gtr 3 t23_1 (Value.int IntKind.i64 0)) fun t24_1 =>
  condM t24_1
  (pop P (lenS 25 3 t21_1) fun t27_1 =>
  callM P 100 #[c0_1, t27_1] h_6 fun t28_1 h_7 =>
  J_1 [t28_1] h_7)
  (J_1 [(Value.int IntKind.i64 0)] h_6)) ∧
  ∀ (junk_2 : Nat → Value) (k8_1 : Value) (h_8 : Heap), J_1 [k8_1] h_8 →
  pop P (Instr.fieldAt 132 w5_1 0) fun t29_1 =>
  rop P (Instr.loadAt 25 t29_1) h_8 fun t30_1 =>
  eop P (Instr.buildSlice 25 1 #[(0, k8_1)]) h_8 fun t32_1 h_9 =>
  eop P (appS 25 25 25 t30_1 t32_1) h_9 fun t33_1 h_10 =>
  pop P (Instr.fieldAt 132 w5_1 0) fun t34_1 =>
  uop P (Instr.storeAt 25 t34_1 t33_1) h_10 fun u_2 h_11 =>
  pop P (binA .add 3 t18_1 (Value.int IntKind.i64 1)) fun t35_1 =>
  I_1 [t35_1] h_11 ∧ μ_1 [t35_1] h_11 < μ_1 [t18_1] h_6)
  (rop P (Instr.loadAt 132 w5_1) h_6 fun t36_1 =>
  uop P (Instr.storeAt 132 t4_1 t36_1) h_6 fun u_3 h_12 =>
  rop P (Instr.loadAt 132 t4_1) h_12 fun r_1 =>
  K r_1 h_12)
theorem e157 (c0_1 : Value) (g1_1 : Value) (h : Heap) (K : Value → Heap → Prop) : wpA Try.prog 37 (anOf [(58, [18]), (7475, [8])]) (bodyOf Try.f157) 1 (fun A h => resA Try.prog A h K [.cell 4 132]) (fun _ _ _ => False) (fun A h => resA Try.prog A h K [.cell 4 132]) (aargs [c0_1, g1_1] 0) h = t157 Try.prog c0_1 g1_1 h K := by kernel_rfl
theorem c157 (c0_1 : Value) (g1_1 : Value) (h : Heap) (K : Value → Heap → Prop) (H : t157 Try.prog c0_1 g1_1 h K) : callM Try.prog 157 #[c0_1, g1_1] h K :=
  callM_of_wpA mixed (fn := Try.f157) Try.func157 (c := bodyOf Try.f157) rfl (of_decide_eq_true (by kernel_rfl)) (anOf [(58, [18]), (7475, [8])]) 35 37 (by kernel_rfl) rfl [.cell 4 132] (by kernel_rfl) (args := [c0_1, g1_1]) (by rw [e157]; exact H)

/-! (*spec.l1Cur).next -/
def t158 (P : Program) (c0_1 : Value) (h : Heap) (K : Value → Heap → Prop) : Prop :=
  ∃ J_1 : List Value → Heap → Prop, (pop P (nilS c0_1) fun t5_1 =>
  pop P (Instr.fieldAt 109 t5_1 1) fun t6_1 =>
  rop P (Instr.loadAt 3 t6_1) h fun t7_1 =>
  pop P (nilS c0_1) fun t9_1 =>
  pop P (Instr.fieldAt 109 t9_1 0) fun t10_1 =>
  rop P (Instr.loadAt 55 t10_1) h fun t11_1 =>
  pop P (lenS 55 3 t11_1) fun t12_1 =>
  pop P (binA .lss 3 t7_1 t12_1) fun t13_1 =>
  condM t13_1
  (pop P (nilS c0_1) fun t15_1 =>
  pop P (Instr.fieldAt 109 t15_1 0) fun t16_1 =>
  rop P (Instr.loadAt 55 t16_1) h fun t17_1 =>
  pop P (nilS c0_1) fun t19_1 =>
  pop P (Instr.fieldAt 109 t19_1 1) fun t20_1 =>
  rop P (Instr.loadAt 3 t20_1) h fun t21_1 =>
  pop P (Instr.indexAt 55 t17_1 t21_1) fun t22_1 =>
  rop P (Instr.loadAt 5 t22_1) h fun t23_1 =>
  rop P (convert 5 3 t23_1) h fun t24_1 =>
  J_1 [t24_1] h)
  (J_1 [(Value.int IntKind.i64 0)] h)) ∧
  ∀ (junk_1 : Nat → Value) (b3_1 : Value) (h_1 : Heap), J_1 [b3_1] h_1 →
  pop P (nilS c0_1) fun t26_1 =>
  pop P (Instr.fieldAt 109 t26_1 1) fun t27_1 =>
  rop P (Instr.loadAt 3 t27_1) h_1 fun t28_1 =>
  pop P (binA .add 3 t28_1 (Value.int IntKind.i64 1)) fun t29_1 =>
  pop P (nilS c0_1) fun t30_1 =>
  pop P (Instr.fieldAt 109 t30_1 1) fun t31_1 =>
  uop P (Instr.storeAt 3 t31_1 t29_1) h_1 fun u_1 h_2 =>
  pop P (nilS c0_1) fun t34_1 =>
  pop P (Instr.fieldAt 109 t34_1 2) fun t35_1 =>
  rop P (Instr.loadAt 107 t35_1) h_2 fun t36_1 =>
  pop P (binA .mul 107 t36_1 (Value.int IntKind.u64 6364136223846793005)) fun t37_1 =>
  rop P (convert 3 107 b3_1) h_2 fun t39_1 =>
  pop P (binA .add 107 t37_1 t39_1) fun t40_1 =>
  pop P (binA .add 107 t40_1 (Value.int IntKind.u64 1442695040888963407)) fun t41_1 =>
  pop P (nilS c0_1) fun t42_1 =>
  pop P (Instr.fieldAt 109 t42_1 2) fun t43_1 =>
  uop P (Instr.storeAt 107 t43_1 t41_1) h_2 fun u_2 h_3 =>
  pop P (nilS c0_1) fun t45_1 =>
  pop P (Instr.fieldAt 109 t45_1 1) fun t46_1 =>
  rop P (Instr.loadAt 3 t46_1) h_3 fun t47_1 =>
  pop P (nilS c0_1) fun t49_1 =>
  pop P (Instr.fieldAt 109 t49_1 0) fun t50_1 =>
  rop P (Instr.loadAt 55 t50_1) h_3 fun t51_1 =>
  pop P (lenS 55 3 t51_1) fun t52_1 =>
  pop P (binA .leq 3 t47_1 t52_1) fun t53_1 =>
  condM t53_1
  (K b3_1 h_3)
  (pop P (nilS c0_1) fun t56_1 =>
  pop P (Instr.fieldAt 109 t56_1 2) fun t57_1 =>
  rop P (Instr.loadAt 107 t57_1) h_3 fun t58_1 =>
  pop P (binA .shr 107 t58_1 (Value.int IntKind.u64 40)) fun t59_1 =>
  pop P (binA .and 107 t59_1 (Value.int IntKind.u64 255)) fun t60_1 =>
  rop P (convert 107 3 t60_1) h_3 fun t61_1 =>
  K t61_1 h_3)
theorem e158 (c0_1 : Value) (h : Heap) (K : Value → Heap → Prop) : wpA Try.prog 62 (anOf [(7, [3])]) (bodyOf Try.f158) 1 (fun A h => resA Try.prog A h K [.tmp 2]) (fun _ _ _ => False) (fun A h => resA Try.prog A h K [.tmp 2]) (aargs [c0_1] 0) h = t158 Try.prog c0_1 h K := by kernel_rfl
theorem c158 (c0_1 : Value) (h : Heap) (K : Value → Heap → Prop) (H : t158 Try.prog c0_1 h K) : callM Try.prog 158 #[c0_1] h K :=
  callM_of_wpA mixed (fn := Try.f158) Try.func158 (c := bodyOf Try.f158) rfl (of_decide_eq_true (by kernel_rfl)) (anOf [(7, [3])]) 61 62 (by kernel_rfl) rfl [.tmp 2] (by kernel_rfl) (args := [c0_1]) (by rw [e158]; exact H)

/-! slices.IndexFunc[[]int,int] -/
def t159 (P : Program) (s0_1 : Value) (f1_1 : Value) (h : Heap) (K : Value → Heap → Prop) : Prop :=
  pop P (lenS 25 3 s0_1) fun t7_1 =>
  ∃ (I_1 : List Value → Heap → Prop) (μ_1 : List Value → Heap → Nat), I_1 [(Value.int IntKind.i64 0)] h ∧
  ∀ (junk_1 : Nat → Value) (t8_1 : Value) (h_1 : Heap), I_1 [t8_1] h_1 →
  pop P (binA .lss 3 t8_1 t7_1) fun t9_1 =>
  condM t9_1
  (pop P (Instr.indexAt 25 s0_1 t8_1) fun t14_1 =>
  rop P (Instr.loadAt 3 t14_1) h_1 fun t15_1 =>
  callV P f1_1 [t15_1] h_1 fun t16_1 h_2 =>
  condM t16_1
  (K t8_1 h_2)
  (pop P (binA .add 3 t8_1 (Value.int IntKind.i64 1)) fun t18_1 =>
  I_1 [t18_1] h_2 ∧ μ_1 [t18_1] h_2 < μ_1 [t8_1] h_1))
  (K (Value.int IntKind.i64 (-1)) h_1)
theorem e159 (s0_1 : Value) (f1_1 : Value) (h : Heap) (K : Value → Heap → Prop) : wpA Try.prog 19 (anOf [(26, [8])]) (bodyOf Try.f159) 1 (fun A h => resA Try.prog A h K [.tmp 4]) (fun _ _ _ => False) (fun A h => resA Try.prog A h K [.tmp 4]) (aargs [s0_1, f1_1] 0) h = t159 Try.prog s0_1 f1_1 h K := by kernel_rfl
theorem c159 (s0_1 : Value) (f1_1 : Value) (h : Heap) (K : Value → Heap → Prop) (H : t159 Try.prog s0_1 f1_1 h K) : callM Try.prog 159 #[s0_1, f1_1] h K :=
  callM_of_wpA mixed (fn := Try.f159) Try.func159 (c := bodyOf Try.f159) rfl (of_decide_eq_true (by kernel_rfl)) (anOf [(26, [8])]) 17 19 (by kernel_rfl) rfl [.tmp 4] (by kernel_rfl) (args := [s0_1, f1_1]) (by rw [e159]; exact H)

/-! (impl.Graph).leadsTo -/
def t160 (P : Program) (g0_1 : Value) (p1_1 : Value) (h : Heap) (K : Value → Heap → Prop) : Prop :=
  eop P (Instr.box 32 g0_1) h fun g2_1 h_1 =>
  pop P (Instr.fieldAt 32 g2_1 0) fun t6_1 =>
  rop P (Instr.loadAt 22 t6_1) h_1 fun t7_1 =>
  pop P (lenS 22 3 t7_1) fun t8_1 =>
  ∃ (I_1 : List Value → Heap → Prop) (μ_1 : List Value → Heap → Nat), I_1 [(Value.int IntKind.i64 0)] h_1 ∧
  ∀ (junk_1 : Nat → Value) (t9_1 : Value) (h_2 : Heap), I_1 [t9_1] h_2 →
  pop P (binA .lss 3 t9_1 t8_1) fun t10_1 =>
  condM t10_1
  (rop P (Instr.loadAt 32 g2_1) h_2 fun t12_1 =>
  callM P 187 #[t12_1, t9_1] h_2 fun t14_1 h_3 =>
  pop P (Instr.indexAt 25 t14_1 p1_1) fun t16_1 =>
  rop P (Instr.loadAt 3 t16_1) h_3 fun t17_1 =>
  pop P (binA .lss 3 t17_1 (Value.int IntKind.i64 0)) fun t18_1 =>
  condM t18_1
  (K (Value.bool false) h_3)
  (pop P (binA .add 3 t9_1 (Value.int IntKind.i64 1)) fun t19_1 =>
  I_1 [t19_1] h_3 ∧ μ_1 [t19_1] h_3 < μ_1 [t9_1] h_2))
  (K (Value.bool true) h_2)
theorem e160 (g0_1 : Value) (p1_1 : Value) (h : Heap) (K : Value → Heap → Prop) : wpA Try.prog 20 (anOf [(26, [9])]) (bodyOf Try.f160) 1 (fun A h => resA Try.prog A h K [.tmp 4]) (fun _ _ _ => False) (fun A h => resA Try.prog A h K [.tmp 4]) (aargs [g0_1, p1_1] 0) h = t160 Try.prog g0_1 p1_1 h K := by kernel_rfl
theorem c160 (g0_1 : Value) (p1_1 : Value) (h : Heap) (K : Value → Heap → Prop) (H : t160 Try.prog g0_1 p1_1 h K) : callM Try.prog 160 #[g0_1, p1_1] h K :=
  callM_of_wpA mixed (fn := Try.f160) Try.func160 (c := bodyOf Try.f160) rfl (of_decide_eq_true (by kernel_rfl)) (anOf [(26, [9])]) 18 20 (by kernel_rfl) rfl [.tmp 4] (by kernel_rfl) (args := [g0_1, p1_1]) (by rw [e160]; exact H)

/-! impl.has$1 -/
def t161 (P : Program) (p0_1 : Value) (t1_1 : Value) (h : Heap) (K : Value → Heap → Prop) : Prop :=
  pop P (Instr.fieldAt 32 t1_1 0) fun t5_1 =>
  rop P (Instr.loadAt 22 t5_1) h fun t6_1 =>
  pop P (lenS 22 3 t6_1) fun t7_1 =>
  pop P (binA .sub 3 t7_1 (Value.int IntKind.i64 1)) fun t8_1 =>
  callM P 113 #[p0_1, (Value.int IntKind.i64 0), t8_1] h fun t9_1 h_1 =>
  pop P (Op.unary .not t9_1) fun t10_1 =>
  K t10_1 h_1
theorem e161 (p0_1 : Value) (t1_1 : Value) (h : Heap) (K : Value → Heap → Prop) : wpA Try.prog 11 (anOf []) (bodyOf Try.f161) 1 (fun A h => resA Try.prog A h K [.tmp 3]) (fun _ _ _ => False) (fun A h => resA Try.prog A h K [.tmp 3]) (aargs [p0_1, t1_1] 0) h = t161 Try.prog p0_1 t1_1 h K := by kernel_rfl
theorem c161 (p0_1 : Value) (t1_1 : Value) (h : Heap) (K : Value → Heap → Prop) (H : t161 Try.prog p0_1 t1_1 h K) : callM Try.prog 161 #[p0_1, t1_1] h K :=
  callM_of_wpA mixed (fn := Try.f161) Try.func161 (c := bodyOf Try.f161) rfl (of_decide_eq_true (by kernel_rfl)) (anOf []) 9 11 (by kernel_rfl) rfl [.tmp 3] (by kernel_rfl) (args := [p0_1, t1_1]) (by rw [e161]; exact H)

/-! spec.grLeads -/
def t162 (P : Program) (g0_1 : Value) (p1_1 : Value) (h : Heap) (K : Value → Heap → Prop) : Prop :=
  eop P (Instr.box 32 g0_1) h fun g2_1 h_1 =>
  pop P (Instr.fieldAt 32 g2_1 0) fun t6_1 =>
  rop P (Instr.loadAt 22 t6_1) h_1 fun t7_1 =>
  pop P (lenS 22 3 t7_1) fun t8_1 =>
  ∃ (I_1 : List Value → Heap → Prop) (μ_1 : List Value → Heap → Nat), I_1 [(Value.int IntKind.i64 0)] h_1 ∧
  ∀ (junk_1 : Nat → Value) (t9_1 : Value) (h_2 : Heap), I_1 [t9_1] h_2 →
  pop P (binA .lss 3 t9_1 t8_1) fun t10_1 =>
  condM t10_1
  (rop P (Instr.loadAt 32 g2_1) h_2 fun t12_1 =>
  callM P 186 #[t12_1, t9_1] h_2 fun t14_1 h_3 =>
  pop P (Instr.indexAt 25 t14_1 p1_1) fun t16_1 =>
  rop P (Instr.loadAt 3 t16_1) h_3 fun t17_1 =>
  pop P (binA .lss 3 t17_1 (Value.int IntKind.i64 0)) fun t18_1 =>
  condM t18_1
  (K (Value.bool false) h_3)
  (pop P (binA .add 3 t9_1 (Value.int IntKind.i64 1)) fun t19_1 =>
  I_1 [t19_1] h_3 ∧ μ_1 [t19_1] h_3 < μ_1 [t9_1] h_2))
  (K (Value.bool true) h_2)
theorem e162 (g0_1 : Value) (p1_1 : Value) (h : Heap) (K : Value → Heap → Prop) : wpA Try.prog 20 (anOf [(26, [9])]) (bodyOf Try.f162) 1 (fun A h => resA Try.prog A h K [.tmp 4]) (fun _ _ _ => False) (fun A h => resA Try.prog A h K [.tmp 4]) (aargs [g0_1, p1_1] 0) h = t162 Try.prog g0_1 p1_1 h K := by kernel_rfl
theorem c162 (g0_1 : Value) (p1_1 : Value) (h : Heap) (K : Value → Heap → Prop) (H : t162 Try.prog g0_1 p1_1 h K) : callM Try.prog 162 #[g0_1, p1_1] h K :=
  callM_of_wpA mixed (fn := Try.f162) Try.func162 (c := bodyOf Try.f162) rfl (of_decide_eq_true (by kernel_rfl)) (anOf [(26, [9])]) 18 20 (by kernel_rfl) rfl [.tmp 4] (by kernel_rfl) (args := [g0_1, p1_1]) (by rw [e162]; exact H)

/-! (*spec.l1Cur).sureGraph -/
def t163 (P : Program) (c0_1 : Value) (most1_1 : Value) (h : Heap) (K : Value → Heap → Prop) : Prop :=
  eop P (Instr.alloc 32 true (.tuple #[])) h fun t4_1 h_1 =>
  callM P 100 #[c0_1, most1_1] h_1 fun t13_1 h_2 =>
  pop P (binA .add 3 (Value.int IntKind.i64 1) t13_1) fun t14_1 =>
  callM P 99 #[c0_1, (Value.int IntKind.i64 4)] h_2 fun t16_1 h_3 =>
  condM t16_1
  (callM P 99 #[c0_1, (Value.int IntKind.i64 2)] h_3 fun t19_1 h_4 =>
  callM P 124 #[t14_1, t19_1] h_4 fun t20_1 h_5 =>
  uop P (Instr.storeAt 32 t4_1 t20_1) h_5 fun u_1 h_6 =>
  rop P (Instr.loadAt 32 t4_1) h_6 fun r_1 =>
  K r_1 h_6)
  (pop P (Instr.build 32 #[]) fun t21_1 =>
  eop P (Instr.alloc 32 true (.tuple #[])) h_3 fun g6_1 h_7 =>
  uop P (Instr.storeAt 32 g6_1 t21_1) h_7 fun u_2 h_8 =>
  ∃ (I_1 : List Value → Heap → Prop) (μ_1 : List Value → Heap → Nat), I_1 [(Value.int IntKind.i64 0)] h_8 ∧
  ∀ (junk_1 : Nat → Value) (p7_1 : Value) (h_9 : Heap), I_1 [p7_1] h_9 →
  pop P (binA .lss 3 p7_1 t14_1) fun t24_1 =>
  condM t24_1
  (callM P 100 #[c0_1, (Value.int IntKind.i64 3)] h_9 fun t28_1 h_10 =>
  pop P (binA .add 3 (Value.int IntKind.i64 1) t28_1) fun t29_1 =>
  ∃ (I_2 : List Value → Heap → Prop) (μ_2 : List Value → Heap → Nat), I_2 [(Value.slice none 0 0), t29_1] h_10 ∧
  ∀ (junk_2 : Nat → Value) (list8_1 : Value) (k9_1 : Value) (h_11 : Heap), I_2 [list8_1, k9_1] h_11 →
  pop P (binA .gtr 3 k9_1 (Value.int IntKind.i64 0)) fun t31_1 =>
  condM t31_1
  (callM P 100 #[c0_1, t14_1] h_11 fun t37_1 h_12 =>
  eop P (Instr.buildSlice 25 1 #[(0, t37_1)]) h_12 fun t38_1 h_13 =>
  eop P (appS 25 25 25 list8_1 t38_1) h_13 fun t39_1 h_14 =>
  pop P (binA .sub 3 k9_1 (Value.int IntKind.i64 1)) fun t33_1 =>
  I_2 [t39_1, t33_1] h_14 ∧ μ_2 [t39_1, t33_1] h_14 < μ_2 [list8_1, k9_1] h_11)
  (∃ J_1 : List Value → Heap → Prop, (callM P 99 #[c0_1, (Value.int IntKind.i64 8)] h_11 fun t41_1 h_15 =>
  condM t41_1
  (J_1 [(Value.slice none 0 0)] h_15)
  (J_1 [list8_1] h_15)) ∧
  ∀ (junk_3 : Nat → Value) (list8_2 : Value) (h_16 : Heap), J_1 [list8_2] h_16 →
  pop P (Instr.fieldAt 32 g6_1 0) fun t42_1 =>
  rop P (Instr.loadAt 22 t42_1) h_16 fun t43_1 =>
  eop P (Instr.buildSlice 22 1 #[(0, list8_2)]) h_16 fun t45_1 h_17 =>
  eop P (appS 22 22 22 t43_1 t45_1) h_17 fun t46_1 h_18 =>
  pop P (Instr.fieldAt 32 g6_1 0) fun t47_1 =>
  uop P (Instr.storeAt 22 t47_1 t46_1) h_18 fun u_3 h_19 =>
  pop P (binA .add 3 p7_1 (Value.int IntKind.i64 1)) fun t26_1 =>
  I_1 [t26_1] h_19 ∧ μ_1 [t26_1] h_19 < μ_1 [p7_1] h_9))
  (callM P 99 #[c0_1, (Value.int IntKind.i64 2)] h_9 fun t49_1 h_20 =>
  condM t49_1
  (pop P (Instr.fieldAt 32 g6_1 0) fun t50_1 =>
  rop P (Instr.loadAt 22 t50_1) h_20 fun t51_1 =>
  pop P (lenS 22 3 t51_1) fun t52_1 =>
  ∃ (I_3 : List Value → Heap → Prop) (μ_3 : List Value → Heap → Nat), I_3 [(Value.int IntKind.i64 0)] h_20 ∧
  ∀ (junk_4 : Nat → Value) (t53_1 : Value) (h_21 : Heap), I_3 [t53_1] h_21 →
  pop P (binA .lss 3 t53_1 t52_1) fun t54_1 =>
  condM t54_1
  (pop P (Instr.fieldAt 32 g6_1 0) fun t56_1 =>
  rop P (Instr.loadAt 22 t56_1) h_21 fun t57_1 =>
  pop P (Instr.fieldAt 32 g6_1 0) fun t59_1 =>
  rop P (Instr.loadAt 22 t59_1) h_21 fun t60_1 =>
  pop P (Instr.indexAt 22 t60_1 t53_1) fun t62_1 =>
  rop P (Instr.loadAt 25 t62_1) h_21 fun t63_1 =>
  pop P (binA .add 3 t53_1 (Value.int IntKind.i64 1)) fun t65_1 =>
  pop P (binA .rem 3 t65_1 t14_1) fun t67_1 =>
  eop P (Instr.buildSlice 25 1 #[(0, t67_1)]) h_21 fun t68_1 h_22 =>
  (∀ w : World, w.heap = h_22 → (Instr.loadAt 25 t62_1).run P w = .ok t63_1 w) ∧
  (∀ w : World, w.heap = h_22 → (Instr.loadAt 22 t59_1).run P w = .ok t60_1 w) ∧
  (∀ w : World, w.heap = h_22 → (Instr.loadAt 22 t56_1).run P w = .ok t57_1 w) ∧
  eop P (appS 25 25 25 t63_1 t68_1) h_22 fun t69_1 h_23 =>
  (∀ w : World, w.heap = h_23 → (Instr.loadAt 22 t59_1).run P w = .ok t60_1 w) ∧
  (∀ w : World, w.heap = h_23 → (Instr.loadAt 22 t56_1).run P w = .ok t57_1 w) ∧
  pop P (Instr.indexAt 22 t57_1 t53_1) fun t70_1 =>
  uop P (Instr.storeAt 25 t70_1 t69_1) h_23 fun u_4 h_24 =>
  pop P (binA .add 3 t53_1 (Value.int IntKind.i64 1)) fun t71_1 =>
  I_3 [t71_1] h_24 ∧ μ_3 [t71_1] h_24 < μ_3 [t53_1] h_21)
  (rop P (Instr.loadAt 32 g6_1) h_21 fun t72_1 =>
  uop P (Instr.storeAt 32 t4_1 t72_1) h_21 fun u_5 h_25 =>
  rop P (Instr.loadAt 32 t4_1) h_25 fun r_2 =>
  K r_2 h_25))
  (rop P (Instr.loadAt 32 g6_1) h_20 fun t72_2 =>
  uop P (Instr.storeAt 32 t4_1 t72_2) h_20 fun u_6 h_26 =>
  rop P (Instr.loadAt 32 t4_1) h_26 fun r_3 =>
  K r_3 h_26)))
theorem e163 (c0_1 : Value) (most1_1 : Value) (h : Heap) (K : Value → Heap → Prop) : wpA Try.prog 73 (anOf [(250, [7]), (2026, [53]), (16019, [8]), (64074, [8, 9])]) (bodyOf Try.f163) 1 (fun A h => resA Try.prog A h K [.cell 4 32]) (fun _ _ _ => False) (fun A h => resA Try.prog A h K [.cell 4 32]) (aargs [c0_1, most1_1] 0) h = t163 Try.prog c0_1 most1_1 h K := by kernel_rfl
theorem c163 (c0_1 : Value) (most1_1 : Value) (h : Heap) (K : Value → Heap → Prop) (H : t163 Try.prog c0_1 most1_1 h K) : callM Try.prog 163 #[c0_1, most1_1] h K :=
  callM_of_wpA mixed (fn := Try.f163) Try.func163 (c := bodyOf Try.f163) rfl (of_decide_eq_true (by kernel_rfl)) (anOf [(250, [7]), (2026, [53]), (16019, [8]), (64074, [8, 9])]) 71 73 (by kernel_rfl) rfl [.cell 4 32] (by kernel_rfl) (args := [c0_1, most1_1]) (by rw [e163]; exact H)

/-! spec.grGood -/
def t165 (P : Program) (g0_1 : Value) (h : Heap) (K : Value → Heap → Prop) : Prop :=
  eop P (Instr.box 32 g0_1) h fun g1_1 h_1 =>
  pop P (Instr.fieldAt 32 g1_1 0) fun t6_1 =>
  rop P (Instr.loadAt 22 t6_1) h_1 fun t7_1 =>
  pop P (lenS 22 3 t7_1) fun t8_1 =>
  callM P 117 #[t8_1, (Value.int IntKind.i64 1), (Value.int IntKind.i64 8)] h_1 fun t10_1 h_2 =>
  pop P (Op.unary .not t10_1) fun t11_1 =>
  condM t11_1
  (K (Value.bool false) h_2)
  (pop P (Instr.fieldAt 32 g1_1 0) fun t12_1 =>
  rop P (Instr.loadAt 22 t12_1) h_2 fun t13_1 =>
  pop P (lenS 22 3 t13_1) fun t14_1 =>
  ∃ (I_1 : List Value → Heap → Prop) (μ_1 : List Value → Heap → Nat), I_1 [(Value.int IntKind.i64 0)] h_2 ∧
  ∀ (junk_1 : Nat → Value) (t15_1 : Value) (h_3 : Heap), I_1 [t15_1] h_3 →
  pop P (binA .lss 3 t15_1 t14_1) fun t16_1 =>
  condM t16_1
  (pop P (Instr.indexAt 22 t13_1 t15_1) fun t17_1 =>
  rop P (Instr.loadAt 25 t17_1) h_3 fun t18_1 =>
  pop P (lenS 25 3 t18_1) fun t20_1 =>
  pop P (binA .gtr 3 t20_1 (Value.int IntKind.i64 5)) fun t21_1 =>
  guardM t21_1 false (fun k_1 => k_1 t18_1 h_3) h_3 fun t23_1 h_4 =>
  guardM t21_1 false (fun k_2 => k_2 t8_1 h_4) h_4 fun t24_1 h_5 =>
  guardM t21_1 false (fun k_3 => pop P (binA .sub 3 t24_1 (Value.int IntKind.i64 1)) fun t25_1 =>
  k_3 t25_1 h_5) h_5 fun t25_2 h_6 =>
  guardM t21_1 false (fun k_4 => callM P 104 #[t23_1, (Value.int IntKind.i64 0), t25_2] h_6 fun t26_1 h_7 =>
  k_4 t26_1 h_7) h_6 fun t26_2 h_8 =>
  guardM t21_1 false (fun k_5 => pop P (Op.unary .not t26_2) fun t27_1 =>
  k_5 t27_1 h_8) h_8 fun t27_2 h_9 =>
  pop P (pickS t21_1 (Value.bool true) t27_2) fun t28_1 =>
  condM t28_1
  (K (Value.bool false) h_9)
  (pop P (binA .add 3 t15_1 (Value.int IntKind.i64 1)) fun t29_1 =>
  I_1 [t29_1] h_9 ∧ μ_1 [t29_1] h_9 < μ_1 [t15_1] h_3))
  (K (Value.bool true) h_3))
theorem e165 (g0_1 : Value) (h : Heap) (K : Value → Heap → Prop) : wpA Try.prog 30 (anOf [(122, [15])]) (bodyOf Try.f165) 1 (fun A h => resA Try.prog A h K [.tmp 2]) (fun _ _ _ => False) (fun A h => resA Try.prog A h K [.tmp 2]) (aargs [g0_1] 0) h = t165 Try.prog g0_1 h K := by kernel_rfl
theorem c165 (g0_1 : Value) (h : Heap) (K : Value → Heap → Prop) (H : t165 Try.prog g0_1 h K) : callM Try.prog 165 #[g0_1] h K :=
  callM_of_wpA mixed (fn := Try.f165) Try.func165 (c := bodyOf Try.f165) rfl (of_decide_eq_true (by kernel_rfl)) (anOf [(122, [15])]) 29 30 (by kernel_rfl) rfl [.tmp 2] (by kernel_rfl) (args := [g0_1]) (by rw [e165]; exact H)

/-! spec.l1Most -/
def t173 (P : Program) (a0_1 : Value) (b1_1 : Value) (h : Heap) (K : Value → Heap → Prop) : Prop :=
  pop P (binA .gtr 3 a0_1 b1_1) fun t7_1 =>
  condM t7_1
  (K a0_1 h)
  (K b1_1 h)
theorem e173 (a0_1 : Value) (b1_1 : Value) (h : Heap) (K : Value → Heap → Prop) : wpA Try.prog 10 (anOf []) (bodyOf Try.f173) 1 (fun A h => resA Try.prog A h K [.tmp 4]) (fun _ _ _ => False) (fun A h => resA Try.prog A h K [.tmp 4]) (aargs [a0_1, b1_1] 0) h = t173 Try.prog a0_1 b1_1 h K := by kernel_rfl
theorem c173 (a0_1 : Value) (b1_1 : Value) (h : Heap) (K : Value → Heap → Prop) (H : t173 Try.prog a0_1 b1_1 h K) : callM Try.prog 173 #[a0_1, b1_1] h K :=
  callM_of_wpA mixed (fn := Try.f173) Try.func173 (c := bodyOf Try.f173) rfl (of_decide_eq_true (by kernel_rfl)) (anOf []) 8 10 (by kernel_rfl) rfl [.tmp 4] (by kernel_rfl) (args := [a0_1, b1_1]) (by rw [e173]; exact H)

/-! impl.isWalk -/
def t174 (P : Program) (g0_1 : Value) (w1_1 : Value) (h : Heap) (K : Value → Heap → Prop) : Prop :=
  eop P (Instr.box 32 g0_1) h fun g2_1 h_1 =>
  eop P (Instr.box 132 w1_1) h_1 fun w3_1 h_2 =>
  rop P (Instr.loadAt 32 g2_1) h_2 fun t7_1 =>
  pop P (Instr.fieldAt 132 w3_1 1) fun t8_1 =>
  rop P (Instr.loadAt 3 t8_1) h_2 fun t9_1 =>
  eop P (Instr.buildSlice 25 1 #[(0, t9_1)]) h_2 fun t10_1 h_3 =>
  callM P 107 #[t7_1, t10_1] h_3 fun t11_1 h_4 =>
  pop P (Op.unary .not t11_1) fun t12_1 =>
  guardM t12_1 false (fun k_1 => pop P (Instr.fieldAt 132 w3_1 0) fun t14_1 =>
  k_1 t14_1 h_4) h_4 fun t14_2 h_5 =>
  guardM t12_1 false (fun k_2 => rop P (Instr.loadAt 25 t14_2) h_5 fun t15_1 =>
  k_2 t15_1 h_5) h_5 fun t15_2 h_6 =>
  guardM t12_1 false (fun k_3 => pop P (lenS 25 3 t15_2) fun t16_1 =>
  k_3 t16_1 h_6) h_6 fun t16_2 h_7 =>
  guardM t12_1 false (fun k_4 => pop P (Instr.fieldAt 32 g2_1 0) fun t17_1 =>
  k_4 t17_1 h_7) h_7 fun t17_2 h_8 =>
  guardM t12_1 false (fun k_5 => rop P (Instr.loadAt 22 t17_2) h_8 fun t18_1 =>
  k_5 t18_1 h_8) h_8 fun t18_2 h_9 =>
  guardM t12_1 false (fun k_6 => pop P (lenS 22 3 t18_2) fun t19_1 =>
  k_6 t19_1 h_9) h_9 fun t19_2 h_10 =>
  guardM t12_1 false (fun k_7 => pop P (binE .neq 3 (.tmp 16) (.tmp 19) t16_2 t19_2) fun t20_1 =>
  k_7 t20_1 h_10) h_10 fun t20_2 h_11 =>
  pop P (pickS t12_1 (Value.bool true) t20_2) fun t21_1 =>
  condM t21_1
  (K (Value.bool false) h_11)
  (pop P (Instr.fieldAt 132 w3_1 0) fun t22_1 =>
  rop P (Instr.loadAt 25 t22_1) h_11 fun t23_1 =>
  pop P (lenS 25 3 t23_1) fun t24_1 =>
  ∃ (I_1 : List Value → Heap → Prop) (μ_1 : List Value → Heap → Nat), I_1 [(Value.int IntKind.i64 0)] h_11 ∧
  ∀ (junk_1 : Nat → Value) (t25_1 : Value) (h_12 : Heap), I_1 [t25_1] h_12 →
  pop P (binA .lss 3 t25_1 t24_1) fun t26_1 =>
  condM t26_1
  (pop P (Instr.indexAt 25 t23_1 t25_1) fun t28_1 =>
  rop P (Instr.loadAt 3 t28_1) h_12 fun t29_1 =>
  pop P (Instr.fieldAt 32 g2_1 0) fun t31_1 =>
  rop P (Instr.loadAt 22 t31_1) h_12 fun t32_1 =>
  pop P (Instr.indexAt 22 t32_1 t25_1) fun t34_1 =>
  rop P (Instr.loadAt 25 t34_1) h_12 fun t35_1 =>
  pop P (lenS 25 3 t35_1) fun t36_1 =>
  pop P (binA .sub 3 t36_1 (Value.int IntKind.i64 1)) fun t37_1 =>
  pop P (Builtin.max_ #[3, 3] 3 #[t37_1, (Value.int IntKind.i64 0)]) fun t38_1 =>
  callM P 113 #[t29_1, (Value.int IntKind.i64 0), t38_1] h_12 fun t39_1 h_13 =>
  pop P (Op.unary .not t39_1) fun t40_1 =>
  condM t40_1
  (K (Value.bool false) h_13)
  (pop P (binA .add 3 t25_1 (Value.int IntKind.i64 1)) fun t41_1 =>
  I_1 [t41_1] h_13 ∧ μ_1 [t41_1] h_13 < μ_1 [t25_1] h_12))
  (K (Value.bool true) h_12))
theorem e174 (g0_1 : Value) (w1_1 : Value) (h : Heap) (K : Value → Heap → Prop) : wpA Try.prog 42 (anOf [(58, [25])]) (bodyOf Try.f174) 1 (fun A h => resA Try.prog A h K [.tmp 4]) (fun _ _ _ => False) (fun A h => resA Try.prog A h K [.tmp 4]) (aargs [g0_1, w1_1] 0) h = t174 Try.prog g0_1 w1_1 h K := by kernel_rfl
theorem c174 (g0_1 : Value) (w1_1 : Value) (h : Heap) (K : Value → Heap → Prop) (H : t174 Try.prog g0_1 w1_1 h K) : callM Try.prog 174 #[g0_1, w1_1] h K :=
  callM_of_wpA mixed (fn := Try.f174) Try.func174 (c := bodyOf Try.f174) rfl (of_decide_eq_true (by kernel_rfl)) (anOf [(58, [25])]) 40 42 (by kernel_rfl) rfl [.tmp 4] (by kernel_rfl) (args := [g0_1, w1_1]) (by rw [e174]; exact H)

/-! impl.areChips$1 -/
def t175 (P : Program) (n0_1 : Value) (h : Heap) (K : Value → Heap → Prop) : Prop :=
  callM P 113 #[n0_1, (Value.int IntKind.i64 0), (Value.int IntKind.i64 20)] h fun t4_1 h_1 =>
  pop P (Op.unary .not t4_1) fun t5_1 =>
  K t5_1 h_1
theorem e175 (n0_1 : Value) (h : Heap) (K : Value → Heap → Prop) : wpA Try.prog 6 (anOf []) (bodyOf Try.f175) 1 (fun A h => resA Try.prog A h K [.tmp 2]) (fun _ _ _ => False) (fun A h => resA Try.prog A h K [.tmp 2]) (aargs [n0_1] 0) h = t175 Try.prog n0_1 h K := by kernel_rfl
theorem c175 (n0_1 : Value) (h : Heap) (K : Value → Heap → Prop) (H : t175 Try.prog n0_1 h K) : callM Try.prog 175 #[n0_1] h K :=
  callM_of_wpA mixed (fn := Try.f175) Try.func175 (c := bodyOf Try.f175) rfl (of_decide_eq_true (by kernel_rfl)) (anOf []) 5 6 (by kernel_rfl) rfl [.tmp 2] (by kernel_rfl) (args := [n0_1]) (by rw [e175]; exact H)

/-! (impl.Graph).step -/
def t176 (P : Program) (g0_1 : Value) (w1_1 : Value) (h : Heap) (K : Value → Heap → Prop) : Prop :=
  eop P (Instr.box 32 g0_1) h fun g2_1 h_1 =>
  pop P (Instr.fieldAt 32 g2_1 0) fun t6_1 =>
  rop P (Instr.loadAt 22 t6_1) h_1 fun t7_1 =>
  pop P (nilS w1_1) fun t9_1 =>
  pop P (Instr.fieldAt 132 t9_1 1) fun t10_1 =>
  rop P (Instr.loadAt 3 t10_1) h_1 fun t11_1 =>
  pop P (Instr.indexAt 22 t7_1 t11_1) fun t12_1 =>
  rop P (Instr.loadAt 25 t12_1) h_1 fun t13_1 =>
  pop P (lenS 25 3 t13_1) fun t15_1 =>
  pop P (binE .eql 3 (.tmp 15) (.const (Value.int IntKind.i64 0)) t15_1 (Value.int IntKind.i64 0)) fun t16_1 =>
  condM t16_1
  (K (Value.bool false) h_1)
  (pop P (nilS w1_1) fun t18_1 =>
  pop P (Instr.fieldAt 132 t18_1 0) fun t19_1 =>
  rop P (Instr.loadAt 25 t19_1) h_1 fun t20_1 =>
  pop P (nilS w1_1) fun t22_1 =>
  pop P (Instr.fieldAt 132 t22_1 1) fun t23_1 =>
  rop P (Instr.loadAt 3 t23_1) h_1 fun t24_1 =>
  pop P (nilS w1_1) fun t26_1 =>
  pop P (Instr.fieldAt 132 t26_1 0) fun t27_1 =>
  rop P (Instr.loadAt 25 t27_1) h_1 fun t28_1 =>
  pop P (nilS w1_1) fun t30_1 =>
  pop P (Instr.fieldAt 132 t30_1 1) fun t31_1 =>
  rop P (Instr.loadAt 3 t31_1) h_1 fun t32_1 =>
  pop P (Instr.indexAt 25 t28_1 t32_1) fun t33_1 =>
  rop P (Instr.loadAt 3 t33_1) h_1 fun t34_1 =>
  pop P (binA .add 3 t34_1 (Value.int IntKind.i64 1)) fun t35_1 =>
  pop P (lenS 25 3 t13_1) fun t37_1 =>
  pop P (binA .rem 3 t35_1 t37_1) fun t38_1 =>
  pop P (Instr.indexAt 25 t20_1 t24_1) fun t39_1 =>
  uop P (Instr.storeAt 3 t39_1 t38_1) h_1 fun u_1 h_2 =>
  pop P (nilS w1_1) fun t43_1 =>
  pop P (Instr.fieldAt 132 t43_1 0) fun t44_1 =>
  rop P (Instr.loadAt 25 t44_1) h_2 fun t45_1 =>
  pop P (nilS w1_1) fun t47_1 =>
  pop P (Instr.fieldAt 132 t47_1 1) fun t48_1 =>
  rop P (Instr.loadAt 3 t48_1) h_2 fun t49_1 =>
  pop P (Instr.indexAt 25 t45_1 t49_1) fun t50_1 =>
  rop P (Instr.loadAt 3 t50_1) h_2 fun t51_1 =>
  pop P (Instr.indexAt 25 t13_1 t51_1) fun t52_1 =>
  rop P (Instr.loadAt 3 t52_1) h_2 fun t53_1 =>
  pop P (nilS w1_1) fun t54_1 =>
  pop P (Instr.fieldAt 132 t54_1 1) fun t55_1 =>
  uop P (Instr.storeAt 3 t55_1 t53_1) h_2 fun u_2 h_3 =>
  K (Value.bool true) h_3)
theorem e176 (g0_1 : Value) (w1_1 : Value) (h : Heap) (K : Value → Heap → Prop) : wpA Try.prog 56 (anOf []) (bodyOf Try.f176) 1 (fun A h => resA Try.prog A h K [.tmp 4]) (fun _ _ _ => False) (fun A h => resA Try.prog A h K [.tmp 4]) (aargs [g0_1, w1_1] 0) h = t176 Try.prog g0_1 w1_1 h K := by kernel_rfl
theorem c176 (g0_1 : Value) (w1_1 : Value) (h : Heap) (K : Value → Heap → Prop) (H : t176 Try.prog g0_1 w1_1 h K) : callM Try.prog 176 #[g0_1, w1_1] h K :=
  callM_of_wpA mixed (fn := Try.f176) Try.func176 (c := bodyOf Try.f176) rfl (of_decide_eq_true (by kernel_rfl)) (anOf []) 54 56 (by kernel_rfl) rfl [.tmp 4] (by kernel_rfl) (args := [g0_1, w1_1]) (by rw [e176]; exact H)

/-! spec.grFar -/
def t186 (P : Program) (g0_1 : Value) (p1_1 : Value) (h : Heap) (K : Value → Heap → Prop) : Prop :=
  eop P (Instr.box 32 g0_1) h fun g2_1 h_1 =>
  pop P (Instr.fieldAt 32 g2_1 0) fun t11_1 =>
  rop P (Instr.loadAt 22 t11_1) h_1 fun t12_1 =>
  pop P (lenS 22 3 t12_1) fun t13_1 =>
  eop P (Instr.makeSlice 25 t13_1 t13_1) h_1 fun t14_1 h_2 =>
  pop P (lenS 25 3 t14_1) fun t16_1 =>
  ∃ (I_1 : List Value → Heap → Prop) (μ_1 : List Value → Heap → Nat), I_1 [(Value.int IntKind.i64 0)] h_2 ∧
  ∀ (junk_1 : Nat → Value) (t17_1 : Value) (h_3 : Heap), I_1 [t17_1] h_3 →
  pop P (binA .lss 3 t17_1 t16_1) fun t18_1 =>
  condM t18_1
  (pop P (Instr.indexAt 25 t14_1 t17_1) fun t22_1 =>
  uop P (Instr.storeAt 3 t22_1 (Value.int IntKind.i64 (-1))) h_3 fun u_1 h_4 =>
  pop P (binA .add 3 t17_1 (Value.int IntKind.i64 1)) fun t23_1 =>
  I_1 [t23_1] h_4 ∧ μ_1 [t23_1] h_4 < μ_1 [t17_1] h_3)
  (pop P (Instr.indexAt 25 t14_1 p1_1) fun t26_1 =>
  uop P (Instr.storeAt 3 t26_1 (Value.int IntKind.i64 0)) h_3 fun u_2 h_5 =>
  eop P (Instr.buildSlice 25 1 #[(0, p1_1)]) h_5 fun t28_1 h_6 =>
  ∃ (I_2 : List Value → Heap → Prop) (μ_2 : List Value → Heap → Nat), I_2 [t28_1, (Value.int IntKind.i64 0)] h_6 ∧
  ∀ (junk_2 : Nat → Value) (queue7_1 : Value) (k8_1 : Value) (h_7 : Heap), I_2 [queue7_1, k8_1] h_7 →
  pop P (lenS 25 3 queue7_1) fun t31_1 =>
  pop P (binA .lss 3 k8_1 t31_1) fun t32_1 =>
  condM t32_1
  (pop P (Instr.fieldAt 32 g2_1 0) fun t35_1 =>
  rop P (Instr.loadAt 22 t35_1) h_7 fun t36_1 =>
  pop P (Instr.indexAt 25 queue7_1 k8_1) fun t39_1 =>
  rop P (Instr.loadAt 3 t39_1) h_7 fun t40_1 =>
  pop P (Instr.indexAt 22 t36_1 t40_1) fun t41_1 =>
  rop P (Instr.loadAt 25 t41_1) h_7 fun t42_1 =>
  pop P (lenS 25 3 t42_1) fun t43_1 =>
  ∃ (I_3 : List Value → Heap → Prop) (μ_3 : List Value → Heap → Nat), I_3 [queue7_1, (Value.int IntKind.i64 0)] h_7 ∧
  ∀ (junk_3 : Nat → Value) (queue7_2 : Value) (t44_1 : Value) (h_8 : Heap), I_3 [queue7_2, t44_1] h_8 →
  pop P (binA .lss 3 t44_1 t43_1) fun t45_1 =>
  condM t45_1
  (pop P (Instr.indexAt 25 t42_1 t44_1) fun t46_1 =>
  rop P (Instr.loadAt 3 t46_1) h_8 fun t47_1 =>
  pop P (Instr.indexAt 25 t14_1 t47_1) fun t50_1 =>
  rop P (Instr.loadAt 3 t50_1) h_8 fun t51_1 =>
  pop P (binA .lss 3 t51_1 (Value.int IntKind.i64 0)) fun t52_1 =>
  condM t52_1
  (pop P (Instr.indexAt 25 queue7_2 k8_1) fun t58_1 =>
  rop P (Instr.loadAt 3 t58_1) h_8 fun t59_1 =>
  pop P (Instr.indexAt 25 t14_1 t59_1) fun t60_1 =>
  rop P (Instr.loadAt 3 t60_1) h_8 fun t61_1 =>
  pop P (binA .add 3 t61_1 (Value.int IntKind.i64 1)) fun t62_1 =>
  pop P (Instr.indexAt 25 t14_1 t47_1) fun t63_1 =>
  uop P (Instr.storeAt 3 t63_1 t62_1) h_8 fun u_3 h_9 =>
  eop P (Instr.buildSlice 25 1 #[(0, t47_1)]) h_9 fun t66_1 h_10 =>
  eop P (appS 25 25 25 queue7_2 t66_1) h_10 fun t67_1 h_11 =>
  pop P (binA .add 3 t44_1 (Value.int IntKind.i64 1)) fun t68_1 =>
  I_3 [t67_1, t68_1] h_11 ∧ μ_3 [t67_1, t68_1] h_11 < μ_3 [queue7_2, t44_1] h_8)
  (pop P (binA .add 3 t44_1 (Value.int IntKind.i64 1)) fun t68_2 =>
  I_3 [queue7_2, t68_2] h_8 ∧ μ_3 [queue7_2, t68_2] h_8 < μ_3 [queue7_2, t44_1] h_8))
  (pop P (binA .add 3 k8_1 (Value.int IntKind.i64 1)) fun t34_1 =>
  I_2 [queue7_2, t34_1] h_8 ∧ μ_2 [queue7_2, t34_1] h_8 < μ_2 [queue7_1, k8_1] h_7))
  (K t14_1 h_7))
theorem e186 (g0_1 : Value) (p1_1 : Value) (h : Heap) (K : Value → Heap → Prop) : wpA Try.prog 70 (anOf [(58, [17]), (506, [7, 8]), (32402, [7, 44])]) (bodyOf Try.f186) 1 (fun A h => resA Try.prog A h K [.tmp 4]) (fun _ _ _ => False) (fun A h => resA Try.prog A h K [.tmp 4]) (aargs [g0_1, p1_1] 0) h = t186 Try.prog g0_1 p1_1 h K := by kernel_rfl
theorem c186 (g0_1 : Value) (p1_1 : Value) (h : Heap) (K : Value → Heap → Prop) (H : t186 Try.prog g0_1 p1_1 h K) : callM Try.prog 186 #[g0_1, p1_1] h K :=
  callM_of_wpA mixed (fn := Try.f186) Try.func186 (c := bodyOf Try.f186) rfl (of_decide_eq_true (by kernel_rfl)) (anOf [(58, [17]), (506, [7, 8]), (32402, [7, 44])]) 68 70 (by kernel_rfl) rfl [.tmp 4] (by kernel_rfl) (args := [g0_1, p1_1]) (by rw [e186]; exact H)

/-! (impl.Graph).lengths -/
def t187 (P : Program) (g0_1 : Value) (p1_1 : Value) (h : Heap) (K : Value → Heap → Prop) : Prop :=
  eop P (Instr.box 32 g0_1) h fun g2_1 h_1 =>
  eop P (Instr.buildSlice 25 1 #[(0, (Value.int IntKind.i64 (-1)))]) h_1 fun t9_1 h_2 =>
  pop P (Instr.fieldAt 32 g2_1 0) fun t10_1 =>
  rop P (Instr.loadAt 22 t10_1) h_2 fun t11_1 =>
  pop P (lenS 22 3 t11_1) fun t12_1 =>
  callM P 197 #[t9_1, t12_1] h_2 fun t13_1 h_3 =>
  pop P (Instr.indexAt 25 t13_1 p1_1) fun t16_1 =>
  uop P (Instr.storeAt 3 t16_1 (Value.int IntKind.i64 0)) h_3 fun u_1 h_4 =>
  eop P (Instr.buildSlice 25 1 #[(0, p1_1)]) h_4 fun t18_1 h_5 =>
  ∃ (I_1 : List Value → Heap → Prop) (μ_1 : List Value → Heap → Nat), I_1 [t18_1] h_5 ∧
  ∀ (junk_1 : Nat → Value) (list6_1 : Value) (h_6 : Heap), I_1 [list6_1] h_6 →
  pop P (lenS 25 3 list6_1) fun t20_1 =>
  pop P (binA .gtr 3 t20_1 (Value.int IntKind.i64 0)) fun t21_1 =>
  condM t21_1
  (pop P (Instr.fieldAt 32 g2_1 0) fun t24_1 =>
  rop P (Instr.loadAt 22 t24_1) h_6 fun t25_1 =>
  pop P (Instr.indexAt 25 list6_1 (Value.int IntKind.i64 0)) fun t27_1 =>
  rop P (Instr.loadAt 3 t27_1) h_6 fun t28_1 =>
  pop P (Instr.indexAt 22 t25_1 t28_1) fun t29_1 =>
  rop P (Instr.loadAt 25 t29_1) h_6 fun t30_1 =>
  pop P (lenS 25 3 t30_1) fun t31_1 =>
  ∃ (I_2 : List Value → Heap → Prop) (μ_2 : List Value → Heap → Nat), I_2 [list6_1, (Value.int IntKind.i64 0)] h_6 ∧
  ∀ (junk_2 : Nat → Value) (list6_2 : Value) (t32_1 : Value) (h_7 : Heap), I_2 [list6_2, t32_1] h_7 →
  pop P (binA .lss 3 t32_1 t31_1) fun t33_1 =>
  condM t33_1
  (pop P (Instr.indexAt 25 t30_1 t32_1) fun t34_1 =>
  rop P (Instr.loadAt 3 t34_1) h_7 fun t35_1 =>
  pop P (Instr.indexAt 25 t13_1 t35_1) fun t38_1 =>
  rop P (Instr.loadAt 3 t38_1) h_7 fun t39_1 =>
  pop P (binA .lss 3 t39_1 (Value.int IntKind.i64 0)) fun t40_1 =>
  condM t40_1
  (pop P (Instr.indexAt 25 list6_2 (Value.int IntKind.i64 0)) fun t45_1 =>
  rop P (Instr.loadAt 3 t45_1) h_7 fun t46_1 =>
  pop P (Instr.indexAt 25 t13_1 t46_1) fun t47_1 =>
  rop P (Instr.loadAt 3 t47_1) h_7 fun t48_1 =>
  pop P (binA .add 3 t48_1 (Value.int IntKind.i64 1)) fun t49_1 =>
  pop P (Instr.indexAt 25 t13_1 t35_1) fun t50_1 =>
  uop P (Instr.storeAt 3 t50_1 t49_1) h_7 fun u_2 h_8 =>
  eop P (Instr.buildSlice 25 1 #[(0, t35_1)]) h_8 fun t53_1 h_9 =>
  eop P (appS 25 25 25 list6_2 t53_1) h_9 fun t54_1 h_10 =>
  pop P (binA .add 3 t32_1 (Value.int IntKind.i64 1)) fun t55_1 =>
  I_2 [t54_1, t55_1] h_10 ∧ μ_2 [t54_1, t55_1] h_10 < μ_2 [list6_2, t32_1] h_7)
  (pop P (binA .add 3 t32_1 (Value.int IntKind.i64 1)) fun t55_2 =>
  I_2 [list6_2, t55_2] h_7 ∧ μ_2 [list6_2, t55_2] h_7 < μ_2 [list6_2, t32_1] h_7))
  (pop P (Instr.sliceAt 25 list6_2 (some (Value.int IntKind.i64 1)) none none) fun t23_1 =>
  I_1 [t23_1] h_7 ∧ μ_1 [t23_1] h_7 < μ_1 [list6_1] h_6))
  (K t13_1 h_6)
theorem e187 (g0_1 : Value) (p1_1 : Value) (h : Heap) (K : Value → Heap → Prop) : wpA Try.prog 57 (anOf [(122, [6]), (7826, [6, 32])]) (bodyOf Try.f187) 1 (fun A h => resA Try.prog A h K [.tmp 4]) (fun _ _ _ => False) (fun A h => resA Try.prog A h K [.tmp 4]) (aargs [g0_1, p1_1] 0) h = t187 Try.prog g0_1 p1_1 h K := by kernel_rfl
theorem c187 (g0_1 : Value) (p1_1 : Value) (h : Heap) (K : Value → Heap → Prop) (H : t187 Try.prog g0_1 p1_1 h K) : callM Try.prog 187 #[g0_1, p1_1] h K :=
  callM_of_wpA mixed (fn := Try.f187) Try.func187 (c := bodyOf Try.f187) rfl (of_decide_eq_true (by kernel_rfl)) (anOf [(122, [6]), (7826, [6, 32])]) 55 57 (by kernel_rfl) rfl [.tmp 4] (by kernel_rfl) (args := [g0_1, p1_1]) (by rw [e187]; exact H)

/-! slices.Repeat[[]int,int] -/
def t197 (P : Program) (x0_1 : Value) (count1_1 : Value) (h : Heap) (K : Value → Heap → Prop) : Prop :=
  ∃ J_1 : List Value → Heap → Prop, (pop P (binA .lss 3 count1_1 (Value.int IntKind.i64 0)) fun t10_1 =>
  condM t10_1
  (pop P (Instr.makeInterface 9 (Value.string { data := #[99, 97, 110, 110, 111, 116, 32, 98, 101, 32, 110, 101, 103, 97, 116, 105, 118, 101] })) fun t11_1 =>
  False)
  (J_1 [] h)) ∧
  ∀ (junk_1 : Nat → Value) (h_1 : Heap), J_1 [] h_1 →
  pop P (lenS 25 3 x0_1) fun t14_1 =>
  rop P (convert 3 170 t14_1) h_1 fun t15_1 =>
  rop P (convert 3 170 count1_1) h_1 fun t17_1 =>
  callM P 211 #[t15_1, t17_1] h_1 fun t18_1 h_2 =>
  pop P (Instr.extract t18_1 0) fun t19_1 =>
  pop P (Instr.extract t18_1 1) fun t20_1 =>
  ∃ J_2 : List Value → Heap → Prop, (pop P (binA .gtr 170 t19_1 (Value.int IntKind.u64 0)) fun t22_1 =>
  guardM t22_1 false (fun k_1 => k_1 t20_1 h_2) h_2 fun t24_1 h_3 =>
  guardM t22_1 false (fun k_2 => pop P (binA .gtr 170 t24_1 (Value.int IntKind.u64 9223372036854775807)) fun t25_1 =>
  k_2 t25_1 h_3) h_3 fun t25_2 h_4 =>
  pop P (pickS t22_1 (Value.bool true) t25_2) fun t26_1 =>
  condM t26_1
  (pop P (Instr.makeInterface 9 (Value.string { data := #[116, 104, 101, 32, 114, 101, 115, 117, 108, 116, 32, 111, 102, 32, 40, 108, 101, 110, 40, 120, 41, 32, 42, 32, 99, 111, 117, 110, 116, 41, 32, 111, 118, 101, 114, 102, 108, 111, 119, 115] })) fun t27_1 =>
  False)
  (J_2 [] h_4)) ∧
  ∀ (junk_2 : Nat → Value) (h_5 : Heap), J_2 [] h_5 →
  rop P (convert 170 3 t20_1) h_5 fun t29_1 =>
  eop P (Instr.makeSlice 25 t29_1 t29_1) h_5 fun t30_1 h_6 =>
  eop P (Builtin.copy_ #[25, 25] 3 #[t30_1, x0_1]) h_6 fun t33_1 h_7 =>
  ∃ (I_1 : List Value → Heap → Prop) (μ_1 : List Value → Heap → Nat), I_1 [t33_1] h_7 ∧
  ∀ (junk_3 : Nat → Value) (n8_1 : Value) (h_8 : Heap), I_1 [n8_1] h_8 →
  pop P (lenS 25 3 t30_1) fun t36_1 =>
  pop P (binA .lss 3 n8_1 t36_1) fun t37_1 =>
  condM t37_1
  (pop P (Instr.sliceAt 25 t30_1 (some n8_1) none none) fun t41_1 =>
  pop P (Instr.sliceAt 25 t30_1 none (some n8_1) none) fun t44_1 =>
  eop P (Builtin.copy_ #[25, 25] 3 #[t41_1, t44_1]) h_8 fun t45_1 h_9 =>
  pop P (binA .add 3 n8_1 t45_1) fun t46_1 =>
  I_1 [t46_1] h_9 ∧ μ_1 [t46_1] h_9 < μ_1 [n8_1] h_8)
  (K t30_1 h_8)
theorem e197 (x0_1 : Value) (count1_1 : Value) (h : Heap) (K : Value → Heap → Prop) : wpA Try.prog 48 (anOf [(3, []), (15, []), (508, [8])]) (bodyOf Try.f197) 1 (fun A h => resA Try.prog A h K [.tmp 4]) (fun _ _ _ => False) (fun A h => resA Try.prog A h K [.tmp 4]) (aargs [x0_1, count1_1] 0) h = t197 Try.prog x0_1 count1_1 h K := by kernel_rfl
theorem c197 (x0_1 : Value) (count1_1 : Value) (h : Heap) (K : Value → Heap → Prop) (H : t197 Try.prog x0_1 count1_1 h K) : callM Try.prog 197 #[x0_1, count1_1] h K :=
  callM_of_wpA mixed (fn := Try.f197) Try.func197 (c := bodyOf Try.f197) rfl (of_decide_eq_true (by kernel_rfl)) (anOf [(3, []), (15, []), (508, [8])]) 46 48 (by kernel_rfl) rfl [.tmp 4] (by kernel_rfl) (args := [x0_1, count1_1]) (by rw [e197]; exact H)

/-! math/bits.Mul -/
def t211 (P : Program) (x0_1 : Value) (y1_1 : Value) (h : Heap) (K : Value → Heap → Prop) : Prop :=
  condM (Value.bool false)
  (rop P (convert 170 184 x0_1) h fun t12_1 =>
  rop P (convert 170 184 y1_1) h fun t14_1 =>
  callM P 218 #[t12_1, t14_1] h fun t15_1 h_1 =>
  pop P (Instr.extract t15_1 0) fun t16_1 =>
  pop P (Instr.extract t15_1 1) fun t17_1 =>
  rop P (convert 184 170 t16_1) h_1 fun t19_1 =>
  rop P (convert 184 170 t17_1) h_1 fun t21_1 =>
  K (.tuple #[t19_1, t21_1]) h_1)
  (callM P 219 #[x0_1, y1_1] h fun t25_1 h_2 =>
  pop P (Instr.extract t25_1 0) fun t26_1 =>
  pop P (Instr.extract t25_1 1) fun t27_1 =>
  K (.tuple #[t26_1, t27_1]) h_2)
theorem e211 (x0_1 : Value) (y1_1 : Value) (h : Heap) (K : Value → Heap → Prop) : wpA Try.prog 30 (anOf []) (bodyOf Try.f211) 1 (fun A h => resA Try.prog A h K [.tmp 4, .tmp 5]) (fun _ _ _ => False) (fun A h => resA Try.prog A h K [.tmp 4, .tmp 5]) (aargs [x0_1, y1_1] 0) h = t211 Try.prog x0_1 y1_1 h K := by kernel_rfl
theorem c211 (x0_1 : Value) (y1_1 : Value) (h : Heap) (K : Value → Heap → Prop) (H : t211 Try.prog x0_1 y1_1 h K) : callM Try.prog 211 #[x0_1, y1_1] h K :=
  callM_of_wpA mixed (fn := Try.f211) Try.func211 (c := bodyOf Try.f211) rfl (of_decide_eq_true (by kernel_rfl)) (anOf []) 28 30 (by kernel_rfl) rfl [.tmp 4, .tmp 5] (by kernel_rfl) (args := [x0_1, y1_1]) (by rw [e211]; exact H)

/-! math/bits.Mul32 -/
def t218 (P : Program) (x0_1 : Value) (y1_1 : Value) (h : Heap) (K : Value → Heap → Prop) : Prop :=
  rop P (convert 184 107 x0_1) h fun t8_1 =>
  rop P (convert 184 107 y1_1) h fun t10_1 =>
  pop P (binA .mul 107 t8_1 t10_1) fun t11_1 =>
  pop P (binA .shr 107 t11_1 (Value.int IntKind.u64 32)) fun t13_1 =>
  rop P (convert 107 184 t13_1) h fun t14_1 =>
  rop P (convert 107 184 t11_1) h fun t16_1 =>
  K (.tuple #[t14_1, t16_1]) h
theorem e218 (x0_1 : Value) (y1_1 : Value) (h : Heap) (K : Value → Heap → Prop) : wpA Try.prog 17 (anOf []) (bodyOf Try.f218) 1 (fun A h => resA Try.prog A h K [.tmp 4, .tmp 5]) (fun _ _ _ => False) (fun A h => resA Try.prog A h K [.tmp 4, .tmp 5]) (aargs [x0_1, y1_1] 0) h = t218 Try.prog x0_1 y1_1 h K := by kernel_rfl
theorem c218 (x0_1 : Value) (y1_1 : Value) (h : Heap) (K : Value → Heap → Prop) (H : t218 Try.prog x0_1 y1_1 h K) : callM Try.prog 218 #[x0_1, y1_1] h K :=
  callM_of_wpA mixed (fn := Try.f218) Try.func218 (c := bodyOf Try.f218) rfl (of_decide_eq_true (by kernel_rfl)) (anOf []) 15 17 (by kernel_rfl) rfl [.tmp 4, .tmp 5] (by kernel_rfl) (args := [x0_1, y1_1]) (by rw [e218]; exact H)

/-! math/bits.Mul64 -/
def t219 (P : Program) (x0_1 : Value) (y1_1 : Value) (h : Heap) (K : Value → Heap → Prop) : Prop :=
  pop P (binA .and 107 x0_1 (Value.int IntKind.u64 4294967295)) fun t15_1 =>
  pop P (binA .shr 107 x0_1 (Value.int IntKind.u64 32)) fun t17_1 =>
  pop P (binA .and 107 y1_1 (Value.int IntKind.u64 4294967295)) fun t19_1 =>
  pop P (binA .shr 107 y1_1 (Value.int IntKind.u64 32)) fun t21_1 =>
  pop P (binA .mul 107 t15_1 t19_1) fun t24_1 =>
  pop P (binA .mul 107 t17_1 t19_1) fun t27_1 =>
  pop P (binA .shr 107 t24_1 (Value.int IntKind.u64 32)) fun t29_1 =>
  pop P (binA .add 107 t27_1 t29_1) fun t30_1 =>
  pop P (binA .and 107 t30_1 (Value.int IntKind.u64 4294967295)) fun t32_1 =>
  pop P (binA .shr 107 t30_1 (Value.int IntKind.u64 32)) fun t34_1 =>
  pop P (binA .mul 107 t15_1 t21_1) fun t38_1 =>
  pop P (binA .add 107 t32_1 t38_1) fun t39_1 =>
  pop P (binA .mul 107 t17_1 t21_1) fun t42_1 =>
  pop P (binA .add 107 t42_1 t34_1) fun t44_1 =>
  pop P (binA .shr 107 t39_1 (Value.int IntKind.u64 32)) fun t46_1 =>
  pop P (binA .add 107 t44_1 t46_1) fun t47_1 =>
  pop P (binA .mul 107 x0_1 y1_1) fun t50_1 =>
  K (.tuple #[t47_1, t50_1]) h
theorem e219 (x0_1 : Value) (y1_1 : Value) (h : Heap) (K : Value → Heap → Prop) : wpA Try.prog 51 (anOf []) (bodyOf Try.f219) 1 (fun A h => resA Try.prog A h K [.tmp 4, .tmp 5]) (fun _ _ _ => False) (fun A h => resA Try.prog A h K [.tmp 4, .tmp 5]) (aargs [x0_1, y1_1] 0) h = t219 Try.prog x0_1 y1_1 h K := by kernel_rfl
theorem c219 (x0_1 : Value) (y1_1 : Value) (h : Heap) (K : Value → Heap → Prop) (H : t219 Try.prog x0_1 y1_1 h K) : callM Try.prog 219 #[x0_1, y1_1] h K :=
  callM_of_wpA mixed (fn := Try.f219) Try.func219 (c := bodyOf Try.f219) rfl (of_decide_eq_true (by kernel_rfl)) (anOf []) 49 51 (by kernel_rfl) rfl [.tmp 4, .tmp 5] (by kernel_rfl) (args := [x0_1, y1_1]) (by rw [e219]; exact H)

end Go.Proofs.Ytbhnecochpehdaa
