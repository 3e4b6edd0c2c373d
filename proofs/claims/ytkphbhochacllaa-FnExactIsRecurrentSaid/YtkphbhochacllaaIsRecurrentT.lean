/-
  What each function that the law 'FnExactIsRecurrent' comes to asks of the heap, named; tied to the loaded program by the kernel. Written by a program.
-/
import Derived.Test.YtkphbhochacllaaProg
import Derived.Test.YtkphbhochacllaaM1
set_option linter.unusedVariables false
namespace Go.Proofs.Ytkphbhochacllaa
open Go Go.Mx
theorem mixed : Try.prog.follows .mixedOrders = true := by kernel_rfl
/-! laws.FnExactIsRecurrent -/
def t9 (P : Program) (aG0_1 : Value) (aW1_1 : Value) (h : Heap) (K : Value → Heap → Prop) : Prop :=
  eop P (Instr.box 34 aG0_1) h fun aG2_1 h_1 =>
  eop P (Instr.box 35 aW1_1) h_1 fun aW3_1 h_2 =>
  rop P (Instr.loadAt 34 aG2_1) h_2 fun t12_1 =>
  callM P 24 #[t12_1, (Value.int IntKind.i64 1048576)] h_2 fun t14_1 h_3 =>
  pop P (binA .lss 3 t14_1 (Value.int IntKind.i64 0)) fun t16_1 =>
  condM t16_1
  (K (Value.bool true) h_3)
  (rop P (Instr.loadAt 35 aW3_1) h_3 fun t17_1 =>
  callM P 33 #[t17_1, t14_1] h_3 fun t19_1 h_4 =>
  pop P (binA .lss 3 t19_1 (Value.int IntKind.i64 0)) fun t21_1 =>
  condM t21_1
  (K (Value.bool true) h_4)
  (rop P (Instr.loadAt 34 aG2_1) h_4 fun t23_1 =>
  rop P (Instr.loadAt 35 aW3_1) h_4 fun t25_1 =>
  callM P 26 #[t23_1] h_4 fun t24_1 h_5 =>
  (∀ w : World, w.heap = h_5 → (Instr.loadAt 35 aW3_1).run P w = .ok t25_1 w) ∧
  callM P 35 #[t25_1] h_5 fun t26_1 h_6 =>
  callM P 40 #[t24_1, t26_1] h_6 fun t27_1 h_7 =>
  pop P (Instr.extract t27_1 0) fun t28_1 =>
  pop P (Instr.extract t27_1 1) fun t29_1 =>
  rop P (Instr.loadAt 34 aG2_1) h_7 fun t30_1 =>
  callM P 26 #[t30_1] h_7 fun t31_1 h_8 =>
  eop P (Instr.alloc 24 true (.tuple #[])) h_8 fun x08_1 h_9 =>
  uop P (Instr.storeAt 24 x08_1 t31_1) h_9 fun u_1 h_10 =>
  rop P (Instr.loadAt 35 aW3_1) h_10 fun t32_1 =>
  callM P 35 #[t32_1] h_10 fun t33_1 h_11 =>
  eop P (Instr.alloc 27 true (.tuple #[])) h_11 fun x19_1 h_12 =>
  uop P (Instr.storeAt 27 x19_1 t33_1) h_12 fun u_2 h_13 =>
  rop P (Instr.loadAt 24 x08_1) h_13 fun t35_1 =>
  rop P (Instr.loadAt 27 x19_1) h_13 fun t36_1 =>
  callM P 41 #[t35_1, t36_1] h_13 fun t37_1 h_14 =>
  pop P (Instr.extract t37_1 0) fun t38_1 =>
  pop P (Instr.extract t37_1 1) fun t39_1 =>
  pop P (binE .neq 4 (.tmp 40) (.tmp 41) t38_1 t28_1) fun t42_1 =>
  guardM t42_1 false (fun k_1 => k_1 t39_1 h_14) h_14 fun t44_1 h_15 =>
  guardM t42_1 false (fun k_2 => k_2 t29_1 h_15) h_15 fun t45_1 h_16 =>
  guardM t42_1 false (fun k_3 => pop P (binE .neq 4 (.tmp 44) (.tmp 45) t44_1 t45_1) fun t46_1 =>
  k_3 t46_1 h_16) h_16 fun t46_2 h_17 =>
  pop P (pickS t42_1 (Value.bool true) t46_2) fun t47_1 =>
  condM t47_1
  (K (Value.bool false) h_17)
  (rop P (Instr.loadAt 24 x08_1) h_17 fun t48_1 =>
  rop P (Instr.loadAt 34 aG2_1) h_17 fun t49_1 =>
  callM P 26 #[t49_1] h_17 fun t50_1 h_18 =>
  (∀ w : World, w.heap = h_18 → (Instr.loadAt 24 x08_1).run P w = .ok t48_1 w) ∧
  callM P 28 #[t48_1, t50_1] h_18 fun t51_1 h_19 =>
  pop P (Op.unary .not t51_1) fun t52_1 =>
  condM t52_1
  (K (Value.bool false) h_19)
  (rop P (Instr.loadAt 27 x19_1) h_19 fun t53_1 =>
  rop P (Instr.loadAt 35 aW3_1) h_19 fun t54_1 =>
  callM P 35 #[t54_1] h_19 fun t55_1 h_20 =>
  (∀ w : World, w.heap = h_20 → (Instr.loadAt 27 x19_1).run P w = .ok t53_1 w) ∧
  callM P 37 #[t53_1, t55_1] h_20 fun t56_1 h_21 =>
  pop P (Op.unary .not t56_1) fun t57_1 =>
  condM t57_1
  (K (Value.bool false) h_21)
  (K (Value.bool true) h_21)))))
theorem e9 (aG0_1 : Value) (aW1_1 : Value) (h : Heap) (K : Value → Heap → Prop) : wpA Try.prog 58 (anOf []) (bodyOf Try.f9) 1 (fun A h => resA Try.prog A h K [.tmp 4]) (fun _ _ _ => False) (fun A h => resA Try.prog A h K [.tmp 4]) (aargs [aG0_1, aW1_1] 0) h = t9 Try.prog aG0_1 aW1_1 h K := by kernel_rfl
theorem c9 (aG0_1 : Value) (aW1_1 : Value) (h : Heap) (K : Value → Heap → Prop) (H : t9 Try.prog aG0_1 aW1_1 h K) : callM Try.prog 9 #[aG0_1, aW1_1] h K :=
  callM_of_wpA mixed (fn := Try.f9) Try.func9 (c := bodyOf Try.f9) rfl (of_decide_eq_true (by kernel_rfl)) (anOf []) 56 58 (by kernel_rfl) rfl [.tmp 4] (by kernel_rfl) (args := [aG0_1, aW1_1]) (by rw [e9]; exact H)

/-! laws.szGraph -/
def t24 (P : Program) (a0_1 : Value) (left1_1 : Value) (h : Heap) (K : Value → Heap → Prop) : Prop :=
  eop P (Instr.box 34 a0_1) h fun a2_1 h_1 =>
  pop P (Instr.fieldAt 34 a2_1 0) fun t5_1 =>
  rop P (Instr.loadAt 22 t5_1) h_1 fun t6_1 =>
  callM P 63 #[t6_1, left1_1] h_1 fun t8_1 h_2 =>
  pop P (binA .lss 3 t8_1 (Value.int IntKind.i64 0)) fun t10_1 =>
  condM t10_1
  (K (Value.int IntKind.i64 (-1)) h_2)
  (K t8_1 h_2)
theorem e24 (a0_1 : Value) (left1_1 : Value) (h : Heap) (K : Value → Heap → Prop) : wpA Try.prog 12 (anOf []) (bodyOf Try.f24) 1 (fun A h => resA Try.prog A h K [.tmp 4]) (fun _ _ _ => False) (fun A h => resA Try.prog A h K [.tmp 4]) (aargs [a0_1, left1_1] 0) h = t24 Try.prog a0_1 left1_1 h K := by kernel_rfl
theorem c24 (a0_1 : Value) (left1_1 : Value) (h : Heap) (K : Value → Heap → Prop) (H : t24 Try.prog a0_1 left1_1 h K) : callM Try.prog 24 #[a0_1, left1_1] h K :=
  callM_of_wpA mixed (fn := Try.f24) Try.func24 (c := bodyOf Try.f24) rfl (of_decide_eq_true (by kernel_rfl)) (anOf []) 10 12 (by kernel_rfl) rfl [.tmp 4] (by kernel_rfl) (args := [a0_1, left1_1]) (by rw [e24]; exact H)

/-! laws.toGraph -/
def t26 (P : Program) (a0_1 : Value) (h : Heap) (K : Value → Heap → Prop) : Prop :=
  eop P (Instr.box 34 a0_1) h fun a1_1 h_1 =>
  eop P (Instr.alloc 24 true (.tuple #[])) h_1 fun t2_1 h_2 =>
  eop P (Instr.alloc 24 true (.tuple #[])) h_2 fun out3_1 h_3 =>
  pop P (Instr.fieldAt 34 a1_1 0) fun t4_1 =>
  rop P (Instr.loadAt 22 t4_1) h_3 fun t5_1 =>
  callM P 67 #[t5_1] h_3 fun t6_1 h_4 =>
  pop P (Instr.fieldAt 24 out3_1 0) fun t7_1 =>
  uop P (Instr.storeAt 22 t7_1 t6_1) h_4 fun u_1 h_5 =>
  rop P (Instr.loadAt 24 out3_1) h_5 fun t8_1 =>
  uop P (Instr.storeAt 24 t2_1 t8_1) h_5 fun u_2 h_6 =>
  rop P (Instr.loadAt 24 t2_1) h_6 fun r_1 =>
  K r_1 h_6
theorem e26 (a0_1 : Value) (h : Heap) (K : Value → Heap → Prop) : wpA Try.prog 9 (anOf []) (bodyOf Try.f26) 1 (fun A h => resA Try.prog A h K [.cell 2 24]) (fun _ _ _ => False) (fun A h => resA Try.prog A h K [.cell 2 24]) (aargs [a0_1] 0) h = t26 Try.prog a0_1 h K := by kernel_rfl
theorem c26 (a0_1 : Value) (h : Heap) (K : Value → Heap → Prop) (H : t26 Try.prog a0_1 h K) : callM Try.prog 26 #[a0_1] h K :=
  callM_of_wpA mixed (fn := Try.f26) Try.func26 (c := bodyOf Try.f26) rfl (of_decide_eq_true (by kernel_rfl)) (anOf []) 8 9 (by kernel_rfl) rfl [.cell 2 24] (by kernel_rfl) (args := [a0_1]) (by rw [e26]; exact H)

/-! laws.eqGraph -/
def t28 (P : Program) (a0_1 : Value) (b1_1 : Value) (h : Heap) (K : Value → Heap → Prop) : Prop :=
  eop P (Instr.box 24 a0_1) h fun a2_1 h_1 =>
  eop P (Instr.box 24 b1_1) h_1 fun b3_1 h_2 =>
  pop P (Instr.fieldAt 24 a2_1 0) fun t5_1 =>
  rop P (Instr.loadAt 22 t5_1) h_2 fun t6_1 =>
  pop P (Instr.fieldAt 24 b3_1 0) fun t7_1 =>
  rop P (Instr.loadAt 22 t7_1) h_2 fun t8_1 =>
  callM P 71 #[t6_1, t8_1] h_2 fun t9_1 h_3 =>
  pop P (Op.unary .not t9_1) fun t10_1 =>
  condM t10_1
  (K (Value.bool false) h_3)
  (K (Value.bool true) h_3)
theorem e28 (a0_1 : Value) (b1_1 : Value) (h : Heap) (K : Value → Heap → Prop) : wpA Try.prog 11 (anOf []) (bodyOf Try.f28) 1 (fun A h => resA Try.prog A h K [.tmp 4]) (fun _ _ _ => False) (fun A h => resA Try.prog A h K [.tmp 4]) (aargs [a0_1, b1_1] 0) h = t28 Try.prog a0_1 b1_1 h K := by kernel_rfl
theorem c28 (a0_1 : Value) (b1_1 : Value) (h : Heap) (K : Value → Heap → Prop) (H : t28 Try.prog a0_1 b1_1 h K) : callM Try.prog 28 #[a0_1, b1_1] h K :=
  callM_of_wpA mixed (fn := Try.f28) Try.func28 (c := bodyOf Try.f28) rfl (of_decide_eq_true (by kernel_rfl)) (anOf []) 9 11 (by kernel_rfl) rfl [.tmp 4] (by kernel_rfl) (args := [a0_1, b1_1]) (by rw [e28]; exact H)

/-! laws.szWalk -/
def t33 (P : Program) (a0_1 : Value) (left1_1 : Value) (h : Heap) (K : Value → Heap → Prop) : Prop :=
  eop P (Instr.box 35 a0_1) h fun a2_1 h_1 =>
  pop P (Instr.fieldAt 35 a2_1 0) fun t5_1 =>
  rop P (Instr.loadAt 25 t5_1) h_1 fun t6_1 =>
  callM P 77 #[t6_1, left1_1] h_1 fun t8_1 h_2 =>
  pop P (binA .lss 3 t8_1 (Value.int IntKind.i64 0)) fun t10_1 =>
  condM t10_1
  (K (Value.int IntKind.i64 (-1)) h_2)
  (K t8_1 h_2)
theorem e33 (a0_1 : Value) (left1_1 : Value) (h : Heap) (K : Value → Heap → Prop) : wpA Try.prog 12 (anOf []) (bodyOf Try.f33) 1 (fun A h => resA Try.prog A h K [.tmp 4]) (fun _ _ _ => False) (fun A h => resA Try.prog A h K [.tmp 4]) (aargs [a0_1, left1_1] 0) h = t33 Try.prog a0_1 left1_1 h K := by kernel_rfl
theorem c33 (a0_1 : Value) (left1_1 : Value) (h : Heap) (K : Value → Heap → Prop) (H : t33 Try.prog a0_1 left1_1 h K) : callM Try.prog 33 #[a0_1, left1_1] h K :=
  callM_of_wpA mixed (fn := Try.f33) Try.func33 (c := bodyOf Try.f33) rfl (of_decide_eq_true (by kernel_rfl)) (anOf []) 10 12 (by kernel_rfl) rfl [.tmp 4] (by kernel_rfl) (args := [a0_1, left1_1]) (by rw [e33]; exact H)

/-! laws.toWalk -/
def t35 (P : Program) (a0_1 : Value) (h : Heap) (K : Value → Heap → Prop) : Prop :=
  eop P (Instr.box 35 a0_1) h fun a1_1 h_1 =>
  eop P (Instr.alloc 27 true (.tuple #[])) h_1 fun t2_1 h_2 =>
  eop P (Instr.alloc 27 true (.tuple #[])) h_2 fun out3_1 h_3 =>
  pop P (Instr.fieldAt 35 a1_1 0) fun t4_1 =>
  rop P (Instr.loadAt 25 t4_1) h_3 fun t5_1 =>
  callM P 80 #[t5_1] h_3 fun t6_1 h_4 =>
  pop P (Instr.fieldAt 27 out3_1 0) fun t7_1 =>
  uop P (Instr.storeAt 25 t7_1 t6_1) h_4 fun u_1 h_5 =>
  pop P (Instr.fieldAt 35 a1_1 1) fun t8_1 =>
  rop P (Instr.loadAt 3 t8_1) h_5 fun t9_1 =>
  pop P (Instr.fieldAt 27 out3_1 1) fun t10_1 =>
  uop P (Instr.storeAt 3 t10_1 t9_1) h_5 fun u_2 h_6 =>
  rop P (Instr.loadAt 27 out3_1) h_6 fun t11_1 =>
  uop P (Instr.storeAt 27 t2_1 t11_1) h_6 fun u_3 h_7 =>
  rop P (Instr.loadAt 27 t2_1) h_7 fun r_1 =>
  K r_1 h_7
theorem e35 (a0_1 : Value) (h : Heap) (K : Value → Heap → Prop) : wpA Try.prog 12 (anOf []) (bodyOf Try.f35) 1 (fun A h => resA Try.prog A h K [.cell 2 27]) (fun _ _ _ => False) (fun A h => resA Try.prog A h K [.cell 2 27]) (aargs [a0_1] 0) h = t35 Try.prog a0_1 h K := by kernel_rfl
theorem c35 (a0_1 : Value) (h : Heap) (K : Value → Heap → Prop) (H : t35 Try.prog a0_1 h K) : callM Try.prog 35 #[a0_1] h K :=
  callM_of_wpA mixed (fn := Try.f35) Try.func35 (c := bodyOf Try.f35) rfl (of_decide_eq_true (by kernel_rfl)) (anOf []) 11 12 (by kernel_rfl) rfl [.cell 2 27] (by kernel_rfl) (args := [a0_1]) (by rw [e35]; exact H)

/-! laws.eqWalk -/
def t37 (P : Program) (a0_1 : Value) (b1_1 : Value) (h : Heap) (K : Value → Heap → Prop) : Prop :=
  eop P (Instr.box 27 a0_1) h fun a2_1 h_1 =>
  eop P (Instr.box 27 b1_1) h_1 fun b3_1 h_2 =>
  pop P (Instr.fieldAt 27 a2_1 0) fun t5_1 =>
  rop P (Instr.loadAt 25 t5_1) h_2 fun t6_1 =>
  pop P (Instr.fieldAt 27 b3_1 0) fun t7_1 =>
  rop P (Instr.loadAt 25 t7_1) h_2 fun t8_1 =>
  callM P 53 #[t6_1, t8_1] h_2 fun t9_1 h_3 =>
  pop P (Op.unary .not t9_1) fun t10_1 =>
  condM t10_1
  (K (Value.bool false) h_3)
  (pop P (Instr.fieldAt 27 a2_1 1) fun t11_1 =>
  rop P (Instr.loadAt 3 t11_1) h_3 fun t12_1 =>
  pop P (Instr.fieldAt 27 b3_1 1) fun t13_1 =>
  rop P (Instr.loadAt 3 t13_1) h_3 fun t14_1 =>
  pop P (binE .neq 3 (.tmp 12) (.tmp 14) t12_1 t14_1) fun t15_1 =>
  condM t15_1
  (K (Value.bool false) h_3)
  (K (Value.bool true) h_3))
theorem e37 (a0_1 : Value) (b1_1 : Value) (h : Heap) (K : Value → Heap → Prop) : wpA Try.prog 16 (anOf []) (bodyOf Try.f37) 1 (fun A h => resA Try.prog A h K [.tmp 4]) (fun _ _ _ => False) (fun A h => resA Try.prog A h K [.tmp 4]) (aargs [a0_1, b1_1] 0) h = t37 Try.prog a0_1 b1_1 h K := by kernel_rfl
theorem c37 (a0_1 : Value) (b1_1 : Value) (h : Heap) (K : Value → Heap → Prop) (H : t37 Try.prog a0_1 b1_1 h K) : callM Try.prog 37 #[a0_1, b1_1] h K :=
  callM_of_wpA mixed (fn := Try.f37) Try.func37 (c := bodyOf Try.f37) rfl (of_decide_eq_true (by kernel_rfl)) (anOf []) 14 16 (by kernel_rfl) rfl [.tmp 4] (by kernel_rfl) (args := [a0_1, b1_1]) (by rw [e37]; exact H)

/-! spec.IsRecurrent -/
def t40 (P : Program) (g0_1 : Value) (w1_1 : Value) (h : Heap) (K : Value → Heap → Prop) : Prop :=
  eop P (Instr.box 24 g0_1) h fun g2_1 h_1 =>
  eop P (Instr.box 27 w1_1) h_1 fun w3_1 h_2 =>
  rop P (Instr.loadAt 24 g2_1) h_2 fun t6_1 =>
  rop P (Instr.loadAt 27 w3_1) h_2 fun t7_1 =>
  callM P 78 #[t6_1, t7_1] h_2 fun t8_1 h_3 =>
  pop P (Op.unary .not t8_1) fun t9_1 =>
  condM t9_1
  (K (.tuple #[(Value.bool false), (Value.bool false)]) h_3)
  (rop P (Instr.loadAt 24 g2_1) h_3 fun t10_1 =>
  rop P (Instr.loadAt 27 w3_1) h_3 fun t11_1 =>
  callM P 86 #[t10_1, t11_1, (Value.int IntKind.i64 2000)] h_3 fun t12_1 h_4 =>
  pop P (binA .gtr 3 t12_1 (Value.int IntKind.i64 0)) fun t13_1 =>
  K (.tuple #[t13_1, (Value.bool true)]) h_4)
theorem e40 (g0_1 : Value) (w1_1 : Value) (h : Heap) (K : Value → Heap → Prop) : wpA Try.prog 14 (anOf []) (bodyOf Try.f40) 1 (fun A h => resA Try.prog A h K [.tmp 4, .tmp 5]) (fun _ _ _ => False) (fun A h => resA Try.prog A h K [.tmp 4, .tmp 5]) (aargs [g0_1, w1_1] 0) h = t40 Try.prog g0_1 w1_1 h K := by kernel_rfl
theorem c40 (g0_1 : Value) (w1_1 : Value) (h : Heap) (K : Value → Heap → Prop) (H : t40 Try.prog g0_1 w1_1 h K) : callM Try.prog 40 #[g0_1, w1_1] h K :=
  callM_of_wpA mixed (fn := Try.f40) Try.func40 (c := bodyOf Try.f40) rfl (of_decide_eq_true (by kernel_rfl)) (anOf []) 12 14 (by kernel_rfl) rfl [.tmp 4, .tmp 5] (by kernel_rfl) (args := [g0_1, w1_1]) (by rw [e40]; exact H)

/-! impl.IsRecurrent -/
def t41 (P : Program) (g0_1 : Value) (w1_1 : Value) (h : Heap) (K : Value → Heap → Prop) : Prop :=
  eop P (Instr.box 24 g0_1) h fun g2_1 h_1 =>
  eop P (Instr.box 27 w1_1) h_1 fun w3_1 h_2 =>
  rop P (Instr.loadAt 24 g2_1) h_2 fun t8_1 =>
  rop P (Instr.loadAt 27 w3_1) h_2 fun t9_1 =>
  callM P 81 #[t8_1, t9_1] h_2 fun t10_1 h_3 =>
  pop P (Op.unary .not t10_1) fun t11_1 =>
  condM t11_1
  (K (.tuple #[(Value.bool false), (Value.bool false)]) h_3)
  (rop P (Instr.loadAt 24 g2_1) h_3 fun t13_1 =>
  rop P (Instr.loadAt 27 w3_1) h_3 fun t14_1 =>
  rop P (Instr.loadAt 27 w3_1) h_3 fun t15_1 =>
  pop P (Instr.makeFunc (Fn.func 87) #[t15_1] #[]) fun t16_1 =>
  callM P 82 #[t13_1, t14_1, (Value.int IntKind.i64 1), t16_1] h_3 fun t17_1 h_4 =>
  pop P (Instr.extract t17_1 0) fun t18_1 =>
  pop P (Instr.extract t17_1 1) fun t19_1 =>
  K (.tuple #[t19_1, (Value.bool true)]) h_4)
theorem e41 (g0_1 : Value) (w1_1 : Value) (h : Heap) (K : Value → Heap → Prop) : wpA Try.prog 21 (anOf []) (bodyOf Try.f41) 1 (fun A h => resA Try.prog A h K [.tmp 4, .tmp 5]) (fun _ _ _ => False) (fun A h => resA Try.prog A h K [.tmp 4, .tmp 5]) (aargs [g0_1, w1_1] 0) h = t41 Try.prog g0_1 w1_1 h K := by kernel_rfl
theorem c41 (g0_1 : Value) (w1_1 : Value) (h : Heap) (K : Value → Heap → Prop) (H : t41 Try.prog g0_1 w1_1 h K) : callM Try.prog 41 #[g0_1, w1_1] h K :=
  callM_of_wpA mixed (fn := Try.f41) Try.func41 (c := bodyOf Try.f41) rfl (of_decide_eq_true (by kernel_rfl)) (anOf []) 19 21 (by kernel_rfl) rfl [.tmp 4, .tmp 5] (by kernel_rfl) (args := [g0_1, w1_1]) (by rw [e41]; exact H)

/-! laws.eqIntS -/
def t53 (P : Program) (a0_1 : Value) (b1_1 : Value) (h : Heap) (K : Value → Heap → Prop) : Prop :=
  pop P (lenS 25 3 a0_1) fun t7_1 =>
  pop P (lenS 25 3 b1_1) fun t9_1 =>
  pop P (binE .neq 3 (.tmp 7) (.tmp 9) t7_1 t9_1) fun t10_1 =>
  condM t10_1
  (K (Value.bool false) h)
  (∃ (I_1 : List Value → Heap → Prop) (μ_1 : List Value → Heap → Nat), I_1 [(Value.int IntKind.i64 0)] h ∧
  ∀ (junk_1 : Nat → Value) (i5_1 : Value) (h_1 : Heap), I_1 [i5_1] h_1 →
  pop P (lenS 25 3 a0_1) fun t13_1 =>
  pop P (binA .lss 3 i5_1 t13_1) fun t14_1 =>
  condM t14_1
  (pop P (Instr.indexAt 25 a0_1 i5_1) fun t19_1 =>
  rop P (Instr.loadAt 3 t19_1) h_1 fun t20_1 =>
  pop P (Instr.indexAt 25 b1_1 i5_1) fun t23_1 =>
  rop P (Instr.loadAt 3 t23_1) h_1 fun t24_1 =>
  pop P (binE .neq 3 (.tmp 20) (.tmp 24) t20_1 t24_1) fun t25_1 =>
  condM t25_1
  (K (Value.bool false) h_1)
  (pop P (binA .add 3 i5_1 (Value.int IntKind.i64 1)) fun t16_1 =>
  I_1 [t16_1] h_1 ∧ μ_1 [t16_1] h_1 < μ_1 [i5_1] h_1))
  (K (Value.bool true) h_1))
theorem e53 (a0_1 : Value) (b1_1 : Value) (h : Heap) (K : Value → Heap → Prop) : wpA Try.prog 26 (anOf [(58, [5])]) (bodyOf Try.f53) 1 (fun A h => resA Try.prog A h K [.tmp 4]) (fun _ _ _ => False) (fun A h => resA Try.prog A h K [.tmp 4]) (aargs [a0_1, b1_1] 0) h = t53 Try.prog a0_1 b1_1 h K := by kernel_rfl
theorem c53 (a0_1 : Value) (b1_1 : Value) (h : Heap) (K : Value → Heap → Prop) (H : t53 Try.prog a0_1 b1_1 h K) : callM Try.prog 53 #[a0_1, b1_1] h K :=
  callM_of_wpA mixed (fn := Try.f53) Try.func53 (c := bodyOf Try.f53) rfl (of_decide_eq_true (by kernel_rfl)) (anOf [(58, [5])]) 24 26 (by kernel_rfl) rfl [.tmp 4] (by kernel_rfl) (args := [a0_1, b1_1]) (by rw [e53]; exact H)

/-! laws.szIntSS -/
def t63 (P : Program) (a0_1 : Value) (left1_1 : Value) (h : Heap) (K : Value → Heap → Prop) : Prop :=
  pop P (lenS 22 3 a0_1) fun t8_1 =>
  pop P (binA .sub 3 left1_1 t8_1) fun t9_1 =>
  pop P (binA .lss 3 t9_1 (Value.int IntKind.i64 0)) fun t11_1 =>
  condM t11_1
  (K (Value.int IntKind.i64 (-1)) h)
  (∃ (I_1 : List Value → Heap → Prop) (μ_1 : List Value → Heap → Nat), I_1 [t9_1, (Value.int IntKind.i64 0)] h ∧
  ∀ (junk_1 : Nat → Value) (left1_2 : Value) (i5_1 : Value) (h_1 : Heap), I_1 [left1_2, i5_1] h_1 →
  pop P (lenS 22 3 a0_1) fun t14_1 =>
  pop P (binA .lss 3 i5_1 t14_1) fun t15_1 =>
  condM t15_1
  (pop P (Instr.indexAt 22 a0_1 i5_1) fun t20_1 =>
  rop P (Instr.loadAt 25 t20_1) h_1 fun t21_1 =>
  callM P 77 #[t21_1, left1_2] h_1 fun t23_1 h_2 =>
  pop P (binA .lss 3 t23_1 (Value.int IntKind.i64 0)) fun t25_1 =>
  condM t25_1
  (K (Value.int IntKind.i64 (-1)) h_2)
  (pop P (binA .add 3 i5_1 (Value.int IntKind.i64 1)) fun t17_1 =>
  I_1 [t23_1, t17_1] h_2 ∧ μ_1 [t23_1, t17_1] h_2 < μ_1 [left1_2, i5_1] h_1))
  (K left1_2 h_1))
theorem e63 (a0_1 : Value) (left1_1 : Value) (h : Heap) (K : Value → Heap → Prop) : wpA Try.prog 27 (anOf [(122, [1, 5])]) (bodyOf Try.f63) 1 (fun A h => resA Try.prog A h K [.tmp 4]) (fun _ _ _ => False) (fun A h => resA Try.prog A h K [.tmp 4]) (aargs [a0_1, left1_1] 0) h = t63 Try.prog a0_1 left1_1 h K := by kernel_rfl
theorem c63 (a0_1 : Value) (left1_1 : Value) (h : Heap) (K : Value → Heap → Prop) (H : t63 Try.prog a0_1 left1_1 h K) : callM Try.prog 63 #[a0_1, left1_1] h K :=
  callM_of_wpA mixed (fn := Try.f63) Try.func63 (c := bodyOf Try.f63) rfl (of_decide_eq_true (by kernel_rfl)) (anOf [(122, [1, 5])]) 25 27 (by kernel_rfl) rfl [.tmp 4] (by kernel_rfl) (args := [a0_1, left1_1]) (by rw [e63]; exact H)

/-! spec.grPlace -/
def t64 (P : Program) (g0_1 : Value) (p1_1 : Value) (h : Heap) (K : Value → Heap → Prop) : Prop :=
  eop P (Instr.box 24 g0_1) h fun g2_1 h_1 =>
  rop P (Instr.loadAt 24 g2_1) h_1 fun t5_1 =>
  callM P 97 #[t5_1] h_1 fun t6_1 h_2 =>
  guardM t6_1 true (fun k_1 => k_1 p1_1 h_2) h_2 fun t8_1 h_3 =>
  guardM t6_1 true (fun k_2 => pop P (Instr.fieldAt 24 g2_1 0) fun t9_1 =>
  k_2 t9_1 h_3) h_3 fun t9_2 h_4 =>
  guardM t6_1 true (fun k_3 => rop P (Instr.loadAt 22 t9_2) h_4 fun t10_1 =>
  k_3 t10_1 h_4) h_4 fun t10_2 h_5 =>
  guardM t6_1 true (fun k_4 => pop P (lenS 22 3 t10_2) fun t11_1 =>
  k_4 t11_1 h_5) h_5 fun t11_2 h_6 =>
  guardM t6_1 true (fun k_5 => pop P (binA .sub 3 t11_2 (Value.int IntKind.i64 1)) fun t12_1 =>
  k_5 t12_1 h_6) h_6 fun t12_2 h_7 =>
  guardM t6_1 true (fun k_6 => callM P 74 #[t8_1, (Value.int IntKind.i64 0), t12_2] h_7 fun t13_1 h_8 =>
  k_6 t13_1 h_8) h_7 fun t13_2 h_9 =>
  pop P (pickS t6_1 t13_2 (Value.bool false)) fun t14_1 =>
  K t14_1 h_9
theorem e64 (g0_1 : Value) (p1_1 : Value) (h : Heap) (K : Value → Heap → Prop) : wpA Try.prog 15 (anOf []) (bodyOf Try.f64) 1 (fun A h => resA Try.prog A h K [.tmp 4]) (fun _ _ _ => False) (fun A h => resA Try.prog A h K [.tmp 4]) (aargs [g0_1, p1_1] 0) h = t64 Try.prog g0_1 p1_1 h K := by kernel_rfl
theorem c64 (g0_1 : Value) (p1_1 : Value) (h : Heap) (K : Value → Heap → Prop) (H : t64 Try.prog g0_1 p1_1 h K) : callM Try.prog 64 #[g0_1, p1_1] h K :=
  callM_of_wpA mixed (fn := Try.f64) Try.func64 (c := bodyOf Try.f64) rfl (of_decide_eq_true (by kernel_rfl)) (anOf []) 13 15 (by kernel_rfl) rfl [.tmp 4] (by kernel_rfl) (args := [g0_1, p1_1]) (by rw [e64]; exact H)

/-! laws.toIntSS -/
def t67 (P : Program) (a0_1 : Value) (h : Heap) (K : Value → Heap → Prop) : Prop :=
  pop P (lenS 22 3 a0_1) fun t6_1 =>
  eop P (Instr.makeSlice 22 t6_1 t6_1) h fun t7_1 h_1 =>
  ∃ (I_1 : List Value → Heap → Prop) (μ_1 : List Value → Heap → Nat), I_1 [(Value.int IntKind.i64 0)] h_1 ∧
  ∀ (junk_1 : Nat → Value) (i4_1 : Value) (h_2 : Heap), I_1 [i4_1] h_2 →
  pop P (lenS 22 3 a0_1) fun t10_1 =>
  pop P (binA .lss 3 i4_1 t10_1) fun t11_1 =>
  condM t11_1
  (pop P (Instr.indexAt 22 a0_1 i4_1) fun t18_1 =>
  rop P (Instr.loadAt 25 t18_1) h_2 fun t19_1 =>
  callM P 80 #[t19_1] h_2 fun t20_1 h_3 =>
  pop P (Instr.indexAt 22 t7_1 i4_1) fun t21_1 =>
  uop P (Instr.storeAt 25 t21_1 t20_1) h_3 fun u_1 h_4 =>
  pop P (binA .add 3 i4_1 (Value.int IntKind.i64 1)) fun t13_1 =>
  I_1 [t13_1] h_4 ∧ μ_1 [t13_1] h_4 < μ_1 [i4_1] h_2)
  (K t7_1 h_2)
theorem e67 (a0_1 : Value) (h : Heap) (K : Value → Heap → Prop) : wpA Try.prog 23 (anOf [(58, [4])]) (bodyOf Try.f67) 1 (fun A h => resA Try.prog A h K [.tmp 2]) (fun _ _ _ => False) (fun A h => resA Try.prog A h K [.tmp 2]) (aargs [a0_1] 0) h = t67 Try.prog a0_1 h K := by kernel_rfl
theorem c67 (a0_1 : Value) (h : Heap) (K : Value → Heap → Prop) (H : t67 Try.prog a0_1 h K) : callM Try.prog 67 #[a0_1] h K :=
  callM_of_wpA mixed (fn := Try.f67) Try.func67 (c := bodyOf Try.f67) rfl (of_decide_eq_true (by kernel_rfl)) (anOf [(58, [4])]) 22 23 (by kernel_rfl) rfl [.tmp 2] (by kernel_rfl) (args := [a0_1]) (by rw [e67]; exact H)

/-! impl.has -/
def t68 (P : Program) (g0_1 : Value) (places1_1 : Value) (h : Heap) (K : Value → Heap → Prop) : Prop :=
  eop P (Instr.box 24 g0_1) h fun g2_1 h_1 =>
  rop P (Instr.loadAt 24 g2_1) h_1 fun t5_1 =>
  callM P 98 #[t5_1] h_1 fun t6_1 h_2 =>
  guardM t6_1 true (fun k_1 => k_1 places1_1 h_2) h_2 fun t8_1 h_3 =>
  guardM t6_1 true (fun k_2 => pop P (Instr.makeFunc (Fn.func 100) #[] #[g2_1]) fun t9_1 =>
  k_2 t9_1 h_3) h_3 fun t9_2 h_4 =>
  guardM t6_1 true (fun k_3 => callM P 99 #[t8_1, t9_2] h_4 fun t10_1 h_5 =>
  k_3 t10_1 h_5) h_4 fun t10_2 h_6 =>
  guardM t6_1 true (fun k_4 => pop P (Op.unary .not t10_2) fun t11_1 =>
  k_4 t11_1 h_6) h_6 fun t11_2 h_7 =>
  pop P (pickS t6_1 t11_2 (Value.bool false)) fun t12_1 =>
  K t12_1 h_7
theorem e68 (g0_1 : Value) (places1_1 : Value) (h : Heap) (K : Value → Heap → Prop) : wpA Try.prog 13 (anOf []) (bodyOf Try.f68) 1 (fun A h => resA Try.prog A h K [.tmp 4]) (fun _ _ _ => False) (fun A h => resA Try.prog A h K [.tmp 4]) (aargs [g0_1, places1_1] 0) h = t68 Try.prog g0_1 places1_1 h K := by kernel_rfl
theorem c68 (g0_1 : Value) (places1_1 : Value) (h : Heap) (K : Value → Heap → Prop) (H : t68 Try.prog g0_1 places1_1 h K) : callM Try.prog 68 #[g0_1, places1_1] h K :=
  callM_of_wpA mixed (fn := Try.f68) Try.func68 (c := bodyOf Try.f68) rfl (of_decide_eq_true (by kernel_rfl)) (anOf []) 11 13 (by kernel_rfl) rfl [.tmp 4] (by kernel_rfl) (args := [g0_1, places1_1]) (by rw [e68]; exact H)

/-! laws.eqIntSS -/
def t71 (P : Program) (a0_1 : Value) (b1_1 : Value) (h : Heap) (K : Value → Heap → Prop) : Prop :=
  pop P (lenS 22 3 a0_1) fun t7_1 =>
  pop P (lenS 22 3 b1_1) fun t9_1 =>
  pop P (binE .neq 3 (.tmp 7) (.tmp 9) t7_1 t9_1) fun t10_1 =>
  condM t10_1
  (K (Value.bool false) h)
  (∃ (I_1 : List Value → Heap → Prop) (μ_1 : List Value → Heap → Nat), I_1 [(Value.int IntKind.i64 0)] h ∧
  ∀ (junk_1 : Nat → Value) (i5_1 : Value) (h_1 : Heap), I_1 [i5_1] h_1 →
  pop P (lenS 22 3 a0_1) fun t13_1 =>
  pop P (binA .lss 3 i5_1 t13_1) fun t14_1 =>
  condM t14_1
  (pop P (Instr.indexAt 22 a0_1 i5_1) fun t19_1 =>
  rop P (Instr.loadAt 25 t19_1) h_1 fun t20_1 =>
  pop P (Instr.indexAt 22 b1_1 i5_1) fun t23_1 =>
  rop P (Instr.loadAt 25 t23_1) h_1 fun t24_1 =>
  callM P 53 #[t20_1, t24_1] h_1 fun t25_1 h_2 =>
  pop P (Op.unary .not t25_1) fun t26_1 =>
  condM t26_1
  (K (Value.bool false) h_2)
  (pop P (binA .add 3 i5_1 (Value.int IntKind.i64 1)) fun t16_1 =>
  I_1 [t16_1] h_2 ∧ μ_1 [t16_1] h_2 < μ_1 [i5_1] h_1))
  (K (Value.bool true) h_1))
theorem e71 (a0_1 : Value) (b1_1 : Value) (h : Heap) (K : Value → Heap → Prop) : wpA Try.prog 27 (anOf [(58, [5])]) (bodyOf Try.f71) 1 (fun A h => resA Try.prog A h K [.tmp 4]) (fun _ _ _ => False) (fun A h => resA Try.prog A h K [.tmp 4]) (aargs [a0_1, b1_1] 0) h = t71 Try.prog a0_1 b1_1 h K := by kernel_rfl
theorem c71 (a0_1 : Value) (b1_1 : Value) (h : Heap) (K : Value → Heap → Prop) (H : t71 Try.prog a0_1 b1_1 h K) : callM Try.prog 71 #[a0_1, b1_1] h K :=
  callM_of_wpA mixed (fn := Try.f71) Try.func71 (c := bodyOf Try.f71) rfl (of_decide_eq_true (by kernel_rfl)) (anOf [(58, [5])]) 25 27 (by kernel_rfl) rfl [.tmp 4] (by kernel_rfl) (args := [a0_1, b1_1]) (by rw [e71]; exact H)

/-! spec.l1In -/
def t74 (P : Program) (n0_1 : Value) (lo1_1 : Value) (hi2_1 : Value) (h : Heap) (K : Value → Heap → Prop) : Prop :=
  pop P (binA .geq 3 n0_1 lo1_1) fun t9_1 =>
  guardM t9_1 true (fun k_1 => k_1 n0_1 h) h fun t11_1 h_1 =>
  guardM t9_1 true (fun k_2 => k_2 hi2_1 h_1) h_1 fun t12_1 h_2 =>
  guardM t9_1 true (fun k_3 => pop P (binA .leq 3 t11_1 t12_1) fun t13_1 =>
  k_3 t13_1 h_2) h_2 fun t13_2 h_3 =>
  pop P (pickS t9_1 t13_2 (Value.bool false)) fun t14_1 =>
  K t14_1 h_3
theorem e74 (n0_1 : Value) (lo1_1 : Value) (hi2_1 : Value) (h : Heap) (K : Value → Heap → Prop) : wpA Try.prog 15 (anOf []) (bodyOf Try.f74) 1 (fun A h => resA Try.prog A h K [.tmp 6]) (fun _ _ _ => False) (fun A h => resA Try.prog A h K [.tmp 6]) (aargs [n0_1, lo1_1, hi2_1] 0) h = t74 Try.prog n0_1 lo1_1 hi2_1 h K := by kernel_rfl
theorem c74 (n0_1 : Value) (lo1_1 : Value) (hi2_1 : Value) (h : Heap) (K : Value → Heap → Prop) (H : t74 Try.prog n0_1 lo1_1 hi2_1 h K) : callM Try.prog 74 #[n0_1, lo1_1, hi2_1] h K :=
  callM_of_wpA mixed (fn := Try.f74) Try.func74 (c := bodyOf Try.f74) rfl (of_decide_eq_true (by kernel_rfl)) (anOf []) 12 15 (by kernel_rfl) rfl [.tmp 6] (by kernel_rfl) (args := [n0_1, lo1_1, hi2_1]) (by rw [e74]; exact H)

/-! impl.in -/
def t75 (P : Program) (n0_1 : Value) (low1_1 : Value) (high2_1 : Value) (h : Heap) (K : Value → Heap → Prop) : Prop :=
  pop P (binA .leq 3 low1_1 n0_1) fun t9_1 =>
  guardM t9_1 true (fun k_1 => k_1 n0_1 h) h fun t11_1 h_1 =>
  guardM t9_1 true (fun k_2 => k_2 high2_1 h_1) h_1 fun t12_1 h_2 =>
  guardM t9_1 true (fun k_3 => pop P (binA .leq 3 t11_1 t12_1) fun t13_1 =>
  k_3 t13_1 h_2) h_2 fun t13_2 h_3 =>
  pop P (pickS t9_1 t13_2 (Value.bool false)) fun t14_1 =>
  K t14_1 h_3
theorem e75 (n0_1 : Value) (low1_1 : Value) (high2_1 : Value) (h : Heap) (K : Value → Heap → Prop) : wpA Try.prog 15 (anOf []) (bodyOf Try.f75) 1 (fun A h => resA Try.prog A h K [.tmp 6]) (fun _ _ _ => False) (fun A h => resA Try.prog A h K [.tmp 6]) (aargs [n0_1, low1_1, high2_1] 0) h = t75 Try.prog n0_1 low1_1 high2_1 h K := by kernel_rfl
theorem c75 (n0_1 : Value) (low1_1 : Value) (high2_1 : Value) (h : Heap) (K : Value → Heap → Prop) (H : t75 Try.prog n0_1 low1_1 high2_1 h K) : callM Try.prog 75 #[n0_1, low1_1, high2_1] h K :=
  callM_of_wpA mixed (fn := Try.f75) Try.func75 (c := bodyOf Try.f75) rfl (of_decide_eq_true (by kernel_rfl)) (anOf []) 12 15 (by kernel_rfl) rfl [.tmp 6] (by kernel_rfl) (args := [n0_1, low1_1, high2_1]) (by rw [e75]; exact H)

/-! laws.szIntS -/
def t77 (P : Program) (a0_1 : Value) (left1_1 : Value) (h : Heap) (K : Value → Heap → Prop) : Prop :=
  pop P (lenS 25 3 a0_1) fun t7_1 =>
  pop P (binA .sub 3 left1_1 t7_1) fun t8_1 =>
  pop P (binA .lss 3 t8_1 (Value.int IntKind.i64 0)) fun t10_1 =>
  condM t10_1
  (K (Value.int IntKind.i64 (-1)) h)
  (K t8_1 h)
theorem e77 (a0_1 : Value) (left1_1 : Value) (h : Heap) (K : Value → Heap → Prop) : wpA Try.prog 12 (anOf []) (bodyOf Try.f77) 1 (fun A h => resA Try.prog A h K [.tmp 4]) (fun _ _ _ => False) (fun A h => resA Try.prog A h K [.tmp 4]) (aargs [a0_1, left1_1] 0) h = t77 Try.prog a0_1 left1_1 h K := by kernel_rfl
theorem c77 (a0_1 : Value) (left1_1 : Value) (h : Heap) (K : Value → Heap → Prop) (H : t77 Try.prog a0_1 left1_1 h K) : callM Try.prog 77 #[a0_1, left1_1] h K :=
  callM_of_wpA mixed (fn := Try.f77) Try.func77 (c := bodyOf Try.f77) rfl (of_decide_eq_true (by kernel_rfl)) (anOf []) 10 12 (by kernel_rfl) rfl [.tmp 4] (by kernel_rfl) (args := [a0_1, left1_1]) (by rw [e77]; exact H)

/-! spec.waGood -/
def t78 (P : Program) (g0_1 : Value) (w1_1 : Value) (h : Heap) (K : Value → Heap → Prop) : Prop :=
  eop P (Instr.box 24 g0_1) h fun g2_1 h_1 =>
  eop P (Instr.box 27 w1_1) h_1 fun w3_1 h_2 =>
  rop P (Instr.loadAt 24 g2_1) h_2 fun t7_1 =>
  pop P (Instr.fieldAt 27 w3_1 1) fun t8_1 =>
  rop P (Instr.loadAt 3 t8_1) h_2 fun t9_1 =>
  callM P 64 #[t7_1, t9_1] h_2 fun t10_1 h_3 =>
  pop P (Op.unary .not t10_1) fun t11_1 =>
  guardM t11_1 false (fun k_1 => pop P (Instr.fieldAt 27 w3_1 0) fun t13_1 =>
  k_1 t13_1 h_3) h_3 fun t13_2 h_4 =>
  guardM t11_1 false (fun k_2 => rop P (Instr.loadAt 25 t13_2) h_4 fun t14_1 =>
  k_2 t14_1 h_4) h_4 fun t14_2 h_5 =>
  guardM t11_1 false (fun k_3 => pop P (lenS 25 3 t14_2) fun t15_1 =>
  k_3 t15_1 h_5) h_5 fun t15_2 h_6 =>
  guardM t11_1 false (fun k_4 => pop P (Instr.fieldAt 24 g2_1 0) fun t16_1 =>
  k_4 t16_1 h_6) h_6 fun t16_2 h_7 =>
  guardM t11_1 false (fun k_5 => rop P (Instr.loadAt 22 t16_2) h_7 fun t17_1 =>
  k_5 t17_1 h_7) h_7 fun t17_2 h_8 =>
  guardM t11_1 false (fun k_6 => pop P (lenS 22 3 t17_2) fun t18_1 =>
  k_6 t18_1 h_8) h_8 fun t18_2 h_9 =>
  guardM t11_1 false (fun k_7 => pop P (binE .neq 3 (.tmp 15) (.tmp 18) t15_2 t18_2) fun t19_1 =>
  k_7 t19_1 h_9) h_9 fun t19_2 h_10 =>
  pop P (pickS t11_1 (Value.bool true) t19_2) fun t20_1 =>
  condM t20_1
  (K (Value.bool false) h_10)
  (pop P (Instr.fieldAt 24 g2_1 0) fun t21_1 =>
  rop P (Instr.loadAt 22 t21_1) h_10 fun t22_1 =>
  pop P (lenS 22 3 t22_1) fun t23_1 =>
  ∃ (I_1 : List Value → Heap → Prop) (μ_1 : List Value → Heap → Nat), I_1 [(Value.int IntKind.i64 0)] h_10 ∧
  ∀ (junk_1 : Nat → Value) (t24_1 : Value) (h_11 : Heap), I_1 [t24_1] h_11 →
  pop P (binA .lss 3 t24_1 t23_1) fun t25_1 =>
  condM t25_1
  (pop P (Instr.indexAt 22 t22_1 t24_1) fun t27_1 =>
  rop P (Instr.loadAt 25 t27_1) h_11 fun t28_1 =>
  pop P (Instr.fieldAt 27 w3_1 0) fun t29_1 =>
  rop P (Instr.loadAt 25 t29_1) h_11 fun t30_1 =>
  pop P (Instr.indexAt 25 t30_1 t24_1) fun t32_1 =>
  rop P (Instr.loadAt 3 t32_1) h_11 fun t33_1 =>
  pop P (lenS 25 3 t28_1) fun t35_1 =>
  pop P (binA .sub 3 t35_1 (Value.int IntKind.i64 1)) fun t36_1 =>
  callM P 103 #[(Value.int IntKind.i64 0), t36_1] h_11 fun t37_1 h_12 =>
  (∀ w : World, w.heap = h_12 → (Instr.loadAt 3 t32_1).run P w = .ok t33_1 w) ∧
  (∀ w : World, w.heap = h_12 → (Instr.loadAt 25 t29_1).run P w = .ok t30_1 w) ∧
  callM P 74 #[t33_1, (Value.int IntKind.i64 0), t37_1] h_12 fun t38_1 h_13 =>
  (∀ w : World, w.heap = h_13 → (Instr.loadAt 25 t29_1).run P w = .ok t30_1 w) ∧
  pop P (Op.unary .not t38_1) fun t39_1 =>
  condM t39_1
  (K (Value.bool false) h_13)
  (pop P (binA .add 3 t24_1 (Value.int IntKind.i64 1)) fun t40_1 =>
  I_1 [t40_1] h_13 ∧ μ_1 [t40_1] h_13 < μ_1 [t24_1] h_11))
  (K (Value.bool true) h_11))
theorem e78 (g0_1 : Value) (w1_1 : Value) (h : Heap) (K : Value → Heap → Prop) : wpA Try.prog 41 (anOf [(58, [24])]) (bodyOf Try.f78) 1 (fun A h => resA Try.prog A h K [.tmp 4]) (fun _ _ _ => False) (fun A h => resA Try.prog A h K [.tmp 4]) (aargs [g0_1, w1_1] 0) h = t78 Try.prog g0_1 w1_1 h K := by kernel_rfl
theorem c78 (g0_1 : Value) (w1_1 : Value) (h : Heap) (K : Value → Heap → Prop) (H : t78 Try.prog g0_1 w1_1 h K) : callM Try.prog 78 #[g0_1, w1_1] h K :=
  callM_of_wpA mixed (fn := Try.f78) Try.func78 (c := bodyOf Try.f78) rfl (of_decide_eq_true (by kernel_rfl)) (anOf [(58, [24])]) 39 41 (by kernel_rfl) rfl [.tmp 4] (by kernel_rfl) (args := [g0_1, w1_1]) (by rw [e78]; exact H)

/-! spec.waStep -/
def t79 (P : Program) (g0_1 : Value) (w1_1 : Value) (h : Heap) (K : Value → Heap → Prop) : Prop :=
  eop P (Instr.box 24 g0_1) h fun g2_1 h_1 =>
  eop P (Instr.box 27 w1_1) h_1 fun w3_1 h_2 =>
  eop P (Instr.alloc 27 true (.tuple #[])) h_2 fun t4_1 h_3 =>
  pop P (Instr.fieldAt 24 g2_1 0) fun t9_1 =>
  rop P (Instr.loadAt 22 t9_1) h_3 fun t10_1 =>
  pop P (Instr.fieldAt 27 w3_1 1) fun t11_1 =>
  rop P (Instr.loadAt 3 t11_1) h_3 fun t12_1 =>
  pop P (Instr.indexAt 22 t10_1 t12_1) fun t13_1 =>
  rop P (Instr.loadAt 25 t13_1) h_3 fun t14_1 =>
  pop P (lenS 25 3 t14_1) fun t16_1 =>
  pop P (binE .eql 3 (.tmp 16) (.const (Value.int IntKind.i64 0)) t16_1 (Value.int IntKind.i64 0)) fun t17_1 =>
  condM t17_1
  (rop P (Instr.loadAt 27 w3_1) h_3 fun t18_1 =>
  uop P (Instr.storeAt 27 t4_1 t18_1) h_3 fun u_1 h_4 =>
  rop P (Instr.loadAt 27 t4_1) h_4 fun r_1 =>
  K (.tuple #[r_1, (Value.bool false)]) h_4)
  (pop P (Instr.fieldAt 27 w3_1 0) fun t19_1 =>
  rop P (Instr.loadAt 25 t19_1) h_3 fun t20_1 =>
  callM P 88 #[t20_1] h_3 fun t21_1 h_5 =>
  pop P (Instr.build 27 #[(0, t21_1)]) fun t22_1 =>
  eop P (Instr.alloc 27 true (.tuple #[])) h_5 fun out7_1 h_6 =>
  uop P (Instr.storeAt 27 out7_1 t22_1) h_6 fun u_2 h_7 =>
  pop P (Instr.fieldAt 27 w3_1 0) fun t23_1 =>
  rop P (Instr.loadAt 25 t23_1) h_7 fun t24_1 =>
  pop P (Instr.fieldAt 27 w3_1 1) fun t25_1 =>
  rop P (Instr.loadAt 3 t25_1) h_7 fun t26_1 =>
  pop P (Instr.indexAt 25 t24_1 t26_1) fun t27_1 =>
  rop P (Instr.loadAt 3 t27_1) h_7 fun t28_1 =>
  pop P (binA .add 3 t28_1 (Value.int IntKind.i64 1)) fun t29_1 =>
  pop P (lenS 25 3 t14_1) fun t31_1 =>
  pop P (binA .rem 3 t29_1 t31_1) fun t32_1 =>
  pop P (Instr.fieldAt 27 out7_1 0) fun t33_1 =>
  rop P (Instr.loadAt 25 t33_1) h_7 fun t34_1 =>
  pop P (Instr.fieldAt 27 w3_1 1) fun t35_1 =>
  rop P (Instr.loadAt 3 t35_1) h_7 fun t36_1 =>
  pop P (Instr.indexAt 25 t34_1 t36_1) fun t38_1 =>
  uop P (Instr.storeAt 3 t38_1 t32_1) h_7 fun u_3 h_8 =>
  pop P (Instr.indexAt 25 t14_1 t32_1) fun t41_1 =>
  rop P (Instr.loadAt 3 t41_1) h_8 fun t42_1 =>
  pop P (Instr.fieldAt 27 out7_1 1) fun t43_1 =>
  uop P (Instr.storeAt 3 t43_1 t42_1) h_8 fun u_4 h_9 =>
  rop P (Instr.loadAt 27 out7_1) h_9 fun t44_1 =>
  uop P (Instr.storeAt 27 t4_1 t44_1) h_9 fun u_5 h_10 =>
  rop P (Instr.loadAt 27 t4_1) h_10 fun r_2 =>
  K (.tuple #[r_2, (Value.bool true)]) h_10)
theorem e79 (g0_1 : Value) (w1_1 : Value) (h : Heap) (K : Value → Heap → Prop) : wpA Try.prog 45 (anOf []) (bodyOf Try.f79) 1 (fun A h => resA Try.prog A h K [.cell 4 27, .tmp 5]) (fun _ _ _ => False) (fun A h => resA Try.prog A h K [.cell 4 27, .tmp 5]) (aargs [g0_1, w1_1] 0) h = t79 Try.prog g0_1 w1_1 h K := by kernel_rfl
theorem c79 (g0_1 : Value) (w1_1 : Value) (h : Heap) (K : Value → Heap → Prop) (H : t79 Try.prog g0_1 w1_1 h K) : callM Try.prog 79 #[g0_1, w1_1] h K :=
  callM_of_wpA mixed (fn := Try.f79) Try.func79 (c := bodyOf Try.f79) rfl (of_decide_eq_true (by kernel_rfl)) (anOf []) 43 45 (by kernel_rfl) rfl [.cell 4 27, .tmp 5] (by kernel_rfl) (args := [g0_1, w1_1]) (by rw [e79]; exact H)

/-! laws.toIntS -/
def t80 (P : Program) (a0_1 : Value) (h : Heap) (K : Value → Heap → Prop) : Prop :=
  pop P (lenS 25 3 a0_1) fun t6_1 =>
  eop P (Instr.makeSlice 25 t6_1 t6_1) h fun t7_1 h_1 =>
  ∃ (I_1 : List Value → Heap → Prop) (μ_1 : List Value → Heap → Nat), I_1 [(Value.int IntKind.i64 0)] h_1 ∧
  ∀ (junk_1 : Nat → Value) (i4_1 : Value) (h_2 : Heap), I_1 [i4_1] h_2 →
  pop P (lenS 25 3 a0_1) fun t10_1 =>
  pop P (binA .lss 3 i4_1 t10_1) fun t11_1 =>
  condM t11_1
  (pop P (Instr.indexAt 25 a0_1 i4_1) fun t18_1 =>
  rop P (Instr.loadAt 3 t18_1) h_2 fun t19_1 =>
  pop P (Instr.indexAt 25 t7_1 i4_1) fun t20_1 =>
  uop P (Instr.storeAt 3 t20_1 t19_1) h_2 fun u_1 h_3 =>
  pop P (binA .add 3 i4_1 (Value.int IntKind.i64 1)) fun t13_1 =>
  I_1 [t13_1] h_3 ∧ μ_1 [t13_1] h_3 < μ_1 [i4_1] h_2)
  (K t7_1 h_2)
theorem e80 (a0_1 : Value) (h : Heap) (K : Value → Heap → Prop) : wpA Try.prog 22 (anOf [(58, [4])]) (bodyOf Try.f80) 1 (fun A h => resA Try.prog A h K [.tmp 2]) (fun _ _ _ => False) (fun A h => resA Try.prog A h K [.tmp 2]) (aargs [a0_1] 0) h = t80 Try.prog a0_1 h K := by kernel_rfl
theorem c80 (a0_1 : Value) (h : Heap) (K : Value → Heap → Prop) (H : t80 Try.prog a0_1 h K) : callM Try.prog 80 #[a0_1] h K :=
  callM_of_wpA mixed (fn := Try.f80) Try.func80 (c := bodyOf Try.f80) rfl (of_decide_eq_true (by kernel_rfl)) (anOf [(58, [4])]) 21 22 (by kernel_rfl) rfl [.tmp 2] (by kernel_rfl) (args := [a0_1]) (by rw [e80]; exact H)

/-! impl.isWalk -/
def t81 (P : Program) (g0_1 : Value) (w1_1 : Value) (h : Heap) (K : Value → Heap → Prop) : Prop :=
  eop P (Instr.box 24 g0_1) h fun g2_1 h_1 =>
  eop P (Instr.box 27 w1_1) h_1 fun w3_1 h_2 =>
  rop P (Instr.loadAt 24 g2_1) h_2 fun t7_1 =>
  pop P (Instr.fieldAt 27 w3_1 1) fun t8_1 =>
  rop P (Instr.loadAt 3 t8_1) h_2 fun t9_1 =>
  eop P (Instr.buildSlice 25 1 #[(0, t9_1)]) h_2 fun t10_1 h_3 =>
  callM P 68 #[t7_1, t10_1] h_3 fun t11_1 h_4 =>
  pop P (Op.unary .not t11_1) fun t12_1 =>
  guardM t12_1 false (fun k_1 => pop P (Instr.fieldAt 27 w3_1 0) fun t14_1 =>
  k_1 t14_1 h_4) h_4 fun t14_2 h_5 =>
  guardM t12_1 false (fun k_2 => rop P (Instr.loadAt 25 t14_2) h_5 fun t15_1 =>
  k_2 t15_1 h_5) h_5 fun t15_2 h_6 =>
  guardM t12_1 false (fun k_3 => pop P (lenS 25 3 t15_2) fun t16_1 =>
  k_3 t16_1 h_6) h_6 fun t16_2 h_7 =>
  guardM t12_1 false (fun k_4 => pop P (Instr.fieldAt 24 g2_1 0) fun t17_1 =>
  k_4 t17_1 h_7) h_7 fun t17_2 h_8 =>
  guardM t12_1 false (fun k_5 => rop P (Instr.loadAt 22 t17_2) h_8 fun t18_1 =>
  k_5 t18_1 h_8) h_8 fun t18_2 h_9 =>
  guardM t12_1 false (fun k_6 => pop P (lenS 22 3 t18_2) fun t19_1 =>
  k_6 t19_1 h_9) h_9 fun t19_2 h_10 =>
  guardM t12_1 false (fun k_7 => pop P (binE .neq 3 (.tmp 16) (.tmp 19) t16_2 t19_2) fun t20_1 =>
  k_7 t20_1 h_10) h_10 fun t20_2 h_11 =>
  pop P (pickS t12_1 (Value.bool true) t20_2) fun t21_1 =>
  condM t21_1
  (K (Value.bool false) h_11)
  (pop P (Instr.fieldAt 27 w3_1 0) fun t22_1 =>
  rop P (Instr.loadAt 25 t22_1) h_11 fun t23_1 =>
  pop P (lenS 25 3 t23_1) fun t24_1 =>
  ∃ (I_1 : List Value → Heap → Prop) (μ_1 : List Value → Heap → Nat), I_1 [(Value.int IntKind.i64 0)] h_11 ∧
  ∀ (junk_1 : Nat → Value) (t25_1 : Value) (h_12 : Heap), I_1 [t25_1] h_12 →
  pop P (binA .lss 3 t25_1 t24_1) fun t26_1 =>
  condM t26_1
  (pop P (Instr.indexAt 25 t23_1 t25_1) fun t28_1 =>
  rop P (Instr.loadAt 3 t28_1) h_12 fun t29_1 =>
  pop P (Instr.fieldAt 24 g2_1 0) fun t31_1 =>
  rop P (Instr.loadAt 22 t31_1) h_12 fun t32_1 =>
  pop P (Instr.indexAt 22 t32_1 t25_1) fun t34_1 =>
  rop P (Instr.loadAt 25 t34_1) h_12 fun t35_1 =>
  pop P (lenS 25 3 t35_1) fun t36_1 =>
  pop P (binA .sub 3 t36_1 (Value.int IntKind.i64 1)) fun t37_1 =>
  pop P (Builtin.max_ #[3, 3] 3 #[t37_1, (Value.int IntKind.i64 0)]) fun t38_1 =>
  callM P 75 #[t29_1, (Value.int IntKind.i64 0), t38_1] h_12 fun t39_1 h_13 =>
  pop P (Op.unary .not t39_1) fun t40_1 =>
  condM t40_1
  (K (Value.bool false) h_13)
  (pop P (binA .add 3 t25_1 (Value.int IntKind.i64 1)) fun t41_1 =>
  I_1 [t41_1] h_13 ∧ μ_1 [t41_1] h_13 < μ_1 [t25_1] h_12))
  (K (Value.bool true) h_12))
theorem e81 (g0_1 : Value) (w1_1 : Value) (h : Heap) (K : Value → Heap → Prop) : wpA Try.prog 42 (anOf [(58, [25])]) (bodyOf Try.f81) 1 (fun A h => resA Try.prog A h K [.tmp 4]) (fun _ _ _ => False) (fun A h => resA Try.prog A h K [.tmp 4]) (aargs [g0_1, w1_1] 0) h = t81 Try.prog g0_1 w1_1 h K := by kernel_rfl
theorem c81 (g0_1 : Value) (w1_1 : Value) (h : Heap) (K : Value → Heap → Prop) (H : t81 Try.prog g0_1 w1_1 h K) : callM Try.prog 81 #[g0_1, w1_1] h K :=
  callM_of_wpA mixed (fn := Try.f81) Try.func81 (c := bodyOf Try.f81) rfl (of_decide_eq_true (by kernel_rfl)) (anOf [(58, [25])]) 40 42 (by kernel_rfl) rfl [.tmp 4] (by kernel_rfl) (args := [g0_1, w1_1]) (by rw [e81]; exact H)

/-! (impl.Graph).firstTime -/
def t82 (P : Program) (g0_1 : Value) (w1_1 : Value) (from2_1 : Value) (so3_1 : Value) (h : Heap) (K : Value → Heap → Prop) : Prop :=
  eop P (Instr.box 24 g0_1) h fun g4_1 h_1 =>
  eop P (Instr.box 27 w1_1) h_1 fun w5_1 h_2 =>
  rop P (Instr.loadAt 27 w5_1) h_2 fun t12_1 =>
  callM P 89 #[t12_1] h_2 fun t13_1 h_3 =>
  eop P (Instr.alloc 27 true (.tuple #[])) h_3 fun now10_1 h_4 =>
  uop P (Instr.storeAt 27 now10_1 t13_1) h_4 fun u_1 h_5 =>
  ∃ (I_1 : List Value → Heap → Prop) (μ_1 : List Value → Heap → Nat), I_1 [(Value.int IntKind.i64 0)] h_5 ∧
  ∀ (junk_1 : Nat → Value) (n11_1 : Value) (h_6 : Heap), I_1 [n11_1] h_6 →
  pop P (binA .leq 3 n11_1 (Value.int IntKind.i64 2000)) fun t15_1 =>
  condM t15_1
  (pop P (binA .geq 3 n11_1 from2_1) fun t20_1 =>
  guardM t20_1 true (fun k_1 => k_1 so3_1 h_6) h_6 fun t22_1 h_7 =>
  guardM t20_1 true (fun k_2 => rop P (Instr.loadAt 27 now10_1) h_7 fun t23_1 =>
  k_2 t23_1 h_7) h_7 fun t23_2 h_8 =>
  guardM t20_1 true (fun k_3 => callV P t22_1 [t23_2] h_8 fun t24_1 h_9 =>
  k_3 t24_1 h_9) h_8 fun t24_2 h_10 =>
  pop P (pickS t20_1 t24_2 (Value.bool false)) fun t25_1 =>
  condM t25_1
  (K (.tuple #[n11_1, (Value.bool true)]) h_10)
  (rop P (Instr.loadAt 24 g4_1) h_10 fun t27_1 =>
  callM P 104 #[t27_1, now10_1] h_10 fun t28_1 h_11 =>
  pop P (Op.unary .not t28_1) fun t29_1 =>
  condM t29_1
  (K (.tuple #[(Value.int IntKind.i64 0), (Value.bool false)]) h_11)
  (pop P (binA .add 3 n11_1 (Value.int IntKind.i64 1)) fun t17_1 =>
  I_1 [t17_1] h_11 ∧ μ_1 [t17_1] h_11 < μ_1 [n11_1] h_6)))
  (K (.tuple #[(Value.int IntKind.i64 0), (Value.bool false)]) h_6)
theorem e82 (g0_1 : Value) (w1_1 : Value) (from2_1 : Value) (so3_1 : Value) (h : Heap) (K : Value → Heap → Prop) : wpA Try.prog 30 (anOf [(58, [11])]) (bodyOf Try.f82) 1 (fun A h => resA Try.prog A h K [.tmp 8, .tmp 9]) (fun _ _ _ => False) (fun A h => resA Try.prog A h K [.tmp 8, .tmp 9]) (aargs [g0_1, w1_1, from2_1, so3_1] 0) h = t82 Try.prog g0_1 w1_1 from2_1 so3_1 h K := by kernel_rfl
theorem c82 (g0_1 : Value) (w1_1 : Value) (from2_1 : Value) (so3_1 : Value) (h : Heap) (K : Value → Heap → Prop) (H : t82 Try.prog g0_1 w1_1 from2_1 so3_1 h K) : callM Try.prog 82 #[g0_1, w1_1, from2_1, so3_1] h K :=
  callM_of_wpA mixed (fn := Try.f82) Try.func82 (c := bodyOf Try.f82) rfl (of_decide_eq_true (by kernel_rfl)) (anOf [(58, [11])]) 26 30 (by kernel_rfl) rfl [.tmp 8, .tmp 9] (by kernel_rfl) (args := [g0_1, w1_1, from2_1, so3_1]) (by rw [e82]; exact H)

/-! spec.waAgain -/
def t86 (P : Program) (g0_1 : Value) (w1_1 : Value) (most2_1 : Value) (h : Heap) (K : Value → Heap → Prop) : Prop :=
  eop P (Instr.box 24 g0_1) h fun g3_1 h_1 =>
  eop P (Instr.box 27 w1_1) h_1 fun w4_1 h_2 =>
  rop P (Instr.loadAt 27 w4_1) h_2 fun t11_1 =>
  eop P (Instr.alloc 27 true (.tuple #[])) h_2 fun now7_1 h_3 =>
  uop P (Instr.storeAt 27 now7_1 t11_1) h_3 fun u_1 h_4 =>
  ∃ (I_1 : List Value → Heap → Prop) (μ_1 : List Value → Heap → Nat), I_1 [(Value.int IntKind.i64 1)] h_4 ∧
  ∀ (junk_1 : Nat → Value) (n8_1 : Value) (h_5 : Heap), I_1 [n8_1] h_5 →
  pop P (binA .leq 3 n8_1 most2_1) fun t14_1 =>
  condM t14_1
  (rop P (Instr.loadAt 24 g3_1) h_5 fun t18_1 =>
  rop P (Instr.loadAt 27 now7_1) h_5 fun t19_1 =>
  callM P 79 #[t18_1, t19_1] h_5 fun t20_1 h_6 =>
  pop P (Instr.extract t20_1 0) fun t21_1 =>
  pop P (Instr.extract t20_1 1) fun t22_1 =>
  eop P (Instr.alloc 27 true (.tuple #[])) h_6 fun next9_1 h_7 =>
  uop P (Instr.storeAt 27 next9_1 t21_1) h_7 fun u_2 h_8 =>
  pop P (Op.unary .not t22_1) fun t24_1 =>
  condM t24_1
  (K (Value.int IntKind.i64 0) h_8)
  (rop P (Instr.loadAt 27 next9_1) h_8 fun t25_1 =>
  uop P (Instr.storeAt 27 now7_1 t25_1) h_8 fun u_3 h_9 =>
  rop P (Instr.loadAt 27 now7_1) h_9 fun t26_1 =>
  rop P (Instr.loadAt 27 w4_1) h_9 fun t27_1 =>
  callM P 106 #[t26_1, t27_1] h_9 fun t28_1 h_10 =>
  condM t28_1
  (K n8_1 h_10)
  (pop P (binA .add 3 n8_1 (Value.int IntKind.i64 1)) fun t16_1 =>
  I_1 [t16_1] h_10 ∧ μ_1 [t16_1] h_10 < μ_1 [n8_1] h_5)))
  (K (Value.int IntKind.i64 0) h_5)
theorem e86 (g0_1 : Value) (w1_1 : Value) (most2_1 : Value) (h : Heap) (K : Value → Heap → Prop) : wpA Try.prog 30 (anOf [(58, [8])]) (bodyOf Try.f86) 1 (fun A h => resA Try.prog A h K [.tmp 6]) (fun _ _ _ => False) (fun A h => resA Try.prog A h K [.tmp 6]) (aargs [g0_1, w1_1, most2_1] 0) h = t86 Try.prog g0_1 w1_1 most2_1 h K := by kernel_rfl
theorem c86 (g0_1 : Value) (w1_1 : Value) (most2_1 : Value) (h : Heap) (K : Value → Heap → Prop) (H : t86 Try.prog g0_1 w1_1 most2_1 h K) : callM Try.prog 86 #[g0_1, w1_1, most2_1] h K :=
  callM_of_wpA mixed (fn := Try.f86) Try.func86 (c := bodyOf Try.f86) rfl (of_decide_eq_true (by kernel_rfl)) (anOf [(58, [8])]) 27 30 (by kernel_rfl) rfl [.tmp 6] (by kernel_rfl) (args := [g0_1, w1_1, most2_1]) (by rw [e86]; exact H)

/-! (impl.Walk).is -/
def t87 (P : Program) (w0_1 : Value) (o1_1 : Value) (h : Heap) (K : Value → Heap → Prop) : Prop :=
  eop P (Instr.box 27 w0_1) h fun w2_1 h_1 =>
  eop P (Instr.box 27 o1_1) h_1 fun o3_1 h_2 =>
  pop P (Instr.fieldAt 27 w2_1 1) fun t5_1 =>
  rop P (Instr.loadAt 3 t5_1) h_2 fun t6_1 =>
  pop P (Instr.fieldAt 27 o3_1 1) fun t7_1 =>
  rop P (Instr.loadAt 3 t7_1) h_2 fun t8_1 =>
  pop P (binE .eql 3 (.tmp 6) (.tmp 8) t6_1 t8_1) fun t9_1 =>
  guardM t9_1 true (fun k_1 => pop P (Instr.fieldAt 27 w2_1 0) fun t11_1 =>
  k_1 t11_1 h_2) h_2 fun t11_2 h_3 =>
  guardM t9_1 true (fun k_2 => rop P (Instr.loadAt 25 t11_2) h_3 fun t12_1 =>
  k_2 t12_1 h_3) h_3 fun t12_2 h_4 =>
  guardM t9_1 true (fun k_3 => pop P (Instr.fieldAt 27 o3_1 0) fun t13_1 =>
  k_3 t13_1 h_4) h_4 fun t13_2 h_5 =>
  guardM t9_1 true (fun k_4 => rop P (Instr.loadAt 25 t13_2) h_5 fun t14_1 =>
  k_4 t14_1 h_5) h_5 fun t14_2 h_6 =>
  guardM t9_1 true (fun k_5 => callM P 107 #[t12_2, t14_2] h_6 fun t15_1 h_7 =>
  k_5 t15_1 h_7) h_6 fun t15_2 h_8 =>
  pop P (pickS t9_1 t15_2 (Value.bool false)) fun t16_1 =>
  K t16_1 h_8
theorem e87 (w0_1 : Value) (o1_1 : Value) (h : Heap) (K : Value → Heap → Prop) : wpA Try.prog 17 (anOf []) (bodyOf Try.f87) 1 (fun A h => resA Try.prog A h K [.tmp 4]) (fun _ _ _ => False) (fun A h => resA Try.prog A h K [.tmp 4]) (aargs [w0_1, o1_1] 0) h = t87 Try.prog w0_1 o1_1 h K := by kernel_rfl
theorem c87 (w0_1 : Value) (o1_1 : Value) (h : Heap) (K : Value → Heap → Prop) (H : t87 Try.prog w0_1 o1_1 h K) : callM Try.prog 87 #[w0_1, o1_1] h K :=
  callM_of_wpA mixed (fn := Try.f87) Try.func87 (c := bodyOf Try.f87) rfl (of_decide_eq_true (by kernel_rfl)) (anOf []) 15 17 (by kernel_rfl) rfl [.tmp 4] (by kernel_rfl) (args := [w0_1, o1_1]) (by rw [e87]; exact H)

/-! spec.l1Own -/
def t88 (P : Program) (l0_1 : Value) (h : Heap) (K : Value → Heap → Prop) : Prop :=
  eop P (Instr.buildSlice 25 0 #[]) h fun t3_1 h_1 =>
  eop P (appS 25 25 25 t3_1 l0_1) h_1 fun t5_1 h_2 =>
  K t5_1 h_2
theorem e88 (l0_1 : Value) (h : Heap) (K : Value → Heap → Prop) : wpA Try.prog 6 (anOf []) (bodyOf Try.f88) 1 (fun A h => resA Try.prog A h K [.tmp 2]) (fun _ _ _ => False) (fun A h => resA Try.prog A h K [.tmp 2]) (aargs [l0_1] 0) h = t88 Try.prog l0_1 h K := by kernel_rfl
theorem c88 (l0_1 : Value) (h : Heap) (K : Value → Heap → Prop) (H : t88 Try.prog l0_1 h K) : callM Try.prog 88 #[l0_1] h K :=
  callM_of_wpA mixed (fn := Try.f88) Try.func88 (c := bodyOf Try.f88) rfl (of_decide_eq_true (by kernel_rfl)) (anOf []) 5 6 (by kernel_rfl) rfl [.tmp 2] (by kernel_rfl) (args := [l0_1]) (by rw [e88]; exact H)

/-! (impl.Walk).copied -/
def t89 (P : Program) (w0_1 : Value) (h : Heap) (K : Value → Heap → Prop) : Prop :=
  eop P (Instr.box 27 w0_1) h fun w1_1 h_1 =>
  eop P (Instr.alloc 27 true (.tuple #[])) h_1 fun t2_1 h_2 =>
  pop P (Instr.fieldAt 27 w1_1 0) fun t3_1 =>
  rop P (Instr.loadAt 25 t3_1) h_2 fun t4_1 =>
  pop P (Instr.fieldAt 27 w1_1 1) fun t6_1 =>
  rop P (Instr.loadAt 3 t6_1) h_2 fun t7_1 =>
  callM P 101 #[t4_1] h_2 fun t5_1 h_3 =>
  (∀ w : World, w.heap = h_3 → (Instr.loadAt 3 t6_1).run P w = .ok t7_1 w) ∧
  pop P (Instr.build 27 #[(0, t5_1), (1, t7_1)]) fun t8_1 =>
  uop P (Instr.storeAt 27 t2_1 t8_1) h_3 fun u_1 h_4 =>
  rop P (Instr.loadAt 27 t2_1) h_4 fun r_1 =>
  K r_1 h_4
theorem e89 (w0_1 : Value) (h : Heap) (K : Value → Heap → Prop) : wpA Try.prog 9 (anOf []) (bodyOf Try.f89) 1 (fun A h => resA Try.prog A h K [.cell 2 27]) (fun _ _ _ => False) (fun A h => resA Try.prog A h K [.cell 2 27]) (aargs [w0_1] 0) h = t89 Try.prog w0_1 h K := by kernel_rfl
theorem c89 (w0_1 : Value) (h : Heap) (K : Value → Heap → Prop) (H : t89 Try.prog w0_1 h K) : callM Try.prog 89 #[w0_1] h K :=
  callM_of_wpA mixed (fn := Try.f89) Try.func89 (c := bodyOf Try.f89) rfl (of_decide_eq_true (by kernel_rfl)) (anOf []) 8 9 (by kernel_rfl) rfl [.cell 2 27] (by kernel_rfl) (args := [w0_1]) (by rw [e89]; exact H)

/-! spec.grGood -/
def t97 (P : Program) (g0_1 : Value) (h : Heap) (K : Value → Heap → Prop) : Prop :=
  eop P (Instr.box 24 g0_1) h fun g1_1 h_1 =>
  pop P (Instr.fieldAt 24 g1_1 0) fun t6_1 =>
  rop P (Instr.loadAt 22 t6_1) h_1 fun t7_1 =>
  pop P (lenS 22 3 t7_1) fun t8_1 =>
  callM P 74 #[t8_1, (Value.int IntKind.i64 1), (Value.int IntKind.i64 8)] h_1 fun t10_1 h_2 =>
  pop P (Op.unary .not t10_1) fun t11_1 =>
  condM t11_1
  (K (Value.bool false) h_2)
  (pop P (Instr.fieldAt 24 g1_1 0) fun t12_1 =>
  rop P (Instr.loadAt 22 t12_1) h_2 fun t13_1 =>
  pop P (lenS 22 3 t13_1) fun t14_1 =>
  ∃ (I_1 : List Value → Heap → Prop) (μ_1 : List Value → Heap → Nat), I_1 [(Value.int IntKind.i64 0)] h_2 ∧
  ∀ (junk_1 : Nat → Value) (t15_1 : Value) (h_3 : Heap), I_1 [t15_1] h_3 →
  pop P (binA .lss 3 t15_1 t14_1) fun t16_1 =>
  condM t16_1
  (pop P (Instr.indexAt 22 t13_1 t15_1) fun t17_1 =>
  rop P (Instr.loadAt 25 t17_1) h_3 fun t18_1 =>
  pop P (lenS 25 3 t18_1) fun t20_1 =>
  pop P (binA .gtr 3 t20_1 (Value.int IntKind.i64 5)) fun t21_1 =>
  guardM t21_1 false (fun k_1 => k_1 t18_1 h_3) h_3 fun t23_1 h_4 =>
  guardM t21_1 false (fun k_2 => k_2 t8_1 h_4) h_4 fun t24_1 h_5 =>
  guardM t21_1 false (fun k_3 => pop P (binA .sub 3 t24_1 (Value.int IntKind.i64 1)) fun t25_1 =>
  k_3 t25_1 h_5) h_5 fun t25_2 h_6 =>
  guardM t21_1 false (fun k_4 => callM P 108 #[t23_1, (Value.int IntKind.i64 0), t25_2] h_6 fun t26_1 h_7 =>
  k_4 t26_1 h_7) h_6 fun t26_2 h_8 =>
  guardM t21_1 false (fun k_5 => pop P (Op.unary .not t26_2) fun t27_1 =>
  k_5 t27_1 h_8) h_8 fun t27_2 h_9 =>
  pop P (pickS t21_1 (Value.bool true) t27_2) fun t28_1 =>
  condM t28_1
  (K (Value.bool false) h_9)
  (pop P (binA .add 3 t15_1 (Value.int IntKind.i64 1)) fun t29_1 =>
  I_1 [t29_1] h_9 ∧ μ_1 [t29_1] h_9 < μ_1 [t15_1] h_3))
  (K (Value.bool true) h_3))
theorem e97 (g0_1 : Value) (h : Heap) (K : Value → Heap → Prop) : wpA Try.prog 30 (anOf [(122, [15])]) (bodyOf Try.f97) 1 (fun A h => resA Try.prog A h K [.tmp 2]) (fun _ _ _ => False) (fun A h => resA Try.prog A h K [.tmp 2]) (aargs [g0_1] 0) h = t97 Try.prog g0_1 h K := by kernel_rfl
theorem c97 (g0_1 : Value) (h : Heap) (K : Value → Heap → Prop) (H : t97 Try.prog g0_1 h K) : callM Try.prog 97 #[g0_1] h K :=
  callM_of_wpA mixed (fn := Try.f97) Try.func97 (c := bodyOf Try.f97) rfl (of_decide_eq_true (by kernel_rfl)) (anOf [(122, [15])]) 29 30 (by kernel_rfl) rfl [.tmp 2] (by kernel_rfl) (args := [g0_1]) (by rw [e97]; exact H)

/-! impl.isGraph -/
def t98 (P : Program) (g0_1 : Value) (h : Heap) (K : Value → Heap → Prop) : Prop :=
  eop P (Instr.box 24 g0_1) h fun g1_1 h_1 =>
  pop P (Instr.fieldAt 24 g1_1 0) fun t6_1 =>
  rop P (Instr.loadAt 22 t6_1) h_1 fun t7_1 =>
  pop P (lenS 22 3 t7_1) fun t8_1 =>
  eop P (Instr.alloc 3 true (.tuple #[])) h_1 fun n3_1 h_2 =>
  uop P (Instr.storeAt 3 n3_1 t8_1) h_2 fun u_1 h_3 =>
  rop P (Instr.loadAt 3 n3_1) h_3 fun t9_1 =>
  callM P 75 #[t9_1, (Value.int IntKind.i64 1), (Value.int IntKind.i64 8)] h_3 fun t10_1 h_4 =>
  pop P (Op.unary .not t10_1) fun t11_1 =>
  condM t11_1
  (K (Value.bool false) h_4)
  (pop P (Instr.fieldAt 24 g1_1 0) fun t12_1 =>
  rop P (Instr.loadAt 22 t12_1) h_4 fun t13_1 =>
  pop P (lenS 22 3 t13_1) fun t14_1 =>
  ∃ (I_1 : List Value → Heap → Prop) (μ_1 : List Value → Heap → Nat), I_1 [(Value.int IntKind.i64 0)] h_4 ∧
  ∀ (junk_1 : Nat → Value) (t15_1 : Value) (h_5 : Heap), I_1 [t15_1] h_5 →
  pop P (binA .lss 3 t15_1 t14_1) fun t16_1 =>
  condM t16_1
  (pop P (Instr.indexAt 22 t13_1 t15_1) fun t17_1 =>
  rop P (Instr.loadAt 25 t17_1) h_5 fun t18_1 =>
  pop P (lenS 25 3 t18_1) fun t20_1 =>
  pop P (binA .gtr 3 t20_1 (Value.int IntKind.i64 5)) fun t21_1 =>
  guardM t21_1 false (fun k_1 => k_1 t18_1 h_5) h_5 fun t23_1 h_6 =>
  guardM t21_1 false (fun k_2 => pop P (Instr.makeFunc (Fn.func 109) #[] #[n3_1]) fun t24_1 =>
  k_2 t24_1 h_6) h_6 fun t24_2 h_7 =>
  guardM t21_1 false (fun k_3 => callM P 99 #[t23_1, t24_2] h_7 fun t25_1 h_8 =>
  k_3 t25_1 h_8) h_7 fun t25_2 h_9 =>
  pop P (pickS t21_1 (Value.bool true) t25_2) fun t26_1 =>
  condM t26_1
  (K (Value.bool false) h_9)
  (pop P (binA .add 3 t15_1 (Value.int IntKind.i64 1)) fun t27_1 =>
  I_1 [t27_1] h_9 ∧ μ_1 [t27_1] h_9 < μ_1 [t15_1] h_5))
  (K (Value.bool true) h_5))
theorem e98 (g0_1 : Value) (h : Heap) (K : Value → Heap → Prop) : wpA Try.prog 28 (anOf [(122, [15])]) (bodyOf Try.f98) 1 (fun A h => resA Try.prog A h K [.tmp 2]) (fun _ _ _ => False) (fun A h => resA Try.prog A h K [.tmp 2]) (aargs [g0_1] 0) h = t98 Try.prog g0_1 h K := by kernel_rfl
theorem c98 (g0_1 : Value) (h : Heap) (K : Value → Heap → Prop) (H : t98 Try.prog g0_1 h K) : callM Try.prog 98 #[g0_1] h K :=
  callM_of_wpA mixed (fn := Try.f98) Try.func98 (c := bodyOf Try.f98) rfl (of_decide_eq_true (by kernel_rfl)) (anOf [(122, [15])]) 27 28 (by kernel_rfl) rfl [.tmp 2] (by kernel_rfl) (args := [g0_1]) (by rw [e98]; exact H)

/-! slices.ContainsFunc[[]int,int] -/
def t99 (P : Program) (s0_1 : Value) (f1_1 : Value) (h : Heap) (K : Value → Heap → Prop) : Prop :=
  callM P 110 #[s0_1, f1_1] h fun t7_1 h_1 =>
  pop P (binA .geq 3 t7_1 (Value.int IntKind.i64 0)) fun t8_1 =>
  K t8_1 h_1
theorem e99 (s0_1 : Value) (f1_1 : Value) (h : Heap) (K : Value → Heap → Prop) : wpA Try.prog 9 (anOf []) (bodyOf Try.f99) 1 (fun A h => resA Try.prog A h K [.tmp 4]) (fun _ _ _ => False) (fun A h => resA Try.prog A h K [.tmp 4]) (aargs [s0_1, f1_1] 0) h = t99 Try.prog s0_1 f1_1 h K := by kernel_rfl
theorem c99 (s0_1 : Value) (f1_1 : Value) (h : Heap) (K : Value → Heap → Prop) (H : t99 Try.prog s0_1 f1_1 h K) : callM Try.prog 99 #[s0_1, f1_1] h K :=
  callM_of_wpA mixed (fn := Try.f99) Try.func99 (c := bodyOf Try.f99) rfl (of_decide_eq_true (by kernel_rfl)) (anOf []) 7 9 (by kernel_rfl) rfl [.tmp 4] (by kernel_rfl) (args := [s0_1, f1_1]) (by rw [e99]; exact H)

/-! impl.has$1 -/
def t100 (P : Program) (p0_1 : Value) (t1_1 : Value) (h : Heap) (K : Value → Heap → Prop) : Prop :=
  pop P (Instr.fieldAt 24 t1_1 0) fun t5_1 =>
  rop P (Instr.loadAt 22 t5_1) h fun t6_1 =>
  pop P (lenS 22 3 t6_1) fun t7_1 =>
  pop P (binA .sub 3 t7_1 (Value.int IntKind.i64 1)) fun t8_1 =>
  callM P 75 #[p0_1, (Value.int IntKind.i64 0), t8_1] h fun t9_1 h_1 =>
  pop P (Op.unary .not t9_1) fun t10_1 =>
  K t10_1 h_1
theorem e100 (p0_1 : Value) (t1_1 : Value) (h : Heap) (K : Value → Heap → Prop) : wpA Try.prog 11 (anOf []) (bodyOf Try.f100) 1 (fun A h => resA Try.prog A h K [.tmp 3]) (fun _ _ _ => False) (fun A h => resA Try.prog A h K [.tmp 3]) (aargs [p0_1, t1_1] 0) h = t100 Try.prog p0_1 t1_1 h K := by kernel_rfl
theorem c100 (p0_1 : Value) (t1_1 : Value) (h : Heap) (K : Value → Heap → Prop) (H : t100 Try.prog p0_1 t1_1 h K) : callM Try.prog 100 #[p0_1, t1_1] h K :=
  callM_of_wpA mixed (fn := Try.f100) Try.func100 (c := bodyOf Try.f100) rfl (of_decide_eq_true (by kernel_rfl)) (anOf []) 9 11 (by kernel_rfl) rfl [.tmp 3] (by kernel_rfl) (args := [p0_1, t1_1]) (by rw [e100]; exact H)

/-! slices.Clone[[]int,int] -/
def t101 (P : Program) (s0_1 : Value) (h : Heap) (K : Value → Heap → Prop) : Prop :=
  pop P (binE .eql 25 (.tmp 3) (.const (Value.slice none 0 0)) s0_1 (Value.slice none 0 0)) fun t4_1 =>
  condM t4_1
  (K (Value.slice none 0 0) h)
  (eop P (Instr.buildSlice 25 0 #[]) h fun t5_1 h_1 =>
  eop P (appS 25 25 25 t5_1 s0_1) h_1 fun t7_1 h_2 =>
  K t7_1 h_2)
theorem e101 (s0_1 : Value) (h : Heap) (K : Value → Heap → Prop) : wpA Try.prog 8 (anOf []) (bodyOf Try.f101) 1 (fun A h => resA Try.prog A h K [.tmp 2]) (fun _ _ _ => False) (fun A h => resA Try.prog A h K [.tmp 2]) (aargs [s0_1] 0) h = t101 Try.prog s0_1 h K := by kernel_rfl
theorem c101 (s0_1 : Value) (h : Heap) (K : Value → Heap → Prop) (H : t101 Try.prog s0_1 h K) : callM Try.prog 101 #[s0_1] h K :=
  callM_of_wpA mixed (fn := Try.f101) Try.func101 (c := bodyOf Try.f101) rfl (of_decide_eq_true (by kernel_rfl)) (anOf []) 7 8 (by kernel_rfl) rfl [.tmp 2] (by kernel_rfl) (args := [s0_1]) (by rw [e101]; exact H)

/-! spec.l1Most -/
def t103 (P : Program) (a0_1 : Value) (b1_1 : Value) (h : Heap) (K : Value → Heap → Prop) : Prop :=
  pop P (binA .gtr 3 a0_1 b1_1) fun t7_1 =>
  condM t7_1
  (K a0_1 h)
  (K b1_1 h)
theorem e103 (a0_1 : Value) (b1_1 : Value) (h : Heap) (K : Value → Heap → Prop) : wpA Try.prog 10 (anOf []) (bodyOf Try.f103) 1 (fun A h => resA Try.prog A h K [.tmp 4]) (fun _ _ _ => False) (fun A h => resA Try.prog A h K [.tmp 4]) (aargs [a0_1, b1_1] 0) h = t103 Try.prog a0_1 b1_1 h K := by kernel_rfl
theorem c103 (a0_1 : Value) (b1_1 : Value) (h : Heap) (K : Value → Heap → Prop) (H : t103 Try.prog a0_1 b1_1 h K) : callM Try.prog 103 #[a0_1, b1_1] h K :=
  callM_of_wpA mixed (fn := Try.f103) Try.func103 (c := bodyOf Try.f103) rfl (of_decide_eq_true (by kernel_rfl)) (anOf []) 8 10 (by kernel_rfl) rfl [.tmp 4] (by kernel_rfl) (args := [a0_1, b1_1]) (by rw [e103]; exact H)

/-! (impl.Graph).step -/
def t104 (P : Program) (g0_1 : Value) (w1_1 : Value) (h : Heap) (K : Value → Heap → Prop) : Prop :=
  eop P (Instr.box 24 g0_1) h fun g2_1 h_1 =>
  pop P (Instr.fieldAt 24 g2_1 0) fun t6_1 =>
  rop P (Instr.loadAt 22 t6_1) h_1 fun t7_1 =>
  pop P (nilS w1_1) fun t9_1 =>
  pop P (Instr.fieldAt 27 t9_1 1) fun t10_1 =>
  rop P (Instr.loadAt 3 t10_1) h_1 fun t11_1 =>
  pop P (Instr.indexAt 22 t7_1 t11_1) fun t12_1 =>
  rop P (Instr.loadAt 25 t12_1) h_1 fun t13_1 =>
  pop P (lenS 25 3 t13_1) fun t15_1 =>
  pop P (binE .eql 3 (.tmp 15) (.const (Value.int IntKind.i64 0)) t15_1 (Value.int IntKind.i64 0)) fun t16_1 =>
  condM t16_1
  (K (Value.bool false) h_1)
  (pop P (nilS w1_1) fun t18_1 =>
  pop P (Instr.fieldAt 27 t18_1 0) fun t19_1 =>
  rop P (Instr.loadAt 25 t19_1) h_1 fun t20_1 =>
  pop P (nilS w1_1) fun t22_1 =>
  pop P (Instr.fieldAt 27 t22_1 1) fun t23_1 =>
  rop P (Instr.loadAt 3 t23_1) h_1 fun t24_1 =>
  pop P (nilS w1_1) fun t26_1 =>
  pop P (Instr.fieldAt 27 t26_1 0) fun t27_1 =>
  rop P (Instr.loadAt 25 t27_1) h_1 fun t28_1 =>
  pop P (nilS w1_1) fun t30_1 =>
  pop P (Instr.fieldAt 27 t30_1 1) fun t31_1 =>
  rop P (Instr.loadAt 3 t31_1) h_1 fun t32_1 =>
  pop P (Instr.indexAt 25 t28_1 t32_1) fun t33_1 =>
  rop P (Instr.loadAt 3 t33_1) h_1 fun t34_1 =>
  pop P (binA .add 3 t34_1 (Value.int IntKind.i64 1)) fun t35_1 =>
  pop P (lenS 25 3 t13_1) fun t37_1 =>
  pop P (binA .rem 3 t35_1 t37_1) fun t38_1 =>
  pop P (Instr.indexAt 25 t20_1 t24_1) fun t39_1 =>
  uop P (Instr.storeAt 3 t39_1 t38_1) h_1 fun u_1 h_2 =>
  pop P (nilS w1_1) fun t43_1 =>
  pop P (Instr.fieldAt 27 t43_1 0) fun t44_1 =>
  rop P (Instr.loadAt 25 t44_1) h_2 fun t45_1 =>
  pop P (nilS w1_1) fun t47_1 =>
  pop P (Instr.fieldAt 27 t47_1 1) fun t48_1 =>
  rop P (Instr.loadAt 3 t48_1) h_2 fun t49_1 =>
  pop P (Instr.indexAt 25 t45_1 t49_1) fun t50_1 =>
  rop P (Instr.loadAt 3 t50_1) h_2 fun t51_1 =>
  pop P (Instr.indexAt 25 t13_1 t51_1) fun t52_1 =>
  rop P (Instr.loadAt 3 t52_1) h_2 fun t53_1 =>
  pop P (nilS w1_1) fun t54_1 =>
  pop P (Instr.fieldAt 27 t54_1 1) fun t55_1 =>
  uop P (Instr.storeAt 3 t55_1 t53_1) h_2 fun u_2 h_3 =>
  K (Value.bool true) h_3)
theorem e104 (g0_1 : Value) (w1_1 : Value) (h : Heap) (K : Value → Heap → Prop) : wpA Try.prog 56 (anOf []) (bodyOf Try.f104) 1 (fun A h => resA Try.prog A h K [.tmp 4]) (fun _ _ _ => False) (fun A h => resA Try.prog A h K [.tmp 4]) (aargs [g0_1, w1_1] 0) h = t104 Try.prog g0_1 w1_1 h K := by kernel_rfl
theorem c104 (g0_1 : Value) (w1_1 : Value) (h : Heap) (K : Value → Heap → Prop) (H : t104 Try.prog g0_1 w1_1 h K) : callM Try.prog 104 #[g0_1, w1_1] h K :=
  callM_of_wpA mixed (fn := Try.f104) Try.func104 (c := bodyOf Try.f104) rfl (of_decide_eq_true (by kernel_rfl)) (anOf []) 54 56 (by kernel_rfl) rfl [.tmp 4] (by kernel_rfl) (args := [g0_1, w1_1]) (by rw [e104]; exact H)

/-! spec.waSame -/
def t106 (P : Program) (v0_1 : Value) (w1_1 : Value) (h : Heap) (K : Value → Heap → Prop) : Prop :=
  eop P (Instr.box 27 v0_1) h fun v2_1 h_1 =>
  eop P (Instr.box 27 w1_1) h_1 fun w3_1 h_2 =>
  pop P (Instr.fieldAt 27 v2_1 1) fun t7_1 =>
  rop P (Instr.loadAt 3 t7_1) h_2 fun t8_1 =>
  pop P (Instr.fieldAt 27 w3_1 1) fun t9_1 =>
  rop P (Instr.loadAt 3 t9_1) h_2 fun t10_1 =>
  pop P (binE .neq 3 (.tmp 8) (.tmp 10) t8_1 t10_1) fun t11_1 =>
  guardM t11_1 false (fun k_1 => pop P (Instr.fieldAt 27 v2_1 0) fun t13_1 =>
  k_1 t13_1 h_2) h_2 fun t13_2 h_3 =>
  guardM t11_1 false (fun k_2 => rop P (Instr.loadAt 25 t13_2) h_3 fun t14_1 =>
  k_2 t14_1 h_3) h_3 fun t14_2 h_4 =>
  guardM t11_1 false (fun k_3 => pop P (lenS 25 3 t14_2) fun t15_1 =>
  k_3 t15_1 h_4) h_4 fun t15_2 h_5 =>
  guardM t11_1 false (fun k_4 => pop P (Instr.fieldAt 27 w3_1 0) fun t16_1 =>
  k_4 t16_1 h_5) h_5 fun t16_2 h_6 =>
  guardM t11_1 false (fun k_5 => rop P (Instr.loadAt 25 t16_2) h_6 fun t17_1 =>
  k_5 t17_1 h_6) h_6 fun t17_2 h_7 =>
  guardM t11_1 false (fun k_6 => pop P (lenS 25 3 t17_2) fun t18_1 =>
  k_6 t18_1 h_7) h_7 fun t18_2 h_8 =>
  guardM t11_1 false (fun k_7 => pop P (binE .neq 3 (.tmp 15) (.tmp 18) t15_2 t18_2) fun t19_1 =>
  k_7 t19_1 h_8) h_8 fun t19_2 h_9 =>
  pop P (pickS t11_1 (Value.bool true) t19_2) fun t20_1 =>
  condM t20_1
  (K (Value.bool false) h_9)
  (pop P (Instr.fieldAt 27 v2_1 0) fun t21_1 =>
  rop P (Instr.loadAt 25 t21_1) h_9 fun t22_1 =>
  pop P (lenS 25 3 t22_1) fun t23_1 =>
  ∃ (I_1 : List Value → Heap → Prop) (μ_1 : List Value → Heap → Nat), I_1 [(Value.int IntKind.i64 0)] h_9 ∧
  ∀ (junk_1 : Nat → Value) (t24_1 : Value) (h_10 : Heap), I_1 [t24_1] h_10 →
  pop P (binA .lss 3 t24_1 t23_1) fun t25_1 =>
  condM t25_1
  (pop P (Instr.indexAt 25 t22_1 t24_1) fun t27_1 =>
  rop P (Instr.loadAt 3 t27_1) h_10 fun t28_1 =>
  pop P (Instr.fieldAt 27 w3_1 0) fun t30_1 =>
  rop P (Instr.loadAt 25 t30_1) h_10 fun t31_1 =>
  pop P (Instr.indexAt 25 t31_1 t24_1) fun t33_1 =>
  rop P (Instr.loadAt 3 t33_1) h_10 fun t34_1 =>
  pop P (binE .neq 3 (.tmp 29) (.tmp 34) t28_1 t34_1) fun t35_1 =>
  condM t35_1
  (K (Value.bool false) h_10)
  (pop P (binA .add 3 t24_1 (Value.int IntKind.i64 1)) fun t36_1 =>
  I_1 [t36_1] h_10 ∧ μ_1 [t36_1] h_10 < μ_1 [t24_1] h_10))
  (K (Value.bool true) h_10))
theorem e106 (v0_1 : Value) (w1_1 : Value) (h : Heap) (K : Value → Heap → Prop) : wpA Try.prog 37 (anOf [(58, [24])]) (bodyOf Try.f106) 1 (fun A h => resA Try.prog A h K [.tmp 4]) (fun _ _ _ => False) (fun A h => resA Try.prog A h K [.tmp 4]) (aargs [v0_1, w1_1] 0) h = t106 Try.prog v0_1 w1_1 h K := by kernel_rfl
theorem c106 (v0_1 : Value) (w1_1 : Value) (h : Heap) (K : Value → Heap → Prop) (H : t106 Try.prog v0_1 w1_1 h K) : callM Try.prog 106 #[v0_1, w1_1] h K :=
  callM_of_wpA mixed (fn := Try.f106) Try.func106 (c := bodyOf Try.f106) rfl (of_decide_eq_true (by kernel_rfl)) (anOf [(58, [24])]) 35 37 (by kernel_rfl) rfl [.tmp 4] (by kernel_rfl) (args := [v0_1, w1_1]) (by rw [e106]; exact H)

/-! slices.Equal[[]int,int] -/
def t107 (P : Program) (s10_1 : Value) (s21_1 : Value) (h : Heap) (K : Value → Heap → Prop) : Prop :=
  pop P (lenS 25 3 s10_1) fun t7_1 =>
  pop P (lenS 25 3 s21_1) fun t9_1 =>
  pop P (binE .neq 3 (.tmp 7) (.tmp 9) t7_1 t9_1) fun t10_1 =>
  condM t10_1
  (K (Value.bool false) h)
  (pop P (lenS 25 3 s10_1) fun t12_1 =>
  ∃ (I_1 : List Value → Heap → Prop) (μ_1 : List Value → Heap → Nat), I_1 [(Value.int IntKind.i64 0)] h ∧
  ∀ (junk_1 : Nat → Value) (t13_1 : Value) (h_1 : Heap), I_1 [t13_1] h_1 →
  pop P (binA .lss 3 t13_1 t12_1) fun t14_1 =>
  condM t14_1
  (pop P (Instr.indexAt 25 s10_1 t13_1) fun t18_1 =>
  rop P (Instr.loadAt 3 t18_1) h_1 fun t19_1 =>
  pop P (Instr.indexAt 25 s21_1 t13_1) fun t22_1 =>
  rop P (Instr.loadAt 3 t22_1) h_1 fun t23_1 =>
  pop P (binE .neq 3 (.tmp 19) (.tmp 23) t19_1 t23_1) fun t24_1 =>
  condM t24_1
  (K (Value.bool false) h_1)
  (pop P (binA .add 3 t13_1 (Value.int IntKind.i64 1)) fun t25_1 =>
  I_1 [t25_1] h_1 ∧ μ_1 [t25_1] h_1 < μ_1 [t13_1] h_1))
  (K (Value.bool true) h_1))
theorem e107 (s10_1 : Value) (s21_1 : Value) (h : Heap) (K : Value → Heap → Prop) : wpA Try.prog 26 (anOf [(58, [13])]) (bodyOf Try.f107) 1 (fun A h => resA Try.prog A h K [.tmp 4]) (fun _ _ _ => False) (fun A h => resA Try.prog A h K [.tmp 4]) (aargs [s10_1, s21_1] 0) h = t107 Try.prog s10_1 s21_1 h K := by kernel_rfl
theorem c107 (s10_1 : Value) (s21_1 : Value) (h : Heap) (K : Value → Heap → Prop) (H : t107 Try.prog s10_1 s21_1 h K) : callM Try.prog 107 #[s10_1, s21_1] h K :=
  callM_of_wpA mixed (fn := Try.f107) Try.func107 (c := bodyOf Try.f107) rfl (of_decide_eq_true (by kernel_rfl)) (anOf [(58, [13])]) 24 26 (by kernel_rfl) rfl [.tmp 4] (by kernel_rfl) (args := [s10_1, s21_1]) (by rw [e107]; exact H)

/-! spec.l1All -/
def t108 (P : Program) (l0_1 : Value) (lo1_1 : Value) (hi2_1 : Value) (h : Heap) (K : Value → Heap → Prop) : Prop :=
  pop P (lenS 25 3 l0_1) fun t10_1 =>
  ∃ (I_1 : List Value → Heap → Prop) (μ_1 : List Value → Heap → Nat), I_1 [(Value.int IntKind.i64 0)] h ∧
  ∀ (junk_1 : Nat → Value) (t11_1 : Value) (h_1 : Heap), I_1 [t11_1] h_1 →
  pop P (binA .lss 3 t11_1 t10_1) fun t12_1 =>
  condM t12_1
  (pop P (Instr.indexAt 25 l0_1 t11_1) fun t13_1 =>
  rop P (Instr.loadAt 3 t13_1) h_1 fun t14_1 =>
  callM P 74 #[t14_1, lo1_1, hi2_1] h_1 fun t18_1 h_2 =>
  pop P (Op.unary .not t18_1) fun t19_1 =>
  condM t19_1
  (K (Value.bool false) h_2)
  (pop P (binA .add 3 t11_1 (Value.int IntKind.i64 1)) fun t20_1 =>
  I_1 [t20_1] h_2 ∧ μ_1 [t20_1] h_2 < μ_1 [t11_1] h_1))
  (K (Value.bool true) h_1)
theorem e108 (l0_1 : Value) (lo1_1 : Value) (hi2_1 : Value) (h : Heap) (K : Value → Heap → Prop) : wpA Try.prog 21 (anOf [(26, [11])]) (bodyOf Try.f108) 1 (fun A h => resA Try.prog A h K [.tmp 6]) (fun _ _ _ => False) (fun A h => resA Try.prog A h K [.tmp 6]) (aargs [l0_1, lo1_1, hi2_1] 0) h = t108 Try.prog l0_1 lo1_1 hi2_1 h K := by kernel_rfl
theorem c108 (l0_1 : Value) (lo1_1 : Value) (hi2_1 : Value) (h : Heap) (K : Value → Heap → Prop) (H : t108 Try.prog l0_1 lo1_1 hi2_1 h K) : callM Try.prog 108 #[l0_1, lo1_1, hi2_1] h K :=
  callM_of_wpA mixed (fn := Try.f108) Try.func108 (c := bodyOf Try.f108) rfl (of_decide_eq_true (by kernel_rfl)) (anOf [(26, [11])]) 18 21 (by kernel_rfl) rfl [.tmp 6] (by kernel_rfl) (args := [l0_1, lo1_1, hi2_1]) (by rw [e108]; exact H)

/-! impl.isGraph$1 -/
def t109 (P : Program) (q0_1 : Value) (t1_1 : Value) (h : Heap) (K : Value → Heap → Prop) : Prop :=
  rop P (Instr.loadAt 3 t1_1) h fun t5_1 =>
  pop P (binA .sub 3 t5_1 (Value.int IntKind.i64 1)) fun t6_1 =>
  callM P 75 #[q0_1, (Value.int IntKind.i64 0), t6_1] h fun t7_1 h_1 =>
  pop P (Op.unary .not t7_1) fun t8_1 =>
  K t8_1 h_1
theorem e109 (q0_1 : Value) (t1_1 : Value) (h : Heap) (K : Value → Heap → Prop) : wpA Try.prog 9 (anOf []) (bodyOf Try.f109) 1 (fun A h => resA Try.prog A h K [.tmp 3]) (fun _ _ _ => False) (fun A h => resA Try.prog A h K [.tmp 3]) (aargs [q0_1, t1_1] 0) h = t109 Try.prog q0_1 t1_1 h K := by kernel_rfl
theorem c109 (q0_1 : Value) (t1_1 : Value) (h : Heap) (K : Value → Heap → Prop) (H : t109 Try.prog q0_1 t1_1 h K) : callM Try.prog 109 #[q0_1, t1_1] h K :=
  callM_of_wpA mixed (fn := Try.f109) Try.func109 (c := bodyOf Try.f109) rfl (of_decide_eq_true (by kernel_rfl)) (anOf []) 7 9 (by kernel_rfl) rfl [.tmp 3] (by kernel_rfl) (args := [q0_1, t1_1]) (by rw [e109]; exact H)

/-! slices.IndexFunc[[]int,int] -/
def t110 (P : Program) (s0_1 : Value) (f1_1 : Value) (h : Heap) (K : Value → Heap → Prop) : Prop :=
  pop P (lenS 25 3 s0_1) fun t7_1 =>
  ∃ (I_1 : List Value → Heap → Prop) (μ_1 : List Value → Heap → Nat), I_1 [(Value.int IntKind.i64 0)] h ∧
  ∀ (junk_1 : Nat → Value) (t8_1 : Value) (h_1 : Heap), I_1 [t8_1] h_1 →
  pop P (binA .lss 3 t8_1 t7_1) fun t9_1 =>
  condM t9_1
  (pop P (Instr.indexAt 25 s0_1 t8_1) fun t14_1 =>
  rop P (Instr.loadAt 3 t14_1) h_1 fun t15_1 =>
  callV P f1_1 [t15_1] h_1 fun t16_1 h_2 =>
  condM t16_1
  (K t8_1 h_2)
  (pop P (binA .add 3 t8_1 (Value.int IntKind.i64 1)) fun t18_1 =>
  I_1 [t18_1] h_2 ∧ μ_1 [t18_1] h_2 < μ_1 [t8_1] h_1))
  (K (Value.int IntKind.i64 (-1)) h_1)
theorem e110 (s0_1 : Value) (f1_1 : Value) (h : Heap) (K : Value → Heap → Prop) : wpA Try.prog 19 (anOf [(26, [8])]) (bodyOf Try.f110) 1 (fun A h => resA Try.prog A h K [.tmp 4]) (fun _ _ _ => False) (fun A h => resA Try.prog A h K [.tmp 4]) (aargs [s0_1, f1_1] 0) h = t110 Try.prog s0_1 f1_1 h K := by kernel_rfl
theorem c110 (s0_1 : Value) (f1_1 : Value) (h : Heap) (K : Value → Heap → Prop) (H : t110 Try.prog s0_1 f1_1 h K) : callM Try.prog 110 #[s0_1, f1_1] h K :=
  callM_of_wpA mixed (fn := Try.f110) Try.func110 (c := bodyOf Try.f110) rfl (of_decide_eq_true (by kernel_rfl)) (anOf [(26, [8])]) 17 19 (by kernel_rfl) rfl [.tmp 4] (by kernel_rfl) (args := [s0_1, f1_1]) (by rw [e110]; exact H)

end Go.Proofs.Ytkphbhochacllaa
