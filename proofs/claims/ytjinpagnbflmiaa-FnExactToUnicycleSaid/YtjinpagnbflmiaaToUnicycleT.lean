/-
  What each function that the law 'FnExactToUnicycle' comes to asks of the heap, named; tied to the loaded program by the kernel. Written by a program.
-/
import Derived.Test.YtjinpagnbflmiaaProg
import Derived.Test.YtjinpagnbflmiaaM1
set_option linter.unusedVariables false
namespace Go.Proofs.Ytjinpagnbflmiaa
open Go Go.Mx
theorem mixed : Try.prog.follows .mixedOrders = true := by kernel_rfl
/-! laws.FnExactToUnicycle -/
def t4 (P : Program) (aG0_1 : Value) (aW1_1 : Value) (h : Heap) (K : Value → Heap → Prop) : Prop :=
  eop P (Instr.box 24 aG0_1) h fun aG2_1 h_1 =>
  eop P (Instr.box 27 aW1_1) h_1 fun aW3_1 h_2 =>
  rop P (Instr.loadAt 24 aG2_1) h_2 fun t12_1 =>
  callM P 15 #[t12_1, (Value.int IntKind.i64 1048576)] h_2 fun t14_1 h_3 =>
  pop P (binA .lss 3 t14_1 (Value.int IntKind.i64 0)) fun t16_1 =>
  condM t16_1
  (K (Value.bool true) h_3)
  (rop P (Instr.loadAt 27 aW3_1) h_3 fun t17_1 =>
  callM P 16 #[t17_1, t14_1] h_3 fun t19_1 h_4 =>
  pop P (binA .lss 3 t19_1 (Value.int IntKind.i64 0)) fun t21_1 =>
  condM t21_1
  (K (Value.bool true) h_4)
  (rop P (Instr.loadAt 24 aG2_1) h_4 fun t23_1 =>
  rop P (Instr.loadAt 27 aW3_1) h_4 fun t25_1 =>
  callM P 18 #[t23_1] h_4 fun t24_1 h_5 =>
  (∀ w : World, w.heap = h_5 → (Instr.loadAt 27 aW3_1).run P w = .ok t25_1 w) ∧
  callM P 19 #[t25_1] h_5 fun t26_1 h_6 =>
  callM P 28 #[t24_1, t26_1] h_6 fun t27_1 h_7 =>
  pop P (Instr.extract t27_1 0) fun t28_1 =>
  pop P (Instr.extract t27_1 1) fun t29_1 =>
  rop P (Instr.loadAt 24 aG2_1) h_7 fun t30_1 =>
  callM P 18 #[t30_1] h_7 fun t31_1 h_8 =>
  eop P (Instr.alloc 32 true (.tuple #[])) h_8 fun x08_1 h_9 =>
  uop P (Instr.storeAt 32 x08_1 t31_1) h_9 fun u_1 h_10 =>
  rop P (Instr.loadAt 27 aW3_1) h_10 fun t32_1 =>
  callM P 19 #[t32_1] h_10 fun t33_1 h_11 =>
  eop P (Instr.alloc 34 true (.tuple #[])) h_11 fun x19_1 h_12 =>
  uop P (Instr.storeAt 34 x19_1 t33_1) h_12 fun u_2 h_13 =>
  rop P (Instr.loadAt 32 x08_1) h_13 fun t35_1 =>
  rop P (Instr.loadAt 34 x19_1) h_13 fun t36_1 =>
  callM P 29 #[t35_1, t36_1] h_13 fun t37_1 h_14 =>
  pop P (Instr.extract t37_1 0) fun t38_1 =>
  pop P (Instr.extract t37_1 1) fun t39_1 =>
  pop P (binE .neq 3 (.tmp 40) (.tmp 41) t38_1 t28_1) fun t42_1 =>
  guardM t42_1 false (fun k_1 => k_1 t39_1 h_14) h_14 fun t44_1 h_15 =>
  guardM t42_1 false (fun k_2 => k_2 t29_1 h_15) h_15 fun t45_1 h_16 =>
  guardM t42_1 false (fun k_3 => pop P (binE .neq 4 (.tmp 44) (.tmp 45) t44_1 t45_1) fun t46_1 =>
  k_3 t46_1 h_16) h_16 fun t46_2 h_17 =>
  pop P (pickS t42_1 (Value.bool true) t46_2) fun t47_1 =>
  condM t47_1
  (K (Value.bool false) h_17)
  (rop P (Instr.loadAt 32 x08_1) h_17 fun t48_1 =>
  rop P (Instr.loadAt 24 aG2_1) h_17 fun t49_1 =>
  callM P 18 #[t49_1] h_17 fun t50_1 h_18 =>
  (∀ w : World, w.heap = h_18 → (Instr.loadAt 32 x08_1).run P w = .ok t48_1 w) ∧
  callM P 22 #[t48_1, t50_1] h_18 fun t51_1 h_19 =>
  pop P (Op.unary .not t51_1) fun t52_1 =>
  condM t52_1
  (K (Value.bool false) h_19)
  (rop P (Instr.loadAt 34 x19_1) h_19 fun t53_1 =>
  rop P (Instr.loadAt 27 aW3_1) h_19 fun t54_1 =>
  callM P 19 #[t54_1] h_19 fun t55_1 h_20 =>
  (∀ w : World, w.heap = h_20 → (Instr.loadAt 34 x19_1).run P w = .ok t53_1 w) ∧
  callM P 23 #[t53_1, t55_1] h_20 fun t56_1 h_21 =>
  pop P (Op.unary .not t56_1) fun t57_1 =>
  condM t57_1
  (K (Value.bool false) h_21)
  (K (Value.bool true) h_21)))))
theorem e4 (aG0_1 : Value) (aW1_1 : Value) (h : Heap) (K : Value → Heap → Prop) : wpA Try.prog 58 (anOf []) (bodyOf Try.f4) 1 (fun A h => resA Try.prog A h K [.tmp 4]) (fun _ _ _ => False) (fun A h => resA Try.prog A h K [.tmp 4]) (aargs [aG0_1, aW1_1] 0) h = t4 Try.prog aG0_1 aW1_1 h K := by kernel_rfl
theorem c4 (aG0_1 : Value) (aW1_1 : Value) (h : Heap) (K : Value → Heap → Prop) (H : t4 Try.prog aG0_1 aW1_1 h K) : callM Try.prog 4 #[aG0_1, aW1_1] h K :=
  callM_of_wpA mixed (fn := Try.f4) Try.func4 (c := bodyOf Try.f4) rfl (of_decide_eq_true (by kernel_rfl)) (anOf []) 56 58 (by kernel_rfl) rfl [.tmp 4] (by kernel_rfl) (args := [aG0_1, aW1_1]) (by rw [e4]; exact H)

/-! laws.szGraph -/
def t15 (P : Program) (a0_1 : Value) (left1_1 : Value) (h : Heap) (K : Value → Heap → Prop) : Prop :=
  eop P (Instr.box 24 a0_1) h fun a2_1 h_1 =>
  pop P (Instr.fieldAt 24 a2_1 0) fun t5_1 =>
  rop P (Instr.loadAt 22 t5_1) h_1 fun t6_1 =>
  callM P 64 #[t6_1, left1_1] h_1 fun t8_1 h_2 =>
  pop P (binA .lss 3 t8_1 (Value.int IntKind.i64 0)) fun t10_1 =>
  condM t10_1
  (K (Value.int IntKind.i64 (-1)) h_2)
  (K t8_1 h_2)
theorem e15 (a0_1 : Value) (left1_1 : Value) (h : Heap) (K : Value → Heap → Prop) : wpA Try.prog 12 (anOf []) (bodyOf Try.f15) 1 (fun A h => resA Try.prog A h K [.tmp 4]) (fun _ _ _ => False) (fun A h => resA Try.prog A h K [.tmp 4]) (aargs [a0_1, left1_1] 0) h = t15 Try.prog a0_1 left1_1 h K := by kernel_rfl
theorem c15 (a0_1 : Value) (left1_1 : Value) (h : Heap) (K : Value → Heap → Prop) (H : t15 Try.prog a0_1 left1_1 h K) : callM Try.prog 15 #[a0_1, left1_1] h K :=
  callM_of_wpA mixed (fn := Try.f15) Try.func15 (c := bodyOf Try.f15) rfl (of_decide_eq_true (by kernel_rfl)) (anOf []) 10 12 (by kernel_rfl) rfl [.tmp 4] (by kernel_rfl) (args := [a0_1, left1_1]) (by rw [e15]; exact H)

/-! laws.szWalk -/
def t16 (P : Program) (a0_1 : Value) (left1_1 : Value) (h : Heap) (K : Value → Heap → Prop) : Prop :=
  eop P (Instr.box 27 a0_1) h fun a2_1 h_1 =>
  pop P (Instr.fieldAt 27 a2_1 0) fun t5_1 =>
  rop P (Instr.loadAt 25 t5_1) h_1 fun t6_1 =>
  callM P 65 #[t6_1, left1_1] h_1 fun t8_1 h_2 =>
  pop P (binA .lss 3 t8_1 (Value.int IntKind.i64 0)) fun t10_1 =>
  condM t10_1
  (K (Value.int IntKind.i64 (-1)) h_2)
  (K t8_1 h_2)
theorem e16 (a0_1 : Value) (left1_1 : Value) (h : Heap) (K : Value → Heap → Prop) : wpA Try.prog 12 (anOf []) (bodyOf Try.f16) 1 (fun A h => resA Try.prog A h K [.tmp 4]) (fun _ _ _ => False) (fun A h => resA Try.prog A h K [.tmp 4]) (aargs [a0_1, left1_1] 0) h = t16 Try.prog a0_1 left1_1 h K := by kernel_rfl
theorem c16 (a0_1 : Value) (left1_1 : Value) (h : Heap) (K : Value → Heap → Prop) (H : t16 Try.prog a0_1 left1_1 h K) : callM Try.prog 16 #[a0_1, left1_1] h K :=
  callM_of_wpA mixed (fn := Try.f16) Try.func16 (c := bodyOf Try.f16) rfl (of_decide_eq_true (by kernel_rfl)) (anOf []) 10 12 (by kernel_rfl) rfl [.tmp 4] (by kernel_rfl) (args := [a0_1, left1_1]) (by rw [e16]; exact H)

/-! laws.toGraph -/
def t18 (P : Program) (a0_1 : Value) (h : Heap) (K : Value → Heap → Prop) : Prop :=
  eop P (Instr.box 24 a0_1) h fun a1_1 h_1 =>
  eop P (Instr.alloc 32 true (.tuple #[])) h_1 fun t2_1 h_2 =>
  eop P (Instr.alloc 32 true (.tuple #[])) h_2 fun out3_1 h_3 =>
  pop P (Instr.fieldAt 24 a1_1 0) fun t4_1 =>
  rop P (Instr.loadAt 22 t4_1) h_3 fun t5_1 =>
  callM P 68 #[t5_1] h_3 fun t6_1 h_4 =>
  pop P (Instr.fieldAt 32 out3_1 0) fun t7_1 =>
  uop P (Instr.storeAt 22 t7_1 t6_1) h_4 fun u_1 h_5 =>
  rop P (Instr.loadAt 32 out3_1) h_5 fun t8_1 =>
  uop P (Instr.storeAt 32 t2_1 t8_1) h_5 fun u_2 h_6 =>
  rop P (Instr.loadAt 32 t2_1) h_6 fun r_1 =>
  K r_1 h_6
theorem e18 (a0_1 : Value) (h : Heap) (K : Value → Heap → Prop) : wpA Try.prog 9 (anOf []) (bodyOf Try.f18) 1 (fun A h => resA Try.prog A h K [.cell 2 32]) (fun _ _ _ => False) (fun A h => resA Try.prog A h K [.cell 2 32]) (aargs [a0_1] 0) h = t18 Try.prog a0_1 h K := by kernel_rfl
theorem c18 (a0_1 : Value) (h : Heap) (K : Value → Heap → Prop) (H : t18 Try.prog a0_1 h K) : callM Try.prog 18 #[a0_1] h K :=
  callM_of_wpA mixed (fn := Try.f18) Try.func18 (c := bodyOf Try.f18) rfl (of_decide_eq_true (by kernel_rfl)) (anOf []) 8 9 (by kernel_rfl) rfl [.cell 2 32] (by kernel_rfl) (args := [a0_1]) (by rw [e18]; exact H)

/-! laws.toWalk -/
def t19 (P : Program) (a0_1 : Value) (h : Heap) (K : Value → Heap → Prop) : Prop :=
  eop P (Instr.box 27 a0_1) h fun a1_1 h_1 =>
  eop P (Instr.alloc 34 true (.tuple #[])) h_1 fun t2_1 h_2 =>
  eop P (Instr.alloc 34 true (.tuple #[])) h_2 fun out3_1 h_3 =>
  pop P (Instr.fieldAt 27 a1_1 0) fun t4_1 =>
  rop P (Instr.loadAt 25 t4_1) h_3 fun t5_1 =>
  callM P 42 #[t5_1] h_3 fun t6_1 h_4 =>
  pop P (Instr.fieldAt 34 out3_1 0) fun t7_1 =>
  uop P (Instr.storeAt 25 t7_1 t6_1) h_4 fun u_1 h_5 =>
  pop P (Instr.fieldAt 27 a1_1 1) fun t8_1 =>
  rop P (Instr.loadAt 3 t8_1) h_5 fun t9_1 =>
  pop P (Instr.fieldAt 34 out3_1 1) fun t10_1 =>
  uop P (Instr.storeAt 3 t10_1 t9_1) h_5 fun u_2 h_6 =>
  rop P (Instr.loadAt 34 out3_1) h_6 fun t11_1 =>
  uop P (Instr.storeAt 34 t2_1 t11_1) h_6 fun u_3 h_7 =>
  rop P (Instr.loadAt 34 t2_1) h_7 fun r_1 =>
  K r_1 h_7
theorem e19 (a0_1 : Value) (h : Heap) (K : Value → Heap → Prop) : wpA Try.prog 12 (anOf []) (bodyOf Try.f19) 1 (fun A h => resA Try.prog A h K [.cell 2 34]) (fun _ _ _ => False) (fun A h => resA Try.prog A h K [.cell 2 34]) (aargs [a0_1] 0) h = t19 Try.prog a0_1 h K := by kernel_rfl
theorem c19 (a0_1 : Value) (h : Heap) (K : Value → Heap → Prop) (H : t19 Try.prog a0_1 h K) : callM Try.prog 19 #[a0_1] h K :=
  callM_of_wpA mixed (fn := Try.f19) Try.func19 (c := bodyOf Try.f19) rfl (of_decide_eq_true (by kernel_rfl)) (anOf []) 11 12 (by kernel_rfl) rfl [.cell 2 34] (by kernel_rfl) (args := [a0_1]) (by rw [e19]; exact H)

/-! laws.eqIntSS -/
def t21 (P : Program) (a0_1 : Value) (b1_1 : Value) (h : Heap) (K : Value → Heap → Prop) : Prop :=
  pop P (lenS 22 3 a0_1) fun t7_1 =>
  pop P (lenS 22 3 b1_1) fun t9_1 =>
  pop P (binE .neq 3 (.tmp 7) (.tmp 9) t7_1 t9_1) fun t10_1 =>
  condM t10_1
  (K (Value.bool false) h)
  (∃ (I_1 : List Value → Heap → Prop) (μ_1 : List Value → Heap → Nat), I_1 [(Value.int IntKind.i64 0)] h ∧
  ∀ (junk_1 : Nat → Value) (i5_1 : Value) (h_1 : Heap), I_1 [i5_1] h_1 →
  pop P (lenS 22 3 a0_1) fun t13_1 =>
  pop P (binA .lss 3 i5_1 t13_1) fun t14_1 =>
  condM t14_1
  (pop P (Instr.indexAt 22 a0_1 i5_1) fun t19_1 =>
  rop P (Instr.loadAt 25 t19_1) h_1 fun t20_1 =>
  pop P (Instr.indexAt 22 b1_1 i5_1) fun t23_1 =>
  rop P (Instr.loadAt 25 t23_1) h_1 fun t24_1 =>
  callM P 45 #[t20_1, t24_1] h_1 fun t25_1 h_2 =>
  pop P (Op.unary .not t25_1) fun t26_1 =>
  condM t26_1
  (K (Value.bool false) h_2)
  (pop P (binA .add 3 i5_1 (Value.int IntKind.i64 1)) fun t16_1 =>
  I_1 [t16_1] h_2 ∧ μ_1 [t16_1] h_2 < μ_1 [i5_1] h_1))
  (K (Value.bool true) h_1))
theorem e21 (a0_1 : Value) (b1_1 : Value) (h : Heap) (K : Value → Heap → Prop) : wpA Try.prog 27 (anOf [(58, [5])]) (bodyOf Try.f21) 1 (fun A h => resA Try.prog A h K [.tmp 4]) (fun _ _ _ => False) (fun A h => resA Try.prog A h K [.tmp 4]) (aargs [a0_1, b1_1] 0) h = t21 Try.prog a0_1 b1_1 h K := by kernel_rfl
theorem c21 (a0_1 : Value) (b1_1 : Value) (h : Heap) (K : Value → Heap → Prop) (H : t21 Try.prog a0_1 b1_1 h K) : callM Try.prog 21 #[a0_1, b1_1] h K :=
  callM_of_wpA mixed (fn := Try.f21) Try.func21 (c := bodyOf Try.f21) rfl (of_decide_eq_true (by kernel_rfl)) (anOf [(58, [5])]) 25 27 (by kernel_rfl) rfl [.tmp 4] (by kernel_rfl) (args := [a0_1, b1_1]) (by rw [e21]; exact H)

/-! laws.eqGraph -/
def t22 (P : Program) (a0_1 : Value) (b1_1 : Value) (h : Heap) (K : Value → Heap → Prop) : Prop :=
  eop P (Instr.box 32 a0_1) h fun a2_1 h_1 =>
  eop P (Instr.box 32 b1_1) h_1 fun b3_1 h_2 =>
  pop P (Instr.fieldAt 32 a2_1 0) fun t5_1 =>
  rop P (Instr.loadAt 22 t5_1) h_2 fun t6_1 =>
  pop P (Instr.fieldAt 32 b3_1 0) fun t7_1 =>
  rop P (Instr.loadAt 22 t7_1) h_2 fun t8_1 =>
  callM P 21 #[t6_1, t8_1] h_2 fun t9_1 h_3 =>
  pop P (Op.unary .not t9_1) fun t10_1 =>
  condM t10_1
  (K (Value.bool false) h_3)
  (K (Value.bool true) h_3)
theorem e22 (a0_1 : Value) (b1_1 : Value) (h : Heap) (K : Value → Heap → Prop) : wpA Try.prog 11 (anOf []) (bodyOf Try.f22) 1 (fun A h => resA Try.prog A h K [.tmp 4]) (fun _ _ _ => False) (fun A h => resA Try.prog A h K [.tmp 4]) (aargs [a0_1, b1_1] 0) h = t22 Try.prog a0_1 b1_1 h K := by kernel_rfl
theorem c22 (a0_1 : Value) (b1_1 : Value) (h : Heap) (K : Value → Heap → Prop) (H : t22 Try.prog a0_1 b1_1 h K) : callM Try.prog 22 #[a0_1, b1_1] h K :=
  callM_of_wpA mixed (fn := Try.f22) Try.func22 (c := bodyOf Try.f22) rfl (of_decide_eq_true (by kernel_rfl)) (anOf []) 9 11 (by kernel_rfl) rfl [.tmp 4] (by kernel_rfl) (args := [a0_1, b1_1]) (by rw [e22]; exact H)

/-! laws.eqWalk -/
def t23 (P : Program) (a0_1 : Value) (b1_1 : Value) (h : Heap) (K : Value → Heap → Prop) : Prop :=
  eop P (Instr.box 34 a0_1) h fun a2_1 h_1 =>
  eop P (Instr.box 34 b1_1) h_1 fun b3_1 h_2 =>
  pop P (Instr.fieldAt 34 a2_1 0) fun t5_1 =>
  rop P (Instr.loadAt 25 t5_1) h_2 fun t6_1 =>
  pop P (Instr.fieldAt 34 b3_1 0) fun t7_1 =>
  rop P (Instr.loadAt 25 t7_1) h_2 fun t8_1 =>
  callM P 45 #[t6_1, t8_1] h_2 fun t9_1 h_3 =>
  pop P (Op.unary .not t9_1) fun t10_1 =>
  condM t10_1
  (K (Value.bool false) h_3)
  (pop P (Instr.fieldAt 34 a2_1 1) fun t11_1 =>
  rop P (Instr.loadAt 3 t11_1) h_3 fun t12_1 =>
  pop P (Instr.fieldAt 34 b3_1 1) fun t13_1 =>
  rop P (Instr.loadAt 3 t13_1) h_3 fun t14_1 =>
  pop P (binE .neq 3 (.tmp 12) (.tmp 14) t12_1 t14_1) fun t15_1 =>
  condM t15_1
  (K (Value.bool false) h_3)
  (K (Value.bool true) h_3))
theorem e23 (a0_1 : Value) (b1_1 : Value) (h : Heap) (K : Value → Heap → Prop) : wpA Try.prog 16 (anOf []) (bodyOf Try.f23) 1 (fun A h => resA Try.prog A h K [.tmp 4]) (fun _ _ _ => False) (fun A h => resA Try.prog A h K [.tmp 4]) (aargs [a0_1, b1_1] 0) h = t23 Try.prog a0_1 b1_1 h K := by kernel_rfl
theorem c23 (a0_1 : Value) (b1_1 : Value) (h : Heap) (K : Value → Heap → Prop) (H : t23 Try.prog a0_1 b1_1 h K) : callM Try.prog 23 #[a0_1, b1_1] h K :=
  callM_of_wpA mixed (fn := Try.f23) Try.func23 (c := bodyOf Try.f23) rfl (of_decide_eq_true (by kernel_rfl)) (anOf []) 14 16 (by kernel_rfl) rfl [.tmp 4] (by kernel_rfl) (args := [a0_1, b1_1]) (by rw [e23]; exact H)

/-! spec.ToUnicycle -/
def t28 (P : Program) (g0_1 : Value) (w1_1 : Value) (h : Heap) (K : Value → Heap → Prop) : Prop :=
  eop P (Instr.box 32 g0_1) h fun g2_1 h_1 =>
  eop P (Instr.box 34 w1_1) h_1 fun w3_1 h_2 =>
  rop P (Instr.loadAt 32 g2_1) h_2 fun t9_1 =>
  rop P (Instr.loadAt 34 w3_1) h_2 fun t10_1 =>
  callM P 74 #[t9_1, t10_1] h_2 fun t11_1 h_3 =>
  pop P (Op.unary .not t11_1) fun t12_1 =>
  condM t12_1
  (K (.tuple #[(Value.int IntKind.i64 0), (Value.bool false)]) h_3)
  (∃ (I_1 : List Value → Heap → Prop) (μ_1 : List Value → Heap → Nat), I_1 [(Value.int IntKind.i64 0)] h_3 ∧
  ∀ (junk_1 : Nat → Value) (n6_1 : Value) (h_4 : Heap), I_1 [n6_1] h_4 →
  pop P (binA .leq 3 n6_1 (Value.int IntKind.i64 2000)) fun t14_1 =>
  condM t14_1
  (rop P (Instr.loadAt 32 g2_1) h_4 fun t17_1 =>
  rop P (Instr.loadAt 34 w3_1) h_4 fun t18_1 =>
  callM P 75 #[t17_1, t18_1] h_4 fun t19_1 h_5 =>
  condM t19_1
  (K (.tuple #[n6_1, (Value.bool true)]) h_5)
  (rop P (Instr.loadAt 32 g2_1) h_5 fun t22_1 =>
  rop P (Instr.loadAt 34 w3_1) h_5 fun t23_1 =>
  callM P 76 #[t22_1, t23_1] h_5 fun t24_1 h_6 =>
  pop P (Instr.extract t24_1 0) fun t25_1 =>
  pop P (Instr.extract t24_1 1) fun t26_1 =>
  eop P (Instr.alloc 34 true (.tuple #[])) h_6 fun next7_1 h_7 =>
  uop P (Instr.storeAt 34 next7_1 t25_1) h_7 fun u_1 h_8 =>
  pop P (Op.unary .not t26_1) fun t28_1 =>
  condM t28_1
  (K (.tuple #[(Value.int IntKind.i64 0), (Value.bool false)]) h_8)
  (rop P (Instr.loadAt 34 next7_1) h_8 fun t29_1 =>
  uop P (Instr.storeAt 34 w3_1 t29_1) h_8 fun u_2 h_9 =>
  pop P (binA .add 3 n6_1 (Value.int IntKind.i64 1)) fun t16_1 =>
  I_1 [t16_1] h_9 ∧ μ_1 [t16_1] h_9 < μ_1 [n6_1] h_4)))
  (K (.tuple #[(Value.int IntKind.i64 0), (Value.bool false)]) h_4))
theorem e28 (g0_1 : Value) (w1_1 : Value) (h : Heap) (K : Value → Heap → Prop) : wpA Try.prog 30 (anOf [(58, [6])]) (bodyOf Try.f28) 1 (fun A h => resA Try.prog A h K [.tmp 4, .tmp 5]) (fun _ _ _ => False) (fun A h => resA Try.prog A h K [.tmp 4, .tmp 5]) (aargs [g0_1, w1_1] 0) h = t28 Try.prog g0_1 w1_1 h K := by kernel_rfl
theorem c28 (g0_1 : Value) (w1_1 : Value) (h : Heap) (K : Value → Heap → Prop) (H : t28 Try.prog g0_1 w1_1 h K) : callM Try.prog 28 #[g0_1, w1_1] h K :=
  callM_of_wpA mixed (fn := Try.f28) Try.func28 (c := bodyOf Try.f28) rfl (of_decide_eq_true (by kernel_rfl)) (anOf [(58, [6])]) 28 30 (by kernel_rfl) rfl [.tmp 4, .tmp 5] (by kernel_rfl) (args := [g0_1, w1_1]) (by rw [e28]; exact H)

/-! impl.ToUnicycle -/
def t29 (P : Program) (g0_1 : Value) (w1_1 : Value) (h : Heap) (K : Value → Heap → Prop) : Prop :=
  eop P (Instr.box 32 g0_1) h fun g2_1 h_1 =>
  eop P (Instr.box 34 w1_1) h_1 fun w3_1 h_2 =>
  rop P (Instr.loadAt 32 g2_1) h_2 fun t6_1 =>
  rop P (Instr.loadAt 34 w3_1) h_2 fun t7_1 =>
  callM P 77 #[t6_1, t7_1] h_2 fun t8_1 h_3 =>
  pop P (Op.unary .not t8_1) fun t9_1 =>
  condM t9_1
  (K (.tuple #[(Value.int IntKind.i64 0), (Value.bool false)]) h_3)
  (rop P (Instr.loadAt 32 g2_1) h_3 fun t10_1 =>
  rop P (Instr.loadAt 34 w3_1) h_3 fun t11_1 =>
  rop P (Instr.loadAt 32 g2_1) h_3 fun t12_1 =>
  pop P (Instr.makeFunc (Fn.func 79) #[t12_1] #[]) fun t13_1 =>
  callM P 78 #[t10_1, t11_1, (Value.int IntKind.i64 0), t13_1] h_3 fun t14_1 h_4 =>
  pop P (Instr.extract t14_1 0) fun t15_1 =>
  pop P (Instr.extract t14_1 1) fun t16_1 =>
  K (.tuple #[t15_1, t16_1]) h_4)
theorem e29 (g0_1 : Value) (w1_1 : Value) (h : Heap) (K : Value → Heap → Prop) : wpA Try.prog 17 (anOf []) (bodyOf Try.f29) 1 (fun A h => resA Try.prog A h K [.tmp 4, .tmp 5]) (fun _ _ _ => False) (fun A h => resA Try.prog A h K [.tmp 4, .tmp 5]) (aargs [g0_1, w1_1] 0) h = t29 Try.prog g0_1 w1_1 h K := by kernel_rfl
theorem c29 (g0_1 : Value) (w1_1 : Value) (h : Heap) (K : Value → Heap → Prop) (H : t29 Try.prog g0_1 w1_1 h K) : callM Try.prog 29 #[g0_1, w1_1] h K :=
  callM_of_wpA mixed (fn := Try.f29) Try.func29 (c := bodyOf Try.f29) rfl (of_decide_eq_true (by kernel_rfl)) (anOf []) 15 17 (by kernel_rfl) rfl [.tmp 4, .tmp 5] (by kernel_rfl) (args := [g0_1, w1_1]) (by rw [e29]; exact H)

/-! laws.toIntS -/
def t42 (P : Program) (a0_1 : Value) (h : Heap) (K : Value → Heap → Prop) : Prop :=
  pop P (lenS 25 3 a0_1) fun t6_1 =>
  eop P (Instr.makeSlice 25 t6_1 t6_1) h fun t7_1 h_1 =>
  ∃ (I_1 : List Value → Heap → Prop) (μ_1 : List Value → Heap → Nat), I_1 [(Value.int IntKind.i64 0)] h_1 ∧
  ∀ (junk_1 : Nat → Value) (i4_1 : Value) (h_2 : Heap), I_1 [i4_1] h_2 →
  pop P (lenS 25 3 a0_1) fun t10_1 =>
  pop P (binA .lss 3 i4_1 t10_1) fun t11_1 =>
  condM t11_1
  (pop P (Instr.indexAt 25 a0_1 i4_1) fun t18_1 =>
  rop P (Instr.loadAt 3 t18_1) h_2 fun t19_1 =>
  pop P (Instr.indexAt 25 t7_1 i4_1) fun t20_1 =>
  uop P (Instr.storeAt 3 t20_1 t19_1) h_2 fun u_1 h_3 =>
  pop P (binA .add 3 i4_1 (Value.int IntKind.i64 1)) fun t13_1 =>
  I_1 [t13_1] h_3 ∧ μ_1 [t13_1] h_3 < μ_1 [i4_1] h_2)
  (K t7_1 h_2)
theorem e42 (a0_1 : Value) (h : Heap) (K : Value → Heap → Prop) : wpA Try.prog 22 (anOf [(58, [4])]) (bodyOf Try.f42) 1 (fun A h => resA Try.prog A h K [.tmp 2]) (fun _ _ _ => False) (fun A h => resA Try.prog A h K [.tmp 2]) (aargs [a0_1] 0) h = t42 Try.prog a0_1 h K := by kernel_rfl
theorem c42 (a0_1 : Value) (h : Heap) (K : Value → Heap → Prop) (H : t42 Try.prog a0_1 h K) : callM Try.prog 42 #[a0_1] h K :=
  callM_of_wpA mixed (fn := Try.f42) Try.func42 (c := bodyOf Try.f42) rfl (of_decide_eq_true (by kernel_rfl)) (anOf [(58, [4])]) 21 22 (by kernel_rfl) rfl [.tmp 2] (by kernel_rfl) (args := [a0_1]) (by rw [e42]; exact H)

/-! laws.eqIntS -/
def t45 (P : Program) (a0_1 : Value) (b1_1 : Value) (h : Heap) (K : Value → Heap → Prop) : Prop :=
  pop P (lenS 25 3 a0_1) fun t7_1 =>
  pop P (lenS 25 3 b1_1) fun t9_1 =>
  pop P (binE .neq 3 (.tmp 7) (.tmp 9) t7_1 t9_1) fun t10_1 =>
  condM t10_1
  (K (Value.bool false) h)
  (∃ (I_1 : List Value → Heap → Prop) (μ_1 : List Value → Heap → Nat), I_1 [(Value.int IntKind.i64 0)] h ∧
  ∀ (junk_1 : Nat → Value) (i5_1 : Value) (h_1 : Heap), I_1 [i5_1] h_1 →
  pop P (lenS 25 3 a0_1) fun t13_1 =>
  pop P (binA .lss 3 i5_1 t13_1) fun t14_1 =>
  condM t14_1
  (pop P (Instr.indexAt 25 a0_1 i5_1) fun t19_1 =>
  rop P (Instr.loadAt 3 t19_1) h_1 fun t20_1 =>
  pop P (Instr.indexAt 25 b1_1 i5_1) fun t23_1 =>
  rop P (Instr.loadAt 3 t23_1) h_1 fun t24_1 =>
  pop P (binE .neq 3 (.tmp 20) (.tmp 24) t20_1 t24_1) fun t25_1 =>
  condM t25_1
  (K (Value.bool false) h_1)
  (pop P (binA .add 3 i5_1 (Value.int IntKind.i64 1)) fun t16_1 =>
  I_1 [t16_1] h_1 ∧ μ_1 [t16_1] h_1 < μ_1 [i5_1] h_1))
  (K (Value.bool true) h_1))
theorem e45 (a0_1 : Value) (b1_1 : Value) (h : Heap) (K : Value → Heap → Prop) : wpA Try.prog 26 (anOf [(58, [5])]) (bodyOf Try.f45) 1 (fun A h => resA Try.prog A h K [.tmp 4]) (fun _ _ _ => False) (fun A h => resA Try.prog A h K [.tmp 4]) (aargs [a0_1, b1_1] 0) h = t45 Try.prog a0_1 b1_1 h K := by kernel_rfl
theorem c45 (a0_1 : Value) (b1_1 : Value) (h : Heap) (K : Value → Heap → Prop) (H : t45 Try.prog a0_1 b1_1 h K) : callM Try.prog 45 #[a0_1, b1_1] h K :=
  callM_of_wpA mixed (fn := Try.f45) Try.func45 (c := bodyOf Try.f45) rfl (of_decide_eq_true (by kernel_rfl)) (anOf [(58, [5])]) 24 26 (by kernel_rfl) rfl [.tmp 4] (by kernel_rfl) (args := [a0_1, b1_1]) (by rw [e45]; exact H)

/-! laws.szIntSS -/
def t64 (P : Program) (a0_1 : Value) (left1_1 : Value) (h : Heap) (K : Value → Heap → Prop) : Prop :=
  pop P (lenS 22 3 a0_1) fun t8_1 =>
  pop P (binA .sub 3 left1_1 t8_1) fun t9_1 =>
  pop P (binA .lss 3 t9_1 (Value.int IntKind.i64 0)) fun t11_1 =>
  condM t11_1
  (K (Value.int IntKind.i64 (-1)) h)
  (∃ (I_1 : List Value → Heap → Prop) (μ_1 : List Value → Heap → Nat), I_1 [t9_1, (Value.int IntKind.i64 0)] h ∧
  ∀ (junk_1 : Nat → Value) (left1_2 : Value) (i5_1 : Value) (h_1 : Heap), I_1 [left1_2, i5_1] h_1 →
  pop P (lenS 22 3 a0_1) fun t14_1 =>
  pop P (binA .lss 3 i5_1 t14_1) fun t15_1 =>
  condM t15_1
  (pop P (Instr.indexAt 22 a0_1 i5_1) fun t20_1 =>
  rop P (Instr.loadAt 25 t20_1) h_1 fun t21_1 =>
  callM P 65 #[t21_1, left1_2] h_1 fun t23_1 h_2 =>
  pop P (binA .lss 3 t23_1 (Value.int IntKind.i64 0)) fun t25_1 =>
  condM t25_1
  (K (Value.int IntKind.i64 (-1)) h_2)
  (pop P (binA .add 3 i5_1 (Value.int IntKind.i64 1)) fun t17_1 =>
  I_1 [t23_1, t17_1] h_2 ∧ μ_1 [t23_1, t17_1] h_2 < μ_1 [left1_2, i5_1] h_1))
  (K left1_2 h_1))
theorem e64 (a0_1 : Value) (left1_1 : Value) (h : Heap) (K : Value → Heap → Prop) : wpA Try.prog 27 (anOf [(122, [1, 5])]) (bodyOf Try.f64) 1 (fun A h => resA Try.prog A h K [.tmp 4]) (fun _ _ _ => False) (fun A h => resA Try.prog A h K [.tmp 4]) (aargs [a0_1, left1_1] 0) h = t64 Try.prog a0_1 left1_1 h K := by kernel_rfl
theorem c64 (a0_1 : Value) (left1_1 : Value) (h : Heap) (K : Value → Heap → Prop) (H : t64 Try.prog a0_1 left1_1 h K) : callM Try.prog 64 #[a0_1, left1_1] h K :=
  callM_of_wpA mixed (fn := Try.f64) Try.func64 (c := bodyOf Try.f64) rfl (of_decide_eq_true (by kernel_rfl)) (anOf [(122, [1, 5])]) 25 27 (by kernel_rfl) rfl [.tmp 4] (by kernel_rfl) (args := [a0_1, left1_1]) (by rw [e64]; exact H)

/-! laws.szIntS -/
def t65 (P : Program) (a0_1 : Value) (left1_1 : Value) (h : Heap) (K : Value → Heap → Prop) : Prop :=
  pop P (lenS 25 3 a0_1) fun t7_1 =>
  pop P (binA .sub 3 left1_1 t7_1) fun t8_1 =>
  pop P (binA .lss 3 t8_1 (Value.int IntKind.i64 0)) fun t10_1 =>
  condM t10_1
  (K (Value.int IntKind.i64 (-1)) h)
  (K t8_1 h)
theorem e65 (a0_1 : Value) (left1_1 : Value) (h : Heap) (K : Value → Heap → Prop) : wpA Try.prog 12 (anOf []) (bodyOf Try.f65) 1 (fun A h => resA Try.prog A h K [.tmp 4]) (fun _ _ _ => False) (fun A h => resA Try.prog A h K [.tmp 4]) (aargs [a0_1, left1_1] 0) h = t65 Try.prog a0_1 left1_1 h K := by kernel_rfl
theorem c65 (a0_1 : Value) (left1_1 : Value) (h : Heap) (K : Value → Heap → Prop) (H : t65 Try.prog a0_1 left1_1 h K) : callM Try.prog 65 #[a0_1, left1_1] h K :=
  callM_of_wpA mixed (fn := Try.f65) Try.func65 (c := bodyOf Try.f65) rfl (of_decide_eq_true (by kernel_rfl)) (anOf []) 10 12 (by kernel_rfl) rfl [.tmp 4] (by kernel_rfl) (args := [a0_1, left1_1]) (by rw [e65]; exact H)

/-! laws.toIntSS -/
def t68 (P : Program) (a0_1 : Value) (h : Heap) (K : Value → Heap → Prop) : Prop :=
  pop P (lenS 22 3 a0_1) fun t6_1 =>
  eop P (Instr.makeSlice 22 t6_1 t6_1) h fun t7_1 h_1 =>
  ∃ (I_1 : List Value → Heap → Prop) (μ_1 : List Value → Heap → Nat), I_1 [(Value.int IntKind.i64 0)] h_1 ∧
  ∀ (junk_1 : Nat → Value) (i4_1 : Value) (h_2 : Heap), I_1 [i4_1] h_2 →
  pop P (lenS 22 3 a0_1) fun t10_1 =>
  pop P (binA .lss 3 i4_1 t10_1) fun t11_1 =>
  condM t11_1
  (pop P (Instr.indexAt 22 a0_1 i4_1) fun t18_1 =>
  rop P (Instr.loadAt 25 t18_1) h_2 fun t19_1 =>
  callM P 42 #[t19_1] h_2 fun t20_1 h_3 =>
  pop P (Instr.indexAt 22 t7_1 i4_1) fun t21_1 =>
  uop P (Instr.storeAt 25 t21_1 t20_1) h_3 fun u_1 h_4 =>
  pop P (binA .add 3 i4_1 (Value.int IntKind.i64 1)) fun t13_1 =>
  I_1 [t13_1] h_4 ∧ μ_1 [t13_1] h_4 < μ_1 [i4_1] h_2)
  (K t7_1 h_2)
theorem e68 (a0_1 : Value) (h : Heap) (K : Value → Heap → Prop) : wpA Try.prog 23 (anOf [(58, [4])]) (bodyOf Try.f68) 1 (fun A h => resA Try.prog A h K [.tmp 2]) (fun _ _ _ => False) (fun A h => resA Try.prog A h K [.tmp 2]) (aargs [a0_1] 0) h = t68 Try.prog a0_1 h K := by kernel_rfl
theorem c68 (a0_1 : Value) (h : Heap) (K : Value → Heap → Prop) (H : t68 Try.prog a0_1 h K) : callM Try.prog 68 #[a0_1] h K :=
  callM_of_wpA mixed (fn := Try.f68) Try.func68 (c := bodyOf Try.f68) rfl (of_decide_eq_true (by kernel_rfl)) (anOf [(58, [4])]) 22 23 (by kernel_rfl) rfl [.tmp 2] (by kernel_rfl) (args := [a0_1]) (by rw [e68]; exact H)

/-! (impl.Walk).copied -/
def t70 (P : Program) (w0_1 : Value) (h : Heap) (K : Value → Heap → Prop) : Prop :=
  eop P (Instr.box 34 w0_1) h fun w1_1 h_1 =>
  eop P (Instr.alloc 34 true (.tuple #[])) h_1 fun t2_1 h_2 =>
  pop P (Instr.fieldAt 34 w1_1 0) fun t3_1 =>
  rop P (Instr.loadAt 25 t3_1) h_2 fun t4_1 =>
  pop P (Instr.fieldAt 34 w1_1 1) fun t6_1 =>
  rop P (Instr.loadAt 3 t6_1) h_2 fun t7_1 =>
  callM P 111 #[t4_1] h_2 fun t5_1 h_3 =>
  (∀ w : World, w.heap = h_3 → (Instr.loadAt 3 t6_1).run P w = .ok t7_1 w) ∧
  pop P (Instr.build 34 #[(0, t5_1), (1, t7_1)]) fun t8_1 =>
  uop P (Instr.storeAt 34 t2_1 t8_1) h_3 fun u_1 h_4 =>
  rop P (Instr.loadAt 34 t2_1) h_4 fun r_1 =>
  K r_1 h_4
theorem e70 (w0_1 : Value) (h : Heap) (K : Value → Heap → Prop) : wpA Try.prog 9 (anOf []) (bodyOf Try.f70) 1 (fun A h => resA Try.prog A h K [.cell 2 34]) (fun _ _ _ => False) (fun A h => resA Try.prog A h K [.cell 2 34]) (aargs [w0_1] 0) h = t70 Try.prog w0_1 h K := by kernel_rfl
theorem c70 (w0_1 : Value) (h : Heap) (K : Value → Heap → Prop) (H : t70 Try.prog w0_1 h K) : callM Try.prog 70 #[w0_1] h K :=
  callM_of_wpA mixed (fn := Try.f70) Try.func70 (c := bodyOf Try.f70) rfl (of_decide_eq_true (by kernel_rfl)) (anOf []) 8 9 (by kernel_rfl) rfl [.cell 2 34] (by kernel_rfl) (args := [w0_1]) (by rw [e70]; exact H)

/-! spec.waGood -/
def t74 (P : Program) (g0_1 : Value) (w1_1 : Value) (h : Heap) (K : Value → Heap → Prop) : Prop :=
  eop P (Instr.box 32 g0_1) h fun g2_1 h_1 =>
  eop P (Instr.box 34 w1_1) h_1 fun w3_1 h_2 =>
  rop P (Instr.loadAt 32 g2_1) h_2 fun t7_1 =>
  pop P (Instr.fieldAt 34 w3_1 1) fun t8_1 =>
  rop P (Instr.loadAt 3 t8_1) h_2 fun t9_1 =>
  callM P 81 #[t7_1, t9_1] h_2 fun t10_1 h_3 =>
  pop P (Op.unary .not t10_1) fun t11_1 =>
  guardM t11_1 false (fun k_1 => pop P (Instr.fieldAt 34 w3_1 0) fun t13_1 =>
  k_1 t13_1 h_3) h_3 fun t13_2 h_4 =>
  guardM t11_1 false (fun k_2 => rop P (Instr.loadAt 25 t13_2) h_4 fun t14_1 =>
  k_2 t14_1 h_4) h_4 fun t14_2 h_5 =>
  guardM t11_1 false (fun k_3 => pop P (lenS 25 3 t14_2) fun t15_1 =>
  k_3 t15_1 h_5) h_5 fun t15_2 h_6 =>
  guardM t11_1 false (fun k_4 => pop P (Instr.fieldAt 32 g2_1 0) fun t16_1 =>
  k_4 t16_1 h_6) h_6 fun t16_2 h_7 =>
  guardM t11_1 false (fun k_5 => rop P (Instr.loadAt 22 t16_2) h_7 fun t17_1 =>
  k_5 t17_1 h_7) h_7 fun t17_2 h_8 =>
  guardM t11_1 false (fun k_6 => pop P (lenS 22 3 t17_2) fun t18_1 =>
  k_6 t18_1 h_8) h_8 fun t18_2 h_9 =>
  guardM t11_1 false (fun k_7 => pop P (binE .neq 3 (.tmp 15) (.tmp 18) t15_2 t18_2) fun t19_1 =>
  k_7 t19_1 h_9) h_9 fun t19_2 h_10 =>
  pop P (pickS t11_1 (Value.bool true) t19_2) fun t20_1 =>
  condM t20_1
  (K (Value.bool false) h_10)
  (pop P (Instr.fieldAt 32 g2_1 0) fun t21_1 =>
  rop P (Instr.loadAt 22 t21_1) h_10 fun t22_1 =>
  pop P (lenS 22 3 t22_1) fun t23_1 =>
  ∃ (I_1 : List Value → Heap → Prop) (μ_1 : List Value → Heap → Nat), I_1 [(Value.int IntKind.i64 0)] h_10 ∧
  ∀ (junk_1 : Nat → Value) (t24_1 : Value) (h_11 : Heap), I_1 [t24_1] h_11 →
  pop P (binA .lss 3 t24_1 t23_1) fun t25_1 =>
  condM t25_1
  (pop P (Instr.indexAt 22 t22_1 t24_1) fun t27_1 =>
  rop P (Instr.loadAt 25 t27_1) h_11 fun t28_1 =>
  pop P (Instr.fieldAt 34 w3_1 0) fun t29_1 =>
  rop P (Instr.loadAt 25 t29_1) h_11 fun t30_1 =>
  pop P (Instr.indexAt 25 t30_1 t24_1) fun t32_1 =>
  rop P (Instr.loadAt 3 t32_1) h_11 fun t33_1 =>
  pop P (lenS 25 3 t28_1) fun t35_1 =>
  pop P (binA .sub 3 t35_1 (Value.int IntKind.i64 1)) fun t36_1 =>
  callM P 113 #[(Value.int IntKind.i64 0), t36_1] h_11 fun t37_1 h_12 =>
  (∀ w : World, w.heap = h_12 → (Instr.loadAt 3 t32_1).run P w = .ok t33_1 w) ∧
  (∀ w : World, w.heap = h_12 → (Instr.loadAt 25 t29_1).run P w = .ok t30_1 w) ∧
  callM P 109 #[t33_1, (Value.int IntKind.i64 0), t37_1] h_12 fun t38_1 h_13 =>
  (∀ w : World, w.heap = h_13 → (Instr.loadAt 25 t29_1).run P w = .ok t30_1 w) ∧
  pop P (Op.unary .not t38_1) fun t39_1 =>
  condM t39_1
  (K (Value.bool false) h_13)
  (pop P (binA .add 3 t24_1 (Value.int IntKind.i64 1)) fun t40_1 =>
  I_1 [t40_1] h_13 ∧ μ_1 [t40_1] h_13 < μ_1 [t24_1] h_11))
  (K (Value.bool true) h_11))
theorem e74 (g0_1 : Value) (w1_1 : Value) (h : Heap) (K : Value → Heap → Prop) : wpA Try.prog 41 (anOf [(58, [24])]) (bodyOf Try.f74) 1 (fun A h => resA Try.prog A h K [.tmp 4]) (fun _ _ _ => False) (fun A h => resA Try.prog A h K [.tmp 4]) (aargs [g0_1, w1_1] 0) h = t74 Try.prog g0_1 w1_1 h K := by kernel_rfl
theorem c74 (g0_1 : Value) (w1_1 : Value) (h : Heap) (K : Value → Heap → Prop) (H : t74 Try.prog g0_1 w1_1 h K) : callM Try.prog 74 #[g0_1, w1_1] h K :=
  callM_of_wpA mixed (fn := Try.f74) Try.func74 (c := bodyOf Try.f74) rfl (of_decide_eq_true (by kernel_rfl)) (anOf [(58, [24])]) 39 41 (by kernel_rfl) rfl [.tmp 4] (by kernel_rfl) (args := [g0_1, w1_1]) (by rw [e74]; exact H)

/-! spec.trUni -/
def t75 (P : Program) (g0_1 : Value) (w1_1 : Value) (h : Heap) (K : Value → Heap → Prop) : Prop :=
  eop P (Instr.box 32 g0_1) h fun g2_1 h_1 =>
  eop P (Instr.box 34 w1_1) h_1 fun w3_1 h_2 =>
  rop P (Instr.loadAt 32 g2_1) h_2 fun t11_1 =>
  pop P (Instr.fieldAt 34 w3_1 0) fun t12_1 =>
  rop P (Instr.loadAt 25 t12_1) h_2 fun t13_1 =>
  pop P (Instr.fieldAt 34 w3_1 1) fun t14_1 =>
  rop P (Instr.loadAt 3 t14_1) h_2 fun t15_1 =>
  callM P 114 #[t11_1, t13_1, t15_1] h_2 fun t16_1 h_3 =>
  pop P (Instr.extract t16_1 0) fun t17_1 =>
  pop P (Instr.extract t16_1 1) fun t18_1 =>
  pop P (Op.unary .not t18_1) fun t20_1 =>
  guardM t20_1 false (fun k_1 => k_1 t17_1 h_3) h_3 fun t22_1 h_4 =>
  guardM t20_1 false (fun k_2 => pop P (Instr.fieldAt 34 w3_1 1) fun t23_1 =>
  k_2 t23_1 h_4) h_4 fun t23_2 h_5 =>
  guardM t20_1 false (fun k_3 => rop P (Instr.loadAt 3 t23_2) h_5 fun t24_1 =>
  k_3 t24_1 h_5) h_5 fun t24_2 h_6 =>
  guardM t20_1 false (fun k_4 => callM P 115 #[t22_1, t24_2] h_6 fun t25_1 h_7 =>
  k_4 t25_1 h_7) h_6 fun t25_2 h_8 =>
  guardM t20_1 false (fun k_5 => pop P (Op.unary .not t25_2) fun t26_1 =>
  k_5 t26_1 h_8) h_8 fun t26_2 h_9 =>
  pop P (pickS t20_1 (Value.bool true) t26_2) fun t27_1 =>
  condM t27_1
  (K (Value.bool false) h_9)
  (pop P (Instr.fieldAt 32 g2_1 0) fun t28_1 =>
  rop P (Instr.loadAt 22 t28_1) h_9 fun t29_1 =>
  pop P (lenS 22 3 t29_1) fun t30_1 =>
  ∃ (I_1 : List Value → Heap → Prop) (μ_1 : List Value → Heap → Nat), I_1 [(Value.int IntKind.i64 0)] h_9 ∧
  ∀ (junk_1 : Nat → Value) (t31_1 : Value) (h_10 : Heap), I_1 [t31_1] h_10 →
  pop P (binA .lss 3 t31_1 t30_1) fun t32_1 =>
  condM t32_1
  (rop P (Instr.loadAt 32 g2_1) h_10 fun t35_1 =>
  pop P (Instr.fieldAt 34 w3_1 0) fun t36_1 =>
  rop P (Instr.loadAt 25 t36_1) h_10 fun t37_1 =>
  callM P 114 #[t35_1, t37_1, t31_1] h_10 fun t39_1 h_11 =>
  pop P (Instr.extract t39_1 0) fun t40_1 =>
  pop P (Instr.extract t39_1 1) fun t41_1 =>
  pop P (Op.unary .not t41_1) fun t43_1 =>
  guardM t43_1 false (fun k_6 => k_6 t40_1 h_11) h_11 fun t45_1 h_12 =>
  guardM t43_1 false (fun k_7 => pop P (Instr.fieldAt 34 w3_1 1) fun t46_1 =>
  k_7 t46_1 h_12) h_12 fun t46_2 h_13 =>
  guardM t43_1 false (fun k_8 => rop P (Instr.loadAt 3 t46_2) h_13 fun t47_1 =>
  k_8 t47_1 h_13) h_13 fun t47_2 h_14 =>
  guardM t43_1 false (fun k_9 => callM P 115 #[t45_1, t47_2] h_14 fun t48_1 h_15 =>
  k_9 t48_1 h_15) h_14 fun t48_2 h_16 =>
  guardM t43_1 false (fun k_10 => pop P (Op.unary .not t48_2) fun t49_1 =>
  k_10 t49_1 h_16) h_16 fun t49_2 h_17 =>
  pop P (pickS t43_1 (Value.bool true) t49_2) fun t50_1 =>
  condM t50_1
  (K (Value.bool false) h_17)
  (pop P (binA .add 3 t31_1 (Value.int IntKind.i64 1)) fun t51_1 =>
  I_1 [t51_1] h_17 ∧ μ_1 [t51_1] h_17 < μ_1 [t31_1] h_10))
  (K (Value.bool true) h_10))
theorem e75 (g0_1 : Value) (w1_1 : Value) (h : Heap) (K : Value → Heap → Prop) : wpA Try.prog 52 (anOf [(122, [31])]) (bodyOf Try.f75) 1 (fun A h => resA Try.prog A h K [.tmp 4]) (fun _ _ _ => False) (fun A h => resA Try.prog A h K [.tmp 4]) (aargs [g0_1, w1_1] 0) h = t75 Try.prog g0_1 w1_1 h K := by kernel_rfl
theorem c75 (g0_1 : Value) (w1_1 : Value) (h : Heap) (K : Value → Heap → Prop) (H : t75 Try.prog g0_1 w1_1 h K) : callM Try.prog 75 #[g0_1, w1_1] h K :=
  callM_of_wpA mixed (fn := Try.f75) Try.func75 (c := bodyOf Try.f75) rfl (of_decide_eq_true (by kernel_rfl)) (anOf [(122, [31])]) 50 52 (by kernel_rfl) rfl [.tmp 4] (by kernel_rfl) (args := [g0_1, w1_1]) (by rw [e75]; exact H)

/-! spec.waStep -/
def t76 (P : Program) (g0_1 : Value) (w1_1 : Value) (h : Heap) (K : Value → Heap → Prop) : Prop :=
  eop P (Instr.box 32 g0_1) h fun g2_1 h_1 =>
  eop P (Instr.box 34 w1_1) h_1 fun w3_1 h_2 =>
  eop P (Instr.alloc 34 true (.tuple #[])) h_2 fun t4_1 h_3 =>
  pop P (Instr.fieldAt 32 g2_1 0) fun t9_1 =>
  rop P (Instr.loadAt 22 t9_1) h_3 fun t10_1 =>
  pop P (Instr.fieldAt 34 w3_1 1) fun t11_1 =>
  rop P (Instr.loadAt 3 t11_1) h_3 fun t12_1 =>
  pop P (Instr.indexAt 22 t10_1 t12_1) fun t13_1 =>
  rop P (Instr.loadAt 25 t13_1) h_3 fun t14_1 =>
  pop P (lenS 25 3 t14_1) fun t16_1 =>
  pop P (binE .eql 3 (.tmp 16) (.const (Value.int IntKind.i64 0)) t16_1 (Value.int IntKind.i64 0)) fun t17_1 =>
  condM t17_1
  (rop P (Instr.loadAt 34 w3_1) h_3 fun t18_1 =>
  uop P (Instr.storeAt 34 t4_1 t18_1) h_3 fun u_1 h_4 =>
  rop P (Instr.loadAt 34 t4_1) h_4 fun r_1 =>
  K (.tuple #[r_1, (Value.bool false)]) h_4)
  (pop P (Instr.fieldAt 34 w3_1 0) fun t19_1 =>
  rop P (Instr.loadAt 25 t19_1) h_3 fun t20_1 =>
  callM P 116 #[t20_1] h_3 fun t21_1 h_5 =>
  pop P (Instr.build 34 #[(0, t21_1)]) fun t22_1 =>
  eop P (Instr.alloc 34 true (.tuple #[])) h_5 fun out7_1 h_6 =>
  uop P (Instr.storeAt 34 out7_1 t22_1) h_6 fun u_2 h_7 =>
  pop P (Instr.fieldAt 34 w3_1 0) fun t23_1 =>
  rop P (Instr.loadAt 25 t23_1) h_7 fun t24_1 =>
  pop P (Instr.fieldAt 34 w3_1 1) fun t25_1 =>
  rop P (Instr.loadAt 3 t25_1) h_7 fun t26_1 =>
  pop P (Instr.indexAt 25 t24_1 t26_1) fun t27_1 =>
  rop P (Instr.loadAt 3 t27_1) h_7 fun t28_1 =>
  pop P (binA .add 3 t28_1 (Value.int IntKind.i64 1)) fun t29_1 =>
  pop P (lenS 25 3 t14_1) fun t31_1 =>
  pop P (binA .rem 3 t29_1 t31_1) fun t32_1 =>
  pop P (Instr.fieldAt 34 out7_1 0) fun t33_1 =>
  rop P (Instr.loadAt 25 t33_1) h_7 fun t34_1 =>
  pop P (Instr.fieldAt 34 w3_1 1) fun t35_1 =>
  rop P (Instr.loadAt 3 t35_1) h_7 fun t36_1 =>
  pop P (Instr.indexAt 25 t34_1 t36_1) fun t38_1 =>
  uop P (Instr.storeAt 3 t38_1 t32_1) h_7 fun u_3 h_8 =>
  pop P (Instr.indexAt 25 t14_1 t32_1) fun t41_1 =>
  rop P (Instr.loadAt 3 t41_1) h_8 fun t42_1 =>
  pop P (Instr.fieldAt 34 out7_1 1) fun t43_1 =>
  uop P (Instr.storeAt 3 t43_1 t42_1) h_8 fun u_4 h_9 =>
  rop P (Instr.loadAt 34 out7_1) h_9 fun t44_1 =>
  uop P (Instr.storeAt 34 t4_1 t44_1) h_9 fun u_5 h_10 =>
  rop P (Instr.loadAt 34 t4_1) h_10 fun r_2 =>
  K (.tuple #[r_2, (Value.bool true)]) h_10)
theorem e76 (g0_1 : Value) (w1_1 : Value) (h : Heap) (K : Value → Heap → Prop) : wpA Try.prog 45 (anOf []) (bodyOf Try.f76) 1 (fun A h => resA Try.prog A h K [.cell 4 34, .tmp 5]) (fun _ _ _ => False) (fun A h => resA Try.prog A h K [.cell 4 34, .tmp 5]) (aargs [g0_1, w1_1] 0) h = t76 Try.prog g0_1 w1_1 h K := by kernel_rfl
theorem c76 (g0_1 : Value) (w1_1 : Value) (h : Heap) (K : Value → Heap → Prop) (H : t76 Try.prog g0_1 w1_1 h K) : callM Try.prog 76 #[g0_1, w1_1] h K :=
  callM_of_wpA mixed (fn := Try.f76) Try.func76 (c := bodyOf Try.f76) rfl (of_decide_eq_true (by kernel_rfl)) (anOf []) 43 45 (by kernel_rfl) rfl [.cell 4 34, .tmp 5] (by kernel_rfl) (args := [g0_1, w1_1]) (by rw [e76]; exact H)

/-! impl.isWalk -/
def t77 (P : Program) (g0_1 : Value) (w1_1 : Value) (h : Heap) (K : Value → Heap → Prop) : Prop :=
  eop P (Instr.box 32 g0_1) h fun g2_1 h_1 =>
  eop P (Instr.box 34 w1_1) h_1 fun w3_1 h_2 =>
  rop P (Instr.loadAt 32 g2_1) h_2 fun t7_1 =>
  pop P (Instr.fieldAt 34 w3_1 1) fun t8_1 =>
  rop P (Instr.loadAt 3 t8_1) h_2 fun t9_1 =>
  eop P (Instr.buildSlice 25 1 #[(0, t9_1)]) h_2 fun t10_1 h_3 =>
  callM P 85 #[t7_1, t10_1] h_3 fun t11_1 h_4 =>
  pop P (Op.unary .not t11_1) fun t12_1 =>
  guardM t12_1 false (fun k_1 => pop P (Instr.fieldAt 34 w3_1 0) fun t14_1 =>
  k_1 t14_1 h_4) h_4 fun t14_2 h_5 =>
  guardM t12_1 false (fun k_2 => rop P (Instr.loadAt 25 t14_2) h_5 fun t15_1 =>
  k_2 t15_1 h_5) h_5 fun t15_2 h_6 =>
  guardM t12_1 false (fun k_3 => pop P (lenS 25 3 t15_2) fun t16_1 =>
  k_3 t16_1 h_6) h_6 fun t16_2 h_7 =>
  guardM t12_1 false (fun k_4 => pop P (Instr.fieldAt 32 g2_1 0) fun t17_1 =>
  k_4 t17_1 h_7) h_7 fun t17_2 h_8 =>
  guardM t12_1 false (fun k_5 => rop P (Instr.loadAt 22 t17_2) h_8 fun t18_1 =>
  k_5 t18_1 h_8) h_8 fun t18_2 h_9 =>
  guardM t12_1 false (fun k_6 => pop P (lenS 22 3 t18_2) fun t19_1 =>
  k_6 t19_1 h_9) h_9 fun t19_2 h_10 =>
  guardM t12_1 false (fun k_7 => pop P (binE .neq 3 (.tmp 16) (.tmp 19) t16_2 t19_2) fun t20_1 =>
  k_7 t20_1 h_10) h_10 fun t20_2 h_11 =>
  pop P (pickS t12_1 (Value.bool true) t20_2) fun t21_1 =>
  condM t21_1
  (K (Value.bool false) h_11)
  (pop P (Instr.fieldAt 34 w3_1 0) fun t22_1 =>
  rop P (Instr.loadAt 25 t22_1) h_11 fun t23_1 =>
  pop P (lenS 25 3 t23_1) fun t24_1 =>
  ∃ (I_1 : List Value → Heap → Prop) (μ_1 : List Value → Heap → Nat), I_1 [(Value.int IntKind.i64 0)] h_11 ∧
  ∀ (junk_1 : Nat → Value) (t25_1 : Value) (h_12 : Heap), I_1 [t25_1] h_12 →
  pop P (binA .lss 3 t25_1 t24_1) fun t26_1 =>
  condM t26_1
  (pop P (Instr.indexAt 25 t23_1 t25_1) fun t28_1 =>
  rop P (Instr.loadAt 3 t28_1) h_12 fun t29_1 =>
  pop P (Instr.fieldAt 32 g2_1 0) fun t31_1 =>
  rop P (Instr.loadAt 22 t31_1) h_12 fun t32_1 =>
  pop P (Instr.indexAt 22 t32_1 t25_1) fun t34_1 =>
  rop P (Instr.loadAt 25 t34_1) h_12 fun t35_1 =>
  pop P (lenS 25 3 t35_1) fun t36_1 =>
  pop P (binA .sub 3 t36_1 (Value.int IntKind.i64 1)) fun t37_1 =>
  pop P (Builtin.max_ #[3, 3] 3 #[t37_1, (Value.int IntKind.i64 0)]) fun t38_1 =>
  callM P 110 #[t29_1, (Value.int IntKind.i64 0), t38_1] h_12 fun t39_1 h_13 =>
  pop P (Op.unary .not t39_1) fun t40_1 =>
  condM t40_1
  (K (Value.bool false) h_13)
  (pop P (binA .add 3 t25_1 (Value.int IntKind.i64 1)) fun t41_1 =>
  I_1 [t41_1] h_13 ∧ μ_1 [t41_1] h_13 < μ_1 [t25_1] h_12))
  (K (Value.bool true) h_12))
theorem e77 (g0_1 : Value) (w1_1 : Value) (h : Heap) (K : Value → Heap → Prop) : wpA Try.prog 42 (anOf [(58, [25])]) (bodyOf Try.f77) 1 (fun A h => resA Try.prog A h K [.tmp 4]) (fun _ _ _ => False) (fun A h => resA Try.prog A h K [.tmp 4]) (aargs [g0_1, w1_1] 0) h = t77 Try.prog g0_1 w1_1 h K := by kernel_rfl
theorem c77 (g0_1 : Value) (w1_1 : Value) (h : Heap) (K : Value → Heap → Prop) (H : t77 Try.prog g0_1 w1_1 h K) : callM Try.prog 77 #[g0_1, w1_1] h K :=
  callM_of_wpA mixed (fn := Try.f77) Try.func77 (c := bodyOf Try.f77) rfl (of_decide_eq_true (by kernel_rfl)) (anOf [(58, [25])]) 40 42 (by kernel_rfl) rfl [.tmp 4] (by kernel_rfl) (args := [g0_1, w1_1]) (by rw [e77]; exact H)

/-! (impl.Graph).firstTime -/
def t78 (P : Program) (g0_1 : Value) (w1_1 : Value) (from2_1 : Value) (so3_1 : Value) (h : Heap) (K : Value → Heap → Prop) : Prop :=
  eop P (Instr.box 32 g0_1) h fun g4_1 h_1 =>
  eop P (Instr.box 34 w1_1) h_1 fun w5_1 h_2 =>
  rop P (Instr.loadAt 34 w5_1) h_2 fun t12_1 =>
  callM P 70 #[t12_1] h_2 fun t13_1 h_3 =>
  eop P (Instr.alloc 34 true (.tuple #[])) h_3 fun now10_1 h_4 =>
  uop P (Instr.storeAt 34 now10_1 t13_1) h_4 fun u_1 h_5 =>
  ∃ (I_1 : List Value → Heap → Prop) (μ_1 : List Value → Heap → Nat), I_1 [(Value.int IntKind.i64 0)] h_5 ∧
  ∀ (junk_1 : Nat → Value) (n11_1 : Value) (h_6 : Heap), I_1 [n11_1] h_6 →
  pop P (binA .leq 3 n11_1 (Value.int IntKind.i64 2000)) fun t15_1 =>
  condM t15_1
  (pop P (binA .geq 3 n11_1 from2_1) fun t20_1 =>
  guardM t20_1 true (fun k_1 => k_1 so3_1 h_6) h_6 fun t22_1 h_7 =>
  guardM t20_1 true (fun k_2 => rop P (Instr.loadAt 34 now10_1) h_7 fun t23_1 =>
  k_2 t23_1 h_7) h_7 fun t23_2 h_8 =>
  guardM t20_1 true (fun k_3 => callV P t22_1 [t23_2] h_8 fun t24_1 h_9 =>
  k_3 t24_1 h_9) h_8 fun t24_2 h_10 =>
  pop P (pickS t20_1 t24_2 (Value.bool false)) fun t25_1 =>
  condM t25_1
  (K (.tuple #[n11_1, (Value.bool true)]) h_10)
  (rop P (Instr.loadAt 32 g4_1) h_10 fun t27_1 =>
  callM P 112 #[t27_1, now10_1] h_10 fun t28_1 h_11 =>
  pop P (Op.unary .not t28_1) fun t29_1 =>
  condM t29_1
  (K (.tuple #[(Value.int IntKind.i64 0), (Value.bool false)]) h_11)
  (pop P (binA .add 3 n11_1 (Value.int IntKind.i64 1)) fun t17_1 =>
  I_1 [t17_1] h_11 ∧ μ_1 [t17_1] h_11 < μ_1 [n11_1] h_6)))
  (K (.tuple #[(Value.int IntKind.i64 0), (Value.bool false)]) h_6)
theorem e78 (g0_1 : Value) (w1_1 : Value) (from2_1 : Value) (so3_1 : Value) (h : Heap) (K : Value → Heap → Prop) : wpA Try.prog 30 (anOf [(58, [11])]) (bodyOf Try.f78) 1 (fun A h => resA Try.prog A h K [.tmp 8, .tmp 9]) (fun _ _ _ => False) (fun A h => resA Try.prog A h K [.tmp 8, .tmp 9]) (aargs [g0_1, w1_1, from2_1, so3_1] 0) h = t78 Try.prog g0_1 w1_1 from2_1 so3_1 h K := by kernel_rfl
theorem c78 (g0_1 : Value) (w1_1 : Value) (from2_1 : Value) (so3_1 : Value) (h : Heap) (K : Value → Heap → Prop) (H : t78 Try.prog g0_1 w1_1 from2_1 so3_1 h K) : callM Try.prog 78 #[g0_1, w1_1, from2_1, so3_1] h K :=
  callM_of_wpA mixed (fn := Try.f78) Try.func78 (c := bodyOf Try.f78) rfl (of_decide_eq_true (by kernel_rfl)) (anOf [(58, [11])]) 26 30 (by kernel_rfl) rfl [.tmp 8, .tmp 9] (by kernel_rfl) (args := [g0_1, w1_1, from2_1, so3_1]) (by rw [e78]; exact H)

/-! (impl.Graph).isUnicycle -/
def t79 (P : Program) (g0_1 : Value) (w1_1 : Value) (h : Heap) (K : Value → Heap → Prop) : Prop :=
  eop P (Instr.box 32 g0_1) h fun g2_1 h_1 =>
  eop P (Instr.box 34 w1_1) h_1 fun w3_1 h_2 =>
  pop P (Instr.fieldAt 32 g2_1 0) fun t8_1 =>
  rop P (Instr.loadAt 22 t8_1) h_2 fun t9_1 =>
  pop P (lenS 22 3 t9_1) fun t10_1 =>
  ∃ (I_1 : List Value → Heap → Prop) (μ_1 : List Value → Heap → Nat), I_1 [(Value.int IntKind.i64 0)] h_2 ∧
  ∀ (junk_1 : Nat → Value) (t11_1 : Value) (h_3 : Heap), I_1 [t11_1] h_3 →
  pop P (binA .lss 3 t11_1 t10_1) fun t12_1 =>
  condM t12_1
  (rop P (Instr.loadAt 32 g2_1) h_3 fun t15_1 =>
  pop P (Instr.fieldAt 34 w3_1 0) fun t16_1 =>
  rop P (Instr.loadAt 25 t16_1) h_3 fun t17_1 =>
  callM P 117 #[t15_1, t17_1, t11_1] h_3 fun t19_1 h_4 =>
  pop P (Instr.extract t19_1 0) fun t20_1 =>
  pop P (Instr.extract t19_1 1) fun t21_1 =>
  pop P (Op.unary .not t21_1) fun t23_1 =>
  guardM t23_1 false (fun k_1 => k_1 t20_1 h_4) h_4 fun t25_1 h_5 =>
  guardM t23_1 false (fun k_2 => pop P (Instr.fieldAt 34 w3_1 1) fun t26_1 =>
  k_2 t26_1 h_5) h_5 fun t26_2 h_6 =>
  guardM t23_1 false (fun k_3 => rop P (Instr.loadAt 3 t26_2) h_6 fun t27_1 =>
  k_3 t27_1 h_6) h_6 fun t27_2 h_7 =>
  guardM t23_1 false (fun k_4 => callM P 118 #[t25_1, t27_2] h_7 fun t28_1 h_8 =>
  k_4 t28_1 h_8) h_7 fun t28_2 h_9 =>
  guardM t23_1 false (fun k_5 => pop P (Op.unary .not t28_2) fun t29_1 =>
  k_5 t29_1 h_9) h_9 fun t29_2 h_10 =>
  pop P (pickS t23_1 (Value.bool true) t29_2) fun t30_1 =>
  condM t30_1
  (K (Value.bool false) h_10)
  (pop P (binA .add 3 t11_1 (Value.int IntKind.i64 1)) fun t31_1 =>
  I_1 [t31_1] h_10 ∧ μ_1 [t31_1] h_10 < μ_1 [t11_1] h_3))
  (K (Value.bool true) h_3)
theorem e79 (g0_1 : Value) (w1_1 : Value) (h : Heap) (K : Value → Heap → Prop) : wpA Try.prog 32 (anOf [(26, [11])]) (bodyOf Try.f79) 1 (fun A h => resA Try.prog A h K [.tmp 4]) (fun _ _ _ => False) (fun A h => resA Try.prog A h K [.tmp 4]) (aargs [g0_1, w1_1] 0) h = t79 Try.prog g0_1 w1_1 h K := by kernel_rfl
theorem c79 (g0_1 : Value) (w1_1 : Value) (h : Heap) (K : Value → Heap → Prop) (H : t79 Try.prog g0_1 w1_1 h K) : callM Try.prog 79 #[g0_1, w1_1] h K :=
  callM_of_wpA mixed (fn := Try.f79) Try.func79 (c := bodyOf Try.f79) rfl (of_decide_eq_true (by kernel_rfl)) (anOf [(26, [11])]) 30 32 (by kernel_rfl) rfl [.tmp 4] (by kernel_rfl) (args := [g0_1, w1_1]) (by rw [e79]; exact H)

/-! spec.grPlace -/
def t81 (P : Program) (g0_1 : Value) (p1_1 : Value) (h : Heap) (K : Value → Heap → Prop) : Prop :=
  eop P (Instr.box 32 g0_1) h fun g2_1 h_1 =>
  rop P (Instr.loadAt 32 g2_1) h_1 fun t5_1 =>
  callM P 119 #[t5_1] h_1 fun t6_1 h_2 =>
  guardM t6_1 true (fun k_1 => k_1 p1_1 h_2) h_2 fun t8_1 h_3 =>
  guardM t6_1 true (fun k_2 => pop P (Instr.fieldAt 32 g2_1 0) fun t9_1 =>
  k_2 t9_1 h_3) h_3 fun t9_2 h_4 =>
  guardM t6_1 true (fun k_3 => rop P (Instr.loadAt 22 t9_2) h_4 fun t10_1 =>
  k_3 t10_1 h_4) h_4 fun t10_2 h_5 =>
  guardM t6_1 true (fun k_4 => pop P (lenS 22 3 t10_2) fun t11_1 =>
  k_4 t11_1 h_5) h_5 fun t11_2 h_6 =>
  guardM t6_1 true (fun k_5 => pop P (binA .sub 3 t11_2 (Value.int IntKind.i64 1)) fun t12_1 =>
  k_5 t12_1 h_6) h_6 fun t12_2 h_7 =>
  guardM t6_1 true (fun k_6 => callM P 109 #[t8_1, (Value.int IntKind.i64 0), t12_2] h_7 fun t13_1 h_8 =>
  k_6 t13_1 h_8) h_7 fun t13_2 h_9 =>
  pop P (pickS t6_1 t13_2 (Value.bool false)) fun t14_1 =>
  K t14_1 h_9
theorem e81 (g0_1 : Value) (p1_1 : Value) (h : Heap) (K : Value → Heap → Prop) : wpA Try.prog 15 (anOf []) (bodyOf Try.f81) 1 (fun A h => resA Try.prog A h K [.tmp 4]) (fun _ _ _ => False) (fun A h => resA Try.prog A h K [.tmp 4]) (aargs [g0_1, p1_1] 0) h = t81 Try.prog g0_1 p1_1 h K := by kernel_rfl
theorem c81 (g0_1 : Value) (p1_1 : Value) (h : Heap) (K : Value → Heap → Prop) (H : t81 Try.prog g0_1 p1_1 h K) : callM Try.prog 81 #[g0_1, p1_1] h K :=
  callM_of_wpA mixed (fn := Try.f81) Try.func81 (c := bodyOf Try.f81) rfl (of_decide_eq_true (by kernel_rfl)) (anOf []) 13 15 (by kernel_rfl) rfl [.tmp 4] (by kernel_rfl) (args := [g0_1, p1_1]) (by rw [e81]; exact H)

/-! impl.has -/
def t85 (P : Program) (g0_1 : Value) (places1_1 : Value) (h : Heap) (K : Value → Heap → Prop) : Prop :=
  eop P (Instr.box 32 g0_1) h fun g2_1 h_1 =>
  rop P (Instr.loadAt 32 g2_1) h_1 fun t5_1 =>
  callM P 122 #[t5_1] h_1 fun t6_1 h_2 =>
  guardM t6_1 true (fun k_1 => k_1 places1_1 h_2) h_2 fun t8_1 h_3 =>
  guardM t6_1 true (fun k_2 => pop P (Instr.makeFunc (Fn.func 123) #[] #[g2_1]) fun t9_1 =>
  k_2 t9_1 h_3) h_3 fun t9_2 h_4 =>
  guardM t6_1 true (fun k_3 => callM P 106 #[t8_1, t9_2] h_4 fun t10_1 h_5 =>
  k_3 t10_1 h_5) h_4 fun t10_2 h_6 =>
  guardM t6_1 true (fun k_4 => pop P (Op.unary .not t10_2) fun t11_1 =>
  k_4 t11_1 h_6) h_6 fun t11_2 h_7 =>
  pop P (pickS t6_1 t11_2 (Value.bool false)) fun t12_1 =>
  K t12_1 h_7
theorem e85 (g0_1 : Value) (places1_1 : Value) (h : Heap) (K : Value → Heap → Prop) : wpA Try.prog 13 (anOf []) (bodyOf Try.f85) 1 (fun A h => resA Try.prog A h K [.tmp 4]) (fun _ _ _ => False) (fun A h => resA Try.prog A h K [.tmp 4]) (aargs [g0_1, places1_1] 0) h = t85 Try.prog g0_1 places1_1 h K := by kernel_rfl
theorem c85 (g0_1 : Value) (places1_1 : Value) (h : Heap) (K : Value → Heap → Prop) (H : t85 Try.prog g0_1 places1_1 h K) : callM Try.prog 85 #[g0_1, places1_1] h K :=
  callM_of_wpA mixed (fn := Try.f85) Try.func85 (c := bodyOf Try.f85) rfl (of_decide_eq_true (by kernel_rfl)) (anOf []) 11 13 (by kernel_rfl) rfl [.tmp 4] (by kernel_rfl) (args := [g0_1, places1_1]) (by rw [e85]; exact H)

/-! spec.l1All -/
def t97 (P : Program) (l0_1 : Value) (lo1_1 : Value) (hi2_1 : Value) (h : Heap) (K : Value → Heap → Prop) : Prop :=
  pop P (lenS 25 3 l0_1) fun t10_1 =>
  ∃ (I_1 : List Value → Heap → Prop) (μ_1 : List Value → Heap → Nat), I_1 [(Value.int IntKind.i64 0)] h ∧
  ∀ (junk_1 : Nat → Value) (t11_1 : Value) (h_1 : Heap), I_1 [t11_1] h_1 →
  pop P (binA .lss 3 t11_1 t10_1) fun t12_1 =>
  condM t12_1
  (pop P (Instr.indexAt 25 l0_1 t11_1) fun t13_1 =>
  rop P (Instr.loadAt 3 t13_1) h_1 fun t14_1 =>
  callM P 109 #[t14_1, lo1_1, hi2_1] h_1 fun t18_1 h_2 =>
  pop P (Op.unary .not t18_1) fun t19_1 =>
  condM t19_1
  (K (Value.bool false) h_2)
  (pop P (binA .add 3 t11_1 (Value.int IntKind.i64 1)) fun t20_1 =>
  I_1 [t20_1] h_2 ∧ μ_1 [t20_1] h_2 < μ_1 [t11_1] h_1))
  (K (Value.bool true) h_1)
theorem e97 (l0_1 : Value) (lo1_1 : Value) (hi2_1 : Value) (h : Heap) (K : Value → Heap → Prop) : wpA Try.prog 21 (anOf [(26, [11])]) (bodyOf Try.f97) 1 (fun A h => resA Try.prog A h K [.tmp 6]) (fun _ _ _ => False) (fun A h => resA Try.prog A h K [.tmp 6]) (aargs [l0_1, lo1_1, hi2_1] 0) h = t97 Try.prog l0_1 lo1_1 hi2_1 h K := by kernel_rfl
theorem c97 (l0_1 : Value) (lo1_1 : Value) (hi2_1 : Value) (h : Heap) (K : Value → Heap → Prop) (H : t97 Try.prog l0_1 lo1_1 hi2_1 h K) : callM Try.prog 97 #[l0_1, lo1_1, hi2_1] h K :=
  callM_of_wpA mixed (fn := Try.f97) Try.func97 (c := bodyOf Try.f97) rfl (of_decide_eq_true (by kernel_rfl)) (anOf [(26, [11])]) 18 21 (by kernel_rfl) rfl [.tmp 6] (by kernel_rfl) (args := [l0_1, lo1_1, hi2_1]) (by rw [e97]; exact H)

/-! slices.ContainsFunc[[]int,int] -/
def t106 (P : Program) (s0_1 : Value) (f1_1 : Value) (h : Heap) (K : Value → Heap → Prop) : Prop :=
  callM P 138 #[s0_1, f1_1] h fun t7_1 h_1 =>
  pop P (binA .geq 3 t7_1 (Value.int IntKind.i64 0)) fun t8_1 =>
  K t8_1 h_1
theorem e106 (s0_1 : Value) (f1_1 : Value) (h : Heap) (K : Value → Heap → Prop) : wpA Try.prog 9 (anOf []) (bodyOf Try.f106) 1 (fun A h => resA Try.prog A h K [.tmp 4]) (fun _ _ _ => False) (fun A h => resA Try.prog A h K [.tmp 4]) (aargs [s0_1, f1_1] 0) h = t106 Try.prog s0_1 f1_1 h K := by kernel_rfl
theorem c106 (s0_1 : Value) (f1_1 : Value) (h : Heap) (K : Value → Heap → Prop) (H : t106 Try.prog s0_1 f1_1 h K) : callM Try.prog 106 #[s0_1, f1_1] h K :=
  callM_of_wpA mixed (fn := Try.f106) Try.func106 (c := bodyOf Try.f106) rfl (of_decide_eq_true (by kernel_rfl)) (anOf []) 7 9 (by kernel_rfl) rfl [.tmp 4] (by kernel_rfl) (args := [s0_1, f1_1]) (by rw [e106]; exact H)

/-! spec.l1In -/
def t109 (P : Program) (n0_1 : Value) (lo1_1 : Value) (hi2_1 : Value) (h : Heap) (K : Value → Heap → Prop) : Prop :=
  pop P (binA .geq 3 n0_1 lo1_1) fun t9_1 =>
  guardM t9_1 true (fun k_1 => k_1 n0_1 h) h fun t11_1 h_1 =>
  guardM t9_1 true (fun k_2 => k_2 hi2_1 h_1) h_1 fun t12_1 h_2 =>
  guardM t9_1 true (fun k_3 => pop P (binA .leq 3 t11_1 t12_1) fun t13_1 =>
  k_3 t13_1 h_2) h_2 fun t13_2 h_3 =>
  pop P (pickS t9_1 t13_2 (Value.bool false)) fun t14_1 =>
  K t14_1 h_3
theorem e109 (n0_1 : Value) (lo1_1 : Value) (hi2_1 : Value) (h : Heap) (K : Value → Heap → Prop) : wpA Try.prog 15 (anOf []) (bodyOf Try.f109) 1 (fun A h => resA Try.prog A h K [.tmp 6]) (fun _ _ _ => False) (fun A h => resA Try.prog A h K [.tmp 6]) (aargs [n0_1, lo1_1, hi2_1] 0) h = t109 Try.prog n0_1 lo1_1 hi2_1 h K := by kernel_rfl
theorem c109 (n0_1 : Value) (lo1_1 : Value) (hi2_1 : Value) (h : Heap) (K : Value → Heap → Prop) (H : t109 Try.prog n0_1 lo1_1 hi2_1 h K) : callM Try.prog 109 #[n0_1, lo1_1, hi2_1] h K :=
  callM_of_wpA mixed (fn := Try.f109) Try.func109 (c := bodyOf Try.f109) rfl (of_decide_eq_true (by kernel_rfl)) (anOf []) 12 15 (by kernel_rfl) rfl [.tmp 6] (by kernel_rfl) (args := [n0_1, lo1_1, hi2_1]) (by rw [e109]; exact H)

/-! impl.in -/
def t110 (P : Program) (n0_1 : Value) (low1_1 : Value) (high2_1 : Value) (h : Heap) (K : Value → Heap → Prop) : Prop :=
  pop P (binA .leq 3 low1_1 n0_1) fun t9_1 =>
  guardM t9_1 true (fun k_1 => k_1 n0_1 h) h fun t11_1 h_1 =>
  guardM t9_1 true (fun k_2 => k_2 high2_1 h_1) h_1 fun t12_1 h_2 =>
  guardM t9_1 true (fun k_3 => pop P (binA .leq 3 t11_1 t12_1) fun t13_1 =>
  k_3 t13_1 h_2) h_2 fun t13_2 h_3 =>
  pop P (pickS t9_1 t13_2 (Value.bool false)) fun t14_1 =>
  K t14_1 h_3
theorem e110 (n0_1 : Value) (low1_1 : Value) (high2_1 : Value) (h : Heap) (K : Value → Heap → Prop) : wpA Try.prog 15 (anOf []) (bodyOf Try.f110) 1 (fun A h => resA Try.prog A h K [.tmp 6]) (fun _ _ _ => False) (fun A h => resA Try.prog A h K [.tmp 6]) (aargs [n0_1, low1_1, high2_1] 0) h = t110 Try.prog n0_1 low1_1 high2_1 h K := by kernel_rfl
theorem c110 (n0_1 : Value) (low1_1 : Value) (high2_1 : Value) (h : Heap) (K : Value → Heap → Prop) (H : t110 Try.prog n0_1 low1_1 high2_1 h K) : callM Try.prog 110 #[n0_1, low1_1, high2_1] h K :=
  callM_of_wpA mixed (fn := Try.f110) Try.func110 (c := bodyOf Try.f110) rfl (of_decide_eq_true (by kernel_rfl)) (anOf []) 12 15 (by kernel_rfl) rfl [.tmp 6] (by kernel_rfl) (args := [n0_1, low1_1, high2_1]) (by rw [e110]; exact H)

/-! slices.Clone[[]int,int] -/
def t111 (P : Program) (s0_1 : Value) (h : Heap) (K : Value → Heap → Prop) : Prop :=
  pop P (binE .eql 25 (.tmp 3) (.const (Value.slice none 0 0)) s0_1 (Value.slice none 0 0)) fun t4_1 =>
  condM t4_1
  (K (Value.slice none 0 0) h)
  (eop P (Instr.buildSlice 25 0 #[]) h fun t5_1 h_1 =>
  eop P (appS 25 25 25 t5_1 s0_1) h_1 fun t7_1 h_2 =>
  K t7_1 h_2)
theorem e111 (s0_1 : Value) (h : Heap) (K : Value → Heap → Prop) : wpA Try.prog 8 (anOf []) (bodyOf Try.f111) 1 (fun A h => resA Try.prog A h K [.tmp 2]) (fun _ _ _ => False) (fun A h => resA Try.prog A h K [.tmp 2]) (aargs [s0_1] 0) h = t111 Try.prog s0_1 h K := by kernel_rfl
theorem c111 (s0_1 : Value) (h : Heap) (K : Value → Heap → Prop) (H : t111 Try.prog s0_1 h K) : callM Try.prog 111 #[s0_1] h K :=
  callM_of_wpA mixed (fn := Try.f111) Try.func111 (c := bodyOf Try.f111) rfl (of_decide_eq_true (by kernel_rfl)) (anOf []) 7 8 (by kernel_rfl) rfl [.tmp 2] (by kernel_rfl) (args := [s0_1]) (by rw [e111]; exact H)

/-! (impl.Graph).step -/
def t112 (P : Program) (g0_1 : Value) (w1_1 : Value) (h : Heap) (K : Value → Heap → Prop) : Prop :=
  eop P (Instr.box 32 g0_1) h fun g2_1 h_1 =>
  pop P (Instr.fieldAt 32 g2_1 0) fun t6_1 =>
  rop P (Instr.loadAt 22 t6_1) h_1 fun t7_1 =>
  pop P (nilS w1_1) fun t9_1 =>
  pop P (Instr.fieldAt 34 t9_1 1) fun t10_1 =>
  rop P (Instr.loadAt 3 t10_1) h_1 fun t11_1 =>
  pop P (Instr.indexAt 22 t7_1 t11_1) fun t12_1 =>
  rop P (Instr.loadAt 25 t12_1) h_1 fun t13_1 =>
  pop P (lenS 25 3 t13_1) fun t15_1 =>
  pop P (binE .eql 3 (.tmp 15) (.const (Value.int IntKind.i64 0)) t15_1 (Value.int IntKind.i64 0)) fun t16_1 =>
  condM t16_1
  (K (Value.bool false) h_1)
  (pop P (nilS w1_1) fun t18_1 =>
  pop P (Instr.fieldAt 34 t18_1 0) fun t19_1 =>
  rop P (Instr.loadAt 25 t19_1) h_1 fun t20_1 =>
  pop P (nilS w1_1) fun t22_1 =>
  pop P (Instr.fieldAt 34 t22_1 1) fun t23_1 =>
  rop P (Instr.loadAt 3 t23_1) h_1 fun t24_1 =>
  pop P (nilS w1_1) fun t26_1 =>
  pop P (Instr.fieldAt 34 t26_1 0) fun t27_1 =>
  rop P (Instr.loadAt 25 t27_1) h_1 fun t28_1 =>
  pop P (nilS w1_1) fun t30_1 =>
  pop P (Instr.fieldAt 34 t30_1 1) fun t31_1 =>
  rop P (Instr.loadAt 3 t31_1) h_1 fun t32_1 =>
  pop P (Instr.indexAt 25 t28_1 t32_1) fun t33_1 =>
  rop P (Instr.loadAt 3 t33_1) h_1 fun t34_1 =>
  pop P (binA .add 3 t34_1 (Value.int IntKind.i64 1)) fun t35_1 =>
  pop P (lenS 25 3 t13_1) fun t37_1 =>
  pop P (binA .rem 3 t35_1 t37_1) fun t38_1 =>
  pop P (Instr.indexAt 25 t20_1 t24_1) fun t39_1 =>
  uop P (Instr.storeAt 3 t39_1 t38_1) h_1 fun u_1 h_2 =>
  pop P (nilS w1_1) fun t43_1 =>
  pop P (Instr.fieldAt 34 t43_1 0) fun t44_1 =>
  rop P (Instr.loadAt 25 t44_1) h_2 fun t45_1 =>
  pop P (nilS w1_1) fun t47_1 =>
  pop P (Instr.fieldAt 34 t47_1 1) fun t48_1 =>
  rop P (Instr.loadAt 3 t48_1) h_2 fun t49_1 =>
  pop P (Instr.indexAt 25 t45_1 t49_1) fun t50_1 =>
  rop P (Instr.loadAt 3 t50_1) h_2 fun t51_1 =>
  pop P (Instr.indexAt 25 t13_1 t51_1) fun t52_1 =>
  rop P (Instr.loadAt 3 t52_1) h_2 fun t53_1 =>
  pop P (nilS w1_1) fun t54_1 =>
  pop P (Instr.fieldAt 34 t54_1 1) fun t55_1 =>
  uop P (Instr.storeAt 3 t55_1 t53_1) h_2 fun u_2 h_3 =>
  K (Value.bool true) h_3)
theorem e112 (g0_1 : Value) (w1_1 : Value) (h : Heap) (K : Value → Heap → Prop) : wpA Try.prog 56 (anOf []) (bodyOf Try.f112) 1 (fun A h => resA Try.prog A h K [.tmp 4]) (fun _ _ _ => False) (fun A h => resA Try.prog A h K [.tmp 4]) (aargs [g0_1, w1_1] 0) h = t112 Try.prog g0_1 w1_1 h K := by kernel_rfl
theorem c112 (g0_1 : Value) (w1_1 : Value) (h : Heap) (K : Value → Heap → Prop) (H : t112 Try.prog g0_1 w1_1 h K) : callM Try.prog 112 #[g0_1, w1_1] h K :=
  callM_of_wpA mixed (fn := Try.f112) Try.func112 (c := bodyOf Try.f112) rfl (of_decide_eq_true (by kernel_rfl)) (anOf []) 54 56 (by kernel_rfl) rfl [.tmp 4] (by kernel_rfl) (args := [g0_1, w1_1]) (by rw [e112]; exact H)

/-! spec.l1Most -/
def t113 (P : Program) (a0_1 : Value) (b1_1 : Value) (h : Heap) (K : Value → Heap → Prop) : Prop :=
  pop P (binA .gtr 3 a0_1 b1_1) fun t7_1 =>
  condM t7_1
  (K a0_1 h)
  (K b1_1 h)
theorem e113 (a0_1 : Value) (b1_1 : Value) (h : Heap) (K : Value → Heap → Prop) : wpA Try.prog 10 (anOf []) (bodyOf Try.f113) 1 (fun A h => resA Try.prog A h K [.tmp 4]) (fun _ _ _ => False) (fun A h => resA Try.prog A h K [.tmp 4]) (aargs [a0_1, b1_1] 0) h = t113 Try.prog a0_1 b1_1 h K := by kernel_rfl
theorem c113 (a0_1 : Value) (b1_1 : Value) (h : Heap) (K : Value → Heap → Prop) (H : t113 Try.prog a0_1 b1_1 h K) : callM Try.prog 113 #[a0_1, b1_1] h K :=
  callM_of_wpA mixed (fn := Try.f113) Try.func113 (c := bodyOf Try.f113) rfl (of_decide_eq_true (by kernel_rfl)) (anOf []) 8 10 (by kernel_rfl) rfl [.tmp 4] (by kernel_rfl) (args := [a0_1, b1_1]) (by rw [e113]; exact H)

/-! spec.trCycle -/
def t114 (P : Program) (g0_1 : Value) (rotors1_1 : Value) (p2_1 : Value) (h : Heap) (K : Value → Heap → Prop) : Prop :=
  eop P (Instr.box 32 g0_1) h fun g3_1 h_1 =>
  ∃ (I_1 : List Value → Heap → Prop) (μ_1 : List Value → Heap → Nat), I_1 [p2_1, (Value.int IntKind.i64 0)] h_1 ∧
  ∀ (junk_1 : Nat → Value) (p2_2 : Value) (n8_1 : Value) (h_2 : Heap), I_1 [p2_2, n8_1] h_2 →
  pop P (Instr.fieldAt 32 g3_1 0) fun t12_1 =>
  rop P (Instr.loadAt 22 t12_1) h_2 fun t13_1 =>
  pop P (lenS 22 3 t13_1) fun t14_1 =>
  pop P (binA .lss 3 n8_1 t14_1) fun t15_1 =>
  condM t15_1
  (rop P (Instr.loadAt 32 g3_1) h_2 fun t18_1 =>
  callM P 139 #[t18_1, rotors1_1, p2_2] h_2 fun t21_1 h_3 =>
  pop P (binA .lss 3 t21_1 (Value.int IntKind.i64 0)) fun t23_1 =>
  condM t23_1
  (K (.tuple #[(Value.slice none 0 0), (Value.bool false)]) h_3)
  (pop P (binA .add 3 n8_1 (Value.int IntKind.i64 1)) fun t17_1 =>
  I_1 [t21_1, t17_1] h_3 ∧ μ_1 [t21_1, t17_1] h_3 < μ_1 [p2_2, n8_1] h_2))
  (eop P (Instr.buildSlice 25 1 #[(0, p2_2)]) h_2 fun t25_1 h_4 =>
  rop P (Instr.loadAt 32 g3_1) h_4 fun t26_1 =>
  callM P 139 #[t26_1, rotors1_1, p2_2] h_4 fun t29_1 h_5 =>
  ∃ (I_2 : List Value → Heap → Prop) (μ_2 : List Value → Heap → Nat), I_2 [t25_1, t29_1] h_5 ∧
  ∀ (junk_2 : Nat → Value) (out9_1 : Value) (q10_1 : Value) (h_6 : Heap), I_2 [out9_1, q10_1] h_6 →
  pop P (binE .neq 3 (.tmp 30) (.tmp 31) q10_1 p2_2) fun t32_1 =>
  condM t32_1
  (eop P (Instr.buildSlice 25 1 #[(0, q10_1)]) h_6 fun t39_1 h_7 =>
  eop P (appS 25 25 25 out9_1 t39_1) h_7 fun t40_1 h_8 =>
  rop P (Instr.loadAt 32 g3_1) h_8 fun t33_1 =>
  callM P 139 #[t33_1, rotors1_1, q10_1] h_8 fun t36_1 h_9 =>
  I_2 [t40_1, t36_1] h_9 ∧ μ_2 [t40_1, t36_1] h_9 < μ_2 [out9_1, q10_1] h_6)
  (K (.tuple #[out9_1, (Value.bool true)]) h_6))
theorem e114 (g0_1 : Value) (rotors1_1 : Value) (p2_1 : Value) (h : Heap) (K : Value → Heap → Prop) : wpA Try.prog 42 (anOf [(26, [2, 8]), (122, [9, 10])]) (bodyOf Try.f114) 1 (fun A h => resA Try.prog A h K [.tmp 6, .tmp 7]) (fun _ _ _ => False) (fun A h => resA Try.prog A h K [.tmp 6, .tmp 7]) (aargs [g0_1, rotors1_1, p2_1] 0) h = t114 Try.prog g0_1 rotors1_1 p2_1 h K := by kernel_rfl
theorem c114 (g0_1 : Value) (rotors1_1 : Value) (p2_1 : Value) (h : Heap) (K : Value → Heap → Prop) (H : t114 Try.prog g0_1 rotors1_1 p2_1 h K) : callM Try.prog 114 #[g0_1, rotors1_1, p2_1] h K :=
  callM_of_wpA mixed (fn := Try.f114) Try.func114 (c := bodyOf Try.f114) rfl (of_decide_eq_true (by kernel_rfl)) (anOf [(26, [2, 8]), (122, [9, 10])]) 39 42 (by kernel_rfl) rfl [.tmp 6, .tmp 7] (by kernel_rfl) (args := [g0_1, rotors1_1, p2_1]) (by rw [e114]; exact H)

/-! spec.l1Has -/
def t115 (P : Program) (l0_1 : Value) (n1_1 : Value) (h : Heap) (K : Value → Heap → Prop) : Prop :=
  pop P (lenS 25 3 l0_1) fun t8_1 =>
  ∃ (I_1 : List Value → Heap → Prop) (μ_1 : List Value → Heap → Nat), I_1 [(Value.int IntKind.i64 0)] h ∧
  ∀ (junk_1 : Nat → Value) (t9_1 : Value) (h_1 : Heap), I_1 [t9_1] h_1 →
  pop P (binA .lss 3 t9_1 t8_1) fun t10_1 =>
  condM t10_1
  (pop P (Instr.indexAt 25 l0_1 t9_1) fun t11_1 =>
  rop P (Instr.loadAt 3 t11_1) h_1 fun t12_1 =>
  pop P (binE .eql 3 (.tmp 13) (.tmp 14) t12_1 n1_1) fun t15_1 =>
  condM t15_1
  (K (Value.bool true) h_1)
  (pop P (binA .add 3 t9_1 (Value.int IntKind.i64 1)) fun t16_1 =>
  I_1 [t16_1] h_1 ∧ μ_1 [t16_1] h_1 < μ_1 [t9_1] h_1))
  (K (Value.bool false) h_1)
theorem e115 (l0_1 : Value) (n1_1 : Value) (h : Heap) (K : Value → Heap → Prop) : wpA Try.prog 17 (anOf [(26, [9])]) (bodyOf Try.f115) 1 (fun A h => resA Try.prog A h K [.tmp 4]) (fun _ _ _ => False) (fun A h => resA Try.prog A h K [.tmp 4]) (aargs [l0_1, n1_1] 0) h = t115 Try.prog l0_1 n1_1 h K := by kernel_rfl
theorem c115 (l0_1 : Value) (n1_1 : Value) (h : Heap) (K : Value → Heap → Prop) (H : t115 Try.prog l0_1 n1_1 h K) : callM Try.prog 115 #[l0_1, n1_1] h K :=
  callM_of_wpA mixed (fn := Try.f115) Try.func115 (c := bodyOf Try.f115) rfl (of_decide_eq_true (by kernel_rfl)) (anOf [(26, [9])]) 15 17 (by kernel_rfl) rfl [.tmp 4] (by kernel_rfl) (args := [l0_1, n1_1]) (by rw [e115]; exact H)

/-! spec.l1Own -/
def t116 (P : Program) (l0_1 : Value) (h : Heap) (K : Value → Heap → Prop) : Prop :=
  eop P (Instr.buildSlice 25 0 #[]) h fun t3_1 h_1 =>
  eop P (appS 25 25 25 t3_1 l0_1) h_1 fun t5_1 h_2 =>
  K t5_1 h_2
theorem e116 (l0_1 : Value) (h : Heap) (K : Value → Heap → Prop) : wpA Try.prog 6 (anOf []) (bodyOf Try.f116) 1 (fun A h => resA Try.prog A h K [.tmp 2]) (fun _ _ _ => False) (fun A h => resA Try.prog A h K [.tmp 2]) (aargs [l0_1] 0) h = t116 Try.prog l0_1 h K := by kernel_rfl
theorem c116 (l0_1 : Value) (h : Heap) (K : Value → Heap → Prop) (H : t116 Try.prog l0_1 h K) : callM Try.prog 116 #[l0_1] h K :=
  callM_of_wpA mixed (fn := Try.f116) Try.func116 (c := bodyOf Try.f116) rfl (of_decide_eq_true (by kernel_rfl)) (anOf []) 5 6 (by kernel_rfl) rfl [.tmp 2] (by kernel_rfl) (args := [l0_1]) (by rw [e116]; exact H)

/-! (impl.Graph).cycleFrom -/
def t117 (P : Program) (g0_1 : Value) (rotors1_1 : Value) (p2_1 : Value) (h : Heap) (K : Value → Heap → Prop) : Prop :=
  eop P (Instr.box 32 g0_1) h fun g3_1 h_1 =>
  eop P (Instr.buildSlice 25 0 #[]) h_1 fun t9_1 h_2 =>
  ∃ (I_1 : List Value → Heap → Prop) (μ_1 : List Value → Heap → Nat), I_1 [p2_1, t9_1] h_2 ∧
  ∀ (junk_1 : Nat → Value) (p2_2 : Value) (met8_1 : Value) (h_3 : Heap), I_1 [p2_2, met8_1] h_3 →
  callM P 118 #[met8_1, p2_2] h_3 fun t12_1 h_4 =>
  pop P (Op.unary .not t12_1) fun t13_1 =>
  condM t13_1
  (eop P (Instr.buildSlice 25 1 #[(0, p2_2)]) h_4 fun t16_1 h_5 =>
  eop P (appS 25 25 25 met8_1 t16_1) h_5 fun t17_1 h_6 =>
  rop P (Instr.loadAt 32 g3_1) h_6 fun t18_1 =>
  callM P 140 #[t18_1, rotors1_1, p2_2] h_6 fun t21_1 h_7 =>
  pop P (binA .lss 3 t21_1 (Value.int IntKind.i64 0)) fun t23_1 =>
  condM t23_1
  (K (.tuple #[(Value.slice none 0 0), (Value.bool false)]) h_7)
  (I_1 [t21_1, t17_1] h_7 ∧ μ_1 [t21_1, t17_1] h_7 < μ_1 [p2_2, met8_1] h_3))
  (callM P 124 #[met8_1, p2_2] h_4 fun t27_1 h_8 =>
  pop P (Instr.sliceAt 25 met8_1 (some t27_1) none none) fun t28_1 =>
  K (.tuple #[t28_1, (Value.bool true)]) h_8)
theorem e117 (g0_1 : Value) (rotors1_1 : Value) (p2_1 : Value) (h : Heap) (K : Value → Heap → Prop) : wpA Try.prog 29 (anOf [(28, [2, 8])]) (bodyOf Try.f117) 1 (fun A h => resA Try.prog A h K [.tmp 6, .tmp 7]) (fun _ _ _ => False) (fun A h => resA Try.prog A h K [.tmp 6, .tmp 7]) (aargs [g0_1, rotors1_1, p2_1] 0) h = t117 Try.prog g0_1 rotors1_1 p2_1 h K := by kernel_rfl
theorem c117 (g0_1 : Value) (rotors1_1 : Value) (p2_1 : Value) (h : Heap) (K : Value → Heap → Prop) (H : t117 Try.prog g0_1 rotors1_1 p2_1 h K) : callM Try.prog 117 #[g0_1, rotors1_1, p2_1] h K :=
  callM_of_wpA mixed (fn := Try.f117) Try.func117 (c := bodyOf Try.f117) rfl (of_decide_eq_true (by kernel_rfl)) (anOf [(28, [2, 8])]) 26 29 (by kernel_rfl) rfl [.tmp 6, .tmp 7] (by kernel_rfl) (args := [g0_1, rotors1_1, p2_1]) (by rw [e117]; exact H)

/-! slices.Contains[[]int,int] -/
def t118 (P : Program) (s0_1 : Value) (v1_1 : Value) (h : Heap) (K : Value → Heap → Prop) : Prop :=
  callM P 124 #[s0_1, v1_1] h fun t7_1 h_1 =>
  pop P (binA .geq 3 t7_1 (Value.int IntKind.i64 0)) fun t8_1 =>
  K t8_1 h_1
theorem e118 (s0_1 : Value) (v1_1 : Value) (h : Heap) (K : Value → Heap → Prop) : wpA Try.prog 9 (anOf []) (bodyOf Try.f118) 1 (fun A h => resA Try.prog A h K [.tmp 4]) (fun _ _ _ => False) (fun A h => resA Try.prog A h K [.tmp 4]) (aargs [s0_1, v1_1] 0) h = t118 Try.prog s0_1 v1_1 h K := by kernel_rfl
theorem c118 (s0_1 : Value) (v1_1 : Value) (h : Heap) (K : Value → Heap → Prop) (H : t118 Try.prog s0_1 v1_1 h K) : callM Try.prog 118 #[s0_1, v1_1] h K :=
  callM_of_wpA mixed (fn := Try.f118) Try.func118 (c := bodyOf Try.f118) rfl (of_decide_eq_true (by kernel_rfl)) (anOf []) 7 9 (by kernel_rfl) rfl [.tmp 4] (by kernel_rfl) (args := [s0_1, v1_1]) (by rw [e118]; exact H)

/-! spec.grGood -/
def t119 (P : Program) (g0_1 : Value) (h : Heap) (K : Value → Heap → Prop) : Prop :=
  eop P (Instr.box 32 g0_1) h fun g1_1 h_1 =>
  pop P (Instr.fieldAt 32 g1_1 0) fun t6_1 =>
  rop P (Instr.loadAt 22 t6_1) h_1 fun t7_1 =>
  pop P (lenS 22 3 t7_1) fun t8_1 =>
  callM P 109 #[t8_1, (Value.int IntKind.i64 1), (Value.int IntKind.i64 8)] h_1 fun t10_1 h_2 =>
  pop P (Op.unary .not t10_1) fun t11_1 =>
  condM t11_1
  (K (Value.bool false) h_2)
  (pop P (Instr.fieldAt 32 g1_1 0) fun t12_1 =>
  rop P (Instr.loadAt 22 t12_1) h_2 fun t13_1 =>
  pop P (lenS 22 3 t13_1) fun t14_1 =>
  ∃ (I_1 : List Value → Heap → Prop) (μ_1 : List Value → Heap → Nat), I_1 [(Value.int IntKind.i64 0)] h_2 ∧
  ∀ (junk_1 : Nat → Value) (t15_1 : Value) (h_3 : Heap), I_1 [t15_1] h_3 →
  pop P (binA .lss 3 t15_1 t14_1) fun t16_1 =>
  condM t16_1
  (pop P (Instr.indexAt 22 t13_1 t15_1) fun t17_1 =>
  rop P (Instr.loadAt 25 t17_1) h_3 fun t18_1 =>
  pop P (lenS 25 3 t18_1) fun t20_1 =>
  pop P (binA .gtr 3 t20_1 (Value.int IntKind.i64 5)) fun t21_1 =>
  guardM t21_1 false (fun k_1 => k_1 t18_1 h_3) h_3 fun t23_1 h_4 =>
  guardM t21_1 false (fun k_2 => k_2 t8_1 h_4) h_4 fun t24_1 h_5 =>
  guardM t21_1 false (fun k_3 => pop P (binA .sub 3 t24_1 (Value.int IntKind.i64 1)) fun t25_1 =>
  k_3 t25_1 h_5) h_5 fun t25_2 h_6 =>
  guardM t21_1 false (fun k_4 => callM P 97 #[t23_1, (Value.int IntKind.i64 0), t25_2] h_6 fun t26_1 h_7 =>
  k_4 t26_1 h_7) h_6 fun t26_2 h_8 =>
  guardM t21_1 false (fun k_5 => pop P (Op.unary .not t26_2) fun t27_1 =>
  k_5 t27_1 h_8) h_8 fun t27_2 h_9 =>
  pop P (pickS t21_1 (Value.bool true) t27_2) fun t28_1 =>
  condM t28_1
  (K (Value.bool false) h_9)
  (pop P (binA .add 3 t15_1 (Value.int IntKind.i64 1)) fun t29_1 =>
  I_1 [t29_1] h_9 ∧ μ_1 [t29_1] h_9 < μ_1 [t15_1] h_3))
  (K (Value.bool true) h_3))
theorem e119 (g0_1 : Value) (h : Heap) (K : Value → Heap → Prop) : wpA Try.prog 30 (anOf [(122, [15])]) (bodyOf Try.f119) 1 (fun A h => resA Try.prog A h K [.tmp 2]) (fun _ _ _ => False) (fun A h => resA Try.prog A h K [.tmp 2]) (aargs [g0_1] 0) h = t119 Try.prog g0_1 h K := by kernel_rfl
theorem c119 (g0_1 : Value) (h : Heap) (K : Value → Heap → Prop) (H : t119 Try.prog g0_1 h K) : callM Try.prog 119 #[g0_1] h K :=
  callM_of_wpA mixed (fn := Try.f119) Try.func119 (c := bodyOf Try.f119) rfl (of_decide_eq_true (by kernel_rfl)) (anOf [(122, [15])]) 29 30 (by kernel_rfl) rfl [.tmp 2] (by kernel_rfl) (args := [g0_1]) (by rw [e119]; exact H)

/-! impl.isGraph -/
def t122 (P : Program) (g0_1 : Value) (h : Heap) (K : Value → Heap → Prop) : Prop :=
  eop P (Instr.box 32 g0_1) h fun g1_1 h_1 =>
  pop P (Instr.fieldAt 32 g1_1 0) fun t6_1 =>
  rop P (Instr.loadAt 22 t6_1) h_1 fun t7_1 =>
  pop P (lenS 22 3 t7_1) fun t8_1 =>
  eop P (Instr.alloc 3 true (.tuple #[])) h_1 fun n3_1 h_2 =>
  uop P (Instr.storeAt 3 n3_1 t8_1) h_2 fun u_1 h_3 =>
  rop P (Instr.loadAt 3 n3_1) h_3 fun t9_1 =>
  callM P 110 #[t9_1, (Value.int IntKind.i64 1), (Value.int IntKind.i64 8)] h_3 fun t10_1 h_4 =>
  pop P (Op.unary .not t10_1) fun t11_1 =>
  condM t11_1
  (K (Value.bool false) h_4)
  (pop P (Instr.fieldAt 32 g1_1 0) fun t12_1 =>
  rop P (Instr.loadAt 22 t12_1) h_4 fun t13_1 =>
  pop P (lenS 22 3 t13_1) fun t14_1 =>
  ∃ (I_1 : List Value → Heap → Prop) (μ_1 : List Value → Heap → Nat), I_1 [(Value.int IntKind.i64 0)] h_4 ∧
  ∀ (junk_1 : Nat → Value) (t15_1 : Value) (h_5 : Heap), I_1 [t15_1] h_5 →
  pop P (binA .lss 3 t15_1 t14_1) fun t16_1 =>
  condM t16_1
  (pop P (Instr.indexAt 22 t13_1 t15_1) fun t17_1 =>
  rop P (Instr.loadAt 25 t17_1) h_5 fun t18_1 =>
  pop P (lenS 25 3 t18_1) fun t20_1 =>
  pop P (binA .gtr 3 t20_1 (Value.int IntKind.i64 5)) fun t21_1 =>
  guardM t21_1 false (fun k_1 => k_1 t18_1 h_5) h_5 fun t23_1 h_6 =>
  guardM t21_1 false (fun k_2 => pop P (Instr.makeFunc (Fn.func 141) #[] #[n3_1]) fun t24_1 =>
  k_2 t24_1 h_6) h_6 fun t24_2 h_7 =>
  guardM t21_1 false (fun k_3 => callM P 106 #[t23_1, t24_2] h_7 fun t25_1 h_8 =>
  k_3 t25_1 h_8) h_7 fun t25_2 h_9 =>
  pop P (pickS t21_1 (Value.bool true) t25_2) fun t26_1 =>
  condM t26_1
  (K (Value.bool false) h_9)
  (pop P (binA .add 3 t15_1 (Value.int IntKind.i64 1)) fun t27_1 =>
  I_1 [t27_1] h_9 ∧ μ_1 [t27_1] h_9 < μ_1 [t15_1] h_5))
  (K (Value.bool true) h_5))
theorem e122 (g0_1 : Value) (h : Heap) (K : Value → Heap → Prop) : wpA Try.prog 28 (anOf [(122, [15])]) (bodyOf Try.f122) 1 (fun A h => resA Try.prog A h K [.tmp 2]) (fun _ _ _ => False) (fun A h => resA Try.prog A h K [.tmp 2]) (aargs [g0_1] 0) h = t122 Try.prog g0_1 h K := by kernel_rfl
theorem c122 (g0_1 : Value) (h : Heap) (K : Value → Heap → Prop) (H : t122 Try.prog g0_1 h K) : callM Try.prog 122 #[g0_1] h K :=
  callM_of_wpA mixed (fn := Try.f122) Try.func122 (c := bodyOf Try.f122) rfl (of_decide_eq_true (by kernel_rfl)) (anOf [(122, [15])]) 27 28 (by kernel_rfl) rfl [.tmp 2] (by kernel_rfl) (args := [g0_1]) (by rw [e122]; exact H)

/-! impl.has$1 -/
def t123 (P : Program) (p0_1 : Value) (t1_1 : Value) (h : Heap) (K : Value → Heap → Prop) : Prop :=
  pop P (Instr.fieldAt 32 t1_1 0) fun t5_1 =>
  rop P (Instr.loadAt 22 t5_1) h fun t6_1 =>
  pop P (lenS 22 3 t6_1) fun t7_1 =>
  pop P (binA .sub 3 t7_1 (Value.int IntKind.i64 1)) fun t8_1 =>
  callM P 110 #[p0_1, (Value.int IntKind.i64 0), t8_1] h fun t9_1 h_1 =>
  pop P (Op.unary .not t9_1) fun t10_1 =>
  K t10_1 h_1
theorem e123 (p0_1 : Value) (t1_1 : Value) (h : Heap) (K : Value → Heap → Prop) : wpA Try.prog 11 (anOf []) (bodyOf Try.f123) 1 (fun A h => resA Try.prog A h K [.tmp 3]) (fun _ _ _ => False) (fun A h => resA Try.prog A h K [.tmp 3]) (aargs [p0_1, t1_1] 0) h = t123 Try.prog p0_1 t1_1 h K := by kernel_rfl
theorem c123 (p0_1 : Value) (t1_1 : Value) (h : Heap) (K : Value → Heap → Prop) (H : t123 Try.prog p0_1 t1_1 h K) : callM Try.prog 123 #[p0_1, t1_1] h K :=
  callM_of_wpA mixed (fn := Try.f123) Try.func123 (c := bodyOf Try.f123) rfl (of_decide_eq_true (by kernel_rfl)) (anOf []) 9 11 (by kernel_rfl) rfl [.tmp 3] (by kernel_rfl) (args := [p0_1, t1_1]) (by rw [e123]; exact H)

/-! slices.Index[[]int,int] -/
def t124 (P : Program) (s0_1 : Value) (v1_1 : Value) (h : Heap) (K : Value → Heap → Prop) : Prop :=
  pop P (lenS 25 3 s0_1) fun t7_1 =>
  ∃ (I_1 : List Value → Heap → Prop) (μ_1 : List Value → Heap → Nat), I_1 [(Value.int IntKind.i64 0)] h ∧
  ∀ (junk_1 : Nat → Value) (t8_1 : Value) (h_1 : Heap), I_1 [t8_1] h_1 →
  pop P (binA .lss 3 t8_1 t7_1) fun t9_1 =>
  condM t9_1
  (pop P (Instr.indexAt 25 s0_1 t8_1) fun t14_1 =>
  rop P (Instr.loadAt 3 t14_1) h_1 fun t15_1 =>
  pop P (binE .eql 3 (.tmp 11) (.tmp 15) v1_1 t15_1) fun t16_1 =>
  condM t16_1
  (K t8_1 h_1)
  (pop P (binA .add 3 t8_1 (Value.int IntKind.i64 1)) fun t18_1 =>
  I_1 [t18_1] h_1 ∧ μ_1 [t18_1] h_1 < μ_1 [t8_1] h_1))
  (K (Value.int IntKind.i64 (-1)) h_1)
theorem e124 (s0_1 : Value) (v1_1 : Value) (h : Heap) (K : Value → Heap → Prop) : wpA Try.prog 19 (anOf [(26, [8])]) (bodyOf Try.f124) 1 (fun A h => resA Try.prog A h K [.tmp 4]) (fun _ _ _ => False) (fun A h => resA Try.prog A h K [.tmp 4]) (aargs [s0_1, v1_1] 0) h = t124 Try.prog s0_1 v1_1 h K := by kernel_rfl
theorem c124 (s0_1 : Value) (v1_1 : Value) (h : Heap) (K : Value → Heap → Prop) (H : t124 Try.prog s0_1 v1_1 h K) : callM Try.prog 124 #[s0_1, v1_1] h K :=
  callM_of_wpA mixed (fn := Try.f124) Try.func124 (c := bodyOf Try.f124) rfl (of_decide_eq_true (by kernel_rfl)) (anOf [(26, [8])]) 17 19 (by kernel_rfl) rfl [.tmp 4] (by kernel_rfl) (args := [s0_1, v1_1]) (by rw [e124]; exact H)

/-! slices.IndexFunc[[]int,int] -/
def t138 (P : Program) (s0_1 : Value) (f1_1 : Value) (h : Heap) (K : Value → Heap → Prop) : Prop :=
  pop P (lenS 25 3 s0_1) fun t7_1 =>
  ∃ (I_1 : List Value → Heap → Prop) (μ_1 : List Value → Heap → Nat), I_1 [(Value.int IntKind.i64 0)] h ∧
  ∀ (junk_1 : Nat → Value) (t8_1 : Value) (h_1 : Heap), I_1 [t8_1] h_1 →
  pop P (binA .lss 3 t8_1 t7_1) fun t9_1 =>
  condM t9_1
  (pop P (Instr.indexAt 25 s0_1 t8_1) fun t14_1 =>
  rop P (Instr.loadAt 3 t14_1) h_1 fun t15_1 =>
  callV P f1_1 [t15_1] h_1 fun t16_1 h_2 =>
  condM t16_1
  (K t8_1 h_2)
  (pop P (binA .add 3 t8_1 (Value.int IntKind.i64 1)) fun t18_1 =>
  I_1 [t18_1] h_2 ∧ μ_1 [t18_1] h_2 < μ_1 [t8_1] h_1))
  (K (Value.int IntKind.i64 (-1)) h_1)
theorem e138 (s0_1 : Value) (f1_1 : Value) (h : Heap) (K : Value → Heap → Prop) : wpA Try.prog 19 (anOf [(26, [8])]) (bodyOf Try.f138) 1 (fun A h => resA Try.prog A h K [.tmp 4]) (fun _ _ _ => False) (fun A h => resA Try.prog A h K [.tmp 4]) (aargs [s0_1, f1_1] 0) h = t138 Try.prog s0_1 f1_1 h K := by kernel_rfl
theorem c138 (s0_1 : Value) (f1_1 : Value) (h : Heap) (K : Value → Heap → Prop) (H : t138 Try.prog s0_1 f1_1 h K) : callM Try.prog 138 #[s0_1, f1_1] h K :=
  callM_of_wpA mixed (fn := Try.f138) Try.func138 (c := bodyOf Try.f138) rfl (of_decide_eq_true (by kernel_rfl)) (anOf [(26, [8])]) 17 19 (by kernel_rfl) rfl [.tmp 4] (by kernel_rfl) (args := [s0_1, f1_1]) (by rw [e138]; exact H)

/-! spec.trNext -/
def t139 (P : Program) (g0_1 : Value) (rotors1_1 : Value) (p2_1 : Value) (h : Heap) (K : Value → Heap → Prop) : Prop :=
  eop P (Instr.box 32 g0_1) h fun g3_1 h_1 =>
  pop P (Instr.fieldAt 32 g3_1 0) fun t7_1 =>
  rop P (Instr.loadAt 22 t7_1) h_1 fun t8_1 =>
  pop P (Instr.indexAt 22 t8_1 p2_1) fun t10_1 =>
  rop P (Instr.loadAt 25 t10_1) h_1 fun t11_1 =>
  pop P (lenS 25 3 t11_1) fun t12_1 =>
  pop P (binE .eql 3 (.tmp 12) (.const (Value.int IntKind.i64 0)) t12_1 (Value.int IntKind.i64 0)) fun t13_1 =>
  condM t13_1
  (K (Value.int IntKind.i64 (-1)) h_1)
  (pop P (Instr.fieldAt 32 g3_1 0) fun t14_1 =>
  rop P (Instr.loadAt 22 t14_1) h_1 fun t15_1 =>
  pop P (Instr.indexAt 22 t15_1 p2_1) fun t17_1 =>
  rop P (Instr.loadAt 25 t17_1) h_1 fun t18_1 =>
  pop P (Instr.indexAt 25 rotors1_1 p2_1) fun t21_1 =>
  rop P (Instr.loadAt 3 t21_1) h_1 fun t22_1 =>
  pop P (Instr.indexAt 25 t18_1 t22_1) fun t23_1 =>
  rop P (Instr.loadAt 3 t23_1) h_1 fun t24_1 =>
  K t24_1 h_1)
theorem e139 (g0_1 : Value) (rotors1_1 : Value) (p2_1 : Value) (h : Heap) (K : Value → Heap → Prop) : wpA Try.prog 25 (anOf []) (bodyOf Try.f139) 1 (fun A h => resA Try.prog A h K [.tmp 6]) (fun _ _ _ => False) (fun A h => resA Try.prog A h K [.tmp 6]) (aargs [g0_1, rotors1_1, p2_1] 0) h = t139 Try.prog g0_1 rotors1_1 p2_1 h K := by kernel_rfl
theorem c139 (g0_1 : Value) (rotors1_1 : Value) (p2_1 : Value) (h : Heap) (K : Value → Heap → Prop) (H : t139 Try.prog g0_1 rotors1_1 p2_1 h K) : callM Try.prog 139 #[g0_1, rotors1_1, p2_1] h K :=
  callM_of_wpA mixed (fn := Try.f139) Try.func139 (c := bodyOf Try.f139) rfl (of_decide_eq_true (by kernel_rfl)) (anOf []) 22 25 (by kernel_rfl) rfl [.tmp 6] (by kernel_rfl) (args := [g0_1, rotors1_1, p2_1]) (by rw [e139]; exact H)

/-! (impl.Graph).next -/
def t140 (P : Program) (g0_1 : Value) (rotors1_1 : Value) (p2_1 : Value) (h : Heap) (K : Value → Heap → Prop) : Prop :=
  eop P (Instr.box 32 g0_1) h fun g3_1 h_1 =>
  pop P (Instr.fieldAt 32 g3_1 0) fun t7_1 =>
  rop P (Instr.loadAt 22 t7_1) h_1 fun t8_1 =>
  pop P (Instr.indexAt 22 t8_1 p2_1) fun t10_1 =>
  rop P (Instr.loadAt 25 t10_1) h_1 fun t11_1 =>
  pop P (lenS 25 3 t11_1) fun t12_1 =>
  pop P (binE .eql 3 (.tmp 12) (.const (Value.int IntKind.i64 0)) t12_1 (Value.int IntKind.i64 0)) fun t13_1 =>
  condM t13_1
  (K (Value.int IntKind.i64 (-1)) h_1)
  (pop P (Instr.fieldAt 32 g3_1 0) fun t14_1 =>
  rop P (Instr.loadAt 22 t14_1) h_1 fun t15_1 =>
  pop P (Instr.indexAt 22 t15_1 p2_1) fun t17_1 =>
  rop P (Instr.loadAt 25 t17_1) h_1 fun t18_1 =>
  pop P (Instr.indexAt 25 rotors1_1 p2_1) fun t21_1 =>
  rop P (Instr.loadAt 3 t21_1) h_1 fun t22_1 =>
  pop P (Instr.indexAt 25 t18_1 t22_1) fun t23_1 =>
  rop P (Instr.loadAt 3 t23_1) h_1 fun t24_1 =>
  K t24_1 h_1)
theorem e140 (g0_1 : Value) (rotors1_1 : Value) (p2_1 : Value) (h : Heap) (K : Value → Heap → Prop) : wpA Try.prog 25 (anOf []) (bodyOf Try.f140) 1 (fun A h => resA Try.prog A h K [.tmp 6]) (fun _ _ _ => False) (fun A h => resA Try.prog A h K [.tmp 6]) (aargs [g0_1, rotors1_1, p2_1] 0) h = t140 Try.prog g0_1 rotors1_1 p2_1 h K := by kernel_rfl
theorem c140 (g0_1 : Value) (rotors1_1 : Value) (p2_1 : Value) (h : Heap) (K : Value → Heap → Prop) (H : t140 Try.prog g0_1 rotors1_1 p2_1 h K) : callM Try.prog 140 #[g0_1, rotors1_1, p2_1] h K :=
  callM_of_wpA mixed (fn := Try.f140) Try.func140 (c := bodyOf Try.f140) rfl (of_decide_eq_true (by kernel_rfl)) (anOf []) 22 25 (by kernel_rfl) rfl [.tmp 6] (by kernel_rfl) (args := [g0_1, rotors1_1, p2_1]) (by rw [e140]; exact H)

/-! impl.isGraph$1 -/
def t141 (P : Program) (q0_1 : Value) (t1_1 : Value) (h : Heap) (K : Value → Heap → Prop) : Prop :=
  rop P (Instr.loadAt 3 t1_1) h fun t5_1 =>
  pop P (binA .sub 3 t5_1 (Value.int IntKind.i64 1)) fun t6_1 =>
  callM P 110 #[q0_1, (Value.int IntKind.i64 0), t6_1] h fun t7_1 h_1 =>
  pop P (Op.unary .not t7_1) fun t8_1 =>
  K t8_1 h_1
theorem e141 (q0_1 : Value) (t1_1 : Value) (h : Heap) (K : Value → Heap → Prop) : wpA Try.prog 9 (anOf []) (bodyOf Try.f141) 1 (fun A h => resA Try.prog A h K [.tmp 3]) (fun _ _ _ => False) (fun A h => resA Try.prog A h K [.tmp 3]) (aargs [q0_1, t1_1] 0) h = t141 Try.prog q0_1 t1_1 h K := by kernel_rfl
theorem c141 (q0_1 : Value) (t1_1 : Value) (h : Heap) (K : Value → Heap → Prop) (H : t141 Try.prog q0_1 t1_1 h K) : callM Try.prog 141 #[q0_1, t1_1] h K :=
  callM_of_wpA mixed (fn := Try.f141) Try.func141 (c := bodyOf Try.f141) rfl (of_decide_eq_true (by kernel_rfl)) (anOf []) 7 9 (by kernel_rfl) rfl [.tmp 3] (by kernel_rfl) (args := [q0_1, t1_1]) (by rw [e141]; exact H)

end Go.Proofs.Ytjinpagnbflmiaa
