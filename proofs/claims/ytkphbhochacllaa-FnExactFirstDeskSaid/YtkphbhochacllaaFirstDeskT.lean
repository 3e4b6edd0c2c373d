/-
  What each function that the law 'FnExactFirstDesk' comes to asks of the heap, named; tied to the loaded program by the kernel. Written by a program.
-/
import Derived.Test.YtkphbhochacllaaProg
import Derived.Test.YtkphbhochacllaaM1
set_option linter.unusedVariables false
namespace Go.Proofs.Ytkphbhochacllaa
open Go Go.Mx
theorem mixed : Try.prog.follows .mixedOrders = true := by kernel_rfl
/-! laws.FnExactFirstDesk -/
def t3 (P : Program) (h : Heap) (K : Value → Heap → Prop) : Prop :=
  callM P 15 #[] h fun t6_1 h_1 =>
  eop P (Instr.alloc 29 true (.tuple #[])) h_1 fun w01_1 h_2 =>
  uop P (Instr.storeAt 29 w01_1 t6_1) h_2 fun u_1 h_3 =>
  callM P 16 #[] h_3 fun t7_1 h_4 =>
  eop P (Instr.alloc 29 true (.tuple #[])) h_4 fun g02_1 h_5 =>
  uop P (Instr.storeAt 29 g02_1 t7_1) h_5 fun u_2 h_6 =>
  rop P (Instr.loadAt 29 g02_1) h_6 fun t8_1 =>
  rop P (Instr.loadAt 29 w01_1) h_6 fun t9_1 =>
  callM P 17 #[t8_1, t9_1] h_6 fun t10_1 h_7 =>
  pop P (Op.unary .not t10_1) fun t11_1 =>
  condM t11_1
  (K (Value.bool false) h_7)
  (rop P (Instr.loadAt 29 g02_1) h_7 fun t12_1 =>
  callM P 18 #[t12_1, (Value.int IntKind.i64 1)] h_7 fun t14_1 h_8 =>
  rop P (Instr.loadAt 29 g02_1) h_8 fun t15_1 =>
  callM P 19 #[t15_1, (Value.int IntKind.i64 1)] h_8 fun t17_1 h_9 =>
  pop P (binA .lss 3 t17_1 (Value.int IntKind.i64 0)) fun t19_1 =>
  condM t19_1
  (K (Value.bool false) h_9)
  (pop P (binE .neq 3 (.tmp 20) (.tmp 21) t17_1 t14_1) fun t22_1 =>
  condM t22_1
  (K (Value.bool false) h_9)
  (callM P 16 #[] h_9 fun t23_1 h_10 =>
  eop P (Instr.alloc 29 true (.tuple #[])) h_10 fun h05_1 h_11 =>
  uop P (Instr.storeAt 29 h05_1 t23_1) h_11 fun u_3 h_12 =>
  rop P (Instr.loadAt 29 h05_1) h_12 fun t24_1 =>
  rop P (Instr.loadAt 29 w01_1) h_12 fun t25_1 =>
  callM P 17 #[t24_1, t25_1] h_12 fun t26_1 h_13 =>
  pop P (Op.unary .not t26_1) fun t27_1 =>
  condM t27_1
  (K (Value.bool false) h_13)
  (rop P (Instr.loadAt 29 g02_1) h_13 fun t28_1 =>
  callM P 19 #[t28_1, (Value.int IntKind.i64 1)] h_13 fun t30_1 h_14 =>
  pop P (binA .lss 3 t30_1 (Value.int IntKind.i64 0)) fun t32_1 =>
  condM t32_1
  (K (Value.bool false) h_14)
  (pop P (binE .neq 3 (.tmp 33) (.tmp 34) t30_1 t14_1) fun t35_1 =>
  condM t35_1
  (K (Value.bool false) h_14)
  (K (Value.bool true) h_14))))))
theorem e3 (h : Heap) (K : Value → Heap → Prop) : wpA Try.prog 36 (anOf []) (bodyOf Try.f3) 1 (fun A h => resA Try.prog A h K [.tmp 0]) (fun _ _ _ => False) (fun A h => resA Try.prog A h K [.tmp 0]) (aargs [] 0) h = t3 Try.prog h K := by kernel_rfl
theorem c3 (h : Heap) (K : Value → Heap → Prop) (H : t3 Try.prog h K) : callM Try.prog 3 #[] h K :=
  callM_of_wpA mixed (fn := Try.f3) Try.func3 (c := bodyOf Try.f3) rfl (of_decide_eq_true (by kernel_rfl)) (anOf []) 36 36 (by kernel_rfl) rfl [.tmp 0] (by kernel_rfl) (args := []) (by rw [e3]; exact H)

/-! spec.FirstDesk -/
def t15 (P : Program) (h : Heap) (K : Value → Heap → Prop) : Prop :=
  eop P (Instr.alloc 29 true (.tuple #[])) h fun t0_1 h_1 =>
  eop P (Instr.buildSlice 25 2 #[(0, (Value.int IntKind.i64 1)), (1, (Value.int IntKind.i64 2))]) h_1 fun t1_1 h_2 =>
  eop P (Instr.buildSlice 25 2 #[(0, (Value.int IntKind.i64 0)), (1, (Value.int IntKind.i64 2))]) h_2 fun t2_1 h_3 =>
  eop P (Instr.buildSlice 25 1 #[(0, (Value.int IntKind.i64 0))]) h_3 fun t3_1 h_4 =>
  eop P (Instr.buildSlice 22 3 #[(0, t1_1), (1, t2_1), (2, t3_1)]) h_4 fun t4_1 h_5 =>
  pop P (Instr.build 24 #[(0, t4_1)]) fun t5_1 =>
  eop P (Instr.buildSlice 25 3 #[(0, (Value.int IntKind.i64 0)), (1, (Value.int IntKind.i64 0)), (2, (Value.int IntKind.i64 0))]) h_5 fun t6_1 h_6 =>
  pop P (Instr.build 27 #[(0, t6_1)]) fun t7_1 =>
  pop P (Instr.build 29 #[(0, t5_1), (1, t7_1)]) fun t8_1 =>
  uop P (Instr.storeAt 29 t0_1 t8_1) h_6 fun u_1 h_7 =>
  rop P (Instr.loadAt 29 t0_1) h_7 fun r_1 =>
  K r_1 h_7
theorem e15 (h : Heap) (K : Value → Heap → Prop) : wpA Try.prog 9 (anOf []) (bodyOf Try.f15) 1 (fun A h => resA Try.prog A h K [.cell 0 29]) (fun _ _ _ => False) (fun A h => resA Try.prog A h K [.cell 0 29]) (aargs [] 0) h = t15 Try.prog h K := by kernel_rfl
theorem c15 (h : Heap) (K : Value → Heap → Prop) (H : t15 Try.prog h K) : callM Try.prog 15 #[] h K :=
  callM_of_wpA mixed (fn := Try.f15) Try.func15 (c := bodyOf Try.f15) rfl (of_decide_eq_true (by kernel_rfl)) (anOf []) 9 9 (by kernel_rfl) rfl [.cell 0 29] (by kernel_rfl) (args := []) (by rw [e15]; exact H)

/-! impl.FirstDesk -/
def t16 (P : Program) (h : Heap) (K : Value → Heap → Prop) : Prop :=
  eop P (Instr.alloc 29 true (.tuple #[])) h fun t0_1 h_1 =>
  eop P (Instr.buildSlice 25 2 #[(0, (Value.int IntKind.i64 1)), (1, (Value.int IntKind.i64 2))]) h_1 fun t1_1 h_2 =>
  eop P (Instr.buildSlice 25 2 #[(0, (Value.int IntKind.i64 0)), (1, (Value.int IntKind.i64 2))]) h_2 fun t2_1 h_3 =>
  eop P (Instr.buildSlice 25 1 #[(0, (Value.int IntKind.i64 0))]) h_3 fun t3_1 h_4 =>
  eop P (Instr.buildSlice 22 3 #[(0, t1_1), (1, t2_1), (2, t3_1)]) h_4 fun t4_1 h_5 =>
  pop P (Instr.build 24 #[(0, t4_1)]) fun t5_1 =>
  callM P 60 #[t5_1] h_5 fun t6_1 h_6 =>
  uop P (Instr.storeAt 29 t0_1 t6_1) h_6 fun u_1 h_7 =>
  rop P (Instr.loadAt 29 t0_1) h_7 fun r_1 =>
  K r_1 h_7
theorem e16 (h : Heap) (K : Value → Heap → Prop) : wpA Try.prog 7 (anOf []) (bodyOf Try.f16) 1 (fun A h => resA Try.prog A h K [.cell 0 29]) (fun _ _ _ => False) (fun A h => resA Try.prog A h K [.cell 0 29]) (aargs [] 0) h = t16 Try.prog h K := by kernel_rfl
theorem c16 (h : Heap) (K : Value → Heap → Prop) (H : t16 Try.prog h K) : callM Try.prog 16 #[] h K :=
  callM_of_wpA mixed (fn := Try.f16) Try.func16 (c := bodyOf Try.f16) rfl (of_decide_eq_true (by kernel_rfl)) (anOf []) 7 7 (by kernel_rfl) rfl [.cell 0 29] (by kernel_rfl) (args := []) (by rw [e16]; exact H)

/-! laws.eqDesk -/
def t17 (P : Program) (a0_1 : Value) (b1_1 : Value) (h : Heap) (K : Value → Heap → Prop) : Prop :=
  eop P (Instr.box 29 a0_1) h fun a2_1 h_1 =>
  eop P (Instr.box 29 b1_1) h_1 fun b3_1 h_2 =>
  pop P (Instr.fieldAt 29 a2_1 0) fun t5_1 =>
  rop P (Instr.loadAt 24 t5_1) h_2 fun t6_1 =>
  pop P (Instr.fieldAt 29 b3_1 0) fun t7_1 =>
  rop P (Instr.loadAt 24 t7_1) h_2 fun t8_1 =>
  callM P 28 #[t6_1, t8_1] h_2 fun t9_1 h_3 =>
  pop P (Op.unary .not t9_1) fun t10_1 =>
  condM t10_1
  (K (Value.bool false) h_3)
  (pop P (Instr.fieldAt 29 a2_1 1) fun t11_1 =>
  rop P (Instr.loadAt 27 t11_1) h_3 fun t12_1 =>
  pop P (Instr.fieldAt 29 b3_1 1) fun t13_1 =>
  rop P (Instr.loadAt 27 t13_1) h_3 fun t14_1 =>
  callM P 37 #[t12_1, t14_1] h_3 fun t15_1 h_4 =>
  pop P (Op.unary .not t15_1) fun t16_1 =>
  condM t16_1
  (K (Value.bool false) h_4)
  (K (Value.bool true) h_4))
theorem e17 (a0_1 : Value) (b1_1 : Value) (h : Heap) (K : Value → Heap → Prop) : wpA Try.prog 17 (anOf []) (bodyOf Try.f17) 1 (fun A h => resA Try.prog A h K [.tmp 4]) (fun _ _ _ => False) (fun A h => resA Try.prog A h K [.tmp 4]) (aargs [a0_1, b1_1] 0) h = t17 Try.prog a0_1 b1_1 h K := by kernel_rfl
theorem c17 (a0_1 : Value) (b1_1 : Value) (h : Heap) (K : Value → Heap → Prop) (H : t17 Try.prog a0_1 b1_1 h K) : callM Try.prog 17 #[a0_1, b1_1] h K :=
  callM_of_wpA mixed (fn := Try.f17) Try.func17 (c := bodyOf Try.f17) rfl (of_decide_eq_true (by kernel_rfl)) (anOf []) 15 17 (by kernel_rfl) rfl [.tmp 4] (by kernel_rfl) (args := [a0_1, b1_1]) (by rw [e17]; exact H)

/-! laws.markDesk -/
def t18 (P : Program) (a0_1 : Value) (k1_1 : Value) (h : Heap) (K : Value → Heap → Prop) : Prop :=
  eop P (Instr.box 29 a0_1) h fun a2_1 h_1 =>
  pop P (Instr.fieldAt 29 a2_1 0) fun t5_1 =>
  rop P (Instr.loadAt 24 t5_1) h_1 fun t6_1 =>
  callM P 29 #[t6_1, k1_1] h_1 fun t8_1 h_2 =>
  pop P (Instr.fieldAt 29 a2_1 1) fun t9_1 =>
  rop P (Instr.loadAt 27 t9_1) h_2 fun t10_1 =>
  callM P 45 #[t10_1, t8_1] h_2 fun t12_1 h_3 =>
  K t12_1 h_3
theorem e18 (a0_1 : Value) (k1_1 : Value) (h : Heap) (K : Value → Heap → Prop) : wpA Try.prog 14 (anOf []) (bodyOf Try.f18) 1 (fun A h => resA Try.prog A h K [.tmp 4]) (fun _ _ _ => False) (fun A h => resA Try.prog A h K [.tmp 4]) (aargs [a0_1, k1_1] 0) h = t18 Try.prog a0_1 k1_1 h K := by kernel_rfl
theorem c18 (a0_1 : Value) (k1_1 : Value) (h : Heap) (K : Value → Heap → Prop) (H : t18 Try.prog a0_1 k1_1 h K) : callM Try.prog 18 #[a0_1, k1_1] h K :=
  callM_of_wpA mixed (fn := Try.f18) Try.func18 (c := bodyOf Try.f18) rfl (of_decide_eq_true (by kernel_rfl)) (anOf []) 12 14 (by kernel_rfl) rfl [.tmp 4] (by kernel_rfl) (args := [a0_1, k1_1]) (by rw [e18]; exact H)

/-! laws.heldDesk -/
def t19 (P : Program) (a0_1 : Value) (k1_1 : Value) (h : Heap) (K : Value → Heap → Prop) : Prop :=
  eop P (Instr.box 29 a0_1) h fun a2_1 h_1 =>
  pop P (Instr.fieldAt 29 a2_1 0) fun t5_1 =>
  rop P (Instr.loadAt 24 t5_1) h_1 fun t6_1 =>
  callM P 30 #[t6_1, k1_1] h_1 fun t8_1 h_2 =>
  pop P (binA .lss 3 t8_1 (Value.int IntKind.i64 0)) fun t10_1 =>
  condM t10_1
  (K (Value.int IntKind.i64 (-1)) h_2)
  (pop P (Instr.fieldAt 29 a2_1 1) fun t11_1 =>
  rop P (Instr.loadAt 27 t11_1) h_2 fun t12_1 =>
  callM P 50 #[t12_1, t8_1] h_2 fun t14_1 h_3 =>
  pop P (binA .lss 3 t14_1 (Value.int IntKind.i64 0)) fun t16_1 =>
  condM t16_1
  (K (Value.int IntKind.i64 (-1)) h_3)
  (K t14_1 h_3))
theorem e19 (a0_1 : Value) (k1_1 : Value) (h : Heap) (K : Value → Heap → Prop) : wpA Try.prog 18 (anOf []) (bodyOf Try.f19) 1 (fun A h => resA Try.prog A h K [.tmp 4]) (fun _ _ _ => False) (fun A h => resA Try.prog A h K [.tmp 4]) (aargs [a0_1, k1_1] 0) h = t19 Try.prog a0_1 k1_1 h K := by kernel_rfl
theorem c19 (a0_1 : Value) (k1_1 : Value) (h : Heap) (K : Value → Heap → Prop) (H : t19 Try.prog a0_1 k1_1 h K) : callM Try.prog 19 #[a0_1, k1_1] h K :=
  callM_of_wpA mixed (fn := Try.f19) Try.func19 (c := bodyOf Try.f19) rfl (of_decide_eq_true (by kernel_rfl)) (anOf []) 16 18 (by kernel_rfl) rfl [.tmp 4] (by kernel_rfl) (args := [a0_1, k1_1]) (by rw [e19]; exact H)

/-! laws.eqGraph -/
def t28 (P : Program) (a0_1 : Value) (b1_1 : Value) (h : Heap) (K : Value → Heap → Prop) : Prop :=
  eop P (Instr.box 24 a0_1) h fun a2_1 h_1 =>
  eop P (Instr.box 24 b1_1) h_1 fun b3_1 h_2 =>
  pop P (Instr.fieldAt 24 a2_1 0) fun t5_1 =>
  rop P (Instr.loadAt 22 t5_1) h_2 fun t6_1 =>
  pop P (Instr.fieldAt 24 b3_1 0) fun t7_1 =>
  rop P (Instr.loadAt 22 t7_1) h_2 fun t8_1 =>
  callM P 71 #[t6_1, t8_1] h_2 fun t9_1 h_3 =>
  pop P (Op.unary .not t9_1) fun t10_1 =>
  condM t10_1
  (K (Value.bool false) h_3)
  (K (Value.bool true) h_3)
theorem e28 (a0_1 : Value) (b1_1 : Value) (h : Heap) (K : Value → Heap → Prop) : wpA Try.prog 11 (anOf []) (bodyOf Try.f28) 1 (fun A h => resA Try.prog A h K [.tmp 4]) (fun _ _ _ => False) (fun A h => resA Try.prog A h K [.tmp 4]) (aargs [a0_1, b1_1] 0) h = t28 Try.prog a0_1 b1_1 h K := by kernel_rfl
theorem c28 (a0_1 : Value) (b1_1 : Value) (h : Heap) (K : Value → Heap → Prop) (H : t28 Try.prog a0_1 b1_1 h K) : callM Try.prog 28 #[a0_1, b1_1] h K :=
  callM_of_wpA mixed (fn := Try.f28) Try.func28 (c := bodyOf Try.f28) rfl (of_decide_eq_true (by kernel_rfl)) (anOf []) 9 11 (by kernel_rfl) rfl [.tmp 4] (by kernel_rfl) (args := [a0_1, b1_1]) (by rw [e28]; exact H)

/-! laws.markGraph -/
def t29 (P : Program) (a0_1 : Value) (k1_1 : Value) (h : Heap) (K : Value → Heap → Prop) : Prop :=
  eop P (Instr.box 24 a0_1) h fun a2_1 h_1 =>
  pop P (Instr.fieldAt 24 a2_1 0) fun t5_1 =>
  rop P (Instr.loadAt 22 t5_1) h_1 fun t6_1 =>
  callM P 72 #[t6_1, k1_1] h_1 fun t8_1 h_2 =>
  K t8_1 h_2
theorem e29 (a0_1 : Value) (k1_1 : Value) (h : Heap) (K : Value → Heap → Prop) : wpA Try.prog 10 (anOf []) (bodyOf Try.f29) 1 (fun A h => resA Try.prog A h K [.tmp 4]) (fun _ _ _ => False) (fun A h => resA Try.prog A h K [.tmp 4]) (aargs [a0_1, k1_1] 0) h = t29 Try.prog a0_1 k1_1 h K := by kernel_rfl
theorem c29 (a0_1 : Value) (k1_1 : Value) (h : Heap) (K : Value → Heap → Prop) (H : t29 Try.prog a0_1 k1_1 h K) : callM Try.prog 29 #[a0_1, k1_1] h K :=
  callM_of_wpA mixed (fn := Try.f29) Try.func29 (c := bodyOf Try.f29) rfl (of_decide_eq_true (by kernel_rfl)) (anOf []) 8 10 (by kernel_rfl) rfl [.tmp 4] (by kernel_rfl) (args := [a0_1, k1_1]) (by rw [e29]; exact H)

/-! laws.heldGraph -/
def t30 (P : Program) (a0_1 : Value) (k1_1 : Value) (h : Heap) (K : Value → Heap → Prop) : Prop :=
  eop P (Instr.box 24 a0_1) h fun a2_1 h_1 =>
  pop P (Instr.fieldAt 24 a2_1 0) fun t5_1 =>
  rop P (Instr.loadAt 22 t5_1) h_1 fun t6_1 =>
  callM P 73 #[t6_1, k1_1] h_1 fun t8_1 h_2 =>
  pop P (binA .lss 3 t8_1 (Value.int IntKind.i64 0)) fun t10_1 =>
  condM t10_1
  (K (Value.int IntKind.i64 (-1)) h_2)
  (K t8_1 h_2)
theorem e30 (a0_1 : Value) (k1_1 : Value) (h : Heap) (K : Value → Heap → Prop) : wpA Try.prog 12 (anOf []) (bodyOf Try.f30) 1 (fun A h => resA Try.prog A h K [.tmp 4]) (fun _ _ _ => False) (fun A h => resA Try.prog A h K [.tmp 4]) (aargs [a0_1, k1_1] 0) h = t30 Try.prog a0_1 k1_1 h K := by kernel_rfl
theorem c30 (a0_1 : Value) (k1_1 : Value) (h : Heap) (K : Value → Heap → Prop) (H : t30 Try.prog a0_1 k1_1 h K) : callM Try.prog 30 #[a0_1, k1_1] h K :=
  callM_of_wpA mixed (fn := Try.f30) Try.func30 (c := bodyOf Try.f30) rfl (of_decide_eq_true (by kernel_rfl)) (anOf []) 10 12 (by kernel_rfl) rfl [.tmp 4] (by kernel_rfl) (args := [a0_1, k1_1]) (by rw [e30]; exact H)

/-! laws.eqWalk -/
def t37 (P : Program) (a0_1 : Value) (b1_1 : Value) (h : Heap) (K : Value → Heap → Prop) : Prop :=
  eop P (Instr.box 27 a0_1) h fun a2_1 h_1 =>
  eop P (Instr.box 27 b1_1) h_1 fun b3_1 h_2 =>
  pop P (Instr.fieldAt 27 a2_1 0) fun t5_1 =>
  rop P (Instr.loadAt 25 t5_1) h_2 fun t6_1 =>
  pop P (Instr.fieldAt 27 b3_1 0) fun t7_1 =>
  rop P (Instr.loadAt 25 t7_1) h_2 fun t8_1 =>
  callM P 53 #[t6_1, t8_1] h_2 fun t9_1 h_3 =>
  pop P (Op.unary .not t9_1) fun t10_1 =>
  condM t10_1
  (K (Value.bool false) h_3)
  (pop P (Instr.fieldAt 27 a2_1 1) fun t11_1 =>
  rop P (Instr.loadAt 3 t11_1) h_3 fun t12_1 =>
  pop P (Instr.fieldAt 27 b3_1 1) fun t13_1 =>
  rop P (Instr.loadAt 3 t13_1) h_3 fun t14_1 =>
  pop P (binE .neq 3 (.tmp 12) (.tmp 14) t12_1 t14_1) fun t15_1 =>
  condM t15_1
  (K (Value.bool false) h_3)
  (K (Value.bool true) h_3))
theorem e37 (a0_1 : Value) (b1_1 : Value) (h : Heap) (K : Value → Heap → Prop) : wpA Try.prog 16 (anOf []) (bodyOf Try.f37) 1 (fun A h => resA Try.prog A h K [.tmp 4]) (fun _ _ _ => False) (fun A h => resA Try.prog A h K [.tmp 4]) (aargs [a0_1, b1_1] 0) h = t37 Try.prog a0_1 b1_1 h K := by kernel_rfl
theorem c37 (a0_1 : Value) (b1_1 : Value) (h : Heap) (K : Value → Heap → Prop) (H : t37 Try.prog a0_1 b1_1 h K) : callM Try.prog 37 #[a0_1, b1_1] h K :=
  callM_of_wpA mixed (fn := Try.f37) Try.func37 (c := bodyOf Try.f37) rfl (of_decide_eq_true (by kernel_rfl)) (anOf []) 14 16 (by kernel_rfl) rfl [.tmp 4] (by kernel_rfl) (args := [a0_1, b1_1]) (by rw [e37]; exact H)

/-! laws.markWalk -/
def t45 (P : Program) (a0_1 : Value) (k1_1 : Value) (h : Heap) (K : Value → Heap → Prop) : Prop :=
  eop P (Instr.box 27 a0_1) h fun a2_1 h_1 =>
  pop P (Instr.fieldAt 27 a2_1 0) fun t5_1 =>
  rop P (Instr.loadAt 25 t5_1) h_1 fun t6_1 =>
  callM P 54 #[t6_1, k1_1] h_1 fun t8_1 h_2 =>
  K t8_1 h_2
theorem e45 (a0_1 : Value) (k1_1 : Value) (h : Heap) (K : Value → Heap → Prop) : wpA Try.prog 10 (anOf []) (bodyOf Try.f45) 1 (fun A h => resA Try.prog A h K [.tmp 4]) (fun _ _ _ => False) (fun A h => resA Try.prog A h K [.tmp 4]) (aargs [a0_1, k1_1] 0) h = t45 Try.prog a0_1 k1_1 h K := by kernel_rfl
theorem c45 (a0_1 : Value) (k1_1 : Value) (h : Heap) (K : Value → Heap → Prop) (H : t45 Try.prog a0_1 k1_1 h K) : callM Try.prog 45 #[a0_1, k1_1] h K :=
  callM_of_wpA mixed (fn := Try.f45) Try.func45 (c := bodyOf Try.f45) rfl (of_decide_eq_true (by kernel_rfl)) (anOf []) 8 10 (by kernel_rfl) rfl [.tmp 4] (by kernel_rfl) (args := [a0_1, k1_1]) (by rw [e45]; exact H)

/-! laws.heldWalk -/
def t50 (P : Program) (a0_1 : Value) (k1_1 : Value) (h : Heap) (K : Value → Heap → Prop) : Prop :=
  eop P (Instr.box 27 a0_1) h fun a2_1 h_1 =>
  pop P (Instr.fieldAt 27 a2_1 0) fun t5_1 =>
  rop P (Instr.loadAt 25 t5_1) h_1 fun t6_1 =>
  callM P 55 #[t6_1, k1_1] h_1 fun t8_1 h_2 =>
  pop P (binA .lss 3 t8_1 (Value.int IntKind.i64 0)) fun t10_1 =>
  condM t10_1
  (K (Value.int IntKind.i64 (-1)) h_2)
  (K t8_1 h_2)
theorem e50 (a0_1 : Value) (k1_1 : Value) (h : Heap) (K : Value → Heap → Prop) : wpA Try.prog 12 (anOf []) (bodyOf Try.f50) 1 (fun A h => resA Try.prog A h K [.tmp 4]) (fun _ _ _ => False) (fun A h => resA Try.prog A h K [.tmp 4]) (aargs [a0_1, k1_1] 0) h = t50 Try.prog a0_1 k1_1 h K := by kernel_rfl
theorem c50 (a0_1 : Value) (k1_1 : Value) (h : Heap) (K : Value → Heap → Prop) (H : t50 Try.prog a0_1 k1_1 h K) : callM Try.prog 50 #[a0_1, k1_1] h K :=
  callM_of_wpA mixed (fn := Try.f50) Try.func50 (c := bodyOf Try.f50) rfl (of_decide_eq_true (by kernel_rfl)) (anOf []) 10 12 (by kernel_rfl) rfl [.tmp 4] (by kernel_rfl) (args := [a0_1, k1_1]) (by rw [e50]; exact H)

/-! laws.eqIntS -/
def t53 (P : Program) (a0_1 : Value) (b1_1 : Value) (h : Heap) (K : Value → Heap → Prop) : Prop :=
  pop P (lenS 25 3 a0_1) fun t7_1 =>
  pop P (lenS 25 3 b1_1) fun t9_1 =>
  pop P (binE .neq 3 (.tmp 7) (.tmp 9) t7_1 t9_1) fun t10_1 =>
  condM t10_1
  (K (Value.bool false) h)
  (∃ (I_1 : List Value → Heap → Prop) (μ_1 : List Value → Heap → Nat), I_1 [(Value.int IntKind.i64 0)] h ∧
  ∀ (junk_1 : Nat → Value) (i5_1 : Value) (h_1 : Heap), I_1 [i5_1] h_1 →
  pop P (lenS 25 3 a0_1) fun t13_1 =>
  pop P (binA .lss 3 i5_1 t13_1) fun t14_1 =>
  condM t14_1
  (pop P (Instr.indexAt 25 a0_1 i5_1) fun t19_1 =>
  rop P (Instr.loadAt 3 t19_1) h_1 fun t20_1 =>
  pop P (Instr.indexAt 25 b1_1 i5_1) fun t23_1 =>
  rop P (Instr.loadAt 3 t23_1) h_1 fun t24_1 =>
  pop P (binE .neq 3 (.tmp 20) (.tmp 24) t20_1 t24_1) fun t25_1 =>
  condM t25_1
  (K (Value.bool false) h_1)
  (pop P (binA .add 3 i5_1 (Value.int IntKind.i64 1)) fun t16_1 =>
  I_1 [t16_1] h_1 ∧ μ_1 [t16_1] h_1 < μ_1 [i5_1] h_1))
  (K (Value.bool true) h_1))
theorem e53 (a0_1 : Value) (b1_1 : Value) (h : Heap) (K : Value → Heap → Prop) : wpA Try.prog 26 (anOf [(58, [5])]) (bodyOf Try.f53) 1 (fun A h => resA Try.prog A h K [.tmp 4]) (fun _ _ _ => False) (fun A h => resA Try.prog A h K [.tmp 4]) (aargs [a0_1, b1_1] 0) h = t53 Try.prog a0_1 b1_1 h K := by kernel_rfl
theorem c53 (a0_1 : Value) (b1_1 : Value) (h : Heap) (K : Value → Heap → Prop) (H : t53 Try.prog a0_1 b1_1 h K) : callM Try.prog 53 #[a0_1, b1_1] h K :=
  callM_of_wpA mixed (fn := Try.f53) Try.func53 (c := bodyOf Try.f53) rfl (of_decide_eq_true (by kernel_rfl)) (anOf [(58, [5])]) 24 26 (by kernel_rfl) rfl [.tmp 4] (by kernel_rfl) (args := [a0_1, b1_1]) (by rw [e53]; exact H)

/-! laws.markIntS -/
def t54 (P : Program) (a0_1 : Value) (k1_1 : Value) (h : Heap) (K : Value → Heap → Prop) : Prop :=
  ∃ (I_1 : List Value → Heap → Prop) (μ_1 : List Value → Heap → Nat), I_1 [k1_1, (Value.int IntKind.i64 0)] h ∧
  ∀ (junk_1 : Nat → Value) (k1_2 : Value) (i5_1 : Value) (h_1 : Heap), I_1 [k1_2, i5_1] h_1 →
  pop P (lenS 25 3 a0_1) fun t8_1 =>
  pop P (binA .lss 3 i5_1 t8_1) fun t9_1 =>
  condM t9_1
  (pop P (Instr.indexAt 25 a0_1 i5_1) fun t15_1 =>
  uop P (Instr.storeAt 3 t15_1 k1_2) h_1 fun u_1 h_2 =>
  pop P (binA .add 3 k1_2 (Value.int IntKind.i64 1)) fun t17_1 =>
  pop P (binA .add 3 i5_1 (Value.int IntKind.i64 1)) fun t11_1 =>
  I_1 [t17_1, t11_1] h_2 ∧ μ_1 [t17_1, t11_1] h_2 < μ_1 [k1_2, i5_1] h_1)
  (K k1_2 h_1)
theorem e54 (a0_1 : Value) (k1_1 : Value) (h : Heap) (K : Value → Heap → Prop) : wpA Try.prog 19 (anOf [(26, [1, 5])]) (bodyOf Try.f54) 1 (fun A h => resA Try.prog A h K [.tmp 4]) (fun _ _ _ => False) (fun A h => resA Try.prog A h K [.tmp 4]) (aargs [a0_1, k1_1] 0) h = t54 Try.prog a0_1 k1_1 h K := by kernel_rfl
theorem c54 (a0_1 : Value) (k1_1 : Value) (h : Heap) (K : Value → Heap → Prop) (H : t54 Try.prog a0_1 k1_1 h K) : callM Try.prog 54 #[a0_1, k1_1] h K :=
  callM_of_wpA mixed (fn := Try.f54) Try.func54 (c := bodyOf Try.f54) rfl (of_decide_eq_true (by kernel_rfl)) (anOf [(26, [1, 5])]) 17 19 (by kernel_rfl) rfl [.tmp 4] (by kernel_rfl) (args := [a0_1, k1_1]) (by rw [e54]; exact H)

/-! laws.heldIntS -/
def t55 (P : Program) (a0_1 : Value) (k1_1 : Value) (h : Heap) (K : Value → Heap → Prop) : Prop :=
  ∃ (I_1 : List Value → Heap → Prop) (μ_1 : List Value → Heap → Nat), I_1 [k1_1, (Value.int IntKind.i64 0)] h ∧
  ∀ (junk_1 : Nat → Value) (k1_2 : Value) (i5_1 : Value) (h_1 : Heap), I_1 [k1_2, i5_1] h_1 →
  pop P (lenS 25 3 a0_1) fun t8_1 =>
  pop P (binA .lss 3 i5_1 t8_1) fun t9_1 =>
  condM t9_1
  (pop P (Instr.indexAt 25 a0_1 i5_1) fun t14_1 =>
  rop P (Instr.loadAt 3 t14_1) h_1 fun t15_1 =>
  pop P (binE .neq 3 (.tmp 15) (.tmp 16) t15_1 k1_2) fun t17_1 =>
  condM t17_1
  (K (Value.int IntKind.i64 (-1)) h_1)
  (pop P (binA .add 3 k1_2 (Value.int IntKind.i64 1)) fun t19_1 =>
  pop P (binA .add 3 i5_1 (Value.int IntKind.i64 1)) fun t11_1 =>
  I_1 [t19_1, t11_1] h_1 ∧ μ_1 [t19_1, t11_1] h_1 < μ_1 [k1_2, i5_1] h_1))
  (K k1_2 h_1)
theorem e55 (a0_1 : Value) (k1_1 : Value) (h : Heap) (K : Value → Heap → Prop) : wpA Try.prog 21 (anOf [(26, [1, 5])]) (bodyOf Try.f55) 1 (fun A h => resA Try.prog A h K [.tmp 4]) (fun _ _ _ => False) (fun A h => resA Try.prog A h K [.tmp 4]) (aargs [a0_1, k1_1] 0) h = t55 Try.prog a0_1 k1_1 h K := by kernel_rfl
theorem c55 (a0_1 : Value) (k1_1 : Value) (h : Heap) (K : Value → Heap → Prop) (H : t55 Try.prog a0_1 k1_1 h K) : callM Try.prog 55 #[a0_1, k1_1] h K :=
  callM_of_wpA mixed (fn := Try.f55) Try.func55 (c := bodyOf Try.f55) rfl (of_decide_eq_true (by kernel_rfl)) (anOf [(26, [1, 5])]) 19 21 (by kernel_rfl) rfl [.tmp 4] (by kernel_rfl) (args := [a0_1, k1_1]) (by rw [e55]; exact H)

/-! impl.deskOf -/
def t60 (P : Program) (g0_1 : Value) (h : Heap) (K : Value → Heap → Prop) : Prop :=
  eop P (Instr.box 24 g0_1) h fun g1_1 h_1 =>
  eop P (Instr.alloc 29 true (.tuple #[])) h_1 fun t2_1 h_2 =>
  rop P (Instr.loadAt 24 g1_1) h_2 fun t3_1 =>
  pop P (Instr.fieldAt 24 g1_1 0) fun t4_1 =>
  rop P (Instr.loadAt 22 t4_1) h_2 fun t5_1 =>
  pop P (lenS 22 3 t5_1) fun t6_1 =>
  eop P (Instr.makeSlice 25 t6_1 t6_1) h_2 fun t7_1 h_3 =>
  (∀ w : World, w.heap = h_3 → (Instr.loadAt 22 t4_1).run P w = .ok t5_1 w) ∧
  (∀ w : World, w.heap = h_3 → (Instr.loadAt 24 g1_1).run P w = .ok t3_1 w) ∧
  pop P (Instr.build 27 #[(0, t7_1), (1, (Value.int IntKind.i64 0))]) fun t8_1 =>
  pop P (Instr.build 29 #[(0, t3_1), (1, t8_1)]) fun t9_1 =>
  uop P (Instr.storeAt 29 t2_1 t9_1) h_3 fun u_1 h_4 =>
  rop P (Instr.loadAt 29 t2_1) h_4 fun r_1 =>
  K r_1 h_4
theorem e60 (g0_1 : Value) (h : Heap) (K : Value → Heap → Prop) : wpA Try.prog 10 (anOf []) (bodyOf Try.f60) 1 (fun A h => resA Try.prog A h K [.cell 2 29]) (fun _ _ _ => False) (fun A h => resA Try.prog A h K [.cell 2 29]) (aargs [g0_1] 0) h = t60 Try.prog g0_1 h K := by kernel_rfl
theorem c60 (g0_1 : Value) (h : Heap) (K : Value → Heap → Prop) (H : t60 Try.prog g0_1 h K) : callM Try.prog 60 #[g0_1] h K :=
  callM_of_wpA mixed (fn := Try.f60) Try.func60 (c := bodyOf Try.f60) rfl (of_decide_eq_true (by kernel_rfl)) (anOf []) 9 10 (by kernel_rfl) rfl [.cell 2 29] (by kernel_rfl) (args := [g0_1]) (by rw [e60]; exact H)

/-! laws.eqIntSS -/
def t71 (P : Program) (a0_1 : Value) (b1_1 : Value) (h : Heap) (K : Value → Heap → Prop) : Prop :=
  pop P (lenS 22 3 a0_1) fun t7_1 =>
  pop P (lenS 22 3 b1_1) fun t9_1 =>
  pop P (binE .neq 3 (.tmp 7) (.tmp 9) t7_1 t9_1) fun t10_1 =>
  condM t10_1
  (K (Value.bool false) h)
  (∃ (I_1 : List Value → Heap → Prop) (μ_1 : List Value → Heap → Nat), I_1 [(Value.int IntKind.i64 0)] h ∧
  ∀ (junk_1 : Nat → Value) (i5_1 : Value) (h_1 : Heap), I_1 [i5_1] h_1 →
  pop P (lenS 22 3 a0_1) fun t13_1 =>
  pop P (binA .lss 3 i5_1 t13_1) fun t14_1 =>
  condM t14_1
  (pop P (Instr.indexAt 22 a0_1 i5_1) fun t19_1 =>
  rop P (Instr.loadAt 25 t19_1) h_1 fun t20_1 =>
  pop P (Instr.indexAt 22 b1_1 i5_1) fun t23_1 =>
  rop P (Instr.loadAt 25 t23_1) h_1 fun t24_1 =>
  callM P 53 #[t20_1, t24_1] h_1 fun t25_1 h_2 =>
  pop P (Op.unary .not t25_1) fun t26_1 =>
  condM t26_1
  (K (Value.bool false) h_2)
  (pop P (binA .add 3 i5_1 (Value.int IntKind.i64 1)) fun t16_1 =>
  I_1 [t16_1] h_2 ∧ μ_1 [t16_1] h_2 < μ_1 [i5_1] h_1))
  (K (Value.bool true) h_1))
theorem e71 (a0_1 : Value) (b1_1 : Value) (h : Heap) (K : Value → Heap → Prop) : wpA Try.prog 27 (anOf [(58, [5])]) (bodyOf Try.f71) 1 (fun A h => resA Try.prog A h K [.tmp 4]) (fun _ _ _ => False) (fun A h => resA Try.prog A h K [.tmp 4]) (aargs [a0_1, b1_1] 0) h = t71 Try.prog a0_1 b1_1 h K := by kernel_rfl
theorem c71 (a0_1 : Value) (b1_1 : Value) (h : Heap) (K : Value → Heap → Prop) (H : t71 Try.prog a0_1 b1_1 h K) : callM Try.prog 71 #[a0_1, b1_1] h K :=
  callM_of_wpA mixed (fn := Try.f71) Try.func71 (c := bodyOf Try.f71) rfl (of_decide_eq_true (by kernel_rfl)) (anOf [(58, [5])]) 25 27 (by kernel_rfl) rfl [.tmp 4] (by kernel_rfl) (args := [a0_1, b1_1]) (by rw [e71]; exact H)

/-! laws.markIntSS -/
def t72 (P : Program) (a0_1 : Value) (k1_1 : Value) (h : Heap) (K : Value → Heap → Prop) : Prop :=
  ∃ (I_1 : List Value → Heap → Prop) (μ_1 : List Value → Heap → Nat), I_1 [k1_1, (Value.int IntKind.i64 0)] h ∧
  ∀ (junk_1 : Nat → Value) (k1_2 : Value) (i5_1 : Value) (h_1 : Heap), I_1 [k1_2, i5_1] h_1 →
  pop P (lenS 22 3 a0_1) fun t8_1 =>
  pop P (binA .lss 3 i5_1 t8_1) fun t9_1 =>
  condM t9_1
  (pop P (Instr.indexAt 22 a0_1 i5_1) fun t14_1 =>
  rop P (Instr.loadAt 25 t14_1) h_1 fun t15_1 =>
  callM P 54 #[t15_1, k1_2] h_1 fun t17_1 h_2 =>
  pop P (binA .add 3 i5_1 (Value.int IntKind.i64 1)) fun t11_1 =>
  I_1 [t17_1, t11_1] h_2 ∧ μ_1 [t17_1, t11_1] h_2 < μ_1 [k1_2, i5_1] h_1)
  (K k1_2 h_1)
theorem e72 (a0_1 : Value) (k1_1 : Value) (h : Heap) (K : Value → Heap → Prop) : wpA Try.prog 19 (anOf [(26, [1, 5])]) (bodyOf Try.f72) 1 (fun A h => resA Try.prog A h K [.tmp 4]) (fun _ _ _ => False) (fun A h => resA Try.prog A h K [.tmp 4]) (aargs [a0_1, k1_1] 0) h = t72 Try.prog a0_1 k1_1 h K := by kernel_rfl
theorem c72 (a0_1 : Value) (k1_1 : Value) (h : Heap) (K : Value → Heap → Prop) (H : t72 Try.prog a0_1 k1_1 h K) : callM Try.prog 72 #[a0_1, k1_1] h K :=
  callM_of_wpA mixed (fn := Try.f72) Try.func72 (c := bodyOf Try.f72) rfl (of_decide_eq_true (by kernel_rfl)) (anOf [(26, [1, 5])]) 17 19 (by kernel_rfl) rfl [.tmp 4] (by kernel_rfl) (args := [a0_1, k1_1]) (by rw [e72]; exact H)

/-! laws.heldIntSS -/
def t73 (P : Program) (a0_1 : Value) (k1_1 : Value) (h : Heap) (K : Value → Heap → Prop) : Prop :=
  ∃ (I_1 : List Value → Heap → Prop) (μ_1 : List Value → Heap → Nat), I_1 [k1_1, (Value.int IntKind.i64 0)] h ∧
  ∀ (junk_1 : Nat → Value) (k1_2 : Value) (i5_1 : Value) (h_1 : Heap), I_1 [k1_2, i5_1] h_1 →
  pop P (lenS 22 3 a0_1) fun t8_1 =>
  pop P (binA .lss 3 i5_1 t8_1) fun t9_1 =>
  condM t9_1
  (pop P (Instr.indexAt 22 a0_1 i5_1) fun t14_1 =>
  rop P (Instr.loadAt 25 t14_1) h_1 fun t15_1 =>
  callM P 55 #[t15_1, k1_2] h_1 fun t17_1 h_2 =>
  pop P (binA .lss 3 t17_1 (Value.int IntKind.i64 0)) fun t19_1 =>
  condM t19_1
  (K (Value.int IntKind.i64 (-1)) h_2)
  (pop P (binA .add 3 i5_1 (Value.int IntKind.i64 1)) fun t11_1 =>
  I_1 [t17_1, t11_1] h_2 ∧ μ_1 [t17_1, t11_1] h_2 < μ_1 [k1_2, i5_1] h_1))
  (K k1_2 h_1)
theorem e73 (a0_1 : Value) (k1_1 : Value) (h : Heap) (K : Value → Heap → Prop) : wpA Try.prog 21 (anOf [(26, [1, 5])]) (bodyOf Try.f73) 1 (fun A h => resA Try.prog A h K [.tmp 4]) (fun _ _ _ => False) (fun A h => resA Try.prog A h K [.tmp 4]) (aargs [a0_1, k1_1] 0) h = t73 Try.prog a0_1 k1_1 h K := by kernel_rfl
theorem c73 (a0_1 : Value) (k1_1 : Value) (h : Heap) (K : Value → Heap → Prop) (H : t73 Try.prog a0_1 k1_1 h K) : callM Try.prog 73 #[a0_1, k1_1] h K :=
  callM_of_wpA mixed (fn := Try.f73) Try.func73 (c := bodyOf Try.f73) rfl (of_decide_eq_true (by kernel_rfl)) (anOf [(26, [1, 5])]) 19 21 (by kernel_rfl) rfl [.tmp 4] (by kernel_rfl) (args := [a0_1, k1_1]) (by rw [e73]; exact H)

end Go.Proofs.Ytkphbhochacllaa
