import Derived.Test.YtkjkfjkapbpgiaaGreatStacksPoppedT
import Derived.Test.YtkjkfjkapbpgiaaGreatProg
import Derived.Test.YtkjkfjkapbpgiaaGreatM1
set_option linter.unusedVariables false
namespace Go.Proofs.YtkjkfjkapbpgiaaGreat
open Go Go.Mx
def t164 (P : Program) (x0_1 : Value) (y1_1 : Value) (h : Heap) (K : Value → Heap → Prop) : Prop :=
  callM P 174 #[x0_1] h fun t6_1 h_1 =>
  guardM (asG t6_1 true) true (fun k_1 => k_1 y1_1 h_1) h_1 fun t8_1 h_2 =>
  guardM (asG t6_1 true) true (fun k_2 => callM P 174 #[t8_1] h_2 fun t9_1 h_3 =>
  k_2 t9_1 h_3) h_2 fun t9_2 h_4 =>
  guardM (asG t6_1 true) true (fun k_3 => pop P (Op.unary .not t9_2) fun t10_1 =>
  k_3 t10_1 h_4) h_4 fun t10_2 h_5 =>
  pop P (pickS t6_1 t10_2 (Value.bool false)) fun t11_1 =>
  guardM (asG t11_1 false) false (fun k_4 => k_4 x0_1 h_5) h_5 fun t13_1 h_6 =>
  guardM (asG t11_1 false) false (fun k_5 => k_5 y1_1 h_6) h_6 fun t14_1 h_7 =>
  guardM (asG t11_1 false) false (fun k_6 => pop P (binA .lss 3 t13_1 t14_1) fun t15_1 =>
  k_6 t15_1 h_7) h_7 fun t15_2 h_8 =>
  pop P (pickS t11_1 (Value.bool true) t15_2) fun t16_1 =>
  K t16_1 h_8
theorem e164 (x0_1 : Value) (y1_1 : Value) (h : Heap) (K : Value → Heap → Prop) : wpA Tryz.prog 17 (anOf []) (bodyOf Tryz.f164) 1 (fun A h => resA Tryz.prog A h K [.tmp 4]) (fun _ _ _ => False) (fun A h => resA Tryz.prog A h K [.tmp 4]) (aargs [x0_1, y1_1] 0) h = t164 Tryz.prog x0_1 y1_1 h K := by kernel_rfl
theorem c164 (x0_1 : Value) (y1_1 : Value) (h : Heap) (K : Value → Heap → Prop) (H : t164 Tryz.prog x0_1 y1_1 h K) : callM Tryz.prog 164 #[x0_1, y1_1] h K :=
  callM_of_wpA mixed (fn := Tryz.f164) Tryz.func164 (c := bodyOf Tryz.f164) rfl (of_decide_eq_true (by kernel_rfl)) (anOf []) 15 17 (by kernel_rfl) rfl [.tmp 4] (by kernel_rfl) (args := [x0_1, y1_1]) (by rw [e164]; exact H)
def t168 (P : Program) (x0_1 : Value) (h : Heap) (K : Value → Heap → Prop) : Prop :=
  ∃ J_1 : List Value → Heap → Prop, (pop P (binA .geq 72 x0_1 (Value.int IntKind.u64 4294967296)) fun t4_1 =>
  condM t4_1
  (pop P (binA .shr 72 x0_1 (Value.int IntKind.u64 32)) fun t6_1 =>
  J_1 [t6_1, (Value.int IntKind.i64 32)] h)
  (J_1 [x0_1, (Value.int IntKind.i64 0)] h)) ∧
  ∀ (junk_1 : Nat → Value) (x0_2 : Value) (n2_1 : Value) (h_1 : Heap), J_1 [x0_2, n2_1] h_1 →
  ∃ J_2 : List Value → Heap → Prop, (pop P (binA .geq 72 x0_2 (Value.int IntKind.u64 65536)) fun t8_1 =>
  condM t8_1
  (pop P (binA .shr 72 x0_2 (Value.int IntKind.u64 16)) fun t10_1 =>
  pop P (binA .add 3 n2_1 (Value.int IntKind.i64 16)) fun t12_1 =>
  J_2 [t10_1, t12_1] h_1)
  (J_2 [x0_2, n2_1] h_1)) ∧
  ∀ (junk_2 : Nat → Value) (x0_3 : Value) (n2_2 : Value) (h_2 : Heap), J_2 [x0_3, n2_2] h_2 →
  ∃ J_3 : List Value → Heap → Prop, (pop P (binA .geq 72 x0_3 (Value.int IntKind.u64 256)) fun t14_1 =>
  condM t14_1
  (pop P (binA .shr 72 x0_3 (Value.int IntKind.u64 8)) fun t16_1 =>
  pop P (binA .add 3 n2_2 (Value.int IntKind.i64 8)) fun t18_1 =>
  J_3 [t16_1, t18_1] h_2)
  (J_3 [x0_3, n2_2] h_2)) ∧
  ∀ (junk_3 : Nat → Value) (x0_4 : Value) (n2_3 : Value) (h_3 : Heap), J_3 [x0_4, n2_3] h_3 →
  rop P (convert 72 5 x0_4) h_3 fun t21_1 =>
  pop P (Instr.index 9 (Value.string { data := #[0, 1, 2, 2, 3, 3, 3, 3, 4, 4, 4, 4, 4, 4, 4, 4, 5, 5, 5, 5, 5, 5, 5, 5, 5, 5, 5, 5, 5, 5, 5, 5, 6, 6, 6, 6, 6, 6, 6, 6, 6, 6, 6, 6, 6, 6, 6, 6, 6, 6, 6, 6, 6, 6, 6, 6, 6, 6, 6, 6, 6, 6, 6, 6, 7, 7, 7, 7, 7, 7, 7, 7, 7, 7, 7, 7, 7, 7, 7, 7, 7, 7, 7, 7, 7, 7, 7, 7, 7, 7, 7, 7, 7, 7, 7, 7, 7, 7, 7, 7, 7, 7, 7, 7, 7, 7, 7, 7, 7, 7, 7, 7, 7, 7, 7, 7, 7, 7, 7, 7, 7, 7, 7, 7, 7, 7, 7, 7, 8, 8, 8, 8, 8, 8, 8, 8, 8, 8, 8, 8, 8, 8, 8, 8, 8, 8, 8, 8, 8, 8, 8, 8, 8, 8, 8, 8, 8, 8, 8, 8, 8, 8, 8, 8, 8, 8, 8, 8, 8, 8, 8, 8, 8, 8, 8, 8, 8, 8, 8, 8, 8, 8, 8, 8, 8, 8, 8, 8, 8, 8, 8, 8, 8, 8, 8, 8, 8, 8, 8, 8, 8, 8, 8, 8, 8, 8, 8, 8, 8, 8, 8, 8, 8, 8, 8, 8, 8, 8, 8, 8, 8, 8, 8, 8, 8, 8, 8, 8, 8, 8, 8, 8, 8, 8, 8, 8, 8, 8, 8, 8, 8, 8, 8, 8, 8, 8, 8, 8, 8, 8, 8, 8, 8, 8, 8, 8] }) t21_1) fun t22_1 =>
  rop P (convert 5 3 t22_1) h_3 fun t23_1 =>
  pop P (binA .add 3 n2_3 t23_1) fun t24_1 =>
  K t24_1 h_3
theorem e168 (x0_1 : Value) (h : Heap) (K : Value → Heap → Prop) : wpA Tryz.prog 25 (anOf [(3, [0, 2]), (7, [0, 2]), (15, [0, 2])]) (bodyOf Tryz.f168) 1 (fun A h => resA Tryz.prog A h K [.tmp 2]) (fun _ _ _ => False) (fun A h => resA Tryz.prog A h K [.tmp 2]) (aargs [x0_1] 0) h = t168 Tryz.prog x0_1 h K := by kernel_rfl
theorem c168 (x0_1 : Value) (h : Heap) (K : Value → Heap → Prop) (H : t168 Tryz.prog x0_1 h K) : callM Tryz.prog 168 #[x0_1] h K :=
  callM_of_wpA mixed (fn := Tryz.f168) Tryz.func168 (c := bodyOf Tryz.f168) rfl (of_decide_eq_true (by kernel_rfl)) (anOf [(3, [0, 2]), (7, [0, 2]), (15, [0, 2])]) 24 25 (by kernel_rfl) rfl [.tmp 2] (by kernel_rfl) (args := [x0_1]) (by rw [e168]; exact H)
def t174 (P : Program) (x0_1 : Value) (h : Heap) (K : Value → Heap → Prop) : Prop :=
  pop P (binE .neq 3 (.tmp 3) (.tmp 4) x0_1 x0_1) fun t5_1 =>
  K t5_1 h
theorem e174 (x0_1 : Value) (h : Heap) (K : Value → Heap → Prop) : wpA Tryz.prog 6 (anOf []) (bodyOf Tryz.f174) 1 (fun A h => resA Tryz.prog A h K [.tmp 2]) (fun _ _ _ => False) (fun A h => resA Tryz.prog A h K [.tmp 2]) (aargs [x0_1] 0) h = t174 Tryz.prog x0_1 h K := by kernel_rfl
theorem c174 (x0_1 : Value) (h : Heap) (K : Value → Heap → Prop) (H : t174 Tryz.prog x0_1 h K) : callM Tryz.prog 174 #[x0_1] h K :=
  callM_of_wpA mixed (fn := Tryz.f174) Tryz.func174 (c := bodyOf Tryz.f174) rfl (of_decide_eq_true (by kernel_rfl)) (anOf []) 5 6 (by kernel_rfl) rfl [.tmp 2] (by kernel_rfl) (args := [x0_1]) (by rw [e174]; exact H)
end Go.Proofs.YtkjkfjkapbpgiaaGreat
