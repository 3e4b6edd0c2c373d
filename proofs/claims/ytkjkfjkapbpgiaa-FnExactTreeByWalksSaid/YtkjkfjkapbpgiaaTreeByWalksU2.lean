/-
  The same over typed data. Written by a program.
-/
import Derived.Test.YtkjkfjkapbpgiaaTreeByWalksU1
import Derived.Test.YtkjkfjkapbpgiaaTreeByWalksT
import Derived.Test.YtkjkfjkapbpgiaaM2
set_option linter.unusedVariables false
set_option linter.unusedSimpArgs false
set_option maxRecDepth 100000
set_option maxHeartbeats 16000000
namespace Go.Proofs.Ytkjkfjkapbpgiaa
open Go Go.Mx
/-! slices.nextPowerOfTwo -/
def u158 (P : Program) (length0_1 : Int) (h : Heap) (K : Value → Heap → Prop) : Prop :=
  rop P (convert 3 133 (VI length0_1)) h fun rv_1 => ∃ t4_1 : Int, rv_1 = (Value.int .u64 t4_1) ∧ 
  callM P 138 #[(Value.int .u64 t4_1)] h fun rv_2 h_1 => ∃ t5_1 : Int, rv_2 = (VI t5_1) ∧ Vars h_1 [] ∧
  pop P (binA .shl 133 (Value.int IntKind.u64 1) (VI t5_1)) fun rv_3 => ∃ t6_1 : Int, rv_3 = (Value.int .u64 t6_1) ∧ 
  K (Value.int .u64 t6_1) h_1
theorem v158 (length0_1 : Int) (h : Heap) (K : Value → Heap → Prop) (H : u158 Try.prog length0_1 h K) : callM Try.prog 158 #[(VI length0_1)] h K := by
  refine c158 (VI length0_1) h K ?_
  unfold u158 at H
  unfold t158
  have hL : Vars h [] := .nil
  refine H.mono fun rv_1 H => ?_
  obtain ⟨t4_1, rfl, H⟩ := H
  refine H.mono fun rv_2 h_1 H => ?_
  obtain ⟨t5_1, rfl, hL_1, H⟩ := H
  refine H.mono fun rv_3 H => ?_
  obtain ⟨t6_1, rfl, H⟩ := H
  exact H

/-! (*slices.xorshift).Next -/
def u159 (P : Program) (b_1 : Nat) (r0_1 : Int) (h : Heap) (K : Value → Heap → Prop) : Prop :=
  pop P (binA .shl 156 (Value.int .u64 r0_1) (Value.int IntKind.u64 13)) fun rv_1 => ∃ t9_1 : Int, rv_1 = (Value.int .u64 t9_1) ∧ 
  pop P (binA .xor 156 (Value.int .u64 r0_1) (Value.int .u64 t9_1)) fun rv_2 => ∃ t10_1 : Int, rv_2 = (Value.int .u64 t10_1) ∧ 
  pop P (binA .shr 156 (Value.int .u64 t10_1) (Value.int IntKind.u64 7)) fun rv_3 => ∃ t18_1 : Int, rv_3 = (Value.int .u64 t18_1) ∧ 
  pop P (binA .xor 156 (Value.int .u64 t10_1) (Value.int .u64 t18_1)) fun rv_4 => ∃ t19_1 : Int, rv_4 = (Value.int .u64 t19_1) ∧ 
  pop P (binA .shl 156 (Value.int .u64 t19_1) (Value.int IntKind.u64 17)) fun rv_5 => ∃ t27_1 : Int, rv_5 = (Value.int .u64 t27_1) ∧ 
  pop P (binA .xor 156 (Value.int .u64 t19_1) (Value.int .u64 t27_1)) fun rv_6 => ∃ t28_1 : Int, rv_6 = (Value.int .u64 t28_1) ∧ 
  ∀ (h_3 : Heap), Fr (In [b_1, b_1, b_1]) h h_3 → Vars h_3 [(b_1, [(Value.int .u64 t28_1)])] →
  K (Value.int .u64 t28_1) h_3
theorem v159 (b_1 : Nat) (r0_1 : Int) (h : Heap) (K : Value → Heap → Prop) (hL : Vars h [(b_1, [(Value.int .u64 r0_1)])]) (H : u159 Try.prog b_1 r0_1 h K) : callM Try.prog 159 #[(VP b_1 0)] h K := by
  refine c159 (VP b_1 0) h K ?_
  unfold u159 at H
  unfold t159
  refine pop_nil _ ?_
  refine rop_loc one156 hL 0 rfl 0 (v := (Value.int .u64 r0_1)) rfl ?_
  refine pop_nil _ ?_
  refine rop_loc one156 hL 0 rfl 0 (v := (Value.int .u64 r0_1)) rfl ?_
  refine H.mono fun rv_1 H => ?_
  obtain ⟨t9_1, rfl, H⟩ := H
  refine H.mono fun rv_2 H => ?_
  obtain ⟨t10_1, rfl, H⟩ := H
  refine pop_nil _ ?_
  refine uop_loc siz156 hL 0 rfl 0 [(Value.int .u64 t10_1)] rfl rfl rfl (Nat.le_of_ble_eq_true rfl) (L' := [(b_1, [(Value.int .u64 t10_1)])]) rfl (fun h_1 hf_1 hL_1 => ?_)
  refine pop_nil _ ?_
  refine rop_loc one156 hL_1 0 rfl 0 (v := (Value.int .u64 t10_1)) rfl ?_
  refine pop_nil _ ?_
  refine rop_loc one156 hL_1 0 rfl 0 (v := (Value.int .u64 t10_1)) rfl ?_
  refine H.mono fun rv_3 H => ?_
  obtain ⟨t18_1, rfl, H⟩ := H
  refine H.mono fun rv_4 H => ?_
  obtain ⟨t19_1, rfl, H⟩ := H
  refine pop_nil _ ?_
  refine uop_loc siz156 hL_1 0 rfl 0 [(Value.int .u64 t19_1)] rfl rfl rfl (Nat.le_of_ble_eq_true rfl) (L' := [(b_1, [(Value.int .u64 t19_1)])]) rfl (fun h_2 hf_2 hL_2 => ?_)
  refine pop_nil _ ?_
  refine rop_loc one156 hL_2 0 rfl 0 (v := (Value.int .u64 t19_1)) rfl ?_
  refine pop_nil _ ?_
  refine rop_loc one156 hL_2 0 rfl 0 (v := (Value.int .u64 t19_1)) rfl ?_
  refine H.mono fun rv_5 H => ?_
  obtain ⟨t27_1, rfl, H⟩ := H
  refine H.mono fun rv_6 H => ?_
  obtain ⟨t28_1, rfl, H⟩ := H
  refine pop_nil _ ?_
  refine uop_loc siz156 hL_2 0 rfl 0 [(Value.int .u64 t28_1)] rfl rfl rfl (Nat.le_of_ble_eq_true rfl) (L' := [(b_1, [(Value.int .u64 t28_1)])]) rfl (fun h_3 hf_3 hL_3 => ?_)
  refine pop_nil _ ?_
  refine rop_loc one156 hL_3 0 rfl 0 (v := (Value.int .u64 t28_1)) rfl ?_
  have H := H  h_3  (Fr.old (Fr.old (Fr.old (Fr.r (In []) _) hf_1) hf_2) hf_3) hL_3
  exact H

/-! slices.medianAdjacentOrdered[int] -/
def u160 (P : Program) (data0_1 : Sl) (a1_1 : Int) (b_1 : Nat) (swaps2_1 : Int) (h : Heap) (K : Value → Heap → Prop) : Prop :=
  callM P 161 #[(Sl.v data0_1), (VI (w64 (a1_1 - 1))), (VI a1_1), (VI (w64 (a1_1 + 1))), (VP b_1 0)] h fun rv_1 h_1 => ∃ x_1 : Int, ∃ t14_1 : Int, rv_1 = (VI t14_1) ∧ Vars h_1 [(b_1, [(VI x_1)])] ∧
  K (VI t14_1) h_1
theorem v160 (data0_1 : Sl) (a1_1 : Int) (b_1 : Nat) (swaps2_1 : Int) (h : Heap) (K : Value → Heap → Prop) (hL : Vars h [(b_1, [(VI swaps2_1)])]) (H : u160 Try.prog data0_1 a1_1 b_1 swaps2_1 h K) : callM Try.prog 160 #[(Sl.v data0_1), (VI a1_1), (VP b_1 0)] h K := by
  refine c160 (Sl.v data0_1) (VI a1_1) (VP b_1 0) h K ?_
  unfold u160 at H
  unfold t160
  refine pop_sub .i64 a1_1 1 ?_
  refine pop_add .i64 a1_1 1 ?_
  refine H.mono fun rv_1 h_1 H => ?_
  obtain ⟨x_1, t14_1, rfl, hL_1, H⟩ := H
  exact H

/-! slices.medianOrdered[int] -/
def u161 (P : Program) (data0_1 : Sl) (a1_1 : Int) (b2_1 : Int) (c3_1 : Int) (b_1 : Nat) (swaps4_1 : Int) (h : Heap) (K : Value → Heap → Prop) : Prop :=
  callM P 164 #[(Sl.v data0_1), (VI a1_1), (VI b2_1), (VP b_1 0)] h fun rv_1 h_1 => ∃ x_1 : Int, ∃ t16_1 : Int, ∃ t16_2 : Int, rv_1 = (Value.tuple #[(VI t16_1), (VI t16_2)]) ∧ Vars h_1 [(b_1, [(VI x_1)])] ∧
  callM P 164 #[(Sl.v data0_1), (VI t16_2), (VI c3_1), (VP b_1 0)] h_1 fun rv_2 h_2 => ∃ x_2 : Int, ∃ t24_1 : Int, ∃ t24_2 : Int, rv_2 = (Value.tuple #[(VI t24_1), (VI t24_2)]) ∧ Vars h_2 [(b_1, [(VI x_2)])] ∧
  callM P 164 #[(Sl.v data0_1), (VI t16_1), (VI t24_1), (VP b_1 0)] h_2 fun rv_3 h_3 => ∃ x_3 : Int, ∃ t32_1 : Int, ∃ t32_2 : Int, rv_3 = (Value.tuple #[(VI t32_1), (VI t32_2)]) ∧ Vars h_3 [(b_1, [(VI x_3)])] ∧
  K (VI t32_2) h_3
theorem v161 (data0_1 : Sl) (a1_1 : Int) (b2_1 : Int) (c3_1 : Int) (b_1 : Nat) (swaps4_1 : Int) (h : Heap) (K : Value → Heap → Prop) (hL : Vars h [(b_1, [(VI swaps4_1)])]) (H : u161 Try.prog data0_1 a1_1 b2_1 c3_1 b_1 swaps4_1 h K) : callM Try.prog 161 #[(Sl.v data0_1), (VI a1_1), (VI b2_1), (VI c3_1), (VP b_1 0)] h K := by
  refine c161 (Sl.v data0_1) (VI a1_1) (VI b2_1) (VI c3_1) (VP b_1 0) h K ?_
  unfold u161 at H
  unfold t161
  refine H.mono fun rv_1 h_1 H => ?_
  obtain ⟨x_1, t16_1, t16_2, rfl, hL_1, H⟩ := H
  refine pop_ext (v := (VI t16_1)) rfl ?_
  refine pop_ext (v := (VI t16_2)) rfl ?_
  refine H.mono fun rv_2 h_2 H => ?_
  obtain ⟨x_2, t24_1, t24_2, rfl, hL_2, H⟩ := H
  refine pop_ext (v := (VI t24_1)) rfl ?_
  refine pop_ext (v := (VI t24_2)) rfl ?_
  refine H.mono fun rv_3 h_3 H => ?_
  obtain ⟨x_3, t32_1, t32_2, rfl, hL_3, H⟩ := H
  refine pop_ext (v := (VI t32_1)) rfl ?_
  refine pop_ext (v := (VI t32_2)) rfl ?_
  exact H

/-! cmp.isNaN[int] -/
def u162 (P : Program) (x0_1 : Int) (h : Heap) (K : Value → Heap → Prop) : Prop :=
  K (VB (!decide (x0_1 = x0_1))) h
theorem v162 (x0_1 : Int) (h : Heap) (K : Value → Heap → Prop) (H : u162 Try.prog x0_1 h K) : callM Try.prog 162 #[(VI x0_1)] h K := by
  refine c162 (VI x0_1) h K ?_
  unfold u162 at H
  unfold t162
  have hL : Vars h [] := .nil
  refine pop_ine .i64 _ _ x0_1 x0_1 ?_
  exact H

/-! slices.Grow[[]int,int] -/
def u163 (P : Program) (s0_1 : Sl) (n1_1 : Int) (h : Heap) (K : Value → Heap → Prop) : Prop :=
  ∃ J_1 : Heap → Prop, (((decide (n1_1 < 0)) = true →
  pop P (Instr.makeInterface 9 (Value.string { data := #[99, 97, 110, 110, 111, 116, 32, 98, 101, 32, 110, 101, 103, 97, 116, 105, 118, 101] })) fun rv_1 => ∃ t7_1 : Value, rv_1 = t7_1 ∧ 
  False) ∧
  ((decide (n1_1 < 0)) = false →
  J_1  h)) ∧
  ∀ (h_1 : Heap), J_1  h_1 → Vars h_1 [] →
  pop P (Builtin.cap_ #[27] 3 #[(Sl.v s0_1)]) fun rv_2 => ∃ t10_1 : Int, rv_2 = (VI t10_1) ∧ 
  ((decide (0 < (w64 (n1_1 - (w64 (t10_1 - (s0_1.n : Int))))))) = true →
  pop P (Builtin.cap_ #[27] 3 #[(Sl.v s0_1)]) fun rv_3 => ∃ t19_1 : Int, rv_3 = (VI t19_1) ∧ 
  pop P (Instr.sliceAt 27 (Sl.v s0_1) none (some (VI t19_1)) none) fun rv_4 => ∃ t20_1 : Sl, rv_4 = (Sl.v t20_1) ∧ 
  eop P (appS 27 3 27 (Sl.v t20_1) (VI (w64 (n1_1 - (w64 (t10_1 - (s0_1.n : Int))))))) h_1 fun rv_5 h_2 => ∃ t22_1 : Sl, rv_5 = (Sl.v t22_1) ∧ Vars h_2 [] ∧
  pop P (Instr.sliceAt 27 (Sl.v t22_1) none (some (VI (s0_1.n : Int))) none) fun rv_6 => ∃ t25_1 : Sl, rv_6 = (Sl.v t25_1) ∧ 
  K (Sl.v t25_1) h_2) ∧
  ((decide (0 < (w64 (n1_1 - (w64 (t10_1 - (s0_1.n : Int))))))) = false →
  K (Sl.v s0_1) h_1)
theorem v163 (s0_1 : Sl) (n1_1 : Int) (h : Heap) (K : Value → Heap → Prop) (H : u163 Try.prog s0_1 n1_1 h K) : callM Try.prog 163 #[(Sl.v s0_1), (VI n1_1)] h K := by
  refine c163 (Sl.v s0_1) (VI n1_1) h K ?_
  unfold u163 at H
  unfold t163
  have hL : Vars h [] := .nil
  obtain ⟨J_1, H, HB_1⟩ := H
  refine ⟨fun (vs : List Value) (h' : Heap) => vs = [] ∧ J_1  h' ∧ Vars h' [], ?_, ?_⟩
  · refine pop_lss .i64 n1_1 0 ?_
    refine condM_b (fun hb_1 => ?_) (fun hb_1 => ?_)
    · have H := H.1 hb_1
      refine H.mono fun rv_1 H => ?_
      obtain ⟨t7_1, rfl, H⟩ := H
      exact H.elim
    · have H := H.2 hb_1
      exact ⟨rfl, H, hL⟩
  intro junk_1  h_1
  rintro ⟨hv, hJ_1, hL_1⟩
  have H := HB_1  h_1 hJ_1 hL_1
  refine H.mono fun rv_2 H => ?_
  obtain ⟨t10_1, rfl, H⟩ := H
  refine pop_len s0_1 _ _ sli27 ?_
  refine pop_sub .i64 t10_1 (s0_1.n : Int) ?_
  refine pop_sub .i64 n1_1 (w64 (t10_1 - (s0_1.n : Int))) ?_
  refine pop_gtr .i64 (w64 (n1_1 - (w64 (t10_1 - (s0_1.n : Int))))) 0 ?_
  refine condM_b (fun hb_2 => ?_) (fun hb_2 => ?_)
  · have H := H.1 hb_2
    refine H.mono fun rv_3 H => ?_
    obtain ⟨t19_1, rfl, H⟩ := H
    refine H.mono fun rv_4 H => ?_
    obtain ⟨t20_1, rfl, H⟩ := H
    refine H.mono fun rv_5 h_2 H => ?_
    obtain ⟨t22_1, rfl, hL_2, H⟩ := H
    refine pop_len s0_1 _ _ sli27 ?_
    refine H.mono fun rv_6 H => ?_
    obtain ⟨t25_1, rfl, H⟩ := H
    exact H
  · have H := H.2 hb_2
    exact H

/-! slices.order2Ordered[int] -/
def u164 (P : Program) (data0_1 : Sl) (a1_1 : Int) (b2_1 : Int) (b_1 : Nat) (swaps3_1 : Int) (h : Heap) (K : Value → Heap → Prop) : Prop :=
  InB data0_1 b2_1 ∧
  ∃ t13_1 : Int, hcell h (Sl.at data0_1 b2_1 1) = some (VI t13_1) ∧
  InB data0_1 a1_1 ∧
  ∃ t17_1 : Int, hcell h (Sl.at data0_1 a1_1 1) = some (VI t17_1) ∧
  callM P 150 #[(VI t13_1), (VI t17_1)] h fun rv_1 h_1 => ∃ t18_1 : Bool, rv_1 = (VB t18_1) ∧ Vars h_1 [(b_1, [(VI swaps3_1)])] ∧
  (t18_1 = true →
  ∀ (h_2 : Heap), Fr (In [b_1]) h_1 h_2 → Vars h_2 [(b_1, [(VI (w64 (swaps3_1 + 1)))])] →
  K (Value.tuple #[(VI b2_1), (VI a1_1)]) h_2) ∧
  (t18_1 = false →
  K (Value.tuple #[(VI a1_1), (VI b2_1)]) h_1)
theorem v164 (data0_1 : Sl) (a1_1 : Int) (b2_1 : Int) (b_1 : Nat) (swaps3_1 : Int) (h : Heap) (K : Value → Heap → Prop) (hL : Vars h [(b_1, [(VI swaps3_1)])]) (H : u164 Try.prog data0_1 a1_1 b2_1 b_1 swaps3_1 h K) : callM Try.prog 164 #[(Sl.v data0_1), (VI a1_1), (VI b2_1), (VP b_1 0)] h K := by
  refine c164 (Sl.v data0_1) (VI a1_1) (VI b2_1) (VP b_1 0) h K ?_
  unfold u164 at H
  unfold t164
  obtain ⟨hi_1, H⟩ := H
  refine pop_index sli27 siz3 .i64 data0_1 b2_1 hi_1 ?_
  obtain ⟨t13_1, hc_2, H⟩ := H
  refine rop_one one3 (VI t13_1) hc_2 ?_
  obtain ⟨hi_2, H⟩ := H
  refine pop_index sli27 siz3 .i64 data0_1 a1_1 hi_2 ?_
  obtain ⟨t17_1, hc_1, H⟩ := H
  refine rop_one one3 (VI t17_1) hc_1 ?_
  refine H.mono fun rv_1 h_1 H => ?_
  obtain ⟨t18_1, rfl, hL_1, H⟩ := H
  refine condM_b (fun hb_1 => ?_) (fun hb_1 => ?_)
  · have H := H.1 hb_1
    refine pop_nil _ ?_
    refine rop_loc one3 hL_1 0 rfl 0 (v := (VI swaps3_1)) rfl ?_
    refine pop_add .i64 swaps3_1 1 ?_
    refine pop_nil _ ?_
    refine uop_loc siz3 hL_1 0 rfl 0 [(VI (w64 (swaps3_1 + 1)))] rfl rfl rfl (Nat.le_of_ble_eq_true rfl) (L' := [(b_1, [(VI (w64 (swaps3_1 + 1)))])]) rfl (fun h_2 hf_1 hL_2 => ?_)
    have H := H  h_2  (Fr.old (Fr.r (In []) _) hf_1) hL_2
    exact H
  · have H := H.2 hb_1
    exact H

end Go.Proofs.Ytkjkfjkapbpgiaa
