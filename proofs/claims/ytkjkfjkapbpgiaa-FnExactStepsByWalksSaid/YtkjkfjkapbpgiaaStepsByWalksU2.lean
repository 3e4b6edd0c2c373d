/-
  The same over typed data. Written by a program.
-/
import Derived.Test.YtkjkfjkapbpgiaaStepsByWalksU1
import Derived.Test.YtkjkfjkapbpgiaaStepsByWalksT
import Derived.Test.YtkjkfjkapbpgiaaM2
set_option linter.unusedVariables false
set_option linter.unusedSimpArgs false
set_option maxRecDepth 100000
set_option maxHeartbeats 16000000
namespace Go.Proofs.Ytkjkfjkapbpgiaa
open Go Go.Mx
/-! slices.order2Ordered[int] -/
def u164 (P : Program) (data0_1 : Sl) (a1_1 : Int) (b2_1 : Int) (b_1 : Nat) (swaps3_1 : Int) (h : Heap) (K : Value → Heap → Prop) : Prop :=
  InB data0_1 b2_1 ∧
  ∃ t13_1 : Int, hcell h (Sl.at data0_1 b2_1 1) = some (VI t13_1) ∧
  InB data0_1 a1_1 ∧
  ∃ t17_1 : Int, hcell h (Sl.at data0_1 a1_1 1) = some (VI t17_1) ∧
  callM P 150 #[(VI t13_1), (VI t17_1)] h fun rv_1 h_1 => ∃ t18_1 : Bool, rv_1 = (VB t18_1) ∧ Vars h_1 [(b_1, [(VI swaps3_1)])] ∧
  (t18_1 = true →
  ∀ (h_2 : Heap), Fr (In [b_1]) h_1 h_2 → Vars h_2 [(b_1, [(VI (w64 (swaps3_1 + 1)))])] →
  K (Value.tuple #[(VI b2_1), (VI a1_1)]) h_2) ∧
  (t18_1 = false →
  K (Value.tuple #[(VI a1_1), (VI b2_1)]) h_1)
theorem v164 (data0_1 : Sl) (a1_1 : Int) (b2_1 : Int) (b_1 : Nat) (swaps3_1 : Int) (h : Heap) (K : Value → Heap → Prop) (hL : Vars h [(b_1, [(VI swaps3_1)])]) (H : u164 Try.prog data0_1 a1_1 b2_1 b_1 swaps3_1 h K) : callM Try.prog 164 #[(Sl.v data0_1), (VI a1_1), (VI b2_1), (VP b_1 0)] h K := by
  refine c164 (Sl.v data0_1) (VI a1_1) (VI b2_1) (VP b_1 0) h K ?_
  unfold u164 at H
  unfold t164
  obtain ⟨hi_1, H⟩ := H
  refine pop_index sli27 siz3 .i64 data0_1 b2_1 hi_1 ?_
  obtain ⟨t13_1, hc_2, H⟩ := H
  refine rop_one one3 (VI t13_1) hc_2 ?_
  obtain ⟨hi_2, H⟩ := H
  refine pop_index sli27 siz3 .i64 data0_1 a1_1 hi_2 ?_
  obtain ⟨t17_1, hc_1, H⟩ := H
  refine rop_one one3 (VI t17_1) hc_1 ?_
  refine H.mono fun rv_1 h_1 H => ?_
  obtain ⟨t18_1, rfl, hL_1, H⟩ := H
  refine condM_b (fun hb_1 => ?_) (fun hb_1 => ?_)
  · have H := H.1 hb_1
    refine pop_nil _ ?_
    refine rop_loc one3 hL_1 0 rfl 0 (v := (VI swaps3_1)) rfl ?_
    refine pop_add .i64 swaps3_1 1 ?_
    refine pop_nil _ ?_
    refine uop_loc siz3 hL_1 0 rfl 0 [(VI (w64 (swaps3_1 + 1)))] rfl rfl rfl (Nat.le_of_ble_eq_true rfl) (L' := [(b_1, [(VI (w64 (swaps3_1 + 1)))])]) rfl (fun h_2 hf_1 hL_2 => ?_)
    have H := H  h_2  (Fr.old (Fr.r (In []) _) hf_1) hL_2
    exact H
  · have H := H.2 hb_1
    exact H

end Go.Proofs.Ytkjkfjkapbpgiaa
