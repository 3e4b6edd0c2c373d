import Derived.Test.YtkjkfjkapbpgiaaGreatStacksPoppedU1
import Derived.Test.YtkjkfjkapbpgiaaGreatStacksPoppedT1
import Derived.Test.YtkjkfjkapbpgiaaGreatM2
set_option linter.unusedVariables false
set_option linter.unusedSimpArgs false
set_option maxRecDepth 100000
set_option maxHeartbeats 16000000
namespace Go.Proofs.YtkjkfjkapbpgiaaGreat
open Go Go.Mx
def u164 (P : Program) (x0_1 : Int) (y1_1 : Int) (h : Heap) (K : Value → Heap → Prop) : Prop :=
  callM P 174 #[(VI x0_1)] h fun rv_1 h_1 => ∃ t6_1 : Bool, rv_1 = (VB t6_1) ∧ Vars h_1 [] ∧
  (t6_1 = true →
  callM P 174 #[(VI y1_1)] h_1 fun rv_2 h_2 => ∃ t9_1 : Bool, rv_2 = (VB t9_1) ∧ Vars h_2 [] ∧
  ((!t9_1) = true →
  K (VB true) h_2) ∧
  ((!t9_1) = false →
  K (VB (decide (x0_1 < y1_1))) h_2)) ∧
  (t6_1 = false →
  K (VB (decide (x0_1 < y1_1))) h_1)
theorem v164 (x0_1 : Int) (y1_1 : Int) (h : Heap) (K : Value → Heap → Prop) (H : u164 Tryz.prog x0_1 y1_1 h K) : callM Tryz.prog 164 #[(VI x0_1), (VI y1_1)] h K := by
  refine c164 (VI x0_1) (VI y1_1) h K ?_
  unfold u164 at H
  unfold t164
  have hL : Vars h [] := .nil
  refine H.mono fun rv_1 h_1 H => ?_
  obtain ⟨t6_1, rfl, hL_1, H⟩ := H
  refine guardM_st (fun hb_1 => ?_) (fun hb_1 => ?_)
  rotate_left
  ·have H := H.2 hb_1
   refine guardM_n' hb_1 (by decide) ?_
   refine guardM_n' hb_1 (by decide) ?_
   refine pop_pickf' hb_1 ?_
   refine guardM_y ?_
   refine guardM_y ?_
   refine guardM_y ?_
   refine pop_lss .i64 x0_1 y1_1 ?_
   refine pop_pickf _ _ ?_
   exact H
  have H := H.1 hb_1
  refine guardM_y' hb_1 ?_
  refine H.mono fun rv_2 h_2 H => ?_
  obtain ⟨t9_1, rfl, hL_2, H⟩ := H
  refine guardM_y' hb_1 ?_
  refine pop_not t9_1 ?_
  refine pop_pickt' hb_1 ?_
  refine guardM_sf (fun hb_2 => ?_) (fun hb_2 => ?_)
  rotate_left
  ·have H := H.1 hb_2
   refine guardM_n' hb_2 (by decide) ?_
   refine guardM_n' hb_2 (by decide) ?_
   refine pop_pickt' hb_2 ?_
   exact H
  have H := H.2 hb_2
  refine guardM_y' hb_2 ?_
  refine guardM_y' hb_2 ?_
  refine pop_lss .i64 x0_1 y1_1 ?_
  refine pop_pickf' hb_2 ?_
  exact H
def u168 (P : Program) (x0_1 : Int) (h : Heap) (K : Value → Heap → Prop) : Prop :=
  ∃ J_1 : Int → Int → Heap → Prop, (((decide (4294967296 ≤ x0_1)) = true →
  pop P (binA .shr 72 (Value.int .u64 x0_1) (Value.int IntKind.u64 32)) fun rv_1 => ∃ t6_1 : Int, rv_1 = (Value.int .u64 t6_1) ∧ 
  J_1 t6_1 32 h) ∧
  ((decide (4294967296 ≤ x0_1)) = false →
  J_1 x0_1 0 h)) ∧
  ∀ (x_1 : Int) (x_2 : Int) (h_1 : Heap), J_1 x_1 x_2 h_1 → Vars h_1 [] →
  ∃ J_2 : Int → Int → Heap → Prop, (((decide (65536 ≤ x_1)) = true →
  pop P (binA .shr 72 (Value.int .u64 x_1) (Value.int IntKind.u64 16)) fun rv_2 => ∃ t10_1 : Int, rv_2 = (Value.int .u64 t10_1) ∧ 
  J_2 t10_1 (w64 (x_2 + 16)) h_1) ∧
  ((decide (65536 ≤ x_1)) = false →
  J_2 x_1 x_2 h_1)) ∧
  ∀ (x_3 : Int) (x_4 : Int) (h_2 : Heap), J_2 x_3 x_4 h_2 → Vars h_2 [] →
  ∃ J_3 : Int → Int → Heap → Prop, (((decide (256 ≤ x_3)) = true →
  pop P (binA .shr 72 (Value.int .u64 x_3) (Value.int IntKind.u64 8)) fun rv_3 => ∃ t16_1 : Int, rv_3 = (Value.int .u64 t16_1) ∧ 
  J_3 t16_1 (w64 (x_4 + 8)) h_2) ∧
  ((decide (256 ≤ x_3)) = false →
  J_3 x_3 x_4 h_2)) ∧
  ∀ (x_5 : Int) (x_6 : Int) (h_3 : Heap), J_3 x_5 x_6 h_3 → Vars h_3 [] →
  rop P (convert 72 5 (Value.int .u64 x_5)) h_3 fun rv_4 => ∃ t21_1 : Int, rv_4 = (Value.int .u8 t21_1) ∧ 
  pop P (Instr.index 9 (Value.string { data := #[0, 1, 2, 2, 3, 3, 3, 3, 4, 4, 4, 4, 4, 4, 4, 4, 5, 5, 5, 5, 5, 5, 5, 5, 5, 5, 5, 5, 5, 5, 5, 5, 6, 6, 6, 6, 6, 6, 6, 6, 6, 6, 6, 6, 6, 6, 6, 6, 6, 6, 6, 6, 6, 6, 6, 6, 6, 6, 6, 6, 6, 6, 6, 6, 7, 7, 7, 7, 7, 7, 7, 7, 7, 7, 7, 7, 7, 7, 7, 7, 7, 7, 7, 7, 7, 7, 7, 7, 7, 7, 7, 7, 7, 7, 7, 7, 7, 7, 7, 7, 7, 7, 7, 7, 7, 7, 7, 7, 7, 7, 7, 7, 7, 7, 7, 7, 7, 7, 7, 7, 7, 7, 7, 7, 7, 7, 7, 7, 8, 8, 8, 8, 8, 8, 8, 8, 8, 8, 8, 8, 8, 8, 8, 8, 8, 8, 8, 8, 8, 8, 8, 8, 8, 8, 8, 8, 8, 8, 8, 8, 8, 8, 8, 8, 8, 8, 8, 8, 8, 8, 8, 8, 8, 8, 8, 8, 8, 8, 8, 8, 8, 8, 8, 8, 8, 8, 8, 8, 8, 8, 8, 8, 8, 8, 8, 8, 8, 8, 8, 8, 8, 8, 8, 8, 8, 8, 8, 8, 8, 8, 8, 8, 8, 8, 8, 8, 8, 8, 8, 8, 8, 8, 8, 8, 8, 8, 8, 8, 8, 8, 8, 8, 8, 8, 8, 8, 8, 8, 8, 8, 8, 8, 8, 8, 8, 8, 8, 8, 8, 8, 8, 8, 8, 8, 8, 8] }) (Value.int .u8 t21_1)) fun rv_5 => ∃ t22_1 : Int, rv_5 = (Value.int .u8 t22_1) ∧ 
  rop P (convert 5 3 (Value.int .u8 t22_1)) h_3 fun rv_6 => ∃ t23_1 : Int, rv_6 = (VI t23_1) ∧ 
  K (VI (w64 (x_6 + t23_1))) h_3
theorem v168 (x0_1 : Int) (h : Heap) (K : Value → Heap → Prop) (H : u168 Tryz.prog x0_1 h K) : callM Tryz.prog 168 #[(Value.int .u64 x0_1)] h K := by
  refine c168 (Value.int .u64 x0_1) h K ?_
  unfold u168 at H
  unfold t168
  have hL : Vars h [] := .nil
  obtain ⟨J_1, H, HB_3⟩ := H
  refine ⟨fun (vs : List Value) (h' : Heap) => ∃ x_1 : Int, ∃ x_2 : Int, vs = [(Value.int .u64 x_1), (VI x_2)] ∧ J_1 x_1 x_2 h' ∧ Vars h' [], ?_, ?_⟩
  ·refine pop_geq .u64 x0_1 4294967296 ?_
   refine condM_b (fun hb_1 => ?_) (fun hb_1 => ?_)
   rotate_left
   ·have H := H.2 hb_1
    exact ⟨x0_1, 0, rfl, H, hL⟩
   have H := H.1 hb_1
   refine H.mono fun rv_1 H => ?_
   obtain ⟨t6_1, rfl, H⟩ := H
   exact ⟨t6_1, 32, rfl, H, hL⟩
  intro junk_1 tv_1 tv_2 h_1
  rintro ⟨x_1, x_2, hv, hJ_1, hL_1⟩
  cases hv
  have H := HB_3 x_1 x_2 h_1 hJ_1 hL_1
  obtain ⟨J_2, H, HB_2⟩ := H
  refine ⟨fun (vs : List Value) (h' : Heap) => ∃ x_3 : Int, ∃ x_4 : Int, vs = [(Value.int .u64 x_3), (VI x_4)] ∧ J_2 x_3 x_4 h' ∧ Vars h' [], ?_, ?_⟩
  ·refine pop_geq .u64 x_1 65536 ?_
   refine condM_b (fun hb_2 => ?_) (fun hb_2 => ?_)
   rotate_left
   ·have H := H.2 hb_2
    exact ⟨x_1, x_2, rfl, H, hL_1⟩
   have H := H.1 hb_2
   refine H.mono fun rv_2 H => ?_
   obtain ⟨t10_1, rfl, H⟩ := H
   refine pop_add .i64 x_2 16 ?_
   exact ⟨t10_1, (w64 (x_2 + 16)), rfl, H, hL_1⟩
  intro junk_2 tv_3 tv_4 h_2
  rintro ⟨x_3, x_4, hv, hJ_2, hL_2⟩
  cases hv
  have H := HB_2 x_3 x_4 h_2 hJ_2 hL_2
  obtain ⟨J_3, H, HB_1⟩ := H
  refine ⟨fun (vs : List Value) (h' : Heap) => ∃ x_5 : Int, ∃ x_6 : Int, vs = [(Value.int .u64 x_5), (VI x_6)] ∧ J_3 x_5 x_6 h' ∧ Vars h' [], ?_, ?_⟩
  ·refine pop_geq .u64 x_3 256 ?_
   refine condM_b (fun hb_3 => ?_) (fun hb_3 => ?_)
   rotate_left
   ·have H := H.2 hb_3
    exact ⟨x_3, x_4, rfl, H, hL_2⟩
   have H := H.1 hb_3
   refine H.mono fun rv_3 H => ?_
   obtain ⟨t16_1, rfl, H⟩ := H
   refine pop_add .i64 x_4 8 ?_
   exact ⟨t16_1, (w64 (x_4 + 8)), rfl, H, hL_2⟩
  intro junk_3 tv_5 tv_6 h_3
  rintro ⟨x_5, x_6, hv, hJ_3, hL_3⟩
  cases hv
  have H := HB_1 x_5 x_6 h_3 hJ_3 hL_3
  refine H.mono fun rv_4 H => ?_
  obtain ⟨t21_1, rfl, H⟩ := H
  refine H.mono fun rv_5 H => ?_
  obtain ⟨t22_1, rfl, H⟩ := H
  refine H.mono fun rv_6 H => ?_
  obtain ⟨t23_1, rfl, H⟩ := H
  refine pop_add .i64 x_6 t23_1 ?_
  exact H
def u174 (P : Program) (x0_1 : Int) (h : Heap) (K : Value → Heap → Prop) : Prop :=
  K (VB (!decide (x0_1 = x0_1))) h
theorem v174 (x0_1 : Int) (h : Heap) (K : Value → Heap → Prop) (H : u174 Tryz.prog x0_1 h K) : callM Tryz.prog 174 #[(VI x0_1)] h K := by
  refine c174 (VI x0_1) h K ?_
  unfold u174 at H
  unfold t174
  have hL : Vars h [] := .nil
  refine pop_ine .i64 _ _ x0_1 x0_1 ?_
  exact H
end Go.Proofs.YtkjkfjkapbpgiaaGreat
