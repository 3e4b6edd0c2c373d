/-
  The same over typed data. Written by a program.
-/
import Derived.Test.YtkjkfjkapbpgiaaStepsByWalksU
import Derived.Test.YtkjkfjkapbpgiaaStepsByWalksT
import Derived.Test.YtkjkfjkapbpgiaaM2
set_option linter.unusedVariables false
set_option linter.unusedSimpArgs false
set_option maxRecDepth 100000
set_option maxHeartbeats 16000000
namespace Go.Proofs.Ytkjkfjkapbpgiaa
open Go Go.Mx
/-! slices.breakPatternsOrdered[int] -/
def u146 (P : Program) (data0_1 : Sl) (a1_1 : Int) (b2_1 : Int) (h : Heap) (K : Value → Heap → Prop) : Prop :=
  ((decide (8 ≤ (w64 (b2_1 - a1_1)))) = true →
  rop P (convert 3 156 (VI (w64 (b2_1 - a1_1)))) h fun rv_1 => ∃ t17_1 : Int, rv_1 = (Value.int .u64 t17_1) ∧ 
  ∀ (b_1 : Nat) (h_2 : Heap), h.size ≤ b_1 → Fr (In []) h h_2 → Vars h_2 [(b_1, [(Value.int .u64 t17_1)])] →
  callM P 158 #[(VI (w64 (b2_1 - a1_1)))] h_2 fun rv_2 h_3 => ∃ t19_1 : Int, rv_2 = (Value.int .u64 t19_1) ∧ Vars h_3 [(b_1, [(Value.int .u64 t17_1)])] ∧
  ∃ J_1 : Nat → Int → Int → Heap → Prop, (∃ n0 : Nat, J_1 n0 (w64 ((w64 (a1_1 + (w64 ((w64 (Int.tdiv (w64 (b2_1 - a1_1)) 4)) * 2)))) - 1)) t17_1 h_3) ∧
  ∀ (n_1 : Nat) (idx9_1 : Int) (x_1 : Int) (h_4 : Heap), J_1 n_1 idx9_1 x_1 h_4 → Vars h_4 [(b_1, [(Value.int .u64 x_1)])] →
  ((decide (idx9_1 ≤ (w64 ((w64 (a1_1 + (w64 ((w64 (Int.tdiv (w64 (b2_1 - a1_1)) 4)) * 2)))) + 1)))) = true →
  callM P 159 #[(VP b_1 0)] h_4 fun rv_3 h_5 => ∃ x_2 : Int, ∃ t36_1 : Int, rv_3 = (Value.int .u64 t36_1) ∧ Vars h_5 [(b_1, [(Value.int .u64 x_2)])] ∧
  pop P (binA .and 133 (Value.int .u64 t36_1) (Value.int .u64 (IntKind.wrap .u64 (t19_1 - 1)))) fun rv_4 => ∃ t39_1 : Int, rv_4 = (Value.int .u64 t39_1) ∧ 
  rop P (convert 133 3 (Value.int .u64 t39_1)) h_5 fun rv_5 => ∃ t40_1 : Int, rv_5 = (VI t40_1) ∧ 
  ∃ J_2 : Int → Heap → Prop, (((decide ((w64 (b2_1 - a1_1)) ≤ t40_1)) = true →
  J_2 (w64 (t40_1 - (w64 (b2_1 - a1_1)))) h_5) ∧
  ((decide ((w64 (b2_1 - a1_1)) ≤ t40_1)) = false →
  J_2 t40_1 h_5)) ∧
  ∀ (x_3 : Int) (h_6 : Heap), J_2 x_3 h_6 → Vars h_6 [(b_1, [(Value.int .u64 x_2)])] →
  InB data0_1 (w64 (a1_1 + x_3)) ∧
  ∃ t58_1 : Int, hcell h_6 (Sl.at data0_1 (w64 (a1_1 + x_3)) 1) = some (VI t58_1) ∧
  InB data0_1 idx9_1 ∧
  ∃ t62_1 : Int, hcell h_6 (Sl.at data0_1 idx9_1 1) = some (VI t62_1) ∧
  InB data0_1 idx9_1 ∧
  Writable h_6 (Sl.at data0_1 idx9_1 1) ∧ Vars (hset h_6 (Sl.at data0_1 idx9_1 1) (VI t58_1)) [(b_1, [(Value.int .u64 x_2)])] ∧
  ∀ h_7 : Heap, h_7 = hset h_6 (Sl.at data0_1 idx9_1 1) (VI t58_1) → Vars h_7 [(b_1, [(Value.int .u64 x_2)])] →
  InB data0_1 (w64 (a1_1 + x_3)) ∧
  Writable h_7 (Sl.at data0_1 (w64 (a1_1 + x_3)) 1) ∧ Vars (hset h_7 (Sl.at data0_1 (w64 (a1_1 + x_3)) 1) (VI t62_1)) [(b_1, [(Value.int .u64 x_2)])] ∧
  ∀ h_8 : Heap, h_8 = hset h_7 (Sl.at data0_1 (w64 (a1_1 + x_3)) 1) (VI t62_1) → Vars h_8 [(b_1, [(Value.int .u64 x_2)])] →
  ∃ m : Nat, m < n_1 ∧ J_1 m (w64 (idx9_1 + 1)) x_2 h_8) ∧
  ((decide (idx9_1 ≤ (w64 ((w64 (a1_1 + (w64 ((w64 (Int.tdiv (w64 (b2_1 - a1_1)) 4)) * 2)))) + 1)))) = false →
  K (Value.tuple #[]) h_4)) ∧
  ((decide (8 ≤ (w64 (b2_1 - a1_1)))) = false →
  K (Value.tuple #[]) h)
theorem v146 (data0_1 : Sl) (a1_1 : Int) (b2_1 : Int) (h : Heap) (K : Value → Heap → Prop) (H : u146 Try.prog data0_1 a1_1 b2_1 h K) : callM Try.prog 146 #[(Sl.v data0_1), (VI a1_1), (VI b2_1)] h K := by
  refine c146 (Sl.v data0_1) (VI a1_1) (VI b2_1) h K ?_
  unfold u146 at H
  unfold t146
  have hL : Vars h [] := .nil
  refine pop_sub .i64 b2_1 a1_1 ?_
  refine pop_geq .i64 (w64 (b2_1 - a1_1)) 8 ?_
  refine condM_b (fun hb_1 => ?_) (fun hb_1 => ?_)
  · have H := H.1 hb_1
    refine H.mono fun rv_1 H => ?_
    obtain ⟨t17_1, rfl, H⟩ := H
    refine eop_alloc 156 zer156 rfl hL (fun b_1 h_1 hb_2 hf_1 hL_1 => ?_)
    refine uop_loc siz156 hL_1 0 rfl 0 [(Value.int .u64 t17_1)] rfl rfl rfl (Nat.le_of_ble_eq_true rfl) (L' := [(b_1, [(Value.int .u64 t17_1)])]) rfl (fun h_2 hf_2 hL_2 => ?_)
    have H := H b_1 h_2 (Nat.le_trans (Fr.size (Fr.r (In []) _)) hb_2) (Fr.new (Fr.no' (Fr.r (In []) _) hf_1) (Nat.le_trans (Fr.size (Fr.r (In []) _)) hb_2) hf_2) hL_2
    refine H.mono fun rv_2 h_3 H => ?_
    obtain ⟨t19_1, rfl, hL_3, H⟩ := H
    refine pop_quo .i64 (w64 (b2_1 - a1_1)) 4 (by decide) ?_
    refine pop_mul .i64 (w64 (Int.tdiv (w64 (b2_1 - a1_1)) 4)) 2 ?_
    refine pop_add .i64 a1_1 (w64 ((w64 (Int.tdiv (w64 (b2_1 - a1_1)) 4)) * 2)) ?_
    refine pop_sub .i64 (w64 (a1_1 + (w64 ((w64 (Int.tdiv (w64 (b2_1 - a1_1)) 4)) * 2)))) 1 ?_
    obtain ⟨J_1, ⟨n_2, h0_1⟩, HB_2⟩ := H
    refine loop_intro (J := fun (n : Nat) (vs : List Value) (h' : Heap) => ∃ idx9_1 : Int, ∃ x_1 : Int, vs = [(VI idx9_1)] ∧ J_1 n idx9_1 x_1 h' ∧ Vars h' [(b_1, [(Value.int .u64 x_1)])]) n_2 ⟨(w64 ((w64 (a1_1 + (w64 ((w64 (Int.tdiv (w64 (b2_1 - a1_1)) 4)) * 2)))) - 1)), t17_1, rfl, h0_1, hL_3⟩ ?_
    intro I_1 mu_1 hI_1 junk_1 tv_2 h_4 hi_1
    obtain ⟨n_1, ⟨idx9_1, x_1, hv, hJ_1, hL_4⟩, hn_1⟩ := hI_1 _ _ hi_1
    cases hv
    have H := HB_2 n_1 idx9_1 x_1 h_4 hJ_1 hL_4
    refine pop_quo .i64 (w64 (b2_1 - a1_1)) 4 (by decide) ?_
    refine pop_mul .i64 (w64 (Int.tdiv (w64 (b2_1 - a1_1)) 4)) 2 ?_
    refine pop_add .i64 a1_1 (w64 ((w64 (Int.tdiv (w64 (b2_1 - a1_1)) 4)) * 2)) ?_
    refine pop_add .i64 (w64 (a1_1 + (w64 ((w64 (Int.tdiv (w64 (b2_1 - a1_1)) 4)) * 2)))) 1 ?_
    refine pop_leq .i64 idx9_1 (w64 ((w64 (a1_1 + (w64 ((w64 (Int.tdiv (w64 (b2_1 - a1_1)) 4)) * 2)))) + 1)) ?_
    refine condM_b (fun hb_3 => ?_) (fun hb_3 => ?_)
    · have H := H.1 hb_3
      refine H.mono fun rv_3 h_5 H => ?_
      obtain ⟨x_2, t36_1, rfl, hL_5, H⟩ := H
      refine pop_sub .u64 t19_1 1 ?_
      refine H.mono fun rv_4 H => ?_
      obtain ⟨t39_1, rfl, H⟩ := H
      refine H.mono fun rv_5 H => ?_
      obtain ⟨t40_1, rfl, H⟩ := H
      obtain ⟨J_2, H, HB_1⟩ := H
      refine ⟨fun (vs : List Value) (h' : Heap) => ∃ x_3 : Int, vs = [(VI x_3)] ∧ J_2 x_3 h' ∧ Vars h' [(b_1, [(Value.int .u64 x_2)])], ?_, ?_⟩
      · refine pop_geq .i64 t40_1 (w64 (b2_1 - a1_1)) ?_
        refine condM_b (fun hb_4 => ?_) (fun hb_4 => ?_)
        · have H := H.1 hb_4
          refine pop_sub .i64 t40_1 (w64 (b2_1 - a1_1)) ?_
          exact ⟨(w64 (t40_1 - (w64 (b2_1 - a1_1)))), rfl, H, hL_5⟩
        · have H := H.2 hb_4
          exact ⟨t40_1, rfl, H, hL_5⟩
      intro junk_2 tv_1 h_6
      rintro ⟨x_3, hv, hJ_2, hL_6⟩
      cases hv
      have H := HB_1 x_3 h_6 hJ_2 hL_6
      refine pop_add .i64 a1_1 x_3 ?_
      refine pop_add .i64 a1_1 x_3 ?_
      obtain ⟨hi_2, H⟩ := H
      refine pop_index sli27 siz3 .i64 data0_1 (w64 (a1_1 + x_3)) hi_2 ?_
      obtain ⟨t58_1, hc_2, H⟩ := H
      refine rop_one one3 (VI t58_1) hc_2 ?_
      obtain ⟨hi_3, H⟩ := H
      refine pop_index sli27 siz3 .i64 data0_1 idx9_1 hi_3 ?_
      obtain ⟨t62_1, hc_1, H⟩ := H
      refine rop_one one3 (VI t62_1) hc_1 ?_
      obtain ⟨hi_4, H⟩ := H
      refine pop_index sli27 siz3 .i64 data0_1 idx9_1 hi_4 ?_
      obtain ⟨hw_1, hL_7, H⟩ := H
      refine uop_cell (v := (VI t58_1)) siz3 hw_1 rfl (fun h_7 he_1 => ?_)
      rw [← he_1] at hL_7
      have H := H h_7 he_1 hL_7
      obtain ⟨hi_5, H⟩ := H
      refine pop_index sli27 siz3 .i64 data0_1 (w64 (a1_1 + x_3)) hi_5 ?_
      obtain ⟨hw_2, hL_8, H⟩ := H
      refine uop_cell (v := (VI t62_1)) siz3 hw_2 rfl (fun h_8 he_2 => ?_)
      rw [← he_2] at hL_8
      have H := H h_8 he_2 hL_8
      refine pop_add .i64 idx9_1 1 ?_
      obtain ⟨m_1, hm_1, H⟩ := H
      exact hn_1 _ _ ⟨m_1, hm_1, (w64 (idx9_1 + 1)), x_2, rfl, H, hL_8⟩
    · have H := H.2 hb_3
      exact H
  · have H := H.2 hb_1
    exact H

/-! slices.choosePivotOrdered[int] -/
def u147 (P : Program) (data0_1 : Sl) (a1_1 : Int) (b2_1 : Int) (h : Heap) (K : Value → Heap → Prop) : Prop :=
  ∀ (b_1 : Nat) (h_1 : Heap), h.size ≤ b_1 → Fr (In []) h h_1 → Vars h_1 [(b_1, [(VI 0)])] →
  ∃ J_1 : Int → Int → Heap → Prop, (((decide (8 ≤ (w64 (b2_1 - a1_1)))) = true →
  ∃ J_2 : Int → Int → Int → Int → Heap → Prop, (((decide (50 ≤ (w64 (b2_1 - a1_1)))) = true →
  callM P 160 #[(Sl.v data0_1), (VI (w64 (a1_1 + (w64 ((w64 (Int.tdiv (w64 (b2_1 - a1_1)) 4)) * 1))))), (VP b_1 0)] h_1 fun rv_1 h_2 => ∃ x_7 : Int, ∃ t37_1 : Int, rv_1 = (VI t37_1) ∧ Vars h_2 [(b_1, [(VI x_7)])] ∧
  callM P 160 #[(Sl.v data0_1), (VI (w64 (a1_1 + (w64 ((w64 (Int.tdiv (w64 (b2_1 - a1_1)) 4)) * 2))))), (VP b_1 0)] h_2 fun rv_2 h_3 => ∃ x_8 : Int, ∃ t40_1 : Int, rv_2 = (VI t40_1) ∧ Vars h_3 [(b_1, [(VI x_8)])] ∧
  callM P 160 #[(Sl.v data0_1), (VI (w64 (a1_1 + (w64 ((w64 (Int.tdiv (w64 (b2_1 - a1_1)) 4)) * 3))))), (VP b_1 0)] h_3 fun rv_3 h_4 => ∃ x_9 : Int, ∃ t43_1 : Int, rv_3 = (VI t43_1) ∧ Vars h_4 [(b_1, [(VI x_9)])] ∧
  J_2 t37_1 t40_1 t43_1 x_9 h_4) ∧
  ((decide (50 ≤ (w64 (b2_1 - a1_1)))) = false →
  J_2 (w64 (a1_1 + (w64 ((w64 (Int.tdiv (w64 (b2_1 - a1_1)) 4)) * 1)))) (w64 (a1_1 + (w64 ((w64 (Int.tdiv (w64 (b2_1 - a1_1)) 4)) * 2)))) (w64 (a1_1 + (w64 ((w64 (Int.tdiv (w64 (b2_1 - a1_1)) 4)) * 3)))) 0 h_1)) ∧
  ∀ (x_3 : Int) (x_4 : Int) (x_5 : Int) (x_6 : Int) (h_5 : Heap), J_2 x_3 x_4 x_5 x_6 h_5 → Vars h_5 [(b_1, [(VI x_6)])] →
  callM P 161 #[(Sl.v data0_1), (VI x_3), (VI x_4), (VI x_5), (VP b_1 0)] h_5 fun rv_4 h_6 => ∃ x_10 : Int, ∃ t48_1 : Int, rv_4 = (VI t48_1) ∧ Vars h_6 [(b_1, [(VI x_10)])] ∧
  J_1 t48_1 x_10 h_6) ∧
  ((decide (8 ≤ (w64 (b2_1 - a1_1)))) = false →
  J_1 (w64 (a1_1 + (w64 ((w64 (Int.tdiv (w64 (b2_1 - a1_1)) 4)) * 2)))) 0 h_1)) ∧
  ∀ (x_1 : Int) (x_2 : Int) (h_7 : Heap), J_1 x_1 x_2 h_7 → Vars h_7 [(b_1, [(VI x_2)])] →
  ((decide (x_2 = 0)) = true →
  K (Value.tuple #[(VI x_1), (VI 1)]) h_7) ∧
  ((decide (x_2 = 0)) = false →
  ((decide (x_2 = 12)) = true →
  K (Value.tuple #[(VI x_1), (VI 2)]) h_7) ∧
  ((decide (x_2 = 12)) = false →
  K (Value.tuple #[(VI x_1), (VI 0)]) h_7))
theorem v147 (data0_1 : Sl) (a1_1 : Int) (b2_1 : Int) (h : Heap) (K : Value → Heap → Prop) (H : u147 Try.prog data0_1 a1_1 b2_1 h K) : callM Try.prog 147 #[(Sl.v data0_1), (VI a1_1), (VI b2_1)] h K := by
  refine c147 (Sl.v data0_1) (VI a1_1) (VI b2_1) h K ?_
  unfold u147 at H
  unfold t147
  have hL : Vars h [] := .nil
  refine pop_sub .i64 b2_1 a1_1 ?_
  refine eop_alloc 3 zer3 rfl hL (fun b_1 h_1 hb_1 hf_1 hL_1 => ?_)
  refine pop_quo .i64 (w64 (b2_1 - a1_1)) 4 (by decide) ?_
  refine pop_mul .i64 (w64 (Int.tdiv (w64 (b2_1 - a1_1)) 4)) 1 ?_
  refine pop_add .i64 a1_1 (w64 ((w64 (Int.tdiv (w64 (b2_1 - a1_1)) 4)) * 1)) ?_
  refine pop_quo .i64 (w64 (b2_1 - a1_1)) 4 (by decide) ?_
  refine pop_mul .i64 (w64 (Int.tdiv (w64 (b2_1 - a1_1)) 4)) 2 ?_
  refine pop_add .i64 a1_1 (w64 ((w64 (Int.tdiv (w64 (b2_1 - a1_1)) 4)) * 2)) ?_
  refine pop_quo .i64 (w64 (b2_1 - a1_1)) 4 (by decide) ?_
  refine pop_mul .i64 (w64 (Int.tdiv (w64 (b2_1 - a1_1)) 4)) 3 ?_
  refine pop_add .i64 a1_1 (w64 ((w64 (Int.tdiv (w64 (b2_1 - a1_1)) 4)) * 3)) ?_
  have H := H b_1 h_1 (Nat.le_trans (Fr.size (Fr.r (In []) _)) hb_1) (Fr.no' (Fr.r (In []) _) hf_1) hL_1
  obtain ⟨J_1, H, HB_2⟩ := H
  refine ⟨fun (vs : List Value) (h' : Heap) => ∃ x_1 : Int, ∃ x_2 : Int, vs = [(VI x_1)] ∧ J_1 x_1 x_2 h' ∧ Vars h' [(b_1, [(VI x_2)])], ?_, ?_⟩
  · refine pop_geq .i64 (w64 (b2_1 - a1_1)) 8 ?_
    refine condM_b (fun hb_2 => ?_) (fun hb_2 => ?_)
    · have H := H.1 hb_2
      obtain ⟨J_2, H, HB_1⟩ := H
      refine ⟨fun (vs : List Value) (h' : Heap) => ∃ x_3 : Int, ∃ x_4 : Int, ∃ x_5 : Int, ∃ x_6 : Int, vs = [(VI x_3), (VI x_4), (VI x_5)] ∧ J_2 x_3 x_4 x_5 x_6 h' ∧ Vars h' [(b_1, [(VI x_6)])], ?_, ?_⟩
      · refine pop_geq .i64 (w64 (b2_1 - a1_1)) 50 ?_
        refine condM_b (fun hb_3 => ?_) (fun hb_3 => ?_)
        · have H := H.1 hb_3
          refine H.mono fun rv_1 h_2 H => ?_
          obtain ⟨x_7, t37_1, rfl, hL_2, H⟩ := H
          refine H.mono fun rv_2 h_3 H => ?_
          obtain ⟨x_8, t40_1, rfl, hL_3, H⟩ := H
          refine H.mono fun rv_3 h_4 H => ?_
          obtain ⟨x_9, t43_1, rfl, hL_4, H⟩ := H
          exact ⟨t37_1, t40_1, t43_1, x_9, rfl, H, hL_4⟩
        · have H := H.2 hb_3
          exact ⟨(w64 (a1_1 + (w64 ((w64 (Int.tdiv (w64 (b2_1 - a1_1)) 4)) * 1)))), (w64 (a1_1 + (w64 ((w64 (Int.tdiv (w64 (b2_1 - a1_1)) 4)) * 2)))), (w64 (a1_1 + (w64 ((w64 (Int.tdiv (w64 (b2_1 - a1_1)) 4)) * 3)))), 0, rfl, H, hL_1⟩
      intro junk_1 tv_1 tv_2 tv_3 h_5
      rintro ⟨x_3, x_4, x_5, x_6, hv, hJ_1, hL_5⟩
      cases hv
      have H := HB_1 x_3 x_4 x_5 x_6 h_5 hJ_1 hL_5
      refine H.mono fun rv_4 h_6 H => ?_
      obtain ⟨x_10, t48_1, rfl, hL_6, H⟩ := H
      exact ⟨t48_1, x_10, rfl, H, hL_6⟩
    · have H := H.2 hb_2
      exact ⟨(w64 (a1_1 + (w64 ((w64 (Int.tdiv (w64 (b2_1 - a1_1)) 4)) * 2)))), 0, rfl, H, hL_1⟩
  intro junk_2 tv_4 h_7
  rintro ⟨x_1, x_2, hv, hJ_2, hL_7⟩
  cases hv
  have H := HB_2 x_1 x_2 h_7 hJ_2 hL_7
  refine rop_loc one3 hL_7 0 rfl 0 (v := (VI x_2)) rfl ?_
  refine pop_ieq .i64 _ _ x_2 0 ?_
  refine condM_b (fun hb_4 => ?_) (fun hb_4 => ?_)
  · have H := H.1 hb_4
    exact H
  · have H := H.2 hb_4
    refine pop_ieq .i64 _ _ x_2 12 ?_
    refine condM_b (fun hb_5 => ?_) (fun hb_5 => ?_)
    · have H := H.1 hb_5
      exact H
    · have H := H.2 hb_5
      exact H

/-! slices.reverseRangeOrdered[int] -/
def u148 (P : Program) (data0_1 : Sl) (a1_1 : Int) (b2_1 : Int) (h : Heap) (K : Value → Heap → Prop) : Prop :=
  ∃ J_1 : Nat → Int → Int → Heap → Prop, (∃ n0 : Nat, J_1 n0 a1_1 (w64 (b2_1 - 1)) h) ∧
  ∀ (n_1 : Nat) (i6_1 : Int) (j7_1 : Int) (h_1 : Heap), J_1 n_1 i6_1 j7_1 h_1 → Vars h_1 [] →
  ((decide (i6_1 < j7_1)) = true →
  InB data0_1 j7_1 ∧
  ∃ t21_1 : Int, hcell h_1 (Sl.at data0_1 j7_1 1) = some (VI t21_1) ∧
  InB data0_1 i6_1 ∧
  ∃ t25_1 : Int, hcell h_1 (Sl.at data0_1 i6_1 1) = some (VI t25_1) ∧
  InB data0_1 i6_1 ∧
  Writable h_1 (Sl.at data0_1 i6_1 1) ∧ Vars (hset h_1 (Sl.at data0_1 i6_1 1) (VI t21_1)) [] ∧
  ∀ h_2 : Heap, h_2 = hset h_1 (Sl.at data0_1 i6_1 1) (VI t21_1) → Vars h_2 [] →
  InB data0_1 j7_1 ∧
  Writable h_2 (Sl.at data0_1 j7_1 1) ∧ Vars (hset h_2 (Sl.at data0_1 j7_1 1) (VI t25_1)) [] ∧
  ∀ h_3 : Heap, h_3 = hset h_2 (Sl.at data0_1 j7_1 1) (VI t25_1) → Vars h_3 [] →
  ∃ m : Nat, m < n_1 ∧ J_1 m (w64 (i6_1 + 1)) (w64 (j7_1 - 1)) h_3) ∧
  ((decide (i6_1 < j7_1)) = false →
  K (Value.tuple #[]) h_1)
theorem v148 (data0_1 : Sl) (a1_1 : Int) (b2_1 : Int) (h : Heap) (K : Value → Heap → Prop) (H : u148 Try.prog data0_1 a1_1 b2_1 h K) : callM Try.prog 148 #[(Sl.v data0_1), (VI a1_1), (VI b2_1)] h K := by
  refine c148 (Sl.v data0_1) (VI a1_1) (VI b2_1) h K ?_
  unfold u148 at H
  unfold t148
  have hL : Vars h [] := .nil
  refine pop_sub .i64 b2_1 1 ?_
  obtain ⟨J_1, ⟨n_2, h0_1⟩, HB_1⟩ := H
  refine loop_intro (J := fun (n : Nat) (vs : List Value) (h' : Heap) => ∃ i6_1 : Int, ∃ j7_1 : Int, vs = [(VI i6_1), (VI j7_1)] ∧ J_1 n i6_1 j7_1 h' ∧ Vars h' []) n_2 ⟨a1_1, (w64 (b2_1 - 1)), rfl, h0_1, hL⟩ ?_
  intro I_1 mu_1 hI_1 junk_1 tv_1 tv_2 h_1 hi_1
  obtain ⟨n_1, ⟨i6_1, j7_1, hv, hJ_1, hL_1⟩, hn_1⟩ := hI_1 _ _ hi_1
  cases hv
  have H := HB_1 n_1 i6_1 j7_1 h_1 hJ_1 hL_1
  refine pop_lss .i64 i6_1 j7_1 ?_
  refine condM_b (fun hb_1 => ?_) (fun hb_1 => ?_)
  · have H := H.1 hb_1
    obtain ⟨hi_2, H⟩ := H
    refine pop_index sli27 siz3 .i64 data0_1 j7_1 hi_2 ?_
    obtain ⟨t21_1, hc_2, H⟩ := H
    refine rop_one one3 (VI t21_1) hc_2 ?_
    obtain ⟨hi_3, H⟩ := H
    refine pop_index sli27 siz3 .i64 data0_1 i6_1 hi_3 ?_
    obtain ⟨t25_1, hc_1, H⟩ := H
    refine rop_one one3 (VI t25_1) hc_1 ?_
    obtain ⟨hi_4, H⟩ := H
    refine pop_index sli27 siz3 .i64 data0_1 i6_1 hi_4 ?_
    obtain ⟨hw_1, hL_2, H⟩ := H
    refine uop_cell (v := (VI t21_1)) siz3 hw_1 rfl (fun h_2 he_1 => ?_)
    rw [← he_1] at hL_2
    have H := H h_2 he_1 hL_2
    obtain ⟨hi_5, H⟩ := H
    refine pop_index sli27 siz3 .i64 data0_1 j7_1 hi_5 ?_
    obtain ⟨hw_2, hL_3, H⟩ := H
    refine uop_cell (v := (VI t25_1)) siz3 hw_2 rfl (fun h_3 he_2 => ?_)
    rw [← he_2] at hL_3
    have H := H h_3 he_2 hL_3
    refine pop_add .i64 i6_1 1 ?_
    refine pop_sub .i64 j7_1 1 ?_
    obtain ⟨m_1, hm_1, H⟩ := H
    exact hn_1 _ _ ⟨m_1, hm_1, (w64 (i6_1 + 1)), (w64 (j7_1 - 1)), rfl, H, hL_3⟩
  · have H := H.2 hb_1
    exact H

/-! slices.partialInsertionSortOrdered[int] -/
def u149 (P : Program) (data0_1 : Sl) (a1_1 : Int) (b2_1 : Int) (h : Heap) (K : Value → Heap → Prop) : Prop :=
  ∃ J_1 : Nat → Int → Int → Heap → Prop, (∃ n0 : Nat, J_1 n0 (w64 (a1_1 + 1)) 0 h) ∧
  ∀ (n_1 : Nat) (i7_1 : Int) (j8_1 : Int) (h_1 : Heap), J_1 n_1 i7_1 j8_1 h_1 → Vars h_1 [] →
  ((decide (j8_1 < 5)) = true →
  ∃ J_2 : Int → Heap → Prop, (∃ J_3 : Nat → Int → Heap → Prop, (∃ n0 : Nat, J_3 n0 i7_1 h_1) ∧
  ∀ (n_2 : Nat) (i7_2 : Int) (h_2 : Heap), J_3 n_2 i7_2 h_2 → Vars h_2 [] →
  ((decide (i7_2 < b2_1)) = true →
  InB data0_1 i7_2 ∧
  ∃ t24_1 : Int, hcell h_2 (Sl.at data0_1 i7_2 1) = some (VI t24_1) ∧
  InB data0_1 (w64 (i7_2 - 1)) ∧
  ∃ t29_1 : Int, hcell h_2 (Sl.at data0_1 (w64 (i7_2 - 1)) 1) = some (VI t29_1) ∧
  callM P 150 #[(VI t24_1), (VI t29_1)] h_2 fun rv_1 h_3 => ∃ t30_1 : Bool, rv_1 = (VB t30_1) ∧ Vars h_3 [] ∧
  ((!t30_1) = true →
  ∃ m : Nat, m < n_2 ∧ J_3 m (w64 (i7_2 + 1)) h_3) ∧
  ((!t30_1) = false →
  ((decide (i7_2 = b2_1)) = true →
  K (VB true) h_3) ∧
  ((decide (i7_2 = b2_1)) = false →
  ((decide ((w64 (b2_1 - a1_1)) < 50)) = true →
  K (VB false) h_3) ∧
  ((decide ((w64 (b2_1 - a1_1)) < 50)) = false →
  InB data0_1 (w64 (i7_2 - 1)) ∧
  ∃ t51_1 : Int, hcell h_3 (Sl.at data0_1 (w64 (i7_2 - 1)) 1) = some (VI t51_1) ∧
  InB data0_1 i7_2 ∧
  ∃ t55_1 : Int, hcell h_3 (Sl.at data0_1 i7_2 1) = some (VI t55_1) ∧
  InB data0_1 i7_2 ∧
  Writable h_3 (Sl.at data0_1 i7_2 1) ∧ Vars (hset h_3 (Sl.at data0_1 i7_2 1) (VI t51_1)) [] ∧
  ∀ h_4 : Heap, h_4 = hset h_3 (Sl.at data0_1 i7_2 1) (VI t51_1) → Vars h_4 [] →
  InB data0_1 (w64 (i7_2 - 1)) ∧
  Writable h_4 (Sl.at data0_1 (w64 (i7_2 - 1)) 1) ∧ Vars (hset h_4 (Sl.at data0_1 (w64 (i7_2 - 1)) 1) (VI t55_1)) [] ∧
  ∀ h_5 : Heap, h_5 = hset h_4 (Sl.at data0_1 (w64 (i7_2 - 1)) 1) (VI t55_1) → Vars h_5 [] →
  ∃ J_4 : Heap → Prop, (((decide (2 ≤ (w64 (i7_2 - a1_1)))) = true →
  ∃ J_5 : Nat → Int → Heap → Prop, (∃ n0 : Nat, J_5 n0 (w64 (i7_2 - 1)) h_5) ∧
  ∀ (n_3 : Nat) (j9_1 : Int) (h_6 : Heap), J_5 n_3 j9_1 h_6 → Vars h_6 [] →
  ((decide (1 ≤ j9_1)) = true →
  InB data0_1 j9_1 ∧
  ∃ t71_1 : Int, hcell h_6 (Sl.at data0_1 j9_1 1) = some (VI t71_1) ∧
  InB data0_1 (w64 (j9_1 - 1)) ∧
  ∃ t76_1 : Int, hcell h_6 (Sl.at data0_1 (w64 (j9_1 - 1)) 1) = some (VI t76_1) ∧
  callM P 150 #[(VI t71_1), (VI t76_1)] h_6 fun rv_2 h_7 => ∃ t77_1 : Bool, rv_2 = (VB t77_1) ∧ Vars h_7 [] ∧
  ((!t77_1) = true →
  J_4  h_7) ∧
  ((!t77_1) = false →
  InB data0_1 (w64 (j9_1 - 1)) ∧
  ∃ t88_1 : Int, hcell h_7 (Sl.at data0_1 (w64 (j9_1 - 1)) 1) = some (VI t88_1) ∧
  InB data0_1 j9_1 ∧
  ∃ t92_1 : Int, hcell h_7 (Sl.at data0_1 j9_1 1) = some (VI t92_1) ∧
  InB data0_1 j9_1 ∧
  Writable h_7 (Sl.at data0_1 j9_1 1) ∧ Vars (hset h_7 (Sl.at data0_1 j9_1 1) (VI t88_1)) [] ∧
  ∀ h_8 : Heap, h_8 = hset h_7 (Sl.at data0_1 j9_1 1) (VI t88_1) → Vars h_8 [] →
  InB data0_1 (w64 (j9_1 - 1)) ∧
  Writable h_8 (Sl.at data0_1 (w64 (j9_1 - 1)) 1) ∧ Vars (hset h_8 (Sl.at data0_1 (w64 (j9_1 - 1)) 1) (VI t92_1)) [] ∧
  ∀ h_9 : Heap, h_9 = hset h_8 (Sl.at data0_1 (w64 (j9_1 - 1)) 1) (VI t92_1) → Vars h_9 [] →
  ∃ m : Nat, m < n_3 ∧ J_5 m (w64 (j9_1 - 1)) h_9)) ∧
  ((decide (1 ≤ j9_1)) = false →
  J_4  h_6)) ∧
  ((decide (2 ≤ (w64 (i7_2 - a1_1)))) = false →
  J_4  h_5)) ∧
  ∀ (h_10 : Heap), J_4  h_10 → Vars h_10 [] →
  ((decide (2 ≤ (w64 (b2_1 - i7_2)))) = true →
  ∃ J_6 : Nat → Int → Heap → Prop, (∃ n0 : Nat, J_6 n0 (w64 (i7_2 + 1)) h_10) ∧
  ∀ (n_5 : Nat) (j10_1 : Int) (h_11 : Heap), J_6 n_5 j10_1 h_11 → Vars h_11 [] →
  ((decide (j10_1 < b2_1)) = true →
  InB data0_1 j10_1 ∧
  ∃ t109_1 : Int, hcell h_11 (Sl.at data0_1 j10_1 1) = some (VI t109_1) ∧
  InB data0_1 (w64 (j10_1 - 1)) ∧
  ∃ t114_1 : Int, hcell h_11 (Sl.at data0_1 (w64 (j10_1 - 1)) 1) = some (VI t114_1) ∧
  callM P 150 #[(VI t109_1), (VI t114_1)] h_11 fun rv_3 h_12 => ∃ t115_1 : Bool, rv_3 = (VB t115_1) ∧ Vars h_12 [] ∧
  ((!t115_1) = true →
  J_2 i7_2 h_12) ∧
  ((!t115_1) = false →
  InB data0_1 (w64 (j10_1 - 1)) ∧
  ∃ t126_1 : Int, hcell h_12 (Sl.at data0_1 (w64 (j10_1 - 1)) 1) = some (VI t126_1) ∧
  InB data0_1 j10_1 ∧
  ∃ t130_1 : Int, hcell h_12 (Sl.at data0_1 j10_1 1) = some (VI t130_1) ∧
  InB data0_1 j10_1 ∧
  Writable h_12 (Sl.at data0_1 j10_1 1) ∧ Vars (hset h_12 (Sl.at data0_1 j10_1 1) (VI t126_1)) [] ∧
  ∀ h_13 : Heap, h_13 = hset h_12 (Sl.at data0_1 j10_1 1) (VI t126_1) → Vars h_13 [] →
  InB data0_1 (w64 (j10_1 - 1)) ∧
  Writable h_13 (Sl.at data0_1 (w64 (j10_1 - 1)) 1) ∧ Vars (hset h_13 (Sl.at data0_1 (w64 (j10_1 - 1)) 1) (VI t130_1)) [] ∧
  ∀ h_14 : Heap, h_14 = hset h_13 (Sl.at data0_1 (w64 (j10_1 - 1)) 1) (VI t130_1) → Vars h_14 [] →
  ∃ m : Nat, m < n_5 ∧ J_6 m (w64 (j10_1 + 1)) h_14)) ∧
  ((decide (j10_1 < b2_1)) = false →
  J_2 i7_2 h_11)) ∧
  ((decide (2 ≤ (w64 (b2_1 - i7_2)))) = false →
  J_2 i7_2 h_10))))) ∧
  ((decide (i7_2 < b2_1)) = false →
  ((decide (i7_2 = b2_1)) = true →
  K (VB true) h_2) ∧
  ((decide (i7_2 = b2_1)) = false →
  ((decide ((w64 (b2_1 - a1_1)) < 50)) = true →
  K (VB false) h_2) ∧
  ((decide ((w64 (b2_1 - a1_1)) < 50)) = false →
  InB data0_1 (w64 (i7_2 - 1)) ∧
  ∃ t51_2 : Int, hcell h_2 (Sl.at data0_1 (w64 (i7_2 - 1)) 1) = some (VI t51_2) ∧
  InB data0_1 i7_2 ∧
  ∃ t55_2 : Int, hcell h_2 (Sl.at data0_1 i7_2 1) = some (VI t55_2) ∧
  InB data0_1 i7_2 ∧
  Writable h_2 (Sl.at data0_1 i7_2 1) ∧ Vars (hset h_2 (Sl.at data0_1 i7_2 1) (VI t51_2)) [] ∧
  ∀ h_15 : Heap, h_15 = hset h_2 (Sl.at data0_1 i7_2 1) (VI t51_2) → Vars h_15 [] →
  InB data0_1 (w64 (i7_2 - 1)) ∧
  Writable h_15 (Sl.at data0_1 (w64 (i7_2 - 1)) 1) ∧ Vars (hset h_15 (Sl.at data0_1 (w64 (i7_2 - 1)) 1) (VI t55_2)) [] ∧
  ∀ h_16 : Heap, h_16 = hset h_15 (Sl.at data0_1 (w64 (i7_2 - 1)) 1) (VI t55_2) → Vars h_16 [] →
  ∃ J_7 : Heap → Prop, (((decide (2 ≤ (w64 (i7_2 - a1_1)))) = true →
  ∃ J_8 : Nat → Int → Heap → Prop, (∃ n0 : Nat, J_8 n0 (w64 (i7_2 - 1)) h_16) ∧
  ∀ (n_7 : Nat) (j9_2 : Int) (h_17 : Heap), J_8 n_7 j9_2 h_17 → Vars h_17 [] →
  ((decide (1 ≤ j9_2)) = true →
  InB data0_1 j9_2 ∧
  ∃ t71_2 : Int, hcell h_17 (Sl.at data0_1 j9_2 1) = some (VI t71_2) ∧
  InB data0_1 (w64 (j9_2 - 1)) ∧
  ∃ t76_2 : Int, hcell h_17 (Sl.at data0_1 (w64 (j9_2 - 1)) 1) = some (VI t76_2) ∧
  callM P 150 #[(VI t71_2), (VI t76_2)] h_17 fun rv_4 h_18 => ∃ t77_2 : Bool, rv_4 = (VB t77_2) ∧ Vars h_18 [] ∧
  ((!t77_2) = true →
  J_7  h_18) ∧
  ((!t77_2) = false →
  InB data0_1 (w64 (j9_2 - 1)) ∧
  ∃ t88_2 : Int, hcell h_18 (Sl.at data0_1 (w64 (j9_2 - 1)) 1) = some (VI t88_2) ∧
  InB data0_1 j9_2 ∧
  ∃ t92_2 : Int, hcell h_18 (Sl.at data0_1 j9_2 1) = some (VI t92_2) ∧
  InB data0_1 j9_2 ∧
  Writable h_18 (Sl.at data0_1 j9_2 1) ∧ Vars (hset h_18 (Sl.at data0_1 j9_2 1) (VI t88_2)) [] ∧
  ∀ h_19 : Heap, h_19 = hset h_18 (Sl.at data0_1 j9_2 1) (VI t88_2) → Vars h_19 [] →
  InB data0_1 (w64 (j9_2 - 1)) ∧
  Writable h_19 (Sl.at data0_1 (w64 (j9_2 - 1)) 1) ∧ Vars (hset h_19 (Sl.at data0_1 (w64 (j9_2 - 1)) 1) (VI t92_2)) [] ∧
  ∀ h_20 : Heap, h_20 = hset h_19 (Sl.at data0_1 (w64 (j9_2 - 1)) 1) (VI t92_2) → Vars h_20 [] →
  ∃ m : Nat, m < n_7 ∧ J_8 m (w64 (j9_2 - 1)) h_20)) ∧
  ((decide (1 ≤ j9_2)) = false →
  J_7  h_17)) ∧
  ((decide (2 ≤ (w64 (i7_2 - a1_1)))) = false →
  J_7  h_16)) ∧
  ∀ (h_21 : Heap), J_7  h_21 → Vars h_21 [] →
  ((decide (2 ≤ (w64 (b2_1 - i7_2)))) = true →
  ∃ J_9 : Nat → Int → Heap → Prop, (∃ n0 : Nat, J_9 n0 (w64 (i7_2 + 1)) h_21) ∧
  ∀ (n_9 : Nat) (j10_2 : Int) (h_22 : Heap), J_9 n_9 j10_2 h_22 → Vars h_22 [] →
  ((decide (j10_2 < b2_1)) = true →
  InB data0_1 j10_2 ∧
  ∃ t109_2 : Int, hcell h_22 (Sl.at data0_1 j10_2 1) = some (VI t109_2) ∧
  InB data0_1 (w64 (j10_2 - 1)) ∧
  ∃ t114_2 : Int, hcell h_22 (Sl.at data0_1 (w64 (j10_2 - 1)) 1) = some (VI t114_2) ∧
  callM P 150 #[(VI t109_2), (VI t114_2)] h_22 fun rv_5 h_23 => ∃ t115_2 : Bool, rv_5 = (VB t115_2) ∧ Vars h_23 [] ∧
  ((!t115_2) = true →
  J_2 i7_2 h_23) ∧
  ((!t115_2) = false →
  InB data0_1 (w64 (j10_2 - 1)) ∧
  ∃ t126_2 : Int, hcell h_23 (Sl.at data0_1 (w64 (j10_2 - 1)) 1) = some (VI t126_2) ∧
  InB data0_1 j10_2 ∧
  ∃ t130_2 : Int, hcell h_23 (Sl.at data0_1 j10_2 1) = some (VI t130_2) ∧
  InB data0_1 j10_2 ∧
  Writable h_23 (Sl.at data0_1 j10_2 1) ∧ Vars (hset h_23 (Sl.at data0_1 j10_2 1) (VI t126_2)) [] ∧
  ∀ h_24 : Heap, h_24 = hset h_23 (Sl.at data0_1 j10_2 1) (VI t126_2) → Vars h_24 [] →
  InB data0_1 (w64 (j10_2 - 1)) ∧
  Writable h_24 (Sl.at data0_1 (w64 (j10_2 - 1)) 1) ∧ Vars (hset h_24 (Sl.at data0_1 (w64 (j10_2 - 1)) 1) (VI t130_2)) [] ∧
  ∀ h_25 : Heap, h_25 = hset h_24 (Sl.at data0_1 (w64 (j10_2 - 1)) 1) (VI t130_2) → Vars h_25 [] →
  ∃ m : Nat, m < n_9 ∧ J_9 m (w64 (j10_2 + 1)) h_25)) ∧
  ((decide (j10_2 < b2_1)) = false →
  J_2 i7_2 h_22)) ∧
  ((decide (2 ≤ (w64 (b2_1 - i7_2)))) = false →
  J_2 i7_2 h_21))))) ∧
  ∀ (x_1 : Int) (h_26 : Heap), J_2 x_1 h_26 → Vars h_26 [] →
  ∃ m : Nat, m < n_1 ∧ J_1 m x_1 (w64 (j8_1 + 1)) h_26) ∧
  ((decide (j8_1 < 5)) = false →
  K (VB false) h_1)
theorem v149 (data0_1 : Sl) (a1_1 : Int) (b2_1 : Int) (h : Heap) (K : Value → Heap → Prop) (H : u149 Try.prog data0_1 a1_1 b2_1 h K) : callM Try.prog 149 #[(Sl.v data0_1), (VI a1_1), (VI b2_1)] h K := by
  refine c149 (Sl.v data0_1) (VI a1_1) (VI b2_1) h K ?_
  unfold u149 at H
  unfold t149
  have hL : Vars h [] := .nil
  refine pop_add .i64 a1_1 1 ?_
  obtain ⟨J_1, ⟨n_12, h0_6⟩, HB_9⟩ := H
  refine loop_intro (J := fun (n : Nat) (vs : List Value) (h' : Heap) => ∃ i7_1 : Int, ∃ j8_1 : Int, vs = [(VI i7_1), (VI j8_1)] ∧ J_1 n i7_1 j8_1 h' ∧ Vars h' []) n_12 ⟨(w64 (a1_1 + 1)), 0, rfl, h0_6, hL⟩ ?_
  intro I_6 mu_6 hI_6 junk_1 tv_7 tv_8 h_1 hi_1
  obtain ⟨n_1, ⟨i7_1, j8_1, hv, hJ_1, hL_1⟩, hn_1⟩ := hI_6 _ _ hi_1
  cases hv
  have H := HB_9 n_1 i7_1 j8_1 h_1 hJ_1 hL_1
  refine pop_lss .i64 j8_1 5 ?_
  refine condM_b (fun hb_1 => ?_) (fun hb_1 => ?_)
  · have H := H.1 hb_1
    obtain ⟨J_2, H, HB_8⟩ := H
    refine ⟨fun (vs : List Value) (h' : Heap) => ∃ x_1 : Int, vs = [(VI x_1)] ∧ J_2 x_1 h' ∧ Vars h' [], ?_, ?_⟩
    · obtain ⟨J_3, ⟨n_11, h0_5⟩, HB_7⟩ := H
      refine loop_intro (J := fun (n : Nat) (vs : List Value) (h' : Heap) => ∃ i7_2 : Int, vs = [(VI i7_2)] ∧ J_3 n i7_2 h' ∧ Vars h' []) n_11 ⟨i7_1, rfl, h0_5, hL_1⟩ ?_
      intro I_5 mu_5 hI_5 junk_2 tv_5 h_2 hi_2
      obtain ⟨n_2, ⟨i7_2, hv, hJ_2, hL_2⟩, hn_2⟩ := hI_5 _ _ hi_2
      cases hv
      have H := HB_7 n_2 i7_2 h_2 hJ_2 hL_2
      refine pop_lss .i64 i7_2 b2_1 ?_
      refine guardM_st (fun hb_2 => ?_) (fun hb_2 => ?_)
      · have H := H.1 hb_2
        refine guardM_y' hb_2 ?_
        refine guardM_y' hb_2 ?_
        obtain ⟨hi_3, H⟩ := H
        refine pop_index sli27 siz3 .i64 data0_1 i7_2 hi_3 ?_
        refine guardM_y' hb_2 ?_
        obtain ⟨t24_1, hc_12, H⟩ := H
        refine rop_one one3 (VI t24_1) hc_12 ?_
        refine guardM_y' hb_2 ?_
        refine guardM_y' hb_2 ?_
        refine guardM_y' hb_2 ?_
        refine pop_sub .i64 i7_2 1 ?_
        refine guardM_y' hb_2 ?_
        obtain ⟨hi_4, H⟩ := H
        refine pop_index sli27 siz3 .i64 data0_1 (w64 (i7_2 - 1)) hi_4 ?_
        refine guardM_y' hb_2 ?_
        obtain ⟨t29_1, hc_11, H⟩ := H
        refine rop_one one3 (VI t29_1) hc_11 ?_
        refine guardM_y' hb_2 ?_
        refine H.mono fun rv_1 h_3 H => ?_
        obtain ⟨t30_1, rfl, hL_3, H⟩ := H
        refine guardM_y' hb_2 ?_
        refine pop_not t30_1 ?_
        refine pop_pickt' hb_2 ?_
        refine condM_b (fun hb_3 => ?_) (fun hb_3 => ?_)
        · have H := H.1 hb_3
          refine pop_add .i64 i7_2 1 ?_
          obtain ⟨m_1, hm_1, H⟩ := H
          exact hn_2 _ _ ⟨m_1, hm_1, (w64 (i7_2 + 1)), rfl, H, hL_3⟩
        · have H := H.2 hb_3
          refine pop_ieq .i64 _ _ i7_2 b2_1 ?_
          refine condM_b (fun hb_4 => ?_) (fun hb_4 => ?_)
          · have H := H.1 hb_4
            exact H
          · have H := H.2 hb_4
            refine pop_sub .i64 b2_1 a1_1 ?_
            refine pop_lss .i64 (w64 (b2_1 - a1_1)) 50 ?_
            refine condM_b (fun hb_5 => ?_) (fun hb_5 => ?_)
            · have H := H.1 hb_5
              exact H
            · have H := H.2 hb_5
              refine pop_sub .i64 i7_2 1 ?_
              refine pop_sub .i64 i7_2 1 ?_
              obtain ⟨hi_5, H⟩ := H
              refine pop_index sli27 siz3 .i64 data0_1 (w64 (i7_2 - 1)) hi_5 ?_
              obtain ⟨t51_1, hc_10, H⟩ := H
              refine rop_one one3 (VI t51_1) hc_10 ?_
              obtain ⟨hi_6, H⟩ := H
              refine pop_index sli27 siz3 .i64 data0_1 i7_2 hi_6 ?_
              obtain ⟨t55_1, hc_9, H⟩ := H
              refine rop_one one3 (VI t55_1) hc_9 ?_
              obtain ⟨hi_7, H⟩ := H
              refine pop_index sli27 siz3 .i64 data0_1 i7_2 hi_7 ?_
              obtain ⟨hw_1, hL_4, H⟩ := H
              refine uop_cell (v := (VI t51_1)) siz3 hw_1 rfl (fun h_4 he_1 => ?_)
              rw [← he_1] at hL_4
              have H := H h_4 he_1 hL_4
              obtain ⟨hi_8, H⟩ := H
              refine pop_index sli27 siz3 .i64 data0_1 (w64 (i7_2 - 1)) hi_8 ?_
              obtain ⟨hw_2, hL_5, H⟩ := H
              refine uop_cell (v := (VI t55_1)) siz3 hw_2 rfl (fun h_5 he_2 => ?_)
              rw [← he_2] at hL_5
              have H := H h_5 he_2 hL_5
              obtain ⟨J_4, H, HB_3⟩ := H
              refine ⟨fun (vs : List Value) (h' : Heap) => vs = [] ∧ J_4  h' ∧ Vars h' [], ?_, ?_⟩
              · refine pop_sub .i64 i7_2 a1_1 ?_
                refine pop_geq .i64 (w64 (i7_2 - a1_1)) 2 ?_
                refine condM_b (fun hb_6 => ?_) (fun hb_6 => ?_)
                · have H := H.1 hb_6
                  refine pop_sub .i64 i7_2 1 ?_
                  obtain ⟨J_5, ⟨n_4, h0_1⟩, HB_1⟩ := H
                  refine loop_intro (J := fun (n : Nat) (vs : List Value) (h' : Heap) => ∃ j9_1 : Int, vs = [(VI j9_1)] ∧ J_5 n j9_1 h' ∧ Vars h' []) n_4 ⟨(w64 (i7_2 - 1)), rfl, h0_1, hL_5⟩ ?_
                  intro I_1 mu_1 hI_1 junk_3 tv_1 h_6 hi_9
                  obtain ⟨n_3, ⟨j9_1, hv, hJ_3, hL_6⟩, hn_3⟩ := hI_1 _ _ hi_9
                  cases hv
                  have H := HB_1 n_3 j9_1 h_6 hJ_3 hL_6
                  refine pop_geq .i64 j9_1 1 ?_
                  refine condM_b (fun hb_7 => ?_) (fun hb_7 => ?_)
                  · have H := H.1 hb_7
                    obtain ⟨hi_10, H⟩ := H
                    refine pop_index sli27 siz3 .i64 data0_1 j9_1 hi_10 ?_
                    obtain ⟨t71_1, hc_4, H⟩ := H
                    refine rop_one one3 (VI t71_1) hc_4 ?_
                    refine pop_sub .i64 j9_1 1 ?_
                    obtain ⟨hi_11, H⟩ := H
                    refine pop_index sli27 siz3 .i64 data0_1 (w64 (j9_1 - 1)) hi_11 ?_
                    obtain ⟨t76_1, hc_3, H⟩ := H
                    refine rop_one one3 (VI t76_1) hc_3 ?_
                    refine H.mono fun rv_2 h_7 H => ?_
                    obtain ⟨t77_1, rfl, hL_7, H⟩ := H
                    refine pop_not t77_1 ?_
                    refine condM_b (fun hb_8 => ?_) (fun hb_8 => ?_)
                    · have H := H.1 hb_8
                      exact ⟨rfl, H, hL_7⟩
                    · have H := H.2 hb_8
                      refine pop_sub .i64 j9_1 1 ?_
                      refine pop_sub .i64 j9_1 1 ?_
                      obtain ⟨hi_12, H⟩ := H
                      refine pop_index sli27 siz3 .i64 data0_1 (w64 (j9_1 - 1)) hi_12 ?_
                      obtain ⟨t88_1, hc_2, H⟩ := H
                      refine rop_one one3 (VI t88_1) hc_2 ?_
                      obtain ⟨hi_13, H⟩ := H
                      refine pop_index sli27 siz3 .i64 data0_1 j9_1 hi_13 ?_
                      obtain ⟨t92_1, hc_1, H⟩ := H
                      refine rop_one one3 (VI t92_1) hc_1 ?_
                      obtain ⟨hi_14, H⟩ := H
                      refine pop_index sli27 siz3 .i64 data0_1 j9_1 hi_14 ?_
                      obtain ⟨hw_3, hL_8, H⟩ := H
                      refine uop_cell (v := (VI t88_1)) siz3 hw_3 rfl (fun h_8 he_3 => ?_)
                      rw [← he_3] at hL_8
                      have H := H h_8 he_3 hL_8
                      obtain ⟨hi_15, H⟩ := H
                      refine pop_index sli27 siz3 .i64 data0_1 (w64 (j9_1 - 1)) hi_15 ?_
                      obtain ⟨hw_4, hL_9, H⟩ := H
                      refine uop_cell (v := (VI t92_1)) siz3 hw_4 rfl (fun h_9 he_4 => ?_)
                      rw [← he_4] at hL_9
                      have H := H h_9 he_4 hL_9
                      refine pop_sub .i64 j9_1 1 ?_
                      obtain ⟨m_2, hm_2, H⟩ := H
                      exact hn_3 _ _ ⟨m_2, hm_2, (w64 (j9_1 - 1)), rfl, H, hL_9⟩
                  · have H := H.2 hb_7
                    exact ⟨rfl, H, hL_6⟩
                · have H := H.2 hb_6
                  exact ⟨rfl, H, hL_5⟩
              intro junk_4  h_10
              rintro ⟨hv, hJ_4, hL_10⟩
              have H := HB_3  h_10 hJ_4 hL_10
              refine pop_sub .i64 b2_1 i7_2 ?_
              refine pop_geq .i64 (w64 (b2_1 - i7_2)) 2 ?_
              refine condM_b (fun hb_9 => ?_) (fun hb_9 => ?_)
              · have H := H.1 hb_9
                refine pop_add .i64 i7_2 1 ?_
                obtain ⟨J_6, ⟨n_6, h0_2⟩, HB_2⟩ := H
                refine loop_intro (J := fun (n : Nat) (vs : List Value) (h' : Heap) => ∃ j10_1 : Int, vs = [(VI j10_1)] ∧ J_6 n j10_1 h' ∧ Vars h' []) n_6 ⟨(w64 (i7_2 + 1)), rfl, h0_2, hL_10⟩ ?_
                intro I_2 mu_2 hI_2 junk_5 tv_2 h_11 hi_16
                obtain ⟨n_5, ⟨j10_1, hv, hJ_5, hL_11⟩, hn_4⟩ := hI_2 _ _ hi_16
                cases hv
                have H := HB_2 n_5 j10_1 h_11 hJ_5 hL_11
                refine pop_lss .i64 j10_1 b2_1 ?_
                refine condM_b (fun hb_10 => ?_) (fun hb_10 => ?_)
                · have H := H.1 hb_10
                  obtain ⟨hi_17, H⟩ := H
                  refine pop_index sli27 siz3 .i64 data0_1 j10_1 hi_17 ?_
                  obtain ⟨t109_1, hc_8, H⟩ := H
                  refine rop_one one3 (VI t109_1) hc_8 ?_
                  refine pop_sub .i64 j10_1 1 ?_
                  obtain ⟨hi_18, H⟩ := H
                  refine pop_index sli27 siz3 .i64 data0_1 (w64 (j10_1 - 1)) hi_18 ?_
                  obtain ⟨t114_1, hc_7, H⟩ := H
                  refine rop_one one3 (VI t114_1) hc_7 ?_
                  refine H.mono fun rv_3 h_12 H => ?_
                  obtain ⟨t115_1, rfl, hL_12, H⟩ := H
                  refine pop_not t115_1 ?_
                  refine condM_b (fun hb_11 => ?_) (fun hb_11 => ?_)
                  · have H := H.1 hb_11
                    exact ⟨i7_2, rfl, H, hL_12⟩
                  · have H := H.2 hb_11
                    refine pop_sub .i64 j10_1 1 ?_
                    refine pop_sub .i64 j10_1 1 ?_
                    obtain ⟨hi_19, H⟩ := H
                    refine pop_index sli27 siz3 .i64 data0_1 (w64 (j10_1 - 1)) hi_19 ?_
                    obtain ⟨t126_1, hc_6, H⟩ := H
                    refine rop_one one3 (VI t126_1) hc_6 ?_
                    obtain ⟨hi_20, H⟩ := H
                    refine pop_index sli27 siz3 .i64 data0_1 j10_1 hi_20 ?_
                    obtain ⟨t130_1, hc_5, H⟩ := H
                    refine rop_one one3 (VI t130_1) hc_5 ?_
                    obtain ⟨hi_21, H⟩ := H
                    refine pop_index sli27 siz3 .i64 data0_1 j10_1 hi_21 ?_
                    obtain ⟨hw_5, hL_13, H⟩ := H
                    refine uop_cell (v := (VI t126_1)) siz3 hw_5 rfl (fun h_13 he_5 => ?_)
                    rw [← he_5] at hL_13
                    have H := H h_13 he_5 hL_13
                    obtain ⟨hi_22, H⟩ := H
                    refine pop_index sli27 siz3 .i64 data0_1 (w64 (j10_1 - 1)) hi_22 ?_
                    obtain ⟨hw_6, hL_14, H⟩ := H
                    refine uop_cell (v := (VI t130_1)) siz3 hw_6 rfl (fun h_14 he_6 => ?_)
                    rw [← he_6] at hL_14
                    have H := H h_14 he_6 hL_14
                    refine pop_add .i64 j10_1 1 ?_
                    obtain ⟨m_3, hm_3, H⟩ := H
                    exact hn_4 _ _ ⟨m_3, hm_3, (w64 (j10_1 + 1)), rfl, H, hL_14⟩
                · have H := H.2 hb_10
                  exact ⟨i7_2, rfl, H, hL_11⟩
              · have H := H.2 hb_9
                exact ⟨i7_2, rfl, H, hL_10⟩
      · have H := H.2 hb_2
        refine guardM_n' hb_2 (by decide) ?_
        refine guardM_n' hb_2 (by decide) ?_
        refine guardM_n' hb_2 (by decide) ?_
        refine guardM_n' hb_2 (by decide) ?_
        refine guardM_n' hb_2 (by decide) ?_
        refine guardM_n' hb_2 (by decide) ?_
        refine guardM_n' hb_2 (by decide) ?_
        refine guardM_n' hb_2 (by decide) ?_
        refine guardM_n' hb_2 (by decide) ?_
        refine guardM_n' hb_2 (by decide) ?_
        refine pop_pickf' hb_2 ?_
        refine condM_f ?_
        refine pop_ieq .i64 _ _ i7_2 b2_1 ?_
        refine condM_b (fun hb_12 => ?_) (fun hb_12 => ?_)
        · have H := H.1 hb_12
          exact H
        · have H := H.2 hb_12
          refine pop_sub .i64 b2_1 a1_1 ?_
          refine pop_lss .i64 (w64 (b2_1 - a1_1)) 50 ?_
          refine condM_b (fun hb_13 => ?_) (fun hb_13 => ?_)
          · have H := H.1 hb_13
            exact H
          · have H := H.2 hb_13
            refine pop_sub .i64 i7_2 1 ?_
            refine pop_sub .i64 i7_2 1 ?_
            obtain ⟨hi_23, H⟩ := H
            refine pop_index sli27 siz3 .i64 data0_1 (w64 (i7_2 - 1)) hi_23 ?_
            obtain ⟨t51_2, hc_22, H⟩ := H
            refine rop_one one3 (VI t51_2) hc_22 ?_
            obtain ⟨hi_24, H⟩ := H
            refine pop_index sli27 siz3 .i64 data0_1 i7_2 hi_24 ?_
            obtain ⟨t55_2, hc_21, H⟩ := H
            refine rop_one one3 (VI t55_2) hc_21 ?_
            obtain ⟨hi_25, H⟩ := H
            refine pop_index sli27 siz3 .i64 data0_1 i7_2 hi_25 ?_
            obtain ⟨hw_7, hL_15, H⟩ := H
            refine uop_cell (v := (VI t51_2)) siz3 hw_7 rfl (fun h_15 he_7 => ?_)
            rw [← he_7] at hL_15
            have H := H h_15 he_7 hL_15
            obtain ⟨hi_26, H⟩ := H
            refine pop_index sli27 siz3 .i64 data0_1 (w64 (i7_2 - 1)) hi_26 ?_
            obtain ⟨hw_8, hL_16, H⟩ := H
            refine uop_cell (v := (VI t55_2)) siz3 hw_8 rfl (fun h_16 he_8 => ?_)
            rw [← he_8] at hL_16
            have H := H h_16 he_8 hL_16
            obtain ⟨J_7, H, HB_6⟩ := H
            refine ⟨fun (vs : List Value) (h' : Heap) => vs = [] ∧ J_7  h' ∧ Vars h' [], ?_, ?_⟩
            · refine pop_sub .i64 i7_2 a1_1 ?_
              refine pop_geq .i64 (w64 (i7_2 - a1_1)) 2 ?_
              refine condM_b (fun hb_14 => ?_) (fun hb_14 => ?_)
              · have H := H.1 hb_14
                refine pop_sub .i64 i7_2 1 ?_
                obtain ⟨J_8, ⟨n_8, h0_3⟩, HB_4⟩ := H
                refine loop_intro (J := fun (n : Nat) (vs : List Value) (h' : Heap) => ∃ j9_2 : Int, vs = [(VI j9_2)] ∧ J_8 n j9_2 h' ∧ Vars h' []) n_8 ⟨(w64 (i7_2 - 1)), rfl, h0_3, hL_16⟩ ?_
                intro I_3 mu_3 hI_3 junk_6 tv_3 h_17 hi_27
                obtain ⟨n_7, ⟨j9_2, hv, hJ_6, hL_17⟩, hn_5⟩ := hI_3 _ _ hi_27
                cases hv
                have H := HB_4 n_7 j9_2 h_17 hJ_6 hL_17
                refine pop_geq .i64 j9_2 1 ?_
                refine condM_b (fun hb_15 => ?_) (fun hb_15 => ?_)
                · have H := H.1 hb_15
                  obtain ⟨hi_28, H⟩ := H
                  refine pop_index sli27 siz3 .i64 data0_1 j9_2 hi_28 ?_
                  obtain ⟨t71_2, hc_16, H⟩ := H
                  refine rop_one one3 (VI t71_2) hc_16 ?_
                  refine pop_sub .i64 j9_2 1 ?_
                  obtain ⟨hi_29, H⟩ := H
                  refine pop_index sli27 siz3 .i64 data0_1 (w64 (j9_2 - 1)) hi_29 ?_
                  obtain ⟨t76_2, hc_15, H⟩ := H
                  refine rop_one one3 (VI t76_2) hc_15 ?_
                  refine H.mono fun rv_4 h_18 H => ?_
                  obtain ⟨t77_2, rfl, hL_18, H⟩ := H
                  refine pop_not t77_2 ?_
                  refine condM_b (fun hb_16 => ?_) (fun hb_16 => ?_)
                  · have H := H.1 hb_16
                    exact ⟨rfl, H, hL_18⟩
                  · have H := H.2 hb_16
                    refine pop_sub .i64 j9_2 1 ?_
                    refine pop_sub .i64 j9_2 1 ?_
                    obtain ⟨hi_30, H⟩ := H
                    refine pop_index sli27 siz3 .i64 data0_1 (w64 (j9_2 - 1)) hi_30 ?_
                    obtain ⟨t88_2, hc_14, H⟩ := H
                    refine rop_one one3 (VI t88_2) hc_14 ?_
                    obtain ⟨hi_31, H⟩ := H
                    refine pop_index sli27 siz3 .i64 data0_1 j9_2 hi_31 ?_
                    obtain ⟨t92_2, hc_13, H⟩ := H
                    refine rop_one one3 (VI t92_2) hc_13 ?_
                    obtain ⟨hi_32, H⟩ := H
                    refine pop_index sli27 siz3 .i64 data0_1 j9_2 hi_32 ?_
                    obtain ⟨hw_9, hL_19, H⟩ := H
                    refine uop_cell (v := (VI t88_2)) siz3 hw_9 rfl (fun h_19 he_9 => ?_)
                    rw [← he_9] at hL_19
                    have H := H h_19 he_9 hL_19
                    obtain ⟨hi_33, H⟩ := H
                    refine pop_index sli27 siz3 .i64 data0_1 (w64 (j9_2 - 1)) hi_33 ?_
                    obtain ⟨hw_10, hL_20, H⟩ := H
                    refine uop_cell (v := (VI t92_2)) siz3 hw_10 rfl (fun h_20 he_10 => ?_)
                    rw [← he_10] at hL_20
                    have H := H h_20 he_10 hL_20
                    refine pop_sub .i64 j9_2 1 ?_
                    obtain ⟨m_4, hm_4, H⟩ := H
                    exact hn_5 _ _ ⟨m_4, hm_4, (w64 (j9_2 - 1)), rfl, H, hL_20⟩
                · have H := H.2 hb_15
                  exact ⟨rfl, H, hL_17⟩
              · have H := H.2 hb_14
                exact ⟨rfl, H, hL_16⟩
            intro junk_7  h_21
            rintro ⟨hv, hJ_7, hL_21⟩
            have H := HB_6  h_21 hJ_7 hL_21
            refine pop_sub .i64 b2_1 i7_2 ?_
            refine pop_geq .i64 (w64 (b2_1 - i7_2)) 2 ?_
            refine condM_b (fun hb_17 => ?_) (fun hb_17 => ?_)
            · have H := H.1 hb_17
              refine pop_add .i64 i7_2 1 ?_
              obtain ⟨J_9, ⟨n_10, h0_4⟩, HB_5⟩ := H
              refine loop_intro (J := fun (n : Nat) (vs : List Value) (h' : Heap) => ∃ j10_2 : Int, vs = [(VI j10_2)] ∧ J_9 n j10_2 h' ∧ Vars h' []) n_10 ⟨(w64 (i7_2 + 1)), rfl, h0_4, hL_21⟩ ?_
              intro I_4 mu_4 hI_4 junk_8 tv_4 h_22 hi_34
              obtain ⟨n_9, ⟨j10_2, hv, hJ_8, hL_22⟩, hn_6⟩ := hI_4 _ _ hi_34
              cases hv
              have H := HB_5 n_9 j10_2 h_22 hJ_8 hL_22
              refine pop_lss .i64 j10_2 b2_1 ?_
              refine condM_b (fun hb_18 => ?_) (fun hb_18 => ?_)
              · have H := H.1 hb_18
                obtain ⟨hi_35, H⟩ := H
                refine pop_index sli27 siz3 .i64 data0_1 j10_2 hi_35 ?_
                obtain ⟨t109_2, hc_20, H⟩ := H
                refine rop_one one3 (VI t109_2) hc_20 ?_
                refine pop_sub .i64 j10_2 1 ?_
                obtain ⟨hi_36, H⟩ := H
                refine pop_index sli27 siz3 .i64 data0_1 (w64 (j10_2 - 1)) hi_36 ?_
                obtain ⟨t114_2, hc_19, H⟩ := H
                refine rop_one one3 (VI t114_2) hc_19 ?_
                refine H.mono fun rv_5 h_23 H => ?_
                obtain ⟨t115_2, rfl, hL_23, H⟩ := H
                refine pop_not t115_2 ?_
                refine condM_b (fun hb_19 => ?_) (fun hb_19 => ?_)
                · have H := H.1 hb_19
                  exact ⟨i7_2, rfl, H, hL_23⟩
                · have H := H.2 hb_19
                  refine pop_sub .i64 j10_2 1 ?_
                  refine pop_sub .i64 j10_2 1 ?_
                  obtain ⟨hi_37, H⟩ := H
                  refine pop_index sli27 siz3 .i64 data0_1 (w64 (j10_2 - 1)) hi_37 ?_
                  obtain ⟨t126_2, hc_18, H⟩ := H
                  refine rop_one one3 (VI t126_2) hc_18 ?_
                  obtain ⟨hi_38, H⟩ := H
                  refine pop_index sli27 siz3 .i64 data0_1 j10_2 hi_38 ?_
                  obtain ⟨t130_2, hc_17, H⟩ := H
                  refine rop_one one3 (VI t130_2) hc_17 ?_
                  obtain ⟨hi_39, H⟩ := H
                  refine pop_index sli27 siz3 .i64 data0_1 j10_2 hi_39 ?_
                  obtain ⟨hw_11, hL_24, H⟩ := H
                  refine uop_cell (v := (VI t126_2)) siz3 hw_11 rfl (fun h_24 he_11 => ?_)
                  rw [← he_11] at hL_24
                  have H := H h_24 he_11 hL_24
                  obtain ⟨hi_40, H⟩ := H
                  refine pop_index sli27 siz3 .i64 data0_1 (w64 (j10_2 - 1)) hi_40 ?_
                  obtain ⟨hw_12, hL_25, H⟩ := H
                  refine uop_cell (v := (VI t130_2)) siz3 hw_12 rfl (fun h_25 he_12 => ?_)
                  rw [← he_12] at hL_25
                  have H := H h_25 he_12 hL_25
                  refine pop_add .i64 j10_2 1 ?_
                  obtain ⟨m_5, hm_5, H⟩ := H
                  exact hn_6 _ _ ⟨m_5, hm_5, (w64 (j10_2 + 1)), rfl, H, hL_25⟩
              · have H := H.2 hb_18
                exact ⟨i7_2, rfl, H, hL_22⟩
            · have H := H.2 hb_17
              exact ⟨i7_2, rfl, H, hL_21⟩
    intro junk_9 tv_6 h_26
    rintro ⟨x_1, hv, hJ_9, hL_26⟩
    cases hv
    have H := HB_8 x_1 h_26 hJ_9 hL_26
    refine pop_add .i64 j8_1 1 ?_
    obtain ⟨m_6, hm_6, H⟩ := H
    exact hn_1 _ _ ⟨m_6, hm_6, x_1, (w64 (j8_1 + 1)), rfl, H, hL_26⟩
  · have H := H.2 hb_1
    exact H

/-! cmp.Less[int] -/
def u150 (P : Program) (x0_1 : Int) (y1_1 : Int) (h : Heap) (K : Value → Heap → Prop) : Prop :=
  callM P 162 #[(VI x0_1)] h fun rv_1 h_1 => ∃ t6_1 : Bool, rv_1 = (VB t6_1) ∧ Vars h_1 [] ∧
  (t6_1 = true →
  callM P 162 #[(VI y1_1)] h_1 fun rv_2 h_2 => ∃ t9_1 : Bool, rv_2 = (VB t9_1) ∧ Vars h_2 [] ∧
  ((!t9_1) = true →
  K (VB true) h_2) ∧
  ((!t9_1) = false →
  K (VB (decide (x0_1 < y1_1))) h_2)) ∧
  (t6_1 = false →
  K (VB (decide (x0_1 < y1_1))) h_1)
theorem v150 (x0_1 : Int) (y1_1 : Int) (h : Heap) (K : Value → Heap → Prop) (H : u150 Try.prog x0_1 y1_1 h K) : callM Try.prog 150 #[(VI x0_1), (VI y1_1)] h K := by
  refine c150 (VI x0_1) (VI y1_1) h K ?_
  unfold u150 at H
  unfold t150
  have hL : Vars h [] := .nil
  refine H.mono fun rv_1 h_1 H => ?_
  obtain ⟨t6_1, rfl, hL_1, H⟩ := H
  refine guardM_st (fun hb_1 => ?_) (fun hb_1 => ?_)
  · have H := H.1 hb_1
    refine guardM_y' hb_1 ?_
    refine H.mono fun rv_2 h_2 H => ?_
    obtain ⟨t9_1, rfl, hL_2, H⟩ := H
    refine guardM_y' hb_1 ?_
    refine pop_not t9_1 ?_
    refine pop_pickt' hb_1 ?_
    refine guardM_sf (fun hb_2 => ?_) (fun hb_2 => ?_)
    · have H := H.2 hb_2
      refine guardM_y' hb_2 ?_
      refine guardM_y' hb_2 ?_
      refine pop_lss .i64 x0_1 y1_1 ?_
      refine pop_pickf' hb_2 ?_
      exact H
    · have H := H.1 hb_2
      refine guardM_n' hb_2 (by decide) ?_
      refine guardM_n' hb_2 (by decide) ?_
      refine pop_pickt' hb_2 ?_
      exact H
  · have H := H.2 hb_1
    refine guardM_n' hb_1 (by decide) ?_
    refine guardM_n' hb_1 (by decide) ?_
    refine pop_pickf' hb_1 ?_
    refine guardM_y ?_
    refine guardM_y ?_
    refine guardM_y ?_
    refine pop_lss .i64 x0_1 y1_1 ?_
    refine pop_pickf _ _ ?_
    exact H

/-! slices.partitionEqualOrdered[int] -/
def u151 (P : Program) (data0_1 : Sl) (a1_1 : Int) (b2_1 : Int) (pivot3_1 : Int) (h : Heap) (K : Value → Heap → Prop) : Prop :=
  InB data0_1 pivot3_1 ∧
  ∃ t18_1 : Int, hcell h (Sl.at data0_1 pivot3_1 1) = some (VI t18_1) ∧
  InB data0_1 a1_1 ∧
  ∃ t22_1 : Int, hcell h (Sl.at data0_1 a1_1 1) = some (VI t22_1) ∧
  InB data0_1 a1_1 ∧
  Writable h (Sl.at data0_1 a1_1 1) ∧ Vars (hset h (Sl.at data0_1 a1_1 1) (VI t18_1)) [] ∧
  ∀ h_1 : Heap, h_1 = hset h (Sl.at data0_1 a1_1 1) (VI t18_1) → Vars h_1 [] →
  InB data0_1 pivot3_1 ∧
  Writable h_1 (Sl.at data0_1 pivot3_1 1) ∧ Vars (hset h_1 (Sl.at data0_1 pivot3_1 1) (VI t22_1)) [] ∧
  ∀ h_2 : Heap, h_2 = hset h_1 (Sl.at data0_1 pivot3_1 1) (VI t22_1) → Vars h_2 [] →
  ∃ J_1 : Nat → Int → Int → Heap → Prop, (∃ n0 : Nat, J_1 n0 (w64 (a1_1 + 1)) (w64 (b2_1 - 1)) h_2) ∧
  ∀ (n_1 : Nat) (i9_1 : Int) (j10_1 : Int) (h_3 : Heap), J_1 n_1 i9_1 j10_1 h_3 → Vars h_3 [] →
  ∃ J_2 : Nat → Int → Heap → Prop, (∃ n0 : Nat, J_2 n0 i9_1 h_3) ∧
  ∀ (n_2 : Nat) (i9_2 : Int) (h_4 : Heap), J_2 n_2 i9_2 h_4 → Vars h_4 [] →
  ((decide (i9_2 ≤ j10_1)) = true →
  InB data0_1 a1_1 ∧
  ∃ t36_1 : Int, hcell h_4 (Sl.at data0_1 a1_1 1) = some (VI t36_1) ∧
  InB data0_1 i9_2 ∧
  ∃ t40_1 : Int, hcell h_4 (Sl.at data0_1 i9_2 1) = some (VI t40_1) ∧
  callM P 150 #[(VI t36_1), (VI t40_1)] h_4 fun rv_1 h_5 => ∃ t41_1 : Bool, rv_1 = (VB t41_1) ∧ Vars h_5 [] ∧
  ((!t41_1) = true →
  ∃ m : Nat, m < n_2 ∧ J_2 m (w64 (i9_2 + 1)) h_5) ∧
  ((!t41_1) = false →
  ∃ J_3 : Nat → Int → Heap → Prop, (∃ n0 : Nat, J_3 n0 j10_1 h_5) ∧
  ∀ (n_3 : Nat) (j10_2 : Int) (h_6 : Heap), J_3 n_3 j10_2 h_6 → Vars h_6 [] →
  ((decide (i9_2 ≤ j10_2)) = true →
  InB data0_1 a1_1 ∧
  ∃ t53_1 : Int, hcell h_6 (Sl.at data0_1 a1_1 1) = some (VI t53_1) ∧
  InB data0_1 j10_2 ∧
  ∃ t57_1 : Int, hcell h_6 (Sl.at data0_1 j10_2 1) = some (VI t57_1) ∧
  callM P 150 #[(VI t53_1), (VI t57_1)] h_6 fun rv_2 h_7 => ∃ t58_1 : Bool, rv_2 = (VB t58_1) ∧ Vars h_7 [] ∧
  (t58_1 = true →
  ∃ m : Nat, m < n_3 ∧ J_3 m (w64 (j10_2 - 1)) h_7) ∧
  (t58_1 = false →
  ((decide (j10_2 < i9_2)) = true →
  K (VI i9_2) h_7) ∧
  ((decide (j10_2 < i9_2)) = false →
  InB data0_1 j10_2 ∧
  ∃ t72_1 : Int, hcell h_7 (Sl.at data0_1 j10_2 1) = some (VI t72_1) ∧
  InB data0_1 i9_2 ∧
  ∃ t76_1 : Int, hcell h_7 (Sl.at data0_1 i9_2 1) = some (VI t76_1) ∧
  InB data0_1 i9_2 ∧
  Writable h_7 (Sl.at data0_1 i9_2 1) ∧ Vars (hset h_7 (Sl.at data0_1 i9_2 1) (VI t72_1)) [] ∧
  ∀ h_8 : Heap, h_8 = hset h_7 (Sl.at data0_1 i9_2 1) (VI t72_1) → Vars h_8 [] →
  InB data0_1 j10_2 ∧
  Writable h_8 (Sl.at data0_1 j10_2 1) ∧ Vars (hset h_8 (Sl.at data0_1 j10_2 1) (VI t76_1)) [] ∧
  ∀ h_9 : Heap, h_9 = hset h_8 (Sl.at data0_1 j10_2 1) (VI t76_1) → Vars h_9 [] →
  ∃ m : Nat, m < n_1 ∧ J_1 m (w64 (i9_2 + 1)) (w64 (j10_2 - 1)) h_9))) ∧
  ((decide (i9_2 ≤ j10_2)) = false →
  ((decide (j10_2 < i9_2)) = true →
  K (VI i9_2) h_6) ∧
  ((decide (j10_2 < i9_2)) = false →
  InB data0_1 j10_2 ∧
  ∃ t72_2 : Int, hcell h_6 (Sl.at data0_1 j10_2 1) = some (VI t72_2) ∧
  InB data0_1 i9_2 ∧
  ∃ t76_2 : Int, hcell h_6 (Sl.at data0_1 i9_2 1) = some (VI t76_2) ∧
  InB data0_1 i9_2 ∧
  Writable h_6 (Sl.at data0_1 i9_2 1) ∧ Vars (hset h_6 (Sl.at data0_1 i9_2 1) (VI t72_2)) [] ∧
  ∀ h_10 : Heap, h_10 = hset h_6 (Sl.at data0_1 i9_2 1) (VI t72_2) → Vars h_10 [] →
  InB data0_1 j10_2 ∧
  Writable h_10 (Sl.at data0_1 j10_2 1) ∧ Vars (hset h_10 (Sl.at data0_1 j10_2 1) (VI t76_2)) [] ∧
  ∀ h_11 : Heap, h_11 = hset h_10 (Sl.at data0_1 j10_2 1) (VI t76_2) → Vars h_11 [] →
  ∃ m : Nat, m < n_1 ∧ J_1 m (w64 (i9_2 + 1)) (w64 (j10_2 - 1)) h_11)))) ∧
  ((decide (i9_2 ≤ j10_1)) = false →
  ∃ J_4 : Nat → Int → Heap → Prop, (∃ n0 : Nat, J_4 n0 j10_1 h_4) ∧
  ∀ (n_5 : Nat) (j10_3 : Int) (h_12 : Heap), J_4 n_5 j10_3 h_12 → Vars h_12 [] →
  ((decide (i9_2 ≤ j10_3)) = true →
  InB data0_1 a1_1 ∧
  ∃ t53_2 : Int, hcell h_12 (Sl.at data0_1 a1_1 1) = some (VI t53_2) ∧
  InB data0_1 j10_3 ∧
  ∃ t57_2 : Int, hcell h_12 (Sl.at data0_1 j10_3 1) = some (VI t57_2) ∧
  callM P 150 #[(VI t53_2), (VI t57_2)] h_12 fun rv_3 h_13 => ∃ t58_2 : Bool, rv_3 = (VB t58_2) ∧ Vars h_13 [] ∧
  (t58_2 = true →
  ∃ m : Nat, m < n_5 ∧ J_4 m (w64 (j10_3 - 1)) h_13) ∧
  (t58_2 = false →
  ((decide (j10_3 < i9_2)) = true →
  K (VI i9_2) h_13) ∧
  ((decide (j10_3 < i9_2)) = false →
  InB data0_1 j10_3 ∧
  ∃ t72_3 : Int, hcell h_13 (Sl.at data0_1 j10_3 1) = some (VI t72_3) ∧
  InB data0_1 i9_2 ∧
  ∃ t76_3 : Int, hcell h_13 (Sl.at data0_1 i9_2 1) = some (VI t76_3) ∧
  InB data0_1 i9_2 ∧
  Writable h_13 (Sl.at data0_1 i9_2 1) ∧ Vars (hset h_13 (Sl.at data0_1 i9_2 1) (VI t72_3)) [] ∧
  ∀ h_14 : Heap, h_14 = hset h_13 (Sl.at data0_1 i9_2 1) (VI t72_3) → Vars h_14 [] →
  InB data0_1 j10_3 ∧
  Writable h_14 (Sl.at data0_1 j10_3 1) ∧ Vars (hset h_14 (Sl.at data0_1 j10_3 1) (VI t76_3)) [] ∧
  ∀ h_15 : Heap, h_15 = hset h_14 (Sl.at data0_1 j10_3 1) (VI t76_3) → Vars h_15 [] →
  ∃ m : Nat, m < n_1 ∧ J_1 m (w64 (i9_2 + 1)) (w64 (j10_3 - 1)) h_15))) ∧
  ((decide (i9_2 ≤ j10_3)) = false →
  ((decide (j10_3 < i9_2)) = true →
  K (VI i9_2) h_12) ∧
  ((decide (j10_3 < i9_2)) = false →
  InB data0_1 j10_3 ∧
  ∃ t72_4 : Int, hcell h_12 (Sl.at data0_1 j10_3 1) = some (VI t72_4) ∧
  InB data0_1 i9_2 ∧
  ∃ t76_4 : Int, hcell h_12 (Sl.at data0_1 i9_2 1) = some (VI t76_4) ∧
  InB data0_1 i9_2 ∧
  Writable h_12 (Sl.at data0_1 i9_2 1) ∧ Vars (hset h_12 (Sl.at data0_1 i9_2 1) (VI t72_4)) [] ∧
  ∀ h_16 : Heap, h_16 = hset h_12 (Sl.at data0_1 i9_2 1) (VI t72_4) → Vars h_16 [] →
  InB data0_1 j10_3 ∧
  Writable h_16 (Sl.at data0_1 j10_3 1) ∧ Vars (hset h_16 (Sl.at data0_1 j10_3 1) (VI t76_4)) [] ∧
  ∀ h_17 : Heap, h_17 = hset h_16 (Sl.at data0_1 j10_3 1) (VI t76_4) → Vars h_17 [] →
  ∃ m : Nat, m < n_1 ∧ J_1 m (w64 (i9_2 + 1)) (w64 (j10_3 - 1)) h_17)))
theorem v151 (data0_1 : Sl) (a1_1 : Int) (b2_1 : Int) (pivot3_1 : Int) (h : Heap) (K : Value → Heap → Prop) (H : u151 Try.prog data0_1 a1_1 b2_1 pivot3_1 h K) : callM Try.prog 151 #[(Sl.v data0_1), (VI a1_1), (VI b2_1), (VI pivot3_1)] h K := by
  refine c151 (Sl.v data0_1) (VI a1_1) (VI b2_1) (VI pivot3_1) h K ?_
  unfold u151 at H
  unfold t151
  have hL : Vars h [] := .nil
  obtain ⟨hi_1, H⟩ := H
  refine pop_index sli27 siz3 .i64 data0_1 pivot3_1 hi_1 ?_
  obtain ⟨t18_1, hc_16, H⟩ := H
  refine rop_one one3 (VI t18_1) hc_16 ?_
  obtain ⟨hi_2, H⟩ := H
  refine pop_index sli27 siz3 .i64 data0_1 a1_1 hi_2 ?_
  obtain ⟨t22_1, hc_15, H⟩ := H
  refine rop_one one3 (VI t22_1) hc_15 ?_
  obtain ⟨hi_3, H⟩ := H
  refine pop_index sli27 siz3 .i64 data0_1 a1_1 hi_3 ?_
  obtain ⟨hw_1, hL_1, H⟩ := H
  refine uop_cell (v := (VI t18_1)) siz3 hw_1 rfl (fun h_1 he_1 => ?_)
  rw [← he_1] at hL_1
  have H := H h_1 he_1 hL_1
  obtain ⟨hi_4, H⟩ := H
  refine pop_index sli27 siz3 .i64 data0_1 pivot3_1 hi_4 ?_
  obtain ⟨hw_2, hL_2, H⟩ := H
  refine uop_cell (v := (VI t22_1)) siz3 hw_2 rfl (fun h_2 he_2 => ?_)
  rw [← he_2] at hL_2
  have H := H h_2 he_2 hL_2
  refine pop_add .i64 a1_1 1 ?_
  refine pop_sub .i64 b2_1 1 ?_
  obtain ⟨J_1, ⟨n_8, h0_4⟩, HB_4⟩ := H
  refine loop_intro (J := fun (n : Nat) (vs : List Value) (h' : Heap) => ∃ i9_1 : Int, ∃ j10_1 : Int, vs = [(VI i9_1), (VI j10_1)] ∧ J_1 n i9_1 j10_1 h' ∧ Vars h' []) n_8 ⟨(w64 (a1_1 + 1)), (w64 (b2_1 - 1)), rfl, h0_4, hL_2⟩ ?_
  intro I_4 mu_4 hI_4 junk_1 tv_4 tv_5 h_3 hi_5
  obtain ⟨n_1, ⟨i9_1, j10_1, hv, hJ_1, hL_3⟩, hn_1⟩ := hI_4 _ _ hi_5
  cases hv
  have H := HB_4 n_1 i9_1 j10_1 h_3 hJ_1 hL_3
  obtain ⟨J_2, ⟨n_7, h0_3⟩, HB_3⟩ := H
  refine loop_intro (J := fun (n : Nat) (vs : List Value) (h' : Heap) => ∃ i9_2 : Int, vs = [(VI i9_2)] ∧ J_2 n i9_2 h' ∧ Vars h' []) n_7 ⟨i9_1, rfl, h0_3, hL_3⟩ ?_
  intro I_3 mu_3 hI_3 junk_2 tv_3 h_4 hi_6
  obtain ⟨n_2, ⟨i9_2, hv, hJ_2, hL_4⟩, hn_2⟩ := hI_3 _ _ hi_6
  cases hv
  have H := HB_3 n_2 i9_2 h_4 hJ_2 hL_4
  refine pop_leq .i64 i9_2 j10_1 ?_
  refine guardM_st (fun hb_1 => ?_) (fun hb_1 => ?_)
  · have H := H.1 hb_1
    refine guardM_y' hb_1 ?_
    refine guardM_y' hb_1 ?_
    obtain ⟨hi_7, H⟩ := H
    refine pop_index sli27 siz3 .i64 data0_1 a1_1 hi_7 ?_
    refine guardM_y' hb_1 ?_
    obtain ⟨t36_1, hc_8, H⟩ := H
    refine rop_one one3 (VI t36_1) hc_8 ?_
    refine guardM_y' hb_1 ?_
    refine guardM_y' hb_1 ?_
    refine guardM_y' hb_1 ?_
    obtain ⟨hi_8, H⟩ := H
    refine pop_index sli27 siz3 .i64 data0_1 i9_2 hi_8 ?_
    refine guardM_y' hb_1 ?_
    obtain ⟨t40_1, hc_7, H⟩ := H
    refine rop_one one3 (VI t40_1) hc_7 ?_
    refine guardM_y' hb_1 ?_
    refine H.mono fun rv_1 h_5 H => ?_
    obtain ⟨t41_1, rfl, hL_5, H⟩ := H
    refine guardM_y' hb_1 ?_
    refine pop_not t41_1 ?_
    refine pop_pickt' hb_1 ?_
    refine condM_b (fun hb_2 => ?_) (fun hb_2 => ?_)
    · have H := H.1 hb_2
      refine pop_add .i64 i9_2 1 ?_
      obtain ⟨m_1, hm_1, H⟩ := H
      exact hn_2 _ _ ⟨m_1, hm_1, (w64 (i9_2 + 1)), rfl, H, hL_5⟩
    · have H := H.2 hb_2
      obtain ⟨J_3, ⟨n_4, h0_1⟩, HB_1⟩ := H
      refine loop_intro (J := fun (n : Nat) (vs : List Value) (h' : Heap) => ∃ j10_2 : Int, vs = [(VI j10_2)] ∧ J_3 n j10_2 h' ∧ Vars h' []) n_4 ⟨j10_1, rfl, h0_1, hL_5⟩ ?_
      intro I_1 mu_1 hI_1 junk_3 tv_1 h_6 hi_9
      obtain ⟨n_3, ⟨j10_2, hv, hJ_3, hL_6⟩, hn_3⟩ := hI_1 _ _ hi_9
      cases hv
      have H := HB_1 n_3 j10_2 h_6 hJ_3 hL_6
      refine pop_leq .i64 i9_2 j10_2 ?_
      refine guardM_st (fun hb_3 => ?_) (fun hb_3 => ?_)
      · have H := H.1 hb_3
        refine guardM_y' hb_3 ?_
        refine guardM_y' hb_3 ?_
        obtain ⟨hi_10, H⟩ := H
        refine pop_index sli27 siz3 .i64 data0_1 a1_1 hi_10 ?_
        refine guardM_y' hb_3 ?_
        obtain ⟨t53_1, hc_4, H⟩ := H
        refine rop_one one3 (VI t53_1) hc_4 ?_
        refine guardM_y' hb_3 ?_
        refine guardM_y' hb_3 ?_
        refine guardM_y' hb_3 ?_
        obtain ⟨hi_11, H⟩ := H
        refine pop_index sli27 siz3 .i64 data0_1 j10_2 hi_11 ?_
        refine guardM_y' hb_3 ?_
        obtain ⟨t57_1, hc_3, H⟩ := H
        refine rop_one one3 (VI t57_1) hc_3 ?_
        refine guardM_y' hb_3 ?_
        refine H.mono fun rv_2 h_7 H => ?_
        obtain ⟨t58_1, rfl, hL_7, H⟩ := H
        refine pop_pickt' hb_3 ?_
        refine condM_b (fun hb_4 => ?_) (fun hb_4 => ?_)
        · have H := H.1 hb_4
          refine pop_sub .i64 j10_2 1 ?_
          obtain ⟨m_2, hm_2, H⟩ := H
          exact hn_3 _ _ ⟨m_2, hm_2, (w64 (j10_2 - 1)), rfl, H, hL_7⟩
        · have H := H.2 hb_4
          refine pop_gtr .i64 i9_2 j10_2 ?_
          refine condM_b (fun hb_5 => ?_) (fun hb_5 => ?_)
          · have H := H.1 hb_5
            exact H
          · have H := H.2 hb_5
            obtain ⟨hi_12, H⟩ := H
            refine pop_index sli27 siz3 .i64 data0_1 j10_2 hi_12 ?_
            obtain ⟨t72_1, hc_2, H⟩ := H
            refine rop_one one3 (VI t72_1) hc_2 ?_
            obtain ⟨hi_13, H⟩ := H
            refine pop_index sli27 siz3 .i64 data0_1 i9_2 hi_13 ?_
            obtain ⟨t76_1, hc_1, H⟩ := H
            refine rop_one one3 (VI t76_1) hc_1 ?_
            obtain ⟨hi_14, H⟩ := H
            refine pop_index sli27 siz3 .i64 data0_1 i9_2 hi_14 ?_
            obtain ⟨hw_3, hL_8, H⟩ := H
            refine uop_cell (v := (VI t72_1)) siz3 hw_3 rfl (fun h_8 he_3 => ?_)
            rw [← he_3] at hL_8
            have H := H h_8 he_3 hL_8
            obtain ⟨hi_15, H⟩ := H
            refine pop_index sli27 siz3 .i64 data0_1 j10_2 hi_15 ?_
            obtain ⟨hw_4, hL_9, H⟩ := H
            refine uop_cell (v := (VI t76_1)) siz3 hw_4 rfl (fun h_9 he_4 => ?_)
            rw [← he_4] at hL_9
            have H := H h_9 he_4 hL_9
            refine pop_add .i64 i9_2 1 ?_
            refine pop_sub .i64 j10_2 1 ?_
            obtain ⟨m_3, hm_3, H⟩ := H
            exact hn_1 _ _ ⟨m_3, hm_3, (w64 (i9_2 + 1)), (w64 (j10_2 - 1)), rfl, H, hL_9⟩
      · have H := H.2 hb_3
        refine guardM_n' hb_3 (by decide) ?_
        refine guardM_n' hb_3 (by decide) ?_
        refine guardM_n' hb_3 (by decide) ?_
        refine guardM_n' hb_3 (by decide) ?_
        refine guardM_n' hb_3 (by decide) ?_
        refine guardM_n' hb_3 (by decide) ?_
        refine guardM_n' hb_3 (by decide) ?_
        refine guardM_n' hb_3 (by decide) ?_
        refine pop_pickf' hb_3 ?_
        refine condM_f ?_
        refine pop_gtr .i64 i9_2 j10_2 ?_
        refine condM_b (fun hb_6 => ?_) (fun hb_6 => ?_)
        · have H := H.1 hb_6
          exact H
        · have H := H.2 hb_6
          obtain ⟨hi_16, H⟩ := H
          refine pop_index sli27 siz3 .i64 data0_1 j10_2 hi_16 ?_
          obtain ⟨t72_2, hc_6, H⟩ := H
          refine rop_one one3 (VI t72_2) hc_6 ?_
          obtain ⟨hi_17, H⟩ := H
          refine pop_index sli27 siz3 .i64 data0_1 i9_2 hi_17 ?_
          obtain ⟨t76_2, hc_5, H⟩ := H
          refine rop_one one3 (VI t76_2) hc_5 ?_
          obtain ⟨hi_18, H⟩ := H
          refine pop_index sli27 siz3 .i64 data0_1 i9_2 hi_18 ?_
          obtain ⟨hw_5, hL_10, H⟩ := H
          refine uop_cell (v := (VI t72_2)) siz3 hw_5 rfl (fun h_10 he_5 => ?_)
          rw [← he_5] at hL_10
          have H := H h_10 he_5 hL_10
          obtain ⟨hi_19, H⟩ := H
          refine pop_index sli27 siz3 .i64 data0_1 j10_2 hi_19 ?_
          obtain ⟨hw_6, hL_11, H⟩ := H
          refine uop_cell (v := (VI t76_2)) siz3 hw_6 rfl (fun h_11 he_6 => ?_)
          rw [← he_6] at hL_11
          have H := H h_11 he_6 hL_11
          refine pop_add .i64 i9_2 1 ?_
          refine pop_sub .i64 j10_2 1 ?_
          obtain ⟨m_4, hm_4, H⟩ := H
          exact hn_1 _ _ ⟨m_4, hm_4, (w64 (i9_2 + 1)), (w64 (j10_2 - 1)), rfl, H, hL_11⟩
  · have H := H.2 hb_1
    refine guardM_n' hb_1 (by decide) ?_
    refine guardM_n' hb_1 (by decide) ?_
    refine guardM_n' hb_1 (by decide) ?_
    refine guardM_n' hb_1 (by decide) ?_
    refine guardM_n' hb_1 (by decide) ?_
    refine guardM_n' hb_1 (by decide) ?_
    refine guardM_n' hb_1 (by decide) ?_
    refine guardM_n' hb_1 (by decide) ?_
    refine guardM_n' hb_1 (by decide) ?_
    refine pop_pickf' hb_1 ?_
    refine condM_f ?_
    obtain ⟨J_4, ⟨n_6, h0_2⟩, HB_2⟩ := H
    refine loop_intro (J := fun (n : Nat) (vs : List Value) (h' : Heap) => ∃ j10_3 : Int, vs = [(VI j10_3)] ∧ J_4 n j10_3 h' ∧ Vars h' []) n_6 ⟨j10_1, rfl, h0_2, hL_4⟩ ?_
    intro I_2 mu_2 hI_2 junk_4 tv_2 h_12 hi_20
    obtain ⟨n_5, ⟨j10_3, hv, hJ_4, hL_12⟩, hn_4⟩ := hI_2 _ _ hi_20
    cases hv
    have H := HB_2 n_5 j10_3 h_12 hJ_4 hL_12
    refine pop_leq .i64 i9_2 j10_3 ?_
    refine guardM_st (fun hb_7 => ?_) (fun hb_7 => ?_)
    · have H := H.1 hb_7
      refine guardM_y' hb_7 ?_
      refine guardM_y' hb_7 ?_
      obtain ⟨hi_21, H⟩ := H
      refine pop_index sli27 siz3 .i64 data0_1 a1_1 hi_21 ?_
      refine guardM_y' hb_7 ?_
      obtain ⟨t53_2, hc_12, H⟩ := H
      refine rop_one one3 (VI t53_2) hc_12 ?_
      refine guardM_y' hb_7 ?_
      refine guardM_y' hb_7 ?_
      refine guardM_y' hb_7 ?_
      obtain ⟨hi_22, H⟩ := H
      refine pop_index sli27 siz3 .i64 data0_1 j10_3 hi_22 ?_
      refine guardM_y' hb_7 ?_
      obtain ⟨t57_2, hc_11, H⟩ := H
      refine rop_one one3 (VI t57_2) hc_11 ?_
      refine guardM_y' hb_7 ?_
      refine H.mono fun rv_3 h_13 H => ?_
      obtain ⟨t58_2, rfl, hL_13, H⟩ := H
      refine pop_pickt' hb_7 ?_
      refine condM_b (fun hb_8 => ?_) (fun hb_8 => ?_)
      · have H := H.1 hb_8
        refine pop_sub .i64 j10_3 1 ?_
        obtain ⟨m_5, hm_5, H⟩ := H
        exact hn_4 _ _ ⟨m_5, hm_5, (w64 (j10_3 - 1)), rfl, H, hL_13⟩
      · have H := H.2 hb_8
        refine pop_gtr .i64 i9_2 j10_3 ?_
        refine condM_b (fun hb_9 => ?_) (fun hb_9 => ?_)
        · have H := H.1 hb_9
          exact H
        · have H := H.2 hb_9
          obtain ⟨hi_23, H⟩ := H
          refine pop_index sli27 siz3 .i64 data0_1 j10_3 hi_23 ?_
          obtain ⟨t72_3, hc_10, H⟩ := H
          refine rop_one one3 (VI t72_3) hc_10 ?_
          obtain ⟨hi_24, H⟩ := H
          refine pop_index sli27 siz3 .i64 data0_1 i9_2 hi_24 ?_
          obtain ⟨t76_3, hc_9, H⟩ := H
          refine rop_one one3 (VI t76_3) hc_9 ?_
          obtain ⟨hi_25, H⟩ := H
          refine pop_index sli27 siz3 .i64 data0_1 i9_2 hi_25 ?_
          obtain ⟨hw_7, hL_14, H⟩ := H
          refine uop_cell (v := (VI t72_3)) siz3 hw_7 rfl (fun h_14 he_7 => ?_)
          rw [← he_7] at hL_14
          have H := H h_14 he_7 hL_14
          obtain ⟨hi_26, H⟩ := H
          refine pop_index sli27 siz3 .i64 data0_1 j10_3 hi_26 ?_
          obtain ⟨hw_8, hL_15, H⟩ := H
          refine uop_cell (v := (VI t76_3)) siz3 hw_8 rfl (fun h_15 he_8 => ?_)
          rw [← he_8] at hL_15
          have H := H h_15 he_8 hL_15
          refine pop_add .i64 i9_2 1 ?_
          refine pop_sub .i64 j10_3 1 ?_
          obtain ⟨m_6, hm_6, H⟩ := H
          exact hn_1 _ _ ⟨m_6, hm_6, (w64 (i9_2 + 1)), (w64 (j10_3 - 1)), rfl, H, hL_15⟩
    · have H := H.2 hb_7
      refine guardM_n' hb_7 (by decide) ?_
      refine guardM_n' hb_7 (by decide) ?_
      refine guardM_n' hb_7 (by decide) ?_
      refine guardM_n' hb_7 (by decide) ?_
      refine guardM_n' hb_7 (by decide) ?_
      refine guardM_n' hb_7 (by decide) ?_
      refine guardM_n' hb_7 (by decide) ?_
      refine guardM_n' hb_7 (by decide) ?_
      refine pop_pickf' hb_7 ?_
      refine condM_f ?_
      refine pop_gtr .i64 i9_2 j10_3 ?_
      refine condM_b (fun hb_10 => ?_) (fun hb_10 => ?_)
      · have H := H.1 hb_10
        exact H
      · have H := H.2 hb_10
        obtain ⟨hi_27, H⟩ := H
        refine pop_index sli27 siz3 .i64 data0_1 j10_3 hi_27 ?_
        obtain ⟨t72_4, hc_14, H⟩ := H
        refine rop_one one3 (VI t72_4) hc_14 ?_
        obtain ⟨hi_28, H⟩ := H
        refine pop_index sli27 siz3 .i64 data0_1 i9_2 hi_28 ?_
        obtain ⟨t76_4, hc_13, H⟩ := H
        refine rop_one one3 (VI t76_4) hc_13 ?_
        obtain ⟨hi_29, H⟩ := H
        refine pop_index sli27 siz3 .i64 data0_1 i9_2 hi_29 ?_
        obtain ⟨hw_9, hL_16, H⟩ := H
        refine uop_cell (v := (VI t72_4)) siz3 hw_9 rfl (fun h_16 he_9 => ?_)
        rw [← he_9] at hL_16
        have H := H h_16 he_9 hL_16
        obtain ⟨hi_30, H⟩ := H
        refine pop_index sli27 siz3 .i64 data0_1 j10_3 hi_30 ?_
        obtain ⟨hw_10, hL_17, H⟩ := H
        refine uop_cell (v := (VI t76_4)) siz3 hw_10 rfl (fun h_17 he_10 => ?_)
        rw [← he_10] at hL_17
        have H := H h_17 he_10 hL_17
        refine pop_add .i64 i9_2 1 ?_
        refine pop_sub .i64 j10_3 1 ?_
        obtain ⟨m_7, hm_7, H⟩ := H
        exact hn_1 _ _ ⟨m_7, hm_7, (w64 (i9_2 + 1)), (w64 (j10_3 - 1)), rfl, H, hL_17⟩

/-! slices.partitionOrdered[int] -/
def u152 (P : Program) (data0_1 : Sl) (a1_1 : Int) (b2_1 : Int) (pivot3_1 : Int) (h : Heap) (K : Value → Heap → Prop) : Prop :=
  InB data0_1 pivot3_1 ∧
  ∃ t19_1 : Int, hcell h (Sl.at data0_1 pivot3_1 1) = some (VI t19_1) ∧
  InB data0_1 a1_1 ∧
  ∃ t23_1 : Int, hcell h (Sl.at data0_1 a1_1 1) = some (VI t23_1) ∧
  InB data0_1 a1_1 ∧
  Writable h (Sl.at data0_1 a1_1 1) ∧ Vars (hset h (Sl.at data0_1 a1_1 1) (VI t19_1)) [] ∧
  ∀ h_1 : Heap, h_1 = hset h (Sl.at data0_1 a1_1 1) (VI t19_1) → Vars h_1 [] →
  InB data0_1 pivot3_1 ∧
  Writable h_1 (Sl.at data0_1 pivot3_1 1) ∧ Vars (hset h_1 (Sl.at data0_1 pivot3_1 1) (VI t23_1)) [] ∧
  ∀ h_2 : Heap, h_2 = hset h_1 (Sl.at data0_1 pivot3_1 1) (VI t23_1) → Vars h_2 [] →
  ∃ J_1 : Nat → Int → Heap → Prop, (∃ n0 : Nat, J_1 n0 (w64 (a1_1 + 1)) h_2) ∧
  ∀ (n_1 : Nat) (i10_1 : Int) (h_3 : Heap), J_1 n_1 i10_1 h_3 → Vars h_3 [] →
  ((decide (i10_1 ≤ (w64 (b2_1 - 1)))) = true →
  InB data0_1 i10_1 ∧
  ∃ t37_1 : Int, hcell h_3 (Sl.at data0_1 i10_1 1) = some (VI t37_1) ∧
  InB data0_1 a1_1 ∧
  ∃ t41_1 : Int, hcell h_3 (Sl.at data0_1 a1_1 1) = some (VI t41_1) ∧
  callM P 150 #[(VI t37_1), (VI t41_1)] h_3 fun rv_1 h_4 => ∃ t42_1 : Bool, rv_1 = (VB t42_1) ∧ Vars h_4 [] ∧
  (t42_1 = true →
  ∃ m : Nat, m < n_1 ∧ J_1 m (w64 (i10_1 + 1)) h_4) ∧
  (t42_1 = false →
  ∃ J_2 : Nat → Int → Heap → Prop, (∃ n0 : Nat, J_2 n0 (w64 (b2_1 - 1)) h_4) ∧
  ∀ (n_2 : Nat) (j11_1 : Int) (h_5 : Heap), J_2 n_2 j11_1 h_5 → Vars h_5 [] →
  ((decide (i10_1 ≤ j11_1)) = true →
  InB data0_1 j11_1 ∧
  ∃ t53_1 : Int, hcell h_5 (Sl.at data0_1 j11_1 1) = some (VI t53_1) ∧
  InB data0_1 a1_1 ∧
  ∃ t57_1 : Int, hcell h_5 (Sl.at data0_1 a1_1 1) = some (VI t57_1) ∧
  callM P 150 #[(VI t53_1), (VI t57_1)] h_5 fun rv_2 h_6 => ∃ t58_1 : Bool, rv_2 = (VB t58_1) ∧ Vars h_6 [] ∧
  ((!t58_1) = true →
  ∃ m : Nat, m < n_2 ∧ J_2 m (w64 (j11_1 - 1)) h_6) ∧
  ((!t58_1) = false →
  ((decide (j11_1 < i10_1)) = true →
  InB data0_1 a1_1 ∧
  ∃ t73_1 : Int, hcell h_6 (Sl.at data0_1 a1_1 1) = some (VI t73_1) ∧
  InB data0_1 j11_1 ∧
  ∃ t77_1 : Int, hcell h_6 (Sl.at data0_1 j11_1 1) = some (VI t77_1) ∧
  InB data0_1 j11_1 ∧
  Writable h_6 (Sl.at data0_1 j11_1 1) ∧ Vars (hset h_6 (Sl.at data0_1 j11_1 1) (VI t73_1)) [] ∧
  ∀ h_7 : Heap, h_7 = hset h_6 (Sl.at data0_1 j11_1 1) (VI t73_1) → Vars h_7 [] →
  InB data0_1 a1_1 ∧
  Writable h_7 (Sl.at data0_1 a1_1 1) ∧ Vars (hset h_7 (Sl.at data0_1 a1_1 1) (VI t77_1)) [] ∧
  ∀ h_8 : Heap, h_8 = hset h_7 (Sl.at data0_1 a1_1 1) (VI t77_1) → Vars h_8 [] →
  K (Value.tuple #[(VI j11_1), (VB true)]) h_8) ∧
  ((decide (j11_1 < i10_1)) = false →
  InB data0_1 j11_1 ∧
  ∃ t88_1 : Int, hcell h_6 (Sl.at data0_1 j11_1 1) = some (VI t88_1) ∧
  InB data0_1 i10_1 ∧
  ∃ t92_1 : Int, hcell h_6 (Sl.at data0_1 i10_1 1) = some (VI t92_1) ∧
  InB data0_1 i10_1 ∧
  Writable h_6 (Sl.at data0_1 i10_1 1) ∧ Vars (hset h_6 (Sl.at data0_1 i10_1 1) (VI t88_1)) [] ∧
  ∀ h_9 : Heap, h_9 = hset h_6 (Sl.at data0_1 i10_1 1) (VI t88_1) → Vars h_9 [] →
  InB data0_1 j11_1 ∧
  Writable h_9 (Sl.at data0_1 j11_1 1) ∧ Vars (hset h_9 (Sl.at data0_1 j11_1 1) (VI t92_1)) [] ∧
  ∀ h_10 : Heap, h_10 = hset h_9 (Sl.at data0_1 j11_1 1) (VI t92_1) → Vars h_10 [] →
  ∃ J_3 : Nat → Int → Int → Heap → Prop, (∃ n0 : Nat, J_3 n0 (w64 (i10_1 + 1)) (w64 (j11_1 - 1)) h_10) ∧
  ∀ (n_3 : Nat) (i10_2 : Int) (j11_2 : Int) (h_11 : Heap), J_3 n_3 i10_2 j11_2 h_11 → Vars h_11 [] →
  ∃ J_4 : Nat → Int → Heap → Prop, (∃ n0 : Nat, J_4 n0 i10_2 h_11) ∧
  ∀ (n_4 : Nat) (i10_3 : Int) (h_12 : Heap), J_4 n_4 i10_3 h_12 → Vars h_12 [] →
  ((decide (i10_3 ≤ j11_2)) = true →
  InB data0_1 i10_3 ∧
  ∃ t106_1 : Int, hcell h_12 (Sl.at data0_1 i10_3 1) = some (VI t106_1) ∧
  InB data0_1 a1_1 ∧
  ∃ t110_1 : Int, hcell h_12 (Sl.at data0_1 a1_1 1) = some (VI t110_1) ∧
  callM P 150 #[(VI t106_1), (VI t110_1)] h_12 fun rv_3 h_13 => ∃ t111_1 : Bool, rv_3 = (VB t111_1) ∧ Vars h_13 [] ∧
  (t111_1 = true →
  ∃ m : Nat, m < n_4 ∧ J_4 m (w64 (i10_3 + 1)) h_13) ∧
  (t111_1 = false →
  ∃ J_5 : Nat → Int → Heap → Prop, (∃ n0 : Nat, J_5 n0 j11_2 h_13) ∧
  ∀ (n_5 : Nat) (j11_3 : Int) (h_14 : Heap), J_5 n_5 j11_3 h_14 → Vars h_14 [] →
  ((decide (i10_3 ≤ j11_3)) = true →
  InB data0_1 j11_3 ∧
  ∃ t122_1 : Int, hcell h_14 (Sl.at data0_1 j11_3 1) = some (VI t122_1) ∧
  InB data0_1 a1_1 ∧
  ∃ t126_1 : Int, hcell h_14 (Sl.at data0_1 a1_1 1) = some (VI t126_1) ∧
  callM P 150 #[(VI t122_1), (VI t126_1)] h_14 fun rv_4 h_15 => ∃ t127_1 : Bool, rv_4 = (VB t127_1) ∧ Vars h_15 [] ∧
  ((!t127_1) = true →
  ∃ m : Nat, m < n_5 ∧ J_5 m (w64 (j11_3 - 1)) h_15) ∧
  ((!t127_1) = false →
  ((decide (j11_3 < i10_3)) = true →
  InB data0_1 a1_1 ∧
  ∃ t160_1 : Int, hcell h_15 (Sl.at data0_1 a1_1 1) = some (VI t160_1) ∧
  InB data0_1 j11_3 ∧
  ∃ t164_1 : Int, hcell h_15 (Sl.at data0_1 j11_3 1) = some (VI t164_1) ∧
  InB data0_1 j11_3 ∧
  Writable h_15 (Sl.at data0_1 j11_3 1) ∧ Vars (hset h_15 (Sl.at data0_1 j11_3 1) (VI t160_1)) [] ∧
  ∀ h_16 : Heap, h_16 = hset h_15 (Sl.at data0_1 j11_3 1) (VI t160_1) → Vars h_16 [] →
  InB data0_1 a1_1 ∧
  Writable h_16 (Sl.at data0_1 a1_1 1) ∧ Vars (hset h_16 (Sl.at data0_1 a1_1 1) (VI t164_1)) [] ∧
  ∀ h_17 : Heap, h_17 = hset h_16 (Sl.at data0_1 a1_1 1) (VI t164_1) → Vars h_17 [] →
  K (Value.tuple #[(VI j11_3), (VB false)]) h_17) ∧
  ((decide (j11_3 < i10_3)) = false →
  InB data0_1 j11_3 ∧
  ∃ t142_1 : Int, hcell h_15 (Sl.at data0_1 j11_3 1) = some (VI t142_1) ∧
  InB data0_1 i10_3 ∧
  ∃ t146_1 : Int, hcell h_15 (Sl.at data0_1 i10_3 1) = some (VI t146_1) ∧
  InB data0_1 i10_3 ∧
  Writable h_15 (Sl.at data0_1 i10_3 1) ∧ Vars (hset h_15 (Sl.at data0_1 i10_3 1) (VI t142_1)) [] ∧
  ∀ h_18 : Heap, h_18 = hset h_15 (Sl.at data0_1 i10_3 1) (VI t142_1) → Vars h_18 [] →
  InB data0_1 j11_3 ∧
  Writable h_18 (Sl.at data0_1 j11_3 1) ∧ Vars (hset h_18 (Sl.at data0_1 j11_3 1) (VI t146_1)) [] ∧
  ∀ h_19 : Heap, h_19 = hset h_18 (Sl.at data0_1 j11_3 1) (VI t146_1) → Vars h_19 [] →
  ∃ m : Nat, m < n_3 ∧ J_3 m (w64 (i10_3 + 1)) (w64 (j11_3 - 1)) h_19))) ∧
  ((decide (i10_3 ≤ j11_3)) = false →
  ((decide (j11_3 < i10_3)) = true →
  InB data0_1 a1_1 ∧
  ∃ t160_2 : Int, hcell h_14 (Sl.at data0_1 a1_1 1) = some (VI t160_2) ∧
  InB data0_1 j11_3 ∧
  ∃ t164_2 : Int, hcell h_14 (Sl.at data0_1 j11_3 1) = some (VI t164_2) ∧
  InB data0_1 j11_3 ∧
  Writable h_14 (Sl.at data0_1 j11_3 1) ∧ Vars (hset h_14 (Sl.at data0_1 j11_3 1) (VI t160_2)) [] ∧
  ∀ h_20 : Heap, h_20 = hset h_14 (Sl.at data0_1 j11_3 1) (VI t160_2) → Vars h_20 [] →
  InB data0_1 a1_1 ∧
  Writable h_20 (Sl.at data0_1 a1_1 1) ∧ Vars (hset h_20 (Sl.at data0_1 a1_1 1) (VI t164_2)) [] ∧
  ∀ h_21 : Heap, h_21 = hset h_20 (Sl.at data0_1 a1_1 1) (VI t164_2) → Vars h_21 [] →
  K (Value.tuple #[(VI j11_3), (VB false)]) h_21) ∧
  ((decide (j11_3 < i10_3)) = false →
  InB data0_1 j11_3 ∧
  ∃ t142_2 : Int, hcell h_14 (Sl.at data0_1 j11_3 1) = some (VI t142_2) ∧
  InB data0_1 i10_3 ∧
  ∃ t146_2 : Int, hcell h_14 (Sl.at data0_1 i10_3 1) = some (VI t146_2) ∧
  InB data0_1 i10_3 ∧
  Writable h_14 (Sl.at data0_1 i10_3 1) ∧ Vars (hset h_14 (Sl.at data0_1 i10_3 1) (VI t142_2)) [] ∧
  ∀ h_22 : Heap, h_22 = hset h_14 (Sl.at data0_1 i10_3 1) (VI t142_2) → Vars h_22 [] →
  InB data0_1 j11_3 ∧
  Writable h_22 (Sl.at data0_1 j11_3 1) ∧ Vars (hset h_22 (Sl.at data0_1 j11_3 1) (VI t146_2)) [] ∧
  ∀ h_23 : Heap, h_23 = hset h_22 (Sl.at data0_1 j11_3 1) (VI t146_2) → Vars h_23 [] →
  ∃ m : Nat, m < n_3 ∧ J_3 m (w64 (i10_3 + 1)) (w64 (j11_3 - 1)) h_23)))) ∧
  ((decide (i10_3 ≤ j11_2)) = false →
  ∃ J_6 : Nat → Int → Heap → Prop, (∃ n0 : Nat, J_6 n0 j11_2 h_12) ∧
  ∀ (n_7 : Nat) (j11_4 : Int) (h_24 : Heap), J_6 n_7 j11_4 h_24 → Vars h_24 [] →
  ((decide (i10_3 ≤ j11_4)) = true →
  InB data0_1 j11_4 ∧
  ∃ t122_2 : Int, hcell h_24 (Sl.at data0_1 j11_4 1) = some (VI t122_2) ∧
  InB data0_1 a1_1 ∧
  ∃ t126_2 : Int, hcell h_24 (Sl.at data0_1 a1_1 1) = some (VI t126_2) ∧
  callM P 150 #[(VI t122_2), (VI t126_2)] h_24 fun rv_5 h_25 => ∃ t127_2 : Bool, rv_5 = (VB t127_2) ∧ Vars h_25 [] ∧
  ((!t127_2) = true →
  ∃ m : Nat, m < n_7 ∧ J_6 m (w64 (j11_4 - 1)) h_25) ∧
  ((!t127_2) = false →
  ((decide (j11_4 < i10_3)) = true →
  InB data0_1 a1_1 ∧
  ∃ t160_3 : Int, hcell h_25 (Sl.at data0_1 a1_1 1) = some (VI t160_3) ∧
  InB data0_1 j11_4 ∧
  ∃ t164_3 : Int, hcell h_25 (Sl.at data0_1 j11_4 1) = some (VI t164_3) ∧
  InB data0_1 j11_4 ∧
  Writable h_25 (Sl.at data0_1 j11_4 1) ∧ Vars (hset h_25 (Sl.at data0_1 j11_4 1) (VI t160_3)) [] ∧
  ∀ h_26 : Heap, h_26 = hset h_25 (Sl.at data0_1 j11_4 1) (VI t160_3) → Vars h_26 [] →
  InB data0_1 a1_1 ∧
  Writable h_26 (Sl.at data0_1 a1_1 1) ∧ Vars (hset h_26 (Sl.at data0_1 a1_1 1) (VI t164_3)) [] ∧
  ∀ h_27 : Heap, h_27 = hset h_26 (Sl.at data0_1 a1_1 1) (VI t164_3) → Vars h_27 [] →
  K (Value.tuple #[(VI j11_4), (VB false)]) h_27) ∧
  ((decide (j11_4 < i10_3)) = false →
  InB data0_1 j11_4 ∧
  ∃ t142_3 : Int, hcell h_25 (Sl.at data0_1 j11_4 1) = some (VI t142_3) ∧
  InB data0_1 i10_3 ∧
  ∃ t146_3 : Int, hcell h_25 (Sl.at data0_1 i10_3 1) = some (VI t146_3) ∧
  InB data0_1 i10_3 ∧
  Writable h_25 (Sl.at data0_1 i10_3 1) ∧ Vars (hset h_25 (Sl.at data0_1 i10_3 1) (VI t142_3)) [] ∧
  ∀ h_28 : Heap, h_28 = hset h_25 (Sl.at data0_1 i10_3 1) (VI t142_3) → Vars h_28 [] →
  InB data0_1 j11_4 ∧
  Writable h_28 (Sl.at data0_1 j11_4 1) ∧ Vars (hset h_28 (Sl.at data0_1 j11_4 1) (VI t146_3)) [] ∧
  ∀ h_29 : Heap, h_29 = hset h_28 (Sl.at data0_1 j11_4 1) (VI t146_3) → Vars h_29 [] →
  ∃ m : Nat, m < n_3 ∧ J_3 m (w64 (i10_3 + 1)) (w64 (j11_4 - 1)) h_29))) ∧
  ((decide (i10_3 ≤ j11_4)) = false →
  ((decide (j11_4 < i10_3)) = true →
  InB data0_1 a1_1 ∧
  ∃ t160_4 : Int, hcell h_24 (Sl.at data0_1 a1_1 1) = some (VI t160_4) ∧
  InB data0_1 j11_4 ∧
  ∃ t164_4 : Int, hcell h_24 (Sl.at data0_1 j11_4 1) = some (VI t164_4) ∧
  InB data0_1 j11_4 ∧
  Writable h_24 (Sl.at data0_1 j11_4 1) ∧ Vars (hset h_24 (Sl.at data0_1 j11_4 1) (VI t160_4)) [] ∧
  ∀ h_30 : Heap, h_30 = hset h_24 (Sl.at data0_1 j11_4 1) (VI t160_4) → Vars h_30 [] →
  InB data0_1 a1_1 ∧
  Writable h_30 (Sl.at data0_1 a1_1 1) ∧ Vars (hset h_30 (Sl.at data0_1 a1_1 1) (VI t164_4)) [] ∧
  ∀ h_31 : Heap, h_31 = hset h_30 (Sl.at data0_1 a1_1 1) (VI t164_4) → Vars h_31 [] →
  K (Value.tuple #[(VI j11_4), (VB false)]) h_31) ∧
  ((decide (j11_4 < i10_3)) = false →
  InB data0_1 j11_4 ∧
  ∃ t142_4 : Int, hcell h_24 (Sl.at data0_1 j11_4 1) = some (VI t142_4) ∧
  InB data0_1 i10_3 ∧
  ∃ t146_4 : Int, hcell h_24 (Sl.at data0_1 i10_3 1) = some (VI t146_4) ∧
  InB data0_1 i10_3 ∧
  Writable h_24 (Sl.at data0_1 i10_3 1) ∧ Vars (hset h_24 (Sl.at data0_1 i10_3 1) (VI t142_4)) [] ∧
  ∀ h_32 : Heap, h_32 = hset h_24 (Sl.at data0_1 i10_3 1) (VI t142_4) → Vars h_32 [] →
  InB data0_1 j11_4 ∧
  Writable h_32 (Sl.at data0_1 j11_4 1) ∧ Vars (hset h_32 (Sl.at data0_1 j11_4 1) (VI t146_4)) [] ∧
  ∀ h_33 : Heap, h_33 = hset h_32 (Sl.at data0_1 j11_4 1) (VI t146_4) → Vars h_33 [] →
  ∃ m : Nat, m < n_3 ∧ J_3 m (w64 (i10_3 + 1)) (w64 (j11_4 - 1)) h_33)))))) ∧
  ((decide (i10_1 ≤ j11_1)) = false →
  ((decide (j11_1 < i10_1)) = true →
  InB data0_1 a1_1 ∧
  ∃ t73_2 : Int, hcell h_5 (Sl.at data0_1 a1_1 1) = some (VI t73_2) ∧
  InB data0_1 j11_1 ∧
  ∃ t77_2 : Int, hcell h_5 (Sl.at data0_1 j11_1 1) = some (VI t77_2) ∧
  InB data0_1 j11_1 ∧
  Writable h_5 (Sl.at data0_1 j11_1 1) ∧ Vars (hset h_5 (Sl.at data0_1 j11_1 1) (VI t73_2)) [] ∧
  ∀ h_34 : Heap, h_34 = hset h_5 (Sl.at data0_1 j11_1 1) (VI t73_2) → Vars h_34 [] →
  InB data0_1 a1_1 ∧
  Writable h_34 (Sl.at data0_1 a1_1 1) ∧ Vars (hset h_34 (Sl.at data0_1 a1_1 1) (VI t77_2)) [] ∧
  ∀ h_35 : Heap, h_35 = hset h_34 (Sl.at data0_1 a1_1 1) (VI t77_2) → Vars h_35 [] →
  K (Value.tuple #[(VI j11_1), (VB true)]) h_35) ∧
  ((decide (j11_1 < i10_1)) = false →
  InB data0_1 j11_1 ∧
  ∃ t88_2 : Int, hcell h_5 (Sl.at data0_1 j11_1 1) = some (VI t88_2) ∧
  InB data0_1 i10_1 ∧
  ∃ t92_2 : Int, hcell h_5 (Sl.at data0_1 i10_1 1) = some (VI t92_2) ∧
  InB data0_1 i10_1 ∧
  Writable h_5 (Sl.at data0_1 i10_1 1) ∧ Vars (hset h_5 (Sl.at data0_1 i10_1 1) (VI t88_2)) [] ∧
  ∀ h_36 : Heap, h_36 = hset h_5 (Sl.at data0_1 i10_1 1) (VI t88_2) → Vars h_36 [] →
  InB data0_1 j11_1 ∧
  Writable h_36 (Sl.at data0_1 j11_1 1) ∧ Vars (hset h_36 (Sl.at data0_1 j11_1 1) (VI t92_2)) [] ∧
  ∀ h_37 : Heap, h_37 = hset h_36 (Sl.at data0_1 j11_1 1) (VI t92_2) → Vars h_37 [] →
  ∃ J_7 : Nat → Int → Int → Heap → Prop, (∃ n0 : Nat, J_7 n0 (w64 (i10_1 + 1)) (w64 (j11_1 - 1)) h_37) ∧
  ∀ (n_11 : Nat) (i10_4 : Int) (j11_5 : Int) (h_38 : Heap), J_7 n_11 i10_4 j11_5 h_38 → Vars h_38 [] →
  ∃ J_8 : Nat → Int → Heap → Prop, (∃ n0 : Nat, J_8 n0 i10_4 h_38) ∧
  ∀ (n_12 : Nat) (i10_5 : Int) (h_39 : Heap), J_8 n_12 i10_5 h_39 → Vars h_39 [] →
  ((decide (i10_5 ≤ j11_5)) = true →
  InB data0_1 i10_5 ∧
  ∃ t106_2 : Int, hcell h_39 (Sl.at data0_1 i10_5 1) = some (VI t106_2) ∧
  InB data0_1 a1_1 ∧
  ∃ t110_2 : Int, hcell h_39 (Sl.at data0_1 a1_1 1) = some (VI t110_2) ∧
  callM P 150 #[(VI t106_2), (VI t110_2)] h_39 fun rv_6 h_40 => ∃ t111_2 : Bool, rv_6 = (VB t111_2) ∧ Vars h_40 [] ∧
  (t111_2 = true →
  ∃ m : Nat, m < n_12 ∧ J_8 m (w64 (i10_5 + 1)) h_40) ∧
  (t111_2 = false →
  ∃ J_9 : Nat → Int → Heap → Prop, (∃ n0 : Nat, J_9 n0 j11_5 h_40) ∧
  ∀ (n_13 : Nat) (j11_6 : Int) (h_41 : Heap), J_9 n_13 j11_6 h_41 → Vars h_41 [] →
  ((decide (i10_5 ≤ j11_6)) = true →
  InB data0_1 j11_6 ∧
  ∃ t122_3 : Int, hcell h_41 (Sl.at data0_1 j11_6 1) = some (VI t122_3) ∧
  InB data0_1 a1_1 ∧
  ∃ t126_3 : Int, hcell h_41 (Sl.at data0_1 a1_1 1) = some (VI t126_3) ∧
  callM P 150 #[(VI t122_3), (VI t126_3)] h_41 fun rv_7 h_42 => ∃ t127_3 : Bool, rv_7 = (VB t127_3) ∧ Vars h_42 [] ∧
  ((!t127_3) = true →
  ∃ m : Nat, m < n_13 ∧ J_9 m (w64 (j11_6 - 1)) h_42) ∧
  ((!t127_3) = false →
  ((decide (j11_6 < i10_5)) = true →
  InB data0_1 a1_1 ∧
  ∃ t160_5 : Int, hcell h_42 (Sl.at data0_1 a1_1 1) = some (VI t160_5) ∧
  InB data0_1 j11_6 ∧
  ∃ t164_5 : Int, hcell h_42 (Sl.at data0_1 j11_6 1) = some (VI t164_5) ∧
  InB data0_1 j11_6 ∧
  Writable h_42 (Sl.at data0_1 j11_6 1) ∧ Vars (hset h_42 (Sl.at data0_1 j11_6 1) (VI t160_5)) [] ∧
  ∀ h_43 : Heap, h_43 = hset h_42 (Sl.at data0_1 j11_6 1) (VI t160_5) → Vars h_43 [] →
  InB data0_1 a1_1 ∧
  Writable h_43 (Sl.at data0_1 a1_1 1) ∧ Vars (hset h_43 (Sl.at data0_1 a1_1 1) (VI t164_5)) [] ∧
  ∀ h_44 : Heap, h_44 = hset h_43 (Sl.at data0_1 a1_1 1) (VI t164_5) → Vars h_44 [] →
  K (Value.tuple #[(VI j11_6), (VB false)]) h_44) ∧
  ((decide (j11_6 < i10_5)) = false →
  InB data0_1 j11_6 ∧
  ∃ t142_5 : Int, hcell h_42 (Sl.at data0_1 j11_6 1) = some (VI t142_5) ∧
  InB data0_1 i10_5 ∧
  ∃ t146_5 : Int, hcell h_42 (Sl.at data0_1 i10_5 1) = some (VI t146_5) ∧
  InB data0_1 i10_5 ∧
  Writable h_42 (Sl.at data0_1 i10_5 1) ∧ Vars (hset h_42 (Sl.at data0_1 i10_5 1) (VI t142_5)) [] ∧
  ∀ h_45 : Heap, h_45 = hset h_42 (Sl.at data0_1 i10_5 1) (VI t142_5) → Vars h_45 [] →
  InB data0_1 j11_6 ∧
  Writable h_45 (Sl.at data0_1 j11_6 1) ∧ Vars (hset h_45 (Sl.at data0_1 j11_6 1) (VI t146_5)) [] ∧
  ∀ h_46 : Heap, h_46 = hset h_45 (Sl.at data0_1 j11_6 1) (VI t146_5) → Vars h_46 [] →
  ∃ m : Nat, m < n_11 ∧ J_7 m (w64 (i10_5 + 1)) (w64 (j11_6 - 1)) h_46))) ∧
  ((decide (i10_5 ≤ j11_6)) = false →
  ((decide (j11_6 < i10_5)) = true →
  InB data0_1 a1_1 ∧
  ∃ t160_6 : Int, hcell h_41 (Sl.at data0_1 a1_1 1) = some (VI t160_6) ∧
  InB data0_1 j11_6 ∧
  ∃ t164_6 : Int, hcell h_41 (Sl.at data0_1 j11_6 1) = some (VI t164_6) ∧
  InB data0_1 j11_6 ∧
  Writable h_41 (Sl.at data0_1 j11_6 1) ∧ Vars (hset h_41 (Sl.at data0_1 j11_6 1) (VI t160_6)) [] ∧
  ∀ h_47 : Heap, h_47 = hset h_41 (Sl.at data0_1 j11_6 1) (VI t160_6) → Vars h_47 [] →
  InB data0_1 a1_1 ∧
  Writable h_47 (Sl.at data0_1 a1_1 1) ∧ Vars (hset h_47 (Sl.at data0_1 a1_1 1) (VI t164_6)) [] ∧
  ∀ h_48 : Heap, h_48 = hset h_47 (Sl.at data0_1 a1_1 1) (VI t164_6) → Vars h_48 [] →
  K (Value.tuple #[(VI j11_6), (VB false)]) h_48) ∧
  ((decide (j11_6 < i10_5)) = false →
  InB data0_1 j11_6 ∧
  ∃ t142_6 : Int, hcell h_41 (Sl.at data0_1 j11_6 1) = some (VI t142_6) ∧
  InB data0_1 i10_5 ∧
  ∃ t146_6 : Int, hcell h_41 (Sl.at data0_1 i10_5 1) = some (VI t146_6) ∧
  InB data0_1 i10_5 ∧
  Writable h_41 (Sl.at data0_1 i10_5 1) ∧ Vars (hset h_41 (Sl.at data0_1 i10_5 1) (VI t142_6)) [] ∧
  ∀ h_49 : Heap, h_49 = hset h_41 (Sl.at data0_1 i10_5 1) (VI t142_6) → Vars h_49 [] →
  InB data0_1 j11_6 ∧
  Writable h_49 (Sl.at data0_1 j11_6 1) ∧ Vars (hset h_49 (Sl.at data0_1 j11_6 1) (VI t146_6)) [] ∧
  ∀ h_50 : Heap, h_50 = hset h_49 (Sl.at data0_1 j11_6 1) (VI t146_6) → Vars h_50 [] →
  ∃ m : Nat, m < n_11 ∧ J_7 m (w64 (i10_5 + 1)) (w64 (j11_6 - 1)) h_50)))) ∧
  ((decide (i10_5 ≤ j11_5)) = false →
  ∃ J_10 : Nat → Int → Heap → Prop, (∃ n0 : Nat, J_10 n0 j11_5 h_39) ∧
  ∀ (n_15 : Nat) (j11_7 : Int) (h_51 : Heap), J_10 n_15 j11_7 h_51 → Vars h_51 [] →
  ((decide (i10_5 ≤ j11_7)) = true →
  InB data0_1 j11_7 ∧
  ∃ t122_4 : Int, hcell h_51 (Sl.at data0_1 j11_7 1) = some (VI t122_4) ∧
  InB data0_1 a1_1 ∧
  ∃ t126_4 : Int, hcell h_51 (Sl.at data0_1 a1_1 1) = some (VI t126_4) ∧
  callM P 150 #[(VI t122_4), (VI t126_4)] h_51 fun rv_8 h_52 => ∃ t127_4 : Bool, rv_8 = (VB t127_4) ∧ Vars h_52 [] ∧
  ((!t127_4) = true →
  ∃ m : Nat, m < n_15 ∧ J_10 m (w64 (j11_7 - 1)) h_52) ∧
  ((!t127_4) = false →
  ((decide (j11_7 < i10_5)) = true →
  InB data0_1 a1_1 ∧
  ∃ t160_7 : Int, hcell h_52 (Sl.at data0_1 a1_1 1) = some (VI t160_7) ∧
  InB data0_1 j11_7 ∧
  ∃ t164_7 : Int, hcell h_52 (Sl.at data0_1 j11_7 1) = some (VI t164_7) ∧
  InB data0_1 j11_7 ∧
  Writable h_52 (Sl.at data0_1 j11_7 1) ∧ Vars (hset h_52 (Sl.at data0_1 j11_7 1) (VI t160_7)) [] ∧
  ∀ h_53 : Heap, h_53 = hset h_52 (Sl.at data0_1 j11_7 1) (VI t160_7) → Vars h_53 [] →
  InB data0_1 a1_1 ∧
  Writable h_53 (Sl.at data0_1 a1_1 1) ∧ Vars (hset h_53 (Sl.at data0_1 a1_1 1) (VI t164_7)) [] ∧
  ∀ h_54 : Heap, h_54 = hset h_53 (Sl.at data0_1 a1_1 1) (VI t164_7) → Vars h_54 [] →
  K (Value.tuple #[(VI j11_7), (VB false)]) h_54) ∧
  ((decide (j11_7 < i10_5)) = false →
  InB data0_1 j11_7 ∧
  ∃ t142_7 : Int, hcell h_52 (Sl.at data0_1 j11_7 1) = some (VI t142_7) ∧
  InB data0_1 i10_5 ∧
  ∃ t146_7 : Int, hcell h_52 (Sl.at data0_1 i10_5 1) = some (VI t146_7) ∧
  InB data0_1 i10_5 ∧
  Writable h_52 (Sl.at data0_1 i10_5 1) ∧ Vars (hset h_52 (Sl.at data0_1 i10_5 1) (VI t142_7)) [] ∧
  ∀ h_55 : Heap, h_55 = hset h_52 (Sl.at data0_1 i10_5 1) (VI t142_7) → Vars h_55 [] →
  InB data0_1 j11_7 ∧
  Writable h_55 (Sl.at data0_1 j11_7 1) ∧ Vars (hset h_55 (Sl.at data0_1 j11_7 1) (VI t146_7)) [] ∧
  ∀ h_56 : Heap, h_56 = hset h_55 (Sl.at data0_1 j11_7 1) (VI t146_7) → Vars h_56 [] →
  ∃ m : Nat, m < n_11 ∧ J_7 m (w64 (i10_5 + 1)) (w64 (j11_7 - 1)) h_56))) ∧
  ((decide (i10_5 ≤ j11_7)) = false →
  ((decide (j11_7 < i10_5)) = true →
  InB data0_1 a1_1 ∧
  ∃ t160_8 : Int, hcell h_51 (Sl.at data0_1 a1_1 1) = some (VI t160_8) ∧
  InB data0_1 j11_7 ∧
  ∃ t164_8 : Int, hcell h_51 (Sl.at data0_1 j11_7 1) = some (VI t164_8) ∧
  InB data0_1 j11_7 ∧
  Writable h_51 (Sl.at data0_1 j11_7 1) ∧ Vars (hset h_51 (Sl.at data0_1 j11_7 1) (VI t160_8)) [] ∧
  ∀ h_57 : Heap, h_57 = hset h_51 (Sl.at data0_1 j11_7 1) (VI t160_8) → Vars h_57 [] →
  InB data0_1 a1_1 ∧
  Writable h_57 (Sl.at data0_1 a1_1 1) ∧ Vars (hset h_57 (Sl.at data0_1 a1_1 1) (VI t164_8)) [] ∧
  ∀ h_58 : Heap, h_58 = hset h_57 (Sl.at data0_1 a1_1 1) (VI t164_8) → Vars h_58 [] →
  K (Value.tuple #[(VI j11_7), (VB false)]) h_58) ∧
  ((decide (j11_7 < i10_5)) = false →
  InB data0_1 j11_7 ∧
  ∃ t142_8 : Int, hcell h_51 (Sl.at data0_1 j11_7 1) = some (VI t142_8) ∧
  InB data0_1 i10_5 ∧
  ∃ t146_8 : Int, hcell h_51 (Sl.at data0_1 i10_5 1) = some (VI t146_8) ∧
  InB data0_1 i10_5 ∧
  Writable h_51 (Sl.at data0_1 i10_5 1) ∧ Vars (hset h_51 (Sl.at data0_1 i10_5 1) (VI t142_8)) [] ∧
  ∀ h_59 : Heap, h_59 = hset h_51 (Sl.at data0_1 i10_5 1) (VI t142_8) → Vars h_59 [] →
  InB data0_1 j11_7 ∧
  Writable h_59 (Sl.at data0_1 j11_7 1) ∧ Vars (hset h_59 (Sl.at data0_1 j11_7 1) (VI t146_8)) [] ∧
  ∀ h_60 : Heap, h_60 = hset h_59 (Sl.at data0_1 j11_7 1) (VI t146_8) → Vars h_60 [] →
  ∃ m : Nat, m < n_11 ∧ J_7 m (w64 (i10_5 + 1)) (w64 (j11_7 - 1)) h_60))))))) ∧
  ((decide (i10_1 ≤ (w64 (b2_1 - 1)))) = false →
  ∃ J_11 : Nat → Int → Heap → Prop, (∃ n0 : Nat, J_11 n0 (w64 (b2_1 - 1)) h_3) ∧
  ∀ (n_20 : Nat) (j11_8 : Int) (h_61 : Heap), J_11 n_20 j11_8 h_61 → Vars h_61 [] →
  ((decide (i10_1 ≤ j11_8)) = true →
  InB data0_1 j11_8 ∧
  ∃ t53_2 : Int, hcell h_61 (Sl.at data0_1 j11_8 1) = some (VI t53_2) ∧
  InB data0_1 a1_1 ∧
  ∃ t57_2 : Int, hcell h_61 (Sl.at data0_1 a1_1 1) = some (VI t57_2) ∧
  callM P 150 #[(VI t53_2), (VI t57_2)] h_61 fun rv_9 h_62 => ∃ t58_2 : Bool, rv_9 = (VB t58_2) ∧ Vars h_62 [] ∧
  ((!t58_2) = true →
  ∃ m : Nat, m < n_20 ∧ J_11 m (w64 (j11_8 - 1)) h_62) ∧
  ((!t58_2) = false →
  ((decide (j11_8 < i10_1)) = true →
  InB data0_1 a1_1 ∧
  ∃ t73_3 : Int, hcell h_62 (Sl.at data0_1 a1_1 1) = some (VI t73_3) ∧
  InB data0_1 j11_8 ∧
  ∃ t77_3 : Int, hcell h_62 (Sl.at data0_1 j11_8 1) = some (VI t77_3) ∧
  InB data0_1 j11_8 ∧
  Writable h_62 (Sl.at data0_1 j11_8 1) ∧ Vars (hset h_62 (Sl.at data0_1 j11_8 1) (VI t73_3)) [] ∧
  ∀ h_63 : Heap, h_63 = hset h_62 (Sl.at data0_1 j11_8 1) (VI t73_3) → Vars h_63 [] →
  InB data0_1 a1_1 ∧
  Writable h_63 (Sl.at data0_1 a1_1 1) ∧ Vars (hset h_63 (Sl.at data0_1 a1_1 1) (VI t77_3)) [] ∧
  ∀ h_64 : Heap, h_64 = hset h_63 (Sl.at data0_1 a1_1 1) (VI t77_3) → Vars h_64 [] →
  K (Value.tuple #[(VI j11_8), (VB true)]) h_64) ∧
  ((decide (j11_8 < i10_1)) = false →
  InB data0_1 j11_8 ∧
  ∃ t88_3 : Int, hcell h_62 (Sl.at data0_1 j11_8 1) = some (VI t88_3) ∧
  InB data0_1 i10_1 ∧
  ∃ t92_3 : Int, hcell h_62 (Sl.at data0_1 i10_1 1) = some (VI t92_3) ∧
  InB data0_1 i10_1 ∧
  Writable h_62 (Sl.at data0_1 i10_1 1) ∧ Vars (hset h_62 (Sl.at data0_1 i10_1 1) (VI t88_3)) [] ∧
  ∀ h_65 : Heap, h_65 = hset h_62 (Sl.at data0_1 i10_1 1) (VI t88_3) → Vars h_65 [] →
  InB data0_1 j11_8 ∧
  Writable h_65 (Sl.at data0_1 j11_8 1) ∧ Vars (hset h_65 (Sl.at data0_1 j11_8 1) (VI t92_3)) [] ∧
  ∀ h_66 : Heap, h_66 = hset h_65 (Sl.at data0_1 j11_8 1) (VI t92_3) → Vars h_66 [] →
  ∃ J_12 : Nat → Int → Int → Heap → Prop, (∃ n0 : Nat, J_12 n0 (w64 (i10_1 + 1)) (w64 (j11_8 - 1)) h_66) ∧
  ∀ (n_21 : Nat) (i10_6 : Int) (j11_9 : Int) (h_67 : Heap), J_12 n_21 i10_6 j11_9 h_67 → Vars h_67 [] →
  ∃ J_13 : Nat → Int → Heap → Prop, (∃ n0 : Nat, J_13 n0 i10_6 h_67) ∧
  ∀ (n_22 : Nat) (i10_7 : Int) (h_68 : Heap), J_13 n_22 i10_7 h_68 → Vars h_68 [] →
  ((decide (i10_7 ≤ j11_9)) = true →
  InB data0_1 i10_7 ∧
  ∃ t106_3 : Int, hcell h_68 (Sl.at data0_1 i10_7 1) = some (VI t106_3) ∧
  InB data0_1 a1_1 ∧
  ∃ t110_3 : Int, hcell h_68 (Sl.at data0_1 a1_1 1) = some (VI t110_3) ∧
  callM P 150 #[(VI t106_3), (VI t110_3)] h_68 fun rv_10 h_69 => ∃ t111_3 : Bool, rv_10 = (VB t111_3) ∧ Vars h_69 [] ∧
  (t111_3 = true →
  ∃ m : Nat, m < n_22 ∧ J_13 m (w64 (i10_7 + 1)) h_69) ∧
  (t111_3 = false →
  ∃ J_14 : Nat → Int → Heap → Prop, (∃ n0 : Nat, J_14 n0 j11_9 h_69) ∧
  ∀ (n_23 : Nat) (j11_10 : Int) (h_70 : Heap), J_14 n_23 j11_10 h_70 → Vars h_70 [] →
  ((decide (i10_7 ≤ j11_10)) = true →
  InB data0_1 j11_10 ∧
  ∃ t122_5 : Int, hcell h_70 (Sl.at data0_1 j11_10 1) = some (VI t122_5) ∧
  InB data0_1 a1_1 ∧
  ∃ t126_5 : Int, hcell h_70 (Sl.at data0_1 a1_1 1) = some (VI t126_5) ∧
  callM P 150 #[(VI t122_5), (VI t126_5)] h_70 fun rv_11 h_71 => ∃ t127_5 : Bool, rv_11 = (VB t127_5) ∧ Vars h_71 [] ∧
  ((!t127_5) = true →
  ∃ m : Nat, m < n_23 ∧ J_14 m (w64 (j11_10 - 1)) h_71) ∧
  ((!t127_5) = false →
  ((decide (j11_10 < i10_7)) = true →
  InB data0_1 a1_1 ∧
  ∃ t160_9 : Int, hcell h_71 (Sl.at data0_1 a1_1 1) = some (VI t160_9) ∧
  InB data0_1 j11_10 ∧
  ∃ t164_9 : Int, hcell h_71 (Sl.at data0_1 j11_10 1) = some (VI t164_9) ∧
  InB data0_1 j11_10 ∧
  Writable h_71 (Sl.at data0_1 j11_10 1) ∧ Vars (hset h_71 (Sl.at data0_1 j11_10 1) (VI t160_9)) [] ∧
  ∀ h_72 : Heap, h_72 = hset h_71 (Sl.at data0_1 j11_10 1) (VI t160_9) → Vars h_72 [] →
  InB data0_1 a1_1 ∧
  Writable h_72 (Sl.at data0_1 a1_1 1) ∧ Vars (hset h_72 (Sl.at data0_1 a1_1 1) (VI t164_9)) [] ∧
  ∀ h_73 : Heap, h_73 = hset h_72 (Sl.at data0_1 a1_1 1) (VI t164_9) → Vars h_73 [] →
  K (Value.tuple #[(VI j11_10), (VB false)]) h_73) ∧
  ((decide (j11_10 < i10_7)) = false →
  InB data0_1 j11_10 ∧
  ∃ t142_9 : Int, hcell h_71 (Sl.at data0_1 j11_10 1) = some (VI t142_9) ∧
  InB data0_1 i10_7 ∧
  ∃ t146_9 : Int, hcell h_71 (Sl.at data0_1 i10_7 1) = some (VI t146_9) ∧
  InB data0_1 i10_7 ∧
  Writable h_71 (Sl.at data0_1 i10_7 1) ∧ Vars (hset h_71 (Sl.at data0_1 i10_7 1) (VI t142_9)) [] ∧
  ∀ h_74 : Heap, h_74 = hset h_71 (Sl.at data0_1 i10_7 1) (VI t142_9) → Vars h_74 [] →
  InB data0_1 j11_10 ∧
  Writable h_74 (Sl.at data0_1 j11_10 1) ∧ Vars (hset h_74 (Sl.at data0_1 j11_10 1) (VI t146_9)) [] ∧
  ∀ h_75 : Heap, h_75 = hset h_74 (Sl.at data0_1 j11_10 1) (VI t146_9) → Vars h_75 [] →
  ∃ m : Nat, m < n_21 ∧ J_12 m (w64 (i10_7 + 1)) (w64 (j11_10 - 1)) h_75))) ∧
  ((decide (i10_7 ≤ j11_10)) = false →
  ((decide (j11_10 < i10_7)) = true →
  InB data0_1 a1_1 ∧
  ∃ t160_10 : Int, hcell h_70 (Sl.at data0_1 a1_1 1) = some (VI t160_10) ∧
  InB data0_1 j11_10 ∧
  ∃ t164_10 : Int, hcell h_70 (Sl.at data0_1 j11_10 1) = some (VI t164_10) ∧
  InB data0_1 j11_10 ∧
  Writable h_70 (Sl.at data0_1 j11_10 1) ∧ Vars (hset h_70 (Sl.at data0_1 j11_10 1) (VI t160_10)) [] ∧
  ∀ h_76 : Heap, h_76 = hset h_70 (Sl.at data0_1 j11_10 1) (VI t160_10) → Vars h_76 [] →
  InB data0_1 a1_1 ∧
  Writable h_76 (Sl.at data0_1 a1_1 1) ∧ Vars (hset h_76 (Sl.at data0_1 a1_1 1) (VI t164_10)) [] ∧
  ∀ h_77 : Heap, h_77 = hset h_76 (Sl.at data0_1 a1_1 1) (VI t164_10) → Vars h_77 [] →
  K (Value.tuple #[(VI j11_10), (VB false)]) h_77) ∧
  ((decide (j11_10 < i10_7)) = false →
  InB data0_1 j11_10 ∧
  ∃ t142_10 : Int, hcell h_70 (Sl.at data0_1 j11_10 1) = some (VI t142_10) ∧
  InB data0_1 i10_7 ∧
  ∃ t146_10 : Int, hcell h_70 (Sl.at data0_1 i10_7 1) = some (VI t146_10) ∧
  InB data0_1 i10_7 ∧
  Writable h_70 (Sl.at data0_1 i10_7 1) ∧ Vars (hset h_70 (Sl.at data0_1 i10_7 1) (VI t142_10)) [] ∧
  ∀ h_78 : Heap, h_78 = hset h_70 (Sl.at data0_1 i10_7 1) (VI t142_10) → Vars h_78 [] →
  InB data0_1 j11_10 ∧
  Writable h_78 (Sl.at data0_1 j11_10 1) ∧ Vars (hset h_78 (Sl.at data0_1 j11_10 1) (VI t146_10)) [] ∧
  ∀ h_79 : Heap, h_79 = hset h_78 (Sl.at data0_1 j11_10 1) (VI t146_10) → Vars h_79 [] →
  ∃ m : Nat, m < n_21 ∧ J_12 m (w64 (i10_7 + 1)) (w64 (j11_10 - 1)) h_79)))) ∧
  ((decide (i10_7 ≤ j11_9)) = false →
  ∃ J_15 : Nat → Int → Heap → Prop, (∃ n0 : Nat, J_15 n0 j11_9 h_68) ∧
  ∀ (n_25 : Nat) (j11_11 : Int) (h_80 : Heap), J_15 n_25 j11_11 h_80 → Vars h_80 [] →
  ((decide (i10_7 ≤ j11_11)) = true →
  InB data0_1 j11_11 ∧
  ∃ t122_6 : Int, hcell h_80 (Sl.at data0_1 j11_11 1) = some (VI t122_6) ∧
  InB data0_1 a1_1 ∧
  ∃ t126_6 : Int, hcell h_80 (Sl.at data0_1 a1_1 1) = some (VI t126_6) ∧
  callM P 150 #[(VI t122_6), (VI t126_6)] h_80 fun rv_12 h_81 => ∃ t127_6 : Bool, rv_12 = (VB t127_6) ∧ Vars h_81 [] ∧
  ((!t127_6) = true →
  ∃ m : Nat, m < n_25 ∧ J_15 m (w64 (j11_11 - 1)) h_81) ∧
  ((!t127_6) = false →
  ((decide (j11_11 < i10_7)) = true →
  InB data0_1 a1_1 ∧
  ∃ t160_11 : Int, hcell h_81 (Sl.at data0_1 a1_1 1) = some (VI t160_11) ∧
  InB data0_1 j11_11 ∧
  ∃ t164_11 : Int, hcell h_81 (Sl.at data0_1 j11_11 1) = some (VI t164_11) ∧
  InB data0_1 j11_11 ∧
  Writable h_81 (Sl.at data0_1 j11_11 1) ∧ Vars (hset h_81 (Sl.at data0_1 j11_11 1) (VI t160_11)) [] ∧
  ∀ h_82 : Heap, h_82 = hset h_81 (Sl.at data0_1 j11_11 1) (VI t160_11) → Vars h_82 [] →
  InB data0_1 a1_1 ∧
  Writable h_82 (Sl.at data0_1 a1_1 1) ∧ Vars (hset h_82 (Sl.at data0_1 a1_1 1) (VI t164_11)) [] ∧
  ∀ h_83 : Heap, h_83 = hset h_82 (Sl.at data0_1 a1_1 1) (VI t164_11) → Vars h_83 [] →
  K (Value.tuple #[(VI j11_11), (VB false)]) h_83) ∧
  ((decide (j11_11 < i10_7)) = false →
  InB data0_1 j11_11 ∧
  ∃ t142_11 : Int, hcell h_81 (Sl.at data0_1 j11_11 1) = some (VI t142_11) ∧
  InB data0_1 i10_7 ∧
  ∃ t146_11 : Int, hcell h_81 (Sl.at data0_1 i10_7 1) = some (VI t146_11) ∧
  InB data0_1 i10_7 ∧
  Writable h_81 (Sl.at data0_1 i10_7 1) ∧ Vars (hset h_81 (Sl.at data0_1 i10_7 1) (VI t142_11)) [] ∧
  ∀ h_84 : Heap, h_84 = hset h_81 (Sl.at data0_1 i10_7 1) (VI t142_11) → Vars h_84 [] →
  InB data0_1 j11_11 ∧
  Writable h_84 (Sl.at data0_1 j11_11 1) ∧ Vars (hset h_84 (Sl.at data0_1 j11_11 1) (VI t146_11)) [] ∧
  ∀ h_85 : Heap, h_85 = hset h_84 (Sl.at data0_1 j11_11 1) (VI t146_11) → Vars h_85 [] →
  ∃ m : Nat, m < n_21 ∧ J_12 m (w64 (i10_7 + 1)) (w64 (j11_11 - 1)) h_85))) ∧
  ((decide (i10_7 ≤ j11_11)) = false →
  ((decide (j11_11 < i10_7)) = true →
  InB data0_1 a1_1 ∧
  ∃ t160_12 : Int, hcell h_80 (Sl.at data0_1 a1_1 1) = some (VI t160_12) ∧
  InB data0_1 j11_11 ∧
  ∃ t164_12 : Int, hcell h_80 (Sl.at data0_1 j11_11 1) = some (VI t164_12) ∧
  InB data0_1 j11_11 ∧
  Writable h_80 (Sl.at data0_1 j11_11 1) ∧ Vars (hset h_80 (Sl.at data0_1 j11_11 1) (VI t160_12)) [] ∧
  ∀ h_86 : Heap, h_86 = hset h_80 (Sl.at data0_1 j11_11 1) (VI t160_12) → Vars h_86 [] →
  InB data0_1 a1_1 ∧
  Writable h_86 (Sl.at data0_1 a1_1 1) ∧ Vars (hset h_86 (Sl.at data0_1 a1_1 1) (VI t164_12)) [] ∧
  ∀ h_87 : Heap, h_87 = hset h_86 (Sl.at data0_1 a1_1 1) (VI t164_12) → Vars h_87 [] →
  K (Value.tuple #[(VI j11_11), (VB false)]) h_87) ∧
  ((decide (j11_11 < i10_7)) = false →
  InB data0_1 j11_11 ∧
  ∃ t142_12 : Int, hcell h_80 (Sl.at data0_1 j11_11 1) = some (VI t142_12) ∧
  InB data0_1 i10_7 ∧
  ∃ t146_12 : Int, hcell h_80 (Sl.at data0_1 i10_7 1) = some (VI t146_12) ∧
  InB data0_1 i10_7 ∧
  Writable h_80 (Sl.at data0_1 i10_7 1) ∧ Vars (hset h_80 (Sl.at data0_1 i10_7 1) (VI t142_12)) [] ∧
  ∀ h_88 : Heap, h_88 = hset h_80 (Sl.at data0_1 i10_7 1) (VI t142_12) → Vars h_88 [] →
  InB data0_1 j11_11 ∧
  Writable h_88 (Sl.at data0_1 j11_11 1) ∧ Vars (hset h_88 (Sl.at data0_1 j11_11 1) (VI t146_12)) [] ∧
  ∀ h_89 : Heap, h_89 = hset h_88 (Sl.at data0_1 j11_11 1) (VI t146_12) → Vars h_89 [] →
  ∃ m : Nat, m < n_21 ∧ J_12 m (w64 (i10_7 + 1)) (w64 (j11_11 - 1)) h_89)))))) ∧
  ((decide (i10_1 ≤ j11_8)) = false →
  ((decide (j11_8 < i10_1)) = true →
  InB data0_1 a1_1 ∧
  ∃ t73_4 : Int, hcell h_61 (Sl.at data0_1 a1_1 1) = some (VI t73_4) ∧
  InB data0_1 j11_8 ∧
  ∃ t77_4 : Int, hcell h_61 (Sl.at data0_1 j11_8 1) = some (VI t77_4) ∧
  InB data0_1 j11_8 ∧
  Writable h_61 (Sl.at data0_1 j11_8 1) ∧ Vars (hset h_61 (Sl.at data0_1 j11_8 1) (VI t73_4)) [] ∧
  ∀ h_90 : Heap, h_90 = hset h_61 (Sl.at data0_1 j11_8 1) (VI t73_4) → Vars h_90 [] →
  InB data0_1 a1_1 ∧
  Writable h_90 (Sl.at data0_1 a1_1 1) ∧ Vars (hset h_90 (Sl.at data0_1 a1_1 1) (VI t77_4)) [] ∧
  ∀ h_91 : Heap, h_91 = hset h_90 (Sl.at data0_1 a1_1 1) (VI t77_4) → Vars h_91 [] →
  K (Value.tuple #[(VI j11_8), (VB true)]) h_91) ∧
  ((decide (j11_8 < i10_1)) = false →
  InB data0_1 j11_8 ∧
  ∃ t88_4 : Int, hcell h_61 (Sl.at data0_1 j11_8 1) = some (VI t88_4) ∧
  InB data0_1 i10_1 ∧
  ∃ t92_4 : Int, hcell h_61 (Sl.at data0_1 i10_1 1) = some (VI t92_4) ∧
  InB data0_1 i10_1 ∧
  Writable h_61 (Sl.at data0_1 i10_1 1) ∧ Vars (hset h_61 (Sl.at data0_1 i10_1 1) (VI t88_4)) [] ∧
  ∀ h_92 : Heap, h_92 = hset h_61 (Sl.at data0_1 i10_1 1) (VI t88_4) → Vars h_92 [] →
  InB data0_1 j11_8 ∧
  Writable h_92 (Sl.at data0_1 j11_8 1) ∧ Vars (hset h_92 (Sl.at data0_1 j11_8 1) (VI t92_4)) [] ∧
  ∀ h_93 : Heap, h_93 = hset h_92 (Sl.at data0_1 j11_8 1) (VI t92_4) → Vars h_93 [] →
  ∃ J_16 : Nat → Int → Int → Heap → Prop, (∃ n0 : Nat, J_16 n0 (w64 (i10_1 + 1)) (w64 (j11_8 - 1)) h_93) ∧
  ∀ (n_29 : Nat) (i10_8 : Int) (j11_12 : Int) (h_94 : Heap), J_16 n_29 i10_8 j11_12 h_94 → Vars h_94 [] →
  ∃ J_17 : Nat → Int → Heap → Prop, (∃ n0 : Nat, J_17 n0 i10_8 h_94) ∧
  ∀ (n_30 : Nat) (i10_9 : Int) (h_95 : Heap), J_17 n_30 i10_9 h_95 → Vars h_95 [] →
  ((decide (i10_9 ≤ j11_12)) = true →
  InB data0_1 i10_9 ∧
  ∃ t106_4 : Int, hcell h_95 (Sl.at data0_1 i10_9 1) = some (VI t106_4) ∧
  InB data0_1 a1_1 ∧
  ∃ t110_4 : Int, hcell h_95 (Sl.at data0_1 a1_1 1) = some (VI t110_4) ∧
  callM P 150 #[(VI t106_4), (VI t110_4)] h_95 fun rv_13 h_96 => ∃ t111_4 : Bool, rv_13 = (VB t111_4) ∧ Vars h_96 [] ∧
  (t111_4 = true →
  ∃ m : Nat, m < n_30 ∧ J_17 m (w64 (i10_9 + 1)) h_96) ∧
  (t111_4 = false →
  ∃ J_18 : Nat → Int → Heap → Prop, (∃ n0 : Nat, J_18 n0 j11_12 h_96) ∧
  ∀ (n_31 : Nat) (j11_13 : Int) (h_97 : Heap), J_18 n_31 j11_13 h_97 → Vars h_97 [] →
  ((decide (i10_9 ≤ j11_13)) = true →
  InB data0_1 j11_13 ∧
  ∃ t122_7 : Int, hcell h_97 (Sl.at data0_1 j11_13 1) = some (VI t122_7) ∧
  InB data0_1 a1_1 ∧
  ∃ t126_7 : Int, hcell h_97 (Sl.at data0_1 a1_1 1) = some (VI t126_7) ∧
  callM P 150 #[(VI t122_7), (VI t126_7)] h_97 fun rv_14 h_98 => ∃ t127_7 : Bool, rv_14 = (VB t127_7) ∧ Vars h_98 [] ∧
  ((!t127_7) = true →
  ∃ m : Nat, m < n_31 ∧ J_18 m (w64 (j11_13 - 1)) h_98) ∧
  ((!t127_7) = false →
  ((decide (j11_13 < i10_9)) = true →
  InB data0_1 a1_1 ∧
  ∃ t160_13 : Int, hcell h_98 (Sl.at data0_1 a1_1 1) = some (VI t160_13) ∧
  InB data0_1 j11_13 ∧
  ∃ t164_13 : Int, hcell h_98 (Sl.at data0_1 j11_13 1) = some (VI t164_13) ∧
  InB data0_1 j11_13 ∧
  Writable h_98 (Sl.at data0_1 j11_13 1) ∧ Vars (hset h_98 (Sl.at data0_1 j11_13 1) (VI t160_13)) [] ∧
  ∀ h_99 : Heap, h_99 = hset h_98 (Sl.at data0_1 j11_13 1) (VI t160_13) → Vars h_99 [] →
  InB data0_1 a1_1 ∧
  Writable h_99 (Sl.at data0_1 a1_1 1) ∧ Vars (hset h_99 (Sl.at data0_1 a1_1 1) (VI t164_13)) [] ∧
  ∀ h_100 : Heap, h_100 = hset h_99 (Sl.at data0_1 a1_1 1) (VI t164_13) → Vars h_100 [] →
  K (Value.tuple #[(VI j11_13), (VB false)]) h_100) ∧
  ((decide (j11_13 < i10_9)) = false →
  InB data0_1 j11_13 ∧
  ∃ t142_13 : Int, hcell h_98 (Sl.at data0_1 j11_13 1) = some (VI t142_13) ∧
  InB data0_1 i10_9 ∧
  ∃ t146_13 : Int, hcell h_98 (Sl.at data0_1 i10_9 1) = some (VI t146_13) ∧
  InB data0_1 i10_9 ∧
  Writable h_98 (Sl.at data0_1 i10_9 1) ∧ Vars (hset h_98 (Sl.at data0_1 i10_9 1) (VI t142_13)) [] ∧
  ∀ h_101 : Heap, h_101 = hset h_98 (Sl.at data0_1 i10_9 1) (VI t142_13) → Vars h_101 [] →
  InB data0_1 j11_13 ∧
  Writable h_101 (Sl.at data0_1 j11_13 1) ∧ Vars (hset h_101 (Sl.at data0_1 j11_13 1) (VI t146_13)) [] ∧
  ∀ h_102 : Heap, h_102 = hset h_101 (Sl.at data0_1 j11_13 1) (VI t146_13) → Vars h_102 [] →
  ∃ m : Nat, m < n_29 ∧ J_16 m (w64 (i10_9 + 1)) (w64 (j11_13 - 1)) h_102))) ∧
  ((decide (i10_9 ≤ j11_13)) = false →
  ((decide (j11_13 < i10_9)) = true →
  InB data0_1 a1_1 ∧
  ∃ t160_14 : Int, hcell h_97 (Sl.at data0_1 a1_1 1) = some (VI t160_14) ∧
  InB data0_1 j11_13 ∧
  ∃ t164_14 : Int, hcell h_97 (Sl.at data0_1 j11_13 1) = some (VI t164_14) ∧
  InB data0_1 j11_13 ∧
  Writable h_97 (Sl.at data0_1 j11_13 1) ∧ Vars (hset h_97 (Sl.at data0_1 j11_13 1) (VI t160_14)) [] ∧
  ∀ h_103 : Heap, h_103 = hset h_97 (Sl.at data0_1 j11_13 1) (VI t160_14) → Vars h_103 [] →
  InB data0_1 a1_1 ∧
  Writable h_103 (Sl.at data0_1 a1_1 1) ∧ Vars (hset h_103 (Sl.at data0_1 a1_1 1) (VI t164_14)) [] ∧
  ∀ h_104 : Heap, h_104 = hset h_103 (Sl.at data0_1 a1_1 1) (VI t164_14) → Vars h_104 [] →
  K (Value.tuple #[(VI j11_13), (VB false)]) h_104) ∧
  ((decide (j11_13 < i10_9)) = false →
  InB data0_1 j11_13 ∧
  ∃ t142_14 : Int, hcell h_97 (Sl.at data0_1 j11_13 1) = some (VI t142_14) ∧
  InB data0_1 i10_9 ∧
  ∃ t146_14 : Int, hcell h_97 (Sl.at data0_1 i10_9 1) = some (VI t146_14) ∧
  InB data0_1 i10_9 ∧
  Writable h_97 (Sl.at data0_1 i10_9 1) ∧ Vars (hset h_97 (Sl.at data0_1 i10_9 1) (VI t142_14)) [] ∧
  ∀ h_105 : Heap, h_105 = hset h_97 (Sl.at data0_1 i10_9 1) (VI t142_14) → Vars h_105 [] →
  InB data0_1 j11_13 ∧
  Writable h_105 (Sl.at data0_1 j11_13 1) ∧ Vars (hset h_105 (Sl.at data0_1 j11_13 1) (VI t146_14)) [] ∧
  ∀ h_106 : Heap, h_106 = hset h_105 (Sl.at data0_1 j11_13 1) (VI t146_14) → Vars h_106 [] →
  ∃ m : Nat, m < n_29 ∧ J_16 m (w64 (i10_9 + 1)) (w64 (j11_13 - 1)) h_106)))) ∧
  ((decide (i10_9 ≤ j11_12)) = false →
  ∃ J_19 : Nat → Int → Heap → Prop, (∃ n0 : Nat, J_19 n0 j11_12 h_95) ∧
  ∀ (n_33 : Nat) (j11_14 : Int) (h_107 : Heap), J_19 n_33 j11_14 h_107 → Vars h_107 [] →
  ((decide (i10_9 ≤ j11_14)) = true →
  InB data0_1 j11_14 ∧
  ∃ t122_8 : Int, hcell h_107 (Sl.at data0_1 j11_14 1) = some (VI t122_8) ∧
  InB data0_1 a1_1 ∧
  ∃ t126_8 : Int, hcell h_107 (Sl.at data0_1 a1_1 1) = some (VI t126_8) ∧
  callM P 150 #[(VI t122_8), (VI t126_8)] h_107 fun rv_15 h_108 => ∃ t127_8 : Bool, rv_15 = (VB t127_8) ∧ Vars h_108 [] ∧
  ((!t127_8) = true →
  ∃ m : Nat, m < n_33 ∧ J_19 m (w64 (j11_14 - 1)) h_108) ∧
  ((!t127_8) = false →
  ((decide (j11_14 < i10_9)) = true →
  InB data0_1 a1_1 ∧
  ∃ t160_15 : Int, hcell h_108 (Sl.at data0_1 a1_1 1) = some (VI t160_15) ∧
  InB data0_1 j11_14 ∧
  ∃ t164_15 : Int, hcell h_108 (Sl.at data0_1 j11_14 1) = some (VI t164_15) ∧
  InB data0_1 j11_14 ∧
  Writable h_108 (Sl.at data0_1 j11_14 1) ∧ Vars (hset h_108 (Sl.at data0_1 j11_14 1) (VI t160_15)) [] ∧
  ∀ h_109 : Heap, h_109 = hset h_108 (Sl.at data0_1 j11_14 1) (VI t160_15) → Vars h_109 [] →
  InB data0_1 a1_1 ∧
  Writable h_109 (Sl.at data0_1 a1_1 1) ∧ Vars (hset h_109 (Sl.at data0_1 a1_1 1) (VI t164_15)) [] ∧
  ∀ h_110 : Heap, h_110 = hset h_109 (Sl.at data0_1 a1_1 1) (VI t164_15) → Vars h_110 [] →
  K (Value.tuple #[(VI j11_14), (VB false)]) h_110) ∧
  ((decide (j11_14 < i10_9)) = false →
  InB data0_1 j11_14 ∧
  ∃ t142_15 : Int, hcell h_108 (Sl.at data0_1 j11_14 1) = some (VI t142_15) ∧
  InB data0_1 i10_9 ∧
  ∃ t146_15 : Int, hcell h_108 (Sl.at data0_1 i10_9 1) = some (VI t146_15) ∧
  InB data0_1 i10_9 ∧
  Writable h_108 (Sl.at data0_1 i10_9 1) ∧ Vars (hset h_108 (Sl.at data0_1 i10_9 1) (VI t142_15)) [] ∧
  ∀ h_111 : Heap, h_111 = hset h_108 (Sl.at data0_1 i10_9 1) (VI t142_15) → Vars h_111 [] →
  InB data0_1 j11_14 ∧
  Writable h_111 (Sl.at data0_1 j11_14 1) ∧ Vars (hset h_111 (Sl.at data0_1 j11_14 1) (VI t146_15)) [] ∧
  ∀ h_112 : Heap, h_112 = hset h_111 (Sl.at data0_1 j11_14 1) (VI t146_15) → Vars h_112 [] →
  ∃ m : Nat, m < n_29 ∧ J_16 m (w64 (i10_9 + 1)) (w64 (j11_14 - 1)) h_112))) ∧
  ((decide (i10_9 ≤ j11_14)) = false →
  ((decide (j11_14 < i10_9)) = true →
  InB data0_1 a1_1 ∧
  ∃ t160_16 : Int, hcell h_107 (Sl.at data0_1 a1_1 1) = some (VI t160_16) ∧
  InB data0_1 j11_14 ∧
  ∃ t164_16 : Int, hcell h_107 (Sl.at data0_1 j11_14 1) = some (VI t164_16) ∧
  InB data0_1 j11_14 ∧
  Writable h_107 (Sl.at data0_1 j11_14 1) ∧ Vars (hset h_107 (Sl.at data0_1 j11_14 1) (VI t160_16)) [] ∧
  ∀ h_113 : Heap, h_113 = hset h_107 (Sl.at data0_1 j11_14 1) (VI t160_16) → Vars h_113 [] →
  InB data0_1 a1_1 ∧
  Writable h_113 (Sl.at data0_1 a1_1 1) ∧ Vars (hset h_113 (Sl.at data0_1 a1_1 1) (VI t164_16)) [] ∧
  ∀ h_114 : Heap, h_114 = hset h_113 (Sl.at data0_1 a1_1 1) (VI t164_16) → Vars h_114 [] →
  K (Value.tuple #[(VI j11_14), (VB false)]) h_114) ∧
  ((decide (j11_14 < i10_9)) = false →
  InB data0_1 j11_14 ∧
  ∃ t142_16 : Int, hcell h_107 (Sl.at data0_1 j11_14 1) = some (VI t142_16) ∧
  InB data0_1 i10_9 ∧
  ∃ t146_16 : Int, hcell h_107 (Sl.at data0_1 i10_9 1) = some (VI t146_16) ∧
  InB data0_1 i10_9 ∧
  Writable h_107 (Sl.at data0_1 i10_9 1) ∧ Vars (hset h_107 (Sl.at data0_1 i10_9 1) (VI t142_16)) [] ∧
  ∀ h_115 : Heap, h_115 = hset h_107 (Sl.at data0_1 i10_9 1) (VI t142_16) → Vars h_115 [] →
  InB data0_1 j11_14 ∧
  Writable h_115 (Sl.at data0_1 j11_14 1) ∧ Vars (hset h_115 (Sl.at data0_1 j11_14 1) (VI t146_16)) [] ∧
  ∀ h_116 : Heap, h_116 = hset h_115 (Sl.at data0_1 j11_14 1) (VI t146_16) → Vars h_116 [] →
  ∃ m : Nat, m < n_29 ∧ J_16 m (w64 (i10_9 + 1)) (w64 (j11_14 - 1)) h_116))))))
theorem v152 (data0_1 : Sl) (a1_1 : Int) (b2_1 : Int) (pivot3_1 : Int) (h : Heap) (K : Value → Heap → Prop) (H : u152 Try.prog data0_1 a1_1 b2_1 pivot3_1 h K) : callM Try.prog 152 #[(Sl.v data0_1), (VI a1_1), (VI b2_1), (VI pivot3_1)] h K := by
  refine c152 (Sl.v data0_1) (VI a1_1) (VI b2_1) (VI pivot3_1) h K ?_
  unfold u152 at H
  unfold t152
  have hL : Vars h [] := .nil
  obtain ⟨hi_1, H⟩ := H
  refine pop_index sli27 siz3 .i64 data0_1 pivot3_1 hi_1 ?_
  obtain ⟨t19_1, hc_112, H⟩ := H
  refine rop_one one3 (VI t19_1) hc_112 ?_
  obtain ⟨hi_2, H⟩ := H
  refine pop_index sli27 siz3 .i64 data0_1 a1_1 hi_2 ?_
  obtain ⟨t23_1, hc_111, H⟩ := H
  refine rop_one one3 (VI t23_1) hc_111 ?_
  obtain ⟨hi_3, H⟩ := H
  refine pop_index sli27 siz3 .i64 data0_1 a1_1 hi_3 ?_
  obtain ⟨hw_1, hL_1, H⟩ := H
  refine uop_cell (v := (VI t19_1)) siz3 hw_1 rfl (fun h_1 he_1 => ?_)
  rw [← he_1] at hL_1
  have H := H h_1 he_1 hL_1
  obtain ⟨hi_4, H⟩ := H
  refine pop_index sli27 siz3 .i64 data0_1 pivot3_1 hi_4 ?_
  obtain ⟨hw_2, hL_2, H⟩ := H
  refine uop_cell (v := (VI t23_1)) siz3 hw_2 rfl (fun h_2 he_2 => ?_)
  rw [← he_2] at hL_2
  have H := H h_2 he_2 hL_2
  refine pop_add .i64 a1_1 1 ?_
  refine pop_sub .i64 b2_1 1 ?_
  obtain ⟨J_1, ⟨n_38, h0_19⟩, HB_19⟩ := H
  refine loop_intro (J := fun (n : Nat) (vs : List Value) (h' : Heap) => ∃ i10_1 : Int, vs = [(VI i10_1)] ∧ J_1 n i10_1 h' ∧ Vars h' []) n_38 ⟨(w64 (a1_1 + 1)), rfl, h0_19, hL_2⟩ ?_
  intro I_19 mu_19 hI_19 junk_1 tv_23 h_3 hi_5
  obtain ⟨n_1, ⟨i10_1, hv, hJ_1, hL_3⟩, hn_1⟩ := hI_19 _ _ hi_5
  cases hv
  have H := HB_19 n_1 i10_1 h_3 hJ_1 hL_3
  refine pop_leq .i64 i10_1 (w64 (b2_1 - 1)) ?_
  refine guardM_st (fun hb_1 => ?_) (fun hb_1 => ?_)
  · have H := H.1 hb_1
    refine guardM_y' hb_1 ?_
    refine guardM_y' hb_1 ?_
    obtain ⟨hi_6, H⟩ := H
    refine pop_index sli27 siz3 .i64 data0_1 i10_1 hi_6 ?_
    refine guardM_y' hb_1 ?_
    obtain ⟨t37_1, hc_56, H⟩ := H
    refine rop_one one3 (VI t37_1) hc_56 ?_
    refine guardM_y' hb_1 ?_
    refine guardM_y' hb_1 ?_
    refine guardM_y' hb_1 ?_
    obtain ⟨hi_7, H⟩ := H
    refine pop_index sli27 siz3 .i64 data0_1 a1_1 hi_7 ?_
    refine guardM_y' hb_1 ?_
    obtain ⟨t41_1, hc_55, H⟩ := H
    refine rop_one one3 (VI t41_1) hc_55 ?_
    refine guardM_y' hb_1 ?_
    refine H.mono fun rv_1 h_4 H => ?_
    obtain ⟨t42_1, rfl, hL_4, H⟩ := H
    refine pop_pickt' hb_1 ?_
    refine condM_b (fun hb_2 => ?_) (fun hb_2 => ?_)
    · have H := H.1 hb_2
      refine pop_add .i64 i10_1 1 ?_
      obtain ⟨m_1, hm_1, H⟩ := H
      exact hn_1 _ _ ⟨m_1, hm_1, (w64 (i10_1 + 1)), rfl, H, hL_4⟩
    · have H := H.2 hb_2
      obtain ⟨J_2, ⟨n_19, h0_9⟩, HB_9⟩ := H
      refine loop_intro (J := fun (n : Nat) (vs : List Value) (h' : Heap) => ∃ j11_1 : Int, vs = [(VI j11_1)] ∧ J_2 n j11_1 h' ∧ Vars h' []) n_19 ⟨(w64 (b2_1 - 1)), rfl, h0_9, hL_4⟩ ?_
      intro I_9 mu_9 hI_9 junk_2 tv_11 h_5 hi_8
      obtain ⟨n_2, ⟨j11_1, hv, hJ_2, hL_5⟩, hn_2⟩ := hI_9 _ _ hi_8
      cases hv
      have H := HB_9 n_2 j11_1 h_5 hJ_2 hL_5
      refine pop_leq .i64 i10_1 j11_1 ?_
      refine guardM_st (fun hb_3 => ?_) (fun hb_3 => ?_)
      · have H := H.1 hb_3
        refine guardM_y' hb_3 ?_
        refine guardM_y' hb_3 ?_
        obtain ⟨hi_9, H⟩ := H
        refine pop_index sli27 siz3 .i64 data0_1 j11_1 hi_9 ?_
        refine guardM_y' hb_3 ?_
        obtain ⟨t53_1, hc_28, H⟩ := H
        refine rop_one one3 (VI t53_1) hc_28 ?_
        refine guardM_y' hb_3 ?_
        refine guardM_y' hb_3 ?_
        refine guardM_y' hb_3 ?_
        obtain ⟨hi_10, H⟩ := H
        refine pop_index sli27 siz3 .i64 data0_1 a1_1 hi_10 ?_
        refine guardM_y' hb_3 ?_
        obtain ⟨t57_1, hc_27, H⟩ := H
        refine rop_one one3 (VI t57_1) hc_27 ?_
        refine guardM_y' hb_3 ?_
        refine H.mono fun rv_2 h_6 H => ?_
        obtain ⟨t58_1, rfl, hL_6, H⟩ := H
        refine guardM_y' hb_3 ?_
        refine pop_not t58_1 ?_
        refine pop_pickt' hb_3 ?_
        refine condM_b (fun hb_4 => ?_) (fun hb_4 => ?_)
        · have H := H.1 hb_4
          refine pop_sub .i64 j11_1 1 ?_
          obtain ⟨m_2, hm_2, H⟩ := H
          exact hn_2 _ _ ⟨m_2, hm_2, (w64 (j11_1 - 1)), rfl, H, hL_6⟩
        · have H := H.2 hb_4
          refine pop_gtr .i64 i10_1 j11_1 ?_
          refine condM_b (fun hb_5 => ?_) (fun hb_5 => ?_)
          · have H := H.1 hb_5
            obtain ⟨hi_11, H⟩ := H
            refine pop_index sli27 siz3 .i64 data0_1 a1_1 hi_11 ?_
            obtain ⟨t73_1, hc_2, H⟩ := H
            refine rop_one one3 (VI t73_1) hc_2 ?_
            obtain ⟨hi_12, H⟩ := H
            refine pop_index sli27 siz3 .i64 data0_1 j11_1 hi_12 ?_
            obtain ⟨t77_1, hc_1, H⟩ := H
            refine rop_one one3 (VI t77_1) hc_1 ?_
            obtain ⟨hi_13, H⟩ := H
            refine pop_index sli27 siz3 .i64 data0_1 j11_1 hi_13 ?_
            obtain ⟨hw_3, hL_7, H⟩ := H
            refine uop_cell (v := (VI t73_1)) siz3 hw_3 rfl (fun h_7 he_3 => ?_)
            rw [← he_3] at hL_7
            have H := H h_7 he_3 hL_7
            obtain ⟨hi_14, H⟩ := H
            refine pop_index sli27 siz3 .i64 data0_1 a1_1 hi_14 ?_
            obtain ⟨hw_4, hL_8, H⟩ := H
            refine uop_cell (v := (VI t77_1)) siz3 hw_4 rfl (fun h_8 he_4 => ?_)
            rw [← he_4] at hL_8
            have H := H h_8 he_4 hL_8
            exact H
          · have H := H.2 hb_5
            obtain ⟨hi_15, H⟩ := H
            refine pop_index sli27 siz3 .i64 data0_1 j11_1 hi_15 ?_
            obtain ⟨t88_1, hc_26, H⟩ := H
            refine rop_one one3 (VI t88_1) hc_26 ?_
            obtain ⟨hi_16, H⟩ := H
            refine pop_index sli27 siz3 .i64 data0_1 i10_1 hi_16 ?_
            obtain ⟨t92_1, hc_25, H⟩ := H
            refine rop_one one3 (VI t92_1) hc_25 ?_
            obtain ⟨hi_17, H⟩ := H
            refine pop_index sli27 siz3 .i64 data0_1 i10_1 hi_17 ?_
            obtain ⟨hw_5, hL_9, H⟩ := H
            refine uop_cell (v := (VI t88_1)) siz3 hw_5 rfl (fun h_9 he_5 => ?_)
            rw [← he_5] at hL_9
            have H := H h_9 he_5 hL_9
            obtain ⟨hi_18, H⟩ := H
            refine pop_index sli27 siz3 .i64 data0_1 j11_1 hi_18 ?_
            obtain ⟨hw_6, hL_10, H⟩ := H
            refine uop_cell (v := (VI t92_1)) siz3 hw_6 rfl (fun h_10 he_6 => ?_)
            rw [← he_6] at hL_10
            have H := H h_10 he_6 hL_10
            refine pop_add .i64 i10_1 1 ?_
            refine pop_sub .i64 j11_1 1 ?_
            obtain ⟨J_3, ⟨n_10, h0_4⟩, HB_4⟩ := H
            refine loop_intro (J := fun (n : Nat) (vs : List Value) (h' : Heap) => ∃ i10_2 : Int, ∃ j11_2 : Int, vs = [(VI i10_2), (VI j11_2)] ∧ J_3 n i10_2 j11_2 h' ∧ Vars h' []) n_10 ⟨(w64 (i10_1 + 1)), (w64 (j11_1 - 1)), rfl, h0_4, hL_10⟩ ?_
            intro I_4 mu_4 hI_4 junk_3 tv_4 tv_5 h_11 hi_19
            obtain ⟨n_3, ⟨i10_2, j11_2, hv, hJ_3, hL_11⟩, hn_3⟩ := hI_4 _ _ hi_19
            cases hv
            have H := HB_4 n_3 i10_2 j11_2 h_11 hJ_3 hL_11
            obtain ⟨J_4, ⟨n_9, h0_3⟩, HB_3⟩ := H
            refine loop_intro (J := fun (n : Nat) (vs : List Value) (h' : Heap) => ∃ i10_3 : Int, vs = [(VI i10_3)] ∧ J_4 n i10_3 h' ∧ Vars h' []) n_9 ⟨i10_2, rfl, h0_3, hL_11⟩ ?_
            intro I_3 mu_3 hI_3 junk_4 tv_3 h_12 hi_20
            obtain ⟨n_4, ⟨i10_3, hv, hJ_4, hL_12⟩, hn_4⟩ := hI_3 _ _ hi_20
            cases hv
            have H := HB_3 n_4 i10_3 h_12 hJ_4 hL_12
            refine pop_leq .i64 i10_3 j11_2 ?_
            refine guardM_st (fun hb_6 => ?_) (fun hb_6 => ?_)
            · have H := H.1 hb_6
              refine guardM_y' hb_6 ?_
              refine guardM_y' hb_6 ?_
              obtain ⟨hi_21, H⟩ := H
              refine pop_index sli27 siz3 .i64 data0_1 i10_3 hi_21 ?_
              refine guardM_y' hb_6 ?_
              obtain ⟨t106_1, hc_14, H⟩ := H
              refine rop_one one3 (VI t106_1) hc_14 ?_
              refine guardM_y' hb_6 ?_
              refine guardM_y' hb_6 ?_
              refine guardM_y' hb_6 ?_
              obtain ⟨hi_22, H⟩ := H
              refine pop_index sli27 siz3 .i64 data0_1 a1_1 hi_22 ?_
              refine guardM_y' hb_6 ?_
              obtain ⟨t110_1, hc_13, H⟩ := H
              refine rop_one one3 (VI t110_1) hc_13 ?_
              refine guardM_y' hb_6 ?_
              refine H.mono fun rv_3 h_13 H => ?_
              obtain ⟨t111_1, rfl, hL_13, H⟩ := H
              refine pop_pickt' hb_6 ?_
              refine condM_b (fun hb_7 => ?_) (fun hb_7 => ?_)
              · have H := H.1 hb_7
                refine pop_add .i64 i10_3 1 ?_
                obtain ⟨m_3, hm_3, H⟩ := H
                exact hn_4 _ _ ⟨m_3, hm_3, (w64 (i10_3 + 1)), rfl, H, hL_13⟩
              · have H := H.2 hb_7
                obtain ⟨J_5, ⟨n_6, h0_1⟩, HB_1⟩ := H
                refine loop_intro (J := fun (n : Nat) (vs : List Value) (h' : Heap) => ∃ j11_3 : Int, vs = [(VI j11_3)] ∧ J_5 n j11_3 h' ∧ Vars h' []) n_6 ⟨j11_2, rfl, h0_1, hL_13⟩ ?_
                intro I_1 mu_1 hI_1 junk_5 tv_1 h_14 hi_23
                obtain ⟨n_5, ⟨j11_3, hv, hJ_5, hL_14⟩, hn_5⟩ := hI_1 _ _ hi_23
                cases hv
                have H := HB_1 n_5 j11_3 h_14 hJ_5 hL_14
                refine pop_leq .i64 i10_3 j11_3 ?_
                refine guardM_st (fun hb_8 => ?_) (fun hb_8 => ?_)
                · have H := H.1 hb_8
                  refine guardM_y' hb_8 ?_
                  refine guardM_y' hb_8 ?_
                  obtain ⟨hi_24, H⟩ := H
                  refine pop_index sli27 siz3 .i64 data0_1 j11_3 hi_24 ?_
                  refine guardM_y' hb_8 ?_
                  obtain ⟨t122_1, hc_8, H⟩ := H
                  refine rop_one one3 (VI t122_1) hc_8 ?_
                  refine guardM_y' hb_8 ?_
                  refine guardM_y' hb_8 ?_
                  refine guardM_y' hb_8 ?_
                  obtain ⟨hi_25, H⟩ := H
                  refine pop_index sli27 siz3 .i64 data0_1 a1_1 hi_25 ?_
                  refine guardM_y' hb_8 ?_
                  obtain ⟨t126_1, hc_7, H⟩ := H
                  refine rop_one one3 (VI t126_1) hc_7 ?_
                  refine guardM_y' hb_8 ?_
                  refine H.mono fun rv_4 h_15 H => ?_
                  obtain ⟨t127_1, rfl, hL_15, H⟩ := H
                  refine guardM_y' hb_8 ?_
                  refine pop_not t127_1 ?_
                  refine pop_pickt' hb_8 ?_
                  refine condM_b (fun hb_9 => ?_) (fun hb_9 => ?_)
                  · have H := H.1 hb_9
                    refine pop_sub .i64 j11_3 1 ?_
                    obtain ⟨m_4, hm_4, H⟩ := H
                    exact hn_5 _ _ ⟨m_4, hm_4, (w64 (j11_3 - 1)), rfl, H, hL_15⟩
                  · have H := H.2 hb_9
                    refine pop_gtr .i64 i10_3 j11_3 ?_
                    refine condM_b (fun hb_10 => ?_) (fun hb_10 => ?_)
                    · have H := H.1 hb_10
                      obtain ⟨hi_26, H⟩ := H
                      refine pop_index sli27 siz3 .i64 data0_1 a1_1 hi_26 ?_
                      obtain ⟨t160_1, hc_4, H⟩ := H
                      refine rop_one one3 (VI t160_1) hc_4 ?_
                      obtain ⟨hi_27, H⟩ := H
                      refine pop_index sli27 siz3 .i64 data0_1 j11_3 hi_27 ?_
                      obtain ⟨t164_1, hc_3, H⟩ := H
                      refine rop_one one3 (VI t164_1) hc_3 ?_
                      obtain ⟨hi_28, H⟩ := H
                      refine pop_index sli27 siz3 .i64 data0_1 j11_3 hi_28 ?_
                      obtain ⟨hw_7, hL_16, H⟩ := H
                      refine uop_cell (v := (VI t160_1)) siz3 hw_7 rfl (fun h_16 he_7 => ?_)
                      rw [← he_7] at hL_16
                      have H := H h_16 he_7 hL_16
                      obtain ⟨hi_29, H⟩ := H
                      refine pop_index sli27 siz3 .i64 data0_1 a1_1 hi_29 ?_
                      obtain ⟨hw_8, hL_17, H⟩ := H
                      refine uop_cell (v := (VI t164_1)) siz3 hw_8 rfl (fun h_17 he_8 => ?_)
                      rw [← he_8] at hL_17
                      have H := H h_17 he_8 hL_17
                      exact H
                    · have H := H.2 hb_10
                      obtain ⟨hi_30, H⟩ := H
                      refine pop_index sli27 siz3 .i64 data0_1 j11_3 hi_30 ?_
                      obtain ⟨t142_1, hc_6, H⟩ := H
                      refine rop_one one3 (VI t142_1) hc_6 ?_
                      obtain ⟨hi_31, H⟩ := H
                      refine pop_index sli27 siz3 .i64 data0_1 i10_3 hi_31 ?_
                      obtain ⟨t146_1, hc_5, H⟩ := H
                      refine rop_one one3 (VI t146_1) hc_5 ?_
                      obtain ⟨hi_32, H⟩ := H
                      refine pop_index sli27 siz3 .i64 data0_1 i10_3 hi_32 ?_
                      obtain ⟨hw_9, hL_18, H⟩ := H
                      refine uop_cell (v := (VI t142_1)) siz3 hw_9 rfl (fun h_18 he_9 => ?_)
                      rw [← he_9] at hL_18
                      have H := H h_18 he_9 hL_18
                      obtain ⟨hi_33, H⟩ := H
                      refine pop_index sli27 siz3 .i64 data0_1 j11_3 hi_33 ?_
                      obtain ⟨hw_10, hL_19, H⟩ := H
                      refine uop_cell (v := (VI t146_1)) siz3 hw_10 rfl (fun h_19 he_10 => ?_)
                      rw [← he_10] at hL_19
                      have H := H h_19 he_10 hL_19
                      refine pop_add .i64 i10_3 1 ?_
                      refine pop_sub .i64 j11_3 1 ?_
                      obtain ⟨m_5, hm_5, H⟩ := H
                      exact hn_3 _ _ ⟨m_5, hm_5, (w64 (i10_3 + 1)), (w64 (j11_3 - 1)), rfl, H, hL_19⟩
                · have H := H.2 hb_8
                  refine guardM_n' hb_8 (by decide) ?_
                  refine guardM_n' hb_8 (by decide) ?_
                  refine guardM_n' hb_8 (by decide) ?_
                  refine guardM_n' hb_8 (by decide) ?_
                  refine guardM_n' hb_8 (by decide) ?_
                  refine guardM_n' hb_8 (by decide) ?_
                  refine guardM_n' hb_8 (by decide) ?_
                  refine guardM_n' hb_8 (by decide) ?_
                  refine guardM_n' hb_8 (by decide) ?_
                  refine pop_pickf' hb_8 ?_
                  refine condM_f ?_
                  refine pop_gtr .i64 i10_3 j11_3 ?_
                  refine condM_b (fun hb_11 => ?_) (fun hb_11 => ?_)
                  · have H := H.1 hb_11
                    obtain ⟨hi_34, H⟩ := H
                    refine pop_index sli27 siz3 .i64 data0_1 a1_1 hi_34 ?_
                    obtain ⟨t160_2, hc_10, H⟩ := H
                    refine rop_one one3 (VI t160_2) hc_10 ?_
                    obtain ⟨hi_35, H⟩ := H
                    refine pop_index sli27 siz3 .i64 data0_1 j11_3 hi_35 ?_
                    obtain ⟨t164_2, hc_9, H⟩ := H
                    refine rop_one one3 (VI t164_2) hc_9 ?_
                    obtain ⟨hi_36, H⟩ := H
                    refine pop_index sli27 siz3 .i64 data0_1 j11_3 hi_36 ?_
                    obtain ⟨hw_11, hL_20, H⟩ := H
                    refine uop_cell (v := (VI t160_2)) siz3 hw_11 rfl (fun h_20 he_11 => ?_)
                    rw [← he_11] at hL_20
                    have H := H h_20 he_11 hL_20
                    obtain ⟨hi_37, H⟩ := H
                    refine pop_index sli27 siz3 .i64 data0_1 a1_1 hi_37 ?_
                    obtain ⟨hw_12, hL_21, H⟩ := H
                    refine uop_cell (v := (VI t164_2)) siz3 hw_12 rfl (fun h_21 he_12 => ?_)
                    rw [← he_12] at hL_21
                    have H := H h_21 he_12 hL_21
                    exact H
                  · have H := H.2 hb_11
                    obtain ⟨hi_38, H⟩ := H
                    refine pop_index sli27 siz3 .i64 data0_1 j11_3 hi_38 ?_
                    obtain ⟨t142_2, hc_12, H⟩ := H
                    refine rop_one one3 (VI t142_2) hc_12 ?_
                    obtain ⟨hi_39, H⟩ := H
                    refine pop_index sli27 siz3 .i64 data0_1 i10_3 hi_39 ?_
                    obtain ⟨t146_2, hc_11, H⟩ := H
                    refine rop_one one3 (VI t146_2) hc_11 ?_
                    obtain ⟨hi_40, H⟩ := H
                    refine pop_index sli27 siz3 .i64 data0_1 i10_3 hi_40 ?_
                    obtain ⟨hw_13, hL_22, H⟩ := H
                    refine uop_cell (v := (VI t142_2)) siz3 hw_13 rfl (fun h_22 he_13 => ?_)
                    rw [← he_13] at hL_22
                    have H := H h_22 he_13 hL_22
                    obtain ⟨hi_41, H⟩ := H
                    refine pop_index sli27 siz3 .i64 data0_1 j11_3 hi_41 ?_
                    obtain ⟨hw_14, hL_23, H⟩ := H
                    refine uop_cell (v := (VI t146_2)) siz3 hw_14 rfl (fun h_23 he_14 => ?_)
                    rw [← he_14] at hL_23
                    have H := H h_23 he_14 hL_23
                    refine pop_add .i64 i10_3 1 ?_
                    refine pop_sub .i64 j11_3 1 ?_
                    obtain ⟨m_6, hm_6, H⟩ := H
                    exact hn_3 _ _ ⟨m_6, hm_6, (w64 (i10_3 + 1)), (w64 (j11_3 - 1)), rfl, H, hL_23⟩
            · have H := H.2 hb_6
              refine guardM_n' hb_6 (by decide) ?_
              refine guardM_n' hb_6 (by decide) ?_
              refine guardM_n' hb_6 (by decide) ?_
              refine guardM_n' hb_6 (by decide) ?_
              refine guardM_n' hb_6 (by decide) ?_
              refine guardM_n' hb_6 (by decide) ?_
              refine guardM_n' hb_6 (by decide) ?_
              refine guardM_n' hb_6 (by decide) ?_
              refine pop_pickf' hb_6 ?_
              refine condM_f ?_
              obtain ⟨J_6, ⟨n_8, h0_2⟩, HB_2⟩ := H
              refine loop_intro (J := fun (n : Nat) (vs : List Value) (h' : Heap) => ∃ j11_4 : Int, vs = [(VI j11_4)] ∧ J_6 n j11_4 h' ∧ Vars h' []) n_8 ⟨j11_2, rfl, h0_2, hL_12⟩ ?_
              intro I_2 mu_2 hI_2 junk_6 tv_2 h_24 hi_42
              obtain ⟨n_7, ⟨j11_4, hv, hJ_6, hL_24⟩, hn_6⟩ := hI_2 _ _ hi_42
              cases hv
              have H := HB_2 n_7 j11_4 h_24 hJ_6 hL_24
              refine pop_leq .i64 i10_3 j11_4 ?_
              refine guardM_st (fun hb_12 => ?_) (fun hb_12 => ?_)
              · have H := H.1 hb_12
                refine guardM_y' hb_12 ?_
                refine guardM_y' hb_12 ?_
                obtain ⟨hi_43, H⟩ := H
                refine pop_index sli27 siz3 .i64 data0_1 j11_4 hi_43 ?_
                refine guardM_y' hb_12 ?_
                obtain ⟨t122_2, hc_20, H⟩ := H
                refine rop_one one3 (VI t122_2) hc_20 ?_
                refine guardM_y' hb_12 ?_
                refine guardM_y' hb_12 ?_
                refine guardM_y' hb_12 ?_
                obtain ⟨hi_44, H⟩ := H
                refine pop_index sli27 siz3 .i64 data0_1 a1_1 hi_44 ?_
                refine guardM_y' hb_12 ?_
                obtain ⟨t126_2, hc_19, H⟩ := H
                refine rop_one one3 (VI t126_2) hc_19 ?_
                refine guardM_y' hb_12 ?_
                refine H.mono fun rv_5 h_25 H => ?_
                obtain ⟨t127_2, rfl, hL_25, H⟩ := H
                refine guardM_y' hb_12 ?_
                refine pop_not t127_2 ?_
                refine pop_pickt' hb_12 ?_
                refine condM_b (fun hb_13 => ?_) (fun hb_13 => ?_)
                · have H := H.1 hb_13
                  refine pop_sub .i64 j11_4 1 ?_
                  obtain ⟨m_7, hm_7, H⟩ := H
                  exact hn_6 _ _ ⟨m_7, hm_7, (w64 (j11_4 - 1)), rfl, H, hL_25⟩
                · have H := H.2 hb_13
                  refine pop_gtr .i64 i10_3 j11_4 ?_
                  refine condM_b (fun hb_14 => ?_) (fun hb_14 => ?_)
                  · have H := H.1 hb_14
                    obtain ⟨hi_45, H⟩ := H
                    refine pop_index sli27 siz3 .i64 data0_1 a1_1 hi_45 ?_
                    obtain ⟨t160_3, hc_16, H⟩ := H
                    refine rop_one one3 (VI t160_3) hc_16 ?_
                    obtain ⟨hi_46, H⟩ := H
                    refine pop_index sli27 siz3 .i64 data0_1 j11_4 hi_46 ?_
                    obtain ⟨t164_3, hc_15, H⟩ := H
                    refine rop_one one3 (VI t164_3) hc_15 ?_
                    obtain ⟨hi_47, H⟩ := H
                    refine pop_index sli27 siz3 .i64 data0_1 j11_4 hi_47 ?_
                    obtain ⟨hw_15, hL_26, H⟩ := H
                    refine uop_cell (v := (VI t160_3)) siz3 hw_15 rfl (fun h_26 he_15 => ?_)
                    rw [← he_15] at hL_26
                    have H := H h_26 he_15 hL_26
                    obtain ⟨hi_48, H⟩ := H
                    refine pop_index sli27 siz3 .i64 data0_1 a1_1 hi_48 ?_
                    obtain ⟨hw_16, hL_27, H⟩ := H
                    refine uop_cell (v := (VI t164_3)) siz3 hw_16 rfl (fun h_27 he_16 => ?_)
                    rw [← he_16] at hL_27
                    have H := H h_27 he_16 hL_27
                    exact H
                  · have H := H.2 hb_14
                    obtain ⟨hi_49, H⟩ := H
                    refine pop_index sli27 siz3 .i64 data0_1 j11_4 hi_49 ?_
                    obtain ⟨t142_3, hc_18, H⟩ := H
                    refine rop_one one3 (VI t142_3) hc_18 ?_
                    obtain ⟨hi_50, H⟩ := H
                    refine pop_index sli27 siz3 .i64 data0_1 i10_3 hi_50 ?_
                    obtain ⟨t146_3, hc_17, H⟩ := H
                    refine rop_one one3 (VI t146_3) hc_17 ?_
                    obtain ⟨hi_51, H⟩ := H
                    refine pop_index sli27 siz3 .i64 data0_1 i10_3 hi_51 ?_
                    obtain ⟨hw_17, hL_28, H⟩ := H
                    refine uop_cell (v := (VI t142_3)) siz3 hw_17 rfl (fun h_28 he_17 => ?_)
                    rw [← he_17] at hL_28
                    have H := H h_28 he_17 hL_28
                    obtain ⟨hi_52, H⟩ := H
                    refine pop_index sli27 siz3 .i64 data0_1 j11_4 hi_52 ?_
                    obtain ⟨hw_18, hL_29, H⟩ := H
                    refine uop_cell (v := (VI t146_3)) siz3 hw_18 rfl (fun h_29 he_18 => ?_)
                    rw [← he_18] at hL_29
                    have H := H h_29 he_18 hL_29
                    refine pop_add .i64 i10_3 1 ?_
                    refine pop_sub .i64 j11_4 1 ?_
                    obtain ⟨m_8, hm_8, H⟩ := H
                    exact hn_3 _ _ ⟨m_8, hm_8, (w64 (i10_3 + 1)), (w64 (j11_4 - 1)), rfl, H, hL_29⟩
              · have H := H.2 hb_12
                refine guardM_n' hb_12 (by decide) ?_
                refine guardM_n' hb_12 (by decide) ?_
                refine guardM_n' hb_12 (by decide) ?_
                refine guardM_n' hb_12 (by decide) ?_
                refine guardM_n' hb_12 (by decide) ?_
                refine guardM_n' hb_12 (by decide) ?_
                refine guardM_n' hb_12 (by decide) ?_
                refine guardM_n' hb_12 (by decide) ?_
                refine guardM_n' hb_12 (by decide) ?_
                refine pop_pickf' hb_12 ?_
                refine condM_f ?_
                refine pop_gtr .i64 i10_3 j11_4 ?_
                refine condM_b (fun hb_15 => ?_) (fun hb_15 => ?_)
                · have H := H.1 hb_15
                  obtain ⟨hi_53, H⟩ := H
                  refine pop_index sli27 siz3 .i64 data0_1 a1_1 hi_53 ?_
                  obtain ⟨t160_4, hc_22, H⟩ := H
                  refine rop_one one3 (VI t160_4) hc_22 ?_
                  obtain ⟨hi_54, H⟩ := H
                  refine pop_index sli27 siz3 .i64 data0_1 j11_4 hi_54 ?_
                  obtain ⟨t164_4, hc_21, H⟩ := H
                  refine rop_one one3 (VI t164_4) hc_21 ?_
                  obtain ⟨hi_55, H⟩ := H
                  refine pop_index sli27 siz3 .i64 data0_1 j11_4 hi_55 ?_
                  obtain ⟨hw_19, hL_30, H⟩ := H
                  refine uop_cell (v := (VI t160_4)) siz3 hw_19 rfl (fun h_30 he_19 => ?_)
                  rw [← he_19] at hL_30
                  have H := H h_30 he_19 hL_30
                  obtain ⟨hi_56, H⟩ := H
                  refine pop_index sli27 siz3 .i64 data0_1 a1_1 hi_56 ?_
                  obtain ⟨hw_20, hL_31, H⟩ := H
                  refine uop_cell (v := (VI t164_4)) siz3 hw_20 rfl (fun h_31 he_20 => ?_)
                  rw [← he_20] at hL_31
                  have H := H h_31 he_20 hL_31
                  exact H
                · have H := H.2 hb_15
                  obtain ⟨hi_57, H⟩ := H
                  refine pop_index sli27 siz3 .i64 data0_1 j11_4 hi_57 ?_
                  obtain ⟨t142_4, hc_24, H⟩ := H
                  refine rop_one one3 (VI t142_4) hc_24 ?_
                  obtain ⟨hi_58, H⟩ := H
                  refine pop_index sli27 siz3 .i64 data0_1 i10_3 hi_58 ?_
                  obtain ⟨t146_4, hc_23, H⟩ := H
                  refine rop_one one3 (VI t146_4) hc_23 ?_
                  obtain ⟨hi_59, H⟩ := H
                  refine pop_index sli27 siz3 .i64 data0_1 i10_3 hi_59 ?_
                  obtain ⟨hw_21, hL_32, H⟩ := H
                  refine uop_cell (v := (VI t142_4)) siz3 hw_21 rfl (fun h_32 he_21 => ?_)
                  rw [← he_21] at hL_32
                  have H := H h_32 he_21 hL_32
                  obtain ⟨hi_60, H⟩ := H
                  refine pop_index sli27 siz3 .i64 data0_1 j11_4 hi_60 ?_
                  obtain ⟨hw_22, hL_33, H⟩ := H
                  refine uop_cell (v := (VI t146_4)) siz3 hw_22 rfl (fun h_33 he_22 => ?_)
                  rw [← he_22] at hL_33
                  have H := H h_33 he_22 hL_33
                  refine pop_add .i64 i10_3 1 ?_
                  refine pop_sub .i64 j11_4 1 ?_
                  obtain ⟨m_9, hm_9, H⟩ := H
                  exact hn_3 _ _ ⟨m_9, hm_9, (w64 (i10_3 + 1)), (w64 (j11_4 - 1)), rfl, H, hL_33⟩
      · have H := H.2 hb_3
        refine guardM_n' hb_3 (by decide) ?_
        refine guardM_n' hb_3 (by decide) ?_
        refine guardM_n' hb_3 (by decide) ?_
        refine guardM_n' hb_3 (by decide) ?_
        refine guardM_n' hb_3 (by decide) ?_
        refine guardM_n' hb_3 (by decide) ?_
        refine guardM_n' hb_3 (by decide) ?_
        refine guardM_n' hb_3 (by decide) ?_
        refine guardM_n' hb_3 (by decide) ?_
        refine pop_pickf' hb_3 ?_
        refine condM_f ?_
        refine pop_gtr .i64 i10_1 j11_1 ?_
        refine condM_b (fun hb_16 => ?_) (fun hb_16 => ?_)
        · have H := H.1 hb_16
          obtain ⟨hi_61, H⟩ := H
          refine pop_index sli27 siz3 .i64 data0_1 a1_1 hi_61 ?_
          obtain ⟨t73_2, hc_30, H⟩ := H
          refine rop_one one3 (VI t73_2) hc_30 ?_
          obtain ⟨hi_62, H⟩ := H
          refine pop_index sli27 siz3 .i64 data0_1 j11_1 hi_62 ?_
          obtain ⟨t77_2, hc_29, H⟩ := H
          refine rop_one one3 (VI t77_2) hc_29 ?_
          obtain ⟨hi_63, H⟩ := H
          refine pop_index sli27 siz3 .i64 data0_1 j11_1 hi_63 ?_
          obtain ⟨hw_23, hL_34, H⟩ := H
          refine uop_cell (v := (VI t73_2)) siz3 hw_23 rfl (fun h_34 he_23 => ?_)
          rw [← he_23] at hL_34
          have H := H h_34 he_23 hL_34
          obtain ⟨hi_64, H⟩ := H
          refine pop_index sli27 siz3 .i64 data0_1 a1_1 hi_64 ?_
          obtain ⟨hw_24, hL_35, H⟩ := H
          refine uop_cell (v := (VI t77_2)) siz3 hw_24 rfl (fun h_35 he_24 => ?_)
          rw [← he_24] at hL_35
          have H := H h_35 he_24 hL_35
          exact H
        · have H := H.2 hb_16
          obtain ⟨hi_65, H⟩ := H
          refine pop_index sli27 siz3 .i64 data0_1 j11_1 hi_65 ?_
          obtain ⟨t88_2, hc_54, H⟩ := H
          refine rop_one one3 (VI t88_2) hc_54 ?_
          obtain ⟨hi_66, H⟩ := H
          refine pop_index sli27 siz3 .i64 data0_1 i10_1 hi_66 ?_
          obtain ⟨t92_2, hc_53, H⟩ := H
          refine rop_one one3 (VI t92_2) hc_53 ?_
          obtain ⟨hi_67, H⟩ := H
          refine pop_index sli27 siz3 .i64 data0_1 i10_1 hi_67 ?_
          obtain ⟨hw_25, hL_36, H⟩ := H
          refine uop_cell (v := (VI t88_2)) siz3 hw_25 rfl (fun h_36 he_25 => ?_)
          rw [← he_25] at hL_36
          have H := H h_36 he_25 hL_36
          obtain ⟨hi_68, H⟩ := H
          refine pop_index sli27 siz3 .i64 data0_1 j11_1 hi_68 ?_
          obtain ⟨hw_26, hL_37, H⟩ := H
          refine uop_cell (v := (VI t92_2)) siz3 hw_26 rfl (fun h_37 he_26 => ?_)
          rw [← he_26] at hL_37
          have H := H h_37 he_26 hL_37
          refine pop_add .i64 i10_1 1 ?_
          refine pop_sub .i64 j11_1 1 ?_
          obtain ⟨J_7, ⟨n_18, h0_8⟩, HB_8⟩ := H
          refine loop_intro (J := fun (n : Nat) (vs : List Value) (h' : Heap) => ∃ i10_4 : Int, ∃ j11_5 : Int, vs = [(VI i10_4), (VI j11_5)] ∧ J_7 n i10_4 j11_5 h' ∧ Vars h' []) n_18 ⟨(w64 (i10_1 + 1)), (w64 (j11_1 - 1)), rfl, h0_8, hL_37⟩ ?_
          intro I_8 mu_8 hI_8 junk_7 tv_9 tv_10 h_38 hi_69
          obtain ⟨n_11, ⟨i10_4, j11_5, hv, hJ_7, hL_38⟩, hn_7⟩ := hI_8 _ _ hi_69
          cases hv
          have H := HB_8 n_11 i10_4 j11_5 h_38 hJ_7 hL_38
          obtain ⟨J_8, ⟨n_17, h0_7⟩, HB_7⟩ := H
          refine loop_intro (J := fun (n : Nat) (vs : List Value) (h' : Heap) => ∃ i10_5 : Int, vs = [(VI i10_5)] ∧ J_8 n i10_5 h' ∧ Vars h' []) n_17 ⟨i10_4, rfl, h0_7, hL_38⟩ ?_
          intro I_7 mu_7 hI_7 junk_8 tv_8 h_39 hi_70
          obtain ⟨n_12, ⟨i10_5, hv, hJ_8, hL_39⟩, hn_8⟩ := hI_7 _ _ hi_70
          cases hv
          have H := HB_7 n_12 i10_5 h_39 hJ_8 hL_39
          refine pop_leq .i64 i10_5 j11_5 ?_
          refine guardM_st (fun hb_17 => ?_) (fun hb_17 => ?_)
          · have H := H.1 hb_17
            refine guardM_y' hb_17 ?_
            refine guardM_y' hb_17 ?_
            obtain ⟨hi_71, H⟩ := H
            refine pop_index sli27 siz3 .i64 data0_1 i10_5 hi_71 ?_
            refine guardM_y' hb_17 ?_
            obtain ⟨t106_2, hc_42, H⟩ := H
            refine rop_one one3 (VI t106_2) hc_42 ?_
            refine guardM_y' hb_17 ?_
            refine guardM_y' hb_17 ?_
            refine guardM_y' hb_17 ?_
            obtain ⟨hi_72, H⟩ := H
            refine pop_index sli27 siz3 .i64 data0_1 a1_1 hi_72 ?_
            refine guardM_y' hb_17 ?_
            obtain ⟨t110_2, hc_41, H⟩ := H
            refine rop_one one3 (VI t110_2) hc_41 ?_
            refine guardM_y' hb_17 ?_
            refine H.mono fun rv_6 h_40 H => ?_
            obtain ⟨t111_2, rfl, hL_40, H⟩ := H
            refine pop_pickt' hb_17 ?_
            refine condM_b (fun hb_18 => ?_) (fun hb_18 => ?_)
            · have H := H.1 hb_18
              refine pop_add .i64 i10_5 1 ?_
              obtain ⟨m_10, hm_10, H⟩ := H
              exact hn_8 _ _ ⟨m_10, hm_10, (w64 (i10_5 + 1)), rfl, H, hL_40⟩
            · have H := H.2 hb_18
              obtain ⟨J_9, ⟨n_14, h0_5⟩, HB_5⟩ := H
              refine loop_intro (J := fun (n : Nat) (vs : List Value) (h' : Heap) => ∃ j11_6 : Int, vs = [(VI j11_6)] ∧ J_9 n j11_6 h' ∧ Vars h' []) n_14 ⟨j11_5, rfl, h0_5, hL_40⟩ ?_
              intro I_5 mu_5 hI_5 junk_9 tv_6 h_41 hi_73
              obtain ⟨n_13, ⟨j11_6, hv, hJ_9, hL_41⟩, hn_9⟩ := hI_5 _ _ hi_73
              cases hv
              have H := HB_5 n_13 j11_6 h_41 hJ_9 hL_41
              refine pop_leq .i64 i10_5 j11_6 ?_
              refine guardM_st (fun hb_19 => ?_) (fun hb_19 => ?_)
              · have H := H.1 hb_19
                refine guardM_y' hb_19 ?_
                refine guardM_y' hb_19 ?_
                obtain ⟨hi_74, H⟩ := H
                refine pop_index sli27 siz3 .i64 data0_1 j11_6 hi_74 ?_
                refine guardM_y' hb_19 ?_
                obtain ⟨t122_3, hc_36, H⟩ := H
                refine rop_one one3 (VI t122_3) hc_36 ?_
                refine guardM_y' hb_19 ?_
                refine guardM_y' hb_19 ?_
                refine guardM_y' hb_19 ?_
                obtain ⟨hi_75, H⟩ := H
                refine pop_index sli27 siz3 .i64 data0_1 a1_1 hi_75 ?_
                refine guardM_y' hb_19 ?_
                obtain ⟨t126_3, hc_35, H⟩ := H
                refine rop_one one3 (VI t126_3) hc_35 ?_
                refine guardM_y' hb_19 ?_
                refine H.mono fun rv_7 h_42 H => ?_
                obtain ⟨t127_3, rfl, hL_42, H⟩ := H
                refine guardM_y' hb_19 ?_
                refine pop_not t127_3 ?_
                refine pop_pickt' hb_19 ?_
                refine condM_b (fun hb_20 => ?_) (fun hb_20 => ?_)
                · have H := H.1 hb_20
                  refine pop_sub .i64 j11_6 1 ?_
                  obtain ⟨m_11, hm_11, H⟩ := H
                  exact hn_9 _ _ ⟨m_11, hm_11, (w64 (j11_6 - 1)), rfl, H, hL_42⟩
                · have H := H.2 hb_20
                  refine pop_gtr .i64 i10_5 j11_6 ?_
                  refine condM_b (fun hb_21 => ?_) (fun hb_21 => ?_)
                  · have H := H.1 hb_21
                    obtain ⟨hi_76, H⟩ := H
                    refine pop_index sli27 siz3 .i64 data0_1 a1_1 hi_76 ?_
                    obtain ⟨t160_5, hc_32, H⟩ := H
                    refine rop_one one3 (VI t160_5) hc_32 ?_
                    obtain ⟨hi_77, H⟩ := H
                    refine pop_index sli27 siz3 .i64 data0_1 j11_6 hi_77 ?_
                    obtain ⟨t164_5, hc_31, H⟩ := H
                    refine rop_one one3 (VI t164_5) hc_31 ?_
                    obtain ⟨hi_78, H⟩ := H
                    refine pop_index sli27 siz3 .i64 data0_1 j11_6 hi_78 ?_
                    obtain ⟨hw_27, hL_43, H⟩ := H
                    refine uop_cell (v := (VI t160_5)) siz3 hw_27 rfl (fun h_43 he_27 => ?_)
                    rw [← he_27] at hL_43
                    have H := H h_43 he_27 hL_43
                    obtain ⟨hi_79, H⟩ := H
                    refine pop_index sli27 siz3 .i64 data0_1 a1_1 hi_79 ?_
                    obtain ⟨hw_28, hL_44, H⟩ := H
                    refine uop_cell (v := (VI t164_5)) siz3 hw_28 rfl (fun h_44 he_28 => ?_)
                    rw [← he_28] at hL_44
                    have H := H h_44 he_28 hL_44
                    exact H
                  · have H := H.2 hb_21
                    obtain ⟨hi_80, H⟩ := H
                    refine pop_index sli27 siz3 .i64 data0_1 j11_6 hi_80 ?_
                    obtain ⟨t142_5, hc_34, H⟩ := H
                    refine rop_one one3 (VI t142_5) hc_34 ?_
                    obtain ⟨hi_81, H⟩ := H
                    refine pop_index sli27 siz3 .i64 data0_1 i10_5 hi_81 ?_
                    obtain ⟨t146_5, hc_33, H⟩ := H
                    refine rop_one one3 (VI t146_5) hc_33 ?_
                    obtain ⟨hi_82, H⟩ := H
                    refine pop_index sli27 siz3 .i64 data0_1 i10_5 hi_82 ?_
                    obtain ⟨hw_29, hL_45, H⟩ := H
                    refine uop_cell (v := (VI t142_5)) siz3 hw_29 rfl (fun h_45 he_29 => ?_)
                    rw [← he_29] at hL_45
                    have H := H h_45 he_29 hL_45
                    obtain ⟨hi_83, H⟩ := H
                    refine pop_index sli27 siz3 .i64 data0_1 j11_6 hi_83 ?_
                    obtain ⟨hw_30, hL_46, H⟩ := H
                    refine uop_cell (v := (VI t146_5)) siz3 hw_30 rfl (fun h_46 he_30 => ?_)
                    rw [← he_30] at hL_46
                    have H := H h_46 he_30 hL_46
                    refine pop_add .i64 i10_5 1 ?_
                    refine pop_sub .i64 j11_6 1 ?_
                    obtain ⟨m_12, hm_12, H⟩ := H
                    exact hn_7 _ _ ⟨m_12, hm_12, (w64 (i10_5 + 1)), (w64 (j11_6 - 1)), rfl, H, hL_46⟩
              · have H := H.2 hb_19
                refine guardM_n' hb_19 (by decide) ?_
                refine guardM_n' hb_19 (by decide) ?_
                refine guardM_n' hb_19 (by decide) ?_
                refine guardM_n' hb_19 (by decide) ?_
                refine guardM_n' hb_19 (by decide) ?_
                refine guardM_n' hb_19 (by decide) ?_
                refine guardM_n' hb_19 (by decide) ?_
                refine guardM_n' hb_19 (by decide) ?_
                refine guardM_n' hb_19 (by decide) ?_
                refine pop_pickf' hb_19 ?_
                refine condM_f ?_
                refine pop_gtr .i64 i10_5 j11_6 ?_
                refine condM_b (fun hb_22 => ?_) (fun hb_22 => ?_)
                · have H := H.1 hb_22
                  obtain ⟨hi_84, H⟩ := H
                  refine pop_index sli27 siz3 .i64 data0_1 a1_1 hi_84 ?_
                  obtain ⟨t160_6, hc_38, H⟩ := H
                  refine rop_one one3 (VI t160_6) hc_38 ?_
                  obtain ⟨hi_85, H⟩ := H
                  refine pop_index sli27 siz3 .i64 data0_1 j11_6 hi_85 ?_
                  obtain ⟨t164_6, hc_37, H⟩ := H
                  refine rop_one one3 (VI t164_6) hc_37 ?_
                  obtain ⟨hi_86, H⟩ := H
                  refine pop_index sli27 siz3 .i64 data0_1 j11_6 hi_86 ?_
                  obtain ⟨hw_31, hL_47, H⟩ := H
                  refine uop_cell (v := (VI t160_6)) siz3 hw_31 rfl (fun h_47 he_31 => ?_)
                  rw [← he_31] at hL_47
                  have H := H h_47 he_31 hL_47
                  obtain ⟨hi_87, H⟩ := H
                  refine pop_index sli27 siz3 .i64 data0_1 a1_1 hi_87 ?_
                  obtain ⟨hw_32, hL_48, H⟩ := H
                  refine uop_cell (v := (VI t164_6)) siz3 hw_32 rfl (fun h_48 he_32 => ?_)
                  rw [← he_32] at hL_48
                  have H := H h_48 he_32 hL_48
                  exact H
                · have H := H.2 hb_22
                  obtain ⟨hi_88, H⟩ := H
                  refine pop_index sli27 siz3 .i64 data0_1 j11_6 hi_88 ?_
                  obtain ⟨t142_6, hc_40, H⟩ := H
                  refine rop_one one3 (VI t142_6) hc_40 ?_
                  obtain ⟨hi_89, H⟩ := H
                  refine pop_index sli27 siz3 .i64 data0_1 i10_5 hi_89 ?_
                  obtain ⟨t146_6, hc_39, H⟩ := H
                  refine rop_one one3 (VI t146_6) hc_39 ?_
                  obtain ⟨hi_90, H⟩ := H
                  refine pop_index sli27 siz3 .i64 data0_1 i10_5 hi_90 ?_
                  obtain ⟨hw_33, hL_49, H⟩ := H
                  refine uop_cell (v := (VI t142_6)) siz3 hw_33 rfl (fun h_49 he_33 => ?_)
                  rw [← he_33] at hL_49
                  have H := H h_49 he_33 hL_49
                  obtain ⟨hi_91, H⟩ := H
                  refine pop_index sli27 siz3 .i64 data0_1 j11_6 hi_91 ?_
                  obtain ⟨hw_34, hL_50, H⟩ := H
                  refine uop_cell (v := (VI t146_6)) siz3 hw_34 rfl (fun h_50 he_34 => ?_)
                  rw [← he_34] at hL_50
                  have H := H h_50 he_34 hL_50
                  refine pop_add .i64 i10_5 1 ?_
                  refine pop_sub .i64 j11_6 1 ?_
                  obtain ⟨m_13, hm_13, H⟩ := H
                  exact hn_7 _ _ ⟨m_13, hm_13, (w64 (i10_5 + 1)), (w64 (j11_6 - 1)), rfl, H, hL_50⟩
          · have H := H.2 hb_17
            refine guardM_n' hb_17 (by decide) ?_
            refine guardM_n' hb_17 (by decide) ?_
            refine guardM_n' hb_17 (by decide) ?_
            refine guardM_n' hb_17 (by decide) ?_
            refine guardM_n' hb_17 (by decide) ?_
            refine guardM_n' hb_17 (by decide) ?_
            refine guardM_n' hb_17 (by decide) ?_
            refine guardM_n' hb_17 (by decide) ?_
            refine pop_pickf' hb_17 ?_
            refine condM_f ?_
            obtain ⟨J_10, ⟨n_16, h0_6⟩, HB_6⟩ := H
            refine loop_intro (J := fun (n : Nat) (vs : List Value) (h' : Heap) => ∃ j11_7 : Int, vs = [(VI j11_7)] ∧ J_10 n j11_7 h' ∧ Vars h' []) n_16 ⟨j11_5, rfl, h0_6, hL_39⟩ ?_
            intro I_6 mu_6 hI_6 junk_10 tv_7 h_51 hi_92
            obtain ⟨n_15, ⟨j11_7, hv, hJ_10, hL_51⟩, hn_10⟩ := hI_6 _ _ hi_92
            cases hv
            have H := HB_6 n_15 j11_7 h_51 hJ_10 hL_51
            refine pop_leq .i64 i10_5 j11_7 ?_
            refine guardM_st (fun hb_23 => ?_) (fun hb_23 => ?_)
            · have H := H.1 hb_23
              refine guardM_y' hb_23 ?_
              refine guardM_y' hb_23 ?_
              obtain ⟨hi_93, H⟩ := H
              refine pop_index sli27 siz3 .i64 data0_1 j11_7 hi_93 ?_
              refine guardM_y' hb_23 ?_
              obtain ⟨t122_4, hc_48, H⟩ := H
              refine rop_one one3 (VI t122_4) hc_48 ?_
              refine guardM_y' hb_23 ?_
              refine guardM_y' hb_23 ?_
              refine guardM_y' hb_23 ?_
              obtain ⟨hi_94, H⟩ := H
              refine pop_index sli27 siz3 .i64 data0_1 a1_1 hi_94 ?_
              refine guardM_y' hb_23 ?_
              obtain ⟨t126_4, hc_47, H⟩ := H
              refine rop_one one3 (VI t126_4) hc_47 ?_
              refine guardM_y' hb_23 ?_
              refine H.mono fun rv_8 h_52 H => ?_
              obtain ⟨t127_4, rfl, hL_52, H⟩ := H
              refine guardM_y' hb_23 ?_
              refine pop_not t127_4 ?_
              refine pop_pickt' hb_23 ?_
              refine condM_b (fun hb_24 => ?_) (fun hb_24 => ?_)
              · have H := H.1 hb_24
                refine pop_sub .i64 j11_7 1 ?_
                obtain ⟨m_14, hm_14, H⟩ := H
                exact hn_10 _ _ ⟨m_14, hm_14, (w64 (j11_7 - 1)), rfl, H, hL_52⟩
              · have H := H.2 hb_24
                refine pop_gtr .i64 i10_5 j11_7 ?_
                refine condM_b (fun hb_25 => ?_) (fun hb_25 => ?_)
                · have H := H.1 hb_25
                  obtain ⟨hi_95, H⟩ := H
                  refine pop_index sli27 siz3 .i64 data0_1 a1_1 hi_95 ?_
                  obtain ⟨t160_7, hc_44, H⟩ := H
                  refine rop_one one3 (VI t160_7) hc_44 ?_
                  obtain ⟨hi_96, H⟩ := H
                  refine pop_index sli27 siz3 .i64 data0_1 j11_7 hi_96 ?_
                  obtain ⟨t164_7, hc_43, H⟩ := H
                  refine rop_one one3 (VI t164_7) hc_43 ?_
                  obtain ⟨hi_97, H⟩ := H
                  refine pop_index sli27 siz3 .i64 data0_1 j11_7 hi_97 ?_
                  obtain ⟨hw_35, hL_53, H⟩ := H
                  refine uop_cell (v := (VI t160_7)) siz3 hw_35 rfl (fun h_53 he_35 => ?_)
                  rw [← he_35] at hL_53
                  have H := H h_53 he_35 hL_53
                  obtain ⟨hi_98, H⟩ := H
                  refine pop_index sli27 siz3 .i64 data0_1 a1_1 hi_98 ?_
                  obtain ⟨hw_36, hL_54, H⟩ := H
                  refine uop_cell (v := (VI t164_7)) siz3 hw_36 rfl (fun h_54 he_36 => ?_)
                  rw [← he_36] at hL_54
                  have H := H h_54 he_36 hL_54
                  exact H
                · have H := H.2 hb_25
                  obtain ⟨hi_99, H⟩ := H
                  refine pop_index sli27 siz3 .i64 data0_1 j11_7 hi_99 ?_
                  obtain ⟨t142_7, hc_46, H⟩ := H
                  refine rop_one one3 (VI t142_7) hc_46 ?_
                  obtain ⟨hi_100, H⟩ := H
                  refine pop_index sli27 siz3 .i64 data0_1 i10_5 hi_100 ?_
                  obtain ⟨t146_7, hc_45, H⟩ := H
                  refine rop_one one3 (VI t146_7) hc_45 ?_
                  obtain ⟨hi_101, H⟩ := H
                  refine pop_index sli27 siz3 .i64 data0_1 i10_5 hi_101 ?_
                  obtain ⟨hw_37, hL_55, H⟩ := H
                  refine uop_cell (v := (VI t142_7)) siz3 hw_37 rfl (fun h_55 he_37 => ?_)
                  rw [← he_37] at hL_55
                  have H := H h_55 he_37 hL_55
                  obtain ⟨hi_102, H⟩ := H
                  refine pop_index sli27 siz3 .i64 data0_1 j11_7 hi_102 ?_
                  obtain ⟨hw_38, hL_56, H⟩ := H
                  refine uop_cell (v := (VI t146_7)) siz3 hw_38 rfl (fun h_56 he_38 => ?_)
                  rw [← he_38] at hL_56
                  have H := H h_56 he_38 hL_56
                  refine pop_add .i64 i10_5 1 ?_
                  refine pop_sub .i64 j11_7 1 ?_
                  obtain ⟨m_15, hm_15, H⟩ := H
                  exact hn_7 _ _ ⟨m_15, hm_15, (w64 (i10_5 + 1)), (w64 (j11_7 - 1)), rfl, H, hL_56⟩
            · have H := H.2 hb_23
              refine guardM_n' hb_23 (by decide) ?_
              refine guardM_n' hb_23 (by decide) ?_
              refine guardM_n' hb_23 (by decide) ?_
              refine guardM_n' hb_23 (by decide) ?_
              refine guardM_n' hb_23 (by decide) ?_
              refine guardM_n' hb_23 (by decide) ?_
              refine guardM_n' hb_23 (by decide) ?_
              refine guardM_n' hb_23 (by decide) ?_
              refine guardM_n' hb_23 (by decide) ?_
              refine pop_pickf' hb_23 ?_
              refine condM_f ?_
              refine pop_gtr .i64 i10_5 j11_7 ?_
              refine condM_b (fun hb_26 => ?_) (fun hb_26 => ?_)
              · have H := H.1 hb_26
                obtain ⟨hi_103, H⟩ := H
                refine pop_index sli27 siz3 .i64 data0_1 a1_1 hi_103 ?_
                obtain ⟨t160_8, hc_50, H⟩ := H
                refine rop_one one3 (VI t160_8) hc_50 ?_
                obtain ⟨hi_104, H⟩ := H
                refine pop_index sli27 siz3 .i64 data0_1 j11_7 hi_104 ?_
                obtain ⟨t164_8, hc_49, H⟩ := H
                refine rop_one one3 (VI t164_8) hc_49 ?_
                obtain ⟨hi_105, H⟩ := H
                refine pop_index sli27 siz3 .i64 data0_1 j11_7 hi_105 ?_
                obtain ⟨hw_39, hL_57, H⟩ := H
                refine uop_cell (v := (VI t160_8)) siz3 hw_39 rfl (fun h_57 he_39 => ?_)
                rw [← he_39] at hL_57
                have H := H h_57 he_39 hL_57
                obtain ⟨hi_106, H⟩ := H
                refine pop_index sli27 siz3 .i64 data0_1 a1_1 hi_106 ?_
                obtain ⟨hw_40, hL_58, H⟩ := H
                refine uop_cell (v := (VI t164_8)) siz3 hw_40 rfl (fun h_58 he_40 => ?_)
                rw [← he_40] at hL_58
                have H := H h_58 he_40 hL_58
                exact H
              · have H := H.2 hb_26
                obtain ⟨hi_107, H⟩ := H
                refine pop_index sli27 siz3 .i64 data0_1 j11_7 hi_107 ?_
                obtain ⟨t142_8, hc_52, H⟩ := H
                refine rop_one one3 (VI t142_8) hc_52 ?_
                obtain ⟨hi_108, H⟩ := H
                refine pop_index sli27 siz3 .i64 data0_1 i10_5 hi_108 ?_
                obtain ⟨t146_8, hc_51, H⟩ := H
                refine rop_one one3 (VI t146_8) hc_51 ?_
                obtain ⟨hi_109, H⟩ := H
                refine pop_index sli27 siz3 .i64 data0_1 i10_5 hi_109 ?_
                obtain ⟨hw_41, hL_59, H⟩ := H
                refine uop_cell (v := (VI t142_8)) siz3 hw_41 rfl (fun h_59 he_41 => ?_)
                rw [← he_41] at hL_59
                have H := H h_59 he_41 hL_59
                obtain ⟨hi_110, H⟩ := H
                refine pop_index sli27 siz3 .i64 data0_1 j11_7 hi_110 ?_
                obtain ⟨hw_42, hL_60, H⟩ := H
                refine uop_cell (v := (VI t146_8)) siz3 hw_42 rfl (fun h_60 he_42 => ?_)
                rw [← he_42] at hL_60
                have H := H h_60 he_42 hL_60
                refine pop_add .i64 i10_5 1 ?_
                refine pop_sub .i64 j11_7 1 ?_
                obtain ⟨m_16, hm_16, H⟩ := H
                exact hn_7 _ _ ⟨m_16, hm_16, (w64 (i10_5 + 1)), (w64 (j11_7 - 1)), rfl, H, hL_60⟩
  · have H := H.2 hb_1
    refine guardM_n' hb_1 (by decide) ?_
    refine guardM_n' hb_1 (by decide) ?_
    refine guardM_n' hb_1 (by decide) ?_
    refine guardM_n' hb_1 (by decide) ?_
    refine guardM_n' hb_1 (by decide) ?_
    refine guardM_n' hb_1 (by decide) ?_
    refine guardM_n' hb_1 (by decide) ?_
    refine guardM_n' hb_1 (by decide) ?_
    refine pop_pickf' hb_1 ?_
    refine condM_f ?_
    obtain ⟨J_11, ⟨n_37, h0_18⟩, HB_18⟩ := H
    refine loop_intro (J := fun (n : Nat) (vs : List Value) (h' : Heap) => ∃ j11_8 : Int, vs = [(VI j11_8)] ∧ J_11 n j11_8 h' ∧ Vars h' []) n_37 ⟨(w64 (b2_1 - 1)), rfl, h0_18, hL_3⟩ ?_
    intro I_18 mu_18 hI_18 junk_11 tv_22 h_61 hi_111
    obtain ⟨n_20, ⟨j11_8, hv, hJ_11, hL_61⟩, hn_11⟩ := hI_18 _ _ hi_111
    cases hv
    have H := HB_18 n_20 j11_8 h_61 hJ_11 hL_61
    refine pop_leq .i64 i10_1 j11_8 ?_
    refine guardM_st (fun hb_27 => ?_) (fun hb_27 => ?_)
    · have H := H.1 hb_27
      refine guardM_y' hb_27 ?_
      refine guardM_y' hb_27 ?_
      obtain ⟨hi_112, H⟩ := H
      refine pop_index sli27 siz3 .i64 data0_1 j11_8 hi_112 ?_
      refine guardM_y' hb_27 ?_
      obtain ⟨t53_2, hc_84, H⟩ := H
      refine rop_one one3 (VI t53_2) hc_84 ?_
      refine guardM_y' hb_27 ?_
      refine guardM_y' hb_27 ?_
      refine guardM_y' hb_27 ?_
      obtain ⟨hi_113, H⟩ := H
      refine pop_index sli27 siz3 .i64 data0_1 a1_1 hi_113 ?_
      refine guardM_y' hb_27 ?_
      obtain ⟨t57_2, hc_83, H⟩ := H
      refine rop_one one3 (VI t57_2) hc_83 ?_
      refine guardM_y' hb_27 ?_
      refine H.mono fun rv_9 h_62 H => ?_
      obtain ⟨t58_2, rfl, hL_62, H⟩ := H
      refine guardM_y' hb_27 ?_
      refine pop_not t58_2 ?_
      refine pop_pickt' hb_27 ?_
      refine condM_b (fun hb_28 => ?_) (fun hb_28 => ?_)
      · have H := H.1 hb_28
        refine pop_sub .i64 j11_8 1 ?_
        obtain ⟨m_17, hm_17, H⟩ := H
        exact hn_11 _ _ ⟨m_17, hm_17, (w64 (j11_8 - 1)), rfl, H, hL_62⟩
      · have H := H.2 hb_28
        refine pop_gtr .i64 i10_1 j11_8 ?_
        refine condM_b (fun hb_29 => ?_) (fun hb_29 => ?_)
        · have H := H.1 hb_29
          obtain ⟨hi_114, H⟩ := H
          refine pop_index sli27 siz3 .i64 data0_1 a1_1 hi_114 ?_
          obtain ⟨t73_3, hc_58, H⟩ := H
          refine rop_one one3 (VI t73_3) hc_58 ?_
          obtain ⟨hi_115, H⟩ := H
          refine pop_index sli27 siz3 .i64 data0_1 j11_8 hi_115 ?_
          obtain ⟨t77_3, hc_57, H⟩ := H
          refine rop_one one3 (VI t77_3) hc_57 ?_
          obtain ⟨hi_116, H⟩ := H
          refine pop_index sli27 siz3 .i64 data0_1 j11_8 hi_116 ?_
          obtain ⟨hw_43, hL_63, H⟩ := H
          refine uop_cell (v := (VI t73_3)) siz3 hw_43 rfl (fun h_63 he_43 => ?_)
          rw [← he_43] at hL_63
          have H := H h_63 he_43 hL_63
          obtain ⟨hi_117, H⟩ := H
          refine pop_index sli27 siz3 .i64 data0_1 a1_1 hi_117 ?_
          obtain ⟨hw_44, hL_64, H⟩ := H
          refine uop_cell (v := (VI t77_3)) siz3 hw_44 rfl (fun h_64 he_44 => ?_)
          rw [← he_44] at hL_64
          have H := H h_64 he_44 hL_64
          exact H
        · have H := H.2 hb_29
          obtain ⟨hi_118, H⟩ := H
          refine pop_index sli27 siz3 .i64 data0_1 j11_8 hi_118 ?_
          obtain ⟨t88_3, hc_82, H⟩ := H
          refine rop_one one3 (VI t88_3) hc_82 ?_
          obtain ⟨hi_119, H⟩ := H
          refine pop_index sli27 siz3 .i64 data0_1 i10_1 hi_119 ?_
          obtain ⟨t92_3, hc_81, H⟩ := H
          refine rop_one one3 (VI t92_3) hc_81 ?_
          obtain ⟨hi_120, H⟩ := H
          refine pop_index sli27 siz3 .i64 data0_1 i10_1 hi_120 ?_
          obtain ⟨hw_45, hL_65, H⟩ := H
          refine uop_cell (v := (VI t88_3)) siz3 hw_45 rfl (fun h_65 he_45 => ?_)
          rw [← he_45] at hL_65
          have H := H h_65 he_45 hL_65
          obtain ⟨hi_121, H⟩ := H
          refine pop_index sli27 siz3 .i64 data0_1 j11_8 hi_121 ?_
          obtain ⟨hw_46, hL_66, H⟩ := H
          refine uop_cell (v := (VI t92_3)) siz3 hw_46 rfl (fun h_66 he_46 => ?_)
          rw [← he_46] at hL_66
          have H := H h_66 he_46 hL_66
          refine pop_add .i64 i10_1 1 ?_
          refine pop_sub .i64 j11_8 1 ?_
          obtain ⟨J_12, ⟨n_28, h0_13⟩, HB_13⟩ := H
          refine loop_intro (J := fun (n : Nat) (vs : List Value) (h' : Heap) => ∃ i10_6 : Int, ∃ j11_9 : Int, vs = [(VI i10_6), (VI j11_9)] ∧ J_12 n i10_6 j11_9 h' ∧ Vars h' []) n_28 ⟨(w64 (i10_1 + 1)), (w64 (j11_8 - 1)), rfl, h0_13, hL_66⟩ ?_
          intro I_13 mu_13 hI_13 junk_12 tv_15 tv_16 h_67 hi_122
          obtain ⟨n_21, ⟨i10_6, j11_9, hv, hJ_12, hL_67⟩, hn_12⟩ := hI_13 _ _ hi_122
          cases hv
          have H := HB_13 n_21 i10_6 j11_9 h_67 hJ_12 hL_67
          obtain ⟨J_13, ⟨n_27, h0_12⟩, HB_12⟩ := H
          refine loop_intro (J := fun (n : Nat) (vs : List Value) (h' : Heap) => ∃ i10_7 : Int, vs = [(VI i10_7)] ∧ J_13 n i10_7 h' ∧ Vars h' []) n_27 ⟨i10_6, rfl, h0_12, hL_67⟩ ?_
          intro I_12 mu_12 hI_12 junk_13 tv_14 h_68 hi_123
          obtain ⟨n_22, ⟨i10_7, hv, hJ_13, hL_68⟩, hn_13⟩ := hI_12 _ _ hi_123
          cases hv
          have H := HB_12 n_22 i10_7 h_68 hJ_13 hL_68
          refine pop_leq .i64 i10_7 j11_9 ?_
          refine guardM_st (fun hb_30 => ?_) (fun hb_30 => ?_)
          · have H := H.1 hb_30
            refine guardM_y' hb_30 ?_
            refine guardM_y' hb_30 ?_
            obtain ⟨hi_124, H⟩ := H
            refine pop_index sli27 siz3 .i64 data0_1 i10_7 hi_124 ?_
            refine guardM_y' hb_30 ?_
            obtain ⟨t106_3, hc_70, H⟩ := H
            refine rop_one one3 (VI t106_3) hc_70 ?_
            refine guardM_y' hb_30 ?_
            refine guardM_y' hb_30 ?_
            refine guardM_y' hb_30 ?_
            obtain ⟨hi_125, H⟩ := H
            refine pop_index sli27 siz3 .i64 data0_1 a1_1 hi_125 ?_
            refine guardM_y' hb_30 ?_
            obtain ⟨t110_3, hc_69, H⟩ := H
            refine rop_one one3 (VI t110_3) hc_69 ?_
            refine guardM_y' hb_30 ?_
            refine H.mono fun rv_10 h_69 H => ?_
            obtain ⟨t111_3, rfl, hL_69, H⟩ := H
            refine pop_pickt' hb_30 ?_
            refine condM_b (fun hb_31 => ?_) (fun hb_31 => ?_)
            · have H := H.1 hb_31
              refine pop_add .i64 i10_7 1 ?_
              obtain ⟨m_18, hm_18, H⟩ := H
              exact hn_13 _ _ ⟨m_18, hm_18, (w64 (i10_7 + 1)), rfl, H, hL_69⟩
            · have H := H.2 hb_31
              obtain ⟨J_14, ⟨n_24, h0_10⟩, HB_10⟩ := H
              refine loop_intro (J := fun (n : Nat) (vs : List Value) (h' : Heap) => ∃ j11_10 : Int, vs = [(VI j11_10)] ∧ J_14 n j11_10 h' ∧ Vars h' []) n_24 ⟨j11_9, rfl, h0_10, hL_69⟩ ?_
              intro I_10 mu_10 hI_10 junk_14 tv_12 h_70 hi_126
              obtain ⟨n_23, ⟨j11_10, hv, hJ_14, hL_70⟩, hn_14⟩ := hI_10 _ _ hi_126
              cases hv
              have H := HB_10 n_23 j11_10 h_70 hJ_14 hL_70
              refine pop_leq .i64 i10_7 j11_10 ?_
              refine guardM_st (fun hb_32 => ?_) (fun hb_32 => ?_)
              · have H := H.1 hb_32
                refine guardM_y' hb_32 ?_
                refine guardM_y' hb_32 ?_
                obtain ⟨hi_127, H⟩ := H
                refine pop_index sli27 siz3 .i64 data0_1 j11_10 hi_127 ?_
                refine guardM_y' hb_32 ?_
                obtain ⟨t122_5, hc_64, H⟩ := H
                refine rop_one one3 (VI t122_5) hc_64 ?_
                refine guardM_y' hb_32 ?_
                refine guardM_y' hb_32 ?_
                refine guardM_y' hb_32 ?_
                obtain ⟨hi_128, H⟩ := H
                refine pop_index sli27 siz3 .i64 data0_1 a1_1 hi_128 ?_
                refine guardM_y' hb_32 ?_
                obtain ⟨t126_5, hc_63, H⟩ := H
                refine rop_one one3 (VI t126_5) hc_63 ?_
                refine guardM_y' hb_32 ?_
                refine H.mono fun rv_11 h_71 H => ?_
                obtain ⟨t127_5, rfl, hL_71, H⟩ := H
                refine guardM_y' hb_32 ?_
                refine pop_not t127_5 ?_
                refine pop_pickt' hb_32 ?_
                refine condM_b (fun hb_33 => ?_) (fun hb_33 => ?_)
                · have H := H.1 hb_33
                  refine pop_sub .i64 j11_10 1 ?_
                  obtain ⟨m_19, hm_19, H⟩ := H
                  exact hn_14 _ _ ⟨m_19, hm_19, (w64 (j11_10 - 1)), rfl, H, hL_71⟩
                · have H := H.2 hb_33
                  refine pop_gtr .i64 i10_7 j11_10 ?_
                  refine condM_b (fun hb_34 => ?_) (fun hb_34 => ?_)
                  · have H := H.1 hb_34
                    obtain ⟨hi_129, H⟩ := H
                    refine pop_index sli27 siz3 .i64 data0_1 a1_1 hi_129 ?_
                    obtain ⟨t160_9, hc_60, H⟩ := H
                    refine rop_one one3 (VI t160_9) hc_60 ?_
                    obtain ⟨hi_130, H⟩ := H
                    refine pop_index sli27 siz3 .i64 data0_1 j11_10 hi_130 ?_
                    obtain ⟨t164_9, hc_59, H⟩ := H
                    refine rop_one one3 (VI t164_9) hc_59 ?_
                    obtain ⟨hi_131, H⟩ := H
                    refine pop_index sli27 siz3 .i64 data0_1 j11_10 hi_131 ?_
                    obtain ⟨hw_47, hL_72, H⟩ := H
                    refine uop_cell (v := (VI t160_9)) siz3 hw_47 rfl (fun h_72 he_47 => ?_)
                    rw [← he_47] at hL_72
                    have H := H h_72 he_47 hL_72
                    obtain ⟨hi_132, H⟩ := H
                    refine pop_index sli27 siz3 .i64 data0_1 a1_1 hi_132 ?_
                    obtain ⟨hw_48, hL_73, H⟩ := H
                    refine uop_cell (v := (VI t164_9)) siz3 hw_48 rfl (fun h_73 he_48 => ?_)
                    rw [← he_48] at hL_73
                    have H := H h_73 he_48 hL_73
                    exact H
                  · have H := H.2 hb_34
                    obtain ⟨hi_133, H⟩ := H
                    refine pop_index sli27 siz3 .i64 data0_1 j11_10 hi_133 ?_
                    obtain ⟨t142_9, hc_62, H⟩ := H
                    refine rop_one one3 (VI t142_9) hc_62 ?_
                    obtain ⟨hi_134, H⟩ := H
                    refine pop_index sli27 siz3 .i64 data0_1 i10_7 hi_134 ?_
                    obtain ⟨t146_9, hc_61, H⟩ := H
                    refine rop_one one3 (VI t146_9) hc_61 ?_
                    obtain ⟨hi_135, H⟩ := H
                    refine pop_index sli27 siz3 .i64 data0_1 i10_7 hi_135 ?_
                    obtain ⟨hw_49, hL_74, H⟩ := H
                    refine uop_cell (v := (VI t142_9)) siz3 hw_49 rfl (fun h_74 he_49 => ?_)
                    rw [← he_49] at hL_74
                    have H := H h_74 he_49 hL_74
                    obtain ⟨hi_136, H⟩ := H
                    refine pop_index sli27 siz3 .i64 data0_1 j11_10 hi_136 ?_
                    obtain ⟨hw_50, hL_75, H⟩ := H
                    refine uop_cell (v := (VI t146_9)) siz3 hw_50 rfl (fun h_75 he_50 => ?_)
                    rw [← he_50] at hL_75
                    have H := H h_75 he_50 hL_75
                    refine pop_add .i64 i10_7 1 ?_
                    refine pop_sub .i64 j11_10 1 ?_
                    obtain ⟨m_20, hm_20, H⟩ := H
                    exact hn_12 _ _ ⟨m_20, hm_20, (w64 (i10_7 + 1)), (w64 (j11_10 - 1)), rfl, H, hL_75⟩
              · have H := H.2 hb_32
                refine guardM_n' hb_32 (by decide) ?_
                refine guardM_n' hb_32 (by decide) ?_
                refine guardM_n' hb_32 (by decide) ?_
                refine guardM_n' hb_32 (by decide) ?_
                refine guardM_n' hb_32 (by decide) ?_
                refine guardM_n' hb_32 (by decide) ?_
                refine guardM_n' hb_32 (by decide) ?_
                refine guardM_n' hb_32 (by decide) ?_
                refine guardM_n' hb_32 (by decide) ?_
                refine pop_pickf' hb_32 ?_
                refine condM_f ?_
                refine pop_gtr .i64 i10_7 j11_10 ?_
                refine condM_b (fun hb_35 => ?_) (fun hb_35 => ?_)
                · have H := H.1 hb_35
                  obtain ⟨hi_137, H⟩ := H
                  refine pop_index sli27 siz3 .i64 data0_1 a1_1 hi_137 ?_
                  obtain ⟨t160_10, hc_66, H⟩ := H
                  refine rop_one one3 (VI t160_10) hc_66 ?_
                  obtain ⟨hi_138, H⟩ := H
                  refine pop_index sli27 siz3 .i64 data0_1 j11_10 hi_138 ?_
                  obtain ⟨t164_10, hc_65, H⟩ := H
                  refine rop_one one3 (VI t164_10) hc_65 ?_
                  obtain ⟨hi_139, H⟩ := H
                  refine pop_index sli27 siz3 .i64 data0_1 j11_10 hi_139 ?_
                  obtain ⟨hw_51, hL_76, H⟩ := H
                  refine uop_cell (v := (VI t160_10)) siz3 hw_51 rfl (fun h_76 he_51 => ?_)
                  rw [← he_51] at hL_76
                  have H := H h_76 he_51 hL_76
                  obtain ⟨hi_140, H⟩ := H
                  refine pop_index sli27 siz3 .i64 data0_1 a1_1 hi_140 ?_
                  obtain ⟨hw_52, hL_77, H⟩ := H
                  refine uop_cell (v := (VI t164_10)) siz3 hw_52 rfl (fun h_77 he_52 => ?_)
                  rw [← he_52] at hL_77
                  have H := H h_77 he_52 hL_77
                  exact H
                · have H := H.2 hb_35
                  obtain ⟨hi_141, H⟩ := H
                  refine pop_index sli27 siz3 .i64 data0_1 j11_10 hi_141 ?_
                  obtain ⟨t142_10, hc_68, H⟩ := H
                  refine rop_one one3 (VI t142_10) hc_68 ?_
                  obtain ⟨hi_142, H⟩ := H
                  refine pop_index sli27 siz3 .i64 data0_1 i10_7 hi_142 ?_
                  obtain ⟨t146_10, hc_67, H⟩ := H
                  refine rop_one one3 (VI t146_10) hc_67 ?_
                  obtain ⟨hi_143, H⟩ := H
                  refine pop_index sli27 siz3 .i64 data0_1 i10_7 hi_143 ?_
                  obtain ⟨hw_53, hL_78, H⟩ := H
                  refine uop_cell (v := (VI t142_10)) siz3 hw_53 rfl (fun h_78 he_53 => ?_)
                  rw [← he_53] at hL_78
                  have H := H h_78 he_53 hL_78
                  obtain ⟨hi_144, H⟩ := H
                  refine pop_index sli27 siz3 .i64 data0_1 j11_10 hi_144 ?_
                  obtain ⟨hw_54, hL_79, H⟩ := H
                  refine uop_cell (v := (VI t146_10)) siz3 hw_54 rfl (fun h_79 he_54 => ?_)
                  rw [← he_54] at hL_79
                  have H := H h_79 he_54 hL_79
                  refine pop_add .i64 i10_7 1 ?_
                  refine pop_sub .i64 j11_10 1 ?_
                  obtain ⟨m_21, hm_21, H⟩ := H
                  exact hn_12 _ _ ⟨m_21, hm_21, (w64 (i10_7 + 1)), (w64 (j11_10 - 1)), rfl, H, hL_79⟩
          · have H := H.2 hb_30
            refine guardM_n' hb_30 (by decide) ?_
            refine guardM_n' hb_30 (by decide) ?_
            refine guardM_n' hb_30 (by decide) ?_
            refine guardM_n' hb_30 (by decide) ?_
            refine guardM_n' hb_30 (by decide) ?_
            refine guardM_n' hb_30 (by decide) ?_
            refine guardM_n' hb_30 (by decide) ?_
            refine guardM_n' hb_30 (by decide) ?_
            refine pop_pickf' hb_30 ?_
            refine condM_f ?_
            obtain ⟨J_15, ⟨n_26, h0_11⟩, HB_11⟩ := H
            refine loop_intro (J := fun (n : Nat) (vs : List Value) (h' : Heap) => ∃ j11_11 : Int, vs = [(VI j11_11)] ∧ J_15 n j11_11 h' ∧ Vars h' []) n_26 ⟨j11_9, rfl, h0_11, hL_68⟩ ?_
            intro I_11 mu_11 hI_11 junk_15 tv_13 h_80 hi_145
            obtain ⟨n_25, ⟨j11_11, hv, hJ_15, hL_80⟩, hn_15⟩ := hI_11 _ _ hi_145
            cases hv
            have H := HB_11 n_25 j11_11 h_80 hJ_15 hL_80
            refine pop_leq .i64 i10_7 j11_11 ?_
            refine guardM_st (fun hb_36 => ?_) (fun hb_36 => ?_)
            · have H := H.1 hb_36
              refine guardM_y' hb_36 ?_
              refine guardM_y' hb_36 ?_
              obtain ⟨hi_146, H⟩ := H
              refine pop_index sli27 siz3 .i64 data0_1 j11_11 hi_146 ?_
              refine guardM_y' hb_36 ?_
              obtain ⟨t122_6, hc_76, H⟩ := H
              refine rop_one one3 (VI t122_6) hc_76 ?_
              refine guardM_y' hb_36 ?_
              refine guardM_y' hb_36 ?_
              refine guardM_y' hb_36 ?_
              obtain ⟨hi_147, H⟩ := H
              refine pop_index sli27 siz3 .i64 data0_1 a1_1 hi_147 ?_
              refine guardM_y' hb_36 ?_
              obtain ⟨t126_6, hc_75, H⟩ := H
              refine rop_one one3 (VI t126_6) hc_75 ?_
              refine guardM_y' hb_36 ?_
              refine H.mono fun rv_12 h_81 H => ?_
              obtain ⟨t127_6, rfl, hL_81, H⟩ := H
              refine guardM_y' hb_36 ?_
              refine pop_not t127_6 ?_
              refine pop_pickt' hb_36 ?_
              refine condM_b (fun hb_37 => ?_) (fun hb_37 => ?_)
              · have H := H.1 hb_37
                refine pop_sub .i64 j11_11 1 ?_
                obtain ⟨m_22, hm_22, H⟩ := H
                exact hn_15 _ _ ⟨m_22, hm_22, (w64 (j11_11 - 1)), rfl, H, hL_81⟩
              · have H := H.2 hb_37
                refine pop_gtr .i64 i10_7 j11_11 ?_
                refine condM_b (fun hb_38 => ?_) (fun hb_38 => ?_)
                · have H := H.1 hb_38
                  obtain ⟨hi_148, H⟩ := H
                  refine pop_index sli27 siz3 .i64 data0_1 a1_1 hi_148 ?_
                  obtain ⟨t160_11, hc_72, H⟩ := H
                  refine rop_one one3 (VI t160_11) hc_72 ?_
                  obtain ⟨hi_149, H⟩ := H
                  refine pop_index sli27 siz3 .i64 data0_1 j11_11 hi_149 ?_
                  obtain ⟨t164_11, hc_71, H⟩ := H
                  refine rop_one one3 (VI t164_11) hc_71 ?_
                  obtain ⟨hi_150, H⟩ := H
                  refine pop_index sli27 siz3 .i64 data0_1 j11_11 hi_150 ?_
                  obtain ⟨hw_55, hL_82, H⟩ := H
                  refine uop_cell (v := (VI t160_11)) siz3 hw_55 rfl (fun h_82 he_55 => ?_)
                  rw [← he_55] at hL_82
                  have H := H h_82 he_55 hL_82
                  obtain ⟨hi_151, H⟩ := H
                  refine pop_index sli27 siz3 .i64 data0_1 a1_1 hi_151 ?_
                  obtain ⟨hw_56, hL_83, H⟩ := H
                  refine uop_cell (v := (VI t164_11)) siz3 hw_56 rfl (fun h_83 he_56 => ?_)
                  rw [← he_56] at hL_83
                  have H := H h_83 he_56 hL_83
                  exact H
                · have H := H.2 hb_38
                  obtain ⟨hi_152, H⟩ := H
                  refine pop_index sli27 siz3 .i64 data0_1 j11_11 hi_152 ?_
                  obtain ⟨t142_11, hc_74, H⟩ := H
                  refine rop_one one3 (VI t142_11) hc_74 ?_
                  obtain ⟨hi_153, H⟩ := H
                  refine pop_index sli27 siz3 .i64 data0_1 i10_7 hi_153 ?_
                  obtain ⟨t146_11, hc_73, H⟩ := H
                  refine rop_one one3 (VI t146_11) hc_73 ?_
                  obtain ⟨hi_154, H⟩ := H
                  refine pop_index sli27 siz3 .i64 data0_1 i10_7 hi_154 ?_
                  obtain ⟨hw_57, hL_84, H⟩ := H
                  refine uop_cell (v := (VI t142_11)) siz3 hw_57 rfl (fun h_84 he_57 => ?_)
                  rw [← he_57] at hL_84
                  have H := H h_84 he_57 hL_84
                  obtain ⟨hi_155, H⟩ := H
                  refine pop_index sli27 siz3 .i64 data0_1 j11_11 hi_155 ?_
                  obtain ⟨hw_58, hL_85, H⟩ := H
                  refine uop_cell (v := (VI t146_11)) siz3 hw_58 rfl (fun h_85 he_58 => ?_)
                  rw [← he_58] at hL_85
                  have H := H h_85 he_58 hL_85
                  refine pop_add .i64 i10_7 1 ?_
                  refine pop_sub .i64 j11_11 1 ?_
                  obtain ⟨m_23, hm_23, H⟩ := H
                  exact hn_12 _ _ ⟨m_23, hm_23, (w64 (i10_7 + 1)), (w64 (j11_11 - 1)), rfl, H, hL_85⟩
            · have H := H.2 hb_36
              refine guardM_n' hb_36 (by decide) ?_
              refine guardM_n' hb_36 (by decide) ?_
              refine guardM_n' hb_36 (by decide) ?_
              refine guardM_n' hb_36 (by decide) ?_
              refine guardM_n' hb_36 (by decide) ?_
              refine guardM_n' hb_36 (by decide) ?_
              refine guardM_n' hb_36 (by decide) ?_
              refine guardM_n' hb_36 (by decide) ?_
              refine guardM_n' hb_36 (by decide) ?_
              refine pop_pickf' hb_36 ?_
              refine condM_f ?_
              refine pop_gtr .i64 i10_7 j11_11 ?_
              refine condM_b (fun hb_39 => ?_) (fun hb_39 => ?_)
              · have H := H.1 hb_39
                obtain ⟨hi_156, H⟩ := H
                refine pop_index sli27 siz3 .i64 data0_1 a1_1 hi_156 ?_
                obtain ⟨t160_12, hc_78, H⟩ := H
                refine rop_one one3 (VI t160_12) hc_78 ?_
                obtain ⟨hi_157, H⟩ := H
                refine pop_index sli27 siz3 .i64 data0_1 j11_11 hi_157 ?_
                obtain ⟨t164_12, hc_77, H⟩ := H
                refine rop_one one3 (VI t164_12) hc_77 ?_
                obtain ⟨hi_158, H⟩ := H
                refine pop_index sli27 siz3 .i64 data0_1 j11_11 hi_158 ?_
                obtain ⟨hw_59, hL_86, H⟩ := H
                refine uop_cell (v := (VI t160_12)) siz3 hw_59 rfl (fun h_86 he_59 => ?_)
                rw [← he_59] at hL_86
                have H := H h_86 he_59 hL_86
                obtain ⟨hi_159, H⟩ := H
                refine pop_index sli27 siz3 .i64 data0_1 a1_1 hi_159 ?_
                obtain ⟨hw_60, hL_87, H⟩ := H
                refine uop_cell (v := (VI t164_12)) siz3 hw_60 rfl (fun h_87 he_60 => ?_)
                rw [← he_60] at hL_87
                have H := H h_87 he_60 hL_87
                exact H
              · have H := H.2 hb_39
                obtain ⟨hi_160, H⟩ := H
                refine pop_index sli27 siz3 .i64 data0_1 j11_11 hi_160 ?_
                obtain ⟨t142_12, hc_80, H⟩ := H
                refine rop_one one3 (VI t142_12) hc_80 ?_
                obtain ⟨hi_161, H⟩ := H
                refine pop_index sli27 siz3 .i64 data0_1 i10_7 hi_161 ?_
                obtain ⟨t146_12, hc_79, H⟩ := H
                refine rop_one one3 (VI t146_12) hc_79 ?_
                obtain ⟨hi_162, H⟩ := H
                refine pop_index sli27 siz3 .i64 data0_1 i10_7 hi_162 ?_
                obtain ⟨hw_61, hL_88, H⟩ := H
                refine uop_cell (v := (VI t142_12)) siz3 hw_61 rfl (fun h_88 he_61 => ?_)
                rw [← he_61] at hL_88
                have H := H h_88 he_61 hL_88
                obtain ⟨hi_163, H⟩ := H
                refine pop_index sli27 siz3 .i64 data0_1 j11_11 hi_163 ?_
                obtain ⟨hw_62, hL_89, H⟩ := H
                refine uop_cell (v := (VI t146_12)) siz3 hw_62 rfl (fun h_89 he_62 => ?_)
                rw [← he_62] at hL_89
                have H := H h_89 he_62 hL_89
                refine pop_add .i64 i10_7 1 ?_
                refine pop_sub .i64 j11_11 1 ?_
                obtain ⟨m_24, hm_24, H⟩ := H
                exact hn_12 _ _ ⟨m_24, hm_24, (w64 (i10_7 + 1)), (w64 (j11_11 - 1)), rfl, H, hL_89⟩
    · have H := H.2 hb_27
      refine guardM_n' hb_27 (by decide) ?_
      refine guardM_n' hb_27 (by decide) ?_
      refine guardM_n' hb_27 (by decide) ?_
      refine guardM_n' hb_27 (by decide) ?_
      refine guardM_n' hb_27 (by decide) ?_
      refine guardM_n' hb_27 (by decide) ?_
      refine guardM_n' hb_27 (by decide) ?_
      refine guardM_n' hb_27 (by decide) ?_
      refine guardM_n' hb_27 (by decide) ?_
      refine pop_pickf' hb_27 ?_
      refine condM_f ?_
      refine pop_gtr .i64 i10_1 j11_8 ?_
      refine condM_b (fun hb_40 => ?_) (fun hb_40 => ?_)
      · have H := H.1 hb_40
        obtain ⟨hi_164, H⟩ := H
        refine pop_index sli27 siz3 .i64 data0_1 a1_1 hi_164 ?_
        obtain ⟨t73_4, hc_86, H⟩ := H
        refine rop_one one3 (VI t73_4) hc_86 ?_
        obtain ⟨hi_165, H⟩ := H
        refine pop_index sli27 siz3 .i64 data0_1 j11_8 hi_165 ?_
        obtain ⟨t77_4, hc_85, H⟩ := H
        refine rop_one one3 (VI t77_4) hc_85 ?_
        obtain ⟨hi_166, H⟩ := H
        refine pop_index sli27 siz3 .i64 data0_1 j11_8 hi_166 ?_
        obtain ⟨hw_63, hL_90, H⟩ := H
        refine uop_cell (v := (VI t73_4)) siz3 hw_63 rfl (fun h_90 he_63 => ?_)
        rw [← he_63] at hL_90
        have H := H h_90 he_63 hL_90
        obtain ⟨hi_167, H⟩ := H
        refine pop_index sli27 siz3 .i64 data0_1 a1_1 hi_167 ?_
        obtain ⟨hw_64, hL_91, H⟩ := H
        refine uop_cell (v := (VI t77_4)) siz3 hw_64 rfl (fun h_91 he_64 => ?_)
        rw [← he_64] at hL_91
        have H := H h_91 he_64 hL_91
        exact H
      · have H := H.2 hb_40
        obtain ⟨hi_168, H⟩ := H
        refine pop_index sli27 siz3 .i64 data0_1 j11_8 hi_168 ?_
        obtain ⟨t88_4, hc_110, H⟩ := H
        refine rop_one one3 (VI t88_4) hc_110 ?_
        obtain ⟨hi_169, H⟩ := H
        refine pop_index sli27 siz3 .i64 data0_1 i10_1 hi_169 ?_
        obtain ⟨t92_4, hc_109, H⟩ := H
        refine rop_one one3 (VI t92_4) hc_109 ?_
        obtain ⟨hi_170, H⟩ := H
        refine pop_index sli27 siz3 .i64 data0_1 i10_1 hi_170 ?_
        obtain ⟨hw_65, hL_92, H⟩ := H
        refine uop_cell (v := (VI t88_4)) siz3 hw_65 rfl (fun h_92 he_65 => ?_)
        rw [← he_65] at hL_92
        have H := H h_92 he_65 hL_92
        obtain ⟨hi_171, H⟩ := H
        refine pop_index sli27 siz3 .i64 data0_1 j11_8 hi_171 ?_
        obtain ⟨hw_66, hL_93, H⟩ := H
        refine uop_cell (v := (VI t92_4)) siz3 hw_66 rfl (fun h_93 he_66 => ?_)
        rw [← he_66] at hL_93
        have H := H h_93 he_66 hL_93
        refine pop_add .i64 i10_1 1 ?_
        refine pop_sub .i64 j11_8 1 ?_
        obtain ⟨J_16, ⟨n_36, h0_17⟩, HB_17⟩ := H
        refine loop_intro (J := fun (n : Nat) (vs : List Value) (h' : Heap) => ∃ i10_8 : Int, ∃ j11_12 : Int, vs = [(VI i10_8), (VI j11_12)] ∧ J_16 n i10_8 j11_12 h' ∧ Vars h' []) n_36 ⟨(w64 (i10_1 + 1)), (w64 (j11_8 - 1)), rfl, h0_17, hL_93⟩ ?_
        intro I_17 mu_17 hI_17 junk_16 tv_20 tv_21 h_94 hi_172
        obtain ⟨n_29, ⟨i10_8, j11_12, hv, hJ_16, hL_94⟩, hn_16⟩ := hI_17 _ _ hi_172
        cases hv
        have H := HB_17 n_29 i10_8 j11_12 h_94 hJ_16 hL_94
        obtain ⟨J_17, ⟨n_35, h0_16⟩, HB_16⟩ := H
        refine loop_intro (J := fun (n : Nat) (vs : List Value) (h' : Heap) => ∃ i10_9 : Int, vs = [(VI i10_9)] ∧ J_17 n i10_9 h' ∧ Vars h' []) n_35 ⟨i10_8, rfl, h0_16, hL_94⟩ ?_
        intro I_16 mu_16 hI_16 junk_17 tv_19 h_95 hi_173
        obtain ⟨n_30, ⟨i10_9, hv, hJ_17, hL_95⟩, hn_17⟩ := hI_16 _ _ hi_173
        cases hv
        have H := HB_16 n_30 i10_9 h_95 hJ_17 hL_95
        refine pop_leq .i64 i10_9 j11_12 ?_
        refine guardM_st (fun hb_41 => ?_) (fun hb_41 => ?_)
        · have H := H.1 hb_41
          refine guardM_y' hb_41 ?_
          refine guardM_y' hb_41 ?_
          obtain ⟨hi_174, H⟩ := H
          refine pop_index sli27 siz3 .i64 data0_1 i10_9 hi_174 ?_
          refine guardM_y' hb_41 ?_
          obtain ⟨t106_4, hc_98, H⟩ := H
          refine rop_one one3 (VI t106_4) hc_98 ?_
          refine guardM_y' hb_41 ?_
          refine guardM_y' hb_41 ?_
          refine guardM_y' hb_41 ?_
          obtain ⟨hi_175, H⟩ := H
          refine pop_index sli27 siz3 .i64 data0_1 a1_1 hi_175 ?_
          refine guardM_y' hb_41 ?_
          obtain ⟨t110_4, hc_97, H⟩ := H
          refine rop_one one3 (VI t110_4) hc_97 ?_
          refine guardM_y' hb_41 ?_
          refine H.mono fun rv_13 h_96 H => ?_
          obtain ⟨t111_4, rfl, hL_96, H⟩ := H
          refine pop_pickt' hb_41 ?_
          refine condM_b (fun hb_42 => ?_) (fun hb_42 => ?_)
          · have H := H.1 hb_42
            refine pop_add .i64 i10_9 1 ?_
            obtain ⟨m_25, hm_25, H⟩ := H
            exact hn_17 _ _ ⟨m_25, hm_25, (w64 (i10_9 + 1)), rfl, H, hL_96⟩
          · have H := H.2 hb_42
            obtain ⟨J_18, ⟨n_32, h0_14⟩, HB_14⟩ := H
            refine loop_intro (J := fun (n : Nat) (vs : List Value) (h' : Heap) => ∃ j11_13 : Int, vs = [(VI j11_13)] ∧ J_18 n j11_13 h' ∧ Vars h' []) n_32 ⟨j11_12, rfl, h0_14, hL_96⟩ ?_
            intro I_14 mu_14 hI_14 junk_18 tv_17 h_97 hi_176
            obtain ⟨n_31, ⟨j11_13, hv, hJ_18, hL_97⟩, hn_18⟩ := hI_14 _ _ hi_176
            cases hv
            have H := HB_14 n_31 j11_13 h_97 hJ_18 hL_97
            refine pop_leq .i64 i10_9 j11_13 ?_
            refine guardM_st (fun hb_43 => ?_) (fun hb_43 => ?_)
            · have H := H.1 hb_43
              refine guardM_y' hb_43 ?_
              refine guardM_y' hb_43 ?_
              obtain ⟨hi_177, H⟩ := H
              refine pop_index sli27 siz3 .i64 data0_1 j11_13 hi_177 ?_
              refine guardM_y' hb_43 ?_
              obtain ⟨t122_7, hc_92, H⟩ := H
              refine rop_one one3 (VI t122_7) hc_92 ?_
              refine guardM_y' hb_43 ?_
              refine guardM_y' hb_43 ?_
              refine guardM_y' hb_43 ?_
              obtain ⟨hi_178, H⟩ := H
              refine pop_index sli27 siz3 .i64 data0_1 a1_1 hi_178 ?_
              refine guardM_y' hb_43 ?_
              obtain ⟨t126_7, hc_91, H⟩ := H
              refine rop_one one3 (VI t126_7) hc_91 ?_
              refine guardM_y' hb_43 ?_
              refine H.mono fun rv_14 h_98 H => ?_
              obtain ⟨t127_7, rfl, hL_98, H⟩ := H
              refine guardM_y' hb_43 ?_
              refine pop_not t127_7 ?_
              refine pop_pickt' hb_43 ?_
              refine condM_b (fun hb_44 => ?_) (fun hb_44 => ?_)
              · have H := H.1 hb_44
                refine pop_sub .i64 j11_13 1 ?_
                obtain ⟨m_26, hm_26, H⟩ := H
                exact hn_18 _ _ ⟨m_26, hm_26, (w64 (j11_13 - 1)), rfl, H, hL_98⟩
              · have H := H.2 hb_44
                refine pop_gtr .i64 i10_9 j11_13 ?_
                refine condM_b (fun hb_45 => ?_) (fun hb_45 => ?_)
                · have H := H.1 hb_45
                  obtain ⟨hi_179, H⟩ := H
                  refine pop_index sli27 siz3 .i64 data0_1 a1_1 hi_179 ?_
                  obtain ⟨t160_13, hc_88, H⟩ := H
                  refine rop_one one3 (VI t160_13) hc_88 ?_
                  obtain ⟨hi_180, H⟩ := H
                  refine pop_index sli27 siz3 .i64 data0_1 j11_13 hi_180 ?_
                  obtain ⟨t164_13, hc_87, H⟩ := H
                  refine rop_one one3 (VI t164_13) hc_87 ?_
                  obtain ⟨hi_181, H⟩ := H
                  refine pop_index sli27 siz3 .i64 data0_1 j11_13 hi_181 ?_
                  obtain ⟨hw_67, hL_99, H⟩ := H
                  refine uop_cell (v := (VI t160_13)) siz3 hw_67 rfl (fun h_99 he_67 => ?_)
                  rw [← he_67] at hL_99
                  have H := H h_99 he_67 hL_99
                  obtain ⟨hi_182, H⟩ := H
                  refine pop_index sli27 siz3 .i64 data0_1 a1_1 hi_182 ?_
                  obtain ⟨hw_68, hL_100, H⟩ := H
                  refine uop_cell (v := (VI t164_13)) siz3 hw_68 rfl (fun h_100 he_68 => ?_)
                  rw [← he_68] at hL_100
                  have H := H h_100 he_68 hL_100
                  exact H
                · have H := H.2 hb_45
                  obtain ⟨hi_183, H⟩ := H
                  refine pop_index sli27 siz3 .i64 data0_1 j11_13 hi_183 ?_
                  obtain ⟨t142_13, hc_90, H⟩ := H
                  refine rop_one one3 (VI t142_13) hc_90 ?_
                  obtain ⟨hi_184, H⟩ := H
                  refine pop_index sli27 siz3 .i64 data0_1 i10_9 hi_184 ?_
                  obtain ⟨t146_13, hc_89, H⟩ := H
                  refine rop_one one3 (VI t146_13) hc_89 ?_
                  obtain ⟨hi_185, H⟩ := H
                  refine pop_index sli27 siz3 .i64 data0_1 i10_9 hi_185 ?_
                  obtain ⟨hw_69, hL_101, H⟩ := H
                  refine uop_cell (v := (VI t142_13)) siz3 hw_69 rfl (fun h_101 he_69 => ?_)
                  rw [← he_69] at hL_101
                  have H := H h_101 he_69 hL_101
                  obtain ⟨hi_186, H⟩ := H
                  refine pop_index sli27 siz3 .i64 data0_1 j11_13 hi_186 ?_
                  obtain ⟨hw_70, hL_102, H⟩ := H
                  refine uop_cell (v := (VI t146_13)) siz3 hw_70 rfl (fun h_102 he_70 => ?_)
                  rw [← he_70] at hL_102
                  have H := H h_102 he_70 hL_102
                  refine pop_add .i64 i10_9 1 ?_
                  refine pop_sub .i64 j11_13 1 ?_
                  obtain ⟨m_27, hm_27, H⟩ := H
                  exact hn_16 _ _ ⟨m_27, hm_27, (w64 (i10_9 + 1)), (w64 (j11_13 - 1)), rfl, H, hL_102⟩
            · have H := H.2 hb_43
              refine guardM_n' hb_43 (by decide) ?_
              refine guardM_n' hb_43 (by decide) ?_
              refine guardM_n' hb_43 (by decide) ?_
              refine guardM_n' hb_43 (by decide) ?_
              refine guardM_n' hb_43 (by decide) ?_
              refine guardM_n' hb_43 (by decide) ?_
              refine guardM_n' hb_43 (by decide) ?_
              refine guardM_n' hb_43 (by decide) ?_
              refine guardM_n' hb_43 (by decide) ?_
              refine pop_pickf' hb_43 ?_
              refine condM_f ?_
              refine pop_gtr .i64 i10_9 j11_13 ?_
              refine condM_b (fun hb_46 => ?_) (fun hb_46 => ?_)
              · have H := H.1 hb_46
                obtain ⟨hi_187, H⟩ := H
                refine pop_index sli27 siz3 .i64 data0_1 a1_1 hi_187 ?_
                obtain ⟨t160_14, hc_94, H⟩ := H
                refine rop_one one3 (VI t160_14) hc_94 ?_
                obtain ⟨hi_188, H⟩ := H
                refine pop_index sli27 siz3 .i64 data0_1 j11_13 hi_188 ?_
                obtain ⟨t164_14, hc_93, H⟩ := H
                refine rop_one one3 (VI t164_14) hc_93 ?_
                obtain ⟨hi_189, H⟩ := H
                refine pop_index sli27 siz3 .i64 data0_1 j11_13 hi_189 ?_
                obtain ⟨hw_71, hL_103, H⟩ := H
                refine uop_cell (v := (VI t160_14)) siz3 hw_71 rfl (fun h_103 he_71 => ?_)
                rw [← he_71] at hL_103
                have H := H h_103 he_71 hL_103
                obtain ⟨hi_190, H⟩ := H
                refine pop_index sli27 siz3 .i64 data0_1 a1_1 hi_190 ?_
                obtain ⟨hw_72, hL_104, H⟩ := H
                refine uop_cell (v := (VI t164_14)) siz3 hw_72 rfl (fun h_104 he_72 => ?_)
                rw [← he_72] at hL_104
                have H := H h_104 he_72 hL_104
                exact H
              · have H := H.2 hb_46
                obtain ⟨hi_191, H⟩ := H
                refine pop_index sli27 siz3 .i64 data0_1 j11_13 hi_191 ?_
                obtain ⟨t142_14, hc_96, H⟩ := H
                refine rop_one one3 (VI t142_14) hc_96 ?_
                obtain ⟨hi_192, H⟩ := H
                refine pop_index sli27 siz3 .i64 data0_1 i10_9 hi_192 ?_
                obtain ⟨t146_14, hc_95, H⟩ := H
                refine rop_one one3 (VI t146_14) hc_95 ?_
                obtain ⟨hi_193, H⟩ := H
                refine pop_index sli27 siz3 .i64 data0_1 i10_9 hi_193 ?_
                obtain ⟨hw_73, hL_105, H⟩ := H
                refine uop_cell (v := (VI t142_14)) siz3 hw_73 rfl (fun h_105 he_73 => ?_)
                rw [← he_73] at hL_105
                have H := H h_105 he_73 hL_105
                obtain ⟨hi_194, H⟩ := H
                refine pop_index sli27 siz3 .i64 data0_1 j11_13 hi_194 ?_
                obtain ⟨hw_74, hL_106, H⟩ := H
                refine uop_cell (v := (VI t146_14)) siz3 hw_74 rfl (fun h_106 he_74 => ?_)
                rw [← he_74] at hL_106
                have H := H h_106 he_74 hL_106
                refine pop_add .i64 i10_9 1 ?_
                refine pop_sub .i64 j11_13 1 ?_
                obtain ⟨m_28, hm_28, H⟩ := H
                exact hn_16 _ _ ⟨m_28, hm_28, (w64 (i10_9 + 1)), (w64 (j11_13 - 1)), rfl, H, hL_106⟩
        · have H := H.2 hb_41
          refine guardM_n' hb_41 (by decide) ?_
          refine guardM_n' hb_41 (by decide) ?_
          refine guardM_n' hb_41 (by decide) ?_
          refine guardM_n' hb_41 (by decide) ?_
          refine guardM_n' hb_41 (by decide) ?_
          refine guardM_n' hb_41 (by decide) ?_
          refine guardM_n' hb_41 (by decide) ?_
          refine guardM_n' hb_41 (by decide) ?_
          refine pop_pickf' hb_41 ?_
          refine condM_f ?_
          obtain ⟨J_19, ⟨n_34, h0_15⟩, HB_15⟩ := H
          refine loop_intro (J := fun (n : Nat) (vs : List Value) (h' : Heap) => ∃ j11_14 : Int, vs = [(VI j11_14)] ∧ J_19 n j11_14 h' ∧ Vars h' []) n_34 ⟨j11_12, rfl, h0_15, hL_95⟩ ?_
          intro I_15 mu_15 hI_15 junk_19 tv_18 h_107 hi_195
          obtain ⟨n_33, ⟨j11_14, hv, hJ_19, hL_107⟩, hn_19⟩ := hI_15 _ _ hi_195
          cases hv
          have H := HB_15 n_33 j11_14 h_107 hJ_19 hL_107
          refine pop_leq .i64 i10_9 j11_14 ?_
          refine guardM_st (fun hb_47 => ?_) (fun hb_47 => ?_)
          · have H := H.1 hb_47
            refine guardM_y' hb_47 ?_
            refine guardM_y' hb_47 ?_
            obtain ⟨hi_196, H⟩ := H
            refine pop_index sli27 siz3 .i64 data0_1 j11_14 hi_196 ?_
            refine guardM_y' hb_47 ?_
            obtain ⟨t122_8, hc_104, H⟩ := H
            refine rop_one one3 (VI t122_8) hc_104 ?_
            refine guardM_y' hb_47 ?_
            refine guardM_y' hb_47 ?_
            refine guardM_y' hb_47 ?_
            obtain ⟨hi_197, H⟩ := H
            refine pop_index sli27 siz3 .i64 data0_1 a1_1 hi_197 ?_
            refine guardM_y' hb_47 ?_
            obtain ⟨t126_8, hc_103, H⟩ := H
            refine rop_one one3 (VI t126_8) hc_103 ?_
            refine guardM_y' hb_47 ?_
            refine H.mono fun rv_15 h_108 H => ?_
            obtain ⟨t127_8, rfl, hL_108, H⟩ := H
            refine guardM_y' hb_47 ?_
            refine pop_not t127_8 ?_
            refine pop_pickt' hb_47 ?_
            refine condM_b (fun hb_48 => ?_) (fun hb_48 => ?_)
            · have H := H.1 hb_48
              refine pop_sub .i64 j11_14 1 ?_
              obtain ⟨m_29, hm_29, H⟩ := H
              exact hn_19 _ _ ⟨m_29, hm_29, (w64 (j11_14 - 1)), rfl, H, hL_108⟩
            · have H := H.2 hb_48
              refine pop_gtr .i64 i10_9 j11_14 ?_
              refine condM_b (fun hb_49 => ?_) (fun hb_49 => ?_)
              · have H := H.1 hb_49
                obtain ⟨hi_198, H⟩ := H
                refine pop_index sli27 siz3 .i64 data0_1 a1_1 hi_198 ?_
                obtain ⟨t160_15, hc_100, H⟩ := H
                refine rop_one one3 (VI t160_15) hc_100 ?_
                obtain ⟨hi_199, H⟩ := H
                refine pop_index sli27 siz3 .i64 data0_1 j11_14 hi_199 ?_
                obtain ⟨t164_15, hc_99, H⟩ := H
                refine rop_one one3 (VI t164_15) hc_99 ?_
                obtain ⟨hi_200, H⟩ := H
                refine pop_index sli27 siz3 .i64 data0_1 j11_14 hi_200 ?_
                obtain ⟨hw_75, hL_109, H⟩ := H
                refine uop_cell (v := (VI t160_15)) siz3 hw_75 rfl (fun h_109 he_75 => ?_)
                rw [← he_75] at hL_109
                have H := H h_109 he_75 hL_109
                obtain ⟨hi_201, H⟩ := H
                refine pop_index sli27 siz3 .i64 data0_1 a1_1 hi_201 ?_
                obtain ⟨hw_76, hL_110, H⟩ := H
                refine uop_cell (v := (VI t164_15)) siz3 hw_76 rfl (fun h_110 he_76 => ?_)
                rw [← he_76] at hL_110
                have H := H h_110 he_76 hL_110
                exact H
              · have H := H.2 hb_49
                obtain ⟨hi_202, H⟩ := H
                refine pop_index sli27 siz3 .i64 data0_1 j11_14 hi_202 ?_
                obtain ⟨t142_15, hc_102, H⟩ := H
                refine rop_one one3 (VI t142_15) hc_102 ?_
                obtain ⟨hi_203, H⟩ := H
                refine pop_index sli27 siz3 .i64 data0_1 i10_9 hi_203 ?_
                obtain ⟨t146_15, hc_101, H⟩ := H
                refine rop_one one3 (VI t146_15) hc_101 ?_
                obtain ⟨hi_204, H⟩ := H
                refine pop_index sli27 siz3 .i64 data0_1 i10_9 hi_204 ?_
                obtain ⟨hw_77, hL_111, H⟩ := H
                refine uop_cell (v := (VI t142_15)) siz3 hw_77 rfl (fun h_111 he_77 => ?_)
                rw [← he_77] at hL_111
                have H := H h_111 he_77 hL_111
                obtain ⟨hi_205, H⟩ := H
                refine pop_index sli27 siz3 .i64 data0_1 j11_14 hi_205 ?_
                obtain ⟨hw_78, hL_112, H⟩ := H
                refine uop_cell (v := (VI t146_15)) siz3 hw_78 rfl (fun h_112 he_78 => ?_)
                rw [← he_78] at hL_112
                have H := H h_112 he_78 hL_112
                refine pop_add .i64 i10_9 1 ?_
                refine pop_sub .i64 j11_14 1 ?_
                obtain ⟨m_30, hm_30, H⟩ := H
                exact hn_16 _ _ ⟨m_30, hm_30, (w64 (i10_9 + 1)), (w64 (j11_14 - 1)), rfl, H, hL_112⟩
          · have H := H.2 hb_47
            refine guardM_n' hb_47 (by decide) ?_
            refine guardM_n' hb_47 (by decide) ?_
            refine guardM_n' hb_47 (by decide) ?_
            refine guardM_n' hb_47 (by decide) ?_
            refine guardM_n' hb_47 (by decide) ?_
            refine guardM_n' hb_47 (by decide) ?_
            refine guardM_n' hb_47 (by decide) ?_
            refine guardM_n' hb_47 (by decide) ?_
            refine guardM_n' hb_47 (by decide) ?_
            refine pop_pickf' hb_47 ?_
            refine condM_f ?_
            refine pop_gtr .i64 i10_9 j11_14 ?_
            refine condM_b (fun hb_50 => ?_) (fun hb_50 => ?_)
            · have H := H.1 hb_50
              obtain ⟨hi_206, H⟩ := H
              refine pop_index sli27 siz3 .i64 data0_1 a1_1 hi_206 ?_
              obtain ⟨t160_16, hc_106, H⟩ := H
              refine rop_one one3 (VI t160_16) hc_106 ?_
              obtain ⟨hi_207, H⟩ := H
              refine pop_index sli27 siz3 .i64 data0_1 j11_14 hi_207 ?_
              obtain ⟨t164_16, hc_105, H⟩ := H
              refine rop_one one3 (VI t164_16) hc_105 ?_
              obtain ⟨hi_208, H⟩ := H
              refine pop_index sli27 siz3 .i64 data0_1 j11_14 hi_208 ?_
              obtain ⟨hw_79, hL_113, H⟩ := H
              refine uop_cell (v := (VI t160_16)) siz3 hw_79 rfl (fun h_113 he_79 => ?_)
              rw [← he_79] at hL_113
              have H := H h_113 he_79 hL_113
              obtain ⟨hi_209, H⟩ := H
              refine pop_index sli27 siz3 .i64 data0_1 a1_1 hi_209 ?_
              obtain ⟨hw_80, hL_114, H⟩ := H
              refine uop_cell (v := (VI t164_16)) siz3 hw_80 rfl (fun h_114 he_80 => ?_)
              rw [← he_80] at hL_114
              have H := H h_114 he_80 hL_114
              exact H
            · have H := H.2 hb_50
              obtain ⟨hi_210, H⟩ := H
              refine pop_index sli27 siz3 .i64 data0_1 j11_14 hi_210 ?_
              obtain ⟨t142_16, hc_108, H⟩ := H
              refine rop_one one3 (VI t142_16) hc_108 ?_
              obtain ⟨hi_211, H⟩ := H
              refine pop_index sli27 siz3 .i64 data0_1 i10_9 hi_211 ?_
              obtain ⟨t146_16, hc_107, H⟩ := H
              refine rop_one one3 (VI t146_16) hc_107 ?_
              obtain ⟨hi_212, H⟩ := H
              refine pop_index sli27 siz3 .i64 data0_1 i10_9 hi_212 ?_
              obtain ⟨hw_81, hL_115, H⟩ := H
              refine uop_cell (v := (VI t142_16)) siz3 hw_81 rfl (fun h_115 he_81 => ?_)
              rw [← he_81] at hL_115
              have H := H h_115 he_81 hL_115
              obtain ⟨hi_213, H⟩ := H
              refine pop_index sli27 siz3 .i64 data0_1 j11_14 hi_213 ?_
              obtain ⟨hw_82, hL_116, H⟩ := H
              refine uop_cell (v := (VI t146_16)) siz3 hw_82 rfl (fun h_116 he_82 => ?_)
              rw [← he_82] at hL_116
              have H := H h_116 he_82 hL_116
              refine pop_add .i64 i10_9 1 ?_
              refine pop_sub .i64 j11_14 1 ?_
              obtain ⟨m_31, hm_31, H⟩ := H
              exact hn_16 _ _ ⟨m_31, hm_31, (w64 (i10_9 + 1)), (w64 (j11_14 - 1)), rfl, H, hL_116⟩

/-! math/bits.Len32 -/
def u153 (P : Program) (x0_1 : Int) (h : Heap) (K : Value → Heap → Prop) : Prop :=
  ∃ J_1 : Int → Int → Heap → Prop, (((decide (65536 ≤ x0_1)) = true →
  pop P (binA .shr 140 (Value.int .u32 x0_1) (Value.int IntKind.u64 16)) fun rv_1 => ∃ t6_1 : Int, rv_1 = (Value.int .u32 t6_1) ∧ 
  J_1 t6_1 16 h) ∧
  ((decide (65536 ≤ x0_1)) = false →
  J_1 x0_1 0 h)) ∧
  ∀ (x_1 : Int) (x_2 : Int) (h_1 : Heap), J_1 x_1 x_2 h_1 → Vars h_1 [] →
  ∃ J_2 : Int → Int → Heap → Prop, (((decide (256 ≤ x_1)) = true →
  pop P (binA .shr 140 (Value.int .u32 x_1) (Value.int IntKind.u64 8)) fun rv_2 => ∃ t10_1 : Int, rv_2 = (Value.int .u32 t10_1) ∧ 
  J_2 t10_1 (w64 (x_2 + 8)) h_1) ∧
  ((decide (256 ≤ x_1)) = false →
  J_2 x_1 x_2 h_1)) ∧
  ∀ (x_3 : Int) (x_4 : Int) (h_2 : Heap), J_2 x_3 x_4 h_2 → Vars h_2 [] →
  rop P (convert 140 5 (Value.int .u32 x_3)) h_2 fun rv_3 => ∃ t15_1 : Int, rv_3 = (Value.int .u8 t15_1) ∧ 
  pop P (Instr.index 9 (Value.string { data := #[0, 1, 2, 2, 3, 3, 3, 3, 4, 4, 4, 4, 4, 4, 4, 4, 5, 5, 5, 5, 5, 5, 5, 5, 5, 5, 5, 5, 5, 5, 5, 5, 6, 6, 6, 6, 6, 6, 6, 6, 6, 6, 6, 6, 6, 6, 6, 6, 6, 6, 6, 6, 6, 6, 6, 6, 6, 6, 6, 6, 6, 6, 6, 6, 7, 7, 7, 7, 7, 7, 7, 7, 7, 7, 7, 7, 7, 7, 7, 7, 7, 7, 7, 7, 7, 7, 7, 7, 7, 7, 7, 7, 7, 7, 7, 7, 7, 7, 7, 7, 7, 7, 7, 7, 7, 7, 7, 7, 7, 7, 7, 7, 7, 7, 7, 7, 7, 7, 7, 7, 7, 7, 7, 7, 7, 7, 7, 7, 8, 8, 8, 8, 8, 8, 8, 8, 8, 8, 8, 8, 8, 8, 8, 8, 8, 8, 8, 8, 8, 8, 8, 8, 8, 8, 8, 8, 8, 8, 8, 8, 8, 8, 8, 8, 8, 8, 8, 8, 8, 8, 8, 8, 8, 8, 8, 8, 8, 8, 8, 8, 8, 8, 8, 8, 8, 8, 8, 8, 8, 8, 8, 8, 8, 8, 8, 8, 8, 8, 8, 8, 8, 8, 8, 8, 8, 8, 8, 8, 8, 8, 8, 8, 8, 8, 8, 8, 8, 8, 8, 8, 8, 8, 8, 8, 8, 8, 8, 8, 8, 8, 8, 8, 8, 8, 8, 8, 8, 8, 8, 8, 8, 8, 8, 8, 8, 8, 8, 8, 8, 8, 8, 8, 8, 8, 8, 8] }) (Value.int .u8 t15_1)) fun rv_4 => ∃ t16_1 : Int, rv_4 = (Value.int .u8 t16_1) ∧ 
  rop P (convert 5 3 (Value.int .u8 t16_1)) h_2 fun rv_5 => ∃ t17_1 : Int, rv_5 = (VI t17_1) ∧ 
  K (VI (w64 (x_4 + t17_1))) h_2
theorem v153 (x0_1 : Int) (h : Heap) (K : Value → Heap → Prop) (H : u153 Try.prog x0_1 h K) : callM Try.prog 153 #[(Value.int .u32 x0_1)] h K := by
  refine c153 (Value.int .u32 x0_1) h K ?_
  unfold u153 at H
  unfold t153
  have hL : Vars h [] := .nil
  obtain ⟨J_1, H, HB_2⟩ := H
  refine ⟨fun (vs : List Value) (h' : Heap) => ∃ x_1 : Int, ∃ x_2 : Int, vs = [(Value.int .u32 x_1), (VI x_2)] ∧ J_1 x_1 x_2 h' ∧ Vars h' [], ?_, ?_⟩
  · refine pop_geq .u32 x0_1 65536 ?_
    refine condM_b (fun hb_1 => ?_) (fun hb_1 => ?_)
    · have H := H.1 hb_1
      refine H.mono fun rv_1 H => ?_
      obtain ⟨t6_1, rfl, H⟩ := H
      exact ⟨t6_1, 16, rfl, H, hL⟩
    · have H := H.2 hb_1
      exact ⟨x0_1, 0, rfl, H, hL⟩
  intro junk_1 tv_1 tv_2 h_1
  rintro ⟨x_1, x_2, hv, hJ_1, hL_1⟩
  cases hv
  have H := HB_2 x_1 x_2 h_1 hJ_1 hL_1
  obtain ⟨J_2, H, HB_1⟩ := H
  refine ⟨fun (vs : List Value) (h' : Heap) => ∃ x_3 : Int, ∃ x_4 : Int, vs = [(Value.int .u32 x_3), (VI x_4)] ∧ J_2 x_3 x_4 h' ∧ Vars h' [], ?_, ?_⟩
  · refine pop_geq .u32 x_1 256 ?_
    refine condM_b (fun hb_2 => ?_) (fun hb_2 => ?_)
    · have H := H.1 hb_2
      refine H.mono fun rv_2 H => ?_
      obtain ⟨t10_1, rfl, H⟩ := H
      refine pop_add .i64 x_2 8 ?_
      exact ⟨t10_1, (w64 (x_2 + 8)), rfl, H, hL_1⟩
    · have H := H.2 hb_2
      exact ⟨x_1, x_2, rfl, H, hL_1⟩
  intro junk_2 tv_3 tv_4 h_2
  rintro ⟨x_3, x_4, hv, hJ_2, hL_2⟩
  cases hv
  have H := HB_1 x_3 x_4 h_2 hJ_2 hL_2
  refine H.mono fun rv_3 H => ?_
  obtain ⟨t15_1, rfl, H⟩ := H
  refine H.mono fun rv_4 H => ?_
  obtain ⟨t16_1, rfl, H⟩ := H
  refine H.mono fun rv_5 H => ?_
  obtain ⟨t17_1, rfl, H⟩ := H
  refine pop_add .i64 x_4 t17_1 ?_
  exact H

/-! math/bits.Len64 -/
def u154 (P : Program) (x0_1 : Int) (h : Heap) (K : Value → Heap → Prop) : Prop :=
  ∃ J_1 : Int → Int → Heap → Prop, (((decide (4294967296 ≤ x0_1)) = true →
  pop P (binA .shr 84 (Value.int .u64 x0_1) (Value.int IntKind.u64 32)) fun rv_1 => ∃ t6_1 : Int, rv_1 = (Value.int .u64 t6_1) ∧ 
  J_1 t6_1 32 h) ∧
  ((decide (4294967296 ≤ x0_1)) = false →
  J_1 x0_1 0 h)) ∧
  ∀ (x_1 : Int) (x_2 : Int) (h_1 : Heap), J_1 x_1 x_2 h_1 → Vars h_1 [] →
  ∃ J_2 : Int → Int → Heap → Prop, (((decide (65536 ≤ x_1)) = true →
  pop P (binA .shr 84 (Value.int .u64 x_1) (Value.int IntKind.u64 16)) fun rv_2 => ∃ t10_1 : Int, rv_2 = (Value.int .u64 t10_1) ∧ 
  J_2 t10_1 (w64 (x_2 + 16)) h_1) ∧
  ((decide (65536 ≤ x_1)) = false →
  J_2 x_1 x_2 h_1)) ∧
  ∀ (x_3 : Int) (x_4 : Int) (h_2 : Heap), J_2 x_3 x_4 h_2 → Vars h_2 [] →
  ∃ J_3 : Int → Int → Heap → Prop, (((decide (256 ≤ x_3)) = true →
  pop P (binA .shr 84 (Value.int .u64 x_3) (Value.int IntKind.u64 8)) fun rv_3 => ∃ t16_1 : Int, rv_3 = (Value.int .u64 t16_1) ∧ 
  J_3 t16_1 (w64 (x_4 + 8)) h_2) ∧
  ((decide (256 ≤ x_3)) = false →
  J_3 x_3 x_4 h_2)) ∧
  ∀ (x_5 : Int) (x_6 : Int) (h_3 : Heap), J_3 x_5 x_6 h_3 → Vars h_3 [] →
  rop P (convert 84 5 (Value.int .u64 x_5)) h_3 fun rv_4 => ∃ t21_1 : Int, rv_4 = (Value.int .u8 t21_1) ∧ 
  pop P (Instr.index 9 (Value.string { data := #[0, 1, 2, 2, 3, 3, 3, 3, 4, 4, 4, 4, 4, 4, 4, 4, 5, 5, 5, 5, 5, 5, 5, 5, 5, 5, 5, 5, 5, 5, 5, 5, 6, 6, 6, 6, 6, 6, 6, 6, 6, 6, 6, 6, 6, 6, 6, 6, 6, 6, 6, 6, 6, 6, 6, 6, 6, 6, 6, 6, 6, 6, 6, 6, 7, 7, 7, 7, 7, 7, 7, 7, 7, 7, 7, 7, 7, 7, 7, 7, 7, 7, 7, 7, 7, 7, 7, 7, 7, 7, 7, 7, 7, 7, 7, 7, 7, 7, 7, 7, 7, 7, 7, 7, 7, 7, 7, 7, 7, 7, 7, 7, 7, 7, 7, 7, 7, 7, 7, 7, 7, 7, 7, 7, 7, 7, 7, 7, 8, 8, 8, 8, 8, 8, 8, 8, 8, 8, 8, 8, 8, 8, 8, 8, 8, 8, 8, 8, 8, 8, 8, 8, 8, 8, 8, 8, 8, 8, 8, 8, 8, 8, 8, 8, 8, 8, 8, 8, 8, 8, 8, 8, 8, 8, 8, 8, 8, 8, 8, 8, 8, 8, 8, 8, 8, 8, 8, 8, 8, 8, 8, 8, 8, 8, 8, 8, 8, 8, 8, 8, 8, 8, 8, 8, 8, 8, 8, 8, 8, 8, 8, 8, 8, 8, 8, 8, 8, 8, 8, 8, 8, 8, 8, 8, 8, 8, 8, 8, 8, 8, 8, 8, 8, 8, 8, 8, 8, 8, 8, 8, 8, 8, 8, 8, 8, 8, 8, 8, 8, 8, 8, 8, 8, 8, 8, 8] }) (Value.int .u8 t21_1)) fun rv_5 => ∃ t22_1 : Int, rv_5 = (Value.int .u8 t22_1) ∧ 
  rop P (convert 5 3 (Value.int .u8 t22_1)) h_3 fun rv_6 => ∃ t23_1 : Int, rv_6 = (VI t23_1) ∧ 
  K (VI (w64 (x_6 + t23_1))) h_3
theorem v154 (x0_1 : Int) (h : Heap) (K : Value → Heap → Prop) (H : u154 Try.prog x0_1 h K) : callM Try.prog 154 #[(Value.int .u64 x0_1)] h K := by
  refine c154 (Value.int .u64 x0_1) h K ?_
  unfold u154 at H
  unfold t154
  have hL : Vars h [] := .nil
  obtain ⟨J_1, H, HB_3⟩ := H
  refine ⟨fun (vs : List Value) (h' : Heap) => ∃ x_1 : Int, ∃ x_2 : Int, vs = [(Value.int .u64 x_1), (VI x_2)] ∧ J_1 x_1 x_2 h' ∧ Vars h' [], ?_, ?_⟩
  · refine pop_geq .u64 x0_1 4294967296 ?_
    refine condM_b (fun hb_1 => ?_) (fun hb_1 => ?_)
    · have H := H.1 hb_1
      refine H.mono fun rv_1 H => ?_
      obtain ⟨t6_1, rfl, H⟩ := H
      exact ⟨t6_1, 32, rfl, H, hL⟩
    · have H := H.2 hb_1
      exact ⟨x0_1, 0, rfl, H, hL⟩
  intro junk_1 tv_1 tv_2 h_1
  rintro ⟨x_1, x_2, hv, hJ_1, hL_1⟩
  cases hv
  have H := HB_3 x_1 x_2 h_1 hJ_1 hL_1
  obtain ⟨J_2, H, HB_2⟩ := H
  refine ⟨fun (vs : List Value) (h' : Heap) => ∃ x_3 : Int, ∃ x_4 : Int, vs = [(Value.int .u64 x_3), (VI x_4)] ∧ J_2 x_3 x_4 h' ∧ Vars h' [], ?_, ?_⟩
  · refine pop_geq .u64 x_1 65536 ?_
    refine condM_b (fun hb_2 => ?_) (fun hb_2 => ?_)
    · have H := H.1 hb_2
      refine H.mono fun rv_2 H => ?_
      obtain ⟨t10_1, rfl, H⟩ := H
      refine pop_add .i64 x_2 16 ?_
      exact ⟨t10_1, (w64 (x_2 + 16)), rfl, H, hL_1⟩
    · have H := H.2 hb_2
      exact ⟨x_1, x_2, rfl, H, hL_1⟩
  intro junk_2 tv_3 tv_4 h_2
  rintro ⟨x_3, x_4, hv, hJ_2, hL_2⟩
  cases hv
  have H := HB_2 x_3 x_4 h_2 hJ_2 hL_2
  obtain ⟨J_3, H, HB_1⟩ := H
  refine ⟨fun (vs : List Value) (h' : Heap) => ∃ x_5 : Int, ∃ x_6 : Int, vs = [(Value.int .u64 x_5), (VI x_6)] ∧ J_3 x_5 x_6 h' ∧ Vars h' [], ?_, ?_⟩
  · refine pop_geq .u64 x_3 256 ?_
    refine condM_b (fun hb_3 => ?_) (fun hb_3 => ?_)
    · have H := H.1 hb_3
      refine H.mono fun rv_3 H => ?_
      obtain ⟨t16_1, rfl, H⟩ := H
      refine pop_add .i64 x_4 8 ?_
      exact ⟨t16_1, (w64 (x_4 + 8)), rfl, H, hL_2⟩
    · have H := H.2 hb_3
      exact ⟨x_3, x_4, rfl, H, hL_2⟩
  intro junk_3 tv_5 tv_6 h_3
  rintro ⟨x_5, x_6, hv, hJ_3, hL_3⟩
  cases hv
  have H := HB_1 x_5 x_6 h_3 hJ_3 hL_3
  refine H.mono fun rv_4 H => ?_
  obtain ⟨t21_1, rfl, H⟩ := H
  refine H.mono fun rv_5 H => ?_
  obtain ⟨t22_1, rfl, H⟩ := H
  refine H.mono fun rv_6 H => ?_
  obtain ⟨t23_1, rfl, H⟩ := H
  refine pop_add .i64 x_6 t23_1 ?_
  exact H

/-! slices.Min[[]int,int] -/
def u155 (P : Program) (x0_1 : Sl) (h : Heap) (K : Value → Heap → Prop) : Prop :=
  ∃ J_1 : Heap → Prop, (((decide ((x0_1.n : Int) < 1)) = true →
  pop P (Instr.makeInterface 9 (Value.string { data := #[115, 108, 105, 99, 101, 115, 46, 77, 105, 110, 58, 32, 101, 109, 112, 116, 121, 32, 108, 105, 115, 116] })) fun rv_1 => ∃ t8_1 : Value, rv_1 = t8_1 ∧ 
  False) ∧
  ((decide ((x0_1.n : Int) < 1)) = false →
  J_1  h)) ∧
  ∀ (h_1 : Heap), J_1  h_1 → Vars h_1 [] →
  InB x0_1 0 ∧
  ∃ t11_1 : Int, hcell h_1 (Sl.at x0_1 0 1) = some (VI t11_1) ∧
  ∃ J_2 : Nat → Int → Int → Heap → Prop, (∃ n0 : Nat, J_2 n0 t11_1 1 h_1) ∧
  ∀ (n_1 : Nat) (m3_1 : Int) (i4_1 : Int) (h_2 : Heap), J_2 n_1 m3_1 i4_1 h_2 → Vars h_2 [] →
  ((decide (i4_1 < (x0_1.n : Int))) = true →
  InB x0_1 i4_1 ∧
  ∃ t22_1 : Int, hcell h_2 (Sl.at x0_1 i4_1 1) = some (VI t22_1) ∧
  pop P (Builtin.min_ #[3, 3] 3 #[(VI m3_1), (VI t22_1)]) fun rv_2 => ∃ t23_1 : Int, rv_2 = (VI t23_1) ∧ 
  ∃ m : Nat, m < n_1 ∧ J_2 m t23_1 (w64 (i4_1 + 1)) h_2) ∧
  ((decide (i4_1 < (x0_1.n : Int))) = false →
  K (VI m3_1) h_2)
theorem v155 (x0_1 : Sl) (h : Heap) (K : Value → Heap → Prop) (H : u155 Try.prog x0_1 h K) : callM Try.prog 155 #[(Sl.v x0_1)] h K := by
  refine c155 (Sl.v x0_1) h K ?_
  unfold u155 at H
  unfold t155
  have hL : Vars h [] := .nil
  obtain ⟨J_1, H, HB_2⟩ := H
  refine ⟨fun (vs : List Value) (h' : Heap) => vs = [] ∧ J_1  h' ∧ Vars h' [], ?_, ?_⟩
  · refine pop_len x0_1 _ _ sli27 ?_
    refine pop_lss .i64 (x0_1.n : Int) 1 ?_
    refine condM_b (fun hb_1 => ?_) (fun hb_1 => ?_)
    · have H := H.1 hb_1
      refine H.mono fun rv_1 H => ?_
      obtain ⟨t8_1, rfl, H⟩ := H
      exact H.elim
    · have H := H.2 hb_1
      exact ⟨rfl, H, hL⟩
  intro junk_1  h_1
  rintro ⟨hv, hJ_1, hL_1⟩
  have H := HB_2  h_1 hJ_1 hL_1
  obtain ⟨hi_1, H⟩ := H
  refine pop_index sli27 siz3 .i64 x0_1 0 hi_1 ?_
  obtain ⟨t11_1, hc_2, H⟩ := H
  refine rop_one one3 (VI t11_1) hc_2 ?_
  obtain ⟨J_2, ⟨n_2, h0_1⟩, HB_1⟩ := H
  refine loop_intro (J := fun (n : Nat) (vs : List Value) (h' : Heap) => ∃ m3_1 : Int, ∃ i4_1 : Int, vs = [(VI m3_1), (VI i4_1)] ∧ J_2 n m3_1 i4_1 h' ∧ Vars h' []) n_2 ⟨t11_1, 1, rfl, h0_1, hL_1⟩ ?_
  intro I_1 mu_1 hI_1 junk_2 tv_1 tv_2 h_2 hi_2
  obtain ⟨n_1, ⟨m3_1, i4_1, hv, hJ_2, hL_2⟩, hn_1⟩ := hI_1 _ _ hi_2
  cases hv
  have H := HB_1 n_1 m3_1 i4_1 h_2 hJ_2 hL_2
  refine pop_len x0_1 _ _ sli27 ?_
  refine pop_lss .i64 i4_1 (x0_1.n : Int) ?_
  refine condM_b (fun hb_2 => ?_) (fun hb_2 => ?_)
  · have H := H.1 hb_2
    obtain ⟨hi_3, H⟩ := H
    refine pop_index sli27 siz3 .i64 x0_1 i4_1 hi_3 ?_
    obtain ⟨t22_1, hc_1, H⟩ := H
    refine rop_one one3 (VI t22_1) hc_1 ?_
    refine H.mono fun rv_2 H => ?_
    obtain ⟨t23_1, rfl, H⟩ := H
    refine pop_add .i64 i4_1 1 ?_
    obtain ⟨m_1, hm_1, H⟩ := H
    exact hn_1 _ _ ⟨m_1, hm_1, t23_1, (w64 (i4_1 + 1)), rfl, H, hL_2⟩
  · have H := H.2 hb_2
    exact H

/-! slices.Concat[[]int,int] -/
def u156 (P : Program) (slices0_1 : Sl) (h : Heap) (K : Value → Heap → Prop) : Prop :=
  ∃ J_1 : Nat → Int → Int → Heap → Prop, (∃ n0 : Nat, J_1 n0 0 0 h) ∧
  ∀ (n_1 : Nat) (size3_1 : Int) (t11_1 : Int) (h_1 : Heap), J_1 n_1 size3_1 t11_1 h_1 → Vars h_1 [] →
  ((decide (t11_1 < (slices0_1.n : Int))) = true →
  InB slices0_1 t11_1 ∧
  ∃ t14_1 : Sl, hcell h_1 (Sl.at slices0_1 t11_1 1) = some (Sl.v t14_1) ∧
  ((decide ((w64 (size3_1 + (t14_1.n : Int))) < 0)) = true →
  pop P (Instr.makeInterface 9 (Value.string { data := #[108, 101, 110, 32, 111, 117, 116, 32, 111, 102, 32, 114, 97, 110, 103, 101] })) fun rv_1 => ∃ t21_1 : Value, rv_1 = t21_1 ∧ 
  False) ∧
  ((decide ((w64 (size3_1 + (t14_1.n : Int))) < 0)) = false →
  ∃ m : Nat, m < n_1 ∧ J_1 m (w64 (size3_1 + (t14_1.n : Int))) (w64 (t11_1 + 1)) h_1)) ∧
  ((decide (t11_1 < (slices0_1.n : Int))) = false →
  callM P 163 #[(Sl.v nilSl), (VI size3_1)] h_1 fun rv_2 h_2 => ∃ t24_1 : Sl, rv_2 = (Sl.v t24_1) ∧ Vars h_2 [] ∧
  ∃ J_2 : Nat → Sl → Int → Heap → Prop, (∃ n0 : Nat, J_2 n0 t24_1 0 h_2) ∧
  ∀ (n_2 : Nat) (newslice6_1 : Sl) (t27_1 : Int) (h_3 : Heap), J_2 n_2 newslice6_1 t27_1 h_3 → Vars h_3 [] →
  ((decide (t27_1 < (slices0_1.n : Int))) = true →
  InB slices0_1 t27_1 ∧
  ∃ t30_1 : Sl, hcell h_3 (Sl.at slices0_1 t27_1 1) = some (Sl.v t30_1) ∧
  eop P (appS 27 27 27 (Sl.v newslice6_1) (Sl.v t30_1)) h_3 fun rv_3 h_4 => ∃ t33_1 : Sl, rv_3 = (Sl.v t33_1) ∧ Vars h_4 [] ∧
  ∃ m : Nat, m < n_2 ∧ J_2 m t33_1 (w64 (t27_1 + 1)) h_4) ∧
  ((decide (t27_1 < (slices0_1.n : Int))) = false →
  K (Sl.v newslice6_1) h_3))
theorem v156 (slices0_1 : Sl) (h : Heap) (K : Value → Heap → Prop) (H : u156 Try.prog slices0_1 h K) : callM Try.prog 156 #[(Sl.v slices0_1)] h K := by
  refine c156 (Sl.v slices0_1) h K ?_
  unfold u156 at H
  unfold t156
  have hL : Vars h [] := .nil
  refine pop_len slices0_1 _ _ sli22 ?_
  obtain ⟨J_1, ⟨n_4, h0_2⟩, HB_2⟩ := H
  refine loop_intro (J := fun (n : Nat) (vs : List Value) (h' : Heap) => ∃ size3_1 : Int, ∃ t11_1 : Int, vs = [(VI size3_1), (VI t11_1)] ∧ J_1 n size3_1 t11_1 h' ∧ Vars h' []) n_4 ⟨0, 0, rfl, h0_2, hL⟩ ?_
  intro I_2 mu_2 hI_2 junk_1 tv_3 tv_4 h_1 hi_1
  obtain ⟨n_1, ⟨size3_1, t11_1, hv, hJ_1, hL_1⟩, hn_1⟩ := hI_2 _ _ hi_1
  cases hv
  have H := HB_2 n_1 size3_1 t11_1 h_1 hJ_1 hL_1
  refine pop_lss .i64 t11_1 (slices0_1.n : Int) ?_
  refine condM_b (fun hb_1 => ?_) (fun hb_1 => ?_)
  · have H := H.1 hb_1
    obtain ⟨hi_2, H⟩ := H
    refine pop_index sli22 siz27 .i64 slices0_1 t11_1 hi_2 ?_
    obtain ⟨t14_1, hc_1, H⟩ := H
    refine rop_one one27 (Sl.v t14_1) hc_1 ?_
    refine pop_len t14_1 _ _ sli27 ?_
    refine pop_add .i64 size3_1 (t14_1.n : Int) ?_
    refine pop_lss .i64 (w64 (size3_1 + (t14_1.n : Int))) 0 ?_
    refine condM_b (fun hb_2 => ?_) (fun hb_2 => ?_)
    · have H := H.1 hb_2
      refine H.mono fun rv_1 H => ?_
      obtain ⟨t21_1, rfl, H⟩ := H
      exact H.elim
    · have H := H.2 hb_2
      refine pop_add .i64 t11_1 1 ?_
      obtain ⟨m_1, hm_1, H⟩ := H
      exact hn_1 _ _ ⟨m_1, hm_1, (w64 (size3_1 + (t14_1.n : Int))), (w64 (t11_1 + 1)), rfl, H, hL_1⟩
  · have H := H.2 hb_1
    refine H.mono fun rv_2 h_2 H => ?_
    obtain ⟨t24_1, rfl, hL_2, H⟩ := H
    refine pop_len slices0_1 _ _ sli22 ?_
    obtain ⟨J_2, ⟨n_3, h0_1⟩, HB_1⟩ := H
    refine loop_intro (J := fun (n : Nat) (vs : List Value) (h' : Heap) => ∃ newslice6_1 : Sl, ∃ t27_1 : Int, vs = [(Sl.v newslice6_1), (VI t27_1)] ∧ J_2 n newslice6_1 t27_1 h' ∧ Vars h' []) n_3 ⟨t24_1, 0, rfl, h0_1, hL_2⟩ ?_
    intro I_1 mu_1 hI_1 junk_2 tv_1 tv_2 h_3 hi_3
    obtain ⟨n_2, ⟨newslice6_1, t27_1, hv, hJ_2, hL_3⟩, hn_2⟩ := hI_1 _ _ hi_3
    cases hv
    have H := HB_1 n_2 newslice6_1 t27_1 h_3 hJ_2 hL_3
    refine pop_lss .i64 t27_1 (slices0_1.n : Int) ?_
    refine condM_b (fun hb_3 => ?_) (fun hb_3 => ?_)
    · have H := H.1 hb_3
      obtain ⟨hi_4, H⟩ := H
      refine pop_index sli22 siz27 .i64 slices0_1 t27_1 hi_4 ?_
      obtain ⟨t30_1, hc_2, H⟩ := H
      refine rop_one one27 (Sl.v t30_1) hc_2 ?_
      refine H.mono fun rv_3 h_4 H => ?_
      obtain ⟨t33_1, rfl, hL_4, H⟩ := H
      refine pop_add .i64 t27_1 1 ?_
      obtain ⟨m_2, hm_2, H⟩ := H
      exact hn_2 _ _ ⟨m_2, hm_2, t33_1, (w64 (t27_1 + 1)), rfl, H, hL_4⟩
    · have H := H.2 hb_3
      exact H

/-! slices.siftDownOrdered[int] -/
def u157 (P : Program) (data0_1 : Sl) (lo1_1 : Int) (hi2_1 : Int) (first3_1 : Int) (h : Heap) (K : Value → Heap → Prop) : Prop :=
  ∃ J_1 : Nat → Int → Heap → Prop, (∃ n0 : Nat, J_1 n0 lo1_1 h) ∧
  ∀ (n_1 : Nat) (root8_1 : Int) (h_1 : Heap), J_1 n_1 root8_1 h_1 → Vars h_1 [] →
  ((decide (hi2_1 ≤ (w64 ((w64 (2 * root8_1)) + 1)))) = true →
  K (Value.tuple #[]) h_1) ∧
  ((decide (hi2_1 ≤ (w64 ((w64 (2 * root8_1)) + 1)))) = false →
  ∃ J_2 : Int → Heap → Prop, (((decide ((w64 ((w64 ((w64 (2 * root8_1)) + 1)) + 1)) < hi2_1)) = true →
  InB data0_1 (w64 (first3_1 + (w64 ((w64 (2 * root8_1)) + 1)))) ∧
  ∃ t27_1 : Int, hcell h_1 (Sl.at data0_1 (w64 (first3_1 + (w64 ((w64 (2 * root8_1)) + 1)))) 1) = some (VI t27_1) ∧
  InB data0_1 (w64 ((w64 (first3_1 + (w64 ((w64 (2 * root8_1)) + 1)))) + 1)) ∧
  ∃ t34_1 : Int, hcell h_1 (Sl.at data0_1 (w64 ((w64 (first3_1 + (w64 ((w64 (2 * root8_1)) + 1)))) + 1)) 1) = some (VI t34_1) ∧
  callM P 150 #[(VI t27_1), (VI t34_1)] h_1 fun rv_1 h_2 => ∃ t35_1 : Bool, rv_1 = (VB t35_1) ∧ Vars h_2 [] ∧
  (t35_1 = true →
  J_2 (w64 ((w64 ((w64 (2 * root8_1)) + 1)) + 1)) h_2) ∧
  (t35_1 = false →
  J_2 (w64 ((w64 (2 * root8_1)) + 1)) h_2)) ∧
  ((decide ((w64 ((w64 ((w64 (2 * root8_1)) + 1)) + 1)) < hi2_1)) = false →
  J_2 (w64 ((w64 (2 * root8_1)) + 1)) h_1)) ∧
  ∀ (x_1 : Int) (h_3 : Heap), J_2 x_1 h_3 → Vars h_3 [] →
  InB data0_1 (w64 (first3_1 + root8_1)) ∧
  ∃ t44_1 : Int, hcell h_3 (Sl.at data0_1 (w64 (first3_1 + root8_1)) 1) = some (VI t44_1) ∧
  InB data0_1 (w64 (first3_1 + x_1)) ∧
  ∃ t50_1 : Int, hcell h_3 (Sl.at data0_1 (w64 (first3_1 + x_1)) 1) = some (VI t50_1) ∧
  callM P 150 #[(VI t44_1), (VI t50_1)] h_3 fun rv_2 h_4 => ∃ t51_1 : Bool, rv_2 = (VB t51_1) ∧ Vars h_4 [] ∧
  ((!t51_1) = true →
  K (Value.tuple #[]) h_4) ∧
  ((!t51_1) = false →
  InB data0_1 (w64 (first3_1 + x_1)) ∧
  ∃ t66_1 : Int, hcell h_4 (Sl.at data0_1 (w64 (first3_1 + x_1)) 1) = some (VI t66_1) ∧
  InB data0_1 (w64 (first3_1 + root8_1)) ∧
  ∃ t72_1 : Int, hcell h_4 (Sl.at data0_1 (w64 (first3_1 + root8_1)) 1) = some (VI t72_1) ∧
  InB data0_1 (w64 (first3_1 + root8_1)) ∧
  Writable h_4 (Sl.at data0_1 (w64 (first3_1 + root8_1)) 1) ∧ Vars (hset h_4 (Sl.at data0_1 (w64 (first3_1 + root8_1)) 1) (VI t66_1)) [] ∧
  ∀ h_5 : Heap, h_5 = hset h_4 (Sl.at data0_1 (w64 (first3_1 + root8_1)) 1) (VI t66_1) → Vars h_5 [] →
  InB data0_1 (w64 (first3_1 + x_1)) ∧
  Writable h_5 (Sl.at data0_1 (w64 (first3_1 + x_1)) 1) ∧ Vars (hset h_5 (Sl.at data0_1 (w64 (first3_1 + x_1)) 1) (VI t72_1)) [] ∧
  ∀ h_6 : Heap, h_6 = hset h_5 (Sl.at data0_1 (w64 (first3_1 + x_1)) 1) (VI t72_1) → Vars h_6 [] →
  ∃ m : Nat, m < n_1 ∧ J_1 m x_1 h_6))
theorem v157 (data0_1 : Sl) (lo1_1 : Int) (hi2_1 : Int) (first3_1 : Int) (h : Heap) (K : Value → Heap → Prop) (H : u157 Try.prog data0_1 lo1_1 hi2_1 first3_1 h K) : callM Try.prog 157 #[(Sl.v data0_1), (VI lo1_1), (VI hi2_1), (VI first3_1)] h K := by
  refine c157 (Sl.v data0_1) (VI lo1_1) (VI hi2_1) (VI first3_1) h K ?_
  unfold u157 at H
  unfold t157
  have hL : Vars h [] := .nil
  obtain ⟨J_1, ⟨n_2, h0_1⟩, HB_2⟩ := H
  refine loop_intro (J := fun (n : Nat) (vs : List Value) (h' : Heap) => ∃ root8_1 : Int, vs = [(VI root8_1)] ∧ J_1 n root8_1 h' ∧ Vars h' []) n_2 ⟨lo1_1, rfl, h0_1, hL⟩ ?_
  intro I_1 mu_1 hI_1 junk_1 tv_2 h_1 hi_1
  obtain ⟨n_1, ⟨root8_1, hv, hJ_1, hL_1⟩, hn_1⟩ := hI_1 _ _ hi_1
  cases hv
  have H := HB_2 n_1 root8_1 h_1 hJ_1 hL_1
  refine pop_mul .i64 2 root8_1 ?_
  refine pop_add .i64 (w64 (2 * root8_1)) 1 ?_
  refine pop_geq .i64 (w64 ((w64 (2 * root8_1)) + 1)) hi2_1 ?_
  refine condM_b (fun hb_1 => ?_) (fun hb_1 => ?_)
  · have H := H.1 hb_1
    exact H
  · have H := H.2 hb_1
    obtain ⟨J_2, H, HB_1⟩ := H
    refine ⟨fun (vs : List Value) (h' : Heap) => ∃ x_1 : Int, vs = [(VI x_1)] ∧ J_2 x_1 h' ∧ Vars h' [], ?_, ?_⟩
    · refine pop_add .i64 (w64 ((w64 (2 * root8_1)) + 1)) 1 ?_
      refine pop_lss .i64 (w64 ((w64 ((w64 (2 * root8_1)) + 1)) + 1)) hi2_1 ?_
      refine guardM_st (fun hb_2 => ?_) (fun hb_2 => ?_)
      · have H := H.1 hb_2
        refine guardM_y' hb_2 ?_
        refine guardM_y' hb_2 ?_
        refine guardM_y' hb_2 ?_
        refine pop_add .i64 first3_1 (w64 ((w64 (2 * root8_1)) + 1)) ?_
        refine guardM_y' hb_2 ?_
        obtain ⟨hi_2, H⟩ := H
        refine pop_index sli27 siz3 .i64 data0_1 (w64 (first3_1 + (w64 ((w64 (2 * root8_1)) + 1)))) hi_2 ?_
        refine guardM_y' hb_2 ?_
        obtain ⟨t27_1, hc_2, H⟩ := H
        refine rop_one one3 (VI t27_1) hc_2 ?_
        refine guardM_y' hb_2 ?_
        refine guardM_y' hb_2 ?_
        refine guardM_y' hb_2 ?_
        refine guardM_y' hb_2 ?_
        refine pop_add .i64 first3_1 (w64 ((w64 (2 * root8_1)) + 1)) ?_
        refine guardM_y' hb_2 ?_
        refine pop_add .i64 (w64 (first3_1 + (w64 ((w64 (2 * root8_1)) + 1)))) 1 ?_
        refine guardM_y' hb_2 ?_
        obtain ⟨hi_3, H⟩ := H
        refine pop_index sli27 siz3 .i64 data0_1 (w64 ((w64 (first3_1 + (w64 ((w64 (2 * root8_1)) + 1)))) + 1)) hi_3 ?_
        refine guardM_y' hb_2 ?_
        obtain ⟨t34_1, hc_1, H⟩ := H
        refine rop_one one3 (VI t34_1) hc_1 ?_
        refine guardM_y' hb_2 ?_
        refine H.mono fun rv_1 h_2 H => ?_
        obtain ⟨t35_1, rfl, hL_2, H⟩ := H
        refine pop_pickt' hb_2 ?_
        refine condM_b (fun hb_3 => ?_) (fun hb_3 => ?_)
        · have H := H.1 hb_3
          refine pop_add .i64 (w64 ((w64 (2 * root8_1)) + 1)) 1 ?_
          exact ⟨(w64 ((w64 ((w64 (2 * root8_1)) + 1)) + 1)), rfl, H, hL_2⟩
        · have H := H.2 hb_3
          exact ⟨(w64 ((w64 (2 * root8_1)) + 1)), rfl, H, hL_2⟩
      · have H := H.2 hb_2
        refine guardM_n' hb_2 (by decide) ?_
        refine guardM_n' hb_2 (by decide) ?_
        refine guardM_n' hb_2 (by decide) ?_
        refine guardM_n' hb_2 (by decide) ?_
        refine guardM_n' hb_2 (by decide) ?_
        refine guardM_n' hb_2 (by decide) ?_
        refine guardM_n' hb_2 (by decide) ?_
        refine guardM_n' hb_2 (by decide) ?_
        refine guardM_n' hb_2 (by decide) ?_
        refine guardM_n' hb_2 (by decide) ?_
        refine guardM_n' hb_2 (by decide) ?_
        refine guardM_n' hb_2 (by decide) ?_
        refine guardM_n' hb_2 (by decide) ?_
        refine pop_pickf' hb_2 ?_
        refine condM_f ?_
        exact ⟨(w64 ((w64 (2 * root8_1)) + 1)), rfl, H, hL_1⟩
    intro junk_2 tv_1 h_3
    rintro ⟨x_1, hv, hJ_2, hL_3⟩
    cases hv
    have H := HB_1 x_1 h_3 hJ_2 hL_3
    refine pop_add .i64 first3_1 root8_1 ?_
    obtain ⟨hi_4, H⟩ := H
    refine pop_index sli27 siz3 .i64 data0_1 (w64 (first3_1 + root8_1)) hi_4 ?_
    obtain ⟨t44_1, hc_6, H⟩ := H
    refine rop_one one3 (VI t44_1) hc_6 ?_
    refine pop_add .i64 first3_1 x_1 ?_
    obtain ⟨hi_5, H⟩ := H
    refine pop_index sli27 siz3 .i64 data0_1 (w64 (first3_1 + x_1)) hi_5 ?_
    obtain ⟨t50_1, hc_5, H⟩ := H
    refine rop_one one3 (VI t50_1) hc_5 ?_
    refine H.mono fun rv_2 h_4 H => ?_
    obtain ⟨t51_1, rfl, hL_4, H⟩ := H
    refine pop_not t51_1 ?_
    refine condM_b (fun hb_4 => ?_) (fun hb_4 => ?_)
    · have H := H.1 hb_4
      exact H
    · have H := H.2 hb_4
      refine pop_add .i64 first3_1 root8_1 ?_
      refine pop_add .i64 first3_1 x_1 ?_
      refine pop_add .i64 first3_1 x_1 ?_
      obtain ⟨hi_6, H⟩ := H
      refine pop_index sli27 siz3 .i64 data0_1 (w64 (first3_1 + x_1)) hi_6 ?_
      obtain ⟨t66_1, hc_4, H⟩ := H
      refine rop_one one3 (VI t66_1) hc_4 ?_
      refine pop_add .i64 first3_1 root8_1 ?_
      obtain ⟨hi_7, H⟩ := H
      refine pop_index sli27 siz3 .i64 data0_1 (w64 (first3_1 + root8_1)) hi_7 ?_
      obtain ⟨t72_1, hc_3, H⟩ := H
      refine rop_one one3 (VI t72_1) hc_3 ?_
      obtain ⟨hi_8, H⟩ := H
      refine pop_index sli27 siz3 .i64 data0_1 (w64 (first3_1 + root8_1)) hi_8 ?_
      obtain ⟨hw_1, hL_5, H⟩ := H
      refine uop_cell (v := (VI t66_1)) siz3 hw_1 rfl (fun h_5 he_1 => ?_)
      rw [← he_1] at hL_5
      have H := H h_5 he_1 hL_5
      obtain ⟨hi_9, H⟩ := H
      refine pop_index sli27 siz3 .i64 data0_1 (w64 (first3_1 + x_1)) hi_9 ?_
      obtain ⟨hw_2, hL_6, H⟩ := H
      refine uop_cell (v := (VI t72_1)) siz3 hw_2 rfl (fun h_6 he_2 => ?_)
      rw [← he_2] at hL_6
      have H := H h_6 he_2 hL_6
      obtain ⟨m_1, hm_1, H⟩ := H
      exact hn_1 _ _ ⟨m_1, hm_1, x_1, rfl, H, hL_6⟩

/-! slices.nextPowerOfTwo -/
def u158 (P : Program) (length0_1 : Int) (h : Heap) (K : Value → Heap → Prop) : Prop :=
  rop P (convert 3 133 (VI length0_1)) h fun rv_1 => ∃ t4_1 : Int, rv_1 = (Value.int .u64 t4_1) ∧ 
  callM P 138 #[(Value.int .u64 t4_1)] h fun rv_2 h_1 => ∃ t5_1 : Int, rv_2 = (VI t5_1) ∧ Vars h_1 [] ∧
  pop P (binA .shl 133 (Value.int IntKind.u64 1) (VI t5_1)) fun rv_3 => ∃ t6_1 : Int, rv_3 = (Value.int .u64 t6_1) ∧ 
  K (Value.int .u64 t6_1) h_1
theorem v158 (length0_1 : Int) (h : Heap) (K : Value → Heap → Prop) (H : u158 Try.prog length0_1 h K) : callM Try.prog 158 #[(VI length0_1)] h K := by
  refine c158 (VI length0_1) h K ?_
  unfold u158 at H
  unfold t158
  have hL : Vars h [] := .nil
  refine H.mono fun rv_1 H => ?_
  obtain ⟨t4_1, rfl, H⟩ := H
  refine H.mono fun rv_2 h_1 H => ?_
  obtain ⟨t5_1, rfl, hL_1, H⟩ := H
  refine H.mono fun rv_3 H => ?_
  obtain ⟨t6_1, rfl, H⟩ := H
  exact H

/-! (*slices.xorshift).Next -/
def u159 (P : Program) (b_1 : Nat) (r0_1 : Int) (h : Heap) (K : Value → Heap → Prop) : Prop :=
  pop P (binA .shl 156 (Value.int .u64 r0_1) (Value.int IntKind.u64 13)) fun rv_1 => ∃ t9_1 : Int, rv_1 = (Value.int .u64 t9_1) ∧ 
  pop P (binA .xor 156 (Value.int .u64 r0_1) (Value.int .u64 t9_1)) fun rv_2 => ∃ t10_1 : Int, rv_2 = (Value.int .u64 t10_1) ∧ 
  pop P (binA .shr 156 (Value.int .u64 t10_1) (Value.int IntKind.u64 7)) fun rv_3 => ∃ t18_1 : Int, rv_3 = (Value.int .u64 t18_1) ∧ 
  pop P (binA .xor 156 (Value.int .u64 t10_1) (Value.int .u64 t18_1)) fun rv_4 => ∃ t19_1 : Int, rv_4 = (Value.int .u64 t19_1) ∧ 
  pop P (binA .shl 156 (Value.int .u64 t19_1) (Value.int IntKind.u64 17)) fun rv_5 => ∃ t27_1 : Int, rv_5 = (Value.int .u64 t27_1) ∧ 
  pop P (binA .xor 156 (Value.int .u64 t19_1) (Value.int .u64 t27_1)) fun rv_6 => ∃ t28_1 : Int, rv_6 = (Value.int .u64 t28_1) ∧ 
  ∀ (h_3 : Heap), Fr (In [b_1, b_1, b_1]) h h_3 → Vars h_3 [(b_1, [(Value.int .u64 t28_1)])] →
  K (Value.int .u64 t28_1) h_3
theorem v159 (b_1 : Nat) (r0_1 : Int) (h : Heap) (K : Value → Heap → Prop) (hL : Vars h [(b_1, [(Value.int .u64 r0_1)])]) (H : u159 Try.prog b_1 r0_1 h K) : callM Try.prog 159 #[(VP b_1 0)] h K := by
  refine c159 (VP b_1 0) h K ?_
  unfold u159 at H
  unfold t159
  refine pop_nil _ ?_
  refine rop_loc one156 hL 0 rfl 0 (v := (Value.int .u64 r0_1)) rfl ?_
  refine pop_nil _ ?_
  refine rop_loc one156 hL 0 rfl 0 (v := (Value.int .u64 r0_1)) rfl ?_
  refine H.mono fun rv_1 H => ?_
  obtain ⟨t9_1, rfl, H⟩ := H
  refine H.mono fun rv_2 H => ?_
  obtain ⟨t10_1, rfl, H⟩ := H
  refine pop_nil _ ?_
  refine uop_loc siz156 hL 0 rfl 0 [(Value.int .u64 t10_1)] rfl rfl rfl (Nat.le_of_ble_eq_true rfl) (L' := [(b_1, [(Value.int .u64 t10_1)])]) rfl (fun h_1 hf_1 hL_1 => ?_)
  refine pop_nil _ ?_
  refine rop_loc one156 hL_1 0 rfl 0 (v := (Value.int .u64 t10_1)) rfl ?_
  refine pop_nil _ ?_
  refine rop_loc one156 hL_1 0 rfl 0 (v := (Value.int .u64 t10_1)) rfl ?_
  refine H.mono fun rv_3 H => ?_
  obtain ⟨t18_1, rfl, H⟩ := H
  refine H.mono fun rv_4 H => ?_
  obtain ⟨t19_1, rfl, H⟩ := H
  refine pop_nil _ ?_
  refine uop_loc siz156 hL_1 0 rfl 0 [(Value.int .u64 t19_1)] rfl rfl rfl (Nat.le_of_ble_eq_true rfl) (L' := [(b_1, [(Value.int .u64 t19_1)])]) rfl (fun h_2 hf_2 hL_2 => ?_)
  refine pop_nil _ ?_
  refine rop_loc one156 hL_2 0 rfl 0 (v := (Value.int .u64 t19_1)) rfl ?_
  refine pop_nil _ ?_
  refine rop_loc one156 hL_2 0 rfl 0 (v := (Value.int .u64 t19_1)) rfl ?_
  refine H.mono fun rv_5 H => ?_
  obtain ⟨t27_1, rfl, H⟩ := H
  refine H.mono fun rv_6 H => ?_
  obtain ⟨t28_1, rfl, H⟩ := H
  refine pop_nil _ ?_
  refine uop_loc siz156 hL_2 0 rfl 0 [(Value.int .u64 t28_1)] rfl rfl rfl (Nat.le_of_ble_eq_true rfl) (L' := [(b_1, [(Value.int .u64 t28_1)])]) rfl (fun h_3 hf_3 hL_3 => ?_)
  refine pop_nil _ ?_
  refine rop_loc one156 hL_3 0 rfl 0 (v := (Value.int .u64 t28_1)) rfl ?_
  have H := H  h_3  (Fr.old (Fr.old (Fr.old (Fr.r (In []) _) hf_1) hf_2) hf_3) hL_3
  exact H

/-! slices.medianAdjacentOrdered[int] -/
def u160 (P : Program) (data0_1 : Sl) (a1_1 : Int) (b_1 : Nat) (swaps2_1 : Int) (h : Heap) (K : Value → Heap → Prop) : Prop :=
  callM P 161 #[(Sl.v data0_1), (VI (w64 (a1_1 - 1))), (VI a1_1), (VI (w64 (a1_1 + 1))), (VP b_1 0)] h fun rv_1 h_1 => ∃ x_1 : Int, ∃ t14_1 : Int, rv_1 = (VI t14_1) ∧ Vars h_1 [(b_1, [(VI x_1)])] ∧
  K (VI t14_1) h_1
theorem v160 (data0_1 : Sl) (a1_1 : Int) (b_1 : Nat) (swaps2_1 : Int) (h : Heap) (K : Value → Heap → Prop) (hL : Vars h [(b_1, [(VI swaps2_1)])]) (H : u160 Try.prog data0_1 a1_1 b_1 swaps2_1 h K) : callM Try.prog 160 #[(Sl.v data0_1), (VI a1_1), (VP b_1 0)] h K := by
  refine c160 (Sl.v data0_1) (VI a1_1) (VP b_1 0) h K ?_
  unfold u160 at H
  unfold t160
  refine pop_sub .i64 a1_1 1 ?_
  refine pop_add .i64 a1_1 1 ?_
  refine H.mono fun rv_1 h_1 H => ?_
  obtain ⟨x_1, t14_1, rfl, hL_1, H⟩ := H
  exact H

/-! slices.medianOrdered[int] -/
def u161 (P : Program) (data0_1 : Sl) (a1_1 : Int) (b2_1 : Int) (c3_1 : Int) (b_1 : Nat) (swaps4_1 : Int) (h : Heap) (K : Value → Heap → Prop) : Prop :=
  callM P 164 #[(Sl.v data0_1), (VI a1_1), (VI b2_1), (VP b_1 0)] h fun rv_1 h_1 => ∃ x_1 : Int, ∃ t16_1 : Int, ∃ t16_2 : Int, rv_1 = (Value.tuple #[(VI t16_1), (VI t16_2)]) ∧ Vars h_1 [(b_1, [(VI x_1)])] ∧
  callM P 164 #[(Sl.v data0_1), (VI t16_2), (VI c3_1), (VP b_1 0)] h_1 fun rv_2 h_2 => ∃ x_2 : Int, ∃ t24_1 : Int, ∃ t24_2 : Int, rv_2 = (Value.tuple #[(VI t24_1), (VI t24_2)]) ∧ Vars h_2 [(b_1, [(VI x_2)])] ∧
  callM P 164 #[(Sl.v data0_1), (VI t16_1), (VI t24_1), (VP b_1 0)] h_2 fun rv_3 h_3 => ∃ x_3 : Int, ∃ t32_1 : Int, ∃ t32_2 : Int, rv_3 = (Value.tuple #[(VI t32_1), (VI t32_2)]) ∧ Vars h_3 [(b_1, [(VI x_3)])] ∧
  K (VI t32_2) h_3
theorem v161 (data0_1 : Sl) (a1_1 : Int) (b2_1 : Int) (c3_1 : Int) (b_1 : Nat) (swaps4_1 : Int) (h : Heap) (K : Value → Heap → Prop) (hL : Vars h [(b_1, [(VI swaps4_1)])]) (H : u161 Try.prog data0_1 a1_1 b2_1 c3_1 b_1 swaps4_1 h K) : callM Try.prog 161 #[(Sl.v data0_1), (VI a1_1), (VI b2_1), (VI c3_1), (VP b_1 0)] h K := by
  refine c161 (Sl.v data0_1) (VI a1_1) (VI b2_1) (VI c3_1) (VP b_1 0) h K ?_
  unfold u161 at H
  unfold t161
  refine H.mono fun rv_1 h_1 H => ?_
  obtain ⟨x_1, t16_1, t16_2, rfl, hL_1, H⟩ := H
  refine pop_ext (v := (VI t16_1)) rfl ?_
  refine pop_ext (v := (VI t16_2)) rfl ?_
  refine H.mono fun rv_2 h_2 H => ?_
  obtain ⟨x_2, t24_1, t24_2, rfl, hL_2, H⟩ := H
  refine pop_ext (v := (VI t24_1)) rfl ?_
  refine pop_ext (v := (VI t24_2)) rfl ?_
  refine H.mono fun rv_3 h_3 H => ?_
  obtain ⟨x_3, t32_1, t32_2, rfl, hL_3, H⟩ := H
  refine pop_ext (v := (VI t32_1)) rfl ?_
  refine pop_ext (v := (VI t32_2)) rfl ?_
  exact H

/-! cmp.isNaN[int] -/
def u162 (P : Program) (x0_1 : Int) (h : Heap) (K : Value → Heap → Prop) : Prop :=
  K (VB (!decide (x0_1 = x0_1))) h
theorem v162 (x0_1 : Int) (h : Heap) (K : Value → Heap → Prop) (H : u162 Try.prog x0_1 h K) : callM Try.prog 162 #[(VI x0_1)] h K := by
  refine c162 (VI x0_1) h K ?_
  unfold u162 at H
  unfold t162
  have hL : Vars h [] := .nil
  refine pop_ine .i64 _ _ x0_1 x0_1 ?_
  exact H

/-! slices.Grow[[]int,int] -/
def u163 (P : Program) (s0_1 : Sl) (n1_1 : Int) (h : Heap) (K : Value → Heap → Prop) : Prop :=
  ∃ J_1 : Heap → Prop, (((decide (n1_1 < 0)) = true →
  pop P (Instr.makeInterface 9 (Value.string { data := #[99, 97, 110, 110, 111, 116, 32, 98, 101, 32, 110, 101, 103, 97, 116, 105, 118, 101] })) fun rv_1 => ∃ t7_1 : Value, rv_1 = t7_1 ∧ 
  False) ∧
  ((decide (n1_1 < 0)) = false →
  J_1  h)) ∧
  ∀ (h_1 : Heap), J_1  h_1 → Vars h_1 [] →
  pop P (Builtin.cap_ #[27] 3 #[(Sl.v s0_1)]) fun rv_2 => ∃ t10_1 : Int, rv_2 = (VI t10_1) ∧ 
  ((decide (0 < (w64 (n1_1 - (w64 (t10_1 - (s0_1.n : Int))))))) = true →
  pop P (Builtin.cap_ #[27] 3 #[(Sl.v s0_1)]) fun rv_3 => ∃ t19_1 : Int, rv_3 = (VI t19_1) ∧ 
  pop P (Instr.sliceAt 27 (Sl.v s0_1) none (some (VI t19_1)) none) fun rv_4 => ∃ t20_1 : Sl, rv_4 = (Sl.v t20_1) ∧ 
  eop P (appS 27 3 27 (Sl.v t20_1) (VI (w64 (n1_1 - (w64 (t10_1 - (s0_1.n : Int))))))) h_1 fun rv_5 h_2 => ∃ t22_1 : Sl, rv_5 = (Sl.v t22_1) ∧ Vars h_2 [] ∧
  pop P (Instr.sliceAt 27 (Sl.v t22_1) none (some (VI (s0_1.n : Int))) none) fun rv_6 => ∃ t25_1 : Sl, rv_6 = (Sl.v t25_1) ∧ 
  K (Sl.v t25_1) h_2) ∧
  ((decide (0 < (w64 (n1_1 - (w64 (t10_1 - (s0_1.n : Int))))))) = false →
  K (Sl.v s0_1) h_1)
theorem v163 (s0_1 : Sl) (n1_1 : Int) (h : Heap) (K : Value → Heap → Prop) (H : u163 Try.prog s0_1 n1_1 h K) : callM Try.prog 163 #[(Sl.v s0_1), (VI n1_1)] h K := by
  refine c163 (Sl.v s0_1) (VI n1_1) h K ?_
  unfold u163 at H
  unfold t163
  have hL : Vars h [] := .nil
  obtain ⟨J_1, H, HB_1⟩ := H
  refine ⟨fun (vs : List Value) (h' : Heap) => vs = [] ∧ J_1  h' ∧ Vars h' [], ?_, ?_⟩
  · refine pop_lss .i64 n1_1 0 ?_
    refine condM_b (fun hb_1 => ?_) (fun hb_1 => ?_)
    · have H := H.1 hb_1
      refine H.mono fun rv_1 H => ?_
      obtain ⟨t7_1, rfl, H⟩ := H
      exact H.elim
    · have H := H.2 hb_1
      exact ⟨rfl, H, hL⟩
  intro junk_1  h_1
  rintro ⟨hv, hJ_1, hL_1⟩
  have H := HB_1  h_1 hJ_1 hL_1
  refine H.mono fun rv_2 H => ?_
  obtain ⟨t10_1, rfl, H⟩ := H
  refine pop_len s0_1 _ _ sli27 ?_
  refine pop_sub .i64 t10_1 (s0_1.n : Int) ?_
  refine pop_sub .i64 n1_1 (w64 (t10_1 - (s0_1.n : Int))) ?_
  refine pop_gtr .i64 (w64 (n1_1 - (w64 (t10_1 - (s0_1.n : Int))))) 0 ?_
  refine condM_b (fun hb_2 => ?_) (fun hb_2 => ?_)
  · have H := H.1 hb_2
    refine H.mono fun rv_3 H => ?_
    obtain ⟨t19_1, rfl, H⟩ := H
    refine H.mono fun rv_4 H => ?_
    obtain ⟨t20_1, rfl, H⟩ := H
    refine H.mono fun rv_5 h_2 H => ?_
    obtain ⟨t22_1, rfl, hL_2, H⟩ := H
    refine pop_len s0_1 _ _ sli27 ?_
    refine H.mono fun rv_6 H => ?_
    obtain ⟨t25_1, rfl, H⟩ := H
    exact H
  · have H := H.2 hb_2
    exact H

end Go.Proofs.Ytkjkfjkapbpgiaa
