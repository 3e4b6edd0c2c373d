/-
  The same over typed data. Written by a program.
-/
import Derived.Test.YtbhnecochpehdaaChipsInAnyOrderU1
import Derived.Test.YtbhnecochpehdaaChipsInAnyOrderT
import Derived.Test.YtbhnecochpehdaaM2
set_option linter.unusedVariables false
set_option linter.unusedSimpArgs false
set_option maxRecDepth 100000
namespace Go.Proofs.Ytbhnecochpehdaa
open Go Go.Mx
/-! (*spec.l1Cur).sureGraph -/
def u163 (P : Program) (b_1 : Nat) (c0_1 : Sl) (c0_2 : Int) (c0_3 : Int) (most1_1 : Int) (h : Heap) (K : Value → Heap → Prop) : Prop :=
  ∀ (b_2 : Nat) (h_1 : Heap), h.size ≤ b_2 → Fr (In []) h h_1 → Vars h_1 [(b_2, [(Sl.v nilSl)]), (b_1, [(Sl.v c0_1), (VI c0_2), (Value.int .u64 c0_3)])] →
  callM P 100 #[(VP b_1 0), (VI most1_1)] h_1 fun rv_1 h_2 => ∃ x_1 : Sl, ∃ x_2 : Int, ∃ x_3 : Int, ∃ t13_1 : Int, rv_1 = (VI t13_1) ∧ Vars h_2 [(b_2, [(Sl.v nilSl)]), (b_1, [(Sl.v x_1), (VI x_2), (Value.int .u64 x_3)])] ∧
  callM P 99 #[(VP b_1 0), (VI 4)] h_2 fun rv_2 h_3 => ∃ x_4 : Sl, ∃ x_5 : Int, ∃ x_6 : Int, ∃ t16_1 : Bool, rv_2 = (VB t16_1) ∧ Vars h_3 [(b_2, [(Sl.v nilSl)]), (b_1, [(Sl.v x_4), (VI x_5), (Value.int .u64 x_6)])] ∧
  (t16_1 = true →
  callM P 99 #[(VP b_1 0), (VI 2)] h_3 fun rv_3 h_4 => ∃ x_7 : Sl, ∃ x_8 : Int, ∃ x_9 : Int, ∃ t19_1 : Bool, rv_3 = (VB t19_1) ∧ Vars h_4 [(b_2, [(Sl.v nilSl)]), (b_1, [(Sl.v x_7), (VI x_8), (Value.int .u64 x_9)])] ∧
  callM P 124 #[(VI (w64 (1 + t13_1))), (VB t19_1)] h_4 fun rv_4 h_5 => ∃ t20_1 : Sl, rv_4 = (Value.agg #[(Sl.v t20_1)]) ∧ Vars h_5 [(b_2, [(Sl.v nilSl)]), (b_1, [(Sl.v x_7), (VI x_8), (Value.int .u64 x_9)])] ∧
  ∀ (h_6 : Heap), Fr (In [b_2]) h_5 h_6 → Vars h_6 [(b_2, [(Sl.v t20_1)]), (b_1, [(Sl.v x_7), (VI x_8), (Value.int .u64 x_9)])] →
  K (Value.agg #[(Sl.v t20_1)]) h_6) ∧
  (t16_1 = false →
  ∀ (b_3 : Nat) (h_8 : Heap), h_3.size ≤ b_3 → Fr (In []) h_3 h_8 → Vars h_8 [(b_3, [(Sl.v nilSl)]), (b_2, [(Sl.v nilSl)]), (b_1, [(Sl.v x_4), (VI x_5), (Value.int .u64 x_6)])] →
  ∃ J_1 : Nat → Int → Sl → Sl → Int → Int → Heap → Prop, (∃ n0 : Nat, J_1 n0 0 nilSl x_4 x_5 x_6 h_8) ∧
  ∀ (n_1 : Nat) (p7_1 : Int) (x_10 : Sl) (x_11 : Sl) (x_12 : Int) (x_13 : Int) (h_9 : Heap), J_1 n_1 p7_1 x_10 x_11 x_12 x_13 h_9 → Vars h_9 [(b_3, [(Sl.v x_10)]), (b_2, [(Sl.v nilSl)]), (b_1, [(Sl.v x_11), (VI x_12), (Value.int .u64 x_13)])] →
  ((decide (p7_1 < (w64 (1 + t13_1)))) = true →
  callM P 100 #[(VP b_1 0), (VI 3)] h_9 fun rv_5 h_10 => ∃ x_14 : Sl, ∃ x_15 : Int, ∃ x_16 : Int, ∃ t28_1 : Int, rv_5 = (VI t28_1) ∧ Vars h_10 [(b_3, [(Sl.v x_10)]), (b_2, [(Sl.v nilSl)]), (b_1, [(Sl.v x_14), (VI x_15), (Value.int .u64 x_16)])] ∧
  ∃ J_2 : Nat → Sl → Int → Sl → Int → Int → Heap → Prop, (∃ n0 : Nat, J_2 n0 nilSl (w64 (1 + t28_1)) x_14 x_15 x_16 h_10) ∧
  ∀ (n_2 : Nat) (list8_1 : Sl) (k9_1 : Int) (x_17 : Sl) (x_18 : Int) (x_19 : Int) (h_11 : Heap), J_2 n_2 list8_1 k9_1 x_17 x_18 x_19 h_11 → Vars h_11 [(b_3, [(Sl.v x_10)]), (b_2, [(Sl.v nilSl)]), (b_1, [(Sl.v x_17), (VI x_18), (Value.int .u64 x_19)])] →
  ((decide (0 < k9_1)) = true →
  callM P 100 #[(VP b_1 0), (VI (w64 (1 + t13_1)))] h_11 fun rv_6 h_12 => ∃ x_20 : Sl, ∃ x_21 : Int, ∃ x_22 : Int, ∃ t37_1 : Int, rv_6 = (VI t37_1) ∧ Vars h_12 [(b_3, [(Sl.v x_10)]), (b_2, [(Sl.v nilSl)]), (b_1, [(Sl.v x_20), (VI x_21), (Value.int .u64 x_22)])] ∧
  eop P (Instr.buildSlice 25 1 #[(0, (VI t37_1))]) h_12 fun rv_7 h_13 => ∃ t38_1 : Sl, rv_7 = (Sl.v t38_1) ∧ Vars h_13 [(b_3, [(Sl.v x_10)]), (b_2, [(Sl.v nilSl)]), (b_1, [(Sl.v x_20), (VI x_21), (Value.int .u64 x_22)])] ∧
  eop P (appS 25 25 25 (Sl.v list8_1) (Sl.v t38_1)) h_13 fun rv_8 h_14 => ∃ t39_1 : Sl, rv_8 = (Sl.v t39_1) ∧ Vars h_14 [(b_3, [(Sl.v x_10)]), (b_2, [(Sl.v nilSl)]), (b_1, [(Sl.v x_20), (VI x_21), (Value.int .u64 x_22)])] ∧
  ∃ m : Nat, m < n_2 ∧ J_2 m t39_1 (w64 (k9_1 - 1)) x_20 x_21 x_22 h_14) ∧
  ((decide (0 < k9_1)) = false →
  ∃ J_3 : Sl → Sl → Int → Int → Heap → Prop, (callM P 99 #[(VP b_1 0), (VI 8)] h_11 fun rv_9 h_15 => ∃ x_27 : Sl, ∃ x_28 : Int, ∃ x_29 : Int, ∃ t41_1 : Bool, rv_9 = (VB t41_1) ∧ Vars h_15 [(b_3, [(Sl.v x_10)]), (b_2, [(Sl.v nilSl)]), (b_1, [(Sl.v x_27), (VI x_28), (Value.int .u64 x_29)])] ∧
  (t41_1 = true →
  J_3 nilSl x_27 x_28 x_29 h_15) ∧
  (t41_1 = false →
  J_3 list8_1 x_27 x_28 x_29 h_15)) ∧
  ∀ (x_23 : Sl) (x_24 : Sl) (x_25 : Int) (x_26 : Int) (h_16 : Heap), J_3 x_23 x_24 x_25 x_26 h_16 → Vars h_16 [(b_3, [(Sl.v x_10)]), (b_2, [(Sl.v nilSl)]), (b_1, [(Sl.v x_24), (VI x_25), (Value.int .u64 x_26)])] →
  eop P (Instr.buildSlice 22 1 #[(0, (Sl.v x_23))]) h_16 fun rv_10 h_17 => ∃ t45_1 : Sl, rv_10 = (Sl.v t45_1) ∧ Vars h_17 [(b_3, [(Sl.v x_10)]), (b_2, [(Sl.v nilSl)]), (b_1, [(Sl.v x_24), (VI x_25), (Value.int .u64 x_26)])] ∧
  eop P (appS 22 22 22 (Sl.v x_10) (Sl.v t45_1)) h_17 fun rv_11 h_18 => ∃ t46_1 : Sl, rv_11 = (Sl.v t46_1) ∧ Vars h_18 [(b_3, [(Sl.v x_10)]), (b_2, [(Sl.v nilSl)]), (b_1, [(Sl.v x_24), (VI x_25), (Value.int .u64 x_26)])] ∧
  ∀ (h_19 : Heap), Fr (In [b_3]) h_18 h_19 → Vars h_19 [(b_3, [(Sl.v t46_1)]), (b_2, [(Sl.v nilSl)]), (b_1, [(Sl.v x_24), (VI x_25), (Value.int .u64 x_26)])] →
  ∃ m : Nat, m < n_1 ∧ J_1 m (w64 (p7_1 + 1)) t46_1 x_24 x_25 x_26 h_19)) ∧
  ((decide (p7_1 < (w64 (1 + t13_1)))) = false →
  callM P 99 #[(VP b_1 0), (VI 2)] h_9 fun rv_12 h_20 => ∃ x_30 : Sl, ∃ x_31 : Int, ∃ x_32 : Int, ∃ t49_1 : Bool, rv_12 = (VB t49_1) ∧ Vars h_20 [(b_3, [(Sl.v x_10)]), (b_2, [(Sl.v nilSl)]), (b_1, [(Sl.v x_30), (VI x_31), (Value.int .u64 x_32)])] ∧
  (t49_1 = true →
  ∃ J_4 : Nat → Int → Heap → Prop, (∃ n0 : Nat, J_4 n0 0 h_20) ∧
  ∀ (n_4 : Nat) (t53_1 : Int) (h_21 : Heap), J_4 n_4 t53_1 h_21 → Vars h_21 [(b_3, [(Sl.v x_10)]), (b_2, [(Sl.v nilSl)]), (b_1, [(Sl.v x_30), (VI x_31), (Value.int .u64 x_32)])] →
  ((decide (t53_1 < (x_10.n : Int))) = true →
  InB x_10 t53_1 ∧
  ∃ t63_1 : Sl, hcell h_21 (Sl.at x_10 t53_1 1) = some (Sl.v t63_1) ∧
  (w64 (1 + t13_1)) ≠ 0 ∧
  eop P (Instr.buildSlice 25 1 #[(0, (VI (Int.tmod (w64 (t53_1 + 1)) (w64 (1 + t13_1)))))]) h_21 fun rv_13 h_22 => ∃ t68_1 : Sl, rv_13 = (Sl.v t68_1) ∧ Vars h_22 [(b_3, [(Sl.v x_10)]), (b_2, [(Sl.v nilSl)]), (b_1, [(Sl.v x_30), (VI x_31), (Value.int .u64 x_32)])] ∧
  hcell h_22 (Sl.at x_10 t53_1 1) = some (Sl.v t63_1) ∧
  eop P (appS 25 25 25 (Sl.v t63_1) (Sl.v t68_1)) h_22 fun rv_14 h_23 => ∃ t69_1 : Sl, rv_14 = (Sl.v t69_1) ∧ Vars h_23 [(b_3, [(Sl.v x_10)]), (b_2, [(Sl.v nilSl)]), (b_1, [(Sl.v x_30), (VI x_31), (Value.int .u64 x_32)])] ∧
  InB x_10 t53_1 ∧
  Writable h_23 (Sl.at x_10 t53_1 1) ∧ Vars (hset h_23 (Sl.at x_10 t53_1 1) (Sl.v t69_1)) [(b_3, [(Sl.v x_10)]), (b_2, [(Sl.v nilSl)]), (b_1, [(Sl.v x_30), (VI x_31), (Value.int .u64 x_32)])] ∧
  ∀ h_24 : Heap, h_24 = hset h_23 (Sl.at x_10 t53_1 1) (Sl.v t69_1) → Vars h_24 [(b_3, [(Sl.v x_10)]), (b_2, [(Sl.v nilSl)]), (b_1, [(Sl.v x_30), (VI x_31), (Value.int .u64 x_32)])] →
  ∃ m : Nat, m < n_4 ∧ J_4 m (w64 (t53_1 + 1)) h_24) ∧
  ((decide (t53_1 < (x_10.n : Int))) = false →
  ∀ (h_25 : Heap), Fr (In [b_2]) h_21 h_25 → Vars h_25 [(b_3, [(Sl.v x_10)]), (b_2, [(Sl.v x_10)]), (b_1, [(Sl.v x_30), (VI x_31), (Value.int .u64 x_32)])] →
  K (Value.agg #[(Sl.v x_10)]) h_25)) ∧
  (t49_1 = false →
  ∀ (h_26 : Heap), Fr (In [b_2]) h_20 h_26 → Vars h_26 [(b_3, [(Sl.v x_10)]), (b_2, [(Sl.v x_10)]), (b_1, [(Sl.v x_30), (VI x_31), (Value.int .u64 x_32)])] →
  K (Value.agg #[(Sl.v x_10)]) h_26)))
theorem v163 (b_1 : Nat) (c0_1 : Sl) (c0_2 : Int) (c0_3 : Int) (most1_1 : Int) (h : Heap) (K : Value → Heap → Prop) (hL : Vars h [(b_1, [(Sl.v c0_1), (VI c0_2), (Value.int .u64 c0_3)])]) (H : u163 Try.prog b_1 c0_1 c0_2 c0_3 most1_1 h K) : callM Try.prog 163 #[(VP b_1 0), (VI most1_1)] h K := by
  refine c163 (VP b_1 0) (VI most1_1) h K ?_
  unfold u163 at H
  unfold t163
  refine eop_alloc 32 zer32 rfl hL (fun b_2 h_1 hb_1 hf_1 hL_1 => ?_)
  have H := H b_2 h_1 (Nat.le_trans (Fr.size (Fr.r (In []) _)) hb_1) (Fr.no' (Fr.r (In []) _) hf_1) hL_1
  refine H.mono fun rv_1 h_2 H => ?_
  obtain ⟨x_1, x_2, x_3, t13_1, rfl, hL_2, H⟩ := H
  refine pop_add .i64 1 t13_1 ?_
  refine H.mono fun rv_2 h_3 H => ?_
  obtain ⟨x_4, x_5, x_6, t16_1, rfl, hL_3, H⟩ := H
  refine condM_b (fun hb_2 => ?_) (fun hb_2 => ?_)
  · have H := H.1 hb_2
    refine H.mono fun rv_3 h_4 H => ?_
    obtain ⟨x_7, x_8, x_9, t19_1, rfl, hL_4, H⟩ := H
    refine H.mono fun rv_4 h_5 H => ?_
    obtain ⟨t20_1, rfl, hL_5, H⟩ := H
    refine uop_loc siz32 hL_5 0 rfl 0 [(Sl.v t20_1)] rfl rfl rfl (Nat.le_of_ble_eq_true rfl) (L' := [(b_2, [(Sl.v t20_1)]), (b_1, [(Sl.v x_7), (VI x_8), (Value.int .u64 x_9)])]) rfl (fun h_6 hf_2 hL_6 => ?_)
    refine rop_locA agg32 hL_6 0 rfl 0 (vs := [(Sl.v t20_1)]) rfl rfl ?_
    have H := H  h_6  (Fr.old (Fr.r (In []) _) hf_2) hL_6
    exact H
  · have H := H.2 hb_2
    refine pop.mk' (v := (Value.agg #[(Sl.v nilSl)])) (fun w => by kernel_rfl) ?_
    refine eop_alloc 32 zer32 rfl hL_3 (fun b_3 h_7 hb_3 hf_3 hL_7 => ?_)
    refine uop_loc siz32 hL_7 0 rfl 0 [(Sl.v nilSl)] rfl rfl rfl (Nat.le_of_ble_eq_true rfl) (L' := [(b_3, [(Sl.v nilSl)]), (b_2, [(Sl.v nilSl)]), (b_1, [(Sl.v x_4), (VI x_5), (Value.int .u64 x_6)])]) rfl (fun h_8 hf_4 hL_8 => ?_)
    have H := H b_3 h_8 (Nat.le_trans (Fr.size (Fr.r (In []) _)) hb_3) (Fr.new (Fr.no' (Fr.r (In []) _) hf_3) (Nat.le_trans (Fr.size (Fr.r (In []) _)) hb_3) hf_4) hL_8
    obtain ⟨J_1, ⟨n_6, h0_3⟩, HB_4⟩ := H
    refine loop_intro (J := fun (n : Nat) (vs : List Value) (h' : Heap) => ∃ p7_1 : Int, ∃ x_10 : Sl, ∃ x_11 : Sl, ∃ x_12 : Int, ∃ x_13 : Int, vs = [(VI p7_1)] ∧ J_1 n p7_1 x_10 x_11 x_12 x_13 h' ∧ Vars h' [(b_3, [(Sl.v x_10)]), (b_2, [(Sl.v nilSl)]), (b_1, [(Sl.v x_11), (VI x_12), (Value.int .u64 x_13)])]) n_6 ⟨0, nilSl, x_4, x_5, x_6, rfl, h0_3, hL_8⟩ ?_
    intro I_3 mu_3 hI_3 junk_1 tv_5 h_9 hi_1
    obtain ⟨n_1, ⟨p7_1, x_10, x_11, x_12, x_13, hv, hJ_1, hL_9⟩, hn_1⟩ := hI_3 _ _ hi_1
    cases hv
    have H := HB_4 n_1 p7_1 x_10 x_11 x_12 x_13 h_9 hJ_1 hL_9
    refine pop_lss .i64 p7_1 (w64 (1 + t13_1)) ?_
    refine condM_b (fun hb_4 => ?_) (fun hb_4 => ?_)
    · have H := H.1 hb_4
      refine H.mono fun rv_5 h_10 H => ?_
      obtain ⟨x_14, x_15, x_16, t28_1, rfl, hL_10, H⟩ := H
      refine pop_add .i64 1 t28_1 ?_
      obtain ⟨J_2, ⟨n_3, h0_1⟩, HB_2⟩ := H
      refine loop_intro (J := fun (n : Nat) (vs : List Value) (h' : Heap) => ∃ list8_1 : Sl, ∃ k9_1 : Int, ∃ x_17 : Sl, ∃ x_18 : Int, ∃ x_19 : Int, vs = [(Sl.v list8_1), (VI k9_1)] ∧ J_2 n list8_1 k9_1 x_17 x_18 x_19 h' ∧ Vars h' [(b_3, [(Sl.v x_10)]), (b_2, [(Sl.v nilSl)]), (b_1, [(Sl.v x_17), (VI x_18), (Value.int .u64 x_19)])]) n_3 ⟨nilSl, (w64 (1 + t28_1)), x_14, x_15, x_16, rfl, h0_1, hL_10⟩ ?_
      intro I_1 mu_1 hI_1 junk_2 tv_2 tv_3 h_11 hi_2
      obtain ⟨n_2, ⟨list8_1, k9_1, x_17, x_18, x_19, hv, hJ_2, hL_11⟩, hn_2⟩ := hI_1 _ _ hi_2
      cases hv
      have H := HB_2 n_2 list8_1 k9_1 x_17 x_18 x_19 h_11 hJ_2 hL_11
      refine pop_gtr .i64 k9_1 0 ?_
      refine condM_b (fun hb_5 => ?_) (fun hb_5 => ?_)
      · have H := H.1 hb_5
        refine H.mono fun rv_6 h_12 H => ?_
        obtain ⟨x_20, x_21, x_22, t37_1, rfl, hL_12, H⟩ := H
        refine H.mono fun rv_7 h_13 H => ?_
        obtain ⟨t38_1, rfl, hL_13, H⟩ := H
        refine H.mono fun rv_8 h_14 H => ?_
        obtain ⟨t39_1, rfl, hL_14, H⟩ := H
        refine pop_sub .i64 k9_1 1 ?_
        obtain ⟨m_1, hm_1, H⟩ := H
        exact hn_2 _ _ ⟨m_1, hm_1, t39_1, (w64 (k9_1 - 1)), x_20, x_21, x_22, rfl, H, hL_14⟩
      · have H := H.2 hb_5
        obtain ⟨J_3, H, HB_1⟩ := H
        refine ⟨fun (vs : List Value) (h' : Heap) => ∃ x_23 : Sl, ∃ x_24 : Sl, ∃ x_25 : Int, ∃ x_26 : Int, vs = [(Sl.v x_23)] ∧ J_3 x_23 x_24 x_25 x_26 h' ∧ Vars h' [(b_3, [(Sl.v x_10)]), (b_2, [(Sl.v nilSl)]), (b_1, [(Sl.v x_24), (VI x_25), (Value.int .u64 x_26)])], ?_, ?_⟩
        · refine H.mono fun rv_9 h_15 H => ?_
          obtain ⟨x_27, x_28, x_29, t41_1, rfl, hL_15, H⟩ := H
          refine condM_b (fun hb_6 => ?_) (fun hb_6 => ?_)
          · have H := H.1 hb_6
            exact ⟨nilSl, x_27, x_28, x_29, rfl, H, hL_15⟩
          · have H := H.2 hb_6
            exact ⟨list8_1, x_27, x_28, x_29, rfl, H, hL_15⟩
        intro junk_3 tv_1 h_16
        rintro ⟨x_23, x_24, x_25, x_26, hv, hJ_3, hL_16⟩
        cases hv
        have H := HB_1 x_23 x_24 x_25 x_26 h_16 hJ_3 hL_16
        refine pop_field 0 fld32_0 b_3 0 ?_
        refine rop_loc one22 hL_16 0 rfl 0 (v := (Sl.v x_10)) rfl ?_
        refine H.mono fun rv_10 h_17 H => ?_
        obtain ⟨t45_1, rfl, hL_17, H⟩ := H
        refine H.mono fun rv_11 h_18 H => ?_
        obtain ⟨t46_1, rfl, hL_18, H⟩ := H
        refine pop_field 0 fld32_0 b_3 0 ?_
        refine uop_loc siz22 hL_18 0 rfl 0 [(Sl.v t46_1)] rfl rfl rfl (Nat.le_of_ble_eq_true rfl) (L' := [(b_3, [(Sl.v t46_1)]), (b_2, [(Sl.v nilSl)]), (b_1, [(Sl.v x_24), (VI x_25), (Value.int .u64 x_26)])]) rfl (fun h_19 hf_5 hL_19 => ?_)
        refine pop_add .i64 p7_1 1 ?_
        have H := H  h_19  (Fr.old (Fr.r (In []) _) hf_5) hL_19
        obtain ⟨m_2, hm_2, H⟩ := H
        exact hn_1 _ _ ⟨m_2, hm_2, (w64 (p7_1 + 1)), t46_1, x_24, x_25, x_26, rfl, H, hL_19⟩
    · have H := H.2 hb_4
      refine H.mono fun rv_12 h_20 H => ?_
      obtain ⟨x_30, x_31, x_32, t49_1, rfl, hL_20, H⟩ := H
      refine condM_b (fun hb_7 => ?_) (fun hb_7 => ?_)
      · have H := H.1 hb_7
        refine pop_field 0 fld32_0 b_3 0 ?_
        refine rop_loc one22 hL_20 0 rfl 0 (v := (Sl.v x_10)) rfl ?_
        refine pop_len x_10 _ _ sli22 ?_
        obtain ⟨J_4, ⟨n_5, h0_2⟩, HB_3⟩ := H
        refine loop_intro (J := fun (n : Nat) (vs : List Value) (h' : Heap) => ∃ t53_1 : Int, vs = [(VI t53_1)] ∧ J_4 n t53_1 h' ∧ Vars h' [(b_3, [(Sl.v x_10)]), (b_2, [(Sl.v nilSl)]), (b_1, [(Sl.v x_30), (VI x_31), (Value.int .u64 x_32)])]) n_5 ⟨0, rfl, h0_2, hL_20⟩ ?_
        intro I_2 mu_2 hI_2 junk_4 tv_4 h_21 hi_3
        obtain ⟨n_4, ⟨t53_1, hv, hJ_4, hL_21⟩, hn_3⟩ := hI_2 _ _ hi_3
        cases hv
        have H := HB_3 n_4 t53_1 h_21 hJ_4 hL_21
        refine pop_lss .i64 t53_1 (x_10.n : Int) ?_
        refine condM_b (fun hb_8 => ?_) (fun hb_8 => ?_)
        · have H := H.1 hb_8
          refine pop_field 0 fld32_0 b_3 0 ?_
          refine rop_loc one22 hL_21 0 rfl 0 (v := (Sl.v x_10)) rfl ?_
          refine pop_field 0 fld32_0 b_3 0 ?_
          refine rop_loc one22 hL_21 0 rfl 0 (v := (Sl.v x_10)) rfl ?_
          obtain ⟨hi_4, H⟩ := H
          refine pop_index sli22 siz25 .i64 x_10 t53_1 hi_4 ?_
          obtain ⟨t63_1, hc_2, H⟩ := H
          refine rop_one one25 (Sl.v t63_1) hc_2 ?_
          refine pop_add .i64 t53_1 1 ?_
          obtain ⟨hz_1, H⟩ := H
          refine pop_rem .i64 (w64 (t53_1 + 1)) (w64 (1 + t13_1)) hz_1 ?_
          refine H.mono fun rv_13 h_22 H => ?_
          obtain ⟨t68_1, rfl, hL_22, H⟩ := H
          refine ⟨?_, ?_⟩
          · exact still_one one25 H.1
          obtain ⟨hc_1, H⟩ := H
          refine ⟨?_, ?_⟩
          · exact still_loc one22 hL_22 0 rfl 0 (v := (Sl.v x_10)) rfl
          refine ⟨?_, ?_⟩
          · exact still_loc one22 hL_22 0 rfl 0 (v := (Sl.v x_10)) rfl
          refine H.mono fun rv_14 h_23 H => ?_
          obtain ⟨t69_1, rfl, hL_23, H⟩ := H
          refine ⟨?_, ?_⟩
          · exact still_loc one22 hL_23 0 rfl 0 (v := (Sl.v x_10)) rfl
          refine ⟨?_, ?_⟩
          · exact still_loc one22 hL_23 0 rfl 0 (v := (Sl.v x_10)) rfl
          obtain ⟨hi_5, H⟩ := H
          refine pop_index sli22 siz25 .i64 x_10 t53_1 hi_5 ?_
          obtain ⟨hw_1, hL_24, H⟩ := H
          refine uop_cell (v := (Sl.v t69_1)) siz25 hw_1 rfl (fun h_24 he_1 => ?_)
          rw [← he_1] at hL_24
          have H := H h_24 he_1 hL_24
          refine pop_add .i64 t53_1 1 ?_
          obtain ⟨m_3, hm_3, H⟩ := H
          exact hn_3 _ _ ⟨m_3, hm_3, (w64 (t53_1 + 1)), rfl, H, hL_24⟩
        · have H := H.2 hb_8
          refine rop_locA agg32 hL_21 0 rfl 0 (vs := [(Sl.v x_10)]) rfl rfl ?_
          refine uop_loc siz32 hL_21 1 rfl 0 [(Sl.v x_10)] rfl rfl rfl (Nat.le_of_ble_eq_true rfl) (L' := [(b_3, [(Sl.v x_10)]), (b_2, [(Sl.v x_10)]), (b_1, [(Sl.v x_30), (VI x_31), (Value.int .u64 x_32)])]) rfl (fun h_25 hf_6 hL_25 => ?_)
          refine rop_locA agg32 hL_25 1 rfl 0 (vs := [(Sl.v x_10)]) rfl rfl ?_
          have H := H  h_25  (Fr.old (Fr.r (In []) _) hf_6) hL_25
          exact H
      · have H := H.2 hb_7
        refine rop_locA agg32 hL_20 0 rfl 0 (vs := [(Sl.v x_10)]) rfl rfl ?_
        refine uop_loc siz32 hL_20 1 rfl 0 [(Sl.v x_10)] rfl rfl rfl (Nat.le_of_ble_eq_true rfl) (L' := [(b_3, [(Sl.v x_10)]), (b_2, [(Sl.v x_10)]), (b_1, [(Sl.v x_30), (VI x_31), (Value.int .u64 x_32)])]) rfl (fun h_26 hf_7 hL_26 => ?_)
        refine rop_locA agg32 hL_26 1 rfl 0 (vs := [(Sl.v x_10)]) rfl rfl ?_
        have H := H  h_26  (Fr.old (Fr.r (In []) _) hf_7) hL_26
        exact H

/-! spec.grGood -/
def u165 (P : Program) (g0_1 : Sl) (h : Heap) (K : Value → Heap → Prop) : Prop :=
  ∀ (b_1 : Nat) (h_1 : Heap), h.size ≤ b_1 → Fr (In []) h h_1 → Vars h_1 [(b_1, [(Sl.v g0_1)])] →
  callM P 117 #[(VI (g0_1.n : Int)), (VI 1), (VI 8)] h_1 fun rv_1 h_2 => ∃ t10_1 : Bool, rv_1 = (VB t10_1) ∧ Vars h_2 [(b_1, [(Sl.v g0_1)])] ∧
  ((!t10_1) = true →
  K (VB false) h_2) ∧
  ((!t10_1) = false →
  ∃ J_1 : Nat → Int → Heap → Prop, (∃ n0 : Nat, J_1 n0 0 h_2) ∧
  ∀ (n_1 : Nat) (t15_1 : Int) (h_3 : Heap), J_1 n_1 t15_1 h_3 → Vars h_3 [(b_1, [(Sl.v g0_1)])] →
  ((decide (t15_1 < (g0_1.n : Int))) = true →
  InB g0_1 t15_1 ∧
  ∃ t18_1 : Sl, hcell h_3 (Sl.at g0_1 t15_1 1) = some (Sl.v t18_1) ∧
  ((decide (5 < (t18_1.n : Int))) = true →
  K (VB false) h_3) ∧
  ((decide (5 < (t18_1.n : Int))) = false →
  callM P 104 #[(Sl.v t18_1), (VI 0), (VI (w64 ((g0_1.n : Int) - 1)))] h_3 fun rv_2 h_4 => ∃ t26_1 : Bool, rv_2 = (VB t26_1) ∧ Vars h_4 [(b_1, [(Sl.v g0_1)])] ∧
  ((!t26_1) = true →
  K (VB false) h_4) ∧
  ((!t26_1) = false →
  ∃ m : Nat, m < n_1 ∧ J_1 m (w64 (t15_1 + 1)) h_4))) ∧
  ((decide (t15_1 < (g0_1.n : Int))) = false →
  K (VB true) h_3))
theorem v165 (g0_1 : Sl) (h : Heap) (K : Value → Heap → Prop) (H : u165 Try.prog g0_1 h K) : callM Try.prog 165 #[(Value.agg #[(Sl.v g0_1)])] h K := by
  refine c165 (Value.agg #[(Sl.v g0_1)]) h K ?_
  unfold u165 at H
  unfold t165
  have hL : Vars h [] := .nil
  refine eop_box 32 (Value.agg #[(Sl.v g0_1)]) rfl hL (fun b_1 h_1 hb_1 hf_1 hL_1 => ?_)
  refine pop_field 0 fld32_0 b_1 0 ?_
  refine rop_loc one22 hL_1 0 rfl 0 (v := (Sl.v g0_1)) rfl ?_
  refine pop_len g0_1 _ _ sli22 ?_
  have H := H b_1 h_1 (Nat.le_trans (Fr.size (Fr.r (In []) _)) hb_1) (Fr.no' (Fr.r (In []) _) hf_1) hL_1
  refine H.mono fun rv_1 h_2 H => ?_
  obtain ⟨t10_1, rfl, hL_2, H⟩ := H
  refine pop_not t10_1 ?_
  refine condM_b (fun hb_2 => ?_) (fun hb_2 => ?_)
  · have H := H.1 hb_2
    exact H
  · have H := H.2 hb_2
    refine pop_field 0 fld32_0 b_1 0 ?_
    refine rop_loc one22 hL_2 0 rfl 0 (v := (Sl.v g0_1)) rfl ?_
    refine pop_len g0_1 _ _ sli22 ?_
    obtain ⟨J_1, ⟨n_2, h0_1⟩, HB_1⟩ := H
    refine loop_intro (J := fun (n : Nat) (vs : List Value) (h' : Heap) => ∃ t15_1 : Int, vs = [(VI t15_1)] ∧ J_1 n t15_1 h' ∧ Vars h' [(b_1, [(Sl.v g0_1)])]) n_2 ⟨0, rfl, h0_1, hL_2⟩ ?_
    intro I_1 mu_1 hI_1 junk_1 tv_1 h_3 hi_1
    obtain ⟨n_1, ⟨t15_1, hv, hJ_1, hL_3⟩, hn_1⟩ := hI_1 _ _ hi_1
    cases hv
    have H := HB_1 n_1 t15_1 h_3 hJ_1 hL_3
    refine pop_lss .i64 t15_1 (g0_1.n : Int) ?_
    refine condM_b (fun hb_3 => ?_) (fun hb_3 => ?_)
    · have H := H.1 hb_3
      obtain ⟨hi_2, H⟩ := H
      refine pop_index sli22 siz25 .i64 g0_1 t15_1 hi_2 ?_
      obtain ⟨t18_1, hc_1, H⟩ := H
      refine rop_one one25 (Sl.v t18_1) hc_1 ?_
      refine pop_len t18_1 _ _ sli25 ?_
      refine pop_gtr .i64 (t18_1.n : Int) 5 ?_
      refine guardM_sf (fun hb_4 => ?_) (fun hb_4 => ?_)
      · have H := H.2 hb_4
        refine guardM_y' hb_4 ?_
        refine guardM_y' hb_4 ?_
        refine pop_sub .i64 (g0_1.n : Int) 1 ?_
        refine guardM_y' hb_4 ?_
        refine H.mono fun rv_2 h_4 H => ?_
        obtain ⟨t26_1, rfl, hL_4, H⟩ := H
        refine guardM_y' hb_4 ?_
        refine pop_not t26_1 ?_
        refine pop_pickf' hb_4 ?_
        refine condM_b (fun hb_5 => ?_) (fun hb_5 => ?_)
        · have H := H.1 hb_5
          exact H
        · have H := H.2 hb_5
          refine pop_add .i64 t15_1 1 ?_
          obtain ⟨m_1, hm_1, H⟩ := H
          exact hn_1 _ _ ⟨m_1, hm_1, (w64 (t15_1 + 1)), rfl, H, hL_4⟩
      · have H := H.1 hb_4
        refine guardM_n' hb_4 (by decide) ?_
        refine guardM_n' hb_4 (by decide) ?_
        refine guardM_n' hb_4 (by decide) ?_
        refine guardM_n' hb_4 (by decide) ?_
        refine pop_pickt' hb_4 ?_
        refine condM_t ?_
        exact H
    · have H := H.2 hb_3
      exact H

/-! spec.l1Most -/
def u173 (P : Program) (a0_1 : Int) (b1_1 : Int) (h : Heap) (K : Value → Heap → Prop) : Prop :=
  ((decide (b1_1 < a0_1)) = true →
  K (VI a0_1) h) ∧
  ((decide (b1_1 < a0_1)) = false →
  K (VI b1_1) h)
theorem v173 (a0_1 : Int) (b1_1 : Int) (h : Heap) (K : Value → Heap → Prop) (H : u173 Try.prog a0_1 b1_1 h K) : callM Try.prog 173 #[(VI a0_1), (VI b1_1)] h K := by
  refine c173 (VI a0_1) (VI b1_1) h K ?_
  unfold u173 at H
  unfold t173
  have hL : Vars h [] := .nil
  refine pop_gtr .i64 a0_1 b1_1 ?_
  refine condM_b (fun hb_1 => ?_) (fun hb_1 => ?_)
  · have H := H.1 hb_1
    exact H
  · have H := H.2 hb_1
    exact H

/-! impl.isWalk -/
def u174 (P : Program) (g0_1 : Sl) (w1_1 : Sl) (w1_2 : Int) (h : Heap) (K : Value → Heap → Prop) : Prop :=
  ∀ (b_1 : Nat) (b_2 : Nat) (h_2 : Heap), h.size ≤ b_1 → h.size ≤ b_2 → Fr (In []) h h_2 → Vars h_2 [(b_2, [(Sl.v w1_1), (VI w1_2)]), (b_1, [(Sl.v g0_1)])] →
  eop P (Instr.buildSlice 25 1 #[(0, (VI w1_2))]) h_2 fun rv_1 h_3 => ∃ t10_1 : Sl, rv_1 = (Sl.v t10_1) ∧ Vars h_3 [(b_2, [(Sl.v w1_1), (VI w1_2)]), (b_1, [(Sl.v g0_1)])] ∧
  callM P 107 #[(Value.agg #[(Sl.v g0_1)]), (Sl.v t10_1)] h_3 fun rv_2 h_4 => ∃ t11_1 : Bool, rv_2 = (VB t11_1) ∧ Vars h_4 [(b_2, [(Sl.v w1_1), (VI w1_2)]), (b_1, [(Sl.v g0_1)])] ∧
  ((!t11_1) = true →
  K (VB false) h_4) ∧
  ((!t11_1) = false →
  ((!decide ((w1_1.n : Int) = (g0_1.n : Int))) = true →
  K (VB false) h_4) ∧
  ((!decide ((w1_1.n : Int) = (g0_1.n : Int))) = false →
  ∃ J_1 : Nat → Int → Heap → Prop, (∃ n0 : Nat, J_1 n0 0 h_4) ∧
  ∀ (n_1 : Nat) (t25_1 : Int) (h_5 : Heap), J_1 n_1 t25_1 h_5 → Vars h_5 [(b_2, [(Sl.v w1_1), (VI w1_2)]), (b_1, [(Sl.v g0_1)])] →
  ((decide (t25_1 < (w1_1.n : Int))) = true →
  InB w1_1 t25_1 ∧
  ∃ t29_1 : Int, hcell h_5 (Sl.at w1_1 t25_1 1) = some (VI t29_1) ∧
  InB g0_1 t25_1 ∧
  ∃ t35_1 : Sl, hcell h_5 (Sl.at g0_1 t25_1 1) = some (Sl.v t35_1) ∧
  pop P (Builtin.max_ #[3, 3] 3 #[(VI (w64 ((t35_1.n : Int) - 1))), (Value.int IntKind.i64 0)]) fun rv_3 => ∃ t38_1 : Int, rv_3 = (VI t38_1) ∧ 
  callM P 113 #[(VI t29_1), (VI 0), (VI t38_1)] h_5 fun rv_4 h_6 => ∃ t39_1 : Bool, rv_4 = (VB t39_1) ∧ Vars h_6 [(b_2, [(Sl.v w1_1), (VI w1_2)]), (b_1, [(Sl.v g0_1)])] ∧
  ((!t39_1) = true →
  K (VB false) h_6) ∧
  ((!t39_1) = false →
  ∃ m : Nat, m < n_1 ∧ J_1 m (w64 (t25_1 + 1)) h_6)) ∧
  ((decide (t25_1 < (w1_1.n : Int))) = false →
  K (VB true) h_5)))
theorem v174 (g0_1 : Sl) (w1_1 : Sl) (w1_2 : Int) (h : Heap) (K : Value → Heap → Prop) (H : u174 Try.prog g0_1 w1_1 w1_2 h K) : callM Try.prog 174 #[(Value.agg #[(Sl.v g0_1)]), (Value.agg #[(Sl.v w1_1), (VI w1_2)])] h K := by
  refine c174 (Value.agg #[(Sl.v g0_1)]) (Value.agg #[(Sl.v w1_1), (VI w1_2)]) h K ?_
  unfold u174 at H
  unfold t174
  have hL : Vars h [] := .nil
  refine eop_box 32 (Value.agg #[(Sl.v g0_1)]) rfl hL (fun b_1 h_1 hb_1 hf_1 hL_1 => ?_)
  refine eop_box 132 (Value.agg #[(Sl.v w1_1), (VI w1_2)]) rfl hL_1 (fun b_2 h_2 hb_2 hf_2 hL_2 => ?_)
  refine rop_locA agg32 hL_2 1 rfl 0 (vs := [(Sl.v g0_1)]) rfl rfl ?_
  refine pop_field 1 fld132_1 b_2 0 ?_
  refine rop_loc one3 hL_2 0 rfl 1 (v := (VI w1_2)) rfl ?_
  have H := H b_1 b_2 h_2 (Nat.le_trans (Fr.size (Fr.r (In []) _)) hb_1) (Nat.le_trans (Fr.size (Fr.no' (Fr.r (In []) _) hf_1)) hb_2) (Fr.no' (Fr.no' (Fr.r (In []) _) hf_1) hf_2) hL_2
  refine H.mono fun rv_1 h_3 H => ?_
  obtain ⟨t10_1, rfl, hL_3, H⟩ := H
  refine H.mono fun rv_2 h_4 H => ?_
  obtain ⟨t11_1, rfl, hL_4, H⟩ := H
  refine pop_not t11_1 ?_
  refine guardM_sf (fun hb_3 => ?_) (fun hb_3 => ?_)
  · have H := H.2 hb_3
    refine pop_field 0 fld132_0 b_2 0 ?_
    refine guardM_y' hb_3 ?_
    refine rop_loc one25 hL_4 0 rfl 0 (v := (Sl.v w1_1)) rfl ?_
    refine guardM_y' hb_3 ?_
    refine pop_len w1_1 _ _ sli25 ?_
    refine guardM_y' hb_3 ?_
    refine pop_field 0 fld32_0 b_1 0 ?_
    refine guardM_y' hb_3 ?_
    refine rop_loc one22 hL_4 1 rfl 0 (v := (Sl.v g0_1)) rfl ?_
    refine guardM_y' hb_3 ?_
    refine pop_len g0_1 _ _ sli22 ?_
    refine guardM_y' hb_3 ?_
    refine pop_ine .i64 _ _ (w1_1.n : Int) (g0_1.n : Int) ?_
    refine pop_pickf' hb_3 ?_
    refine condM_b (fun hb_4 => ?_) (fun hb_4 => ?_)
    · have H := H.1 hb_4
      exact H
    · have H := H.2 hb_4
      refine pop_field 0 fld132_0 b_2 0 ?_
      refine rop_loc one25 hL_4 0 rfl 0 (v := (Sl.v w1_1)) rfl ?_
      refine pop_len w1_1 _ _ sli25 ?_
      obtain ⟨J_1, ⟨n_2, h0_1⟩, HB_1⟩ := H
      refine loop_intro (J := fun (n : Nat) (vs : List Value) (h' : Heap) => ∃ t25_1 : Int, vs = [(VI t25_1)] ∧ J_1 n t25_1 h' ∧ Vars h' [(b_2, [(Sl.v w1_1), (VI w1_2)]), (b_1, [(Sl.v g0_1)])]) n_2 ⟨0, rfl, h0_1, hL_4⟩ ?_
      intro I_1 mu_1 hI_1 junk_1 tv_1 h_5 hi_1
      obtain ⟨n_1, ⟨t25_1, hv, hJ_1, hL_5⟩, hn_1⟩ := hI_1 _ _ hi_1
      cases hv
      have H := HB_1 n_1 t25_1 h_5 hJ_1 hL_5
      refine pop_lss .i64 t25_1 (w1_1.n : Int) ?_
      refine condM_b (fun hb_5 => ?_) (fun hb_5 => ?_)
      · have H := H.1 hb_5
        obtain ⟨hi_2, H⟩ := H
        refine pop_index sli25 siz3 .i64 w1_1 t25_1 hi_2 ?_
        obtain ⟨t29_1, hc_2, H⟩ := H
        refine rop_one one3 (VI t29_1) hc_2 ?_
        refine pop_field 0 fld32_0 b_1 0 ?_
        refine rop_loc one22 hL_5 1 rfl 0 (v := (Sl.v g0_1)) rfl ?_
        obtain ⟨hi_3, H⟩ := H
        refine pop_index sli22 siz25 .i64 g0_1 t25_1 hi_3 ?_
        obtain ⟨t35_1, hc_1, H⟩ := H
        refine rop_one one25 (Sl.v t35_1) hc_1 ?_
        refine pop_len t35_1 _ _ sli25 ?_
        refine pop_sub .i64 (t35_1.n : Int) 1 ?_
        refine H.mono fun rv_3 H => ?_
        obtain ⟨t38_1, rfl, H⟩ := H
        refine H.mono fun rv_4 h_6 H => ?_
        obtain ⟨t39_1, rfl, hL_6, H⟩ := H
        refine pop_not t39_1 ?_
        refine condM_b (fun hb_6 => ?_) (fun hb_6 => ?_)
        · have H := H.1 hb_6
          exact H
        · have H := H.2 hb_6
          refine pop_add .i64 t25_1 1 ?_
          obtain ⟨m_1, hm_1, H⟩ := H
          exact hn_1 _ _ ⟨m_1, hm_1, (w64 (t25_1 + 1)), rfl, H, hL_6⟩
      · have H := H.2 hb_5
        exact H
  · have H := H.1 hb_3
    refine guardM_n' hb_3 (by decide) ?_
    refine guardM_n' hb_3 (by decide) ?_
    refine guardM_n' hb_3 (by decide) ?_
    refine guardM_n' hb_3 (by decide) ?_
    refine guardM_n' hb_3 (by decide) ?_
    refine guardM_n' hb_3 (by decide) ?_
    refine pop_pickt' hb_3 ?_
    refine condM_t ?_
    exact H

/-! impl.areChips$1 -/
def u175 (P : Program) (n0_1 : Int) (h : Heap) (K : Value → Heap → Prop) : Prop :=
  callM P 113 #[(VI n0_1), (VI 0), (VI 20)] h fun rv_1 h_1 => ∃ t4_1 : Bool, rv_1 = (VB t4_1) ∧ Vars h_1 [] ∧
  K (VB (!t4_1)) h_1
theorem v175 (n0_1 : Int) (h : Heap) (K : Value → Heap → Prop) (H : u175 Try.prog n0_1 h K) : callM Try.prog 175 #[(VI n0_1)] h K := by
  refine c175 (VI n0_1) h K ?_
  unfold u175 at H
  unfold t175
  have hL : Vars h [] := .nil
  refine H.mono fun rv_1 h_1 H => ?_
  obtain ⟨t4_1, rfl, hL_1, H⟩ := H
  refine pop_not t4_1 ?_
  exact H

/-! (impl.Graph).step -/
def u176 (P : Program) (g0_1 : Sl) (b_1 : Nat) (w1_1 : Sl) (w1_2 : Int) (h : Heap) (K : Value → Heap → Prop) : Prop :=
  InB g0_1 w1_2 ∧
  ∀ (b_2 : Nat) (h_1 : Heap), h.size ≤ b_2 → Fr (In []) h h_1 → Vars h_1 [(b_2, [(Sl.v g0_1)]), (b_1, [(Sl.v w1_1), (VI w1_2)])] →
  ∃ t13_1 : Sl, hcell h_1 (Sl.at g0_1 w1_2 1) = some (Sl.v t13_1) ∧
  ((decide ((t13_1.n : Int) = 0)) = true →
  K (VB false) h_1) ∧
  ((decide ((t13_1.n : Int) = 0)) = false →
  InB w1_1 w1_2 ∧
  ∃ t34_1 : Int, hcell h_1 (Sl.at w1_1 w1_2 1) = some (VI t34_1) ∧
  (t13_1.n : Int) ≠ 0 ∧
  InB w1_1 w1_2 ∧
  Writable h_1 (Sl.at w1_1 w1_2 1) ∧ Vars (hset h_1 (Sl.at w1_1 w1_2 1) (VI (Int.tmod (w64 (t34_1 + 1)) (t13_1.n : Int)))) [(b_2, [(Sl.v g0_1)]), (b_1, [(Sl.v w1_1), (VI w1_2)])] ∧
  ∀ h_2 : Heap, h_2 = hset h_1 (Sl.at w1_1 w1_2 1) (VI (Int.tmod (w64 (t34_1 + 1)) (t13_1.n : Int))) → Vars h_2 [(b_2, [(Sl.v g0_1)]), (b_1, [(Sl.v w1_1), (VI w1_2)])] →
  InB w1_1 w1_2 ∧
  ∃ t51_1 : Int, hcell h_2 (Sl.at w1_1 w1_2 1) = some (VI t51_1) ∧
  InB t13_1 t51_1 ∧
  ∃ t53_1 : Int, hcell h_2 (Sl.at t13_1 t51_1 1) = some (VI t53_1) ∧
  ∀ (h_3 : Heap), Fr (In [b_1]) h_2 h_3 → Vars h_3 [(b_2, [(Sl.v g0_1)]), (b_1, [(Sl.v w1_1), (VI t53_1)])] →
  K (VB true) h_3)
theorem v176 (g0_1 : Sl) (b_1 : Nat) (w1_1 : Sl) (w1_2 : Int) (h : Heap) (K : Value → Heap → Prop) (hL : Vars h [(b_1, [(Sl.v w1_1), (VI w1_2)])]) (H : u176 Try.prog g0_1 b_1 w1_1 w1_2 h K) : callM Try.prog 176 #[(Value.agg #[(Sl.v g0_1)]), (VP b_1 0)] h K := by
  refine c176 (Value.agg #[(Sl.v g0_1)]) (VP b_1 0) h K ?_
  unfold u176 at H
  unfold t176
  refine eop_box 32 (Value.agg #[(Sl.v g0_1)]) rfl hL (fun b_2 h_1 hb_1 hf_1 hL_1 => ?_)
  refine pop_field 0 fld32_0 b_2 0 ?_
  refine rop_loc one22 hL_1 0 rfl 0 (v := (Sl.v g0_1)) rfl ?_
  refine pop_nil _ ?_
  refine pop_field 1 fld132_1 b_1 0 ?_
  refine rop_loc one3 hL_1 1 rfl 1 (v := (VI w1_2)) rfl ?_
  obtain ⟨hi_1, H⟩ := H
  refine pop_index sli22 siz25 .i64 g0_1 w1_2 hi_1 ?_
  have H := H b_2 h_1 (Nat.le_trans (Fr.size (Fr.r (In []) _)) hb_1) (Fr.no' (Fr.r (In []) _) hf_1) hL_1
  obtain ⟨t13_1, hc_4, H⟩ := H
  refine rop_one one25 (Sl.v t13_1) hc_4 ?_
  refine pop_len t13_1 _ _ sli25 ?_
  refine pop_ieq .i64 _ _ (t13_1.n : Int) 0 ?_
  refine condM_b (fun hb_2 => ?_) (fun hb_2 => ?_)
  · have H := H.1 hb_2
    exact H
  · have H := H.2 hb_2
    refine pop_nil _ ?_
    refine pop_field 0 fld132_0 b_1 0 ?_
    refine rop_loc one25 hL_1 1 rfl 0 (v := (Sl.v w1_1)) rfl ?_
    refine pop_nil _ ?_
    refine pop_field 1 fld132_1 b_1 0 ?_
    refine rop_loc one3 hL_1 1 rfl 1 (v := (VI w1_2)) rfl ?_
    refine pop_nil _ ?_
    refine pop_field 0 fld132_0 b_1 0 ?_
    refine rop_loc one25 hL_1 1 rfl 0 (v := (Sl.v w1_1)) rfl ?_
    refine pop_nil _ ?_
    refine pop_field 1 fld132_1 b_1 0 ?_
    refine rop_loc one3 hL_1 1 rfl 1 (v := (VI w1_2)) rfl ?_
    obtain ⟨hi_2, H⟩ := H
    refine pop_index sli25 siz3 .i64 w1_1 w1_2 hi_2 ?_
    obtain ⟨t34_1, hc_3, H⟩ := H
    refine rop_one one3 (VI t34_1) hc_3 ?_
    refine pop_add .i64 t34_1 1 ?_
    refine pop_len t13_1 _ _ sli25 ?_
    obtain ⟨hz_1, H⟩ := H
    refine pop_rem .i64 (w64 (t34_1 + 1)) (t13_1.n : Int) hz_1 ?_
    obtain ⟨hi_3, H⟩ := H
    refine pop_index sli25 siz3 .i64 w1_1 w1_2 hi_3 ?_
    obtain ⟨hw_1, hL_2, H⟩ := H
    refine uop_cell (v := (VI (Int.tmod (w64 (t34_1 + 1)) (t13_1.n : Int)))) siz3 hw_1 rfl (fun h_2 he_1 => ?_)
    rw [← he_1] at hL_2
    have H := H h_2 he_1 hL_2
    refine pop_nil _ ?_
    refine pop_field 0 fld132_0 b_1 0 ?_
    refine rop_loc one25 hL_2 1 rfl 0 (v := (Sl.v w1_1)) rfl ?_
    refine pop_nil _ ?_
    refine pop_field 1 fld132_1 b_1 0 ?_
    refine rop_loc one3 hL_2 1 rfl 1 (v := (VI w1_2)) rfl ?_
    obtain ⟨hi_4, H⟩ := H
    refine pop_index sli25 siz3 .i64 w1_1 w1_2 hi_4 ?_
    obtain ⟨t51_1, hc_2, H⟩ := H
    refine rop_one one3 (VI t51_1) hc_2 ?_
    obtain ⟨hi_5, H⟩ := H
    refine pop_index sli25 siz3 .i64 t13_1 t51_1 hi_5 ?_
    obtain ⟨t53_1, hc_1, H⟩ := H
    refine rop_one one3 (VI t53_1) hc_1 ?_
    refine pop_nil _ ?_
    refine pop_field 1 fld132_1 b_1 0 ?_
    refine uop_loc siz3 hL_2 1 rfl 1 [(VI t53_1)] rfl rfl rfl (Nat.le_of_ble_eq_true rfl) (L' := [(b_2, [(Sl.v g0_1)]), (b_1, [(Sl.v w1_1), (VI t53_1)])]) rfl (fun h_3 hf_2 hL_3 => ?_)
    have H := H  h_3  (Fr.old (Fr.r (In []) _) hf_2) hL_3
    exact H

/-! spec.grFar -/
def u186 (P : Program) (g0_1 : Sl) (p1_1 : Int) (h : Heap) (K : Value → Heap → Prop) : Prop :=
  ∀ (b_1 : Nat) (h_1 : Heap), h.size ≤ b_1 → Fr (In []) h h_1 → Vars h_1 [(b_1, [(Sl.v g0_1)])] →
  eop P (Instr.makeSlice 25 (VI (g0_1.n : Int)) (VI (g0_1.n : Int))) h_1 fun rv_1 h_2 => ∃ t14_1 : Sl, rv_1 = (Sl.v t14_1) ∧ Vars h_2 [(b_1, [(Sl.v g0_1)])] ∧
  ∃ J_1 : Nat → Int → Heap → Prop, (∃ n0 : Nat, J_1 n0 0 h_2) ∧
  ∀ (n_1 : Nat) (t17_1 : Int) (h_3 : Heap), J_1 n_1 t17_1 h_3 → Vars h_3 [(b_1, [(Sl.v g0_1)])] →
  ((decide (t17_1 < (t14_1.n : Int))) = true →
  InB t14_1 t17_1 ∧
  Writable h_3 (Sl.at t14_1 t17_1 1) ∧ Vars (hset h_3 (Sl.at t14_1 t17_1 1) (VI (-1))) [(b_1, [(Sl.v g0_1)])] ∧
  ∀ h_4 : Heap, h_4 = hset h_3 (Sl.at t14_1 t17_1 1) (VI (-1)) → Vars h_4 [(b_1, [(Sl.v g0_1)])] →
  ∃ m : Nat, m < n_1 ∧ J_1 m (w64 (t17_1 + 1)) h_4) ∧
  ((decide (t17_1 < (t14_1.n : Int))) = false →
  InB t14_1 p1_1 ∧
  Writable h_3 (Sl.at t14_1 p1_1 1) ∧ Vars (hset h_3 (Sl.at t14_1 p1_1 1) (VI 0)) [(b_1, [(Sl.v g0_1)])] ∧
  ∀ h_5 : Heap, h_5 = hset h_3 (Sl.at t14_1 p1_1 1) (VI 0) → Vars h_5 [(b_1, [(Sl.v g0_1)])] →
  eop P (Instr.buildSlice 25 1 #[(0, (VI p1_1))]) h_5 fun rv_2 h_6 => ∃ t28_1 : Sl, rv_2 = (Sl.v t28_1) ∧ Vars h_6 [(b_1, [(Sl.v g0_1)])] ∧
  ∃ J_2 : Nat → Sl → Int → Heap → Prop, (∃ n0 : Nat, J_2 n0 t28_1 0 h_6) ∧
  ∀ (n_2 : Nat) (queue7_1 : Sl) (k8_1 : Int) (h_7 : Heap), J_2 n_2 queue7_1 k8_1 h_7 → Vars h_7 [(b_1, [(Sl.v g0_1)])] →
  ((decide (k8_1 < (queue7_1.n : Int))) = true →
  InB queue7_1 k8_1 ∧
  ∃ t40_1 : Int, hcell h_7 (Sl.at queue7_1 k8_1 1) = some (VI t40_1) ∧
  InB g0_1 t40_1 ∧
  ∃ t42_1 : Sl, hcell h_7 (Sl.at g0_1 t40_1 1) = some (Sl.v t42_1) ∧
  ∃ J_3 : Nat → Sl → Int → Heap → Prop, (∃ n0 : Nat, J_3 n0 queue7_1 0 h_7) ∧
  ∀ (n_3 : Nat) (queue7_2 : Sl) (t44_1 : Int) (h_8 : Heap), J_3 n_3 queue7_2 t44_1 h_8 → Vars h_8 [(b_1, [(Sl.v g0_1)])] →
  ((decide (t44_1 < (t42_1.n : Int))) = true →
  InB t42_1 t44_1 ∧
  ∃ t47_1 : Int, hcell h_8 (Sl.at t42_1 t44_1 1) = some (VI t47_1) ∧
  InB t14_1 t47_1 ∧
  ∃ t51_1 : Int, hcell h_8 (Sl.at t14_1 t47_1 1) = some (VI t51_1) ∧
  ((decide (t51_1 < 0)) = true →
  InB queue7_2 k8_1 ∧
  ∃ t59_1 : Int, hcell h_8 (Sl.at queue7_2 k8_1 1) = some (VI t59_1) ∧
  InB t14_1 t59_1 ∧
  ∃ t61_1 : Int, hcell h_8 (Sl.at t14_1 t59_1 1) = some (VI t61_1) ∧
  InB t14_1 t47_1 ∧
  Writable h_8 (Sl.at t14_1 t47_1 1) ∧ Vars (hset h_8 (Sl.at t14_1 t47_1 1) (VI (w64 (t61_1 + 1)))) [(b_1, [(Sl.v g0_1)])] ∧
  ∀ h_9 : Heap, h_9 = hset h_8 (Sl.at t14_1 t47_1 1) (VI (w64 (t61_1 + 1))) → Vars h_9 [(b_1, [(Sl.v g0_1)])] →
  eop P (Instr.buildSlice 25 1 #[(0, (VI t47_1))]) h_9 fun rv_3 h_10 => ∃ t66_1 : Sl, rv_3 = (Sl.v t66_1) ∧ Vars h_10 [(b_1, [(Sl.v g0_1)])] ∧
  eop P (appS 25 25 25 (Sl.v queue7_2) (Sl.v t66_1)) h_10 fun rv_4 h_11 => ∃ t67_1 : Sl, rv_4 = (Sl.v t67_1) ∧ Vars h_11 [(b_1, [(Sl.v g0_1)])] ∧
  ∃ m : Nat, m < n_3 ∧ J_3 m t67_1 (w64 (t44_1 + 1)) h_11) ∧
  ((decide (t51_1 < 0)) = false →
  ∃ m : Nat, m < n_3 ∧ J_3 m queue7_2 (w64 (t44_1 + 1)) h_8)) ∧
  ((decide (t44_1 < (t42_1.n : Int))) = false →
  ∃ m : Nat, m < n_2 ∧ J_2 m queue7_2 (w64 (k8_1 + 1)) h_8)) ∧
  ((decide (k8_1 < (queue7_1.n : Int))) = false →
  K (Sl.v t14_1) h_7))
theorem v186 (g0_1 : Sl) (p1_1 : Int) (h : Heap) (K : Value → Heap → Prop) (H : u186 Try.prog g0_1 p1_1 h K) : callM Try.prog 186 #[(Value.agg #[(Sl.v g0_1)]), (VI p1_1)] h K := by
  refine c186 (Value.agg #[(Sl.v g0_1)]) (VI p1_1) h K ?_
  unfold u186 at H
  unfold t186
  have hL : Vars h [] := .nil
  refine eop_box 32 (Value.agg #[(Sl.v g0_1)]) rfl hL (fun b_1 h_1 hb_1 hf_1 hL_1 => ?_)
  refine pop_field 0 fld32_0 b_1 0 ?_
  refine rop_loc one22 hL_1 0 rfl 0 (v := (Sl.v g0_1)) rfl ?_
  refine pop_len g0_1 _ _ sli22 ?_
  have H := H b_1 h_1 (Nat.le_trans (Fr.size (Fr.r (In []) _)) hb_1) (Fr.no' (Fr.r (In []) _) hf_1) hL_1
  refine H.mono fun rv_1 h_2 H => ?_
  obtain ⟨t14_1, rfl, hL_2, H⟩ := H
  refine pop_len t14_1 _ _ sli25 ?_
  obtain ⟨J_1, ⟨n_6, h0_3⟩, HB_3⟩ := H
  refine loop_intro (J := fun (n : Nat) (vs : List Value) (h' : Heap) => ∃ t17_1 : Int, vs = [(VI t17_1)] ∧ J_1 n t17_1 h' ∧ Vars h' [(b_1, [(Sl.v g0_1)])]) n_6 ⟨0, rfl, h0_3, hL_2⟩ ?_
  intro I_3 mu_3 hI_3 junk_1 tv_5 h_3 hi_1
  obtain ⟨n_1, ⟨t17_1, hv, hJ_1, hL_3⟩, hn_1⟩ := hI_3 _ _ hi_1
  cases hv
  have H := HB_3 n_1 t17_1 h_3 hJ_1 hL_3
  refine pop_lss .i64 t17_1 (t14_1.n : Int) ?_
  refine condM_b (fun hb_2 => ?_) (fun hb_2 => ?_)
  · have H := H.1 hb_2
    obtain ⟨hi_2, H⟩ := H
    refine pop_index sli25 siz3 .i64 t14_1 t17_1 hi_2 ?_
    obtain ⟨hw_1, hL_4, H⟩ := H
    refine uop_cell (v := (VI (-1))) siz3 hw_1 rfl (fun h_4 he_1 => ?_)
    rw [← he_1] at hL_4
    have H := H h_4 he_1 hL_4
    refine pop_add .i64 t17_1 1 ?_
    obtain ⟨m_1, hm_1, H⟩ := H
    exact hn_1 _ _ ⟨m_1, hm_1, (w64 (t17_1 + 1)), rfl, H, hL_4⟩
  · have H := H.2 hb_2
    obtain ⟨hi_3, H⟩ := H
    refine pop_index sli25 siz3 .i64 t14_1 p1_1 hi_3 ?_
    obtain ⟨hw_2, hL_5, H⟩ := H
    refine uop_cell (v := (VI 0)) siz3 hw_2 rfl (fun h_5 he_2 => ?_)
    rw [← he_2] at hL_5
    have H := H h_5 he_2 hL_5
    refine H.mono fun rv_2 h_6 H => ?_
    obtain ⟨t28_1, rfl, hL_6, H⟩ := H
    obtain ⟨J_2, ⟨n_5, h0_2⟩, HB_2⟩ := H
    refine loop_intro (J := fun (n : Nat) (vs : List Value) (h' : Heap) => ∃ queue7_1 : Sl, ∃ k8_1 : Int, vs = [(Sl.v queue7_1), (VI k8_1)] ∧ J_2 n queue7_1 k8_1 h' ∧ Vars h' [(b_1, [(Sl.v g0_1)])]) n_5 ⟨t28_1, 0, rfl, h0_2, hL_6⟩ ?_
    intro I_2 mu_2 hI_2 junk_2 tv_3 tv_4 h_7 hi_4
    obtain ⟨n_2, ⟨queue7_1, k8_1, hv, hJ_2, hL_7⟩, hn_2⟩ := hI_2 _ _ hi_4
    cases hv
    have H := HB_2 n_2 queue7_1 k8_1 h_7 hJ_2 hL_7
    refine pop_len queue7_1 _ _ sli25 ?_
    refine pop_lss .i64 k8_1 (queue7_1.n : Int) ?_
    refine condM_b (fun hb_3 => ?_) (fun hb_3 => ?_)
    · have H := H.1 hb_3
      refine pop_field 0 fld32_0 b_1 0 ?_
      refine rop_loc one22 hL_7 0 rfl 0 (v := (Sl.v g0_1)) rfl ?_
      obtain ⟨hi_5, H⟩ := H
      refine pop_index sli25 siz3 .i64 queue7_1 k8_1 hi_5 ?_
      obtain ⟨t40_1, hc_6, H⟩ := H
      refine rop_one one3 (VI t40_1) hc_6 ?_
      obtain ⟨hi_6, H⟩ := H
      refine pop_index sli22 siz25 .i64 g0_1 t40_1 hi_6 ?_
      obtain ⟨t42_1, hc_5, H⟩ := H
      refine rop_one one25 (Sl.v t42_1) hc_5 ?_
      refine pop_len t42_1 _ _ sli25 ?_
      obtain ⟨J_3, ⟨n_4, h0_1⟩, HB_1⟩ := H
      refine loop_intro (J := fun (n : Nat) (vs : List Value) (h' : Heap) => ∃ queue7_2 : Sl, ∃ t44_1 : Int, vs = [(Sl.v queue7_2), (VI t44_1)] ∧ J_3 n queue7_2 t44_1 h' ∧ Vars h' [(b_1, [(Sl.v g0_1)])]) n_4 ⟨queue7_1, 0, rfl, h0_1, hL_7⟩ ?_
      intro I_1 mu_1 hI_1 junk_3 tv_1 tv_2 h_8 hi_7
      obtain ⟨n_3, ⟨queue7_2, t44_1, hv, hJ_3, hL_8⟩, hn_3⟩ := hI_1 _ _ hi_7
      cases hv
      have H := HB_1 n_3 queue7_2 t44_1 h_8 hJ_3 hL_8
      refine pop_lss .i64 t44_1 (t42_1.n : Int) ?_
      refine condM_b (fun hb_4 => ?_) (fun hb_4 => ?_)
      · have H := H.1 hb_4
        obtain ⟨hi_8, H⟩ := H
        refine pop_index sli25 siz3 .i64 t42_1 t44_1 hi_8 ?_
        obtain ⟨t47_1, hc_4, H⟩ := H
        refine rop_one one3 (VI t47_1) hc_4 ?_
        obtain ⟨hi_9, H⟩ := H
        refine pop_index sli25 siz3 .i64 t14_1 t47_1 hi_9 ?_
        obtain ⟨t51_1, hc_3, H⟩ := H
        refine rop_one one3 (VI t51_1) hc_3 ?_
        refine pop_lss .i64 t51_1 0 ?_
        refine condM_b (fun hb_5 => ?_) (fun hb_5 => ?_)
        · have H := H.1 hb_5
          obtain ⟨hi_10, H⟩ := H
          refine pop_index sli25 siz3 .i64 queue7_2 k8_1 hi_10 ?_
          obtain ⟨t59_1, hc_2, H⟩ := H
          refine rop_one one3 (VI t59_1) hc_2 ?_
          obtain ⟨hi_11, H⟩ := H
          refine pop_index sli25 siz3 .i64 t14_1 t59_1 hi_11 ?_
          obtain ⟨t61_1, hc_1, H⟩ := H
          refine rop_one one3 (VI t61_1) hc_1 ?_
          refine pop_add .i64 t61_1 1 ?_
          obtain ⟨hi_12, H⟩ := H
          refine pop_index sli25 siz3 .i64 t14_1 t47_1 hi_12 ?_
          obtain ⟨hw_3, hL_9, H⟩ := H
          refine uop_cell (v := (VI (w64 (t61_1 + 1)))) siz3 hw_3 rfl (fun h_9 he_3 => ?_)
          rw [← he_3] at hL_9
          have H := H h_9 he_3 hL_9
          refine H.mono fun rv_3 h_10 H => ?_
          obtain ⟨t66_1, rfl, hL_10, H⟩ := H
          refine H.mono fun rv_4 h_11 H => ?_
          obtain ⟨t67_1, rfl, hL_11, H⟩ := H
          refine pop_add .i64 t44_1 1 ?_
          obtain ⟨m_2, hm_2, H⟩ := H
          exact hn_3 _ _ ⟨m_2, hm_2, t67_1, (w64 (t44_1 + 1)), rfl, H, hL_11⟩
        · have H := H.2 hb_5
          refine pop_add .i64 t44_1 1 ?_
          obtain ⟨m_3, hm_3, H⟩ := H
          exact hn_3 _ _ ⟨m_3, hm_3, queue7_2, (w64 (t44_1 + 1)), rfl, H, hL_8⟩
      · have H := H.2 hb_4
        refine pop_add .i64 k8_1 1 ?_
        obtain ⟨m_4, hm_4, H⟩ := H
        exact hn_2 _ _ ⟨m_4, hm_4, queue7_2, (w64 (k8_1 + 1)), rfl, H, hL_8⟩
    · have H := H.2 hb_3
      exact H

/-! (impl.Graph).lengths -/
def u187 (P : Program) (g0_1 : Sl) (p1_1 : Int) (h : Heap) (K : Value → Heap → Prop) : Prop :=
  ∀ (b_1 : Nat) (h_1 : Heap), h.size ≤ b_1 → Fr (In []) h h_1 → Vars h_1 [(b_1, [(Sl.v g0_1)])] →
  eop P (Instr.buildSlice 25 1 #[(0, (Value.int IntKind.i64 (-1)))]) h_1 fun rv_1 h_2 => ∃ t9_1 : Sl, rv_1 = (Sl.v t9_1) ∧ Vars h_2 [(b_1, [(Sl.v g0_1)])] ∧
  callM P 197 #[(Sl.v t9_1), (VI (g0_1.n : Int))] h_2 fun rv_2 h_3 => ∃ t13_1 : Sl, rv_2 = (Sl.v t13_1) ∧ Vars h_3 [(b_1, [(Sl.v g0_1)])] ∧
  InB t13_1 p1_1 ∧
  Writable h_3 (Sl.at t13_1 p1_1 1) ∧ Vars (hset h_3 (Sl.at t13_1 p1_1 1) (VI 0)) [(b_1, [(Sl.v g0_1)])] ∧
  ∀ h_4 : Heap, h_4 = hset h_3 (Sl.at t13_1 p1_1 1) (VI 0) → Vars h_4 [(b_1, [(Sl.v g0_1)])] →
  eop P (Instr.buildSlice 25 1 #[(0, (VI p1_1))]) h_4 fun rv_3 h_5 => ∃ t18_1 : Sl, rv_3 = (Sl.v t18_1) ∧ Vars h_5 [(b_1, [(Sl.v g0_1)])] ∧
  ∃ J_1 : Nat → Sl → Heap → Prop, (∃ n0 : Nat, J_1 n0 t18_1 h_5) ∧
  ∀ (n_1 : Nat) (list6_1 : Sl) (h_6 : Heap), J_1 n_1 list6_1 h_6 → Vars h_6 [(b_1, [(Sl.v g0_1)])] →
  ((decide (0 < (list6_1.n : Int))) = true →
  InB list6_1 0 ∧
  ∃ t28_1 : Int, hcell h_6 (Sl.at list6_1 0 1) = some (VI t28_1) ∧
  InB g0_1 t28_1 ∧
  ∃ t30_1 : Sl, hcell h_6 (Sl.at g0_1 t28_1 1) = some (Sl.v t30_1) ∧
  ∃ J_2 : Nat → Sl → Int → Heap → Prop, (∃ n0 : Nat, J_2 n0 list6_1 0 h_6) ∧
  ∀ (n_2 : Nat) (list6_2 : Sl) (t32_1 : Int) (h_7 : Heap), J_2 n_2 list6_2 t32_1 h_7 → Vars h_7 [(b_1, [(Sl.v g0_1)])] →
  ((decide (t32_1 < (t30_1.n : Int))) = true →
  InB t30_1 t32_1 ∧
  ∃ t35_1 : Int, hcell h_7 (Sl.at t30_1 t32_1 1) = some (VI t35_1) ∧
  InB t13_1 t35_1 ∧
  ∃ t39_1 : Int, hcell h_7 (Sl.at t13_1 t35_1 1) = some (VI t39_1) ∧
  ((decide (t39_1 < 0)) = true →
  InB list6_2 0 ∧
  ∃ t46_1 : Int, hcell h_7 (Sl.at list6_2 0 1) = some (VI t46_1) ∧
  InB t13_1 t46_1 ∧
  ∃ t48_1 : Int, hcell h_7 (Sl.at t13_1 t46_1 1) = some (VI t48_1) ∧
  InB t13_1 t35_1 ∧
  Writable h_7 (Sl.at t13_1 t35_1 1) ∧ Vars (hset h_7 (Sl.at t13_1 t35_1 1) (VI (w64 (t48_1 + 1)))) [(b_1, [(Sl.v g0_1)])] ∧
  ∀ h_8 : Heap, h_8 = hset h_7 (Sl.at t13_1 t35_1 1) (VI (w64 (t48_1 + 1))) → Vars h_8 [(b_1, [(Sl.v g0_1)])] →
  eop P (Instr.buildSlice 25 1 #[(0, (VI t35_1))]) h_8 fun rv_4 h_9 => ∃ t53_1 : Sl, rv_4 = (Sl.v t53_1) ∧ Vars h_9 [(b_1, [(Sl.v g0_1)])] ∧
  eop P (appS 25 25 25 (Sl.v list6_2) (Sl.v t53_1)) h_9 fun rv_5 h_10 => ∃ t54_1 : Sl, rv_5 = (Sl.v t54_1) ∧ Vars h_10 [(b_1, [(Sl.v g0_1)])] ∧
  ∃ m : Nat, m < n_2 ∧ J_2 m t54_1 (w64 (t32_1 + 1)) h_10) ∧
  ((decide (t39_1 < 0)) = false →
  ∃ m : Nat, m < n_2 ∧ J_2 m list6_2 (w64 (t32_1 + 1)) h_7)) ∧
  ((decide (t32_1 < (t30_1.n : Int))) = false →
  pop P (Instr.sliceAt 25 (Sl.v list6_2) (some (Value.int IntKind.i64 1)) none none) fun rv_6 => ∃ t23_1 : Sl, rv_6 = (Sl.v t23_1) ∧ 
  ∃ m : Nat, m < n_1 ∧ J_1 m t23_1 h_7)) ∧
  ((decide (0 < (list6_1.n : Int))) = false →
  K (Sl.v t13_1) h_6)
theorem v187 (g0_1 : Sl) (p1_1 : Int) (h : Heap) (K : Value → Heap → Prop) (H : u187 Try.prog g0_1 p1_1 h K) : callM Try.prog 187 #[(Value.agg #[(Sl.v g0_1)]), (VI p1_1)] h K := by
  refine c187 (Value.agg #[(Sl.v g0_1)]) (VI p1_1) h K ?_
  unfold u187 at H
  unfold t187
  have hL : Vars h [] := .nil
  refine eop_box 32 (Value.agg #[(Sl.v g0_1)]) rfl hL (fun b_1 h_1 hb_1 hf_1 hL_1 => ?_)
  have H := H b_1 h_1 (Nat.le_trans (Fr.size (Fr.r (In []) _)) hb_1) (Fr.no' (Fr.r (In []) _) hf_1) hL_1
  refine H.mono fun rv_1 h_2 H => ?_
  obtain ⟨t9_1, rfl, hL_2, H⟩ := H
  refine pop_field 0 fld32_0 b_1 0 ?_
  refine rop_loc one22 hL_2 0 rfl 0 (v := (Sl.v g0_1)) rfl ?_
  refine pop_len g0_1 _ _ sli22 ?_
  refine H.mono fun rv_2 h_3 H => ?_
  obtain ⟨t13_1, rfl, hL_3, H⟩ := H
  obtain ⟨hi_1, H⟩ := H
  refine pop_index sli25 siz3 .i64 t13_1 p1_1 hi_1 ?_
  obtain ⟨hw_1, hL_4, H⟩ := H
  refine uop_cell (v := (VI 0)) siz3 hw_1 rfl (fun h_4 he_1 => ?_)
  rw [← he_1] at hL_4
  have H := H h_4 he_1 hL_4
  refine H.mono fun rv_3 h_5 H => ?_
  obtain ⟨t18_1, rfl, hL_5, H⟩ := H
  obtain ⟨J_1, ⟨n_4, h0_2⟩, HB_2⟩ := H
  refine loop_intro (J := fun (n : Nat) (vs : List Value) (h' : Heap) => ∃ list6_1 : Sl, vs = [(Sl.v list6_1)] ∧ J_1 n list6_1 h' ∧ Vars h' [(b_1, [(Sl.v g0_1)])]) n_4 ⟨t18_1, rfl, h0_2, hL_5⟩ ?_
  intro I_2 mu_2 hI_2 junk_1 tv_3 h_6 hi_2
  obtain ⟨n_1, ⟨list6_1, hv, hJ_1, hL_6⟩, hn_1⟩ := hI_2 _ _ hi_2
  cases hv
  have H := HB_2 n_1 list6_1 h_6 hJ_1 hL_6
  refine pop_len list6_1 _ _ sli25 ?_
  refine pop_gtr .i64 (list6_1.n : Int) 0 ?_
  refine condM_b (fun hb_2 => ?_) (fun hb_2 => ?_)
  · have H := H.1 hb_2
    refine pop_field 0 fld32_0 b_1 0 ?_
    refine rop_loc one22 hL_6 0 rfl 0 (v := (Sl.v g0_1)) rfl ?_
    obtain ⟨hi_3, H⟩ := H
    refine pop_index sli25 siz3 .i64 list6_1 0 hi_3 ?_
    obtain ⟨t28_1, hc_6, H⟩ := H
    refine rop_one one3 (VI t28_1) hc_6 ?_
    obtain ⟨hi_4, H⟩ := H
    refine pop_index sli22 siz25 .i64 g0_1 t28_1 hi_4 ?_
    obtain ⟨t30_1, hc_5, H⟩ := H
    refine rop_one one25 (Sl.v t30_1) hc_5 ?_
    refine pop_len t30_1 _ _ sli25 ?_
    obtain ⟨J_2, ⟨n_3, h0_1⟩, HB_1⟩ := H
    refine loop_intro (J := fun (n : Nat) (vs : List Value) (h' : Heap) => ∃ list6_2 : Sl, ∃ t32_1 : Int, vs = [(Sl.v list6_2), (VI t32_1)] ∧ J_2 n list6_2 t32_1 h' ∧ Vars h' [(b_1, [(Sl.v g0_1)])]) n_3 ⟨list6_1, 0, rfl, h0_1, hL_6⟩ ?_
    intro I_1 mu_1 hI_1 junk_2 tv_1 tv_2 h_7 hi_5
    obtain ⟨n_2, ⟨list6_2, t32_1, hv, hJ_2, hL_7⟩, hn_2⟩ := hI_1 _ _ hi_5
    cases hv
    have H := HB_1 n_2 list6_2 t32_1 h_7 hJ_2 hL_7
    refine pop_lss .i64 t32_1 (t30_1.n : Int) ?_
    refine condM_b (fun hb_3 => ?_) (fun hb_3 => ?_)
    · have H := H.1 hb_3
      obtain ⟨hi_6, H⟩ := H
      refine pop_index sli25 siz3 .i64 t30_1 t32_1 hi_6 ?_
      obtain ⟨t35_1, hc_4, H⟩ := H
      refine rop_one one3 (VI t35_1) hc_4 ?_
      obtain ⟨hi_7, H⟩ := H
      refine pop_index sli25 siz3 .i64 t13_1 t35_1 hi_7 ?_
      obtain ⟨t39_1, hc_3, H⟩ := H
      refine rop_one one3 (VI t39_1) hc_3 ?_
      refine pop_lss .i64 t39_1 0 ?_
      refine condM_b (fun hb_4 => ?_) (fun hb_4 => ?_)
      · have H := H.1 hb_4
        obtain ⟨hi_8, H⟩ := H
        refine pop_index sli25 siz3 .i64 list6_2 0 hi_8 ?_
        obtain ⟨t46_1, hc_2, H⟩ := H
        refine rop_one one3 (VI t46_1) hc_2 ?_
        obtain ⟨hi_9, H⟩ := H
        refine pop_index sli25 siz3 .i64 t13_1 t46_1 hi_9 ?_
        obtain ⟨t48_1, hc_1, H⟩ := H
        refine rop_one one3 (VI t48_1) hc_1 ?_
        refine pop_add .i64 t48_1 1 ?_
        obtain ⟨hi_10, H⟩ := H
        refine pop_index sli25 siz3 .i64 t13_1 t35_1 hi_10 ?_
        obtain ⟨hw_2, hL_8, H⟩ := H
        refine uop_cell (v := (VI (w64 (t48_1 + 1)))) siz3 hw_2 rfl (fun h_8 he_2 => ?_)
        rw [← he_2] at hL_8
        have H := H h_8 he_2 hL_8
        refine H.mono fun rv_4 h_9 H => ?_
        obtain ⟨t53_1, rfl, hL_9, H⟩ := H
        refine H.mono fun rv_5 h_10 H => ?_
        obtain ⟨t54_1, rfl, hL_10, H⟩ := H
        refine pop_add .i64 t32_1 1 ?_
        obtain ⟨m_1, hm_1, H⟩ := H
        exact hn_2 _ _ ⟨m_1, hm_1, t54_1, (w64 (t32_1 + 1)), rfl, H, hL_10⟩
      · have H := H.2 hb_4
        refine pop_add .i64 t32_1 1 ?_
        obtain ⟨m_2, hm_2, H⟩ := H
        exact hn_2 _ _ ⟨m_2, hm_2, list6_2, (w64 (t32_1 + 1)), rfl, H, hL_7⟩
    · have H := H.2 hb_3
      refine H.mono fun rv_6 H => ?_
      obtain ⟨t23_1, rfl, H⟩ := H
      obtain ⟨m_3, hm_3, H⟩ := H
      exact hn_1 _ _ ⟨m_3, hm_3, t23_1, rfl, H, hL_7⟩
  · have H := H.2 hb_2
    exact H

/-! slices.Repeat[[]int,int] -/
def u197 (P : Program) (x0_1 : Sl) (count1_1 : Int) (h : Heap) (K : Value → Heap → Prop) : Prop :=
  ∃ J_1 : Heap → Prop, (((decide (count1_1 < 0)) = true →
  pop P (Instr.makeInterface 9 (Value.string { data := #[99, 97, 110, 110, 111, 116, 32, 98, 101, 32, 110, 101, 103, 97, 116, 105, 118, 101] })) fun rv_1 => ∃ t11_1 : Value, rv_1 = t11_1 ∧ 
  False) ∧
  ((decide (count1_1 < 0)) = false →
  J_1  h)) ∧
  ∀ (h_1 : Heap), J_1  h_1 → Vars h_1 [] →
  rop P (convert 3 170 (VI (x0_1.n : Int))) h_1 fun rv_2 => ∃ t15_1 : Int, rv_2 = (Value.int .u64 t15_1) ∧ 
  rop P (convert 3 170 (VI count1_1)) h_1 fun rv_3 => ∃ t17_1 : Int, rv_3 = (Value.int .u64 t17_1) ∧ 
  callM P 211 #[(Value.int .u64 t15_1), (Value.int .u64 t17_1)] h_1 fun rv_4 h_2 => ∃ t18_1 : Int, ∃ t18_2 : Int, rv_4 = (Value.tuple #[(Value.int .u64 t18_1), (Value.int .u64 t18_2)]) ∧ Vars h_2 [] ∧
  ∃ J_2 : Heap → Prop, (((decide (0 < t18_1)) = true →
  pop P (Instr.makeInterface 9 (Value.string { data := #[116, 104, 101, 32, 114, 101, 115, 117, 108, 116, 32, 111, 102, 32, 40, 108, 101, 110, 40, 120, 41, 32, 42, 32, 99, 111, 117, 110, 116, 41, 32, 111, 118, 101, 114, 102, 108, 111, 119, 115] })) fun rv_6 => ∃ t27_2 : Value, rv_6 = t27_2 ∧ 
  False) ∧
  ((decide (0 < t18_1)) = false →
  ((decide (9223372036854775807 < t18_2)) = true →
  pop P (Instr.makeInterface 9 (Value.string { data := #[116, 104, 101, 32, 114, 101, 115, 117, 108, 116, 32, 111, 102, 32, 40, 108, 101, 110, 40, 120, 41, 32, 42, 32, 99, 111, 117, 110, 116, 41, 32, 111, 118, 101, 114, 102, 108, 111, 119, 115] })) fun rv_5 => ∃ t27_1 : Value, rv_5 = t27_1 ∧ 
  False) ∧
  ((decide (9223372036854775807 < t18_2)) = false →
  J_2  h_2))) ∧
  ∀ (h_3 : Heap), J_2  h_3 → Vars h_3 [] →
  rop P (convert 170 3 (Value.int .u64 t18_2)) h_3 fun rv_7 => ∃ t29_1 : Int, rv_7 = (VI t29_1) ∧ 
  eop P (Instr.makeSlice 25 (VI t29_1) (VI t29_1)) h_3 fun rv_8 h_4 => ∃ t30_1 : Sl, rv_8 = (Sl.v t30_1) ∧ Vars h_4 [] ∧
  eop P (Builtin.copy_ #[25, 25] 3 #[(Sl.v t30_1), (Sl.v x0_1)]) h_4 fun rv_9 h_5 => ∃ t33_1 : Int, rv_9 = (VI t33_1) ∧ Vars h_5 [] ∧
  ∃ J_3 : Nat → Int → Heap → Prop, (∃ n0 : Nat, J_3 n0 t33_1 h_5) ∧
  ∀ (n_1 : Nat) (n8_1 : Int) (h_6 : Heap), J_3 n_1 n8_1 h_6 → Vars h_6 [] →
  ((decide (n8_1 < (t30_1.n : Int))) = true →
  pop P (Instr.sliceAt 25 (Sl.v t30_1) (some (VI n8_1)) none none) fun rv_10 => ∃ t41_1 : Sl, rv_10 = (Sl.v t41_1) ∧ 
  pop P (Instr.sliceAt 25 (Sl.v t30_1) none (some (VI n8_1)) none) fun rv_11 => ∃ t44_1 : Sl, rv_11 = (Sl.v t44_1) ∧ 
  eop P (Builtin.copy_ #[25, 25] 3 #[(Sl.v t41_1), (Sl.v t44_1)]) h_6 fun rv_12 h_7 => ∃ t45_1 : Int, rv_12 = (VI t45_1) ∧ Vars h_7 [] ∧
  ∃ m : Nat, m < n_1 ∧ J_3 m (w64 (n8_1 + t45_1)) h_7) ∧
  ((decide (n8_1 < (t30_1.n : Int))) = false →
  K (Sl.v t30_1) h_6)
theorem v197 (x0_1 : Sl) (count1_1 : Int) (h : Heap) (K : Value → Heap → Prop) (H : u197 Try.prog x0_1 count1_1 h K) : callM Try.prog 197 #[(Sl.v x0_1), (VI count1_1)] h K := by
  refine c197 (Sl.v x0_1) (VI count1_1) h K ?_
  unfold u197 at H
  unfold t197
  have hL : Vars h [] := .nil
  obtain ⟨J_1, H, HB_3⟩ := H
  refine ⟨fun (vs : List Value) (h' : Heap) => vs = [] ∧ J_1  h' ∧ Vars h' [], ?_, ?_⟩
  · refine pop_lss .i64 count1_1 0 ?_
    refine condM_b (fun hb_1 => ?_) (fun hb_1 => ?_)
    · have H := H.1 hb_1
      refine H.mono fun rv_1 H => ?_
      obtain ⟨t11_1, rfl, H⟩ := H
      exact H.elim
    · have H := H.2 hb_1
      exact ⟨rfl, H, hL⟩
  intro junk_1  h_1
  rintro ⟨hv, hJ_1, hL_1⟩
  have H := HB_3  h_1 hJ_1 hL_1
  refine pop_len x0_1 _ _ sli25 ?_
  refine H.mono fun rv_2 H => ?_
  obtain ⟨t15_1, rfl, H⟩ := H
  refine H.mono fun rv_3 H => ?_
  obtain ⟨t17_1, rfl, H⟩ := H
  refine H.mono fun rv_4 h_2 H => ?_
  obtain ⟨t18_1, t18_2, rfl, hL_2, H⟩ := H
  refine pop_ext (v := (Value.int .u64 t18_1)) rfl ?_
  refine pop_ext (v := (Value.int .u64 t18_2)) rfl ?_
  obtain ⟨J_2, H, HB_2⟩ := H
  refine ⟨fun (vs : List Value) (h' : Heap) => vs = [] ∧ J_2  h' ∧ Vars h' [], ?_, ?_⟩
  · refine pop_gtr .u64 t18_1 0 ?_
    refine guardM_sf (fun hb_2 => ?_) (fun hb_2 => ?_)
    · have H := H.2 hb_2
      refine guardM_y' hb_2 ?_
      refine pop_gtr .u64 t18_2 9223372036854775807 ?_
      refine pop_pickf' hb_2 ?_
      refine condM_b (fun hb_3 => ?_) (fun hb_3 => ?_)
      · have H := H.1 hb_3
        refine H.mono fun rv_5 H => ?_
        obtain ⟨t27_1, rfl, H⟩ := H
        exact H.elim
      · have H := H.2 hb_3
        exact ⟨rfl, H, hL_2⟩
    · have H := H.1 hb_2
      refine guardM_n' hb_2 (by decide) ?_
      refine pop_pickt' hb_2 ?_
      refine condM_t ?_
      refine H.mono fun rv_6 H => ?_
      obtain ⟨t27_2, rfl, H⟩ := H
      exact H.elim
  intro junk_2  h_3
  rintro ⟨hv, hJ_2, hL_3⟩
  have H := HB_2  h_3 hJ_2 hL_3
  refine H.mono fun rv_7 H => ?_
  obtain ⟨t29_1, rfl, H⟩ := H
  refine H.mono fun rv_8 h_4 H => ?_
  obtain ⟨t30_1, rfl, hL_4, H⟩ := H
  refine H.mono fun rv_9 h_5 H => ?_
  obtain ⟨t33_1, rfl, hL_5, H⟩ := H
  obtain ⟨J_3, ⟨n_2, h0_1⟩, HB_1⟩ := H
  refine loop_intro (J := fun (n : Nat) (vs : List Value) (h' : Heap) => ∃ n8_1 : Int, vs = [(VI n8_1)] ∧ J_3 n n8_1 h' ∧ Vars h' []) n_2 ⟨t33_1, rfl, h0_1, hL_5⟩ ?_
  intro I_1 mu_1 hI_1 junk_3 tv_1 h_6 hi_1
  obtain ⟨n_1, ⟨n8_1, hv, hJ_3, hL_6⟩, hn_1⟩ := hI_1 _ _ hi_1
  cases hv
  have H := HB_1 n_1 n8_1 h_6 hJ_3 hL_6
  refine pop_len t30_1 _ _ sli25 ?_
  refine pop_lss .i64 n8_1 (t30_1.n : Int) ?_
  refine condM_b (fun hb_4 => ?_) (fun hb_4 => ?_)
  · have H := H.1 hb_4
    refine H.mono fun rv_10 H => ?_
    obtain ⟨t41_1, rfl, H⟩ := H
    refine H.mono fun rv_11 H => ?_
    obtain ⟨t44_1, rfl, H⟩ := H
    refine H.mono fun rv_12 h_7 H => ?_
    obtain ⟨t45_1, rfl, hL_7, H⟩ := H
    refine pop_add .i64 n8_1 t45_1 ?_
    obtain ⟨m_1, hm_1, H⟩ := H
    exact hn_1 _ _ ⟨m_1, hm_1, (w64 (n8_1 + t45_1)), rfl, H, hL_7⟩
  · have H := H.2 hb_4
    exact H

/-! math/bits.Mul -/
def u211 (P : Program) (x0_1 : Int) (y1_1 : Int) (h : Heap) (K : Value → Heap → Prop) : Prop :=
  callM P 219 #[(Value.int .u64 x0_1), (Value.int .u64 y1_1)] h fun rv_1 h_1 => ∃ t25_1 : Int, ∃ t25_2 : Int, rv_1 = (Value.tuple #[(Value.int .u64 t25_1), (Value.int .u64 t25_2)]) ∧ Vars h_1 [] ∧
  K (Value.tuple #[(Value.int .u64 t25_1), (Value.int .u64 t25_2)]) h_1
theorem v211 (x0_1 : Int) (y1_1 : Int) (h : Heap) (K : Value → Heap → Prop) (H : u211 Try.prog x0_1 y1_1 h K) : callM Try.prog 211 #[(Value.int .u64 x0_1), (Value.int .u64 y1_1)] h K := by
  refine c211 (Value.int .u64 x0_1) (Value.int .u64 y1_1) h K ?_
  unfold u211 at H
  unfold t211
  have hL : Vars h [] := .nil
  refine condM_f ?_
  refine H.mono fun rv_1 h_1 H => ?_
  obtain ⟨t25_1, t25_2, rfl, hL_1, H⟩ := H
  refine pop_ext (v := (Value.int .u64 t25_1)) rfl ?_
  refine pop_ext (v := (Value.int .u64 t25_2)) rfl ?_
  exact H

/-! math/bits.Mul32 -/
def u218 (P : Program) (x0_1 : Int) (y1_1 : Int) (h : Heap) (K : Value → Heap → Prop) : Prop :=
  rop P (convert 184 107 (Value.int .u32 x0_1)) h fun rv_1 => ∃ t8_1 : Int, rv_1 = (Value.int .u64 t8_1) ∧ 
  rop P (convert 184 107 (Value.int .u32 y1_1)) h fun rv_2 => ∃ t10_1 : Int, rv_2 = (Value.int .u64 t10_1) ∧ 
  pop P (binA .shr 107 (Value.int .u64 (IntKind.wrap .u64 (t8_1 * t10_1))) (Value.int IntKind.u64 32)) fun rv_3 => ∃ t13_1 : Int, rv_3 = (Value.int .u64 t13_1) ∧ 
  rop P (convert 107 184 (Value.int .u64 t13_1)) h fun rv_4 => ∃ t14_1 : Int, rv_4 = (Value.int .u32 t14_1) ∧ 
  rop P (convert 107 184 (Value.int .u64 (IntKind.wrap .u64 (t8_1 * t10_1)))) h fun rv_5 => ∃ t16_1 : Int, rv_5 = (Value.int .u32 t16_1) ∧ 
  K (Value.tuple #[(Value.int .u32 t14_1), (Value.int .u32 t16_1)]) h
theorem v218 (x0_1 : Int) (y1_1 : Int) (h : Heap) (K : Value → Heap → Prop) (H : u218 Try.prog x0_1 y1_1 h K) : callM Try.prog 218 #[(Value.int .u32 x0_1), (Value.int .u32 y1_1)] h K := by
  refine c218 (Value.int .u32 x0_1) (Value.int .u32 y1_1) h K ?_
  unfold u218 at H
  unfold t218
  have hL : Vars h [] := .nil
  refine H.mono fun rv_1 H => ?_
  obtain ⟨t8_1, rfl, H⟩ := H
  refine H.mono fun rv_2 H => ?_
  obtain ⟨t10_1, rfl, H⟩ := H
  refine pop_mul .u64 t8_1 t10_1 ?_
  refine H.mono fun rv_3 H => ?_
  obtain ⟨t13_1, rfl, H⟩ := H
  refine H.mono fun rv_4 H => ?_
  obtain ⟨t14_1, rfl, H⟩ := H
  refine H.mono fun rv_5 H => ?_
  obtain ⟨t16_1, rfl, H⟩ := H
  exact H

/-! math/bits.Mul64 -/
def u219 (P : Program) (x0_1 : Int) (y1_1 : Int) (h : Heap) (K : Value → Heap → Prop) : Prop :=
  pop P (binA .and 107 (Value.int .u64 x0_1) (Value.int IntKind.u64 4294967295)) fun rv_1 => ∃ t15_1 : Int, rv_1 = (Value.int .u64 t15_1) ∧ 
  pop P (binA .shr 107 (Value.int .u64 x0_1) (Value.int IntKind.u64 32)) fun rv_2 => ∃ t17_1 : Int, rv_2 = (Value.int .u64 t17_1) ∧ 
  pop P (binA .and 107 (Value.int .u64 y1_1) (Value.int IntKind.u64 4294967295)) fun rv_3 => ∃ t19_1 : Int, rv_3 = (Value.int .u64 t19_1) ∧ 
  pop P (binA .shr 107 (Value.int .u64 y1_1) (Value.int IntKind.u64 32)) fun rv_4 => ∃ t21_1 : Int, rv_4 = (Value.int .u64 t21_1) ∧ 
  pop P (binA .shr 107 (Value.int .u64 (IntKind.wrap .u64 (t15_1 * t19_1))) (Value.int IntKind.u64 32)) fun rv_5 => ∃ t29_1 : Int, rv_5 = (Value.int .u64 t29_1) ∧ 
  pop P (binA .and 107 (Value.int .u64 (IntKind.wrap .u64 ((IntKind.wrap .u64 (t17_1 * t19_1)) + t29_1))) (Value.int IntKind.u64 4294967295)) fun rv_6 => ∃ t32_1 : Int, rv_6 = (Value.int .u64 t32_1) ∧ 
  pop P (binA .shr 107 (Value.int .u64 (IntKind.wrap .u64 ((IntKind.wrap .u64 (t17_1 * t19_1)) + t29_1))) (Value.int IntKind.u64 32)) fun rv_7 => ∃ t34_1 : Int, rv_7 = (Value.int .u64 t34_1) ∧ 
  pop P (binA .shr 107 (Value.int .u64 (IntKind.wrap .u64 (t32_1 + (IntKind.wrap .u64 (t15_1 * t21_1))))) (Value.int IntKind.u64 32)) fun rv_8 => ∃ t46_1 : Int, rv_8 = (Value.int .u64 t46_1) ∧ 
  K (Value.tuple #[(Value.int .u64 (IntKind.wrap .u64 ((IntKind.wrap .u64 ((IntKind.wrap .u64 (t17_1 * t21_1)) + t34_1)) + t46_1))), (Value.int .u64 (IntKind.wrap .u64 (x0_1 * y1_1)))]) h
theorem v219 (x0_1 : Int) (y1_1 : Int) (h : Heap) (K : Value → Heap → Prop) (H : u219 Try.prog x0_1 y1_1 h K) : callM Try.prog 219 #[(Value.int .u64 x0_1), (Value.int .u64 y1_1)] h K := by
  refine c219 (Value.int .u64 x0_1) (Value.int .u64 y1_1) h K ?_
  unfold u219 at H
  unfold t219
  have hL : Vars h [] := .nil
  refine H.mono fun rv_1 H => ?_
  obtain ⟨t15_1, rfl, H⟩ := H
  refine H.mono fun rv_2 H => ?_
  obtain ⟨t17_1, rfl, H⟩ := H
  refine H.mono fun rv_3 H => ?_
  obtain ⟨t19_1, rfl, H⟩ := H
  refine H.mono fun rv_4 H => ?_
  obtain ⟨t21_1, rfl, H⟩ := H
  refine pop_mul .u64 t15_1 t19_1 ?_
  refine pop_mul .u64 t17_1 t19_1 ?_
  refine H.mono fun rv_5 H => ?_
  obtain ⟨t29_1, rfl, H⟩ := H
  refine pop_add .u64 (IntKind.wrap .u64 (t17_1 * t19_1)) t29_1 ?_
  refine H.mono fun rv_6 H => ?_
  obtain ⟨t32_1, rfl, H⟩ := H
  refine H.mono fun rv_7 H => ?_
  obtain ⟨t34_1, rfl, H⟩ := H
  refine pop_mul .u64 t15_1 t21_1 ?_
  refine pop_add .u64 t32_1 (IntKind.wrap .u64 (t15_1 * t21_1)) ?_
  refine pop_mul .u64 t17_1 t21_1 ?_
  refine pop_add .u64 (IntKind.wrap .u64 (t17_1 * t21_1)) t34_1 ?_
  refine H.mono fun rv_8 H => ?_
  obtain ⟨t46_1, rfl, H⟩ := H
  refine pop_add .u64 (IntKind.wrap .u64 ((IntKind.wrap .u64 (t17_1 * t21_1)) + t34_1)) t46_1 ?_
  refine pop_mul .u64 x0_1 y1_1 ?_
  exact H

end Go.Proofs.Ytbhnecochpehdaa
