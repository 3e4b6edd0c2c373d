/-
  The same over typed data. Written by a program.
-/
import Derived.Test.YtbhnecochpehdaaChipsInAnyOrderU
import Derived.Test.YtbhnecochpehdaaChipsInAnyOrderT
import Derived.Test.YtbhnecochpehdaaM2
set_option linter.unusedVariables false
set_option linter.unusedSimpArgs false
set_option maxRecDepth 100000
namespace Go.Proofs.Ytbhnecochpehdaa
open Go Go.Mx
/-! impl.MoveInOrder -/
def u48 (P : Program) (g0_1 : Sl) (sink1_1 : Int) (l2_1 : Sl) (l2_2 : Sl) (order3_1 : Sl) (h : Heap) (K : Value → Heap → Prop) : Prop :=
  ∀ (b_1 : Nat) (b_2 : Nat) (b_3 : Nat) (h_3 : Heap), h.size ≤ b_1 → h.size ≤ b_2 → h.size ≤ b_3 → Fr (In []) h h_3 → Vars h_3 [(b_3, [(Sl.v nilSl), (Sl.v nilSl)]), (b_2, [(Sl.v l2_1), (Sl.v l2_2)]), (b_1, [(Sl.v g0_1)])] →
  callM P 79 #[(Value.agg #[(Sl.v g0_1)]), (VI sink1_1), (Value.agg #[(Sl.v l2_1), (Sl.v l2_2)])] h_3 fun rv_1 h_4 => ∃ t16_1 : Bool, rv_1 = (VB t16_1) ∧ Vars h_4 [(b_3, [(Sl.v nilSl), (Sl.v nilSl)]), (b_2, [(Sl.v l2_1), (Sl.v l2_2)]), (b_1, [(Sl.v g0_1)])] ∧
  ((!t16_1) = true →
  ∀ (h_15 : Heap), Fr (In [b_3]) h_4 h_15 → Vars h_15 [(b_3, [(Sl.v nilSl), (Sl.v nilSl)]), (b_2, [(Sl.v l2_1), (Sl.v l2_2)]), (b_1, [(Sl.v g0_1)])] →
  K (Value.tuple #[(Value.agg #[(Sl.v nilSl), (Sl.v nilSl)]), (VB false)]) h_15) ∧
  ((!t16_1) = false →
  ((decide (100 < (order3_1.n : Int))) = true →
  ∀ (h_14 : Heap), Fr (In [b_3]) h_4 h_14 → Vars h_14 [(b_3, [(Sl.v nilSl), (Sl.v nilSl)]), (b_2, [(Sl.v l2_1), (Sl.v l2_2)]), (b_1, [(Sl.v g0_1)])] →
  K (Value.tuple #[(Value.agg #[(Sl.v nilSl), (Sl.v nilSl)]), (VB false)]) h_14) ∧
  ((decide (100 < (order3_1.n : Int))) = false →
  callM P 107 #[(Value.agg #[(Sl.v g0_1)]), (Sl.v order3_1)] h_4 fun rv_2 h_5 => ∃ t26_1 : Bool, rv_2 = (VB t26_1) ∧ Vars h_5 [(b_3, [(Sl.v nilSl), (Sl.v nilSl)]), (b_2, [(Sl.v l2_1), (Sl.v l2_2)]), (b_1, [(Sl.v g0_1)])] ∧
  ((!t26_1) = true →
  ∀ (h_6 : Heap), Fr (In [b_3]) h_5 h_6 → Vars h_6 [(b_3, [(Sl.v nilSl), (Sl.v nilSl)]), (b_2, [(Sl.v l2_1), (Sl.v l2_2)]), (b_1, [(Sl.v g0_1)])] →
  K (Value.tuple #[(Value.agg #[(Sl.v nilSl), (Sl.v nilSl)]), (VB false)]) h_6) ∧
  ((!t26_1) = false →
  callM P 80 #[(Value.agg #[(Sl.v l2_1), (Sl.v l2_2)])] h_5 fun rv_3 h_7 => ∃ t31_1 : Sl, ∃ t31_2 : Sl, rv_3 = (Value.agg #[(Sl.v t31_1), (Sl.v t31_2)]) ∧ Vars h_7 [(b_3, [(Sl.v nilSl), (Sl.v nilSl)]), (b_2, [(Sl.v l2_1), (Sl.v l2_2)]), (b_1, [(Sl.v g0_1)])] ∧
  ∀ (b_4 : Nat) (h_9 : Heap), h_7.size ≤ b_4 → Fr (In []) h_7 h_9 → Vars h_9 [(b_4, [(Sl.v t31_1), (Sl.v t31_2)]), (b_3, [(Sl.v nilSl), (Sl.v nilSl)]), (b_2, [(Sl.v l2_1), (Sl.v l2_2)]), (b_1, [(Sl.v g0_1)])] →
  ∃ J_1 : Nat → Int → Sl → Sl → Heap → Prop, (∃ n0 : Nat, J_1 n0 0 t31_1 t31_2 h_9) ∧
  ∀ (n_1 : Nat) (t34_1 : Int) (x_1 : Sl) (x_2 : Sl) (h_10 : Heap), J_1 n_1 t34_1 x_1 x_2 h_10 → Vars h_10 [(b_4, [(Sl.v x_1), (Sl.v x_2)]), (b_3, [(Sl.v nilSl), (Sl.v nilSl)]), (b_2, [(Sl.v l2_1), (Sl.v l2_2)]), (b_1, [(Sl.v g0_1)])] →
  ((decide (t34_1 < (order3_1.n : Int))) = true →
  InB order3_1 t34_1 ∧
  ∃ t37_1 : Int, hcell h_10 (Sl.at order3_1 t34_1 1) = some (VI t37_1) ∧
  callM P 108 #[(VP b_4 0), (Value.agg #[(Sl.v g0_1)]), (VI sink1_1), (VI t37_1)] h_10 fun rv_4 h_11 => ∃ x_3 : Sl, ∃ x_4 : Sl, ∃ t41_1 : Bool, rv_4 = (VB t41_1) ∧ Vars h_11 [(b_4, [(Sl.v x_3), (Sl.v x_4)]), (b_3, [(Sl.v nilSl), (Sl.v nilSl)]), (b_2, [(Sl.v l2_1), (Sl.v l2_2)]), (b_1, [(Sl.v g0_1)])] ∧
  ((!t41_1) = true →
  ∀ (h_12 : Heap), Fr (In [b_3]) h_11 h_12 → Vars h_12 [(b_4, [(Sl.v x_3), (Sl.v x_4)]), (b_3, [(Sl.v nilSl), (Sl.v nilSl)]), (b_2, [(Sl.v l2_1), (Sl.v l2_2)]), (b_1, [(Sl.v g0_1)])] →
  K (Value.tuple #[(Value.agg #[(Sl.v nilSl), (Sl.v nilSl)]), (VB false)]) h_12) ∧
  ((!t41_1) = false →
  ∃ m : Nat, m < n_1 ∧ J_1 m (w64 (t34_1 + 1)) x_3 x_4 h_11)) ∧
  ((decide (t34_1 < (order3_1.n : Int))) = false →
  ∀ (h_13 : Heap), Fr (In [b_3]) h_10 h_13 → Vars h_13 [(b_4, [(Sl.v x_1), (Sl.v x_2)]), (b_3, [(Sl.v x_1), (Sl.v x_2)]), (b_2, [(Sl.v l2_1), (Sl.v l2_2)]), (b_1, [(Sl.v g0_1)])] →
  K (Value.tuple #[(Value.agg #[(Sl.v x_1), (Sl.v x_2)]), (VB true)]) h_13))))
theorem v48 (g0_1 : Sl) (sink1_1 : Int) (l2_1 : Sl) (l2_2 : Sl) (order3_1 : Sl) (h : Heap) (K : Value → Heap → Prop) (H : u48 Try.prog g0_1 sink1_1 l2_1 l2_2 order3_1 h K) : callM Try.prog 48 #[(Value.agg #[(Sl.v g0_1)]), (VI sink1_1), (Value.agg #[(Sl.v l2_1), (Sl.v l2_2)]), (Sl.v order3_1)] h K := by
  refine c48 (Value.agg #[(Sl.v g0_1)]) (VI sink1_1) (Value.agg #[(Sl.v l2_1), (Sl.v l2_2)]) (Sl.v order3_1) h K ?_
  unfold u48 at H
  unfold t48
  have hL : Vars h [] := .nil
  refine eop_box 32 (Value.agg #[(Sl.v g0_1)]) rfl hL (fun b_1 h_1 hb_1 hf_1 hL_1 => ?_)
  refine eop_box 34 (Value.agg #[(Sl.v l2_1), (Sl.v l2_2)]) rfl hL_1 (fun b_2 h_2 hb_2 hf_2 hL_2 => ?_)
  refine eop_alloc 34 zer34 rfl hL_2 (fun b_3 h_3 hb_3 hf_3 hL_3 => ?_)
  refine rop_locA agg32 hL_3 2 rfl 0 (vs := [(Sl.v g0_1)]) rfl rfl ?_
  refine rop_locA agg34 hL_3 1 rfl 0 (vs := [(Sl.v l2_1), (Sl.v l2_2)]) rfl rfl ?_
  have H := H b_1 b_2 b_3 h_3 (Nat.le_trans (Fr.size (Fr.r (In []) _)) hb_1) (Nat.le_trans (Fr.size (Fr.no' (Fr.r (In []) _) hf_1)) hb_2) (Nat.le_trans (Fr.size (Fr.no' (Fr.no' (Fr.r (In []) _) hf_1) hf_2)) hb_3) (Fr.no' (Fr.no' (Fr.no' (Fr.r (In []) _) hf_1) hf_2) hf_3) hL_3
  refine H.mono fun rv_1 h_4 H => ?_
  obtain ⟨t16_1, rfl, hL_4, H⟩ := H
  refine pop_not t16_1 ?_
  refine guardM_sf (fun hb_4 => ?_) (fun hb_4 => ?_)
  · have H := H.2 hb_4
    refine guardM_y' hb_4 ?_
    refine pop_len order3_1 _ _ sli25 ?_
    refine guardM_y' hb_4 ?_
    refine pop_gtr .i64 (order3_1.n : Int) 100 ?_
    refine pop_pickf' hb_4 ?_
    refine guardM_sf (fun hb_5 => ?_) (fun hb_5 => ?_)
    · have H := H.2 hb_5
      refine rop_locA agg32 hL_4 2 rfl 0 (vs := [(Sl.v g0_1)]) rfl rfl ?_
      refine guardM_y' hb_5 ?_
      refine guardM_y' hb_5 ?_
      refine H.mono fun rv_2 h_5 H => ?_
      obtain ⟨t26_1, rfl, hL_5, H⟩ := H
      refine guardM_y' hb_5 ?_
      refine pop_not t26_1 ?_
      refine pop_pickf' hb_5 ?_
      refine condM_b (fun hb_6 => ?_) (fun hb_6 => ?_)
      · have H := H.1 hb_6
        refine pop.mk' (v := (Value.agg #[(Sl.v nilSl), (Sl.v nilSl)])) (fun w => by kernel_rfl) ?_
        refine uop_loc siz34 hL_5 0 rfl 0 [(Sl.v nilSl), (Sl.v nilSl)] rfl rfl rfl (Nat.le_of_ble_eq_true rfl) (L' := [(b_3, [(Sl.v nilSl), (Sl.v nilSl)]), (b_2, [(Sl.v l2_1), (Sl.v l2_2)]), (b_1, [(Sl.v g0_1)])]) rfl (fun h_6 hf_4 hL_6 => ?_)
        refine rop_locA agg34 hL_6 0 rfl 0 (vs := [(Sl.v nilSl), (Sl.v nilSl)]) rfl rfl ?_
        have H := H  h_6  (Fr.old (Fr.r (In []) _) hf_4) hL_6
        exact H
      · have H := H.2 hb_6
        refine rop_locA agg34 hL_5 1 rfl 0 (vs := [(Sl.v l2_1), (Sl.v l2_2)]) rfl rfl ?_
        refine H.mono fun rv_3 h_7 H => ?_
        obtain ⟨t31_1, t31_2, rfl, hL_7, H⟩ := H
        refine eop_alloc 34 zer34 rfl hL_7 (fun b_4 h_8 hb_7 hf_5 hL_8 => ?_)
        refine uop_loc siz34 hL_8 0 rfl 0 [(Sl.v t31_1), (Sl.v t31_2)] rfl rfl rfl (Nat.le_of_ble_eq_true rfl) (L' := [(b_4, [(Sl.v t31_1), (Sl.v t31_2)]), (b_3, [(Sl.v nilSl), (Sl.v nilSl)]), (b_2, [(Sl.v l2_1), (Sl.v l2_2)]), (b_1, [(Sl.v g0_1)])]) rfl (fun h_9 hf_6 hL_9 => ?_)
        refine pop_len order3_1 _ _ sli25 ?_
        have H := H b_4 h_9 (Nat.le_trans (Fr.size (Fr.r (In []) _)) hb_7) (Fr.new (Fr.no' (Fr.r (In []) _) hf_5) (Nat.le_trans (Fr.size (Fr.r (In []) _)) hb_7) hf_6) hL_9
        obtain ⟨J_1, ⟨n_2, h0_1⟩, HB_1⟩ := H
        refine loop_intro (J := fun (n : Nat) (vs : List Value) (h' : Heap) => ∃ t34_1 : Int, ∃ x_1 : Sl, ∃ x_2 : Sl, vs = [(VI t34_1)] ∧ J_1 n t34_1 x_1 x_2 h' ∧ Vars h' [(b_4, [(Sl.v x_1), (Sl.v x_2)]), (b_3, [(Sl.v nilSl), (Sl.v nilSl)]), (b_2, [(Sl.v l2_1), (Sl.v l2_2)]), (b_1, [(Sl.v g0_1)])]) n_2 ⟨0, t31_1, t31_2, rfl, h0_1, hL_9⟩ ?_
        intro I_1 mu_1 hI_1 junk_1 tv_1 h_10 hi_1
        obtain ⟨n_1, ⟨t34_1, x_1, x_2, hv, hJ_1, hL_10⟩, hn_1⟩ := hI_1 _ _ hi_1
        cases hv
        have H := HB_1 n_1 t34_1 x_1 x_2 h_10 hJ_1 hL_10
        refine pop_lss .i64 t34_1 (order3_1.n : Int) ?_
        refine condM_b (fun hb_8 => ?_) (fun hb_8 => ?_)
        · have H := H.1 hb_8
          obtain ⟨hi_2, H⟩ := H
          refine pop_index sli25 siz3 .i64 order3_1 t34_1 hi_2 ?_
          obtain ⟨t37_1, hc_1, H⟩ := H
          refine rop_one one3 (VI t37_1) hc_1 ?_
          refine rop_locA agg32 hL_10 3 rfl 0 (vs := [(Sl.v g0_1)]) rfl rfl ?_
          refine H.mono fun rv_4 h_11 H => ?_
          obtain ⟨x_3, x_4, t41_1, rfl, hL_11, H⟩ := H
          refine pop_not t41_1 ?_
          refine condM_b (fun hb_9 => ?_) (fun hb_9 => ?_)
          · have H := H.1 hb_9
            refine pop.mk' (v := (Value.agg #[(Sl.v nilSl), (Sl.v nilSl)])) (fun w => by kernel_rfl) ?_
            refine uop_loc siz34 hL_11 1 rfl 0 [(Sl.v nilSl), (Sl.v nilSl)] rfl rfl rfl (Nat.le_of_ble_eq_true rfl) (L' := [(b_4, [(Sl.v x_3), (Sl.v x_4)]), (b_3, [(Sl.v nilSl), (Sl.v nilSl)]), (b_2, [(Sl.v l2_1), (Sl.v l2_2)]), (b_1, [(Sl.v g0_1)])]) rfl (fun h_12 hf_7 hL_12 => ?_)
            refine rop_locA agg34 hL_12 1 rfl 0 (vs := [(Sl.v nilSl), (Sl.v nilSl)]) rfl rfl ?_
            have H := H  h_12  (Fr.old (Fr.r (In []) _) hf_7) hL_12
            exact H
          · have H := H.2 hb_9
            refine pop_add .i64 t34_1 1 ?_
            obtain ⟨m_1, hm_1, H⟩ := H
            exact hn_1 _ _ ⟨m_1, hm_1, (w64 (t34_1 + 1)), x_3, x_4, rfl, H, hL_11⟩
        · have H := H.2 hb_8
          refine rop_locA agg34 hL_10 0 rfl 0 (vs := [(Sl.v x_1), (Sl.v x_2)]) rfl rfl ?_
          refine uop_loc siz34 hL_10 1 rfl 0 [(Sl.v x_1), (Sl.v x_2)] rfl rfl rfl (Nat.le_of_ble_eq_true rfl) (L' := [(b_4, [(Sl.v x_1), (Sl.v x_2)]), (b_3, [(Sl.v x_1), (Sl.v x_2)]), (b_2, [(Sl.v l2_1), (Sl.v l2_2)]), (b_1, [(Sl.v g0_1)])]) rfl (fun h_13 hf_8 hL_13 => ?_)
          refine rop_locA agg34 hL_13 1 rfl 0 (vs := [(Sl.v x_1), (Sl.v x_2)]) rfl rfl ?_
          have H := H  h_13  (Fr.old (Fr.r (In []) _) hf_8) hL_13
          exact H
    · have H := H.1 hb_5
      refine guardM_n' hb_5 (by decide) ?_
      refine guardM_n' hb_5 (by decide) ?_
      refine guardM_n' hb_5 (by decide) ?_
      refine pop_pickt' hb_5 ?_
      refine condM_t ?_
      refine pop.mk' (v := (Value.agg #[(Sl.v nilSl), (Sl.v nilSl)])) (fun w => by kernel_rfl) ?_
      refine uop_loc siz34 hL_4 0 rfl 0 [(Sl.v nilSl), (Sl.v nilSl)] rfl rfl rfl (Nat.le_of_ble_eq_true rfl) (L' := [(b_3, [(Sl.v nilSl), (Sl.v nilSl)]), (b_2, [(Sl.v l2_1), (Sl.v l2_2)]), (b_1, [(Sl.v g0_1)])]) rfl (fun h_14 hf_9 hL_14 => ?_)
      refine rop_locA agg34 hL_14 0 rfl 0 (vs := [(Sl.v nilSl), (Sl.v nilSl)]) rfl rfl ?_
      have H := H  h_14  (Fr.old (Fr.r (In []) _) hf_9) hL_14
      exact H
  · have H := H.1 hb_4
    refine guardM_n' hb_4 (by decide) ?_
    refine guardM_n' hb_4 (by decide) ?_
    refine pop_pickt' hb_4 ?_
    refine guardM_n (by decide) ?_
    refine guardM_n (by decide) ?_
    refine guardM_n (by decide) ?_
    refine guardM_n (by decide) ?_
    refine pop_pickt _ _ ?_
    refine condM_t ?_
    refine pop.mk' (v := (Value.agg #[(Sl.v nilSl), (Sl.v nilSl)])) (fun w => by kernel_rfl) ?_
    refine uop_loc siz34 hL_4 0 rfl 0 [(Sl.v nilSl), (Sl.v nilSl)] rfl rfl rfl (Nat.le_of_ble_eq_true rfl) (L' := [(b_3, [(Sl.v nilSl), (Sl.v nilSl)]), (b_2, [(Sl.v l2_1), (Sl.v l2_2)]), (b_1, [(Sl.v g0_1)])]) rfl (fun h_15 hf_10 hL_15 => ?_)
    refine rop_locA agg34 hL_15 0 rfl 0 (vs := [(Sl.v nilSl), (Sl.v nilSl)]) rfl rfl ?_
    have H := H  h_15  (Fr.old (Fr.r (In []) _) hf_10) hL_15
    exact H

/-! spec.MoveInOrder -/
def u49 (P : Program) (g0_1 : Sl) (sink1_1 : Int) (l2_1 : Sl) (l2_2 : Sl) (order3_1 : Sl) (h : Heap) (K : Value → Heap → Prop) : Prop :=
  ∀ (b_1 : Nat) (b_2 : Nat) (b_3 : Nat) (h_3 : Heap), h.size ≤ b_1 → h.size ≤ b_2 → h.size ≤ b_3 → Fr (In []) h h_3 → Vars h_3 [(b_3, [(Sl.v nilSl), (Sl.v nilSl)]), (b_2, [(Sl.v l2_1), (Sl.v l2_2)]), (b_1, [(Sl.v g0_1)])] →
  callM P 76 #[(Value.agg #[(Sl.v g0_1)]), (VI sink1_1), (Value.agg #[(Sl.v l2_1), (Sl.v l2_2)])] h_3 fun rv_1 h_4 => ∃ t16_1 : Bool, rv_1 = (VB t16_1) ∧ Vars h_4 [(b_3, [(Sl.v nilSl), (Sl.v nilSl)]), (b_2, [(Sl.v l2_1), (Sl.v l2_2)]), (b_1, [(Sl.v g0_1)])] ∧
  ((!t16_1) = true →
  ∀ (h_16 : Heap), Fr (In [b_3]) h_4 h_16 → Vars h_16 [(b_3, [(Sl.v nilSl), (Sl.v nilSl)]), (b_2, [(Sl.v l2_1), (Sl.v l2_2)]), (b_1, [(Sl.v g0_1)])] →
  K (Value.tuple #[(Value.agg #[(Sl.v nilSl), (Sl.v nilSl)]), (VB false)]) h_16) ∧
  ((!t16_1) = false →
  ((decide (100 < (order3_1.n : Int))) = true →
  ∀ (h_15 : Heap), Fr (In [b_3]) h_4 h_15 → Vars h_15 [(b_3, [(Sl.v nilSl), (Sl.v nilSl)]), (b_2, [(Sl.v l2_1), (Sl.v l2_2)]), (b_1, [(Sl.v g0_1)])] →
  K (Value.tuple #[(Value.agg #[(Sl.v nilSl), (Sl.v nilSl)]), (VB false)]) h_15) ∧
  ((decide (100 < (order3_1.n : Int))) = false →
  callM P 104 #[(Sl.v order3_1), (VI 0), (VI (w64 ((g0_1.n : Int) - 1)))] h_4 fun rv_2 h_5 => ∃ t29_1 : Bool, rv_2 = (VB t29_1) ∧ Vars h_5 [(b_3, [(Sl.v nilSl), (Sl.v nilSl)]), (b_2, [(Sl.v l2_1), (Sl.v l2_2)]), (b_1, [(Sl.v g0_1)])] ∧
  ((!t29_1) = true →
  ∀ (h_6 : Heap), Fr (In [b_3]) h_5 h_6 → Vars h_6 [(b_3, [(Sl.v nilSl), (Sl.v nilSl)]), (b_2, [(Sl.v l2_1), (Sl.v l2_2)]), (b_1, [(Sl.v g0_1)])] →
  K (Value.tuple #[(Value.agg #[(Sl.v nilSl), (Sl.v nilSl)]), (VB false)]) h_6) ∧
  ((!t29_1) = false →
  callM P 109 #[(Value.agg #[(Sl.v l2_1), (Sl.v l2_2)])] h_5 fun rv_3 h_7 => ∃ t34_1 : Sl, ∃ t34_2 : Sl, rv_3 = (Value.agg #[(Sl.v t34_1), (Sl.v t34_2)]) ∧ Vars h_7 [(b_3, [(Sl.v nilSl), (Sl.v nilSl)]), (b_2, [(Sl.v l2_1), (Sl.v l2_2)]), (b_1, [(Sl.v g0_1)])] ∧
  ∀ (b_4 : Nat) (h_9 : Heap), h_7.size ≤ b_4 → Fr (In []) h_7 h_9 → Vars h_9 [(b_4, [(Sl.v t34_1), (Sl.v t34_2)]), (b_3, [(Sl.v nilSl), (Sl.v nilSl)]), (b_2, [(Sl.v l2_1), (Sl.v l2_2)]), (b_1, [(Sl.v g0_1)])] →
  ∃ J_1 : Nat → Int → Heap → Prop, (∃ n0 : Nat, J_1 n0 0 h_9) ∧
  ∀ (n_1 : Nat) (t37_1 : Int) (h_10 : Heap), J_1 n_1 t37_1 h_10 → Vars h_10 [(b_4, [(Sl.v t34_1), (Sl.v t34_2)]), (b_3, [(Sl.v nilSl), (Sl.v nilSl)]), (b_2, [(Sl.v l2_1), (Sl.v l2_2)]), (b_1, [(Sl.v g0_1)])] →
  ((decide (t37_1 < (order3_1.n : Int))) = true →
  InB order3_1 t37_1 ∧
  ∃ t40_1 : Int, hcell h_10 (Sl.at order3_1 t37_1 1) = some (VI t40_1) ∧
  ((decide (t40_1 = sink1_1)) = true →
  ∀ (h_13 : Heap), Fr (In [b_3]) h_10 h_13 → Vars h_13 [(b_4, [(Sl.v t34_1), (Sl.v t34_2)]), (b_3, [(Sl.v nilSl), (Sl.v nilSl)]), (b_2, [(Sl.v l2_1), (Sl.v l2_2)]), (b_1, [(Sl.v g0_1)])] →
  K (Value.tuple #[(Value.agg #[(Sl.v nilSl), (Sl.v nilSl)]), (VB false)]) h_13) ∧
  ((decide (t40_1 = sink1_1)) = false →
  InB t34_2 t40_1 ∧
  ∃ t49_1 : Int, hcell h_10 (Sl.at t34_2 t40_1 1) = some (VI t49_1) ∧
  ((decide (t49_1 < 1)) = true →
  ∀ (h_11 : Heap), Fr (In [b_3]) h_10 h_11 → Vars h_11 [(b_4, [(Sl.v t34_1), (Sl.v t34_2)]), (b_3, [(Sl.v nilSl), (Sl.v nilSl)]), (b_2, [(Sl.v l2_1), (Sl.v l2_2)]), (b_1, [(Sl.v g0_1)])] →
  K (Value.tuple #[(Value.agg #[(Sl.v nilSl), (Sl.v nilSl)]), (VB false)]) h_11) ∧
  ((decide (t49_1 < 1)) = false →
  callM P 110 #[(Value.agg #[(Sl.v g0_1)]), (Value.agg #[(Sl.v t34_1), (Sl.v t34_2)]), (VI t40_1)] h_10 fun rv_4 h_12 => Vars h_12 [(b_4, [(Sl.v t34_1), (Sl.v t34_2)]), (b_3, [(Sl.v nilSl), (Sl.v nilSl)]), (b_2, [(Sl.v l2_1), (Sl.v l2_2)]), (b_1, [(Sl.v g0_1)])] ∧
  ∃ m : Nat, m < n_1 ∧ J_1 m (w64 (t37_1 + 1)) h_12))) ∧
  ((decide (t37_1 < (order3_1.n : Int))) = false →
  ∀ (h_14 : Heap), Fr (In [b_3]) h_10 h_14 → Vars h_14 [(b_4, [(Sl.v t34_1), (Sl.v t34_2)]), (b_3, [(Sl.v t34_1), (Sl.v t34_2)]), (b_2, [(Sl.v l2_1), (Sl.v l2_2)]), (b_1, [(Sl.v g0_1)])] →
  K (Value.tuple #[(Value.agg #[(Sl.v t34_1), (Sl.v t34_2)]), (VB true)]) h_14))))
theorem v49 (g0_1 : Sl) (sink1_1 : Int) (l2_1 : Sl) (l2_2 : Sl) (order3_1 : Sl) (h : Heap) (K : Value → Heap → Prop) (H : u49 Try.prog g0_1 sink1_1 l2_1 l2_2 order3_1 h K) : callM Try.prog 49 #[(Value.agg #[(Sl.v g0_1)]), (VI sink1_1), (Value.agg #[(Sl.v l2_1), (Sl.v l2_2)]), (Sl.v order3_1)] h K := by
  refine c49 (Value.agg #[(Sl.v g0_1)]) (VI sink1_1) (Value.agg #[(Sl.v l2_1), (Sl.v l2_2)]) (Sl.v order3_1) h K ?_
  unfold u49 at H
  unfold t49
  have hL : Vars h [] := .nil
  refine eop_box 32 (Value.agg #[(Sl.v g0_1)]) rfl hL (fun b_1 h_1 hb_1 hf_1 hL_1 => ?_)
  refine eop_box 34 (Value.agg #[(Sl.v l2_1), (Sl.v l2_2)]) rfl hL_1 (fun b_2 h_2 hb_2 hf_2 hL_2 => ?_)
  refine eop_alloc 34 zer34 rfl hL_2 (fun b_3 h_3 hb_3 hf_3 hL_3 => ?_)
  refine rop_locA agg32 hL_3 2 rfl 0 (vs := [(Sl.v g0_1)]) rfl rfl ?_
  refine rop_locA agg34 hL_3 1 rfl 0 (vs := [(Sl.v l2_1), (Sl.v l2_2)]) rfl rfl ?_
  have H := H b_1 b_2 b_3 h_3 (Nat.le_trans (Fr.size (Fr.r (In []) _)) hb_1) (Nat.le_trans (Fr.size (Fr.no' (Fr.r (In []) _) hf_1)) hb_2) (Nat.le_trans (Fr.size (Fr.no' (Fr.no' (Fr.r (In []) _) hf_1) hf_2)) hb_3) (Fr.no' (Fr.no' (Fr.no' (Fr.r (In []) _) hf_1) hf_2) hf_3) hL_3
  refine H.mono fun rv_1 h_4 H => ?_
  obtain ⟨t16_1, rfl, hL_4, H⟩ := H
  refine pop_not t16_1 ?_
  refine guardM_sf (fun hb_4 => ?_) (fun hb_4 => ?_)
  · have H := H.2 hb_4
    refine guardM_y' hb_4 ?_
    refine pop_len order3_1 _ _ sli25 ?_
    refine guardM_y' hb_4 ?_
    refine pop_gtr .i64 (order3_1.n : Int) 100 ?_
    refine pop_pickf' hb_4 ?_
    refine guardM_sf (fun hb_5 => ?_) (fun hb_5 => ?_)
    · have H := H.2 hb_5
      refine guardM_y' hb_5 ?_
      refine pop_field 0 fld32_0 b_1 0 ?_
      refine guardM_y' hb_5 ?_
      refine rop_loc one22 hL_4 2 rfl 0 (v := (Sl.v g0_1)) rfl ?_
      refine guardM_y' hb_5 ?_
      refine pop_len g0_1 _ _ sli22 ?_
      refine guardM_y' hb_5 ?_
      refine pop_sub .i64 (g0_1.n : Int) 1 ?_
      refine guardM_y' hb_5 ?_
      refine H.mono fun rv_2 h_5 H => ?_
      obtain ⟨t29_1, rfl, hL_5, H⟩ := H
      refine guardM_y' hb_5 ?_
      refine pop_not t29_1 ?_
      refine pop_pickf' hb_5 ?_
      refine condM_b (fun hb_6 => ?_) (fun hb_6 => ?_)
      · have H := H.1 hb_6
        refine pop.mk' (v := (Value.agg #[(Sl.v nilSl), (Sl.v nilSl)])) (fun w => by kernel_rfl) ?_
        refine uop_loc siz34 hL_5 0 rfl 0 [(Sl.v nilSl), (Sl.v nilSl)] rfl rfl rfl (Nat.le_of_ble_eq_true rfl) (L' := [(b_3, [(Sl.v nilSl), (Sl.v nilSl)]), (b_2, [(Sl.v l2_1), (Sl.v l2_2)]), (b_1, [(Sl.v g0_1)])]) rfl (fun h_6 hf_4 hL_6 => ?_)
        refine rop_locA agg34 hL_6 0 rfl 0 (vs := [(Sl.v nilSl), (Sl.v nilSl)]) rfl rfl ?_
        have H := H  h_6  (Fr.old (Fr.r (In []) _) hf_4) hL_6
        exact H
      · have H := H.2 hb_6
        refine rop_locA agg34 hL_5 1 rfl 0 (vs := [(Sl.v l2_1), (Sl.v l2_2)]) rfl rfl ?_
        refine H.mono fun rv_3 h_7 H => ?_
        obtain ⟨t34_1, t34_2, rfl, hL_7, H⟩ := H
        refine eop_alloc 34 zer34 rfl hL_7 (fun b_4 h_8 hb_7 hf_5 hL_8 => ?_)
        refine uop_loc siz34 hL_8 0 rfl 0 [(Sl.v t34_1), (Sl.v t34_2)] rfl rfl rfl (Nat.le_of_ble_eq_true rfl) (L' := [(b_4, [(Sl.v t34_1), (Sl.v t34_2)]), (b_3, [(Sl.v nilSl), (Sl.v nilSl)]), (b_2, [(Sl.v l2_1), (Sl.v l2_2)]), (b_1, [(Sl.v g0_1)])]) rfl (fun h_9 hf_6 hL_9 => ?_)
        refine pop_len order3_1 _ _ sli25 ?_
        have H := H b_4 h_9 (Nat.le_trans (Fr.size (Fr.r (In []) _)) hb_7) (Fr.new (Fr.no' (Fr.r (In []) _) hf_5) (Nat.le_trans (Fr.size (Fr.r (In []) _)) hb_7) hf_6) hL_9
        obtain ⟨J_1, ⟨n_2, h0_1⟩, HB_1⟩ := H
        refine loop_intro (J := fun (n : Nat) (vs : List Value) (h' : Heap) => ∃ t37_1 : Int, vs = [(VI t37_1)] ∧ J_1 n t37_1 h' ∧ Vars h' [(b_4, [(Sl.v t34_1), (Sl.v t34_2)]), (b_3, [(Sl.v nilSl), (Sl.v nilSl)]), (b_2, [(Sl.v l2_1), (Sl.v l2_2)]), (b_1, [(Sl.v g0_1)])]) n_2 ⟨0, rfl, h0_1, hL_9⟩ ?_
        intro I_1 mu_1 hI_1 junk_1 tv_1 h_10 hi_1
        obtain ⟨n_1, ⟨t37_1, hv, hJ_1, hL_10⟩, hn_1⟩ := hI_1 _ _ hi_1
        cases hv
        have H := HB_1 n_1 t37_1 h_10 hJ_1 hL_10
        refine pop_lss .i64 t37_1 (order3_1.n : Int) ?_
        refine condM_b (fun hb_8 => ?_) (fun hb_8 => ?_)
        · have H := H.1 hb_8
          obtain ⟨hi_2, H⟩ := H
          refine pop_index sli25 siz3 .i64 order3_1 t37_1 hi_2 ?_
          obtain ⟨t40_1, hc_2, H⟩ := H
          refine rop_one one3 (VI t40_1) hc_2 ?_
          refine pop_ieq .i64 _ _ t40_1 sink1_1 ?_
          refine guardM_sf (fun hb_9 => ?_) (fun hb_9 => ?_)
          · have H := H.2 hb_9
            refine pop_field 1 fld34_1 b_4 0 ?_
            refine guardM_y' hb_9 ?_
            refine rop_loc one25 hL_10 0 rfl 1 (v := (Sl.v t34_2)) rfl ?_
            refine guardM_y' hb_9 ?_
            refine guardM_y' hb_9 ?_
            obtain ⟨hi_3, H⟩ := H
            refine pop_index sli25 siz3 .i64 t34_2 t40_1 hi_3 ?_
            refine guardM_y' hb_9 ?_
            obtain ⟨t49_1, hc_1, H⟩ := H
            refine rop_one one3 (VI t49_1) hc_1 ?_
            refine guardM_y' hb_9 ?_
            refine pop_lss .i64 t49_1 1 ?_
            refine pop_pickf' hb_9 ?_
            refine condM_b (fun hb_10 => ?_) (fun hb_10 => ?_)
            · have H := H.1 hb_10
              refine pop.mk' (v := (Value.agg #[(Sl.v nilSl), (Sl.v nilSl)])) (fun w => by kernel_rfl) ?_
              refine uop_loc siz34 hL_10 1 rfl 0 [(Sl.v nilSl), (Sl.v nilSl)] rfl rfl rfl (Nat.le_of_ble_eq_true rfl) (L' := [(b_4, [(Sl.v t34_1), (Sl.v t34_2)]), (b_3, [(Sl.v nilSl), (Sl.v nilSl)]), (b_2, [(Sl.v l2_1), (Sl.v l2_2)]), (b_1, [(Sl.v g0_1)])]) rfl (fun h_11 hf_7 hL_11 => ?_)
              refine rop_locA agg34 hL_11 1 rfl 0 (vs := [(Sl.v nilSl), (Sl.v nilSl)]) rfl rfl ?_
              have H := H  h_11  (Fr.old (Fr.r (In []) _) hf_7) hL_11
              exact H
            · have H := H.2 hb_10
              refine rop_locA agg32 hL_10 3 rfl 0 (vs := [(Sl.v g0_1)]) rfl rfl ?_
              refine rop_locA agg34 hL_10 0 rfl 0 (vs := [(Sl.v t34_1), (Sl.v t34_2)]) rfl rfl ?_
              refine H.mono fun rv_4 h_12 H => ?_
              obtain ⟨hL_12, H⟩ := H
              refine pop_add .i64 t37_1 1 ?_
              obtain ⟨m_1, hm_1, H⟩ := H
              exact hn_1 _ _ ⟨m_1, hm_1, (w64 (t37_1 + 1)), rfl, H, hL_12⟩
          · have H := H.1 hb_9
            refine guardM_n' hb_9 (by decide) ?_
            refine guardM_n' hb_9 (by decide) ?_
            refine guardM_n' hb_9 (by decide) ?_
            refine guardM_n' hb_9 (by decide) ?_
            refine guardM_n' hb_9 (by decide) ?_
            refine pop_pickt' hb_9 ?_
            refine condM_t ?_
            refine pop.mk' (v := (Value.agg #[(Sl.v nilSl), (Sl.v nilSl)])) (fun w => by kernel_rfl) ?_
            refine uop_loc siz34 hL_10 1 rfl 0 [(Sl.v nilSl), (Sl.v nilSl)] rfl rfl rfl (Nat.le_of_ble_eq_true rfl) (L' := [(b_4, [(Sl.v t34_1), (Sl.v t34_2)]), (b_3, [(Sl.v nilSl), (Sl.v nilSl)]), (b_2, [(Sl.v l2_1), (Sl.v l2_2)]), (b_1, [(Sl.v g0_1)])]) rfl (fun h_13 hf_8 hL_13 => ?_)
            refine rop_locA agg34 hL_13 1 rfl 0 (vs := [(Sl.v nilSl), (Sl.v nilSl)]) rfl rfl ?_
            have H := H  h_13  (Fr.old (Fr.r (In []) _) hf_8) hL_13
            exact H
        · have H := H.2 hb_8
          refine rop_locA agg34 hL_10 0 rfl 0 (vs := [(Sl.v t34_1), (Sl.v t34_2)]) rfl rfl ?_
          refine uop_loc siz34 hL_10 1 rfl 0 [(Sl.v t34_1), (Sl.v t34_2)] rfl rfl rfl (Nat.le_of_ble_eq_true rfl) (L' := [(b_4, [(Sl.v t34_1), (Sl.v t34_2)]), (b_3, [(Sl.v t34_1), (Sl.v t34_2)]), (b_2, [(Sl.v l2_1), (Sl.v l2_2)]), (b_1, [(Sl.v g0_1)])]) rfl (fun h_14 hf_9 hL_14 => ?_)
          refine rop_locA agg34 hL_14 1 rfl 0 (vs := [(Sl.v t34_1), (Sl.v t34_2)]) rfl rfl ?_
          have H := H  h_14  (Fr.old (Fr.r (In []) _) hf_9) hL_14
          exact H
    · have H := H.1 hb_5
      refine guardM_n' hb_5 (by decide) ?_
      refine guardM_n' hb_5 (by decide) ?_
      refine guardM_n' hb_5 (by decide) ?_
      refine guardM_n' hb_5 (by decide) ?_
      refine guardM_n' hb_5 (by decide) ?_
      refine guardM_n' hb_5 (by decide) ?_
      refine pop_pickt' hb_5 ?_
      refine condM_t ?_
      refine pop.mk' (v := (Value.agg #[(Sl.v nilSl), (Sl.v nilSl)])) (fun w => by kernel_rfl) ?_
      refine uop_loc siz34 hL_4 0 rfl 0 [(Sl.v nilSl), (Sl.v nilSl)] rfl rfl rfl (Nat.le_of_ble_eq_true rfl) (L' := [(b_3, [(Sl.v nilSl), (Sl.v nilSl)]), (b_2, [(Sl.v l2_1), (Sl.v l2_2)]), (b_1, [(Sl.v g0_1)])]) rfl (fun h_15 hf_10 hL_15 => ?_)
      refine rop_locA agg34 hL_15 0 rfl 0 (vs := [(Sl.v nilSl), (Sl.v nilSl)]) rfl rfl ?_
      have H := H  h_15  (Fr.old (Fr.r (In []) _) hf_10) hL_15
      exact H
  · have H := H.1 hb_4
    refine guardM_n' hb_4 (by decide) ?_
    refine guardM_n' hb_4 (by decide) ?_
    refine pop_pickt' hb_4 ?_
    refine guardM_n (by decide) ?_
    refine guardM_n (by decide) ?_
    refine guardM_n (by decide) ?_
    refine guardM_n (by decide) ?_
    refine guardM_n (by decide) ?_
    refine guardM_n (by decide) ?_
    refine guardM_n (by decide) ?_
    refine pop_pickt _ _ ?_
    refine condM_t ?_
    refine pop.mk' (v := (Value.agg #[(Sl.v nilSl), (Sl.v nilSl)])) (fun w => by kernel_rfl) ?_
    refine uop_loc siz34 hL_4 0 rfl 0 [(Sl.v nilSl), (Sl.v nilSl)] rfl rfl rfl (Nat.le_of_ble_eq_true rfl) (L' := [(b_3, [(Sl.v nilSl), (Sl.v nilSl)]), (b_2, [(Sl.v l2_1), (Sl.v l2_2)]), (b_1, [(Sl.v g0_1)])]) rfl (fun h_16 hf_11 hL_16 => ?_)
    refine rop_locA agg34 hL_16 0 rfl 0 (vs := [(Sl.v nilSl), (Sl.v nilSl)]) rfl rfl ?_
    have H := H  h_16  (Fr.old (Fr.r (In []) _) hf_11) hL_16
    exact H

/-! spec.DrawMoveChip -/
def u50 (P : Program) (code0_1 : Sl) (h : Heap) (K : Value → Heap → Prop) : Prop :=
  ∀ (b_1 : Nat) (b_2 : Nat) (b_3 : Nat) (h_3 : Heap), h.size ≤ b_1 → h.size ≤ b_2 → h.size ≤ b_3 → Fr (In []) h h_3 → Vars h_3 [(b_3, [(Sl.v code0_1), (VI 0), (Value.int .u64 0)]), (b_2, [(Sl.v nilSl), (Sl.v nilSl)]), (b_1, [(Sl.v nilSl)])] →
  callM P 98 #[(VP b_3 0)] h_3 fun rv_1 h_4 => ∃ x_1 : Sl, ∃ x_2 : Int, ∃ x_3 : Int, ∃ t15_1 : Sl, ∃ t15_2 : Int, ∃ t15_3 : Sl, ∃ t15_4 : Sl, rv_1 = (Value.tuple #[(Value.agg #[(Sl.v t15_1)]), (VI t15_2), (Value.agg #[(Sl.v t15_3), (Sl.v t15_4)])]) ∧ Vars h_4 [(b_3, [(Sl.v x_1), (VI x_2), (Value.int .u64 x_3)]), (b_2, [(Sl.v nilSl), (Sl.v nilSl)]), (b_1, [(Sl.v nilSl)])] ∧
  ∀ (b_4 : Nat) (b_5 : Nat) (h_8 : Heap), h_4.size ≤ b_4 → h_4.size ≤ b_5 → Fr (In []) h_4 h_8 → Vars h_8 [(b_5, [(Sl.v t15_3), (Sl.v t15_4)]), (b_4, [(Sl.v t15_1)]), (b_3, [(Sl.v x_1), (VI x_2), (Value.int .u64 x_3)]), (b_2, [(Sl.v nilSl), (Sl.v nilSl)]), (b_1, [(Sl.v nilSl)])] →
  callM P 106 #[(VP b_3 0), (Value.agg #[(Sl.v t15_1)])] h_8 fun rv_2 h_9 => ∃ x_4 : Sl, ∃ x_5 : Int, ∃ x_6 : Int, ∃ t24_1 : Int, rv_2 = (VI t24_1) ∧ Vars h_9 [(b_5, [(Sl.v t15_3), (Sl.v t15_4)]), (b_4, [(Sl.v t15_1)]), (b_3, [(Sl.v x_4), (VI x_5), (Value.int .u64 x_6)]), (b_2, [(Sl.v nilSl), (Sl.v nilSl)]), (b_1, [(Sl.v nilSl)])] ∧
  ∀ (h_10 : Heap), Fr (In [b_1]) h_9 h_10 → Vars h_10 [(b_5, [(Sl.v t15_3), (Sl.v t15_4)]), (b_4, [(Sl.v t15_1)]), (b_3, [(Sl.v x_4), (VI x_5), (Value.int .u64 x_6)]), (b_2, [(Sl.v nilSl), (Sl.v nilSl)]), (b_1, [(Sl.v t15_1)])] →
  ∀ (h_11 : Heap), Fr (In [b_2]) h_10 h_11 → Vars h_11 [(b_5, [(Sl.v t15_3), (Sl.v t15_4)]), (b_4, [(Sl.v t15_1)]), (b_3, [(Sl.v x_4), (VI x_5), (Value.int .u64 x_6)]), (b_2, [(Sl.v t15_3), (Sl.v t15_4)]), (b_1, [(Sl.v t15_1)])] →
  K (Value.tuple #[(Value.agg #[(Sl.v t15_1)]), (VI t15_2), (Value.agg #[(Sl.v t15_3), (Sl.v t15_4)]), (VI t24_1)]) h_11
theorem v50 (code0_1 : Sl) (h : Heap) (K : Value → Heap → Prop) (H : u50 Try.prog code0_1 h K) : callM Try.prog 50 #[(Sl.v code0_1)] h K := by
  refine c50 (Sl.v code0_1) h K ?_
  unfold u50 at H
  unfold t50
  have hL : Vars h [] := .nil
  refine eop_alloc 32 zer32 rfl hL (fun b_1 h_1 hb_1 hf_1 hL_1 => ?_)
  refine eop_alloc 34 zer34 rfl hL_1 (fun b_2 h_2 hb_2 hf_2 hL_2 => ?_)
  refine pop.mk' (v := (Value.agg #[(Sl.v code0_1), (VI 0), (Value.int .u64 0)])) (fun w => by kernel_rfl) ?_
  refine eop_box 109 (Value.agg #[(Sl.v code0_1), (VI 0), (Value.int .u64 0)]) rfl hL_2 (fun b_3 h_3 hb_3 hf_3 hL_3 => ?_)
  have H := H b_1 b_2 b_3 h_3 (Nat.le_trans (Fr.size (Fr.r (In []) _)) hb_1) (Nat.le_trans (Fr.size (Fr.no' (Fr.r (In []) _) hf_1)) hb_2) (Nat.le_trans (Fr.size (Fr.no' (Fr.no' (Fr.r (In []) _) hf_1) hf_2)) hb_3) (Fr.no' (Fr.no' (Fr.no' (Fr.r (In []) _) hf_1) hf_2) hf_3) hL_3
  refine H.mono fun rv_1 h_4 H => ?_
  obtain ⟨x_1, x_2, x_3, t15_1, t15_2, t15_3, t15_4, rfl, hL_4, H⟩ := H
  refine pop_ext (v := (Value.agg #[(Sl.v t15_1)])) rfl ?_
  refine pop_ext (v := (VI t15_2)) rfl ?_
  refine pop_ext (v := (Value.agg #[(Sl.v t15_3), (Sl.v t15_4)])) rfl ?_
  refine eop_alloc 32 zer32 rfl hL_4 (fun b_4 h_5 hb_4 hf_4 hL_5 => ?_)
  refine eop_alloc 34 zer34 rfl hL_5 (fun b_5 h_6 hb_5 hf_5 hL_6 => ?_)
  refine uop_loc siz32 hL_6 1 rfl 0 [(Sl.v t15_1)] rfl rfl rfl (Nat.le_of_ble_eq_true rfl) (L' := [(b_5, [(Sl.v nilSl), (Sl.v nilSl)]), (b_4, [(Sl.v t15_1)]), (b_3, [(Sl.v x_1), (VI x_2), (Value.int .u64 x_3)]), (b_2, [(Sl.v nilSl), (Sl.v nilSl)]), (b_1, [(Sl.v nilSl)])]) rfl (fun h_7 hf_6 hL_7 => ?_)
  refine uop_loc siz34 hL_7 0 rfl 0 [(Sl.v t15_3), (Sl.v t15_4)] rfl rfl rfl (Nat.le_of_ble_eq_true rfl) (L' := [(b_5, [(Sl.v t15_3), (Sl.v t15_4)]), (b_4, [(Sl.v t15_1)]), (b_3, [(Sl.v x_1), (VI x_2), (Value.int .u64 x_3)]), (b_2, [(Sl.v nilSl), (Sl.v nilSl)]), (b_1, [(Sl.v nilSl)])]) rfl (fun h_8 hf_7 hL_8 => ?_)
  refine rop_locA agg32 hL_8 1 rfl 0 (vs := [(Sl.v t15_1)]) rfl rfl ?_
  refine rop_locA agg34 hL_8 0 rfl 0 (vs := [(Sl.v t15_3), (Sl.v t15_4)]) rfl rfl ?_
  refine rop_locA agg32 hL_8 1 rfl 0 (vs := [(Sl.v t15_1)]) rfl rfl ?_
  have H := H b_4 b_5 h_8 (Nat.le_trans (Fr.size (Fr.r (In []) _)) hb_4) (Nat.le_trans (Fr.size (Fr.no' (Fr.r (In []) _) hf_4)) hb_5) (Fr.new (Fr.new (Fr.no' (Fr.no' (Fr.r (In []) _) hf_4) hf_5) (Nat.le_trans (Fr.size (Fr.r (In []) _)) hb_4) hf_6) (Nat.le_trans (Fr.size (Fr.no' (Fr.r (In []) _) hf_4)) hb_5) hf_7) hL_8
  refine H.mono fun rv_2 h_9 H => ?_
  obtain ⟨x_4, x_5, x_6, t24_1, rfl, hL_9, H⟩ := H
  refine ⟨?_, ?_⟩
  · exact still_locA agg34 hL_9 0 rfl 0 (vs := [(Sl.v t15_3), (Sl.v t15_4)]) rfl rfl
  refine ⟨?_, ?_⟩
  · exact still_locA agg32 hL_9 1 rfl 0 (vs := [(Sl.v t15_1)]) rfl rfl
  refine uop_loc siz32 hL_9 4 rfl 0 [(Sl.v t15_1)] rfl rfl rfl (Nat.le_of_ble_eq_true rfl) (L' := [(b_5, [(Sl.v t15_3), (Sl.v t15_4)]), (b_4, [(Sl.v t15_1)]), (b_3, [(Sl.v x_4), (VI x_5), (Value.int .u64 x_6)]), (b_2, [(Sl.v nilSl), (Sl.v nilSl)]), (b_1, [(Sl.v t15_1)])]) rfl (fun h_10 hf_8 hL_10 => ?_)
  have H := H  h_10  (Fr.old (Fr.r (In []) _) hf_8) hL_10
  refine ⟨?_, ?_⟩
  · exact still_locA agg34 hL_10 0 rfl 0 (vs := [(Sl.v t15_3), (Sl.v t15_4)]) rfl rfl
  refine uop_loc siz34 hL_10 3 rfl 0 [(Sl.v t15_3), (Sl.v t15_4)] rfl rfl rfl (Nat.le_of_ble_eq_true rfl) (L' := [(b_5, [(Sl.v t15_3), (Sl.v t15_4)]), (b_4, [(Sl.v t15_1)]), (b_3, [(Sl.v x_4), (VI x_5), (Value.int .u64 x_6)]), (b_2, [(Sl.v t15_3), (Sl.v t15_4)]), (b_1, [(Sl.v t15_1)])]) rfl (fun h_11 hf_9 hL_11 => ?_)
  refine rop_locA agg32 hL_11 4 rfl 0 (vs := [(Sl.v t15_1)]) rfl rfl ?_
  refine rop_locA agg34 hL_11 3 rfl 0 (vs := [(Sl.v t15_3), (Sl.v t15_4)]) rfl rfl ?_
  have H := H  h_11  (Fr.old (Fr.r (In []) _) hf_9) hL_11
  exact H

/-! impl.MoveChip -/
def u51 (P : Program) (g0_1 : Sl) (sink1_1 : Int) (l2_1 : Sl) (l2_2 : Sl) (p3_1 : Int) (h : Heap) (K : Value → Heap → Prop) : Prop :=
  ∀ (b_1 : Nat) (b_2 : Nat) (b_3 : Nat) (h_3 : Heap), h.size ≤ b_1 → h.size ≤ b_2 → h.size ≤ b_3 → Fr (In []) h h_3 → Vars h_3 [(b_3, [(Sl.v nilSl), (Sl.v nilSl)]), (b_2, [(Sl.v l2_1), (Sl.v l2_2)]), (b_1, [(Sl.v g0_1)])] →
  eop P (Instr.buildSlice 25 1 #[(0, (VI p3_1))]) h_3 fun rv_1 h_4 => ∃ t14_1 : Sl, rv_1 = (Sl.v t14_1) ∧ Vars h_4 [(b_3, [(Sl.v nilSl), (Sl.v nilSl)]), (b_2, [(Sl.v l2_1), (Sl.v l2_2)]), (b_1, [(Sl.v g0_1)])] ∧
  callM P 48 #[(Value.agg #[(Sl.v g0_1)]), (VI sink1_1), (Value.agg #[(Sl.v l2_1), (Sl.v l2_2)]), (Sl.v t14_1)] h_4 fun rv_2 h_5 => ∃ t15_1 : Sl, ∃ t15_2 : Sl, ∃ t15_3 : Bool, rv_2 = (Value.tuple #[(Value.agg #[(Sl.v t15_1), (Sl.v t15_2)]), (VB t15_3)]) ∧ Vars h_5 [(b_3, [(Sl.v nilSl), (Sl.v nilSl)]), (b_2, [(Sl.v l2_1), (Sl.v l2_2)]), (b_1, [(Sl.v g0_1)])] ∧
  ∀ (h_6 : Heap), Fr (In [b_3]) h_5 h_6 → Vars h_6 [(b_3, [(Sl.v t15_1), (Sl.v t15_2)]), (b_2, [(Sl.v l2_1), (Sl.v l2_2)]), (b_1, [(Sl.v g0_1)])] →
  K (Value.tuple #[(Value.agg #[(Sl.v t15_1), (Sl.v t15_2)]), (VB t15_3)]) h_6
theorem v51 (g0_1 : Sl) (sink1_1 : Int) (l2_1 : Sl) (l2_2 : Sl) (p3_1 : Int) (h : Heap) (K : Value → Heap → Prop) (H : u51 Try.prog g0_1 sink1_1 l2_1 l2_2 p3_1 h K) : callM Try.prog 51 #[(Value.agg #[(Sl.v g0_1)]), (VI sink1_1), (Value.agg #[(Sl.v l2_1), (Sl.v l2_2)]), (VI p3_1)] h K := by
  refine c51 (Value.agg #[(Sl.v g0_1)]) (VI sink1_1) (Value.agg #[(Sl.v l2_1), (Sl.v l2_2)]) (VI p3_1) h K ?_
  unfold u51 at H
  unfold t51
  have hL : Vars h [] := .nil
  refine eop_box 32 (Value.agg #[(Sl.v g0_1)]) rfl hL (fun b_1 h_1 hb_1 hf_1 hL_1 => ?_)
  refine eop_box 34 (Value.agg #[(Sl.v l2_1), (Sl.v l2_2)]) rfl hL_1 (fun b_2 h_2 hb_2 hf_2 hL_2 => ?_)
  refine eop_alloc 34 zer34 rfl hL_2 (fun b_3 h_3 hb_3 hf_3 hL_3 => ?_)
  refine rop_locA agg32 hL_3 2 rfl 0 (vs := [(Sl.v g0_1)]) rfl rfl ?_
  refine rop_locA agg34 hL_3 1 rfl 0 (vs := [(Sl.v l2_1), (Sl.v l2_2)]) rfl rfl ?_
  have H := H b_1 b_2 b_3 h_3 (Nat.le_trans (Fr.size (Fr.r (In []) _)) hb_1) (Nat.le_trans (Fr.size (Fr.no' (Fr.r (In []) _) hf_1)) hb_2) (Nat.le_trans (Fr.size (Fr.no' (Fr.no' (Fr.r (In []) _) hf_1) hf_2)) hb_3) (Fr.no' (Fr.no' (Fr.no' (Fr.r (In []) _) hf_1) hf_2) hf_3) hL_3
  refine H.mono fun rv_1 h_4 H => ?_
  obtain ⟨t14_1, rfl, hL_4, H⟩ := H
  refine H.mono fun rv_2 h_5 H => ?_
  obtain ⟨t15_1, t15_2, t15_3, rfl, hL_5, H⟩ := H
  refine pop_ext (v := (Value.agg #[(Sl.v t15_1), (Sl.v t15_2)])) rfl ?_
  refine pop_ext (v := (VB t15_3)) rfl ?_
  refine uop_loc siz34 hL_5 0 rfl 0 [(Sl.v t15_1), (Sl.v t15_2)] rfl rfl rfl (Nat.le_of_ble_eq_true rfl) (L' := [(b_3, [(Sl.v t15_1), (Sl.v t15_2)]), (b_2, [(Sl.v l2_1), (Sl.v l2_2)]), (b_1, [(Sl.v g0_1)])]) rfl (fun h_6 hf_4 hL_6 => ?_)
  refine rop_locA agg34 hL_6 0 rfl 0 (vs := [(Sl.v t15_1), (Sl.v t15_2)]) rfl rfl ?_
  have H := H  h_6  (Fr.old (Fr.r (In []) _) hf_4) hL_6
  exact H

/-! spec.MoveChip -/
def u52 (P : Program) (g0_1 : Sl) (sink1_1 : Int) (l2_1 : Sl) (l2_2 : Sl) (p3_1 : Int) (h : Heap) (K : Value → Heap → Prop) : Prop :=
  ∀ (b_1 : Nat) (b_2 : Nat) (b_3 : Nat) (h_3 : Heap), h.size ≤ b_1 → h.size ≤ b_2 → h.size ≤ b_3 → Fr (In []) h h_3 → Vars h_3 [(b_3, [(Sl.v nilSl), (Sl.v nilSl)]), (b_2, [(Sl.v l2_1), (Sl.v l2_2)]), (b_1, [(Sl.v g0_1)])] →
  eop P (Instr.buildSlice 25 1 #[(0, (VI p3_1))]) h_3 fun rv_1 h_4 => ∃ t14_1 : Sl, rv_1 = (Sl.v t14_1) ∧ Vars h_4 [(b_3, [(Sl.v nilSl), (Sl.v nilSl)]), (b_2, [(Sl.v l2_1), (Sl.v l2_2)]), (b_1, [(Sl.v g0_1)])] ∧
  callM P 49 #[(Value.agg #[(Sl.v g0_1)]), (VI sink1_1), (Value.agg #[(Sl.v l2_1), (Sl.v l2_2)]), (Sl.v t14_1)] h_4 fun rv_2 h_5 => ∃ t15_1 : Sl, ∃ t15_2 : Sl, ∃ t15_3 : Bool, rv_2 = (Value.tuple #[(Value.agg #[(Sl.v t15_1), (Sl.v t15_2)]), (VB t15_3)]) ∧ Vars h_5 [(b_3, [(Sl.v nilSl), (Sl.v nilSl)]), (b_2, [(Sl.v l2_1), (Sl.v l2_2)]), (b_1, [(Sl.v g0_1)])] ∧
  ∀ (h_6 : Heap), Fr (In [b_3]) h_5 h_6 → Vars h_6 [(b_3, [(Sl.v t15_1), (Sl.v t15_2)]), (b_2, [(Sl.v l2_1), (Sl.v l2_2)]), (b_1, [(Sl.v g0_1)])] →
  K (Value.tuple #[(Value.agg #[(Sl.v t15_1), (Sl.v t15_2)]), (VB t15_3)]) h_6
theorem v52 (g0_1 : Sl) (sink1_1 : Int) (l2_1 : Sl) (l2_2 : Sl) (p3_1 : Int) (h : Heap) (K : Value → Heap → Prop) (H : u52 Try.prog g0_1 sink1_1 l2_1 l2_2 p3_1 h K) : callM Try.prog 52 #[(Value.agg #[(Sl.v g0_1)]), (VI sink1_1), (Value.agg #[(Sl.v l2_1), (Sl.v l2_2)]), (VI p3_1)] h K := by
  refine c52 (Value.agg #[(Sl.v g0_1)]) (VI sink1_1) (Value.agg #[(Sl.v l2_1), (Sl.v l2_2)]) (VI p3_1) h K ?_
  unfold u52 at H
  unfold t52
  have hL : Vars h [] := .nil
  refine eop_box 32 (Value.agg #[(Sl.v g0_1)]) rfl hL (fun b_1 h_1 hb_1 hf_1 hL_1 => ?_)
  refine eop_box 34 (Value.agg #[(Sl.v l2_1), (Sl.v l2_2)]) rfl hL_1 (fun b_2 h_2 hb_2 hf_2 hL_2 => ?_)
  refine eop_alloc 34 zer34 rfl hL_2 (fun b_3 h_3 hb_3 hf_3 hL_3 => ?_)
  refine rop_locA agg32 hL_3 2 rfl 0 (vs := [(Sl.v g0_1)]) rfl rfl ?_
  refine rop_locA agg34 hL_3 1 rfl 0 (vs := [(Sl.v l2_1), (Sl.v l2_2)]) rfl rfl ?_
  have H := H b_1 b_2 b_3 h_3 (Nat.le_trans (Fr.size (Fr.r (In []) _)) hb_1) (Nat.le_trans (Fr.size (Fr.no' (Fr.r (In []) _) hf_1)) hb_2) (Nat.le_trans (Fr.size (Fr.no' (Fr.no' (Fr.r (In []) _) hf_1) hf_2)) hb_3) (Fr.no' (Fr.no' (Fr.no' (Fr.r (In []) _) hf_1) hf_2) hf_3) hL_3
  refine H.mono fun rv_1 h_4 H => ?_
  obtain ⟨t14_1, rfl, hL_4, H⟩ := H
  refine H.mono fun rv_2 h_5 H => ?_
  obtain ⟨t15_1, t15_2, t15_3, rfl, hL_5, H⟩ := H
  refine pop_ext (v := (Value.agg #[(Sl.v t15_1), (Sl.v t15_2)])) rfl ?_
  refine pop_ext (v := (VB t15_3)) rfl ?_
  refine uop_loc siz34 hL_5 0 rfl 0 [(Sl.v t15_1), (Sl.v t15_2)] rfl rfl rfl (Nat.le_of_ble_eq_true rfl) (L' := [(b_3, [(Sl.v t15_1), (Sl.v t15_2)]), (b_2, [(Sl.v l2_1), (Sl.v l2_2)]), (b_1, [(Sl.v g0_1)])]) rfl (fun h_6 hf_4 hL_6 => ?_)
  refine rop_locA agg34 hL_6 0 rfl 0 (vs := [(Sl.v t15_1), (Sl.v t15_2)]) rfl rfl ?_
  have H := H  h_6  (Fr.old (Fr.r (In []) _) hf_4) hL_6
  exact H

/-! spec.DrawIsLoad -/
def u53 (P : Program) (code0_1 : Sl) (h : Heap) (K : Value → Heap → Prop) : Prop :=
  ∀ (b_1 : Nat) (b_2 : Nat) (b_3 : Nat) (h_3 : Heap), h.size ≤ b_1 → h.size ≤ b_2 → h.size ≤ b_3 → Fr (In []) h h_3 → Vars h_3 [(b_3, [(Sl.v code0_1), (VI 0), (Value.int .u64 0)]), (b_2, [(Sl.v nilSl), (Sl.v nilSl)]), (b_1, [(Sl.v nilSl)])] →
  callM P 98 #[(VP b_3 0)] h_3 fun rv_1 h_4 => ∃ x_1 : Sl, ∃ x_2 : Int, ∃ x_3 : Int, ∃ t10_1 : Sl, ∃ t10_2 : Int, ∃ t10_3 : Sl, ∃ t10_4 : Sl, rv_1 = (Value.tuple #[(Value.agg #[(Sl.v t10_1)]), (VI t10_2), (Value.agg #[(Sl.v t10_3), (Sl.v t10_4)])]) ∧ Vars h_4 [(b_3, [(Sl.v x_1), (VI x_2), (Value.int .u64 x_3)]), (b_2, [(Sl.v nilSl), (Sl.v nilSl)]), (b_1, [(Sl.v nilSl)])] ∧
  ∀ (h_6 : Heap), Fr (In [b_2, b_1]) h_4 h_6 → Vars h_6 [(b_3, [(Sl.v x_1), (VI x_2), (Value.int .u64 x_3)]), (b_2, [(Sl.v t10_3), (Sl.v t10_4)]), (b_1, [(Sl.v t10_1)])] →
  K (Value.tuple #[(Value.agg #[(Sl.v t10_1)]), (VI t10_2), (Value.agg #[(Sl.v t10_3), (Sl.v t10_4)])]) h_6
theorem v53 (code0_1 : Sl) (h : Heap) (K : Value → Heap → Prop) (H : u53 Try.prog code0_1 h K) : callM Try.prog 53 #[(Sl.v code0_1)] h K := by
  refine c53 (Sl.v code0_1) h K ?_
  unfold u53 at H
  unfold t53
  have hL : Vars h [] := .nil
  refine eop_alloc 32 zer32 rfl hL (fun b_1 h_1 hb_1 hf_1 hL_1 => ?_)
  refine eop_alloc 34 zer34 rfl hL_1 (fun b_2 h_2 hb_2 hf_2 hL_2 => ?_)
  refine pop.mk' (v := (Value.agg #[(Sl.v code0_1), (VI 0), (Value.int .u64 0)])) (fun w => by kernel_rfl) ?_
  refine eop_box 109 (Value.agg #[(Sl.v code0_1), (VI 0), (Value.int .u64 0)]) rfl hL_2 (fun b_3 h_3 hb_3 hf_3 hL_3 => ?_)
  have H := H b_1 b_2 b_3 h_3 (Nat.le_trans (Fr.size (Fr.r (In []) _)) hb_1) (Nat.le_trans (Fr.size (Fr.no' (Fr.r (In []) _) hf_1)) hb_2) (Nat.le_trans (Fr.size (Fr.no' (Fr.no' (Fr.r (In []) _) hf_1) hf_2)) hb_3) (Fr.no' (Fr.no' (Fr.no' (Fr.r (In []) _) hf_1) hf_2) hf_3) hL_3
  refine H.mono fun rv_1 h_4 H => ?_
  obtain ⟨x_1, x_2, x_3, t10_1, t10_2, t10_3, t10_4, rfl, hL_4, H⟩ := H
  refine pop_ext (v := (Value.agg #[(Sl.v t10_1)])) rfl ?_
  refine pop_ext (v := (VI t10_2)) rfl ?_
  refine pop_ext (v := (Value.agg #[(Sl.v t10_3), (Sl.v t10_4)])) rfl ?_
  refine uop_loc siz32 hL_4 2 rfl 0 [(Sl.v t10_1)] rfl rfl rfl (Nat.le_of_ble_eq_true rfl) (L' := [(b_3, [(Sl.v x_1), (VI x_2), (Value.int .u64 x_3)]), (b_2, [(Sl.v nilSl), (Sl.v nilSl)]), (b_1, [(Sl.v t10_1)])]) rfl (fun h_5 hf_4 hL_5 => ?_)
  refine uop_loc siz34 hL_5 1 rfl 0 [(Sl.v t10_3), (Sl.v t10_4)] rfl rfl rfl (Nat.le_of_ble_eq_true rfl) (L' := [(b_3, [(Sl.v x_1), (VI x_2), (Value.int .u64 x_3)]), (b_2, [(Sl.v t10_3), (Sl.v t10_4)]), (b_1, [(Sl.v t10_1)])]) rfl (fun h_6 hf_5 hL_6 => ?_)
  refine rop_locA agg32 hL_6 2 rfl 0 (vs := [(Sl.v t10_1)]) rfl rfl ?_
  refine rop_locA agg34 hL_6 1 rfl 0 (vs := [(Sl.v t10_3), (Sl.v t10_4)]) rfl rfl ?_
  have H := H  h_6  (Fr.old (Fr.old (Fr.r (In []) _) hf_4) hf_5) hL_6
  exact H

/-! spec.IsLoad -/
def u54 (P : Program) (g0_1 : Sl) (sink1_1 : Int) (l2_1 : Sl) (l2_2 : Sl) (h : Heap) (K : Value → Heap → Prop) : Prop :=
  ∀ (b_1 : Nat) (b_2 : Nat) (h_2 : Heap), h.size ≤ b_1 → h.size ≤ b_2 → Fr (In []) h h_2 → Vars h_2 [(b_2, [(Sl.v l2_1), (Sl.v l2_2)]), (b_1, [(Sl.v g0_1)])] →
  callM P 111 #[(Value.agg #[(Sl.v g0_1)]), (VI sink1_1)] h_2 fun rv_1 h_3 => ∃ t10_1 : Bool, rv_1 = (VB t10_1) ∧ Vars h_3 [(b_2, [(Sl.v l2_1), (Sl.v l2_2)]), (b_1, [(Sl.v g0_1)])] ∧
  ((!t10_1) = true →
  K (Value.tuple #[(VB false), (VB false)]) h_3) ∧
  ((!t10_1) = false →
  callM P 76 #[(Value.agg #[(Sl.v g0_1)]), (VI sink1_1), (Value.agg #[(Sl.v l2_1), (Sl.v l2_2)])] h_3 fun rv_2 h_4 => ∃ t15_1 : Bool, rv_2 = (VB t15_1) ∧ Vars h_4 [(b_2, [(Sl.v l2_1), (Sl.v l2_2)]), (b_1, [(Sl.v g0_1)])] ∧
  K (Value.tuple #[(VB t15_1), (VB true)]) h_4)
theorem v54 (g0_1 : Sl) (sink1_1 : Int) (l2_1 : Sl) (l2_2 : Sl) (h : Heap) (K : Value → Heap → Prop) (H : u54 Try.prog g0_1 sink1_1 l2_1 l2_2 h K) : callM Try.prog 54 #[(Value.agg #[(Sl.v g0_1)]), (VI sink1_1), (Value.agg #[(Sl.v l2_1), (Sl.v l2_2)])] h K := by
  refine c54 (Value.agg #[(Sl.v g0_1)]) (VI sink1_1) (Value.agg #[(Sl.v l2_1), (Sl.v l2_2)]) h K ?_
  unfold u54 at H
  unfold t54
  have hL : Vars h [] := .nil
  refine eop_box 32 (Value.agg #[(Sl.v g0_1)]) rfl hL (fun b_1 h_1 hb_1 hf_1 hL_1 => ?_)
  refine eop_box 34 (Value.agg #[(Sl.v l2_1), (Sl.v l2_2)]) rfl hL_1 (fun b_2 h_2 hb_2 hf_2 hL_2 => ?_)
  refine rop_locA agg32 hL_2 1 rfl 0 (vs := [(Sl.v g0_1)]) rfl rfl ?_
  have H := H b_1 b_2 h_2 (Nat.le_trans (Fr.size (Fr.r (In []) _)) hb_1) (Nat.le_trans (Fr.size (Fr.no' (Fr.r (In []) _) hf_1)) hb_2) (Fr.no' (Fr.no' (Fr.r (In []) _) hf_1) hf_2) hL_2
  refine H.mono fun rv_1 h_3 H => ?_
  obtain ⟨t10_1, rfl, hL_3, H⟩ := H
  refine pop_not t10_1 ?_
  refine condM_b (fun hb_3 => ?_) (fun hb_3 => ?_)
  · have H := H.1 hb_3
    exact H
  · have H := H.2 hb_3
    refine rop_locA agg32 hL_3 1 rfl 0 (vs := [(Sl.v g0_1)]) rfl rfl ?_
    refine rop_locA agg34 hL_3 0 rfl 0 (vs := [(Sl.v l2_1), (Sl.v l2_2)]) rfl rfl ?_
    refine H.mono fun rv_2 h_4 H => ?_
    obtain ⟨t15_1, rfl, hL_4, H⟩ := H
    exact H

/-! spec.chGood -/
def u76 (P : Program) (g0_1 : Sl) (sink1_1 : Int) (l2_1 : Sl) (l2_2 : Sl) (h : Heap) (K : Value → Heap → Prop) : Prop :=
  ∀ (b_1 : Nat) (b_2 : Nat) (h_2 : Heap), h.size ≤ b_1 → h.size ≤ b_2 → Fr (In []) h h_2 → Vars h_2 [(b_2, [(Sl.v l2_1), (Sl.v l2_2)]), (b_1, [(Sl.v g0_1)])] →
  callM P 111 #[(Value.agg #[(Sl.v g0_1)]), (VI sink1_1)] h_2 fun rv_1 h_3 => ∃ t9_1 : Bool, rv_1 = (VB t9_1) ∧ Vars h_3 [(b_2, [(Sl.v l2_1), (Sl.v l2_2)]), (b_1, [(Sl.v g0_1)])] ∧
  ((!t9_1) = true →
  K (VB false) h_3) ∧
  ((!t9_1) = false →
  callM P 138 #[(Value.agg #[(Sl.v g0_1)]), (Value.agg #[(Sl.v l2_1), (VI sink1_1)])] h_3 fun rv_2 h_4 => ∃ t17_1 : Bool, rv_2 = (VB t17_1) ∧ Vars h_4 [(b_2, [(Sl.v l2_1), (Sl.v l2_2)]), (b_1, [(Sl.v g0_1)])] ∧
  ((!t17_1) = true →
  K (VB false) h_4) ∧
  ((!t17_1) = false →
  ((!decide ((l2_2.n : Int) = (g0_1.n : Int))) = true →
  K (VB false) h_4) ∧
  ((!decide ((l2_2.n : Int) = (g0_1.n : Int))) = false →
  callM P 104 #[(Sl.v l2_2), (VI 0), (VI 20)] h_4 fun rv_3 h_5 => ∃ t31_1 : Bool, rv_3 = (VB t31_1) ∧ Vars h_5 [(b_2, [(Sl.v l2_1), (Sl.v l2_2)]), (b_1, [(Sl.v g0_1)])] ∧
  (t31_1 = true →
  callM P 139 #[(Sl.v l2_2)] h_5 fun rv_4 h_6 => ∃ t35_1 : Int, rv_4 = (VI t35_1) ∧ Vars h_6 [(b_2, [(Sl.v l2_1), (Sl.v l2_2)]), (b_1, [(Sl.v g0_1)])] ∧
  K (VB (decide (t35_1 ≤ 20))) h_6) ∧
  (t31_1 = false →
  K (VB false) h_5))))
theorem v76 (g0_1 : Sl) (sink1_1 : Int) (l2_1 : Sl) (l2_2 : Sl) (h : Heap) (K : Value → Heap → Prop) (H : u76 Try.prog g0_1 sink1_1 l2_1 l2_2 h K) : callM Try.prog 76 #[(Value.agg #[(Sl.v g0_1)]), (VI sink1_1), (Value.agg #[(Sl.v l2_1), (Sl.v l2_2)])] h K := by
  refine c76 (Value.agg #[(Sl.v g0_1)]) (VI sink1_1) (Value.agg #[(Sl.v l2_1), (Sl.v l2_2)]) h K ?_
  unfold u76 at H
  unfold t76
  have hL : Vars h [] := .nil
  refine eop_box 32 (Value.agg #[(Sl.v g0_1)]) rfl hL (fun b_1 h_1 hb_1 hf_1 hL_1 => ?_)
  refine eop_box 34 (Value.agg #[(Sl.v l2_1), (Sl.v l2_2)]) rfl hL_1 (fun b_2 h_2 hb_2 hf_2 hL_2 => ?_)
  refine rop_locA agg32 hL_2 1 rfl 0 (vs := [(Sl.v g0_1)]) rfl rfl ?_
  have H := H b_1 b_2 h_2 (Nat.le_trans (Fr.size (Fr.r (In []) _)) hb_1) (Nat.le_trans (Fr.size (Fr.no' (Fr.r (In []) _) hf_1)) hb_2) (Fr.no' (Fr.no' (Fr.r (In []) _) hf_1) hf_2) hL_2
  refine H.mono fun rv_1 h_3 H => ?_
  obtain ⟨t9_1, rfl, hL_3, H⟩ := H
  refine pop_not t9_1 ?_
  refine guardM_sf (fun hb_3 => ?_) (fun hb_3 => ?_)
  · have H := H.2 hb_3
    refine rop_locA agg32 hL_3 1 rfl 0 (vs := [(Sl.v g0_1)]) rfl rfl ?_
    refine guardM_y' hb_3 ?_
    refine pop_field 0 fld34_0 b_2 0 ?_
    refine guardM_y' hb_3 ?_
    refine rop_loc one25 hL_3 0 rfl 0 (v := (Sl.v l2_1)) rfl ?_
    refine guardM_y' hb_3 ?_
    refine guardM_y' hb_3 ?_
    refine pop.mk' (v := (Value.agg #[(Sl.v l2_1), (VI sink1_1)])) (fun w => by kernel_rfl) ?_
    refine guardM_y' hb_3 ?_
    refine H.mono fun rv_2 h_4 H => ?_
    obtain ⟨t17_1, rfl, hL_4, H⟩ := H
    refine guardM_y' hb_3 ?_
    refine pop_not t17_1 ?_
    refine pop_pickf' hb_3 ?_
    refine guardM_sf (fun hb_4 => ?_) (fun hb_4 => ?_)
    · have H := H.2 hb_4
      refine pop_field 1 fld34_1 b_2 0 ?_
      refine guardM_y' hb_4 ?_
      refine rop_loc one25 hL_4 0 rfl 1 (v := (Sl.v l2_2)) rfl ?_
      refine guardM_y' hb_4 ?_
      refine pop_len l2_2 _ _ sli25 ?_
      refine guardM_y' hb_4 ?_
      refine pop_field 0 fld32_0 b_1 0 ?_
      refine guardM_y' hb_4 ?_
      refine rop_loc one22 hL_4 1 rfl 0 (v := (Sl.v g0_1)) rfl ?_
      refine guardM_y' hb_4 ?_
      refine pop_len g0_1 _ _ sli22 ?_
      refine guardM_y' hb_4 ?_
      refine pop_ine .i64 _ _ (l2_2.n : Int) (g0_1.n : Int) ?_
      refine pop_pickf' hb_4 ?_
      refine condM_b (fun hb_5 => ?_) (fun hb_5 => ?_)
      · have H := H.1 hb_5
        exact H
      · have H := H.2 hb_5
        refine pop_field 1 fld34_1 b_2 0 ?_
        refine rop_loc one25 hL_4 0 rfl 1 (v := (Sl.v l2_2)) rfl ?_
        refine H.mono fun rv_3 h_5 H => ?_
        obtain ⟨t31_1, rfl, hL_5, H⟩ := H
        refine guardM_st (fun hb_6 => ?_) (fun hb_6 => ?_)
        · have H := H.1 hb_6
          refine pop_field 1 fld34_1 b_2 0 ?_
          refine guardM_y' hb_6 ?_
          refine rop_loc one25 hL_5 0 rfl 1 (v := (Sl.v l2_2)) rfl ?_
          refine guardM_y' hb_6 ?_
          refine H.mono fun rv_4 h_6 H => ?_
          obtain ⟨t35_1, rfl, hL_6, H⟩ := H
          refine guardM_y' hb_6 ?_
          refine pop_leq .i64 t35_1 20 ?_
          refine pop_pickt' hb_6 ?_
          exact H
        · have H := H.2 hb_6
          refine guardM_n' hb_6 (by decide) ?_
          refine guardM_n' hb_6 (by decide) ?_
          refine guardM_n' hb_6 (by decide) ?_
          refine pop_pickf' hb_6 ?_
          exact H
    · have H := H.1 hb_4
      refine guardM_n' hb_4 (by decide) ?_
      refine guardM_n' hb_4 (by decide) ?_
      refine guardM_n' hb_4 (by decide) ?_
      refine guardM_n' hb_4 (by decide) ?_
      refine guardM_n' hb_4 (by decide) ?_
      refine guardM_n' hb_4 (by decide) ?_
      refine pop_pickt' hb_4 ?_
      refine condM_t ?_
      exact H
  · have H := H.1 hb_3
    refine guardM_n' hb_3 (by decide) ?_
    refine guardM_n' hb_3 (by decide) ?_
    refine guardM_n' hb_3 (by decide) ?_
    refine guardM_n' hb_3 (by decide) ?_
    refine guardM_n' hb_3 (by decide) ?_
    refine guardM_n' hb_3 (by decide) ?_
    refine pop_pickt' hb_3 ?_
    refine guardM_n (by decide) ?_
    refine guardM_n (by decide) ?_
    refine guardM_n (by decide) ?_
    refine guardM_n (by decide) ?_
    refine guardM_n (by decide) ?_
    refine guardM_n (by decide) ?_
    refine guardM_n (by decide) ?_
    refine pop_pickt _ _ ?_
    refine condM_t ?_
    exact H

/-! spec.chEnd -/
def u77 (P : Program) (g0_1 : Sl) (sink1_1 : Int) (l2_1 : Sl) (l2_2 : Sl) (choices3_1 : Sl) (h : Heap) (K : Value → Heap → Prop) : Prop :=
  ∀ (b_1 : Nat) (b_2 : Nat) (b_3 : Nat) (h_3 : Heap), h.size ≤ b_1 → h.size ≤ b_2 → h.size ≤ b_3 → Fr (In []) h h_3 → Vars h_3 [(b_3, [(Sl.v nilSl), (Sl.v nilSl)]), (b_2, [(Sl.v l2_1), (Sl.v l2_2)]), (b_1, [(Sl.v g0_1)])] →
  ∃ J_1 : Nat → Sl → Sl → Sl → Heap → Prop, ((callM P 109 #[(Value.agg #[(Sl.v l2_1), (Sl.v l2_2)])] h_3 fun rv_1 h_4 => ∃ t17_1 : Sl, ∃ t17_2 : Sl, rv_1 = (Value.agg #[(Sl.v t17_1), (Sl.v t17_2)]) ∧ Vars h_4 [(b_3, [(Sl.v nilSl), (Sl.v nilSl)]), (b_2, [(Sl.v l2_1), (Sl.v l2_2)]), (b_1, [(Sl.v g0_1)])] ∧
  (eop P (Instr.makeSlice 25 (VI (g0_1.n : Int)) (VI (g0_1.n : Int))) h_4 fun rv_2 h_5 => ∃ t21_1 : Sl, rv_2 = (Sl.v t21_1) ∧ Vars h_5 [(b_3, [(Sl.v nilSl), (Sl.v nilSl)]), (b_2, [(Sl.v l2_1), (Sl.v l2_2)]), (b_1, [(Sl.v g0_1)])] ∧
  ∀ (b_5 : Nat) (h_6 : Heap), h_5.size ≤ b_5 → Fr (In []) h_5 h_6 → Vars h_6 [(b_5, [(Sl.v nilSl), (Sl.v nilSl)]), (b_3, [(Sl.v nilSl), (Sl.v nilSl)]), (b_2, [(Sl.v l2_1), (Sl.v l2_2)]), (b_1, [(Sl.v g0_1)])] →
  ∀ (h_7 : Heap), Fr (In [b_5]) h_6 h_7 → Vars h_7 [(b_5, [(Sl.v t17_1), (Sl.v t17_2)]), (b_3, [(Sl.v nilSl), (Sl.v nilSl)]), (b_2, [(Sl.v l2_1), (Sl.v l2_2)]), (b_1, [(Sl.v g0_1)])] →
  J_1 b_5 t17_1 t17_2 t21_1 h_7) ∧
  (∀ (b_6 : Nat) (h_8 : Heap), h_4.size ≤ b_6 → Fr (In []) h_4 h_8 → Vars h_8 [(b_6, [(Sl.v nilSl), (Sl.v nilSl)]), (b_3, [(Sl.v nilSl), (Sl.v nilSl)]), (b_2, [(Sl.v l2_1), (Sl.v l2_2)]), (b_1, [(Sl.v g0_1)])] →
  (eop P (Instr.makeSlice 25 (VI (g0_1.n : Int)) (VI (g0_1.n : Int))) h_8 fun rv_3 h_9 => ∃ t21_2 : Sl, rv_3 = (Sl.v t21_2) ∧ Vars h_9 [(b_6, [(Sl.v nilSl), (Sl.v nilSl)]), (b_3, [(Sl.v nilSl), (Sl.v nilSl)]), (b_2, [(Sl.v l2_1), (Sl.v l2_2)]), (b_1, [(Sl.v g0_1)])] ∧
  ∀ (h_10 : Heap), Fr (In [b_6]) h_9 h_10 → Vars h_10 [(b_6, [(Sl.v t17_1), (Sl.v t17_2)]), (b_3, [(Sl.v nilSl), (Sl.v nilSl)]), (b_2, [(Sl.v l2_1), (Sl.v l2_2)]), (b_1, [(Sl.v g0_1)])] →
  J_1 b_6 t17_1 t17_2 t21_2 h_10) ∧
  (∀ (h_11 : Heap), Fr (In [b_6]) h_8 h_11 → Vars h_11 [(b_6, [(Sl.v t17_1), (Sl.v t17_2)]), (b_3, [(Sl.v nilSl), (Sl.v nilSl)]), (b_2, [(Sl.v l2_1), (Sl.v l2_2)]), (b_1, [(Sl.v g0_1)])] →
  eop P (Instr.makeSlice 25 (VI (g0_1.n : Int)) (VI (g0_1.n : Int))) h_11 fun rv_4 h_12 => ∃ t21_3 : Sl, rv_4 = (Sl.v t21_3) ∧ Vars h_12 [(b_6, [(Sl.v t17_1), (Sl.v t17_2)]), (b_3, [(Sl.v nilSl), (Sl.v nilSl)]), (b_2, [(Sl.v l2_1), (Sl.v l2_2)]), (b_1, [(Sl.v g0_1)])] ∧
  J_1 b_6 t17_1 t17_2 t21_3 h_12))) ∧
  (eop P (Instr.makeSlice 25 (VI (g0_1.n : Int)) (VI (g0_1.n : Int))) h_3 fun rv_5 h_13 => ∃ t21_4 : Sl, rv_5 = (Sl.v t21_4) ∧ Vars h_13 [(b_3, [(Sl.v nilSl), (Sl.v nilSl)]), (b_2, [(Sl.v l2_1), (Sl.v l2_2)]), (b_1, [(Sl.v g0_1)])] ∧
  (callM P 109 #[(Value.agg #[(Sl.v l2_1), (Sl.v l2_2)])] h_13 fun rv_6 h_14 => ∃ t17_3 : Sl, ∃ t17_4 : Sl, rv_6 = (Value.agg #[(Sl.v t17_3), (Sl.v t17_4)]) ∧ Vars h_14 [(b_3, [(Sl.v nilSl), (Sl.v nilSl)]), (b_2, [(Sl.v l2_1), (Sl.v l2_2)]), (b_1, [(Sl.v g0_1)])] ∧
  ∀ (b_7 : Nat) (h_15 : Heap), h_14.size ≤ b_7 → Fr (In []) h_14 h_15 → Vars h_15 [(b_7, [(Sl.v nilSl), (Sl.v nilSl)]), (b_3, [(Sl.v nilSl), (Sl.v nilSl)]), (b_2, [(Sl.v l2_1), (Sl.v l2_2)]), (b_1, [(Sl.v g0_1)])] →
  ∀ (h_16 : Heap), Fr (In [b_7]) h_15 h_16 → Vars h_16 [(b_7, [(Sl.v t17_3), (Sl.v t17_4)]), (b_3, [(Sl.v nilSl), (Sl.v nilSl)]), (b_2, [(Sl.v l2_1), (Sl.v l2_2)]), (b_1, [(Sl.v g0_1)])] →
  J_1 b_7 t17_3 t17_4 t21_4 h_16) ∧
  (∀ (b_8 : Nat) (h_17 : Heap), h_13.size ≤ b_8 → Fr (In []) h_13 h_17 → Vars h_17 [(b_8, [(Sl.v nilSl), (Sl.v nilSl)]), (b_3, [(Sl.v nilSl), (Sl.v nilSl)]), (b_2, [(Sl.v l2_1), (Sl.v l2_2)]), (b_1, [(Sl.v g0_1)])] →
  callM P 109 #[(Value.agg #[(Sl.v l2_1), (Sl.v l2_2)])] h_17 fun rv_7 h_18 => ∃ t17_5 : Sl, ∃ t17_6 : Sl, rv_7 = (Value.agg #[(Sl.v t17_5), (Sl.v t17_6)]) ∧ Vars h_18 [(b_8, [(Sl.v nilSl), (Sl.v nilSl)]), (b_3, [(Sl.v nilSl), (Sl.v nilSl)]), (b_2, [(Sl.v l2_1), (Sl.v l2_2)]), (b_1, [(Sl.v g0_1)])] ∧
  ∀ (h_19 : Heap), Fr (In [b_8]) h_18 h_19 → Vars h_19 [(b_8, [(Sl.v t17_5), (Sl.v t17_6)]), (b_3, [(Sl.v nilSl), (Sl.v nilSl)]), (b_2, [(Sl.v l2_1), (Sl.v l2_2)]), (b_1, [(Sl.v g0_1)])] →
  J_1 b_8 t17_5 t17_6 t21_4 h_19)) ∧
  (∀ (b_9 : Nat) (h_20 : Heap), h_3.size ≤ b_9 → Fr (In []) h_3 h_20 → Vars h_20 [(b_9, [(Sl.v nilSl), (Sl.v nilSl)]), (b_3, [(Sl.v nilSl), (Sl.v nilSl)]), (b_2, [(Sl.v l2_1), (Sl.v l2_2)]), (b_1, [(Sl.v g0_1)])] →
  (callM P 109 #[(Value.agg #[(Sl.v l2_1), (Sl.v l2_2)])] h_20 fun rv_8 h_21 => ∃ t17_7 : Sl, ∃ t17_8 : Sl, rv_8 = (Value.agg #[(Sl.v t17_7), (Sl.v t17_8)]) ∧ Vars h_21 [(b_9, [(Sl.v nilSl), (Sl.v nilSl)]), (b_3, [(Sl.v nilSl), (Sl.v nilSl)]), (b_2, [(Sl.v l2_1), (Sl.v l2_2)]), (b_1, [(Sl.v g0_1)])] ∧
  (eop P (Instr.makeSlice 25 (VI (g0_1.n : Int)) (VI (g0_1.n : Int))) h_21 fun rv_9 h_22 => ∃ t21_5 : Sl, rv_9 = (Sl.v t21_5) ∧ Vars h_22 [(b_9, [(Sl.v nilSl), (Sl.v nilSl)]), (b_3, [(Sl.v nilSl), (Sl.v nilSl)]), (b_2, [(Sl.v l2_1), (Sl.v l2_2)]), (b_1, [(Sl.v g0_1)])] ∧
  ∀ (h_23 : Heap), Fr (In [b_9]) h_22 h_23 → Vars h_23 [(b_9, [(Sl.v t17_7), (Sl.v t17_8)]), (b_3, [(Sl.v nilSl), (Sl.v nilSl)]), (b_2, [(Sl.v l2_1), (Sl.v l2_2)]), (b_1, [(Sl.v g0_1)])] →
  J_1 b_9 t17_7 t17_8 t21_5 h_23) ∧
  (∀ (h_24 : Heap), Fr (In [b_9]) h_21 h_24 → Vars h_24 [(b_9, [(Sl.v t17_7), (Sl.v t17_8)]), (b_3, [(Sl.v nilSl), (Sl.v nilSl)]), (b_2, [(Sl.v l2_1), (Sl.v l2_2)]), (b_1, [(Sl.v g0_1)])] →
  eop P (Instr.makeSlice 25 (VI (g0_1.n : Int)) (VI (g0_1.n : Int))) h_24 fun rv_10 h_25 => ∃ t21_6 : Sl, rv_10 = (Sl.v t21_6) ∧ Vars h_25 [(b_9, [(Sl.v t17_7), (Sl.v t17_8)]), (b_3, [(Sl.v nilSl), (Sl.v nilSl)]), (b_2, [(Sl.v l2_1), (Sl.v l2_2)]), (b_1, [(Sl.v g0_1)])] ∧
  J_1 b_9 t17_7 t17_8 t21_6 h_25)) ∧
  (eop P (Instr.makeSlice 25 (VI (g0_1.n : Int)) (VI (g0_1.n : Int))) h_20 fun rv_11 h_26 => ∃ t21_7 : Sl, rv_11 = (Sl.v t21_7) ∧ Vars h_26 [(b_9, [(Sl.v nilSl), (Sl.v nilSl)]), (b_3, [(Sl.v nilSl), (Sl.v nilSl)]), (b_2, [(Sl.v l2_1), (Sl.v l2_2)]), (b_1, [(Sl.v g0_1)])] ∧
  callM P 109 #[(Value.agg #[(Sl.v l2_1), (Sl.v l2_2)])] h_26 fun rv_12 h_27 => ∃ t17_9 : Sl, ∃ t17_10 : Sl, rv_12 = (Value.agg #[(Sl.v t17_9), (Sl.v t17_10)]) ∧ Vars h_27 [(b_9, [(Sl.v nilSl), (Sl.v nilSl)]), (b_3, [(Sl.v nilSl), (Sl.v nilSl)]), (b_2, [(Sl.v l2_1), (Sl.v l2_2)]), (b_1, [(Sl.v g0_1)])] ∧
  ∀ (h_28 : Heap), Fr (In [b_9]) h_27 h_28 → Vars h_28 [(b_9, [(Sl.v t17_9), (Sl.v t17_10)]), (b_3, [(Sl.v nilSl), (Sl.v nilSl)]), (b_2, [(Sl.v l2_1), (Sl.v l2_2)]), (b_1, [(Sl.v g0_1)])] →
  J_1 b_9 t17_9 t17_10 t21_7 h_28))) ∧
  ∀ (b_4 : Nat) (x_1 : Sl) (x_2 : Sl) (x_3 : Sl) (h_29 : Heap), J_1 b_4 x_1 x_2 x_3 h_29 → Vars h_29 [(b_4, [(Sl.v x_1), (Sl.v x_2)]), (b_3, [(Sl.v nilSl), (Sl.v nilSl)]), (b_2, [(Sl.v l2_1), (Sl.v l2_2)]), (b_1, [(Sl.v g0_1)])] →
  ∃ J_2 : Nat → Int → Heap → Prop, (∃ n0 : Nat, J_2 n0 0 h_29) ∧
  ∀ (n_1 : Nat) (k13_1 : Int) (h_30 : Heap), J_2 n_1 k13_1 h_30 → Vars h_30 [(b_4, [(Sl.v x_1), (Sl.v x_2)]), (b_3, [(Sl.v nilSl), (Sl.v nilSl)]), (b_2, [(Sl.v l2_1), (Sl.v l2_2)]), (b_1, [(Sl.v g0_1)])] →
  callM P 96 #[(VI sink1_1), (Sl.v x_2)] h_30 fun rv_13 h_31 => ∃ t27_1 : Sl, rv_13 = (Sl.v t27_1) ∧ Vars h_31 [(b_4, [(Sl.v x_1), (Sl.v x_2)]), (b_3, [(Sl.v nilSl), (Sl.v nilSl)]), (b_2, [(Sl.v l2_1), (Sl.v l2_2)]), (b_1, [(Sl.v g0_1)])] ∧
  ((decide ((t27_1.n : Int) = 0)) = true →
  ∀ (h_32 : Heap), Fr (In [b_3]) h_31 h_32 → Vars h_32 [(b_4, [(Sl.v x_1), (Sl.v x_2)]), (b_3, [(Sl.v x_1), (Sl.v x_2)]), (b_2, [(Sl.v l2_1), (Sl.v l2_2)]), (b_1, [(Sl.v g0_1)])] →
  K (Value.tuple #[(Value.agg #[(Sl.v x_1), (Sl.v x_2)]), (Sl.v x_3), (VB true)]) h_32) ∧
  ((decide ((t27_1.n : Int) = 0)) = false →
  ((decide (4000 ≤ k13_1)) = true →
  ∀ (h_33 : Heap), Fr (In [b_3]) h_31 h_33 → Vars h_33 [(b_4, [(Sl.v x_1), (Sl.v x_2)]), (b_3, [(Sl.v nilSl), (Sl.v nilSl)]), (b_2, [(Sl.v l2_1), (Sl.v l2_2)]), (b_1, [(Sl.v g0_1)])] →
  K (Value.tuple #[(Value.agg #[(Sl.v nilSl), (Sl.v nilSl)]), (Sl.v nilSl), (VB false)]) h_33) ∧
  ((decide (4000 ≤ k13_1)) = false →
  InB t27_1 0 ∧
  ∃ t38_1 : Int, hcell h_31 (Sl.at t27_1 0 1) = some (VI t38_1) ∧
  ∃ J_3 : Int → Heap → Prop, (((decide (k13_1 < (choices3_1.n : Int))) = true →
  InB choices3_1 k13_1 ∧
  ∃ t47_1 : Int, hcell h_31 (Sl.at choices3_1 k13_1 1) = some (VI t47_1) ∧
  (t27_1.n : Int) ≠ 0 ∧
  InB t27_1 (Int.tmod t47_1 (t27_1.n : Int)) ∧
  ∃ t52_1 : Int, hcell h_31 (Sl.at t27_1 (Int.tmod t47_1 (t27_1.n : Int)) 1) = some (VI t52_1) ∧
  J_3 t52_1 h_31) ∧
  ((decide (k13_1 < (choices3_1.n : Int))) = false →
  J_3 t38_1 h_31)) ∧
  ∀ (x_4 : Int) (h_34 : Heap), J_3 x_4 h_34 → Vars h_34 [(b_4, [(Sl.v x_1), (Sl.v x_2)]), (b_3, [(Sl.v nilSl), (Sl.v nilSl)]), (b_2, [(Sl.v l2_1), (Sl.v l2_2)]), (b_1, [(Sl.v g0_1)])] →
  callM P 110 #[(Value.agg #[(Sl.v g0_1)]), (Value.agg #[(Sl.v x_1), (Sl.v x_2)]), (VI x_4)] h_34 fun rv_14 h_35 => Vars h_35 [(b_4, [(Sl.v x_1), (Sl.v x_2)]), (b_3, [(Sl.v nilSl), (Sl.v nilSl)]), (b_2, [(Sl.v l2_1), (Sl.v l2_2)]), (b_1, [(Sl.v g0_1)])] ∧
  InB x_3 x_4 ∧
  ∃ t60_1 : Int, hcell h_35 (Sl.at x_3 x_4 1) = some (VI t60_1) ∧
  InB x_3 x_4 ∧
  Writable h_35 (Sl.at x_3 x_4 1) ∧ Vars (hset h_35 (Sl.at x_3 x_4 1) (VI (w64 (t60_1 + 1)))) [(b_4, [(Sl.v x_1), (Sl.v x_2)]), (b_3, [(Sl.v nilSl), (Sl.v nilSl)]), (b_2, [(Sl.v l2_1), (Sl.v l2_2)]), (b_1, [(Sl.v g0_1)])] ∧
  ∀ h_36 : Heap, h_36 = hset h_35 (Sl.at x_3 x_4 1) (VI (w64 (t60_1 + 1))) → Vars h_36 [(b_4, [(Sl.v x_1), (Sl.v x_2)]), (b_3, [(Sl.v nilSl), (Sl.v nilSl)]), (b_2, [(Sl.v l2_1), (Sl.v l2_2)]), (b_1, [(Sl.v g0_1)])] →
  ∃ m : Nat, m < n_1 ∧ J_2 m (w64 (k13_1 + 1)) h_36))
theorem v77 (g0_1 : Sl) (sink1_1 : Int) (l2_1 : Sl) (l2_2 : Sl) (choices3_1 : Sl) (h : Heap) (K : Value → Heap → Prop) (H : u77 Try.prog g0_1 sink1_1 l2_1 l2_2 choices3_1 h K) : callM Try.prog 77 #[(Value.agg #[(Sl.v g0_1)]), (VI sink1_1), (Value.agg #[(Sl.v l2_1), (Sl.v l2_2)]), (Sl.v choices3_1)] h K := by
  refine c77 (Value.agg #[(Sl.v g0_1)]) (VI sink1_1) (Value.agg #[(Sl.v l2_1), (Sl.v l2_2)]) (Sl.v choices3_1) h K ?_
  unfold u77 at H
  unfold t77
  have hL : Vars h [] := .nil
  refine eop_box 32 (Value.agg #[(Sl.v g0_1)]) rfl hL (fun b_1 h_1 hb_1 hf_1 hL_1 => ?_)
  refine eop_box 34 (Value.agg #[(Sl.v l2_1), (Sl.v l2_2)]) rfl hL_1 (fun b_2 h_2 hb_2 hf_2 hL_2 => ?_)
  refine eop_alloc 34 zer34 rfl hL_2 (fun b_3 h_3 hb_3 hf_3 hL_3 => ?_)
  have H := H b_1 b_2 b_3 h_3 (Nat.le_trans (Fr.size (Fr.r (In []) _)) hb_1) (Nat.le_trans (Fr.size (Fr.no' (Fr.r (In []) _) hf_1)) hb_2) (Nat.le_trans (Fr.size (Fr.no' (Fr.no' (Fr.r (In []) _) hf_1) hf_2)) hb_3) (Fr.no' (Fr.no' (Fr.no' (Fr.r (In []) _) hf_1) hf_2) hf_3) hL_3
  obtain ⟨J_1, H, HB_3⟩ := H
  refine ⟨fun (vs : List Value) (h' : Heap) => ∃ b_4 : Nat, ∃ x_1 : Sl, ∃ x_2 : Sl, ∃ x_3 : Sl, vs = [(VP b_4 0), (Sl.v x_3)] ∧ J_1 b_4 x_1 x_2 x_3 h' ∧ Vars h' [(b_4, [(Sl.v x_1), (Sl.v x_2)]), (b_3, [(Sl.v nilSl), (Sl.v nilSl)]), (b_2, [(Sl.v l2_1), (Sl.v l2_2)]), (b_1, [(Sl.v g0_1)])], ?_, ?_⟩
  · refine rop_locA agg34 hL_3 1 rfl 0 (vs := [(Sl.v l2_1), (Sl.v l2_2)]) rfl rfl ?_
    refine pop_field 0 fld32_0 b_1 0 ?_
    refine rop_loc one22 hL_3 2 rfl 0 (v := (Sl.v g0_1)) rfl ?_
    refine pop_len g0_1 _ _ sli22 ?_
    refine ⟨?_, ?_, ?_⟩
    · have H := H.1
      refine H.mono fun rv_1 h_4 H => ?_
      obtain ⟨t17_1, t17_2, rfl, hL_4, H⟩ := H
      refine ⟨?_, ?_⟩
      · exact still_loc one22 hL_4 2 rfl 0 (v := (Sl.v g0_1)) rfl
      refine ⟨?_, ?_⟩
      · have H := H.1
        refine H.mono fun rv_2 h_5 H => ?_
        obtain ⟨t21_1, rfl, hL_5, H⟩ := H
        refine ⟨?_, ?_⟩
        · exact still_loc one22 hL_5 2 rfl 0 (v := (Sl.v g0_1)) rfl
        refine eop_alloc 34 zer34 rfl hL_5 (fun b_5 h_6 hb_4 hf_4 hL_6 => ?_)
        have H := H b_5 h_6 (Nat.le_trans (Fr.size (Fr.r (In []) _)) hb_4) (Fr.no' (Fr.r (In []) _) hf_4) hL_6
        refine ⟨?_, ?_⟩
        · exact still_loc one22 hL_6 3 rfl 0 (v := (Sl.v g0_1)) rfl
        refine uop_loc siz34 hL_6 0 rfl 0 [(Sl.v t17_1), (Sl.v t17_2)] rfl rfl rfl (Nat.le_of_ble_eq_true rfl) (L' := [(b_5, [(Sl.v t17_1), (Sl.v t17_2)]), (b_3, [(Sl.v nilSl), (Sl.v nilSl)]), (b_2, [(Sl.v l2_1), (Sl.v l2_2)]), (b_1, [(Sl.v g0_1)])]) rfl (fun h_7 hf_5 hL_7 => ?_)
        have H := H  h_7  (Fr.old (Fr.r (In []) _) hf_5) hL_7
        refine ⟨?_, ?_⟩
        · exact still_loc one22 hL_7 3 rfl 0 (v := (Sl.v g0_1)) rfl
        exact ⟨b_5, t17_1, t17_2, t21_1, rfl, H, hL_7⟩
      · have H := H.2
        refine eop_alloc 34 zer34 rfl hL_4 (fun b_6 h_8 hb_5 hf_6 hL_8 => ?_)
        have H := H b_6 h_8 (Nat.le_trans (Fr.size (Fr.r (In []) _)) hb_5) (Fr.no' (Fr.r (In []) _) hf_6) hL_8
        refine ⟨?_, ?_⟩
        · exact still_loc one22 hL_8 3 rfl 0 (v := (Sl.v g0_1)) rfl
        refine ⟨?_, ?_⟩
        · have H := H.1
          refine H.mono fun rv_3 h_9 H => ?_
          obtain ⟨t21_2, rfl, hL_9, H⟩ := H
          refine ⟨?_, ?_⟩
          · exact still_loc one22 hL_9 3 rfl 0 (v := (Sl.v g0_1)) rfl
          refine uop_loc siz34 hL_9 0 rfl 0 [(Sl.v t17_1), (Sl.v t17_2)] rfl rfl rfl (Nat.le_of_ble_eq_true rfl) (L' := [(b_6, [(Sl.v t17_1), (Sl.v t17_2)]), (b_3, [(Sl.v nilSl), (Sl.v nilSl)]), (b_2, [(Sl.v l2_1), (Sl.v l2_2)]), (b_1, [(Sl.v g0_1)])]) rfl (fun h_10 hf_7 hL_10 => ?_)
          have H := H  h_10  (Fr.old (Fr.r (In []) _) hf_7) hL_10
          refine ⟨?_, ?_⟩
          · exact still_loc one22 hL_10 3 rfl 0 (v := (Sl.v g0_1)) rfl
          exact ⟨b_6, t17_1, t17_2, t21_2, rfl, H, hL_10⟩
        · have H := H.2
          refine uop_loc siz34 hL_8 0 rfl 0 [(Sl.v t17_1), (Sl.v t17_2)] rfl rfl rfl (Nat.le_of_ble_eq_true rfl) (L' := [(b_6, [(Sl.v t17_1), (Sl.v t17_2)]), (b_3, [(Sl.v nilSl), (Sl.v nilSl)]), (b_2, [(Sl.v l2_1), (Sl.v l2_2)]), (b_1, [(Sl.v g0_1)])]) rfl (fun h_11 hf_8 hL_11 => ?_)
          have H := H  h_11  (Fr.old (Fr.r (In []) _) hf_8) hL_11
          refine ⟨?_, ?_⟩
          · exact still_loc one22 hL_11 3 rfl 0 (v := (Sl.v g0_1)) rfl
          refine H.mono fun rv_4 h_12 H => ?_
          obtain ⟨t21_3, rfl, hL_12, H⟩ := H
          refine ⟨?_, ?_⟩
          · exact still_loc one22 hL_12 3 rfl 0 (v := (Sl.v g0_1)) rfl
          exact ⟨b_6, t17_1, t17_2, t21_3, rfl, H, hL_12⟩
    · have H := H.2.1
      refine H.mono fun rv_5 h_13 H => ?_
      obtain ⟨t21_4, rfl, hL_13, H⟩ := H
      refine ⟨?_, ?_⟩
      · exact still_loc one22 hL_13 2 rfl 0 (v := (Sl.v g0_1)) rfl
      refine ⟨?_, ?_⟩
      · exact still_locA agg34 hL_13 1 rfl 0 (vs := [(Sl.v l2_1), (Sl.v l2_2)]) rfl rfl
      refine ⟨?_, ?_⟩
      · have H := H.1
        refine H.mono fun rv_6 h_14 H => ?_
        obtain ⟨t17_3, t17_4, rfl, hL_14, H⟩ := H
        refine ⟨?_, ?_⟩
        · exact still_loc one22 hL_14 2 rfl 0 (v := (Sl.v g0_1)) rfl
        refine eop_alloc 34 zer34 rfl hL_14 (fun b_7 h_15 hb_6 hf_9 hL_15 => ?_)
        have H := H b_7 h_15 (Nat.le_trans (Fr.size (Fr.r (In []) _)) hb_6) (Fr.no' (Fr.r (In []) _) hf_9) hL_15
        refine ⟨?_, ?_⟩
        · exact still_loc one22 hL_15 3 rfl 0 (v := (Sl.v g0_1)) rfl
        refine uop_loc siz34 hL_15 0 rfl 0 [(Sl.v t17_3), (Sl.v t17_4)] rfl rfl rfl (Nat.le_of_ble_eq_true rfl) (L' := [(b_7, [(Sl.v t17_3), (Sl.v t17_4)]), (b_3, [(Sl.v nilSl), (Sl.v nilSl)]), (b_2, [(Sl.v l2_1), (Sl.v l2_2)]), (b_1, [(Sl.v g0_1)])]) rfl (fun h_16 hf_10 hL_16 => ?_)
        have H := H  h_16  (Fr.old (Fr.r (In []) _) hf_10) hL_16
        refine ⟨?_, ?_⟩
        · exact still_loc one22 hL_16 3 rfl 0 (v := (Sl.v g0_1)) rfl
        exact ⟨b_7, t17_3, t17_4, t21_4, rfl, H, hL_16⟩
      · have H := H.2
        refine eop_alloc 34 zer34 rfl hL_13 (fun b_8 h_17 hb_7 hf_11 hL_17 => ?_)
        have H := H b_8 h_17 (Nat.le_trans (Fr.size (Fr.r (In []) _)) hb_7) (Fr.no' (Fr.r (In []) _) hf_11) hL_17
        refine ⟨?_, ?_⟩
        · exact still_loc one22 hL_17 3 rfl 0 (v := (Sl.v g0_1)) rfl
        refine ⟨?_, ?_⟩
        · exact still_locA agg34 hL_17 2 rfl 0 (vs := [(Sl.v l2_1), (Sl.v l2_2)]) rfl rfl
        refine H.mono fun rv_7 h_18 H => ?_
        obtain ⟨t17_5, t17_6, rfl, hL_18, H⟩ := H
        refine ⟨?_, ?_⟩
        · exact still_loc one22 hL_18 3 rfl 0 (v := (Sl.v g0_1)) rfl
        refine uop_loc siz34 hL_18 0 rfl 0 [(Sl.v t17_5), (Sl.v t17_6)] rfl rfl rfl (Nat.le_of_ble_eq_true rfl) (L' := [(b_8, [(Sl.v t17_5), (Sl.v t17_6)]), (b_3, [(Sl.v nilSl), (Sl.v nilSl)]), (b_2, [(Sl.v l2_1), (Sl.v l2_2)]), (b_1, [(Sl.v g0_1)])]) rfl (fun h_19 hf_12 hL_19 => ?_)
        have H := H  h_19  (Fr.old (Fr.r (In []) _) hf_12) hL_19
        refine ⟨?_, ?_⟩
        · exact still_loc one22 hL_19 3 rfl 0 (v := (Sl.v g0_1)) rfl
        exact ⟨b_8, t17_5, t17_6, t21_4, rfl, H, hL_19⟩
    · have H := H.2.2
      refine eop_alloc 34 zer34 rfl hL_3 (fun b_9 h_20 hb_8 hf_13 hL_20 => ?_)
      have H := H b_9 h_20 (Nat.le_trans (Fr.size (Fr.r (In []) _)) hb_8) (Fr.no' (Fr.r (In []) _) hf_13) hL_20
      refine ⟨?_, ?_⟩
      · exact still_loc one22 hL_20 3 rfl 0 (v := (Sl.v g0_1)) rfl
      refine ⟨?_, ?_⟩
      · exact still_locA agg34 hL_20 2 rfl 0 (vs := [(Sl.v l2_1), (Sl.v l2_2)]) rfl rfl
      refine ⟨?_, ?_⟩
      · have H := H.1
        refine H.mono fun rv_8 h_21 H => ?_
        obtain ⟨t17_7, t17_8, rfl, hL_21, H⟩ := H
        refine ⟨?_, ?_⟩
        · exact still_loc one22 hL_21 3 rfl 0 (v := (Sl.v g0_1)) rfl
        refine ⟨?_, ?_⟩
        · have H := H.1
          refine H.mono fun rv_9 h_22 H => ?_
          obtain ⟨t21_5, rfl, hL_22, H⟩ := H
          refine ⟨?_, ?_⟩
          · exact still_loc one22 hL_22 3 rfl 0 (v := (Sl.v g0_1)) rfl
          refine uop_loc siz34 hL_22 0 rfl 0 [(Sl.v t17_7), (Sl.v t17_8)] rfl rfl rfl (Nat.le_of_ble_eq_true rfl) (L' := [(b_9, [(Sl.v t17_7), (Sl.v t17_8)]), (b_3, [(Sl.v nilSl), (Sl.v nilSl)]), (b_2, [(Sl.v l2_1), (Sl.v l2_2)]), (b_1, [(Sl.v g0_1)])]) rfl (fun h_23 hf_14 hL_23 => ?_)
          have H := H  h_23  (Fr.old (Fr.r (In []) _) hf_14) hL_23
          refine ⟨?_, ?_⟩
          · exact still_loc one22 hL_23 3 rfl 0 (v := (Sl.v g0_1)) rfl
          exact ⟨b_9, t17_7, t17_8, t21_5, rfl, H, hL_23⟩
        · have H := H.2
          refine uop_loc siz34 hL_21 0 rfl 0 [(Sl.v t17_7), (Sl.v t17_8)] rfl rfl rfl (Nat.le_of_ble_eq_true rfl) (L' := [(b_9, [(Sl.v t17_7), (Sl.v t17_8)]), (b_3, [(Sl.v nilSl), (Sl.v nilSl)]), (b_2, [(Sl.v l2_1), (Sl.v l2_2)]), (b_1, [(Sl.v g0_1)])]) rfl (fun h_24 hf_15 hL_24 => ?_)
          have H := H  h_24  (Fr.old (Fr.r (In []) _) hf_15) hL_24
          refine ⟨?_, ?_⟩
          · exact still_loc one22 hL_24 3 rfl 0 (v := (Sl.v g0_1)) rfl
          refine H.mono fun rv_10 h_25 H => ?_
          obtain ⟨t21_6, rfl, hL_25, H⟩ := H
          refine ⟨?_, ?_⟩
          · exact still_loc one22 hL_25 3 rfl 0 (v := (Sl.v g0_1)) rfl
          exact ⟨b_9, t17_7, t17_8, t21_6, rfl, H, hL_25⟩
      · have H := H.2
        refine H.mono fun rv_11 h_26 H => ?_
        obtain ⟨t21_7, rfl, hL_26, H⟩ := H
        refine ⟨?_, ?_⟩
        · exact still_loc one22 hL_26 3 rfl 0 (v := (Sl.v g0_1)) rfl
        refine ⟨?_, ?_⟩
        · exact still_locA agg34 hL_26 2 rfl 0 (vs := [(Sl.v l2_1), (Sl.v l2_2)]) rfl rfl
        refine H.mono fun rv_12 h_27 H => ?_
        obtain ⟨t17_9, t17_10, rfl, hL_27, H⟩ := H
        refine ⟨?_, ?_⟩
        · exact still_loc one22 hL_27 3 rfl 0 (v := (Sl.v g0_1)) rfl
        refine uop_loc siz34 hL_27 0 rfl 0 [(Sl.v t17_9), (Sl.v t17_10)] rfl rfl rfl (Nat.le_of_ble_eq_true rfl) (L' := [(b_9, [(Sl.v t17_9), (Sl.v t17_10)]), (b_3, [(Sl.v nilSl), (Sl.v nilSl)]), (b_2, [(Sl.v l2_1), (Sl.v l2_2)]), (b_1, [(Sl.v g0_1)])]) rfl (fun h_28 hf_16 hL_28 => ?_)
        have H := H  h_28  (Fr.old (Fr.r (In []) _) hf_16) hL_28
        refine ⟨?_, ?_⟩
        · exact still_loc one22 hL_28 3 rfl 0 (v := (Sl.v g0_1)) rfl
        exact ⟨b_9, t17_9, t17_10, t21_7, rfl, H, hL_28⟩
  intro junk_1 tv_1 tv_2 h_29
  rintro ⟨b_4, x_1, x_2, x_3, hv, hJ_1, hL_29⟩
  cases hv
  have H := HB_3 b_4 x_1 x_2 x_3 h_29 hJ_1 hL_29
  obtain ⟨J_2, ⟨n_2, h0_1⟩, HB_2⟩ := H
  refine loop_intro (J := fun (n : Nat) (vs : List Value) (h' : Heap) => ∃ k13_1 : Int, vs = [(VI k13_1)] ∧ J_2 n k13_1 h' ∧ Vars h' [(b_4, [(Sl.v x_1), (Sl.v x_2)]), (b_3, [(Sl.v nilSl), (Sl.v nilSl)]), (b_2, [(Sl.v l2_1), (Sl.v l2_2)]), (b_1, [(Sl.v g0_1)])]) n_2 ⟨0, rfl, h0_1, hL_29⟩ ?_
  intro I_1 mu_1 hI_1 junk_2 tv_4 h_30 hi_1
  obtain ⟨n_1, ⟨k13_1, hv, hJ_2, hL_30⟩, hn_1⟩ := hI_1 _ _ hi_1
  cases hv
  have H := HB_2 n_1 k13_1 h_30 hJ_2 hL_30
  refine pop_field 1 fld34_1 b_4 0 ?_
  refine rop_loc one25 hL_30 0 rfl 1 (v := (Sl.v x_2)) rfl ?_
  refine H.mono fun rv_13 h_31 H => ?_
  obtain ⟨t27_1, rfl, hL_31, H⟩ := H
  refine pop_len t27_1 _ _ sli25 ?_
  refine pop_ieq .i64 _ _ (t27_1.n : Int) 0 ?_
  refine condM_b (fun hb_9 => ?_) (fun hb_9 => ?_)
  · have H := H.1 hb_9
    refine rop_locA agg34 hL_31 0 rfl 0 (vs := [(Sl.v x_1), (Sl.v x_2)]) rfl rfl ?_
    refine uop_loc siz34 hL_31 1 rfl 0 [(Sl.v x_1), (Sl.v x_2)] rfl rfl rfl (Nat.le_of_ble_eq_true rfl) (L' := [(b_4, [(Sl.v x_1), (Sl.v x_2)]), (b_3, [(Sl.v x_1), (Sl.v x_2)]), (b_2, [(Sl.v l2_1), (Sl.v l2_2)]), (b_1, [(Sl.v g0_1)])]) rfl (fun h_32 hf_17 hL_32 => ?_)
    refine rop_locA agg34 hL_32 1 rfl 0 (vs := [(Sl.v x_1), (Sl.v x_2)]) rfl rfl ?_
    have H := H  h_32  (Fr.old (Fr.r (In []) _) hf_17) hL_32
    exact H
  · have H := H.2 hb_9
    refine pop_geq .i64 k13_1 4000 ?_
    refine condM_b (fun hb_10 => ?_) (fun hb_10 => ?_)
    · have H := H.1 hb_10
      refine pop.mk' (v := (Value.agg #[(Sl.v nilSl), (Sl.v nilSl)])) (fun w => by kernel_rfl) ?_
      refine uop_loc siz34 hL_31 1 rfl 0 [(Sl.v nilSl), (Sl.v nilSl)] rfl rfl rfl (Nat.le_of_ble_eq_true rfl) (L' := [(b_4, [(Sl.v x_1), (Sl.v x_2)]), (b_3, [(Sl.v nilSl), (Sl.v nilSl)]), (b_2, [(Sl.v l2_1), (Sl.v l2_2)]), (b_1, [(Sl.v g0_1)])]) rfl (fun h_33 hf_18 hL_33 => ?_)
      refine rop_locA agg34 hL_33 1 rfl 0 (vs := [(Sl.v nilSl), (Sl.v nilSl)]) rfl rfl ?_
      have H := H  h_33  (Fr.old (Fr.r (In []) _) hf_18) hL_33
      exact H
    · have H := H.2 hb_10
      obtain ⟨hi_2, H⟩ := H
      refine pop_index sli25 siz3 .i64 t27_1 0 hi_2 ?_
      obtain ⟨t38_1, hc_4, H⟩ := H
      refine rop_one one3 (VI t38_1) hc_4 ?_
      obtain ⟨J_3, H, HB_1⟩ := H
      refine ⟨fun (vs : List Value) (h' : Heap) => ∃ x_4 : Int, vs = [(VI x_4)] ∧ J_3 x_4 h' ∧ Vars h' [(b_4, [(Sl.v x_1), (Sl.v x_2)]), (b_3, [(Sl.v nilSl), (Sl.v nilSl)]), (b_2, [(Sl.v l2_1), (Sl.v l2_2)]), (b_1, [(Sl.v g0_1)])], ?_, ?_⟩
      · refine pop_len choices3_1 _ _ sli25 ?_
        refine pop_lss .i64 k13_1 (choices3_1.n : Int) ?_
        refine condM_b (fun hb_11 => ?_) (fun hb_11 => ?_)
        · have H := H.1 hb_11
          obtain ⟨hi_3, H⟩ := H
          refine pop_index sli25 siz3 .i64 choices3_1 k13_1 hi_3 ?_
          obtain ⟨t47_1, hc_2, H⟩ := H
          refine rop_one one3 (VI t47_1) hc_2 ?_
          refine pop_len t27_1 _ _ sli25 ?_
          obtain ⟨hz_1, H⟩ := H
          refine pop_rem .i64 t47_1 (t27_1.n : Int) hz_1 ?_
          obtain ⟨hi_4, H⟩ := H
          refine pop_index sli25 siz3 .i64 t27_1 (Int.tmod t47_1 (t27_1.n : Int)) hi_4 ?_
          obtain ⟨t52_1, hc_1, H⟩ := H
          refine rop_one one3 (VI t52_1) hc_1 ?_
          exact ⟨t52_1, rfl, H, hL_31⟩
        · have H := H.2 hb_11
          exact ⟨t38_1, rfl, H, hL_31⟩
      intro junk_3 tv_3 h_34
      rintro ⟨x_4, hv, hJ_3, hL_34⟩
      cases hv
      have H := HB_1 x_4 h_34 hJ_3 hL_34
      refine rop_locA agg32 hL_34 3 rfl 0 (vs := [(Sl.v g0_1)]) rfl rfl ?_
      refine rop_locA agg34 hL_34 0 rfl 0 (vs := [(Sl.v x_1), (Sl.v x_2)]) rfl rfl ?_
      refine H.mono fun rv_14 h_35 H => ?_
      obtain ⟨hL_35, H⟩ := H
      obtain ⟨hi_5, H⟩ := H
      refine pop_index sli25 siz3 .i64 x_3 x_4 hi_5 ?_
      obtain ⟨t60_1, hc_3, H⟩ := H
      refine rop_one one3 (VI t60_1) hc_3 ?_
      refine pop_add .i64 t60_1 1 ?_
      obtain ⟨hi_6, H⟩ := H
      refine pop_index sli25 siz3 .i64 x_3 x_4 hi_6 ?_
      obtain ⟨hw_1, hL_36, H⟩ := H
      refine uop_cell (v := (VI (w64 (t60_1 + 1)))) siz3 hw_1 rfl (fun h_36 he_1 => ?_)
      rw [← he_1] at hL_36
      have H := H h_36 he_1 hL_36
      refine pop_add .i64 k13_1 1 ?_
      obtain ⟨m_1, hm_1, H⟩ := H
      exact hn_1 _ _ ⟨m_1, hm_1, (w64 (k13_1 + 1)), rfl, H, hL_36⟩

/-! impl.isLoad -/
def u79 (P : Program) (g0_1 : Sl) (sink1_1 : Int) (l2_1 : Sl) (l2_2 : Sl) (h : Heap) (K : Value → Heap → Prop) : Prop :=
  ∀ (b_1 : Nat) (b_2 : Nat) (h_2 : Heap), h.size ≤ b_1 → h.size ≤ b_2 → Fr (In []) h h_2 → Vars h_2 [(b_2, [(Sl.v l2_1), (Sl.v l2_2)]), (b_1, [(Sl.v g0_1)])] →
  callM P 105 #[(Value.agg #[(Sl.v g0_1)]), (VI sink1_1)] h_2 fun rv_1 h_3 => ∃ t9_1 : Bool, rv_1 = (VB t9_1) ∧ Vars h_3 [(b_2, [(Sl.v l2_1), (Sl.v l2_2)]), (b_1, [(Sl.v g0_1)])] ∧
  (t9_1 = true →
  callM P 140 #[(Value.agg #[(Sl.v g0_1)]), (Sl.v l2_1)] h_3 fun rv_2 h_4 => ∃ t14_1 : Bool, rv_2 = (VB t14_1) ∧ Vars h_4 [(b_2, [(Sl.v l2_1), (Sl.v l2_2)]), (b_1, [(Sl.v g0_1)])] ∧
  (t14_1 = true →
  callM P 141 #[(Value.agg #[(Sl.v g0_1)]), (Sl.v l2_2)] h_4 fun rv_3 h_5 => ∃ t20_1 : Bool, rv_3 = (VB t20_1) ∧ Vars h_5 [(b_2, [(Sl.v l2_1), (Sl.v l2_2)]), (b_1, [(Sl.v g0_1)])] ∧
  (t20_1 = true →
  callM P 92 #[(Sl.v l2_2)] h_5 fun rv_4 h_6 => ∃ t25_1 : Int, rv_4 = (VI t25_1) ∧ Vars h_6 [(b_2, [(Sl.v l2_1), (Sl.v l2_2)]), (b_1, [(Sl.v g0_1)])] ∧
  K (VB (decide (t25_1 ≤ 20))) h_6) ∧
  (t20_1 = false →
  K (VB false) h_5)) ∧
  (t14_1 = false →
  K (VB false) h_4)) ∧
  (t9_1 = false →
  K (VB false) h_3)
theorem v79 (g0_1 : Sl) (sink1_1 : Int) (l2_1 : Sl) (l2_2 : Sl) (h : Heap) (K : Value → Heap → Prop) (H : u79 Try.prog g0_1 sink1_1 l2_1 l2_2 h K) : callM Try.prog 79 #[(Value.agg #[(Sl.v g0_1)]), (VI sink1_1), (Value.agg #[(Sl.v l2_1), (Sl.v l2_2)])] h K := by
  refine c79 (Value.agg #[(Sl.v g0_1)]) (VI sink1_1) (Value.agg #[(Sl.v l2_1), (Sl.v l2_2)]) h K ?_
  unfold u79 at H
  unfold t79
  have hL : Vars h [] := .nil
  refine eop_box 32 (Value.agg #[(Sl.v g0_1)]) rfl hL (fun b_1 h_1 hb_1 hf_1 hL_1 => ?_)
  refine eop_box 34 (Value.agg #[(Sl.v l2_1), (Sl.v l2_2)]) rfl hL_1 (fun b_2 h_2 hb_2 hf_2 hL_2 => ?_)
  refine rop_locA agg32 hL_2 1 rfl 0 (vs := [(Sl.v g0_1)]) rfl rfl ?_
  have H := H b_1 b_2 h_2 (Nat.le_trans (Fr.size (Fr.r (In []) _)) hb_1) (Nat.le_trans (Fr.size (Fr.no' (Fr.r (In []) _) hf_1)) hb_2) (Fr.no' (Fr.no' (Fr.r (In []) _) hf_1) hf_2) hL_2
  refine H.mono fun rv_1 h_3 H => ?_
  obtain ⟨t9_1, rfl, hL_3, H⟩ := H
  refine guardM_st (fun hb_3 => ?_) (fun hb_3 => ?_)
  · have H := H.1 hb_3
    refine rop_locA agg32 hL_3 1 rfl 0 (vs := [(Sl.v g0_1)]) rfl rfl ?_
    refine guardM_y' hb_3 ?_
    refine pop_field 0 fld34_0 b_2 0 ?_
    refine guardM_y' hb_3 ?_
    refine rop_loc one25 hL_3 0 rfl 0 (v := (Sl.v l2_1)) rfl ?_
    refine guardM_y' hb_3 ?_
    refine H.mono fun rv_2 h_4 H => ?_
    obtain ⟨t14_1, rfl, hL_4, H⟩ := H
    refine pop_pickt' hb_3 ?_
    refine guardM_st (fun hb_4 => ?_) (fun hb_4 => ?_)
    · have H := H.1 hb_4
      refine rop_locA agg32 hL_4 1 rfl 0 (vs := [(Sl.v g0_1)]) rfl rfl ?_
      refine guardM_y' hb_4 ?_
      refine pop_field 1 fld34_1 b_2 0 ?_
      refine guardM_y' hb_4 ?_
      refine rop_loc one25 hL_4 0 rfl 1 (v := (Sl.v l2_2)) rfl ?_
      refine guardM_y' hb_4 ?_
      refine H.mono fun rv_3 h_5 H => ?_
      obtain ⟨t20_1, rfl, hL_5, H⟩ := H
      refine pop_pickt' hb_4 ?_
      refine guardM_st (fun hb_5 => ?_) (fun hb_5 => ?_)
      · have H := H.1 hb_5
        refine pop_field 1 fld34_1 b_2 0 ?_
        refine guardM_y' hb_5 ?_
        refine rop_loc one25 hL_5 0 rfl 1 (v := (Sl.v l2_2)) rfl ?_
        refine guardM_y' hb_5 ?_
        refine H.mono fun rv_4 h_6 H => ?_
        obtain ⟨t25_1, rfl, hL_6, H⟩ := H
        refine guardM_y' hb_5 ?_
        refine pop_leq .i64 t25_1 20 ?_
        refine pop_pickt' hb_5 ?_
        exact H
      · have H := H.2 hb_5
        refine guardM_n' hb_5 (by decide) ?_
        refine guardM_n' hb_5 (by decide) ?_
        refine guardM_n' hb_5 (by decide) ?_
        refine pop_pickf' hb_5 ?_
        exact H
    · have H := H.2 hb_4
      refine guardM_n' hb_4 (by decide) ?_
      refine guardM_n' hb_4 (by decide) ?_
      refine guardM_n' hb_4 (by decide) ?_
      refine pop_pickf' hb_4 ?_
      refine guardM_n (by decide) ?_
      refine guardM_n (by decide) ?_
      refine guardM_n (by decide) ?_
      refine guardM_n (by decide) ?_
      refine pop_pickf _ _ ?_
      exact H
  · have H := H.2 hb_3
    refine guardM_n' hb_3 (by decide) ?_
    refine guardM_n' hb_3 (by decide) ?_
    refine guardM_n' hb_3 (by decide) ?_
    refine pop_pickf' hb_3 ?_
    refine guardM_n (by decide) ?_
    refine guardM_n (by decide) ?_
    refine guardM_n (by decide) ?_
    refine guardM_n (by decide) ?_
    refine pop_pickf _ _ ?_
    refine guardM_n (by decide) ?_
    refine guardM_n (by decide) ?_
    refine guardM_n (by decide) ?_
    refine guardM_n (by decide) ?_
    refine pop_pickf _ _ ?_
    exact H

/-! (impl.Load).copied -/
def u80 (P : Program) (l0_1 : Sl) (l0_2 : Sl) (h : Heap) (K : Value → Heap → Prop) : Prop :=
  ∀ (b_1 : Nat) (b_2 : Nat) (h_2 : Heap), h.size ≤ b_1 → h.size ≤ b_2 → Fr (In []) h h_2 → Vars h_2 [(b_2, [(Sl.v nilSl), (Sl.v nilSl)]), (b_1, [(Sl.v l0_1), (Sl.v l0_2)])] →
  callM P 142 #[(Sl.v l0_1)] h_2 fun rv_1 h_3 => ∃ t5_1 : Sl, rv_1 = (Sl.v t5_1) ∧ Vars h_3 [(b_2, [(Sl.v nilSl), (Sl.v nilSl)]), (b_1, [(Sl.v l0_1), (Sl.v l0_2)])] ∧
  callM P 142 #[(Sl.v l0_2)] h_3 fun rv_2 h_4 => ∃ t8_1 : Sl, rv_2 = (Sl.v t8_1) ∧ Vars h_4 [(b_2, [(Sl.v nilSl), (Sl.v nilSl)]), (b_1, [(Sl.v l0_1), (Sl.v l0_2)])] ∧
  ∀ (h_5 : Heap), Fr (In [b_2]) h_4 h_5 → Vars h_5 [(b_2, [(Sl.v t5_1), (Sl.v t8_1)]), (b_1, [(Sl.v l0_1), (Sl.v l0_2)])] →
  K (Value.agg #[(Sl.v t5_1), (Sl.v t8_1)]) h_5
theorem v80 (l0_1 : Sl) (l0_2 : Sl) (h : Heap) (K : Value → Heap → Prop) (H : u80 Try.prog l0_1 l0_2 h K) : callM Try.prog 80 #[(Value.agg #[(Sl.v l0_1), (Sl.v l0_2)])] h K := by
  refine c80 (Value.agg #[(Sl.v l0_1), (Sl.v l0_2)]) h K ?_
  unfold u80 at H
  unfold t80
  have hL : Vars h [] := .nil
  refine eop_box 34 (Value.agg #[(Sl.v l0_1), (Sl.v l0_2)]) rfl hL (fun b_1 h_1 hb_1 hf_1 hL_1 => ?_)
  refine eop_alloc 34 zer34 rfl hL_1 (fun b_2 h_2 hb_2 hf_2 hL_2 => ?_)
  refine pop_field 0 fld34_0 b_1 0 ?_
  refine rop_loc one25 hL_2 1 rfl 0 (v := (Sl.v l0_1)) rfl ?_
  refine pop_field 1 fld34_1 b_1 0 ?_
  refine rop_loc one25 hL_2 1 rfl 1 (v := (Sl.v l0_2)) rfl ?_
  have H := H b_1 b_2 h_2 (Nat.le_trans (Fr.size (Fr.r (In []) _)) hb_1) (Nat.le_trans (Fr.size (Fr.no' (Fr.r (In []) _) hf_1)) hb_2) (Fr.no' (Fr.no' (Fr.r (In []) _) hf_1) hf_2) hL_2
  refine H.mono fun rv_1 h_3 H => ?_
  obtain ⟨t5_1, rfl, hL_3, H⟩ := H
  refine ⟨?_, ?_⟩
  · exact still_loc one25 hL_3 1 rfl 1 (v := (Sl.v l0_2)) rfl
  refine H.mono fun rv_2 h_4 H => ?_
  obtain ⟨t8_1, rfl, hL_4, H⟩ := H
  refine pop.mk' (v := (Value.agg #[(Sl.v t5_1), (Sl.v t8_1)])) (fun w => by kernel_rfl) ?_
  refine uop_loc siz34 hL_4 0 rfl 0 [(Sl.v t5_1), (Sl.v t8_1)] rfl rfl rfl (Nat.le_of_ble_eq_true rfl) (L' := [(b_2, [(Sl.v t5_1), (Sl.v t8_1)]), (b_1, [(Sl.v l0_1), (Sl.v l0_2)])]) rfl (fun h_5 hf_3 hL_5 => ?_)
  refine rop_locA agg34 hL_5 0 rfl 0 (vs := [(Sl.v t5_1), (Sl.v t8_1)]) rfl rfl ?_
  have H := H  h_5  (Fr.old (Fr.r (In []) _) hf_3) hL_5
  exact H

/-! (*impl.Load).end -/
def u81 (P : Program) (b_1 : Nat) (l0_1 : Sl) (l0_2 : Sl) (g1_1 : Sl) (sink2_1 : Int) (choices3_1 : Sl) (h : Heap) (K : Value → Heap → Prop) : Prop :=
  ∀ (b_2 : Nat) (h_1 : Heap), h.size ≤ b_2 → Fr (In []) h h_1 → Vars h_1 [(b_2, [(Sl.v g1_1)]), (b_1, [(Sl.v l0_1), (Sl.v l0_2)])] →
  eop P (Instr.makeSlice 25 (VI (g1_1.n : Int)) (VI (g1_1.n : Int))) h_1 fun rv_1 h_2 => ∃ t17_1 : Sl, rv_1 = (Sl.v t17_1) ∧ Vars h_2 [(b_2, [(Sl.v g1_1)]), (b_1, [(Sl.v l0_1), (Sl.v l0_2)])] ∧
  ∃ J_1 : Nat → Int → Sl → Sl → Heap → Prop, (∃ n0 : Nat, J_1 n0 0 l0_1 l0_2 h_2) ∧
  ∀ (n_1 : Nat) (j11_1 : Int) (x_1 : Sl) (x_2 : Sl) (h_3 : Heap), J_1 n_1 j11_1 x_1 x_2 h_3 → Vars h_3 [(b_2, [(Sl.v g1_1)]), (b_1, [(Sl.v x_1), (Sl.v x_2)])] →
  callM P 94 #[(VP b_1 0), (VI sink2_1)] h_3 fun rv_2 h_4 => ∃ x_3 : Sl, ∃ x_4 : Sl, ∃ t22_1 : Sl, rv_2 = (Sl.v t22_1) ∧ Vars h_4 [(b_2, [(Sl.v g1_1)]), (b_1, [(Sl.v x_3), (Sl.v x_4)])] ∧
  ((decide ((t22_1.n : Int) = 0)) = true →
  K (Value.tuple #[(Sl.v t17_1), (VB true)]) h_4) ∧
  ((decide ((t22_1.n : Int) = 0)) = false →
  ((decide (j11_1 = 4000)) = true →
  K (Value.tuple #[(Sl.v nilSl), (VB false)]) h_4) ∧
  ((decide (j11_1 = 4000)) = false →
  InB t22_1 0 ∧
  ∃ t31_1 : Int, hcell h_4 (Sl.at t22_1 0 1) = some (VI t31_1) ∧
  ∃ J_2 : Int → Heap → Prop, (((decide (j11_1 < (choices3_1.n : Int))) = true →
  InB choices3_1 j11_1 ∧
  ∃ t40_1 : Int, hcell h_4 (Sl.at choices3_1 j11_1 1) = some (VI t40_1) ∧
  (t22_1.n : Int) ≠ 0 ∧
  InB t22_1 (Int.tmod t40_1 (t22_1.n : Int)) ∧
  ∃ t45_1 : Int, hcell h_4 (Sl.at t22_1 (Int.tmod t40_1 (t22_1.n : Int)) 1) = some (VI t45_1) ∧
  J_2 t45_1 h_4) ∧
  ((decide (j11_1 < (choices3_1.n : Int))) = false →
  J_2 t31_1 h_4)) ∧
  ∀ (x_5 : Int) (h_5 : Heap), J_2 x_5 h_5 → Vars h_5 [(b_2, [(Sl.v g1_1)]), (b_1, [(Sl.v x_3), (Sl.v x_4)])] →
  callM P 143 #[(VP b_1 0), (Value.agg #[(Sl.v g1_1)]), (VI x_5)] h_5 fun rv_3 h_6 => ∃ x_6 : Sl, ∃ x_7 : Sl, Vars h_6 [(b_2, [(Sl.v g1_1)]), (b_1, [(Sl.v x_6), (Sl.v x_7)])] ∧
  InB t17_1 x_5 ∧
  ∃ t53_1 : Int, hcell h_6 (Sl.at t17_1 x_5 1) = some (VI t53_1) ∧
  InB t17_1 x_5 ∧
  Writable h_6 (Sl.at t17_1 x_5 1) ∧ Vars (hset h_6 (Sl.at t17_1 x_5 1) (VI (w64 (t53_1 + 1)))) [(b_2, [(Sl.v g1_1)]), (b_1, [(Sl.v x_6), (Sl.v x_7)])] ∧
  ∀ h_7 : Heap, h_7 = hset h_6 (Sl.at t17_1 x_5 1) (VI (w64 (t53_1 + 1))) → Vars h_7 [(b_2, [(Sl.v g1_1)]), (b_1, [(Sl.v x_6), (Sl.v x_7)])] →
  ∃ m : Nat, m < n_1 ∧ J_1 m (w64 (j11_1 + 1)) x_6 x_7 h_7))
theorem v81 (b_1 : Nat) (l0_1 : Sl) (l0_2 : Sl) (g1_1 : Sl) (sink2_1 : Int) (choices3_1 : Sl) (h : Heap) (K : Value → Heap → Prop) (hL : Vars h [(b_1, [(Sl.v l0_1), (Sl.v l0_2)])]) (H : u81 Try.prog b_1 l0_1 l0_2 g1_1 sink2_1 choices3_1 h K) : callM Try.prog 81 #[(VP b_1 0), (Value.agg #[(Sl.v g1_1)]), (VI sink2_1), (Sl.v choices3_1)] h K := by
  refine c81 (VP b_1 0) (Value.agg #[(Sl.v g1_1)]) (VI sink2_1) (Sl.v choices3_1) h K ?_
  unfold u81 at H
  unfold t81
  refine eop_box 32 (Value.agg #[(Sl.v g1_1)]) rfl hL (fun b_2 h_1 hb_1 hf_1 hL_1 => ?_)
  refine pop_field 0 fld32_0 b_2 0 ?_
  refine rop_loc one22 hL_1 0 rfl 0 (v := (Sl.v g1_1)) rfl ?_
  refine pop_len g1_1 _ _ sli22 ?_
  have H := H b_2 h_1 (Nat.le_trans (Fr.size (Fr.r (In []) _)) hb_1) (Fr.no' (Fr.r (In []) _) hf_1) hL_1
  refine H.mono fun rv_1 h_2 H => ?_
  obtain ⟨t17_1, rfl, hL_2, H⟩ := H
  obtain ⟨J_1, ⟨n_2, h0_1⟩, HB_2⟩ := H
  refine loop_intro (J := fun (n : Nat) (vs : List Value) (h' : Heap) => ∃ j11_1 : Int, ∃ x_1 : Sl, ∃ x_2 : Sl, vs = [(VI j11_1)] ∧ J_1 n j11_1 x_1 x_2 h' ∧ Vars h' [(b_2, [(Sl.v g1_1)]), (b_1, [(Sl.v x_1), (Sl.v x_2)])]) n_2 ⟨0, l0_1, l0_2, rfl, h0_1, hL_2⟩ ?_
  intro I_1 mu_1 hI_1 junk_1 tv_2 h_3 hi_1
  obtain ⟨n_1, ⟨j11_1, x_1, x_2, hv, hJ_1, hL_3⟩, hn_1⟩ := hI_1 _ _ hi_1
  cases hv
  have H := HB_2 n_1 j11_1 x_1 x_2 h_3 hJ_1 hL_3
  refine H.mono fun rv_2 h_4 H => ?_
  obtain ⟨x_3, x_4, t22_1, rfl, hL_4, H⟩ := H
  refine pop_len t22_1 _ _ sli25 ?_
  refine pop_ieq .i64 _ _ (t22_1.n : Int) 0 ?_
  refine condM_b (fun hb_2 => ?_) (fun hb_2 => ?_)
  · have H := H.1 hb_2
    exact H
  · have H := H.2 hb_2
    refine pop_ieq .i64 _ _ j11_1 4000 ?_
    refine condM_b (fun hb_3 => ?_) (fun hb_3 => ?_)
    · have H := H.1 hb_3
      exact H
    · have H := H.2 hb_3
      obtain ⟨hi_2, H⟩ := H
      refine pop_index sli25 siz3 .i64 t22_1 0 hi_2 ?_
      obtain ⟨t31_1, hc_4, H⟩ := H
      refine rop_one one3 (VI t31_1) hc_4 ?_
      obtain ⟨J_2, H, HB_1⟩ := H
      refine ⟨fun (vs : List Value) (h' : Heap) => ∃ x_5 : Int, vs = [(VI x_5)] ∧ J_2 x_5 h' ∧ Vars h' [(b_2, [(Sl.v g1_1)]), (b_1, [(Sl.v x_3), (Sl.v x_4)])], ?_, ?_⟩
      · refine pop_len choices3_1 _ _ sli25 ?_
        refine pop_lss .i64 j11_1 (choices3_1.n : Int) ?_
        refine condM_b (fun hb_4 => ?_) (fun hb_4 => ?_)
        · have H := H.1 hb_4
          obtain ⟨hi_3, H⟩ := H
          refine pop_index sli25 siz3 .i64 choices3_1 j11_1 hi_3 ?_
          obtain ⟨t40_1, hc_2, H⟩ := H
          refine rop_one one3 (VI t40_1) hc_2 ?_
          refine pop_len t22_1 _ _ sli25 ?_
          obtain ⟨hz_1, H⟩ := H
          refine pop_rem .i64 t40_1 (t22_1.n : Int) hz_1 ?_
          obtain ⟨hi_4, H⟩ := H
          refine pop_index sli25 siz3 .i64 t22_1 (Int.tmod t40_1 (t22_1.n : Int)) hi_4 ?_
          obtain ⟨t45_1, hc_1, H⟩ := H
          refine rop_one one3 (VI t45_1) hc_1 ?_
          exact ⟨t45_1, rfl, H, hL_4⟩
        · have H := H.2 hb_4
          exact ⟨t31_1, rfl, H, hL_4⟩
      intro junk_2 tv_1 h_5
      rintro ⟨x_5, hv, hJ_2, hL_5⟩
      cases hv
      have H := HB_1 x_5 h_5 hJ_2 hL_5
      refine rop_locA agg32 hL_5 0 rfl 0 (vs := [(Sl.v g1_1)]) rfl rfl ?_
      refine H.mono fun rv_3 h_6 H => ?_
      obtain ⟨x_6, x_7, hL_6, H⟩ := H
      obtain ⟨hi_5, H⟩ := H
      refine pop_index sli25 siz3 .i64 t17_1 x_5 hi_5 ?_
      obtain ⟨t53_1, hc_3, H⟩ := H
      refine rop_one one3 (VI t53_1) hc_3 ?_
      refine pop_add .i64 t53_1 1 ?_
      obtain ⟨hi_6, H⟩ := H
      refine pop_index sli25 siz3 .i64 t17_1 x_5 hi_6 ?_
      obtain ⟨hw_1, hL_7, H⟩ := H
      refine uop_cell (v := (VI (w64 (t53_1 + 1)))) siz3 hw_1 rfl (fun h_7 he_1 => ?_)
      rw [← he_1] at hL_7
      have H := H h_7 he_1 hL_7
      refine pop_add .i64 j11_1 1 ?_
      obtain ⟨m_1, hm_1, H⟩ := H
      exact hn_1 _ _ ⟨m_1, hm_1, (w64 (j11_1 + 1)), x_6, x_7, rfl, H, hL_7⟩

/-! impl.isGraph -/
def u88 (P : Program) (g0_1 : Sl) (h : Heap) (K : Value → Heap → Prop) : Prop :=
  ∀ (b_1 : Nat) (b_2 : Nat) (h_3 : Heap), h.size ≤ b_1 → h.size ≤ b_2 → Fr (In []) h h_3 → Vars h_3 [(b_2, [(VI (g0_1.n : Int))]), (b_1, [(Sl.v g0_1)])] →
  callM P 113 #[(VI (g0_1.n : Int)), (VI 1), (VI 8)] h_3 fun rv_1 h_4 => ∃ t10_1 : Bool, rv_1 = (VB t10_1) ∧ Vars h_4 [(b_2, [(VI (g0_1.n : Int))]), (b_1, [(Sl.v g0_1)])] ∧
  ((!t10_1) = true →
  K (VB false) h_4) ∧
  ((!t10_1) = false →
  ∃ J_1 : Nat → Int → Int → Heap → Prop, (∃ n0 : Nat, J_1 n0 0 (g0_1.n : Int) h_4) ∧
  ∀ (n_1 : Nat) (t15_1 : Int) (x_1 : Int) (h_5 : Heap), J_1 n_1 t15_1 x_1 h_5 → Vars h_5 [(b_2, [(VI x_1)]), (b_1, [(Sl.v g0_1)])] →
  ((decide (t15_1 < (g0_1.n : Int))) = true →
  InB g0_1 t15_1 ∧
  ∃ t18_1 : Sl, hcell h_5 (Sl.at g0_1 t15_1 1) = some (Sl.v t18_1) ∧
  ((decide (5 < (t18_1.n : Int))) = true →
  K (VB false) h_5) ∧
  ((decide (5 < (t18_1.n : Int))) = false →
  callM P 102 #[(Sl.v t18_1), (Value.func (Fn.func 150) #[] #[(VP b_2 0)])] h_5 fun rv_2 h_6 => ∃ x_2 : Int, ∃ t25_1 : Bool, rv_2 = (VB t25_1) ∧ Vars h_6 [(b_2, [(VI x_2)]), (b_1, [(Sl.v g0_1)])] ∧
  (t25_1 = true →
  K (VB false) h_6) ∧
  (t25_1 = false →
  ∃ m : Nat, m < n_1 ∧ J_1 m (w64 (t15_1 + 1)) x_2 h_6))) ∧
  ((decide (t15_1 < (g0_1.n : Int))) = false →
  K (VB true) h_5))
theorem v88 (g0_1 : Sl) (h : Heap) (K : Value → Heap → Prop) (H : u88 Try.prog g0_1 h K) : callM Try.prog 88 #[(Value.agg #[(Sl.v g0_1)])] h K := by
  refine c88 (Value.agg #[(Sl.v g0_1)]) h K ?_
  unfold u88 at H
  unfold t88
  have hL : Vars h [] := .nil
  refine eop_box 32 (Value.agg #[(Sl.v g0_1)]) rfl hL (fun b_1 h_1 hb_1 hf_1 hL_1 => ?_)
  refine pop_field 0 fld32_0 b_1 0 ?_
  refine rop_loc one22 hL_1 0 rfl 0 (v := (Sl.v g0_1)) rfl ?_
  refine pop_len g0_1 _ _ sli22 ?_
  refine eop_alloc 3 zer3 rfl hL_1 (fun b_2 h_2 hb_2 hf_2 hL_2 => ?_)
  refine uop_loc siz3 hL_2 0 rfl 0 [(VI (g0_1.n : Int))] rfl rfl rfl (Nat.le_of_ble_eq_true rfl) (L' := [(b_2, [(VI (g0_1.n : Int))]), (b_1, [(Sl.v g0_1)])]) rfl (fun h_3 hf_3 hL_3 => ?_)
  refine rop_loc one3 hL_3 0 rfl 0 (v := (VI (g0_1.n : Int))) rfl ?_
  have H := H b_1 b_2 h_3 (Nat.le_trans (Fr.size (Fr.r (In []) _)) hb_1) (Nat.le_trans (Fr.size (Fr.no' (Fr.r (In []) _) hf_1)) hb_2) (Fr.new (Fr.no' (Fr.no' (Fr.r (In []) _) hf_1) hf_2) (Nat.le_trans (Fr.size (Fr.no' (Fr.r (In []) _) hf_1)) hb_2) hf_3) hL_3
  refine H.mono fun rv_1 h_4 H => ?_
  obtain ⟨t10_1, rfl, hL_4, H⟩ := H
  refine pop_not t10_1 ?_
  refine condM_b (fun hb_3 => ?_) (fun hb_3 => ?_)
  · have H := H.1 hb_3
    exact H
  · have H := H.2 hb_3
    refine pop_field 0 fld32_0 b_1 0 ?_
    refine rop_loc one22 hL_4 1 rfl 0 (v := (Sl.v g0_1)) rfl ?_
    refine pop_len g0_1 _ _ sli22 ?_
    obtain ⟨J_1, ⟨n_2, h0_1⟩, HB_1⟩ := H
    refine loop_intro (J := fun (n : Nat) (vs : List Value) (h' : Heap) => ∃ t15_1 : Int, ∃ x_1 : Int, vs = [(VI t15_1)] ∧ J_1 n t15_1 x_1 h' ∧ Vars h' [(b_2, [(VI x_1)]), (b_1, [(Sl.v g0_1)])]) n_2 ⟨0, (g0_1.n : Int), rfl, h0_1, hL_4⟩ ?_
    intro I_1 mu_1 hI_1 junk_1 tv_1 h_5 hi_1
    obtain ⟨n_1, ⟨t15_1, x_1, hv, hJ_1, hL_5⟩, hn_1⟩ := hI_1 _ _ hi_1
    cases hv
    have H := HB_1 n_1 t15_1 x_1 h_5 hJ_1 hL_5
    refine pop_lss .i64 t15_1 (g0_1.n : Int) ?_
    refine condM_b (fun hb_4 => ?_) (fun hb_4 => ?_)
    · have H := H.1 hb_4
      obtain ⟨hi_2, H⟩ := H
      refine pop_index sli22 siz25 .i64 g0_1 t15_1 hi_2 ?_
      obtain ⟨t18_1, hc_1, H⟩ := H
      refine rop_one one25 (Sl.v t18_1) hc_1 ?_
      refine pop_len t18_1 _ _ sli25 ?_
      refine pop_gtr .i64 (t18_1.n : Int) 5 ?_
      refine guardM_sf (fun hb_5 => ?_) (fun hb_5 => ?_)
      · have H := H.2 hb_5
        refine guardM_y' hb_5 ?_
        refine pop_func _ _ _ ?_
        refine guardM_y' hb_5 ?_
        refine H.mono fun rv_2 h_6 H => ?_
        obtain ⟨x_2, t25_1, rfl, hL_6, H⟩ := H
        refine pop_pickf' hb_5 ?_
        refine condM_b (fun hb_6 => ?_) (fun hb_6 => ?_)
        · have H := H.1 hb_6
          exact H
        · have H := H.2 hb_6
          refine pop_add .i64 t15_1 1 ?_
          obtain ⟨m_1, hm_1, H⟩ := H
          exact hn_1 _ _ ⟨m_1, hm_1, (w64 (t15_1 + 1)), x_2, rfl, H, hL_6⟩
      · have H := H.1 hb_5
        refine guardM_n' hb_5 (by decide) ?_
        refine guardM_n' hb_5 (by decide) ?_
        refine pop_pickt' hb_5 ?_
        refine condM_t ?_
        exact H
    · have H := H.2 hb_4
      exact H

/-! impl.sum -/
def u92 (P : Program) (list0_1 : Sl) (h : Heap) (K : Value → Heap → Prop) : Prop :=
  ∃ J_1 : Nat → Int → Int → Heap → Prop, (∃ n0 : Nat, J_1 n0 0 0 h) ∧
  ∀ (n_1 : Nat) (out3_1 : Int) (t8_1 : Int) (h_1 : Heap), J_1 n_1 out3_1 t8_1 h_1 → Vars h_1 [] →
  ((decide (t8_1 < (list0_1.n : Int))) = true →
  InB list0_1 t8_1 ∧
  ∃ t11_1 : Int, hcell h_1 (Sl.at list0_1 t8_1 1) = some (VI t11_1) ∧
  ∃ m : Nat, m < n_1 ∧ J_1 m (w64 (out3_1 + t11_1)) (w64 (t8_1 + 1)) h_1) ∧
  ((decide (t8_1 < (list0_1.n : Int))) = false →
  K (VI out3_1) h_1)
theorem v92 (list0_1 : Sl) (h : Heap) (K : Value → Heap → Prop) (H : u92 Try.prog list0_1 h K) : callM Try.prog 92 #[(Sl.v list0_1)] h K := by
  refine c92 (Sl.v list0_1) h K ?_
  unfold u92 at H
  unfold t92
  have hL : Vars h [] := .nil
  refine pop_len list0_1 _ _ sli25 ?_
  obtain ⟨J_1, ⟨n_2, h0_1⟩, HB_1⟩ := H
  refine loop_intro (J := fun (n : Nat) (vs : List Value) (h' : Heap) => ∃ out3_1 : Int, ∃ t8_1 : Int, vs = [(VI out3_1), (VI t8_1)] ∧ J_1 n out3_1 t8_1 h' ∧ Vars h' []) n_2 ⟨0, 0, rfl, h0_1, hL⟩ ?_
  intro I_1 mu_1 hI_1 junk_1 tv_1 tv_2 h_1 hi_1
  obtain ⟨n_1, ⟨out3_1, t8_1, hv, hJ_1, hL_1⟩, hn_1⟩ := hI_1 _ _ hi_1
  cases hv
  have H := HB_1 n_1 out3_1 t8_1 h_1 hJ_1 hL_1
  refine pop_lss .i64 t8_1 (list0_1.n : Int) ?_
  refine condM_b (fun hb_1 => ?_) (fun hb_1 => ?_)
  · have H := H.1 hb_1
    obtain ⟨hi_2, H⟩ := H
    refine pop_index sli25 siz3 .i64 list0_1 t8_1 hi_2 ?_
    obtain ⟨t11_1, hc_1, H⟩ := H
    refine rop_one one3 (VI t11_1) hc_1 ?_
    refine pop_add .i64 out3_1 t11_1 ?_
    refine pop_add .i64 t8_1 1 ?_
    obtain ⟨m_1, hm_1, H⟩ := H
    exact hn_1 _ _ ⟨m_1, hm_1, (w64 (out3_1 + t11_1)), (w64 (t8_1 + 1)), rfl, H, hL_1⟩
  · have H := H.2 hb_1
    exact H

/-! impl.force -/
def u93 (P : Program) (g0_1 : Sl) (sink1_1 : Int) (l2_1 : Sl) (l2_2 : Sl) (counts3_1 : Sl) (h : Heap) (K : Value → Heap → Prop) : Prop :=
  ∀ (b_1 : Nat) (b_2 : Nat) (b_3 : Nat) (h_3 : Heap), h.size ≤ b_1 → h.size ≤ b_2 → h.size ≤ b_3 → Fr (In []) h h_3 → Vars h_3 [(b_3, [(Sl.v nilSl), (Sl.v nilSl)]), (b_2, [(Sl.v l2_1), (Sl.v l2_2)]), (b_1, [(Sl.v g0_1)])] →
  callM P 79 #[(Value.agg #[(Sl.v g0_1)]), (VI sink1_1), (Value.agg #[(Sl.v l2_1), (Sl.v l2_2)])] h_3 fun rv_1 h_4 => ∃ t16_1 : Bool, rv_1 = (VB t16_1) ∧ Vars h_4 [(b_3, [(Sl.v nilSl), (Sl.v nilSl)]), (b_2, [(Sl.v l2_1), (Sl.v l2_2)]), (b_1, [(Sl.v g0_1)])] ∧
  ((!t16_1) = true →
  ∀ (h_16 : Heap), Fr (In [b_3]) h_4 h_16 → Vars h_16 [(b_3, [(Sl.v nilSl), (Sl.v nilSl)]), (b_2, [(Sl.v l2_1), (Sl.v l2_2)]), (b_1, [(Sl.v g0_1)])] →
  K (Value.tuple #[(Value.agg #[(Sl.v nilSl), (Sl.v nilSl)]), (VB false)]) h_16) ∧
  ((!t16_1) = false →
  ((!decide ((counts3_1.n : Int) = (g0_1.n : Int))) = true →
  ∀ (h_15 : Heap), Fr (In [b_3]) h_4 h_15 → Vars h_15 [(b_3, [(Sl.v nilSl), (Sl.v nilSl)]), (b_2, [(Sl.v l2_1), (Sl.v l2_2)]), (b_1, [(Sl.v g0_1)])] →
  K (Value.tuple #[(Value.agg #[(Sl.v nilSl), (Sl.v nilSl)]), (VB false)]) h_15) ∧
  ((!decide ((counts3_1.n : Int) = (g0_1.n : Int))) = false →
  InB counts3_1 sink1_1 ∧
  ∃ t30_1 : Int, hcell h_4 (Sl.at counts3_1 sink1_1 1) = some (VI t30_1) ∧
  ((!decide (t30_1 = 0)) = true →
  ∀ (h_14 : Heap), Fr (In [b_3]) h_4 h_14 → Vars h_14 [(b_3, [(Sl.v nilSl), (Sl.v nilSl)]), (b_2, [(Sl.v l2_1), (Sl.v l2_2)]), (b_1, [(Sl.v g0_1)])] →
  K (Value.tuple #[(Value.agg #[(Sl.v nilSl), (Sl.v nilSl)]), (VB false)]) h_14) ∧
  ((!decide (t30_1 = 0)) = false →
  callM P 102 #[(Sl.v counts3_1), (Value.func (.func 155) #[] #[])] h_4 fun rv_2 h_5 => ∃ t35_1 : Bool, rv_2 = (VB t35_1) ∧ Vars h_5 [(b_3, [(Sl.v nilSl), (Sl.v nilSl)]), (b_2, [(Sl.v l2_1), (Sl.v l2_2)]), (b_1, [(Sl.v g0_1)])] ∧
  (t35_1 = true →
  ∀ (h_6 : Heap), Fr (In [b_3]) h_5 h_6 → Vars h_6 [(b_3, [(Sl.v nilSl), (Sl.v nilSl)]), (b_2, [(Sl.v l2_1), (Sl.v l2_2)]), (b_1, [(Sl.v g0_1)])] →
  K (Value.tuple #[(Value.agg #[(Sl.v nilSl), (Sl.v nilSl)]), (VB false)]) h_6) ∧
  (t35_1 = false →
  callM P 80 #[(Value.agg #[(Sl.v l2_1), (Sl.v l2_2)])] h_5 fun rv_3 h_7 => ∃ t39_1 : Sl, ∃ t39_2 : Sl, rv_3 = (Value.agg #[(Sl.v t39_1), (Sl.v t39_2)]) ∧ Vars h_7 [(b_3, [(Sl.v nilSl), (Sl.v nilSl)]), (b_2, [(Sl.v l2_1), (Sl.v l2_2)]), (b_1, [(Sl.v g0_1)])] ∧
  ∀ (b_4 : Nat) (h_9 : Heap), h_7.size ≤ b_4 → Fr (In []) h_7 h_9 → Vars h_9 [(b_4, [(Sl.v t39_1), (Sl.v t39_2)]), (b_3, [(Sl.v nilSl), (Sl.v nilSl)]), (b_2, [(Sl.v l2_1), (Sl.v l2_2)]), (b_1, [(Sl.v g0_1)])] →
  ∃ J_1 : Nat → Int → Sl → Sl → Heap → Prop, (∃ n0 : Nat, J_1 n0 0 t39_1 t39_2 h_9) ∧
  ∀ (n_1 : Nat) (t42_1 : Int) (x_1 : Sl) (x_2 : Sl) (h_10 : Heap), J_1 n_1 t42_1 x_1 x_2 h_10 → Vars h_10 [(b_4, [(Sl.v x_1), (Sl.v x_2)]), (b_3, [(Sl.v nilSl), (Sl.v nilSl)]), (b_2, [(Sl.v l2_1), (Sl.v l2_2)]), (b_1, [(Sl.v g0_1)])] →
  ((decide (t42_1 < (counts3_1.n : Int))) = true →
  InB counts3_1 t42_1 ∧
  ∃ t46_1 : Int, hcell h_10 (Sl.at counts3_1 t42_1 1) = some (VI t46_1) ∧
  ∃ J_2 : Nat → Int → Sl → Sl → Heap → Prop, (∃ n0 : Nat, J_2 n0 0 x_1 x_2 h_10) ∧
  ∀ (n_2 : Nat) (t48_1 : Int) (x_3 : Sl) (x_4 : Sl) (h_11 : Heap), J_2 n_2 t48_1 x_3 x_4 h_11 → Vars h_11 [(b_4, [(Sl.v x_3), (Sl.v x_4)]), (b_3, [(Sl.v nilSl), (Sl.v nilSl)]), (b_2, [(Sl.v l2_1), (Sl.v l2_2)]), (b_1, [(Sl.v g0_1)])] →
  ((decide (t48_1 < t46_1)) = true →
  callM P 143 #[(VP b_4 0), (Value.agg #[(Sl.v g0_1)]), (VI t42_1)] h_11 fun rv_4 h_12 => ∃ x_5 : Sl, ∃ x_6 : Sl, Vars h_12 [(b_4, [(Sl.v x_5), (Sl.v x_6)]), (b_3, [(Sl.v nilSl), (Sl.v nilSl)]), (b_2, [(Sl.v l2_1), (Sl.v l2_2)]), (b_1, [(Sl.v g0_1)])] ∧
  ∃ m : Nat, m < n_2 ∧ J_2 m (w64 (t48_1 + 1)) x_5 x_6 h_12) ∧
  ((decide (t48_1 < t46_1)) = false →
  ∃ m : Nat, m < n_1 ∧ J_1 m (w64 (t42_1 + 1)) x_3 x_4 h_11)) ∧
  ((decide (t42_1 < (counts3_1.n : Int))) = false →
  ∀ (h_13 : Heap), Fr (In [b_3]) h_10 h_13 → Vars h_13 [(b_4, [(Sl.v x_1), (Sl.v x_2)]), (b_3, [(Sl.v x_1), (Sl.v x_2)]), (b_2, [(Sl.v l2_1), (Sl.v l2_2)]), (b_1, [(Sl.v g0_1)])] →
  K (Value.tuple #[(Value.agg #[(Sl.v x_1), (Sl.v x_2)]), (VB true)]) h_13)))))
theorem v93 (g0_1 : Sl) (sink1_1 : Int) (l2_1 : Sl) (l2_2 : Sl) (counts3_1 : Sl) (h : Heap) (K : Value → Heap → Prop) (H : u93 Try.prog g0_1 sink1_1 l2_1 l2_2 counts3_1 h K) : callM Try.prog 93 #[(Value.agg #[(Sl.v g0_1)]), (VI sink1_1), (Value.agg #[(Sl.v l2_1), (Sl.v l2_2)]), (Sl.v counts3_1)] h K := by
  refine c93 (Value.agg #[(Sl.v g0_1)]) (VI sink1_1) (Value.agg #[(Sl.v l2_1), (Sl.v l2_2)]) (Sl.v counts3_1) h K ?_
  unfold u93 at H
  unfold t93
  have hL : Vars h [] := .nil
  refine eop_box 32 (Value.agg #[(Sl.v g0_1)]) rfl hL (fun b_1 h_1 hb_1 hf_1 hL_1 => ?_)
  refine eop_box 34 (Value.agg #[(Sl.v l2_1), (Sl.v l2_2)]) rfl hL_1 (fun b_2 h_2 hb_2 hf_2 hL_2 => ?_)
  refine eop_alloc 34 zer34 rfl hL_2 (fun b_3 h_3 hb_3 hf_3 hL_3 => ?_)
  refine rop_locA agg32 hL_3 2 rfl 0 (vs := [(Sl.v g0_1)]) rfl rfl ?_
  refine rop_locA agg34 hL_3 1 rfl 0 (vs := [(Sl.v l2_1), (Sl.v l2_2)]) rfl rfl ?_
  have H := H b_1 b_2 b_3 h_3 (Nat.le_trans (Fr.size (Fr.r (In []) _)) hb_1) (Nat.le_trans (Fr.size (Fr.no' (Fr.r (In []) _) hf_1)) hb_2) (Nat.le_trans (Fr.size (Fr.no' (Fr.no' (Fr.r (In []) _) hf_1) hf_2)) hb_3) (Fr.no' (Fr.no' (Fr.no' (Fr.r (In []) _) hf_1) hf_2) hf_3) hL_3
  refine H.mono fun rv_1 h_4 H => ?_
  obtain ⟨t16_1, rfl, hL_4, H⟩ := H
  refine pop_not t16_1 ?_
  refine guardM_sf (fun hb_4 => ?_) (fun hb_4 => ?_)
  · have H := H.2 hb_4
    refine guardM_y' hb_4 ?_
    refine pop_len counts3_1 _ _ sli25 ?_
    refine guardM_y' hb_4 ?_
    refine pop_field 0 fld32_0 b_1 0 ?_
    refine guardM_y' hb_4 ?_
    refine rop_loc one22 hL_4 2 rfl 0 (v := (Sl.v g0_1)) rfl ?_
    refine guardM_y' hb_4 ?_
    refine pop_len g0_1 _ _ sli22 ?_
    refine guardM_y' hb_4 ?_
    refine pop_ine .i64 _ _ (counts3_1.n : Int) (g0_1.n : Int) ?_
    refine pop_pickf' hb_4 ?_
    refine guardM_sf (fun hb_5 => ?_) (fun hb_5 => ?_)
    · have H := H.2 hb_5
      refine guardM_y' hb_5 ?_
      refine guardM_y' hb_5 ?_
      obtain ⟨hi_1, H⟩ := H
      refine pop_index sli25 siz3 .i64 counts3_1 sink1_1 hi_1 ?_
      refine guardM_y' hb_5 ?_
      obtain ⟨t30_1, hc_2, H⟩ := H
      refine rop_one one3 (VI t30_1) hc_2 ?_
      refine guardM_y' hb_5 ?_
      refine pop_ine .i64 _ _ t30_1 0 ?_
      refine pop_pickf' hb_5 ?_
      refine guardM_sf (fun hb_6 => ?_) (fun hb_6 => ?_)
      · have H := H.2 hb_6
        refine guardM_y' hb_6 ?_
        refine H.mono fun rv_2 h_5 H => ?_
        obtain ⟨t35_1, rfl, hL_5, H⟩ := H
        refine pop_pickf' hb_6 ?_
        refine condM_b (fun hb_7 => ?_) (fun hb_7 => ?_)
        · have H := H.1 hb_7
          refine pop.mk' (v := (Value.agg #[(Sl.v nilSl), (Sl.v nilSl)])) (fun w => by kernel_rfl) ?_
          refine uop_loc siz34 hL_5 0 rfl 0 [(Sl.v nilSl), (Sl.v nilSl)] rfl rfl rfl (Nat.le_of_ble_eq_true rfl) (L' := [(b_3, [(Sl.v nilSl), (Sl.v nilSl)]), (b_2, [(Sl.v l2_1), (Sl.v l2_2)]), (b_1, [(Sl.v g0_1)])]) rfl (fun h_6 hf_4 hL_6 => ?_)
          refine rop_locA agg34 hL_6 0 rfl 0 (vs := [(Sl.v nilSl), (Sl.v nilSl)]) rfl rfl ?_
          have H := H  h_6  (Fr.old (Fr.r (In []) _) hf_4) hL_6
          exact H
        · have H := H.2 hb_7
          refine rop_locA agg34 hL_5 1 rfl 0 (vs := [(Sl.v l2_1), (Sl.v l2_2)]) rfl rfl ?_
          refine H.mono fun rv_3 h_7 H => ?_
          obtain ⟨t39_1, t39_2, rfl, hL_7, H⟩ := H
          refine eop_alloc 34 zer34 rfl hL_7 (fun b_4 h_8 hb_8 hf_5 hL_8 => ?_)
          refine uop_loc siz34 hL_8 0 rfl 0 [(Sl.v t39_1), (Sl.v t39_2)] rfl rfl rfl (Nat.le_of_ble_eq_true rfl) (L' := [(b_4, [(Sl.v t39_1), (Sl.v t39_2)]), (b_3, [(Sl.v nilSl), (Sl.v nilSl)]), (b_2, [(Sl.v l2_1), (Sl.v l2_2)]), (b_1, [(Sl.v g0_1)])]) rfl (fun h_9 hf_6 hL_9 => ?_)
          refine pop_len counts3_1 _ _ sli25 ?_
          have H := H b_4 h_9 (Nat.le_trans (Fr.size (Fr.r (In []) _)) hb_8) (Fr.new (Fr.no' (Fr.r (In []) _) hf_5) (Nat.le_trans (Fr.size (Fr.r (In []) _)) hb_8) hf_6) hL_9
          obtain ⟨J_1, ⟨n_4, h0_2⟩, HB_2⟩ := H
          refine loop_intro (J := fun (n : Nat) (vs : List Value) (h' : Heap) => ∃ t42_1 : Int, ∃ x_1 : Sl, ∃ x_2 : Sl, vs = [(VI t42_1)] ∧ J_1 n t42_1 x_1 x_2 h' ∧ Vars h' [(b_4, [(Sl.v x_1), (Sl.v x_2)]), (b_3, [(Sl.v nilSl), (Sl.v nilSl)]), (b_2, [(Sl.v l2_1), (Sl.v l2_2)]), (b_1, [(Sl.v g0_1)])]) n_4 ⟨0, t39_1, t39_2, rfl, h0_2, hL_9⟩ ?_
          intro I_2 mu_2 hI_2 junk_1 tv_2 h_10 hi_2
          obtain ⟨n_1, ⟨t42_1, x_1, x_2, hv, hJ_1, hL_10⟩, hn_1⟩ := hI_2 _ _ hi_2
          cases hv
          have H := HB_2 n_1 t42_1 x_1 x_2 h_10 hJ_1 hL_10
          refine pop_lss .i64 t42_1 (counts3_1.n : Int) ?_
          refine condM_b (fun hb_9 => ?_) (fun hb_9 => ?_)
          · have H := H.1 hb_9
            obtain ⟨hi_3, H⟩ := H
            refine pop_index sli25 siz3 .i64 counts3_1 t42_1 hi_3 ?_
            obtain ⟨t46_1, hc_1, H⟩ := H
            refine rop_one one3 (VI t46_1) hc_1 ?_
            obtain ⟨J_2, ⟨n_3, h0_1⟩, HB_1⟩ := H
            refine loop_intro (J := fun (n : Nat) (vs : List Value) (h' : Heap) => ∃ t48_1 : Int, ∃ x_3 : Sl, ∃ x_4 : Sl, vs = [(VI t48_1)] ∧ J_2 n t48_1 x_3 x_4 h' ∧ Vars h' [(b_4, [(Sl.v x_3), (Sl.v x_4)]), (b_3, [(Sl.v nilSl), (Sl.v nilSl)]), (b_2, [(Sl.v l2_1), (Sl.v l2_2)]), (b_1, [(Sl.v g0_1)])]) n_3 ⟨0, x_1, x_2, rfl, h0_1, hL_10⟩ ?_
            intro I_1 mu_1 hI_1 junk_2 tv_1 h_11 hi_4
            obtain ⟨n_2, ⟨t48_1, x_3, x_4, hv, hJ_2, hL_11⟩, hn_2⟩ := hI_1 _ _ hi_4
            cases hv
            have H := HB_1 n_2 t48_1 x_3 x_4 h_11 hJ_2 hL_11
            refine pop_lss .i64 t48_1 t46_1 ?_
            refine condM_b (fun hb_10 => ?_) (fun hb_10 => ?_)
            · have H := H.1 hb_10
              refine rop_locA agg32 hL_11 3 rfl 0 (vs := [(Sl.v g0_1)]) rfl rfl ?_
              refine H.mono fun rv_4 h_12 H => ?_
              obtain ⟨x_5, x_6, hL_12, H⟩ := H
              refine pop_add .i64 t48_1 1 ?_
              obtain ⟨m_1, hm_1, H⟩ := H
              exact hn_2 _ _ ⟨m_1, hm_1, (w64 (t48_1 + 1)), x_5, x_6, rfl, H, hL_12⟩
            · have H := H.2 hb_10
              refine pop_add .i64 t42_1 1 ?_
              obtain ⟨m_2, hm_2, H⟩ := H
              exact hn_1 _ _ ⟨m_2, hm_2, (w64 (t42_1 + 1)), x_3, x_4, rfl, H, hL_11⟩
          · have H := H.2 hb_9
            refine rop_locA agg34 hL_10 0 rfl 0 (vs := [(Sl.v x_1), (Sl.v x_2)]) rfl rfl ?_
            refine uop_loc siz34 hL_10 1 rfl 0 [(Sl.v x_1), (Sl.v x_2)] rfl rfl rfl (Nat.le_of_ble_eq_true rfl) (L' := [(b_4, [(Sl.v x_1), (Sl.v x_2)]), (b_3, [(Sl.v x_1), (Sl.v x_2)]), (b_2, [(Sl.v l2_1), (Sl.v l2_2)]), (b_1, [(Sl.v g0_1)])]) rfl (fun h_13 hf_7 hL_13 => ?_)
            refine rop_locA agg34 hL_13 1 rfl 0 (vs := [(Sl.v x_1), (Sl.v x_2)]) rfl rfl ?_
            have H := H  h_13  (Fr.old (Fr.r (In []) _) hf_7) hL_13
            exact H
      · have H := H.1 hb_6
        refine guardM_n' hb_6 (by decide) ?_
        refine pop_pickt' hb_6 ?_
        refine condM_t ?_
        refine pop.mk' (v := (Value.agg #[(Sl.v nilSl), (Sl.v nilSl)])) (fun w => by kernel_rfl) ?_
        refine uop_loc siz34 hL_4 0 rfl 0 [(Sl.v nilSl), (Sl.v nilSl)] rfl rfl rfl (Nat.le_of_ble_eq_true rfl) (L' := [(b_3, [(Sl.v nilSl), (Sl.v nilSl)]), (b_2, [(Sl.v l2_1), (Sl.v l2_2)]), (b_1, [(Sl.v g0_1)])]) rfl (fun h_14 hf_8 hL_14 => ?_)
        refine rop_locA agg34 hL_14 0 rfl 0 (vs := [(Sl.v nilSl), (Sl.v nilSl)]) rfl rfl ?_
        have H := H  h_14  (Fr.old (Fr.r (In []) _) hf_8) hL_14
        exact H
    · have H := H.1 hb_5
      refine guardM_n' hb_5 (by decide) ?_
      refine guardM_n' hb_5 (by decide) ?_
      refine guardM_n' hb_5 (by decide) ?_
      refine guardM_n' hb_5 (by decide) ?_
      refine pop_pickt' hb_5 ?_
      refine guardM_n (by decide) ?_
      refine guardM_n (by decide) ?_
      refine pop_pickt _ _ ?_
      refine condM_t ?_
      refine pop.mk' (v := (Value.agg #[(Sl.v nilSl), (Sl.v nilSl)])) (fun w => by kernel_rfl) ?_
      refine uop_loc siz34 hL_4 0 rfl 0 [(Sl.v nilSl), (Sl.v nilSl)] rfl rfl rfl (Nat.le_of_ble_eq_true rfl) (L' := [(b_3, [(Sl.v nilSl), (Sl.v nilSl)]), (b_2, [(Sl.v l2_1), (Sl.v l2_2)]), (b_1, [(Sl.v g0_1)])]) rfl (fun h_15 hf_9 hL_15 => ?_)
      refine rop_locA agg34 hL_15 0 rfl 0 (vs := [(Sl.v nilSl), (Sl.v nilSl)]) rfl rfl ?_
      have H := H  h_15  (Fr.old (Fr.r (In []) _) hf_9) hL_15
      exact H
  · have H := H.1 hb_4
    refine guardM_n' hb_4 (by decide) ?_
    refine guardM_n' hb_4 (by decide) ?_
    refine guardM_n' hb_4 (by decide) ?_
    refine guardM_n' hb_4 (by decide) ?_
    refine guardM_n' hb_4 (by decide) ?_
    refine pop_pickt' hb_4 ?_
    refine guardM_n (by decide) ?_
    refine guardM_n (by decide) ?_
    refine guardM_n (by decide) ?_
    refine guardM_n (by decide) ?_
    refine guardM_n (by decide) ?_
    refine pop_pickt _ _ ?_
    refine guardM_n (by decide) ?_
    refine guardM_n (by decide) ?_
    refine pop_pickt _ _ ?_
    refine condM_t ?_
    refine pop.mk' (v := (Value.agg #[(Sl.v nilSl), (Sl.v nilSl)])) (fun w => by kernel_rfl) ?_
    refine uop_loc siz34 hL_4 0 rfl 0 [(Sl.v nilSl), (Sl.v nilSl)] rfl rfl rfl (Nat.le_of_ble_eq_true rfl) (L' := [(b_3, [(Sl.v nilSl), (Sl.v nilSl)]), (b_2, [(Sl.v l2_1), (Sl.v l2_2)]), (b_1, [(Sl.v g0_1)])]) rfl (fun h_16 hf_10 hL_16 => ?_)
    refine rop_locA agg34 hL_16 0 rfl 0 (vs := [(Sl.v nilSl), (Sl.v nilSl)]) rfl rfl ?_
    have H := H  h_16  (Fr.old (Fr.r (In []) _) hf_10) hL_16
    exact H

/-! (*impl.Load).waiting -/
def u94 (P : Program) (b_1 : Nat) (l0_1 : Sl) (l0_2 : Sl) (sink1_1 : Int) (h : Heap) (K : Value → Heap → Prop) : Prop :=
  eop P (Instr.buildSlice 25 0 #[]) h fun rv_1 h_1 => ∃ t8_1 : Sl, rv_1 = (Sl.v t8_1) ∧ Vars h_1 [(b_1, [(Sl.v l0_1), (Sl.v l0_2)])] ∧
  ∃ J_1 : Nat → Sl → Int → Heap → Prop, (∃ n0 : Nat, J_1 n0 t8_1 0 h_1) ∧
  ∀ (n_1 : Nat) (out5_1 : Sl) (t14_1 : Int) (h_2 : Heap), J_1 n_1 out5_1 t14_1 h_2 → Vars h_2 [(b_1, [(Sl.v l0_1), (Sl.v l0_2)])] →
  ((decide (t14_1 < (l0_2.n : Int))) = true →
  InB l0_2 t14_1 ∧
  ∃ t18_1 : Int, hcell h_2 (Sl.at l0_2 t14_1 1) = some (VI t18_1) ∧
  ((!decide (t14_1 = sink1_1)) = true →
  ((decide (0 < t18_1)) = true →
  eop P (Instr.buildSlice 25 1 #[(0, (VI t14_1))]) h_2 fun rv_2 h_3 => ∃ t28_1 : Sl, rv_2 = (Sl.v t28_1) ∧ Vars h_3 [(b_1, [(Sl.v l0_1), (Sl.v l0_2)])] ∧
  eop P (appS 25 25 25 (Sl.v out5_1) (Sl.v t28_1)) h_3 fun rv_3 h_4 => ∃ t29_1 : Sl, rv_3 = (Sl.v t29_1) ∧ Vars h_4 [(b_1, [(Sl.v l0_1), (Sl.v l0_2)])] ∧
  ∃ m : Nat, m < n_1 ∧ J_1 m t29_1 (w64 (t14_1 + 1)) h_4) ∧
  ((decide (0 < t18_1)) = false →
  ∃ m : Nat, m < n_1 ∧ J_1 m out5_1 (w64 (t14_1 + 1)) h_2)) ∧
  ((!decide (t14_1 = sink1_1)) = false →
  ∃ m : Nat, m < n_1 ∧ J_1 m out5_1 (w64 (t14_1 + 1)) h_2)) ∧
  ((decide (t14_1 < (l0_2.n : Int))) = false →
  K (Sl.v out5_1) h_2)
theorem v94 (b_1 : Nat) (l0_1 : Sl) (l0_2 : Sl) (sink1_1 : Int) (h : Heap) (K : Value → Heap → Prop) (hL : Vars h [(b_1, [(Sl.v l0_1), (Sl.v l0_2)])]) (H : u94 Try.prog b_1 l0_1 l0_2 sink1_1 h K) : callM Try.prog 94 #[(VP b_1 0), (VI sink1_1)] h K := by
  refine c94 (VP b_1 0) (VI sink1_1) h K ?_
  unfold u94 at H
  unfold t94
  refine H.mono fun rv_1 h_1 H => ?_
  obtain ⟨t8_1, rfl, hL_1, H⟩ := H
  refine pop_nil _ ?_
  refine pop_field 1 fld34_1 b_1 0 ?_
  refine rop_loc one25 hL_1 0 rfl 1 (v := (Sl.v l0_2)) rfl ?_
  refine pop_len l0_2 _ _ sli25 ?_
  obtain ⟨J_1, ⟨n_2, h0_1⟩, HB_1⟩ := H
  refine loop_intro (J := fun (n : Nat) (vs : List Value) (h' : Heap) => ∃ out5_1 : Sl, ∃ t14_1 : Int, vs = [(Sl.v out5_1), (VI t14_1)] ∧ J_1 n out5_1 t14_1 h' ∧ Vars h' [(b_1, [(Sl.v l0_1), (Sl.v l0_2)])]) n_2 ⟨t8_1, 0, rfl, h0_1, hL_1⟩ ?_
  intro I_1 mu_1 hI_1 junk_1 tv_1 tv_2 h_2 hi_1
  obtain ⟨n_1, ⟨out5_1, t14_1, hv, hJ_1, hL_2⟩, hn_1⟩ := hI_1 _ _ hi_1
  cases hv
  have H := HB_1 n_1 out5_1 t14_1 h_2 hJ_1 hL_2
  refine pop_lss .i64 t14_1 (l0_2.n : Int) ?_
  refine condM_b (fun hb_1 => ?_) (fun hb_1 => ?_)
  · have H := H.1 hb_1
    obtain ⟨hi_2, H⟩ := H
    refine pop_index sli25 siz3 .i64 l0_2 t14_1 hi_2 ?_
    obtain ⟨t18_1, hc_1, H⟩ := H
    refine rop_one one3 (VI t18_1) hc_1 ?_
    refine pop_ine .i64 _ _ t14_1 sink1_1 ?_
    refine guardM_st (fun hb_2 => ?_) (fun hb_2 => ?_)
    · have H := H.1 hb_2
      refine guardM_y' hb_2 ?_
      refine pop_gtr .i64 t18_1 0 ?_
      refine pop_pickt' hb_2 ?_
      refine condM_b (fun hb_3 => ?_) (fun hb_3 => ?_)
      · have H := H.1 hb_3
        refine H.mono fun rv_2 h_3 H => ?_
        obtain ⟨t28_1, rfl, hL_3, H⟩ := H
        refine H.mono fun rv_3 h_4 H => ?_
        obtain ⟨t29_1, rfl, hL_4, H⟩ := H
        refine pop_add .i64 t14_1 1 ?_
        obtain ⟨m_1, hm_1, H⟩ := H
        exact hn_1 _ _ ⟨m_1, hm_1, t29_1, (w64 (t14_1 + 1)), rfl, H, hL_4⟩
      · have H := H.2 hb_3
        refine pop_add .i64 t14_1 1 ?_
        obtain ⟨m_2, hm_2, H⟩ := H
        exact hn_1 _ _ ⟨m_2, hm_2, out5_1, (w64 (t14_1 + 1)), rfl, H, hL_2⟩
    · have H := H.2 hb_2
      refine guardM_n' hb_2 (by decide) ?_
      refine pop_pickf' hb_2 ?_
      refine condM_f ?_
      refine pop_add .i64 t14_1 1 ?_
      obtain ⟨m_3, hm_3, H⟩ := H
      exact hn_1 _ _ ⟨m_3, hm_3, out5_1, (w64 (t14_1 + 1)), rfl, H, hL_2⟩
  · have H := H.2 hb_1
    exact H

/-! spec.chLoaded -/
def u96 (P : Program) (sink0_1 : Int) (chips1_1 : Sl) (h : Heap) (K : Value → Heap → Prop) : Prop :=
  ∃ J_1 : Nat → Sl → Int → Heap → Prop, (∃ n0 : Nat, J_1 n0 nilSl 0 h) ∧
  ∀ (n_1 : Nat) (out5_1 : Sl) (t10_1 : Int) (h_1 : Heap), J_1 n_1 out5_1 t10_1 h_1 → Vars h_1 [] →
  ((decide (t10_1 < (chips1_1.n : Int))) = true →
  InB chips1_1 t10_1 ∧
  ∃ t14_1 : Int, hcell h_1 (Sl.at chips1_1 t10_1 1) = some (VI t14_1) ∧
  ((!decide (t10_1 = sink0_1)) = true →
  ((decide (0 < t14_1)) = true →
  eop P (Instr.buildSlice 25 1 #[(0, (VI t10_1))]) h_1 fun rv_1 h_2 => ∃ t24_1 : Sl, rv_1 = (Sl.v t24_1) ∧ Vars h_2 [] ∧
  eop P (appS 25 25 25 (Sl.v out5_1) (Sl.v t24_1)) h_2 fun rv_2 h_3 => ∃ t25_1 : Sl, rv_2 = (Sl.v t25_1) ∧ Vars h_3 [] ∧
  ∃ m : Nat, m < n_1 ∧ J_1 m t25_1 (w64 (t10_1 + 1)) h_3) ∧
  ((decide (0 < t14_1)) = false →
  ∃ m : Nat, m < n_1 ∧ J_1 m out5_1 (w64 (t10_1 + 1)) h_1)) ∧
  ((!decide (t10_1 = sink0_1)) = false →
  ∃ m : Nat, m < n_1 ∧ J_1 m out5_1 (w64 (t10_1 + 1)) h_1)) ∧
  ((decide (t10_1 < (chips1_1.n : Int))) = false →
  K (Sl.v out5_1) h_1)
theorem v96 (sink0_1 : Int) (chips1_1 : Sl) (h : Heap) (K : Value → Heap → Prop) (H : u96 Try.prog sink0_1 chips1_1 h K) : callM Try.prog 96 #[(VI sink0_1), (Sl.v chips1_1)] h K := by
  refine c96 (VI sink0_1) (Sl.v chips1_1) h K ?_
  unfold u96 at H
  unfold t96
  have hL : Vars h [] := .nil
  refine pop_len chips1_1 _ _ sli25 ?_
  obtain ⟨J_1, ⟨n_2, h0_1⟩, HB_1⟩ := H
  refine loop_intro (J := fun (n : Nat) (vs : List Value) (h' : Heap) => ∃ out5_1 : Sl, ∃ t10_1 : Int, vs = [(Sl.v out5_1), (VI t10_1)] ∧ J_1 n out5_1 t10_1 h' ∧ Vars h' []) n_2 ⟨nilSl, 0, rfl, h0_1, hL⟩ ?_
  intro I_1 mu_1 hI_1 junk_1 tv_1 tv_2 h_1 hi_1
  obtain ⟨n_1, ⟨out5_1, t10_1, hv, hJ_1, hL_1⟩, hn_1⟩ := hI_1 _ _ hi_1
  cases hv
  have H := HB_1 n_1 out5_1 t10_1 h_1 hJ_1 hL_1
  refine pop_lss .i64 t10_1 (chips1_1.n : Int) ?_
  refine condM_b (fun hb_1 => ?_) (fun hb_1 => ?_)
  · have H := H.1 hb_1
    obtain ⟨hi_2, H⟩ := H
    refine pop_index sli25 siz3 .i64 chips1_1 t10_1 hi_2 ?_
    obtain ⟨t14_1, hc_1, H⟩ := H
    refine rop_one one3 (VI t14_1) hc_1 ?_
    refine pop_ine .i64 _ _ t10_1 sink0_1 ?_
    refine guardM_st (fun hb_2 => ?_) (fun hb_2 => ?_)
    · have H := H.1 hb_2
      refine guardM_y' hb_2 ?_
      refine pop_gtr .i64 t14_1 0 ?_
      refine pop_pickt' hb_2 ?_
      refine condM_b (fun hb_3 => ?_) (fun hb_3 => ?_)
      · have H := H.1 hb_3
        refine H.mono fun rv_1 h_2 H => ?_
        obtain ⟨t24_1, rfl, hL_2, H⟩ := H
        refine H.mono fun rv_2 h_3 H => ?_
        obtain ⟨t25_1, rfl, hL_3, H⟩ := H
        refine pop_add .i64 t10_1 1 ?_
        obtain ⟨m_1, hm_1, H⟩ := H
        exact hn_1 _ _ ⟨m_1, hm_1, t25_1, (w64 (t10_1 + 1)), rfl, H, hL_3⟩
      · have H := H.2 hb_3
        refine pop_add .i64 t10_1 1 ?_
        obtain ⟨m_2, hm_2, H⟩ := H
        exact hn_1 _ _ ⟨m_2, hm_2, out5_1, (w64 (t10_1 + 1)), rfl, H, hL_1⟩
    · have H := H.2 hb_2
      refine guardM_n' hb_2 (by decide) ?_
      refine pop_pickf' hb_2 ?_
      refine condM_f ?_
      refine pop_add .i64 t10_1 1 ?_
      obtain ⟨m_3, hm_3, H⟩ := H
      exact hn_1 _ _ ⟨m_3, hm_3, out5_1, (w64 (t10_1 + 1)), rfl, H, hL_1⟩
  · have H := H.2 hb_1
    exact H

/-! (*spec.l1Cur).load -/
def u98 (P : Program) (b_1 : Nat) (c0_1 : Sl) (c0_2 : Int) (c0_3 : Int) (h : Heap) (K : Value → Heap → Prop) : Prop :=
  ∀ (b_2 : Nat) (b_3 : Nat) (h_2 : Heap), h.size ≤ b_2 → h.size ≤ b_3 → Fr (In []) h h_2 → Vars h_2 [(b_3, [(Sl.v nilSl), (Sl.v nilSl)]), (b_2, [(Sl.v nilSl)]), (b_1, [(Sl.v c0_1), (VI c0_2), (Value.int .u64 c0_3)])] →
  callM P 156 #[(VP b_1 0)] h_2 fun rv_1 h_3 => ∃ x_1 : Sl, ∃ x_2 : Int, ∃ x_3 : Int, ∃ t10_1 : Sl, ∃ t10_2 : Int, rv_1 = (Value.tuple #[(Value.agg #[(Sl.v t10_1)]), (VI t10_2)]) ∧ Vars h_3 [(b_3, [(Sl.v nilSl), (Sl.v nilSl)]), (b_2, [(Sl.v nilSl)]), (b_1, [(Sl.v x_1), (VI x_2), (Value.int .u64 x_3)])] ∧
  ∀ (b_4 : Nat) (h_5 : Heap), h_3.size ≤ b_4 → Fr (In []) h_3 h_5 → Vars h_5 [(b_4, [(Sl.v t10_1)]), (b_3, [(Sl.v nilSl), (Sl.v nilSl)]), (b_2, [(Sl.v nilSl)]), (b_1, [(Sl.v x_1), (VI x_2), (Value.int .u64 x_3)])] →
  callM P 157 #[(VP b_1 0), (Value.agg #[(Sl.v t10_1)])] h_5 fun rv_2 h_6 => ∃ x_4 : Sl, ∃ x_5 : Int, ∃ x_6 : Int, ∃ t15_1 : Sl, ∃ t15_2 : Int, rv_2 = (Value.agg #[(Sl.v t15_1), (VI t15_2)]) ∧ Vars h_6 [(b_4, [(Sl.v t10_1)]), (b_3, [(Sl.v nilSl), (Sl.v nilSl)]), (b_2, [(Sl.v nilSl)]), (b_1, [(Sl.v x_4), (VI x_5), (Value.int .u64 x_6)])] ∧
  ∀ (b_5 : Nat) (h_8 : Heap), h_6.size ≤ b_5 → Fr (In []) h_6 h_8 → Vars h_8 [(b_5, [(Sl.v t15_1), (Sl.v nilSl)]), (b_4, [(Sl.v t10_1)]), (b_3, [(Sl.v nilSl), (Sl.v nilSl)]), (b_2, [(Sl.v nilSl)]), (b_1, [(Sl.v x_4), (VI x_5), (Value.int .u64 x_6)])] →
  ∃ J_1 : Nat → Int → Sl → Sl → Sl → Int → Int → Heap → Prop, (∃ n0 : Nat, J_1 n0 0 t15_1 nilSl x_4 x_5 x_6 h_8) ∧
  ∀ (n_1 : Nat) (t21_1 : Int) (x_7 : Sl) (x_8 : Sl) (x_9 : Sl) (x_10 : Int) (x_11 : Int) (h_9 : Heap), J_1 n_1 t21_1 x_7 x_8 x_9 x_10 x_11 h_9 → Vars h_9 [(b_5, [(Sl.v x_7), (Sl.v x_8)]), (b_4, [(Sl.v t10_1)]), (b_3, [(Sl.v nilSl), (Sl.v nilSl)]), (b_2, [(Sl.v nilSl)]), (b_1, [(Sl.v x_9), (VI x_10), (Value.int .u64 x_11)])] →
  ((decide (t21_1 < (t10_1.n : Int))) = true →
  eop P (Instr.buildSlice 25 6 #[(0, (Value.int IntKind.i64 0)), (1, (Value.int IntKind.i64 0)), (2, (Value.int IntKind.i64 1)), (3, (Value.int IntKind.i64 2)), (4, (Value.int IntKind.i64 0)), (5, (Value.int IntKind.i64 3))]) h_9 fun rv_3 h_10 => ∃ t26_1 : Sl, rv_3 = (Sl.v t26_1) ∧ Vars h_10 [(b_5, [(Sl.v x_7), (Sl.v x_8)]), (b_4, [(Sl.v t10_1)]), (b_3, [(Sl.v nilSl), (Sl.v nilSl)]), (b_2, [(Sl.v nilSl)]), (b_1, [(Sl.v x_9), (VI x_10), (Value.int .u64 x_11)])] ∧
  callM P 101 #[(VP b_1 0), (Sl.v t26_1)] h_10 fun rv_4 h_11 => ∃ x_12 : Sl, ∃ x_13 : Int, ∃ x_14 : Int, ∃ t27_1 : Int, rv_4 = (VI t27_1) ∧ Vars h_11 [(b_5, [(Sl.v x_7), (Sl.v x_8)]), (b_4, [(Sl.v t10_1)]), (b_3, [(Sl.v nilSl), (Sl.v nilSl)]), (b_2, [(Sl.v nilSl)]), (b_1, [(Sl.v x_12), (VI x_13), (Value.int .u64 x_14)])] ∧
  eop P (Instr.buildSlice 25 1 #[(0, (VI t27_1))]) h_11 fun rv_5 h_12 => ∃ t28_1 : Sl, rv_5 = (Sl.v t28_1) ∧ Vars h_12 [(b_5, [(Sl.v x_7), (Sl.v x_8)]), (b_4, [(Sl.v t10_1)]), (b_3, [(Sl.v nilSl), (Sl.v nilSl)]), (b_2, [(Sl.v nilSl)]), (b_1, [(Sl.v x_12), (VI x_13), (Value.int .u64 x_14)])] ∧
  eop P (appS 25 25 25 (Sl.v x_8) (Sl.v t28_1)) h_12 fun rv_6 h_13 => ∃ t29_1 : Sl, rv_6 = (Sl.v t29_1) ∧ Vars h_13 [(b_5, [(Sl.v x_7), (Sl.v x_8)]), (b_4, [(Sl.v t10_1)]), (b_3, [(Sl.v nilSl), (Sl.v nilSl)]), (b_2, [(Sl.v nilSl)]), (b_1, [(Sl.v x_12), (VI x_13), (Value.int .u64 x_14)])] ∧
  ∀ (h_14 : Heap), Fr (In [b_5]) h_13 h_14 → Vars h_14 [(b_5, [(Sl.v x_7), (Sl.v t29_1)]), (b_4, [(Sl.v t10_1)]), (b_3, [(Sl.v nilSl), (Sl.v nilSl)]), (b_2, [(Sl.v nilSl)]), (b_1, [(Sl.v x_12), (VI x_13), (Value.int .u64 x_14)])] →
  ∃ m : Nat, m < n_1 ∧ J_1 m (w64 (t21_1 + 1)) x_7 t29_1 x_12 x_13 x_14 h_14) ∧
  ((decide (t21_1 < (t10_1.n : Int))) = false →
  ∃ J_2 : Int → Sl → Sl → Sl → Int → Int → Heap → Prop, (callM P 100 #[(VP b_1 0), (VI 18)] h_9 fun rv_7 h_15 => ∃ x_21 : Sl, ∃ x_22 : Int, ∃ x_23 : Int, ∃ t33_1 : Int, rv_7 = (VI t33_1) ∧ Vars h_15 [(b_5, [(Sl.v x_7), (Sl.v x_8)]), (b_4, [(Sl.v t10_1)]), (b_3, [(Sl.v nilSl), (Sl.v nilSl)]), (b_2, [(Sl.v nilSl)]), (b_1, [(Sl.v x_21), (VI x_22), (Value.int .u64 x_23)])] ∧
  ((decide (t33_1 = 0)) = true →
  (callM P 100 #[(VP b_1 0), (VI (x_8.n : Int))] h_15 fun rv_8 h_16 => ∃ x_24 : Sl, ∃ x_25 : Int, ∃ x_26 : Int, ∃ t42_1 : Int, rv_8 = (VI t42_1) ∧ Vars h_16 [(b_5, [(Sl.v x_7), (Sl.v x_8)]), (b_4, [(Sl.v t10_1)]), (b_3, [(Sl.v nilSl), (Sl.v nilSl)]), (b_2, [(Sl.v nilSl)]), (b_1, [(Sl.v x_24), (VI x_25), (Value.int .u64 x_26)])] ∧
  eop P (Instr.buildSlice 25 4 #[(0, (Value.int IntKind.i64 (-1))), (1, (Value.int IntKind.i64 21)), (2, (Value.int IntKind.i64 20)), (3, (Value.int IntKind.i64 4611686018427387904))]) h_16 fun rv_9 h_17 => ∃ t44_1 : Sl, rv_9 = (Sl.v t44_1) ∧ Vars h_17 [(b_5, [(Sl.v x_7), (Sl.v x_8)]), (b_4, [(Sl.v t10_1)]), (b_3, [(Sl.v nilSl), (Sl.v nilSl)]), (b_2, [(Sl.v nilSl)]), (b_1, [(Sl.v x_24), (VI x_25), (Value.int .u64 x_26)])] ∧
  callM P 101 #[(VP b_1 0), (Sl.v t44_1)] h_17 fun rv_10 h_18 => ∃ x_27 : Sl, ∃ x_28 : Int, ∃ x_29 : Int, ∃ t45_1 : Int, rv_10 = (VI t45_1) ∧ Vars h_18 [(b_5, [(Sl.v x_7), (Sl.v x_8)]), (b_4, [(Sl.v t10_1)]), (b_3, [(Sl.v nilSl), (Sl.v nilSl)]), (b_2, [(Sl.v nilSl)]), (b_1, [(Sl.v x_27), (VI x_28), (Value.int .u64 x_29)])] ∧
  InB x_8 t42_1 ∧
  Writable h_18 (Sl.at x_8 t42_1 1) ∧ Vars (hset h_18 (Sl.at x_8 t42_1 1) (VI t45_1)) [(b_5, [(Sl.v x_7), (Sl.v x_8)]), (b_4, [(Sl.v t10_1)]), (b_3, [(Sl.v nilSl), (Sl.v nilSl)]), (b_2, [(Sl.v nilSl)]), (b_1, [(Sl.v x_27), (VI x_28), (Value.int .u64 x_29)])] ∧
  ∀ h_19 : Heap, h_19 = hset h_18 (Sl.at x_8 t42_1 1) (VI t45_1) → Vars h_19 [(b_5, [(Sl.v x_7), (Sl.v x_8)]), (b_4, [(Sl.v t10_1)]), (b_3, [(Sl.v nilSl), (Sl.v nilSl)]), (b_2, [(Sl.v nilSl)]), (b_1, [(Sl.v x_27), (VI x_28), (Value.int .u64 x_29)])] →
  J_2 t10_2 x_7 x_8 x_27 x_28 x_29 h_19) ∧
  (eop P (Instr.buildSlice 25 4 #[(0, (Value.int IntKind.i64 (-1))), (1, (Value.int IntKind.i64 21)), (2, (Value.int IntKind.i64 20)), (3, (Value.int IntKind.i64 4611686018427387904))]) h_15 fun rv_11 h_20 => ∃ t44_2 : Sl, rv_11 = (Sl.v t44_2) ∧ Vars h_20 [(b_5, [(Sl.v x_7), (Sl.v x_8)]), (b_4, [(Sl.v t10_1)]), (b_3, [(Sl.v nilSl), (Sl.v nilSl)]), (b_2, [(Sl.v nilSl)]), (b_1, [(Sl.v x_21), (VI x_22), (Value.int .u64 x_23)])] ∧
  callM P 100 #[(VP b_1 0), (VI (x_8.n : Int))] h_20 fun rv_12 h_21 => ∃ x_30 : Sl, ∃ x_31 : Int, ∃ x_32 : Int, ∃ t42_2 : Int, rv_12 = (VI t42_2) ∧ Vars h_21 [(b_5, [(Sl.v x_7), (Sl.v x_8)]), (b_4, [(Sl.v t10_1)]), (b_3, [(Sl.v nilSl), (Sl.v nilSl)]), (b_2, [(Sl.v nilSl)]), (b_1, [(Sl.v x_30), (VI x_31), (Value.int .u64 x_32)])] ∧
  callM P 101 #[(VP b_1 0), (Sl.v t44_2)] h_21 fun rv_13 h_22 => ∃ x_33 : Sl, ∃ x_34 : Int, ∃ x_35 : Int, ∃ t45_2 : Int, rv_13 = (VI t45_2) ∧ Vars h_22 [(b_5, [(Sl.v x_7), (Sl.v x_8)]), (b_4, [(Sl.v t10_1)]), (b_3, [(Sl.v nilSl), (Sl.v nilSl)]), (b_2, [(Sl.v nilSl)]), (b_1, [(Sl.v x_33), (VI x_34), (Value.int .u64 x_35)])] ∧
  InB x_8 t42_2 ∧
  Writable h_22 (Sl.at x_8 t42_2 1) ∧ Vars (hset h_22 (Sl.at x_8 t42_2 1) (VI t45_2)) [(b_5, [(Sl.v x_7), (Sl.v x_8)]), (b_4, [(Sl.v t10_1)]), (b_3, [(Sl.v nilSl), (Sl.v nilSl)]), (b_2, [(Sl.v nilSl)]), (b_1, [(Sl.v x_33), (VI x_34), (Value.int .u64 x_35)])] ∧
  ∀ h_23 : Heap, h_23 = hset h_22 (Sl.at x_8 t42_2 1) (VI t45_2) → Vars h_23 [(b_5, [(Sl.v x_7), (Sl.v x_8)]), (b_4, [(Sl.v t10_1)]), (b_3, [(Sl.v nilSl), (Sl.v nilSl)]), (b_2, [(Sl.v nilSl)]), (b_1, [(Sl.v x_33), (VI x_34), (Value.int .u64 x_35)])] →
  J_2 t10_2 x_7 x_8 x_33 x_34 x_35 h_23)) ∧
  ((decide (t33_1 = 0)) = false →
  ((decide (t33_1 = 1)) = true →
  eop P (Instr.buildSlice 25 1 #[(0, (Value.int IntKind.i64 0))]) h_15 fun rv_14 h_24 => ∃ t51_1 : Sl, rv_14 = (Sl.v t51_1) ∧ Vars h_24 [(b_5, [(Sl.v x_7), (Sl.v x_8)]), (b_4, [(Sl.v t10_1)]), (b_3, [(Sl.v nilSl), (Sl.v nilSl)]), (b_2, [(Sl.v nilSl)]), (b_1, [(Sl.v x_21), (VI x_22), (Value.int .u64 x_23)])] ∧
  eop P (appS 25 25 25 (Sl.v x_7) (Sl.v t51_1)) h_24 fun rv_15 h_25 => ∃ t52_1 : Sl, rv_15 = (Sl.v t52_1) ∧ Vars h_25 [(b_5, [(Sl.v x_7), (Sl.v x_8)]), (b_4, [(Sl.v t10_1)]), (b_3, [(Sl.v nilSl), (Sl.v nilSl)]), (b_2, [(Sl.v nilSl)]), (b_1, [(Sl.v x_21), (VI x_22), (Value.int .u64 x_23)])] ∧
  ∀ (h_26 : Heap), Fr (In [b_5]) h_25 h_26 → Vars h_26 [(b_5, [(Sl.v t52_1), (Sl.v x_8)]), (b_4, [(Sl.v t10_1)]), (b_3, [(Sl.v nilSl), (Sl.v nilSl)]), (b_2, [(Sl.v nilSl)]), (b_1, [(Sl.v x_21), (VI x_22), (Value.int .u64 x_23)])] →
  J_2 t10_2 t52_1 x_8 x_21 x_22 x_23 h_26) ∧
  ((decide (t33_1 = 1)) = false →
  ((decide (t33_1 = 2)) = true →
  eop P (Instr.buildSlice 25 3 #[(0, (Value.int IntKind.i64 (-1))), (1, (VI (t10_1.n : Int))), (2, (Value.int IntKind.i64 0))]) h_15 fun rv_16 h_27 => ∃ t60_1 : Sl, rv_16 = (Sl.v t60_1) ∧ Vars h_27 [(b_5, [(Sl.v x_7), (Sl.v x_8)]), (b_4, [(Sl.v t10_1)]), (b_3, [(Sl.v nilSl), (Sl.v nilSl)]), (b_2, [(Sl.v nilSl)]), (b_1, [(Sl.v x_21), (VI x_22), (Value.int .u64 x_23)])] ∧
  callM P 101 #[(VP b_1 0), (Sl.v t60_1)] h_27 fun rv_17 h_28 => ∃ x_36 : Sl, ∃ x_37 : Int, ∃ x_38 : Int, ∃ t61_1 : Int, rv_17 = (VI t61_1) ∧ Vars h_28 [(b_5, [(Sl.v x_7), (Sl.v x_8)]), (b_4, [(Sl.v t10_1)]), (b_3, [(Sl.v nilSl), (Sl.v nilSl)]), (b_2, [(Sl.v nilSl)]), (b_1, [(Sl.v x_36), (VI x_37), (Value.int .u64 x_38)])] ∧
  J_2 t61_1 x_7 x_8 x_36 x_37 x_38 h_28) ∧
  ((decide (t33_1 = 2)) = false →
  J_2 t10_2 x_7 x_8 x_21 x_22 x_23 h_15)))) ∧
  ∀ (x_15 : Int) (x_16 : Sl) (x_17 : Sl) (x_18 : Sl) (x_19 : Int) (x_20 : Int) (h_29 : Heap), J_2 x_15 x_16 x_17 x_18 x_19 x_20 h_29 → Vars h_29 [(b_5, [(Sl.v x_16), (Sl.v x_17)]), (b_4, [(Sl.v t10_1)]), (b_3, [(Sl.v nilSl), (Sl.v nilSl)]), (b_2, [(Sl.v nilSl)]), (b_1, [(Sl.v x_18), (VI x_19), (Value.int .u64 x_20)])] →
  ∀ (h_30 : Heap), Fr (In [b_2]) h_29 h_30 → Vars h_30 [(b_5, [(Sl.v x_16), (Sl.v x_17)]), (b_4, [(Sl.v t10_1)]), (b_3, [(Sl.v nilSl), (Sl.v nilSl)]), (b_2, [(Sl.v t10_1)]), (b_1, [(Sl.v x_18), (VI x_19), (Value.int .u64 x_20)])] →
  ∀ (h_31 : Heap), Fr (In [b_3]) h_30 h_31 → Vars h_31 [(b_5, [(Sl.v x_16), (Sl.v x_17)]), (b_4, [(Sl.v t10_1)]), (b_3, [(Sl.v x_16), (Sl.v x_17)]), (b_2, [(Sl.v t10_1)]), (b_1, [(Sl.v x_18), (VI x_19), (Value.int .u64 x_20)])] →
  K (Value.tuple #[(Value.agg #[(Sl.v t10_1)]), (VI x_15), (Value.agg #[(Sl.v x_16), (Sl.v x_17)])]) h_31)
theorem v98 (b_1 : Nat) (c0_1 : Sl) (c0_2 : Int) (c0_3 : Int) (h : Heap) (K : Value → Heap → Prop) (hL : Vars h [(b_1, [(Sl.v c0_1), (VI c0_2), (Value.int .u64 c0_3)])]) (H : u98 Try.prog b_1 c0_1 c0_2 c0_3 h K) : callM Try.prog 98 #[(VP b_1 0)] h K := by
  refine c98 (VP b_1 0) h K ?_
  unfold u98 at H
  unfold t98
  refine eop_alloc 32 zer32 rfl hL (fun b_2 h_1 hb_1 hf_1 hL_1 => ?_)
  refine eop_alloc 34 zer34 rfl hL_1 (fun b_3 h_2 hb_2 hf_2 hL_2 => ?_)
  have H := H b_2 b_3 h_2 (Nat.le_trans (Fr.size (Fr.r (In []) _)) hb_1) (Nat.le_trans (Fr.size (Fr.no' (Fr.r (In []) _) hf_1)) hb_2) (Fr.no' (Fr.no' (Fr.r (In []) _) hf_1) hf_2) hL_2
  refine H.mono fun rv_1 h_3 H => ?_
  obtain ⟨x_1, x_2, x_3, t10_1, t10_2, rfl, hL_3, H⟩ := H
  refine pop_ext (v := (Value.agg #[(Sl.v t10_1)])) rfl ?_
  refine pop_ext (v := (VI t10_2)) rfl ?_
  refine eop_alloc 32 zer32 rfl hL_3 (fun b_4 h_4 hb_3 hf_3 hL_4 => ?_)
  refine uop_loc siz32 hL_4 0 rfl 0 [(Sl.v t10_1)] rfl rfl rfl (Nat.le_of_ble_eq_true rfl) (L' := [(b_4, [(Sl.v t10_1)]), (b_3, [(Sl.v nilSl), (Sl.v nilSl)]), (b_2, [(Sl.v nilSl)]), (b_1, [(Sl.v x_1), (VI x_2), (Value.int .u64 x_3)])]) rfl (fun h_5 hf_4 hL_5 => ?_)
  refine rop_locA agg32 hL_5 0 rfl 0 (vs := [(Sl.v t10_1)]) rfl rfl ?_
  have H := H b_4 h_5 (Nat.le_trans (Fr.size (Fr.r (In []) _)) hb_3) (Fr.new (Fr.no' (Fr.r (In []) _) hf_3) (Nat.le_trans (Fr.size (Fr.r (In []) _)) hb_3) hf_4) hL_5
  refine H.mono fun rv_2 h_6 H => ?_
  obtain ⟨x_4, x_5, x_6, t15_1, t15_2, rfl, hL_6, H⟩ := H
  refine pop.mk' (v := (Sl.v t15_1)) (fun w => by kernel_rfl) ?_
  refine pop.mk' (v := (Value.agg #[(Sl.v t15_1), (Sl.v nilSl)])) (fun w => by kernel_rfl) ?_
  refine eop_alloc 34 zer34 rfl hL_6 (fun b_5 h_7 hb_4 hf_5 hL_7 => ?_)
  refine uop_loc siz34 hL_7 0 rfl 0 [(Sl.v t15_1), (Sl.v nilSl)] rfl rfl rfl (Nat.le_of_ble_eq_true rfl) (L' := [(b_5, [(Sl.v t15_1), (Sl.v nilSl)]), (b_4, [(Sl.v t10_1)]), (b_3, [(Sl.v nilSl), (Sl.v nilSl)]), (b_2, [(Sl.v nilSl)]), (b_1, [(Sl.v x_4), (VI x_5), (Value.int .u64 x_6)])]) rfl (fun h_8 hf_6 hL_8 => ?_)
  refine pop_field 0 fld32_0 b_4 0 ?_
  refine rop_loc one22 hL_8 1 rfl 0 (v := (Sl.v t10_1)) rfl ?_
  refine pop_len t10_1 _ _ sli22 ?_
  have H := H b_5 h_8 (Nat.le_trans (Fr.size (Fr.r (In []) _)) hb_4) (Fr.new (Fr.no' (Fr.r (In []) _) hf_5) (Nat.le_trans (Fr.size (Fr.r (In []) _)) hb_4) hf_6) hL_8
  obtain ⟨J_1, ⟨n_2, h0_1⟩, HB_2⟩ := H
  refine loop_intro (J := fun (n : Nat) (vs : List Value) (h' : Heap) => ∃ t21_1 : Int, ∃ x_7 : Sl, ∃ x_8 : Sl, ∃ x_9 : Sl, ∃ x_10 : Int, ∃ x_11 : Int, vs = [(VI t21_1)] ∧ J_1 n t21_1 x_7 x_8 x_9 x_10 x_11 h' ∧ Vars h' [(b_5, [(Sl.v x_7), (Sl.v x_8)]), (b_4, [(Sl.v t10_1)]), (b_3, [(Sl.v nilSl), (Sl.v nilSl)]), (b_2, [(Sl.v nilSl)]), (b_1, [(Sl.v x_9), (VI x_10), (Value.int .u64 x_11)])]) n_2 ⟨0, t15_1, nilSl, x_4, x_5, x_6, rfl, h0_1, hL_8⟩ ?_
  intro I_1 mu_1 hI_1 junk_1 tv_2 h_9 hi_1
  obtain ⟨n_1, ⟨t21_1, x_7, x_8, x_9, x_10, x_11, hv, hJ_1, hL_9⟩, hn_1⟩ := hI_1 _ _ hi_1
  cases hv
  have H := HB_2 n_1 t21_1 x_7 x_8 x_9 x_10 x_11 h_9 hJ_1 hL_9
  refine pop_lss .i64 t21_1 (t10_1.n : Int) ?_
  refine condM_b (fun hb_5 => ?_) (fun hb_5 => ?_)
  · have H := H.1 hb_5
    refine pop_field 1 fld34_1 b_5 0 ?_
    refine rop_loc one25 hL_9 0 rfl 1 (v := (Sl.v x_8)) rfl ?_
    refine H.mono fun rv_3 h_10 H => ?_
    obtain ⟨t26_1, rfl, hL_10, H⟩ := H
    refine ⟨?_, ?_⟩
    · exact still_loc one25 hL_10 0 rfl 1 (v := (Sl.v x_8)) rfl
    refine H.mono fun rv_4 h_11 H => ?_
    obtain ⟨x_12, x_13, x_14, t27_1, rfl, hL_11, H⟩ := H
    refine ⟨?_, ?_⟩
    · exact still_loc one25 hL_11 0 rfl 1 (v := (Sl.v x_8)) rfl
    refine H.mono fun rv_5 h_12 H => ?_
    obtain ⟨t28_1, rfl, hL_12, H⟩ := H
    refine ⟨?_, ?_⟩
    · exact still_loc one25 hL_12 0 rfl 1 (v := (Sl.v x_8)) rfl
    refine H.mono fun rv_6 h_13 H => ?_
    obtain ⟨t29_1, rfl, hL_13, H⟩ := H
    refine pop_field 1 fld34_1 b_5 0 ?_
    refine uop_loc siz25 hL_13 0 rfl 1 [(Sl.v t29_1)] rfl rfl rfl (Nat.le_of_ble_eq_true rfl) (L' := [(b_5, [(Sl.v x_7), (Sl.v t29_1)]), (b_4, [(Sl.v t10_1)]), (b_3, [(Sl.v nilSl), (Sl.v nilSl)]), (b_2, [(Sl.v nilSl)]), (b_1, [(Sl.v x_12), (VI x_13), (Value.int .u64 x_14)])]) rfl (fun h_14 hf_7 hL_14 => ?_)
    refine pop_add .i64 t21_1 1 ?_
    have H := H  h_14  (Fr.old (Fr.r (In []) _) hf_7) hL_14
    obtain ⟨m_1, hm_1, H⟩ := H
    exact hn_1 _ _ ⟨m_1, hm_1, (w64 (t21_1 + 1)), x_7, t29_1, x_12, x_13, x_14, rfl, H, hL_14⟩
  · have H := H.2 hb_5
    obtain ⟨J_2, H, HB_1⟩ := H
    refine ⟨fun (vs : List Value) (h' : Heap) => ∃ x_15 : Int, ∃ x_16 : Sl, ∃ x_17 : Sl, ∃ x_18 : Sl, ∃ x_19 : Int, ∃ x_20 : Int, vs = [(VI x_15)] ∧ J_2 x_15 x_16 x_17 x_18 x_19 x_20 h' ∧ Vars h' [(b_5, [(Sl.v x_16), (Sl.v x_17)]), (b_4, [(Sl.v t10_1)]), (b_3, [(Sl.v nilSl), (Sl.v nilSl)]), (b_2, [(Sl.v nilSl)]), (b_1, [(Sl.v x_18), (VI x_19), (Value.int .u64 x_20)])], ?_, ?_⟩
    · refine H.mono fun rv_7 h_15 H => ?_
      obtain ⟨x_21, x_22, x_23, t33_1, rfl, hL_15, H⟩ := H
      refine pop_ieq .i64 _ _ t33_1 0 ?_
      refine condM_b (fun hb_6 => ?_) (fun hb_6 => ?_)
      · have H := H.1 hb_6
        refine pop_field 1 fld34_1 b_5 0 ?_
        refine rop_loc one25 hL_15 0 rfl 1 (v := (Sl.v x_8)) rfl ?_
        refine pop_field 1 fld34_1 b_5 0 ?_
        refine rop_loc one25 hL_15 0 rfl 1 (v := (Sl.v x_8)) rfl ?_
        refine pop_len x_8 _ _ sli25 ?_
        refine ⟨?_, ?_⟩
        · have H := H.1
          refine H.mono fun rv_8 h_16 H => ?_
          obtain ⟨x_24, x_25, x_26, t42_1, rfl, hL_16, H⟩ := H
          refine ⟨?_, ?_⟩
          · exact still_loc one25 hL_16 0 rfl 1 (v := (Sl.v x_8)) rfl
          refine ⟨?_, ?_⟩
          · exact still_loc one25 hL_16 0 rfl 1 (v := (Sl.v x_8)) rfl
          refine H.mono fun rv_9 h_17 H => ?_
          obtain ⟨t44_1, rfl, hL_17, H⟩ := H
          refine ⟨?_, ?_⟩
          · exact still_loc one25 hL_17 0 rfl 1 (v := (Sl.v x_8)) rfl
          refine ⟨?_, ?_⟩
          · exact still_loc one25 hL_17 0 rfl 1 (v := (Sl.v x_8)) rfl
          refine H.mono fun rv_10 h_18 H => ?_
          obtain ⟨x_27, x_28, x_29, t45_1, rfl, hL_18, H⟩ := H
          refine ⟨?_, ?_⟩
          · exact still_loc one25 hL_18 0 rfl 1 (v := (Sl.v x_8)) rfl
          refine ⟨?_, ?_⟩
          · exact still_loc one25 hL_18 0 rfl 1 (v := (Sl.v x_8)) rfl
          obtain ⟨hi_2, H⟩ := H
          refine pop_index sli25 siz3 .i64 x_8 t42_1 hi_2 ?_
          obtain ⟨hw_1, hL_19, H⟩ := H
          refine uop_cell (v := (VI t45_1)) siz3 hw_1 rfl (fun h_19 he_1 => ?_)
          rw [← he_1] at hL_19
          have H := H h_19 he_1 hL_19
          exact ⟨t10_2, x_7, x_8, x_27, x_28, x_29, rfl, H, hL_19⟩
        · have H := H.2
          refine H.mono fun rv_11 h_20 H => ?_
          obtain ⟨t44_2, rfl, hL_20, H⟩ := H
          refine ⟨?_, ?_⟩
          · exact still_loc one25 hL_20 0 rfl 1 (v := (Sl.v x_8)) rfl
          refine ⟨?_, ?_⟩
          · exact still_loc one25 hL_20 0 rfl 1 (v := (Sl.v x_8)) rfl
          refine H.mono fun rv_12 h_21 H => ?_
          obtain ⟨x_30, x_31, x_32, t42_2, rfl, hL_21, H⟩ := H
          refine ⟨?_, ?_⟩
          · exact still_loc one25 hL_21 0 rfl 1 (v := (Sl.v x_8)) rfl
          refine ⟨?_, ?_⟩
          · exact still_loc one25 hL_21 0 rfl 1 (v := (Sl.v x_8)) rfl
          refine H.mono fun rv_13 h_22 H => ?_
          obtain ⟨x_33, x_34, x_35, t45_2, rfl, hL_22, H⟩ := H
          refine ⟨?_, ?_⟩
          · exact still_loc one25 hL_22 0 rfl 1 (v := (Sl.v x_8)) rfl
          refine ⟨?_, ?_⟩
          · exact still_loc one25 hL_22 0 rfl 1 (v := (Sl.v x_8)) rfl
          obtain ⟨hi_3, H⟩ := H
          refine pop_index sli25 siz3 .i64 x_8 t42_2 hi_3 ?_
          obtain ⟨hw_2, hL_23, H⟩ := H
          refine uop_cell (v := (VI t45_2)) siz3 hw_2 rfl (fun h_23 he_2 => ?_)
          rw [← he_2] at hL_23
          have H := H h_23 he_2 hL_23
          exact ⟨t10_2, x_7, x_8, x_33, x_34, x_35, rfl, H, hL_23⟩
      · have H := H.2 hb_6
        refine pop_ieq .i64 _ _ t33_1 1 ?_
        refine condM_b (fun hb_7 => ?_) (fun hb_7 => ?_)
        · have H := H.1 hb_7
          refine pop_field 0 fld34_0 b_5 0 ?_
          refine rop_loc one25 hL_15 0 rfl 0 (v := (Sl.v x_7)) rfl ?_
          refine H.mono fun rv_14 h_24 H => ?_
          obtain ⟨t51_1, rfl, hL_24, H⟩ := H
          refine H.mono fun rv_15 h_25 H => ?_
          obtain ⟨t52_1, rfl, hL_25, H⟩ := H
          refine pop_field 0 fld34_0 b_5 0 ?_
          refine uop_loc siz25 hL_25 0 rfl 0 [(Sl.v t52_1)] rfl rfl rfl (Nat.le_of_ble_eq_true rfl) (L' := [(b_5, [(Sl.v t52_1), (Sl.v x_8)]), (b_4, [(Sl.v t10_1)]), (b_3, [(Sl.v nilSl), (Sl.v nilSl)]), (b_2, [(Sl.v nilSl)]), (b_1, [(Sl.v x_21), (VI x_22), (Value.int .u64 x_23)])]) rfl (fun h_26 hf_8 hL_26 => ?_)
          have H := H  h_26  (Fr.old (Fr.r (In []) _) hf_8) hL_26
          exact ⟨t10_2, t52_1, x_8, x_21, x_22, x_23, rfl, H, hL_26⟩
        · have H := H.2 hb_7
          refine pop_ieq .i64 _ _ t33_1 2 ?_
          refine condM_b (fun hb_8 => ?_) (fun hb_8 => ?_)
          · have H := H.1 hb_8
            refine pop_field 0 fld32_0 b_4 0 ?_
            refine rop_loc one22 hL_15 1 rfl 0 (v := (Sl.v t10_1)) rfl ?_
            refine pop_len t10_1 _ _ sli22 ?_
            refine H.mono fun rv_16 h_27 H => ?_
            obtain ⟨t60_1, rfl, hL_27, H⟩ := H
            refine H.mono fun rv_17 h_28 H => ?_
            obtain ⟨x_36, x_37, x_38, t61_1, rfl, hL_28, H⟩ := H
            exact ⟨t61_1, x_7, x_8, x_36, x_37, x_38, rfl, H, hL_28⟩
          · have H := H.2 hb_8
            exact ⟨t10_2, x_7, x_8, x_21, x_22, x_23, rfl, H, hL_15⟩
    intro junk_2 tv_1 h_29
    rintro ⟨x_15, x_16, x_17, x_18, x_19, x_20, hv, hJ_2, hL_29⟩
    cases hv
    have H := HB_1 x_15 x_16 x_17 x_18 x_19 x_20 h_29 hJ_2 hL_29
    refine rop_locA agg32 hL_29 1 rfl 0 (vs := [(Sl.v t10_1)]) rfl rfl ?_
    refine rop_locA agg34 hL_29 0 rfl 0 (vs := [(Sl.v x_16), (Sl.v x_17)]) rfl rfl ?_
    refine uop_loc siz32 hL_29 3 rfl 0 [(Sl.v t10_1)] rfl rfl rfl (Nat.le_of_ble_eq_true rfl) (L' := [(b_5, [(Sl.v x_16), (Sl.v x_17)]), (b_4, [(Sl.v t10_1)]), (b_3, [(Sl.v nilSl), (Sl.v nilSl)]), (b_2, [(Sl.v t10_1)]), (b_1, [(Sl.v x_18), (VI x_19), (Value.int .u64 x_20)])]) rfl (fun h_30 hf_9 hL_30 => ?_)
    have H := H  h_30  (Fr.old (Fr.r (In []) _) hf_9) hL_30
    refine ⟨?_, ?_⟩
    · exact still_locA agg34 hL_30 0 rfl 0 (vs := [(Sl.v x_16), (Sl.v x_17)]) rfl rfl
    refine uop_loc siz34 hL_30 2 rfl 0 [(Sl.v x_16), (Sl.v x_17)] rfl rfl rfl (Nat.le_of_ble_eq_true rfl) (L' := [(b_5, [(Sl.v x_16), (Sl.v x_17)]), (b_4, [(Sl.v t10_1)]), (b_3, [(Sl.v x_16), (Sl.v x_17)]), (b_2, [(Sl.v t10_1)]), (b_1, [(Sl.v x_18), (VI x_19), (Value.int .u64 x_20)])]) rfl (fun h_31 hf_10 hL_31 => ?_)
    refine rop_locA agg32 hL_31 3 rfl 0 (vs := [(Sl.v t10_1)]) rfl rfl ?_
    refine rop_locA agg34 hL_31 2 rfl 0 (vs := [(Sl.v x_16), (Sl.v x_17)]) rfl rfl ?_
    have H := H  h_31  (Fr.old (Fr.r (In []) _) hf_10) hL_31
    exact H

/-! (*spec.l1Cur).one -/
def u99 (P : Program) (b_1 : Nat) (c0_1 : Sl) (c0_2 : Int) (c0_3 : Int) (n1_1 : Int) (h : Heap) (K : Value → Heap → Prop) : Prop :=
  callM P 100 #[(VP b_1 0), (VI n1_1)] h fun rv_1 h_1 => ∃ x_1 : Sl, ∃ x_2 : Int, ∃ x_3 : Int, ∃ t7_1 : Int, rv_1 = (VI t7_1) ∧ Vars h_1 [(b_1, [(Sl.v x_1), (VI x_2), (Value.int .u64 x_3)])] ∧
  K (VB (decide (t7_1 = 0))) h_1
theorem v99 (b_1 : Nat) (c0_1 : Sl) (c0_2 : Int) (c0_3 : Int) (n1_1 : Int) (h : Heap) (K : Value → Heap → Prop) (hL : Vars h [(b_1, [(Sl.v c0_1), (VI c0_2), (Value.int .u64 c0_3)])]) (H : u99 Try.prog b_1 c0_1 c0_2 c0_3 n1_1 h K) : callM Try.prog 99 #[(VP b_1 0), (VI n1_1)] h K := by
  refine c99 (VP b_1 0) (VI n1_1) h K ?_
  unfold u99 at H
  unfold t99
  refine H.mono fun rv_1 h_1 H => ?_
  obtain ⟨x_1, x_2, x_3, t7_1, rfl, hL_1, H⟩ := H
  refine pop_ieq .i64 _ _ t7_1 0 ?_
  exact H

/-! (*spec.l1Cur).pick -/
def u100 (P : Program) (b_1 : Nat) (c0_1 : Sl) (c0_2 : Int) (c0_3 : Int) (n1_1 : Int) (h : Heap) (K : Value → Heap → Prop) : Prop :=
  ((decide (n1_1 ≤ 1)) = true →
  K (VI 0) h) ∧
  ((decide (n1_1 ≤ 1)) = false →
  callM P 158 #[(VP b_1 0)] h fun rv_1 h_1 => ∃ x_1 : Sl, ∃ x_2 : Int, ∃ x_3 : Int, ∃ t9_1 : Int, rv_1 = (VI t9_1) ∧ Vars h_1 [(b_1, [(Sl.v x_1), (VI x_2), (Value.int .u64 x_3)])] ∧
  ∃ J_1 : Int → Sl → Int → Int → Heap → Prop, (((decide (200 < n1_1)) = true →
  callM P 158 #[(VP b_1 0)] h_1 fun rv_2 h_2 => ∃ x_8 : Sl, ∃ x_9 : Int, ∃ x_10 : Int, ∃ t15_1 : Int, rv_2 = (VI t15_1) ∧ Vars h_2 [(b_1, [(Sl.v x_8), (VI x_9), (Value.int .u64 x_10)])] ∧
  J_1 (w64 ((w64 (t9_1 * 256)) + t15_1)) x_8 x_9 x_10 h_2) ∧
  ((decide (200 < n1_1)) = false →
  J_1 t9_1 x_1 x_2 x_3 h_1)) ∧
  ∀ (x_4 : Int) (x_5 : Sl) (x_6 : Int) (x_7 : Int) (h_3 : Heap), J_1 x_4 x_5 x_6 x_7 h_3 → Vars h_3 [(b_1, [(Sl.v x_5), (VI x_6), (Value.int .u64 x_7)])] →
  n1_1 ≠ 0 ∧
  K (VI (Int.tmod x_4 n1_1)) h_3)
theorem v100 (b_1 : Nat) (c0_1 : Sl) (c0_2 : Int) (c0_3 : Int) (n1_1 : Int) (h : Heap) (K : Value → Heap → Prop) (hL : Vars h [(b_1, [(Sl.v c0_1), (VI c0_2), (Value.int .u64 c0_3)])]) (H : u100 Try.prog b_1 c0_1 c0_2 c0_3 n1_1 h K) : callM Try.prog 100 #[(VP b_1 0), (VI n1_1)] h K := by
  refine c100 (VP b_1 0) (VI n1_1) h K ?_
  unfold u100 at H
  unfold t100
  refine pop_leq .i64 n1_1 1 ?_
  refine condM_b (fun hb_1 => ?_) (fun hb_1 => ?_)
  · have H := H.1 hb_1
    exact H
  · have H := H.2 hb_1
    refine H.mono fun rv_1 h_1 H => ?_
    obtain ⟨x_1, x_2, x_3, t9_1, rfl, hL_1, H⟩ := H
    obtain ⟨J_1, H, HB_1⟩ := H
    refine ⟨fun (vs : List Value) (h' : Heap) => ∃ x_4 : Int, ∃ x_5 : Sl, ∃ x_6 : Int, ∃ x_7 : Int, vs = [(VI x_4)] ∧ J_1 x_4 x_5 x_6 x_7 h' ∧ Vars h' [(b_1, [(Sl.v x_5), (VI x_6), (Value.int .u64 x_7)])], ?_, ?_⟩
    · refine pop_gtr .i64 n1_1 200 ?_
      refine condM_b (fun hb_2 => ?_) (fun hb_2 => ?_)
      · have H := H.1 hb_2
        refine pop_mul .i64 t9_1 256 ?_
        refine H.mono fun rv_2 h_2 H => ?_
        obtain ⟨x_8, x_9, x_10, t15_1, rfl, hL_2, H⟩ := H
        refine pop_add .i64 (w64 (t9_1 * 256)) t15_1 ?_
        exact ⟨(w64 ((w64 (t9_1 * 256)) + t15_1)), x_8, x_9, x_10, rfl, H, hL_2⟩
      · have H := H.2 hb_2
        exact ⟨t9_1, x_1, x_2, x_3, rfl, H, hL_1⟩
    intro junk_1 tv_1 h_3
    rintro ⟨x_4, x_5, x_6, x_7, hv, hJ_1, hL_3⟩
    cases hv
    have H := HB_1 x_4 x_5 x_6 x_7 h_3 hJ_1 hL_3
    obtain ⟨hz_1, H⟩ := H
    refine pop_rem .i64 x_4 n1_1 hz_1 ?_
    exact H

/-! (*spec.l1Cur).among -/
def u101 (P : Program) (b_1 : Nat) (c0_1 : Sl) (c0_2 : Int) (c0_3 : Int) (list1_1 : Sl) (h : Heap) (K : Value → Heap → Prop) : Prop :=
  callM P 100 #[(VP b_1 0), (VI (list1_1.n : Int))] h fun rv_1 h_1 => ∃ x_1 : Sl, ∃ x_2 : Int, ∃ x_3 : Int, ∃ t9_1 : Int, rv_1 = (VI t9_1) ∧ Vars h_1 [(b_1, [(Sl.v x_1), (VI x_2), (Value.int .u64 x_3)])] ∧
  InB list1_1 t9_1 ∧
  ∃ t11_1 : Int, hcell h_1 (Sl.at list1_1 t9_1 1) = some (VI t11_1) ∧
  K (VI t11_1) h_1
theorem v101 (b_1 : Nat) (c0_1 : Sl) (c0_2 : Int) (c0_3 : Int) (list1_1 : Sl) (h : Heap) (K : Value → Heap → Prop) (hL : Vars h [(b_1, [(Sl.v c0_1), (VI c0_2), (Value.int .u64 c0_3)])]) (H : u101 Try.prog b_1 c0_1 c0_2 c0_3 list1_1 h K) : callM Try.prog 101 #[(VP b_1 0), (Sl.v list1_1)] h K := by
  refine c101 (VP b_1 0) (Sl.v list1_1) h K ?_
  unfold u101 at H
  unfold t101
  refine pop_len list1_1 _ _ sli25 ?_
  refine H.mono fun rv_1 h_1 H => ?_
  obtain ⟨x_1, x_2, x_3, t9_1, rfl, hL_1, H⟩ := H
  obtain ⟨hi_1, H⟩ := H
  refine pop_index sli25 siz3 .i64 list1_1 t9_1 hi_1 ?_
  obtain ⟨t11_1, hc_1, H⟩ := H
  refine rop_one one3 (VI t11_1) hc_1 ?_
  exact H

/-! slices.ContainsFunc[[]int,int] -/
def u102 (P : Program) (s0_1 : Sl) (f1_1 : Value) (h : Heap) (K : Value → Heap → Prop) : Prop :=
  callM P 159 #[(Sl.v s0_1), f1_1] h fun rv_1 h_1 => ∃ t7_1 : Int, rv_1 = (VI t7_1) ∧ Vars h_1 [] ∧
  K (VB (decide (0 ≤ t7_1))) h_1
theorem v102 (s0_1 : Sl) (f1_1 : Value) (h : Heap) (K : Value → Heap → Prop) (H : u102 Try.prog s0_1 f1_1 h K) : callM Try.prog 102 #[(Sl.v s0_1), f1_1] h K := by
  refine c102 (Sl.v s0_1) f1_1 h K ?_
  unfold u102 at H
  unfold t102
  have hL : Vars h [] := .nil
  refine H.mono fun rv_1 h_1 H => ?_
  obtain ⟨t7_1, rfl, hL_1, H⟩ := H
  refine pop_geq .i64 t7_1 0 ?_
  exact H

/-! impl.EndOfLoad$1 -/
def u103 (P : Program) (c0_1 : Int) (h : Heap) (K : Value → Heap → Prop) : Prop :=
  K (VB (decide (c0_1 < 0))) h
theorem v103 (c0_1 : Int) (h : Heap) (K : Value → Heap → Prop) (H : u103 Try.prog c0_1 h K) : callM Try.prog 103 #[(VI c0_1)] h K := by
  refine c103 (VI c0_1) h K ?_
  unfold u103 at H
  unfold t103
  have hL : Vars h [] := .nil
  refine pop_lss .i64 c0_1 0 ?_
  exact H

/-! spec.l1All -/
def u104 (P : Program) (l0_1 : Sl) (lo1_1 : Int) (hi2_1 : Int) (h : Heap) (K : Value → Heap → Prop) : Prop :=
  ∃ J_1 : Nat → Int → Heap → Prop, (∃ n0 : Nat, J_1 n0 0 h) ∧
  ∀ (n_1 : Nat) (t11_1 : Int) (h_1 : Heap), J_1 n_1 t11_1 h_1 → Vars h_1 [] →
  ((decide (t11_1 < (l0_1.n : Int))) = true →
  InB l0_1 t11_1 ∧
  ∃ t14_1 : Int, hcell h_1 (Sl.at l0_1 t11_1 1) = some (VI t14_1) ∧
  callM P 117 #[(VI t14_1), (VI lo1_1), (VI hi2_1)] h_1 fun rv_1 h_2 => ∃ t18_1 : Bool, rv_1 = (VB t18_1) ∧ Vars h_2 [] ∧
  ((!t18_1) = true →
  K (VB false) h_2) ∧
  ((!t18_1) = false →
  ∃ m : Nat, m < n_1 ∧ J_1 m (w64 (t11_1 + 1)) h_2)) ∧
  ((decide (t11_1 < (l0_1.n : Int))) = false →
  K (VB true) h_1)
theorem v104 (l0_1 : Sl) (lo1_1 : Int) (hi2_1 : Int) (h : Heap) (K : Value → Heap → Prop) (H : u104 Try.prog l0_1 lo1_1 hi2_1 h K) : callM Try.prog 104 #[(Sl.v l0_1), (VI lo1_1), (VI hi2_1)] h K := by
  refine c104 (Sl.v l0_1) (VI lo1_1) (VI hi2_1) h K ?_
  unfold u104 at H
  unfold t104
  have hL : Vars h [] := .nil
  refine pop_len l0_1 _ _ sli25 ?_
  obtain ⟨J_1, ⟨n_2, h0_1⟩, HB_1⟩ := H
  refine loop_intro (J := fun (n : Nat) (vs : List Value) (h' : Heap) => ∃ t11_1 : Int, vs = [(VI t11_1)] ∧ J_1 n t11_1 h' ∧ Vars h' []) n_2 ⟨0, rfl, h0_1, hL⟩ ?_
  intro I_1 mu_1 hI_1 junk_1 tv_1 h_1 hi_1
  obtain ⟨n_1, ⟨t11_1, hv, hJ_1, hL_1⟩, hn_1⟩ := hI_1 _ _ hi_1
  cases hv
  have H := HB_1 n_1 t11_1 h_1 hJ_1 hL_1
  refine pop_lss .i64 t11_1 (l0_1.n : Int) ?_
  refine condM_b (fun hb_1 => ?_) (fun hb_1 => ?_)
  · have H := H.1 hb_1
    obtain ⟨hi_2, H⟩ := H
    refine pop_index sli25 siz3 .i64 l0_1 t11_1 hi_2 ?_
    obtain ⟨t14_1, hc_1, H⟩ := H
    refine rop_one one3 (VI t14_1) hc_1 ?_
    refine H.mono fun rv_1 h_2 H => ?_
    obtain ⟨t18_1, rfl, hL_2, H⟩ := H
    refine pop_not t18_1 ?_
    refine condM_b (fun hb_2 => ?_) (fun hb_2 => ?_)
    · have H := H.1 hb_2
      exact H
    · have H := H.2 hb_2
      refine pop_add .i64 t11_1 1 ?_
      obtain ⟨m_1, hm_1, H⟩ := H
      exact hn_1 _ _ ⟨m_1, hm_1, (w64 (t11_1 + 1)), rfl, H, hL_2⟩
  · have H := H.2 hb_1
    exact H

/-! impl.hasSink -/
def u105 (P : Program) (g0_1 : Sl) (sink1_1 : Int) (h : Heap) (K : Value → Heap → Prop) : Prop :=
  ∀ (b_1 : Nat) (h_1 : Heap), h.size ≤ b_1 → Fr (In []) h h_1 → Vars h_1 [(b_1, [(Sl.v g0_1)])] →
  eop P (Instr.buildSlice 25 1 #[(0, (VI sink1_1))]) h_1 fun rv_1 h_2 => ∃ t7_1 : Sl, rv_1 = (Sl.v t7_1) ∧ Vars h_2 [(b_1, [(Sl.v g0_1)])] ∧
  callM P 107 #[(Value.agg #[(Sl.v g0_1)]), (Sl.v t7_1)] h_2 fun rv_2 h_3 => ∃ t8_1 : Bool, rv_2 = (VB t8_1) ∧ Vars h_3 [(b_1, [(Sl.v g0_1)])] ∧
  (t8_1 = true →
  callM P 160 #[(Value.agg #[(Sl.v g0_1)]), (VI sink1_1)] h_3 fun rv_3 h_4 => ∃ t12_1 : Bool, rv_3 = (VB t12_1) ∧ Vars h_4 [(b_1, [(Sl.v g0_1)])] ∧
  K (VB t12_1) h_4) ∧
  (t8_1 = false →
  K (VB false) h_3)
theorem v105 (g0_1 : Sl) (sink1_1 : Int) (h : Heap) (K : Value → Heap → Prop) (H : u105 Try.prog g0_1 sink1_1 h K) : callM Try.prog 105 #[(Value.agg #[(Sl.v g0_1)]), (VI sink1_1)] h K := by
  refine c105 (Value.agg #[(Sl.v g0_1)]) (VI sink1_1) h K ?_
  unfold u105 at H
  unfold t105
  have hL : Vars h [] := .nil
  refine eop_box 32 (Value.agg #[(Sl.v g0_1)]) rfl hL (fun b_1 h_1 hb_1 hf_1 hL_1 => ?_)
  refine rop_locA agg32 hL_1 0 rfl 0 (vs := [(Sl.v g0_1)]) rfl rfl ?_
  have H := H b_1 h_1 (Nat.le_trans (Fr.size (Fr.r (In []) _)) hb_1) (Fr.no' (Fr.r (In []) _) hf_1) hL_1
  refine H.mono fun rv_1 h_2 H => ?_
  obtain ⟨t7_1, rfl, hL_2, H⟩ := H
  refine H.mono fun rv_2 h_3 H => ?_
  obtain ⟨t8_1, rfl, hL_3, H⟩ := H
  refine guardM_st (fun hb_2 => ?_) (fun hb_2 => ?_)
  · have H := H.1 hb_2
    refine rop_locA agg32 hL_3 0 rfl 0 (vs := [(Sl.v g0_1)]) rfl rfl ?_
    refine guardM_y' hb_2 ?_
    refine guardM_y' hb_2 ?_
    refine H.mono fun rv_3 h_4 H => ?_
    obtain ⟨t12_1, rfl, hL_4, H⟩ := H
    refine pop_pickt' hb_2 ?_
    exact H
  · have H := H.2 hb_2
    refine guardM_n' hb_2 (by decide) ?_
    refine guardM_n' hb_2 (by decide) ?_
    refine pop_pickf' hb_2 ?_
    exact H

/-! (*spec.l1Cur).place -/
def u106 (P : Program) (b_1 : Nat) (c0_1 : Sl) (c0_2 : Int) (c0_3 : Int) (g1_1 : Sl) (h : Heap) (K : Value → Heap → Prop) : Prop :=
  ((decide ((g1_1.n : Int) = 0)) = true →
  ∀ (b_2 : Nat) (h_1 : Heap), h.size ≤ b_2 → Fr (In []) h h_1 → Vars h_1 [(b_2, [(Sl.v g1_1)]), (b_1, [(Sl.v c0_1), (VI c0_2), (Value.int .u64 c0_3)])] →
  eop P (Instr.buildSlice 25 4 #[(0, (Value.int IntKind.i64 (-1))), (1, (Value.int IntKind.i64 0)), (2, (VI (g1_1.n : Int))), (3, (Value.int IntKind.i64 4611686018427387904))]) h_1 fun rv_5 h_6 => ∃ t17_2 : Sl, rv_5 = (Sl.v t17_2) ∧ Vars h_6 [(b_2, [(Sl.v g1_1)]), (b_1, [(Sl.v c0_1), (VI c0_2), (Value.int .u64 c0_3)])] ∧
  callM P 101 #[(VP b_1 0), (Sl.v t17_2)] h_6 fun rv_6 h_7 => ∃ x_10 : Sl, ∃ x_11 : Int, ∃ x_12 : Int, ∃ t18_2 : Int, rv_6 = (VI t18_2) ∧ Vars h_7 [(b_2, [(Sl.v g1_1)]), (b_1, [(Sl.v x_10), (VI x_11), (Value.int .u64 x_12)])] ∧
  K (VI t18_2) h_7) ∧
  ((decide ((g1_1.n : Int) = 0)) = false →
  ∀ (b_2 : Nat) (h_1 : Heap), h.size ≤ b_2 → Fr (In []) h h_1 → Vars h_1 [(b_2, [(Sl.v g1_1)]), (b_1, [(Sl.v c0_1), (VI c0_2), (Value.int .u64 c0_3)])] →
  callM P 99 #[(VP b_1 0), (VI 14)] h_1 fun rv_1 h_2 => ∃ x_1 : Sl, ∃ x_2 : Int, ∃ x_3 : Int, ∃ t11_1 : Bool, rv_1 = (VB t11_1) ∧ Vars h_2 [(b_2, [(Sl.v g1_1)]), (b_1, [(Sl.v x_1), (VI x_2), (Value.int .u64 x_3)])] ∧
  (t11_1 = true →
  eop P (Instr.buildSlice 25 4 #[(0, (Value.int IntKind.i64 (-1))), (1, (Value.int IntKind.i64 0)), (2, (VI (g1_1.n : Int))), (3, (Value.int IntKind.i64 4611686018427387904))]) h_2 fun rv_2 h_3 => ∃ t17_1 : Sl, rv_2 = (Sl.v t17_1) ∧ Vars h_3 [(b_2, [(Sl.v g1_1)]), (b_1, [(Sl.v x_1), (VI x_2), (Value.int .u64 x_3)])] ∧
  callM P 101 #[(VP b_1 0), (Sl.v t17_1)] h_3 fun rv_3 h_4 => ∃ x_4 : Sl, ∃ x_5 : Int, ∃ x_6 : Int, ∃ t18_1 : Int, rv_3 = (VI t18_1) ∧ Vars h_4 [(b_2, [(Sl.v g1_1)]), (b_1, [(Sl.v x_4), (VI x_5), (Value.int .u64 x_6)])] ∧
  K (VI t18_1) h_4) ∧
  (t11_1 = false →
  callM P 100 #[(VP b_1 0), (VI (g1_1.n : Int))] h_2 fun rv_4 h_5 => ∃ x_7 : Sl, ∃ x_8 : Int, ∃ x_9 : Int, ∃ t23_1 : Int, rv_4 = (VI t23_1) ∧ Vars h_5 [(b_2, [(Sl.v g1_1)]), (b_1, [(Sl.v x_7), (VI x_8), (Value.int .u64 x_9)])] ∧
  K (VI t23_1) h_5))
theorem v106 (b_1 : Nat) (c0_1 : Sl) (c0_2 : Int) (c0_3 : Int) (g1_1 : Sl) (h : Heap) (K : Value → Heap → Prop) (hL : Vars h [(b_1, [(Sl.v c0_1), (VI c0_2), (Value.int .u64 c0_3)])]) (H : u106 Try.prog b_1 c0_1 c0_2 c0_3 g1_1 h K) : callM Try.prog 106 #[(VP b_1 0), (Value.agg #[(Sl.v g1_1)])] h K := by
  refine c106 (VP b_1 0) (Value.agg #[(Sl.v g1_1)]) h K ?_
  unfold u106 at H
  unfold t106
  refine eop_box 32 (Value.agg #[(Sl.v g1_1)]) rfl hL (fun b_2 h_1 hb_1 hf_1 hL_1 => ?_)
  refine pop_field 0 fld32_0 b_2 0 ?_
  refine rop_loc one22 hL_1 0 rfl 0 (v := (Sl.v g1_1)) rfl ?_
  refine pop_len g1_1 _ _ sli22 ?_
  refine pop_ieq .i64 _ _ (g1_1.n : Int) 0 ?_
  refine guardM_sf (fun hb_2 => ?_) (fun hb_2 => ?_)
  · have H := H.2 hb_2
    refine guardM_y' hb_2 ?_
    have H := H b_2 h_1 (Nat.le_trans (Fr.size (Fr.r (In []) _)) hb_1) (Fr.no' (Fr.r (In []) _) hf_1) hL_1
    refine H.mono fun rv_1 h_2 H => ?_
    obtain ⟨x_1, x_2, x_3, t11_1, rfl, hL_2, H⟩ := H
    refine pop_pickf' hb_2 ?_
    refine condM_b (fun hb_3 => ?_) (fun hb_3 => ?_)
    · have H := H.1 hb_3
      refine pop_field 0 fld32_0 b_2 0 ?_
      refine rop_loc one22 hL_2 0 rfl 0 (v := (Sl.v g1_1)) rfl ?_
      refine pop_len g1_1 _ _ sli22 ?_
      refine H.mono fun rv_2 h_3 H => ?_
      obtain ⟨t17_1, rfl, hL_3, H⟩ := H
      refine H.mono fun rv_3 h_4 H => ?_
      obtain ⟨x_4, x_5, x_6, t18_1, rfl, hL_4, H⟩ := H
      exact H
    · have H := H.2 hb_3
      refine pop_field 0 fld32_0 b_2 0 ?_
      refine rop_loc one22 hL_2 0 rfl 0 (v := (Sl.v g1_1)) rfl ?_
      refine pop_len g1_1 _ _ sli22 ?_
      refine H.mono fun rv_4 h_5 H => ?_
      obtain ⟨x_7, x_8, x_9, t23_1, rfl, hL_5, H⟩ := H
      exact H
  · have H := H.1 hb_2
    refine guardM_n' hb_2 (by decide) ?_
    refine pop_pickt' hb_2 ?_
    refine condM_t ?_
    refine pop_field 0 fld32_0 b_2 0 ?_
    refine rop_loc one22 hL_1 0 rfl 0 (v := (Sl.v g1_1)) rfl ?_
    refine pop_len g1_1 _ _ sli22 ?_
    have H := H b_2 h_1 (Nat.le_trans (Fr.size (Fr.r (In []) _)) hb_1) (Fr.no' (Fr.r (In []) _) hf_1) hL_1
    refine H.mono fun rv_5 h_6 H => ?_
    obtain ⟨t17_2, rfl, hL_6, H⟩ := H
    refine H.mono fun rv_6 h_7 H => ?_
    obtain ⟨x_10, x_11, x_12, t18_2, rfl, hL_7, H⟩ := H
    exact H

/-! impl.has -/
def u107 (P : Program) (g0_1 : Sl) (places1_1 : Sl) (h : Heap) (K : Value → Heap → Prop) : Prop :=
  ∀ (b_1 : Nat) (h_1 : Heap), h.size ≤ b_1 → Fr (In []) h h_1 → Vars h_1 [(b_1, [(Sl.v g0_1)])] →
  callM P 88 #[(Value.agg #[(Sl.v g0_1)])] h_1 fun rv_1 h_2 => ∃ t6_1 : Bool, rv_1 = (VB t6_1) ∧ Vars h_2 [(b_1, [(Sl.v g0_1)])] ∧
  (t6_1 = true →
  callM P 102 #[(Sl.v places1_1), (Value.func (Fn.func 161) #[] #[(VP b_1 0)])] h_2 fun rv_2 h_3 => ∃ x_1 : Sl, ∃ t10_1 : Bool, rv_2 = (VB t10_1) ∧ Vars h_3 [(b_1, [(Sl.v x_1)])] ∧
  K (VB (!t10_1)) h_3) ∧
  (t6_1 = false →
  K (VB false) h_2)
theorem v107 (g0_1 : Sl) (places1_1 : Sl) (h : Heap) (K : Value → Heap → Prop) (H : u107 Try.prog g0_1 places1_1 h K) : callM Try.prog 107 #[(Value.agg #[(Sl.v g0_1)]), (Sl.v places1_1)] h K := by
  refine c107 (Value.agg #[(Sl.v g0_1)]) (Sl.v places1_1) h K ?_
  unfold u107 at H
  unfold t107
  have hL : Vars h [] := .nil
  refine eop_box 32 (Value.agg #[(Sl.v g0_1)]) rfl hL (fun b_1 h_1 hb_1 hf_1 hL_1 => ?_)
  refine rop_locA agg32 hL_1 0 rfl 0 (vs := [(Sl.v g0_1)]) rfl rfl ?_
  have H := H b_1 h_1 (Nat.le_trans (Fr.size (Fr.r (In []) _)) hb_1) (Fr.no' (Fr.r (In []) _) hf_1) hL_1
  refine H.mono fun rv_1 h_2 H => ?_
  obtain ⟨t6_1, rfl, hL_2, H⟩ := H
  refine guardM_st (fun hb_2 => ?_) (fun hb_2 => ?_)
  · have H := H.1 hb_2
    refine guardM_y' hb_2 ?_
    refine pop_func _ _ _ ?_
    refine guardM_y' hb_2 ?_
    refine H.mono fun rv_2 h_3 H => ?_
    obtain ⟨x_1, t10_1, rfl, hL_3, H⟩ := H
    refine guardM_y' hb_2 ?_
    refine pop_not t10_1 ?_
    refine pop_pickt' hb_2 ?_
    exact H
  · have H := H.2 hb_2
    refine guardM_n' hb_2 (by decide) ?_
    refine guardM_n' hb_2 (by decide) ?_
    refine guardM_n' hb_2 (by decide) ?_
    refine pop_pickf' hb_2 ?_
    exact H

/-! (*impl.Load).move -/
def u108 (P : Program) (b_1 : Nat) (l0_1 : Sl) (l0_2 : Sl) (g1_1 : Sl) (sink2_1 : Int) (p3_1 : Int) (h : Heap) (K : Value → Heap → Prop) : Prop :=
  ((decide (p3_1 = sink2_1)) = true →
  ∀ (b_2 : Nat) (h_1 : Heap), h.size ≤ b_2 → Fr (In []) h h_1 → Vars h_1 [(b_2, [(Sl.v g1_1)]), (b_1, [(Sl.v l0_1), (Sl.v l0_2)])] →
  K (VB false) h_1) ∧
  ((decide (p3_1 = sink2_1)) = false →
  InB l0_2 p3_1 ∧
  ∀ (b_2 : Nat) (h_1 : Heap), h.size ≤ b_2 → Fr (In []) h h_1 → Vars h_1 [(b_2, [(Sl.v g1_1)]), (b_1, [(Sl.v l0_1), (Sl.v l0_2)])] →
  ∃ t19_1 : Int, hcell h_1 (Sl.at l0_2 p3_1 1) = some (VI t19_1) ∧
  ((decide (t19_1 = 0)) = true →
  K (VB false) h_1) ∧
  ((decide (t19_1 = 0)) = false →
  callM P 143 #[(VP b_1 0), (Value.agg #[(Sl.v g1_1)]), (VI p3_1)] h_1 fun rv_1 h_2 => ∃ x_1 : Sl, ∃ x_2 : Sl, Vars h_2 [(b_2, [(Sl.v g1_1)]), (b_1, [(Sl.v x_1), (Sl.v x_2)])] ∧
  K (VB true) h_2))
theorem v108 (b_1 : Nat) (l0_1 : Sl) (l0_2 : Sl) (g1_1 : Sl) (sink2_1 : Int) (p3_1 : Int) (h : Heap) (K : Value → Heap → Prop) (hL : Vars h [(b_1, [(Sl.v l0_1), (Sl.v l0_2)])]) (H : u108 Try.prog b_1 l0_1 l0_2 g1_1 sink2_1 p3_1 h K) : callM Try.prog 108 #[(VP b_1 0), (Value.agg #[(Sl.v g1_1)]), (VI sink2_1), (VI p3_1)] h K := by
  refine c108 (VP b_1 0) (Value.agg #[(Sl.v g1_1)]) (VI sink2_1) (VI p3_1) h K ?_
  unfold u108 at H
  unfold t108
  refine eop_box 32 (Value.agg #[(Sl.v g1_1)]) rfl hL (fun b_2 h_1 hb_1 hf_1 hL_1 => ?_)
  refine pop_ieq .i64 _ _ p3_1 sink2_1 ?_
  refine guardM_sf (fun hb_2 => ?_) (fun hb_2 => ?_)
  · have H := H.2 hb_2
    refine guardM_y' hb_2 ?_
    refine pop_nil _ ?_
    refine guardM_y' hb_2 ?_
    refine pop_field 1 fld34_1 b_1 0 ?_
    refine guardM_y' hb_2 ?_
    refine rop_loc one25 hL_1 1 rfl 1 (v := (Sl.v l0_2)) rfl ?_
    refine guardM_y' hb_2 ?_
    refine guardM_y' hb_2 ?_
    obtain ⟨hi_1, H⟩ := H
    refine pop_index sli25 siz3 .i64 l0_2 p3_1 hi_1 ?_
    refine guardM_y' hb_2 ?_
    have H := H b_2 h_1 (Nat.le_trans (Fr.size (Fr.r (In []) _)) hb_1) (Fr.no' (Fr.r (In []) _) hf_1) hL_1
    obtain ⟨t19_1, hc_1, H⟩ := H
    refine rop_one one3 (VI t19_1) hc_1 ?_
    refine guardM_y' hb_2 ?_
    refine pop_ieq .i64 _ _ t19_1 0 ?_
    refine pop_pickf' hb_2 ?_
    refine condM_b (fun hb_3 => ?_) (fun hb_3 => ?_)
    · have H := H.1 hb_3
      exact H
    · have H := H.2 hb_3
      refine rop_locA agg32 hL_1 0 rfl 0 (vs := [(Sl.v g1_1)]) rfl rfl ?_
      refine H.mono fun rv_1 h_2 H => ?_
      obtain ⟨x_1, x_2, hL_2, H⟩ := H
      exact H
  · have H := H.1 hb_2
    refine guardM_n' hb_2 (by decide) ?_
    refine guardM_n' hb_2 (by decide) ?_
    refine guardM_n' hb_2 (by decide) ?_
    refine guardM_n' hb_2 (by decide) ?_
    refine guardM_n' hb_2 (by decide) ?_
    refine guardM_n' hb_2 (by decide) ?_
    refine guardM_n' hb_2 (by decide) ?_
    refine pop_pickt' hb_2 ?_
    refine condM_t ?_
    have H := H b_2 h_1 (Nat.le_trans (Fr.size (Fr.r (In []) _)) hb_1) (Fr.no' (Fr.r (In []) _) hf_1) hL_1
    exact H

/-! spec.chOwn -/
def u109 (P : Program) (l0_1 : Sl) (l0_2 : Sl) (h : Heap) (K : Value → Heap → Prop) : Prop :=
  ∀ (b_1 : Nat) (b_2 : Nat) (h_2 : Heap), h.size ≤ b_1 → h.size ≤ b_2 → Fr (In []) h h_2 → Vars h_2 [(b_2, [(Sl.v nilSl), (Sl.v nilSl)]), (b_1, [(Sl.v l0_1), (Sl.v l0_2)])] →
  callM P 130 #[(Sl.v l0_1)] h_2 fun rv_1 h_3 => ∃ t5_1 : Sl, rv_1 = (Sl.v t5_1) ∧ Vars h_3 [(b_2, [(Sl.v nilSl), (Sl.v nilSl)]), (b_1, [(Sl.v l0_1), (Sl.v l0_2)])] ∧
  callM P 130 #[(Sl.v l0_2)] h_3 fun rv_2 h_4 => ∃ t8_1 : Sl, rv_2 = (Sl.v t8_1) ∧ Vars h_4 [(b_2, [(Sl.v nilSl), (Sl.v nilSl)]), (b_1, [(Sl.v l0_1), (Sl.v l0_2)])] ∧
  ∀ (h_5 : Heap), Fr (In [b_2]) h_4 h_5 → Vars h_5 [(b_2, [(Sl.v t5_1), (Sl.v t8_1)]), (b_1, [(Sl.v l0_1), (Sl.v l0_2)])] →
  K (Value.agg #[(Sl.v t5_1), (Sl.v t8_1)]) h_5
theorem v109 (l0_1 : Sl) (l0_2 : Sl) (h : Heap) (K : Value → Heap → Prop) (H : u109 Try.prog l0_1 l0_2 h K) : callM Try.prog 109 #[(Value.agg #[(Sl.v l0_1), (Sl.v l0_2)])] h K := by
  refine c109 (Value.agg #[(Sl.v l0_1), (Sl.v l0_2)]) h K ?_
  unfold u109 at H
  unfold t109
  have hL : Vars h [] := .nil
  refine eop_box 34 (Value.agg #[(Sl.v l0_1), (Sl.v l0_2)]) rfl hL (fun b_1 h_1 hb_1 hf_1 hL_1 => ?_)
  refine eop_alloc 34 zer34 rfl hL_1 (fun b_2 h_2 hb_2 hf_2 hL_2 => ?_)
  refine pop_field 0 fld34_0 b_1 0 ?_
  refine rop_loc one25 hL_2 1 rfl 0 (v := (Sl.v l0_1)) rfl ?_
  refine pop_field 1 fld34_1 b_1 0 ?_
  refine rop_loc one25 hL_2 1 rfl 1 (v := (Sl.v l0_2)) rfl ?_
  have H := H b_1 b_2 h_2 (Nat.le_trans (Fr.size (Fr.r (In []) _)) hb_1) (Nat.le_trans (Fr.size (Fr.no' (Fr.r (In []) _) hf_1)) hb_2) (Fr.no' (Fr.no' (Fr.r (In []) _) hf_1) hf_2) hL_2
  refine H.mono fun rv_1 h_3 H => ?_
  obtain ⟨t5_1, rfl, hL_3, H⟩ := H
  refine ⟨?_, ?_⟩
  · exact still_loc one25 hL_3 1 rfl 1 (v := (Sl.v l0_2)) rfl
  refine H.mono fun rv_2 h_4 H => ?_
  obtain ⟨t8_1, rfl, hL_4, H⟩ := H
  refine pop.mk' (v := (Value.agg #[(Sl.v t5_1), (Sl.v t8_1)])) (fun w => by kernel_rfl) ?_
  refine uop_loc siz34 hL_4 0 rfl 0 [(Sl.v t5_1), (Sl.v t8_1)] rfl rfl rfl (Nat.le_of_ble_eq_true rfl) (L' := [(b_2, [(Sl.v t5_1), (Sl.v t8_1)]), (b_1, [(Sl.v l0_1), (Sl.v l0_2)])]) rfl (fun h_5 hf_3 hL_5 => ?_)
  refine rop_locA agg34 hL_5 0 rfl 0 (vs := [(Sl.v t5_1), (Sl.v t8_1)]) rfl rfl ?_
  have H := H  h_5  (Fr.old (Fr.r (In []) _) hf_3) hL_5
  exact H

/-! spec.chMove -/
def u110 (P : Program) (g0_1 : Sl) (l1_1 : Sl) (l1_2 : Sl) (p2_1 : Int) (h : Heap) (K : Value → Heap → Prop) : Prop :=
  InB g0_1 p2_1 ∧
  ∀ (b_1 : Nat) (b_2 : Nat) (h_2 : Heap), h.size ≤ b_1 → h.size ≤ b_2 → Fr (In []) h h_2 → Vars h_2 [(b_2, [(Sl.v l1_1), (Sl.v l1_2)]), (b_1, [(Sl.v g0_1)])] →
  ∃ t11_1 : Sl, hcell h_2 (Sl.at g0_1 p2_1 1) = some (Sl.v t11_1) ∧
  InB l1_1 p2_1 ∧
  ∃ t19_1 : Int, hcell h_2 (Sl.at l1_1 p2_1 1) = some (VI t19_1) ∧
  (t11_1.n : Int) ≠ 0 ∧
  InB l1_1 p2_1 ∧
  Writable h_2 (Sl.at l1_1 p2_1 1) ∧ Vars (hset h_2 (Sl.at l1_1 p2_1 1) (VI (Int.tmod (w64 (t19_1 + 1)) (t11_1.n : Int)))) [(b_2, [(Sl.v l1_1), (Sl.v l1_2)]), (b_1, [(Sl.v g0_1)])] ∧
  ∀ h_3 : Heap, h_3 = hset h_2 (Sl.at l1_1 p2_1 1) (VI (Int.tmod (w64 (t19_1 + 1)) (t11_1.n : Int))) → Vars h_3 [(b_2, [(Sl.v l1_1), (Sl.v l1_2)]), (b_1, [(Sl.v g0_1)])] →
  InB l1_2 p2_1 ∧
  ∃ t29_1 : Int, hcell h_3 (Sl.at l1_2 p2_1 1) = some (VI t29_1) ∧
  InB l1_2 p2_1 ∧
  Writable h_3 (Sl.at l1_2 p2_1 1) ∧ Vars (hset h_3 (Sl.at l1_2 p2_1 1) (VI (w64 (t29_1 - 1)))) [(b_2, [(Sl.v l1_1), (Sl.v l1_2)]), (b_1, [(Sl.v g0_1)])] ∧
  ∀ h_4 : Heap, h_4 = hset h_3 (Sl.at l1_2 p2_1 1) (VI (w64 (t29_1 - 1))) → Vars h_4 [(b_2, [(Sl.v l1_1), (Sl.v l1_2)]), (b_1, [(Sl.v g0_1)])] →
  InB l1_1 p2_1 ∧
  ∃ t39_1 : Int, hcell h_4 (Sl.at l1_1 p2_1 1) = some (VI t39_1) ∧
  InB t11_1 t39_1 ∧
  ∃ t41_1 : Int, hcell h_4 (Sl.at t11_1 t39_1 1) = some (VI t41_1) ∧
  InB l1_2 t41_1 ∧
  ∃ t43_1 : Int, hcell h_4 (Sl.at l1_2 t41_1 1) = some (VI t43_1) ∧
  InB l1_2 t41_1 ∧
  Writable h_4 (Sl.at l1_2 t41_1 1) ∧ Vars (hset h_4 (Sl.at l1_2 t41_1 1) (VI (w64 (t43_1 + 1)))) [(b_2, [(Sl.v l1_1), (Sl.v l1_2)]), (b_1, [(Sl.v g0_1)])] ∧
  ∀ h_5 : Heap, h_5 = hset h_4 (Sl.at l1_2 t41_1 1) (VI (w64 (t43_1 + 1))) → Vars h_5 [(b_2, [(Sl.v l1_1), (Sl.v l1_2)]), (b_1, [(Sl.v g0_1)])] →
  K (Value.tuple #[]) h_5
theorem v110 (g0_1 : Sl) (l1_1 : Sl) (l1_2 : Sl) (p2_1 : Int) (h : Heap) (K : Value → Heap → Prop) (H : u110 Try.prog g0_1 l1_1 l1_2 p2_1 h K) : callM Try.prog 110 #[(Value.agg #[(Sl.v g0_1)]), (Value.agg #[(Sl.v l1_1), (Sl.v l1_2)]), (VI p2_1)] h K := by
  refine c110 (Value.agg #[(Sl.v g0_1)]) (Value.agg #[(Sl.v l1_1), (Sl.v l1_2)]) (VI p2_1) h K ?_
  unfold u110 at H
  unfold t110
  have hL : Vars h [] := .nil
  refine eop_box 32 (Value.agg #[(Sl.v g0_1)]) rfl hL (fun b_1 h_1 hb_1 hf_1 hL_1 => ?_)
  refine eop_box 34 (Value.agg #[(Sl.v l1_1), (Sl.v l1_2)]) rfl hL_1 (fun b_2 h_2 hb_2 hf_2 hL_2 => ?_)
  refine pop_field 0 fld32_0 b_1 0 ?_
  refine rop_loc one22 hL_2 1 rfl 0 (v := (Sl.v g0_1)) rfl ?_
  obtain ⟨hi_1, H⟩ := H
  refine pop_index sli22 siz25 .i64 g0_1 p2_1 hi_1 ?_
  have H := H b_1 b_2 h_2 (Nat.le_trans (Fr.size (Fr.r (In []) _)) hb_1) (Nat.le_trans (Fr.size (Fr.no' (Fr.r (In []) _) hf_1)) hb_2) (Fr.no' (Fr.no' (Fr.r (In []) _) hf_1) hf_2) hL_2
  obtain ⟨t11_1, hc_6, H⟩ := H
  refine rop_one one25 (Sl.v t11_1) hc_6 ?_
  refine pop_field 0 fld34_0 b_2 0 ?_
  refine rop_loc one25 hL_2 0 rfl 0 (v := (Sl.v l1_1)) rfl ?_
  refine pop_field 0 fld34_0 b_2 0 ?_
  refine rop_loc one25 hL_2 0 rfl 0 (v := (Sl.v l1_1)) rfl ?_
  obtain ⟨hi_2, H⟩ := H
  refine pop_index sli25 siz3 .i64 l1_1 p2_1 hi_2 ?_
  obtain ⟨t19_1, hc_5, H⟩ := H
  refine rop_one one3 (VI t19_1) hc_5 ?_
  refine pop_add .i64 t19_1 1 ?_
  refine pop_len t11_1 _ _ sli25 ?_
  obtain ⟨hz_1, H⟩ := H
  refine pop_rem .i64 (w64 (t19_1 + 1)) (t11_1.n : Int) hz_1 ?_
  obtain ⟨hi_3, H⟩ := H
  refine pop_index sli25 siz3 .i64 l1_1 p2_1 hi_3 ?_
  obtain ⟨hw_1, hL_3, H⟩ := H
  refine uop_cell (v := (VI (Int.tmod (w64 (t19_1 + 1)) (t11_1.n : Int)))) siz3 hw_1 rfl (fun h_3 he_1 => ?_)
  rw [← he_1] at hL_3
  have H := H h_3 he_1 hL_3
  refine pop_field 1 fld34_1 b_2 0 ?_
  refine rop_loc one25 hL_3 0 rfl 1 (v := (Sl.v l1_2)) rfl ?_
  obtain ⟨hi_4, H⟩ := H
  refine pop_index sli25 siz3 .i64 l1_2 p2_1 hi_4 ?_
  obtain ⟨t29_1, hc_4, H⟩ := H
  refine rop_one one3 (VI t29_1) hc_4 ?_
  refine pop_sub .i64 t29_1 1 ?_
  obtain ⟨hi_5, H⟩ := H
  refine pop_index sli25 siz3 .i64 l1_2 p2_1 hi_5 ?_
  obtain ⟨hw_2, hL_4, H⟩ := H
  refine uop_cell (v := (VI (w64 (t29_1 - 1)))) siz3 hw_2 rfl (fun h_4 he_2 => ?_)
  rw [← he_2] at hL_4
  have H := H h_4 he_2 hL_4
  refine pop_field 1 fld34_1 b_2 0 ?_
  refine rop_loc one25 hL_4 0 rfl 1 (v := (Sl.v l1_2)) rfl ?_
  refine pop_field 0 fld34_0 b_2 0 ?_
  refine rop_loc one25 hL_4 0 rfl 0 (v := (Sl.v l1_1)) rfl ?_
  obtain ⟨hi_6, H⟩ := H
  refine pop_index sli25 siz3 .i64 l1_1 p2_1 hi_6 ?_
  obtain ⟨t39_1, hc_3, H⟩ := H
  refine rop_one one3 (VI t39_1) hc_3 ?_
  obtain ⟨hi_7, H⟩ := H
  refine pop_index sli25 siz3 .i64 t11_1 t39_1 hi_7 ?_
  obtain ⟨t41_1, hc_2, H⟩ := H
  refine rop_one one3 (VI t41_1) hc_2 ?_
  obtain ⟨hi_8, H⟩ := H
  refine pop_index sli25 siz3 .i64 l1_2 t41_1 hi_8 ?_
  obtain ⟨t43_1, hc_1, H⟩ := H
  refine rop_one one3 (VI t43_1) hc_1 ?_
  refine pop_add .i64 t43_1 1 ?_
  obtain ⟨hi_9, H⟩ := H
  refine pop_index sli25 siz3 .i64 l1_2 t41_1 hi_9 ?_
  obtain ⟨hw_3, hL_5, H⟩ := H
  refine uop_cell (v := (VI (w64 (t43_1 + 1)))) siz3 hw_3 rfl (fun h_5 he_3 => ?_)
  rw [← he_3] at hL_5
  have H := H h_5 he_3 hL_5
  exact H

/-! spec.chSink -/
def u111 (P : Program) (g0_1 : Sl) (sink1_1 : Int) (h : Heap) (K : Value → Heap → Prop) : Prop :=
  ∀ (b_1 : Nat) (h_1 : Heap), h.size ≤ b_1 → Fr (In []) h h_1 → Vars h_1 [(b_1, [(Sl.v g0_1)])] →
  callM P 116 #[(Value.agg #[(Sl.v g0_1)]), (VI sink1_1)] h_1 fun rv_1 h_2 => ∃ t7_1 : Bool, rv_1 = (VB t7_1) ∧ Vars h_2 [(b_1, [(Sl.v g0_1)])] ∧
  (t7_1 = true →
  callM P 162 #[(Value.agg #[(Sl.v g0_1)]), (VI sink1_1)] h_2 fun rv_2 h_3 => ∃ t11_1 : Bool, rv_2 = (VB t11_1) ∧ Vars h_3 [(b_1, [(Sl.v g0_1)])] ∧
  K (VB t11_1) h_3) ∧
  (t7_1 = false →
  K (VB false) h_2)
theorem v111 (g0_1 : Sl) (sink1_1 : Int) (h : Heap) (K : Value → Heap → Prop) (H : u111 Try.prog g0_1 sink1_1 h K) : callM Try.prog 111 #[(Value.agg #[(Sl.v g0_1)]), (VI sink1_1)] h K := by
  refine c111 (Value.agg #[(Sl.v g0_1)]) (VI sink1_1) h K ?_
  unfold u111 at H
  unfold t111
  have hL : Vars h [] := .nil
  refine eop_box 32 (Value.agg #[(Sl.v g0_1)]) rfl hL (fun b_1 h_1 hb_1 hf_1 hL_1 => ?_)
  refine rop_locA agg32 hL_1 0 rfl 0 (vs := [(Sl.v g0_1)]) rfl rfl ?_
  have H := H b_1 h_1 (Nat.le_trans (Fr.size (Fr.r (In []) _)) hb_1) (Fr.no' (Fr.r (In []) _) hf_1) hL_1
  refine H.mono fun rv_1 h_2 H => ?_
  obtain ⟨t7_1, rfl, hL_2, H⟩ := H
  refine guardM_st (fun hb_2 => ?_) (fun hb_2 => ?_)
  · have H := H.1 hb_2
    refine rop_locA agg32 hL_2 0 rfl 0 (vs := [(Sl.v g0_1)]) rfl rfl ?_
    refine guardM_y' hb_2 ?_
    refine guardM_y' hb_2 ?_
    refine H.mono fun rv_2 h_3 H => ?_
    obtain ⟨t11_1, rfl, hL_3, H⟩ := H
    refine pop_pickt' hb_2 ?_
    exact H
  · have H := H.2 hb_2
    refine guardM_n' hb_2 (by decide) ?_
    refine guardM_n' hb_2 (by decide) ?_
    refine pop_pickf' hb_2 ?_
    exact H

/-! impl.in -/
def u113 (P : Program) (n0_1 : Int) (low1_1 : Int) (high2_1 : Int) (h : Heap) (K : Value → Heap → Prop) : Prop :=
  ((decide (low1_1 ≤ n0_1)) = true →
  K (VB (decide (n0_1 ≤ high2_1))) h) ∧
  ((decide (low1_1 ≤ n0_1)) = false →
  K (VB false) h)
theorem v113 (n0_1 : Int) (low1_1 : Int) (high2_1 : Int) (h : Heap) (K : Value → Heap → Prop) (H : u113 Try.prog n0_1 low1_1 high2_1 h K) : callM Try.prog 113 #[(VI n0_1), (VI low1_1), (VI high2_1)] h K := by
  refine c113 (VI n0_1) (VI low1_1) (VI high2_1) h K ?_
  unfold u113 at H
  unfold t113
  have hL : Vars h [] := .nil
  refine pop_leq .i64 low1_1 n0_1 ?_
  refine guardM_st (fun hb_1 => ?_) (fun hb_1 => ?_)
  · have H := H.1 hb_1
    refine guardM_y' hb_1 ?_
    refine guardM_y' hb_1 ?_
    refine pop_leq .i64 n0_1 high2_1 ?_
    refine pop_pickt' hb_1 ?_
    exact H
  · have H := H.2 hb_1
    refine guardM_n' hb_1 (by decide) ?_
    refine guardM_n' hb_1 (by decide) ?_
    refine pop_pickf' hb_1 ?_
    exact H

/-! spec.grPlace -/
def u116 (P : Program) (g0_1 : Sl) (p1_1 : Int) (h : Heap) (K : Value → Heap → Prop) : Prop :=
  ∀ (b_1 : Nat) (h_1 : Heap), h.size ≤ b_1 → Fr (In []) h h_1 → Vars h_1 [(b_1, [(Sl.v g0_1)])] →
  callM P 165 #[(Value.agg #[(Sl.v g0_1)])] h_1 fun rv_1 h_2 => ∃ t6_1 : Bool, rv_1 = (VB t6_1) ∧ Vars h_2 [(b_1, [(Sl.v g0_1)])] ∧
  (t6_1 = true →
  callM P 117 #[(VI p1_1), (VI 0), (VI (w64 ((g0_1.n : Int) - 1)))] h_2 fun rv_2 h_3 => ∃ t13_1 : Bool, rv_2 = (VB t13_1) ∧ Vars h_3 [(b_1, [(Sl.v g0_1)])] ∧
  K (VB t13_1) h_3) ∧
  (t6_1 = false →
  K (VB false) h_2)
theorem v116 (g0_1 : Sl) (p1_1 : Int) (h : Heap) (K : Value → Heap → Prop) (H : u116 Try.prog g0_1 p1_1 h K) : callM Try.prog 116 #[(Value.agg #[(Sl.v g0_1)]), (VI p1_1)] h K := by
  refine c116 (Value.agg #[(Sl.v g0_1)]) (VI p1_1) h K ?_
  unfold u116 at H
  unfold t116
  have hL : Vars h [] := .nil
  refine eop_box 32 (Value.agg #[(Sl.v g0_1)]) rfl hL (fun b_1 h_1 hb_1 hf_1 hL_1 => ?_)
  refine rop_locA agg32 hL_1 0 rfl 0 (vs := [(Sl.v g0_1)]) rfl rfl ?_
  have H := H b_1 h_1 (Nat.le_trans (Fr.size (Fr.r (In []) _)) hb_1) (Fr.no' (Fr.r (In []) _) hf_1) hL_1
  refine H.mono fun rv_1 h_2 H => ?_
  obtain ⟨t6_1, rfl, hL_2, H⟩ := H
  refine guardM_st (fun hb_2 => ?_) (fun hb_2 => ?_)
  · have H := H.1 hb_2
    refine guardM_y' hb_2 ?_
    refine pop_field 0 fld32_0 b_1 0 ?_
    refine guardM_y' hb_2 ?_
    refine rop_loc one22 hL_2 0 rfl 0 (v := (Sl.v g0_1)) rfl ?_
    refine guardM_y' hb_2 ?_
    refine pop_len g0_1 _ _ sli22 ?_
    refine guardM_y' hb_2 ?_
    refine pop_sub .i64 (g0_1.n : Int) 1 ?_
    refine guardM_y' hb_2 ?_
    refine H.mono fun rv_2 h_3 H => ?_
    obtain ⟨t13_1, rfl, hL_3, H⟩ := H
    refine pop_pickt' hb_2 ?_
    exact H
  · have H := H.2 hb_2
    refine guardM_n' hb_2 (by decide) ?_
    refine guardM_n' hb_2 (by decide) ?_
    refine guardM_n' hb_2 (by decide) ?_
    refine guardM_n' hb_2 (by decide) ?_
    refine guardM_n' hb_2 (by decide) ?_
    refine pop_pickf' hb_2 ?_
    exact H

/-! spec.l1In -/
def u117 (P : Program) (n0_1 : Int) (lo1_1 : Int) (hi2_1 : Int) (h : Heap) (K : Value → Heap → Prop) : Prop :=
  ((decide (lo1_1 ≤ n0_1)) = true →
  K (VB (decide (n0_1 ≤ hi2_1))) h) ∧
  ((decide (lo1_1 ≤ n0_1)) = false →
  K (VB false) h)
theorem v117 (n0_1 : Int) (lo1_1 : Int) (hi2_1 : Int) (h : Heap) (K : Value → Heap → Prop) (H : u117 Try.prog n0_1 lo1_1 hi2_1 h K) : callM Try.prog 117 #[(VI n0_1), (VI lo1_1), (VI hi2_1)] h K := by
  refine c117 (VI n0_1) (VI lo1_1) (VI hi2_1) h K ?_
  unfold u117 at H
  unfold t117
  have hL : Vars h [] := .nil
  refine pop_geq .i64 n0_1 lo1_1 ?_
  refine guardM_st (fun hb_1 => ?_) (fun hb_1 => ?_)
  · have H := H.1 hb_1
    refine guardM_y' hb_1 ?_
    refine guardM_y' hb_1 ?_
    refine pop_leq .i64 n0_1 hi2_1 ?_
    refine pop_pickt' hb_1 ?_
    exact H
  · have H := H.2 hb_1
    refine guardM_n' hb_1 (by decide) ?_
    refine guardM_n' hb_1 (by decide) ?_
    refine pop_pickf' hb_1 ?_
    exact H

/-! spec.grCycle -/
def u124 (P : Program) (n0_1 : Int) (both1_1 : Bool) (h : Heap) (K : Value → Heap → Prop) : Prop :=
  ∀ (b_1 : Nat) (b_2 : Nat) (h_3 : Heap), h.size ≤ b_1 → h.size ≤ b_2 → Fr (In []) h h_3 → Vars h_3 [(b_2, [(Sl.v nilSl)]), (b_1, [(Sl.v nilSl)])] →
  ∃ J_1 : Nat → Int → Sl → Heap → Prop, (∃ n0 : Nat, J_1 n0 0 nilSl h_3) ∧
  ∀ (n_1 : Nat) (p6_1 : Int) (x_1 : Sl) (h_4 : Heap), J_1 n_1 p6_1 x_1 h_4 → Vars h_4 [(b_2, [(Sl.v x_1)]), (b_1, [(Sl.v nilSl)])] →
  ((decide (p6_1 < n0_1)) = true →
  n0_1 ≠ 0 ∧
  eop P (Instr.buildSlice 25 1 #[(0, (VI (Int.tmod (w64 (p6_1 + 1)) n0_1)))]) h_4 fun rv_1 h_5 => ∃ t18_1 : Sl, rv_1 = (Sl.v t18_1) ∧ Vars h_5 [(b_2, [(Sl.v x_1)]), (b_1, [(Sl.v nilSl)])] ∧
  ∃ J_2 : Sl → Heap → Prop, ((both1_1 = true →
  n0_1 ≠ 0 ∧
  eop P (Instr.buildSlice 25 1 #[(0, (VI (Int.tmod (w64 ((w64 (p6_1 + n0_1)) - 1)) n0_1)))]) h_5 fun rv_2 h_6 => ∃ t27_1 : Sl, rv_2 = (Sl.v t27_1) ∧ Vars h_6 [(b_2, [(Sl.v x_1)]), (b_1, [(Sl.v nilSl)])] ∧
  eop P (appS 25 25 25 (Sl.v t18_1) (Sl.v t27_1)) h_6 fun rv_3 h_7 => ∃ t28_1 : Sl, rv_3 = (Sl.v t28_1) ∧ Vars h_7 [(b_2, [(Sl.v x_1)]), (b_1, [(Sl.v nilSl)])] ∧
  J_2 t28_1 h_7) ∧
  (both1_1 = false →
  J_2 t18_1 h_5)) ∧
  ∀ (x_2 : Sl) (h_8 : Heap), J_2 x_2 h_8 → Vars h_8 [(b_2, [(Sl.v x_1)]), (b_1, [(Sl.v nilSl)])] →
  eop P (Instr.buildSlice 22 1 #[(0, (Sl.v x_2))]) h_8 fun rv_4 h_9 => ∃ t32_1 : Sl, rv_4 = (Sl.v t32_1) ∧ Vars h_9 [(b_2, [(Sl.v x_1)]), (b_1, [(Sl.v nilSl)])] ∧
  eop P (appS 22 22 22 (Sl.v x_1) (Sl.v t32_1)) h_9 fun rv_5 h_10 => ∃ t33_1 : Sl, rv_5 = (Sl.v t33_1) ∧ Vars h_10 [(b_2, [(Sl.v x_1)]), (b_1, [(Sl.v nilSl)])] ∧
  ∀ (h_11 : Heap), Fr (In [b_2]) h_10 h_11 → Vars h_11 [(b_2, [(Sl.v t33_1)]), (b_1, [(Sl.v nilSl)])] →
  ∃ m : Nat, m < n_1 ∧ J_1 m (w64 (p6_1 + 1)) t33_1 h_11) ∧
  ((decide (p6_1 < n0_1)) = false →
  ∀ (h_12 : Heap), Fr (In [b_1]) h_4 h_12 → Vars h_12 [(b_2, [(Sl.v x_1)]), (b_1, [(Sl.v x_1)])] →
  K (Value.agg #[(Sl.v x_1)]) h_12)
theorem v124 (n0_1 : Int) (both1_1 : Bool) (h : Heap) (K : Value → Heap → Prop) (H : u124 Try.prog n0_1 both1_1 h K) : callM Try.prog 124 #[(VI n0_1), (VB both1_1)] h K := by
  refine c124 (VI n0_1) (VB both1_1) h K ?_
  unfold u124 at H
  unfold t124
  have hL : Vars h [] := .nil
  refine eop_alloc 32 zer32 rfl hL (fun b_1 h_1 hb_1 hf_1 hL_1 => ?_)
  refine pop.mk' (v := (Value.agg #[(Sl.v nilSl)])) (fun w => by kernel_rfl) ?_
  refine eop_alloc 32 zer32 rfl hL_1 (fun b_2 h_2 hb_2 hf_2 hL_2 => ?_)
  refine uop_loc siz32 hL_2 0 rfl 0 [(Sl.v nilSl)] rfl rfl rfl (Nat.le_of_ble_eq_true rfl) (L' := [(b_2, [(Sl.v nilSl)]), (b_1, [(Sl.v nilSl)])]) rfl (fun h_3 hf_3 hL_3 => ?_)
  have H := H b_1 b_2 h_3 (Nat.le_trans (Fr.size (Fr.r (In []) _)) hb_1) (Nat.le_trans (Fr.size (Fr.no' (Fr.r (In []) _) hf_1)) hb_2) (Fr.new (Fr.no' (Fr.no' (Fr.r (In []) _) hf_1) hf_2) (Nat.le_trans (Fr.size (Fr.no' (Fr.r (In []) _) hf_1)) hb_2) hf_3) hL_3
  obtain ⟨J_1, ⟨n_2, h0_1⟩, HB_2⟩ := H
  refine loop_intro (J := fun (n : Nat) (vs : List Value) (h' : Heap) => ∃ p6_1 : Int, ∃ x_1 : Sl, vs = [(VI p6_1)] ∧ J_1 n p6_1 x_1 h' ∧ Vars h' [(b_2, [(Sl.v x_1)]), (b_1, [(Sl.v nilSl)])]) n_2 ⟨0, nilSl, rfl, h0_1, hL_3⟩ ?_
  intro I_1 mu_1 hI_1 junk_1 tv_2 h_4 hi_1
  obtain ⟨n_1, ⟨p6_1, x_1, hv, hJ_1, hL_4⟩, hn_1⟩ := hI_1 _ _ hi_1
  cases hv
  have H := HB_2 n_1 p6_1 x_1 h_4 hJ_1 hL_4
  refine pop_lss .i64 p6_1 n0_1 ?_
  refine condM_b (fun hb_3 => ?_) (fun hb_3 => ?_)
  · have H := H.1 hb_3
    refine pop_add .i64 p6_1 1 ?_
    obtain ⟨hz_1, H⟩ := H
    refine pop_rem .i64 (w64 (p6_1 + 1)) n0_1 hz_1 ?_
    refine H.mono fun rv_1 h_5 H => ?_
    obtain ⟨t18_1, rfl, hL_5, H⟩ := H
    obtain ⟨J_2, H, HB_1⟩ := H
    refine ⟨fun (vs : List Value) (h' : Heap) => ∃ x_2 : Sl, vs = [(Sl.v x_2)] ∧ J_2 x_2 h' ∧ Vars h' [(b_2, [(Sl.v x_1)]), (b_1, [(Sl.v nilSl)])], ?_, ?_⟩
    · refine condM_b (fun hb_4 => ?_) (fun hb_4 => ?_)
      · have H := H.1 hb_4
        refine pop_add .i64 p6_1 n0_1 ?_
        refine pop_sub .i64 (w64 (p6_1 + n0_1)) 1 ?_
        obtain ⟨hz_2, H⟩ := H
        refine pop_rem .i64 (w64 ((w64 (p6_1 + n0_1)) - 1)) n0_1 hz_2 ?_
        refine H.mono fun rv_2 h_6 H => ?_
        obtain ⟨t27_1, rfl, hL_6, H⟩ := H
        refine H.mono fun rv_3 h_7 H => ?_
        obtain ⟨t28_1, rfl, hL_7, H⟩ := H
        exact ⟨t28_1, rfl, H, hL_7⟩
      · have H := H.2 hb_4
        exact ⟨t18_1, rfl, H, hL_5⟩
    intro junk_2 tv_1 h_8
    rintro ⟨x_2, hv, hJ_2, hL_8⟩
    cases hv
    have H := HB_1 x_2 h_8 hJ_2 hL_8
    refine pop_field 0 fld32_0 b_2 0 ?_
    refine rop_loc one22 hL_8 0 rfl 0 (v := (Sl.v x_1)) rfl ?_
    refine H.mono fun rv_4 h_9 H => ?_
    obtain ⟨t32_1, rfl, hL_9, H⟩ := H
    refine H.mono fun rv_5 h_10 H => ?_
    obtain ⟨t33_1, rfl, hL_10, H⟩ := H
    refine pop_field 0 fld32_0 b_2 0 ?_
    refine uop_loc siz22 hL_10 0 rfl 0 [(Sl.v t33_1)] rfl rfl rfl (Nat.le_of_ble_eq_true rfl) (L' := [(b_2, [(Sl.v t33_1)]), (b_1, [(Sl.v nilSl)])]) rfl (fun h_11 hf_4 hL_11 => ?_)
    refine pop_add .i64 p6_1 1 ?_
    have H := H  h_11  (Fr.old (Fr.r (In []) _) hf_4) hL_11
    obtain ⟨m_1, hm_1, H⟩ := H
    exact hn_1 _ _ ⟨m_1, hm_1, (w64 (p6_1 + 1)), t33_1, rfl, H, hL_11⟩
  · have H := H.2 hb_3
    refine rop_locA agg32 hL_4 0 rfl 0 (vs := [(Sl.v x_1)]) rfl rfl ?_
    refine uop_loc siz32 hL_4 1 rfl 0 [(Sl.v x_1)] rfl rfl rfl (Nat.le_of_ble_eq_true rfl) (L' := [(b_2, [(Sl.v x_1)]), (b_1, [(Sl.v x_1)])]) rfl (fun h_12 hf_5 hL_12 => ?_)
    refine rop_locA agg32 hL_12 1 rfl 0 (vs := [(Sl.v x_1)]) rfl rfl ?_
    have H := H  h_12  (Fr.old (Fr.r (In []) _) hf_5) hL_12
    exact H

/-! spec.l1Own -/
def u130 (P : Program) (l0_1 : Sl) (h : Heap) (K : Value → Heap → Prop) : Prop :=
  eop P (Instr.buildSlice 25 0 #[]) h fun rv_1 h_1 => ∃ t3_1 : Sl, rv_1 = (Sl.v t3_1) ∧ Vars h_1 [] ∧
  eop P (appS 25 25 25 (Sl.v t3_1) (Sl.v l0_1)) h_1 fun rv_2 h_2 => ∃ t5_1 : Sl, rv_2 = (Sl.v t5_1) ∧ Vars h_2 [] ∧
  K (Sl.v t5_1) h_2
theorem v130 (l0_1 : Sl) (h : Heap) (K : Value → Heap → Prop) (H : u130 Try.prog l0_1 h K) : callM Try.prog 130 #[(Sl.v l0_1)] h K := by
  refine c130 (Sl.v l0_1) h K ?_
  unfold u130 at H
  unfold t130
  have hL : Vars h [] := .nil
  refine H.mono fun rv_1 h_1 H => ?_
  obtain ⟨t3_1, rfl, hL_1, H⟩ := H
  refine H.mono fun rv_2 h_2 H => ?_
  obtain ⟨t5_1, rfl, hL_2, H⟩ := H
  exact H

/-! spec.waGood -/
def u138 (P : Program) (g0_1 : Sl) (w1_1 : Sl) (w1_2 : Int) (h : Heap) (K : Value → Heap → Prop) : Prop :=
  ∀ (b_1 : Nat) (b_2 : Nat) (h_2 : Heap), h.size ≤ b_1 → h.size ≤ b_2 → Fr (In []) h h_2 → Vars h_2 [(b_2, [(Sl.v w1_1), (VI w1_2)]), (b_1, [(Sl.v g0_1)])] →
  callM P 116 #[(Value.agg #[(Sl.v g0_1)]), (VI w1_2)] h_2 fun rv_1 h_3 => ∃ t10_1 : Bool, rv_1 = (VB t10_1) ∧ Vars h_3 [(b_2, [(Sl.v w1_1), (VI w1_2)]), (b_1, [(Sl.v g0_1)])] ∧
  ((!t10_1) = true →
  K (VB false) h_3) ∧
  ((!t10_1) = false →
  ((!decide ((w1_1.n : Int) = (g0_1.n : Int))) = true →
  K (VB false) h_3) ∧
  ((!decide ((w1_1.n : Int) = (g0_1.n : Int))) = false →
  ∃ J_1 : Nat → Int → Heap → Prop, (∃ n0 : Nat, J_1 n0 0 h_3) ∧
  ∀ (n_1 : Nat) (t24_1 : Int) (h_4 : Heap), J_1 n_1 t24_1 h_4 → Vars h_4 [(b_2, [(Sl.v w1_1), (VI w1_2)]), (b_1, [(Sl.v g0_1)])] →
  ((decide (t24_1 < (g0_1.n : Int))) = true →
  InB g0_1 t24_1 ∧
  ∃ t28_1 : Sl, hcell h_4 (Sl.at g0_1 t24_1 1) = some (Sl.v t28_1) ∧
  InB w1_1 t24_1 ∧
  ∃ t33_1 : Int, hcell h_4 (Sl.at w1_1 t24_1 1) = some (VI t33_1) ∧
  callM P 173 #[(VI 0), (VI (w64 ((t28_1.n : Int) - 1)))] h_4 fun rv_2 h_5 => ∃ t37_1 : Int, rv_2 = (VI t37_1) ∧ Vars h_5 [(b_2, [(Sl.v w1_1), (VI w1_2)]), (b_1, [(Sl.v g0_1)])] ∧
  hcell h_5 (Sl.at w1_1 t24_1 1) = some (VI t33_1) ∧
  callM P 117 #[(VI t33_1), (VI 0), (VI t37_1)] h_5 fun rv_3 h_6 => ∃ t38_1 : Bool, rv_3 = (VB t38_1) ∧ Vars h_6 [(b_2, [(Sl.v w1_1), (VI w1_2)]), (b_1, [(Sl.v g0_1)])] ∧
  ((!t38_1) = true →
  K (VB false) h_6) ∧
  ((!t38_1) = false →
  ∃ m : Nat, m < n_1 ∧ J_1 m (w64 (t24_1 + 1)) h_6)) ∧
  ((decide (t24_1 < (g0_1.n : Int))) = false →
  K (VB true) h_4)))
theorem v138 (g0_1 : Sl) (w1_1 : Sl) (w1_2 : Int) (h : Heap) (K : Value → Heap → Prop) (H : u138 Try.prog g0_1 w1_1 w1_2 h K) : callM Try.prog 138 #[(Value.agg #[(Sl.v g0_1)]), (Value.agg #[(Sl.v w1_1), (VI w1_2)])] h K := by
  refine c138 (Value.agg #[(Sl.v g0_1)]) (Value.agg #[(Sl.v w1_1), (VI w1_2)]) h K ?_
  unfold u138 at H
  unfold t138
  have hL : Vars h [] := .nil
  refine eop_box 32 (Value.agg #[(Sl.v g0_1)]) rfl hL (fun b_1 h_1 hb_1 hf_1 hL_1 => ?_)
  refine eop_box 132 (Value.agg #[(Sl.v w1_1), (VI w1_2)]) rfl hL_1 (fun b_2 h_2 hb_2 hf_2 hL_2 => ?_)
  refine rop_locA agg32 hL_2 1 rfl 0 (vs := [(Sl.v g0_1)]) rfl rfl ?_
  refine pop_field 1 fld132_1 b_2 0 ?_
  refine rop_loc one3 hL_2 0 rfl 1 (v := (VI w1_2)) rfl ?_
  have H := H b_1 b_2 h_2 (Nat.le_trans (Fr.size (Fr.r (In []) _)) hb_1) (Nat.le_trans (Fr.size (Fr.no' (Fr.r (In []) _) hf_1)) hb_2) (Fr.no' (Fr.no' (Fr.r (In []) _) hf_1) hf_2) hL_2
  refine H.mono fun rv_1 h_3 H => ?_
  obtain ⟨t10_1, rfl, hL_3, H⟩ := H
  refine pop_not t10_1 ?_
  refine guardM_sf (fun hb_3 => ?_) (fun hb_3 => ?_)
  · have H := H.2 hb_3
    refine pop_field 0 fld132_0 b_2 0 ?_
    refine guardM_y' hb_3 ?_
    refine rop_loc one25 hL_3 0 rfl 0 (v := (Sl.v w1_1)) rfl ?_
    refine guardM_y' hb_3 ?_
    refine pop_len w1_1 _ _ sli25 ?_
    refine guardM_y' hb_3 ?_
    refine pop_field 0 fld32_0 b_1 0 ?_
    refine guardM_y' hb_3 ?_
    refine rop_loc one22 hL_3 1 rfl 0 (v := (Sl.v g0_1)) rfl ?_
    refine guardM_y' hb_3 ?_
    refine pop_len g0_1 _ _ sli22 ?_
    refine guardM_y' hb_3 ?_
    refine pop_ine .i64 _ _ (w1_1.n : Int) (g0_1.n : Int) ?_
    refine pop_pickf' hb_3 ?_
    refine condM_b (fun hb_4 => ?_) (fun hb_4 => ?_)
    · have H := H.1 hb_4
      exact H
    · have H := H.2 hb_4
      refine pop_field 0 fld32_0 b_1 0 ?_
      refine rop_loc one22 hL_3 1 rfl 0 (v := (Sl.v g0_1)) rfl ?_
      refine pop_len g0_1 _ _ sli22 ?_
      obtain ⟨J_1, ⟨n_2, h0_1⟩, HB_1⟩ := H
      refine loop_intro (J := fun (n : Nat) (vs : List Value) (h' : Heap) => ∃ t24_1 : Int, vs = [(VI t24_1)] ∧ J_1 n t24_1 h' ∧ Vars h' [(b_2, [(Sl.v w1_1), (VI w1_2)]), (b_1, [(Sl.v g0_1)])]) n_2 ⟨0, rfl, h0_1, hL_3⟩ ?_
      intro I_1 mu_1 hI_1 junk_1 tv_1 h_4 hi_1
      obtain ⟨n_1, ⟨t24_1, hv, hJ_1, hL_4⟩, hn_1⟩ := hI_1 _ _ hi_1
      cases hv
      have H := HB_1 n_1 t24_1 h_4 hJ_1 hL_4
      refine pop_lss .i64 t24_1 (g0_1.n : Int) ?_
      refine condM_b (fun hb_5 => ?_) (fun hb_5 => ?_)
      · have H := H.1 hb_5
        obtain ⟨hi_2, H⟩ := H
        refine pop_index sli22 siz25 .i64 g0_1 t24_1 hi_2 ?_
        obtain ⟨t28_1, hc_3, H⟩ := H
        refine rop_one one25 (Sl.v t28_1) hc_3 ?_
        refine pop_field 0 fld132_0 b_2 0 ?_
        refine rop_loc one25 hL_4 0 rfl 0 (v := (Sl.v w1_1)) rfl ?_
        obtain ⟨hi_3, H⟩ := H
        refine pop_index sli25 siz3 .i64 w1_1 t24_1 hi_3 ?_
        obtain ⟨t33_1, hc_2, H⟩ := H
        refine rop_one one3 (VI t33_1) hc_2 ?_
        refine pop_len t28_1 _ _ sli25 ?_
        refine pop_sub .i64 (t28_1.n : Int) 1 ?_
        refine H.mono fun rv_2 h_5 H => ?_
        obtain ⟨t37_1, rfl, hL_5, H⟩ := H
        refine ⟨?_, ?_⟩
        · exact still_one one3 H.1
        obtain ⟨hc_1, H⟩ := H
        refine ⟨?_, ?_⟩
        · exact still_loc one25 hL_5 0 rfl 0 (v := (Sl.v w1_1)) rfl
        refine H.mono fun rv_3 h_6 H => ?_
        obtain ⟨t38_1, rfl, hL_6, H⟩ := H
        refine ⟨?_, ?_⟩
        · exact still_loc one25 hL_6 0 rfl 0 (v := (Sl.v w1_1)) rfl
        refine pop_not t38_1 ?_
        refine condM_b (fun hb_6 => ?_) (fun hb_6 => ?_)
        · have H := H.1 hb_6
          exact H
        · have H := H.2 hb_6
          refine pop_add .i64 t24_1 1 ?_
          obtain ⟨m_1, hm_1, H⟩ := H
          exact hn_1 _ _ ⟨m_1, hm_1, (w64 (t24_1 + 1)), rfl, H, hL_6⟩
      · have H := H.2 hb_5
        exact H
  · have H := H.1 hb_3
    refine guardM_n' hb_3 (by decide) ?_
    refine guardM_n' hb_3 (by decide) ?_
    refine guardM_n' hb_3 (by decide) ?_
    refine guardM_n' hb_3 (by decide) ?_
    refine guardM_n' hb_3 (by decide) ?_
    refine guardM_n' hb_3 (by decide) ?_
    refine pop_pickt' hb_3 ?_
    refine condM_t ?_
    exact H

/-! spec.chSum -/
def u139 (P : Program) (list0_1 : Sl) (h : Heap) (K : Value → Heap → Prop) : Prop :=
  ∃ J_1 : Nat → Int → Int → Heap → Prop, (∃ n0 : Nat, J_1 n0 0 0 h) ∧
  ∀ (n_1 : Nat) (sum3_1 : Int) (t8_1 : Int) (h_1 : Heap), J_1 n_1 sum3_1 t8_1 h_1 → Vars h_1 [] →
  ((decide (t8_1 < (list0_1.n : Int))) = true →
  InB list0_1 t8_1 ∧
  ∃ t11_1 : Int, hcell h_1 (Sl.at list0_1 t8_1 1) = some (VI t11_1) ∧
  ∃ m : Nat, m < n_1 ∧ J_1 m (w64 (sum3_1 + t11_1)) (w64 (t8_1 + 1)) h_1) ∧
  ((decide (t8_1 < (list0_1.n : Int))) = false →
  K (VI sum3_1) h_1)
theorem v139 (list0_1 : Sl) (h : Heap) (K : Value → Heap → Prop) (H : u139 Try.prog list0_1 h K) : callM Try.prog 139 #[(Sl.v list0_1)] h K := by
  refine c139 (Sl.v list0_1) h K ?_
  unfold u139 at H
  unfold t139
  have hL : Vars h [] := .nil
  refine pop_len list0_1 _ _ sli25 ?_
  obtain ⟨J_1, ⟨n_2, h0_1⟩, HB_1⟩ := H
  refine loop_intro (J := fun (n : Nat) (vs : List Value) (h' : Heap) => ∃ sum3_1 : Int, ∃ t8_1 : Int, vs = [(VI sum3_1), (VI t8_1)] ∧ J_1 n sum3_1 t8_1 h' ∧ Vars h' []) n_2 ⟨0, 0, rfl, h0_1, hL⟩ ?_
  intro I_1 mu_1 hI_1 junk_1 tv_1 tv_2 h_1 hi_1
  obtain ⟨n_1, ⟨sum3_1, t8_1, hv, hJ_1, hL_1⟩, hn_1⟩ := hI_1 _ _ hi_1
  cases hv
  have H := HB_1 n_1 sum3_1 t8_1 h_1 hJ_1 hL_1
  refine pop_lss .i64 t8_1 (list0_1.n : Int) ?_
  refine condM_b (fun hb_1 => ?_) (fun hb_1 => ?_)
  · have H := H.1 hb_1
    obtain ⟨hi_2, H⟩ := H
    refine pop_index sli25 siz3 .i64 list0_1 t8_1 hi_2 ?_
    obtain ⟨t11_1, hc_1, H⟩ := H
    refine rop_one one3 (VI t11_1) hc_1 ?_
    refine pop_add .i64 sum3_1 t11_1 ?_
    refine pop_add .i64 t8_1 1 ?_
    obtain ⟨m_1, hm_1, H⟩ := H
    exact hn_1 _ _ ⟨m_1, hm_1, (w64 (sum3_1 + t11_1)), (w64 (t8_1 + 1)), rfl, H, hL_1⟩
  · have H := H.2 hb_1
    exact H

/-! impl.areRotors -/
def u140 (P : Program) (g0_1 : Sl) (rotors1_1 : Sl) (h : Heap) (K : Value → Heap → Prop) : Prop :=
  ∀ (b_1 : Nat) (h_1 : Heap), h.size ≤ b_1 → Fr (In []) h h_1 → Vars h_1 [(b_1, [(Sl.v g0_1)])] →
  callM P 174 #[(Value.agg #[(Sl.v g0_1)]), (Value.agg #[(Sl.v rotors1_1), (VI 0)])] h_1 fun rv_1 h_2 => ∃ t8_1 : Bool, rv_1 = (VB t8_1) ∧ Vars h_2 [(b_1, [(Sl.v g0_1)])] ∧
  K (VB t8_1) h_2
theorem v140 (g0_1 : Sl) (rotors1_1 : Sl) (h : Heap) (K : Value → Heap → Prop) (H : u140 Try.prog g0_1 rotors1_1 h K) : callM Try.prog 140 #[(Value.agg #[(Sl.v g0_1)]), (Sl.v rotors1_1)] h K := by
  refine c140 (Value.agg #[(Sl.v g0_1)]) (Sl.v rotors1_1) h K ?_
  unfold u140 at H
  unfold t140
  have hL : Vars h [] := .nil
  refine eop_box 32 (Value.agg #[(Sl.v g0_1)]) rfl hL (fun b_1 h_1 hb_1 hf_1 hL_1 => ?_)
  refine rop_locA agg32 hL_1 0 rfl 0 (vs := [(Sl.v g0_1)]) rfl rfl ?_
  refine pop.mk' (v := (Value.agg #[(Sl.v rotors1_1), (VI 0)])) (fun w => by kernel_rfl) ?_
  have H := H b_1 h_1 (Nat.le_trans (Fr.size (Fr.r (In []) _)) hb_1) (Fr.no' (Fr.r (In []) _) hf_1) hL_1
  refine H.mono fun rv_1 h_2 H => ?_
  obtain ⟨t8_1, rfl, hL_2, H⟩ := H
  exact H

/-! impl.areChips -/
def u141 (P : Program) (g0_1 : Sl) (chips1_1 : Sl) (h : Heap) (K : Value → Heap → Prop) : Prop :=
  ((decide ((chips1_1.n : Int) = (g0_1.n : Int))) = true →
  ∀ (b_1 : Nat) (h_1 : Heap), h.size ≤ b_1 → Fr (In []) h h_1 → Vars h_1 [(b_1, [(Sl.v g0_1)])] →
  callM P 102 #[(Sl.v chips1_1), (Value.func (.func 175) #[] #[])] h_1 fun rv_1 h_2 => ∃ t13_1 : Bool, rv_1 = (VB t13_1) ∧ Vars h_2 [(b_1, [(Sl.v g0_1)])] ∧
  K (VB (!t13_1)) h_2) ∧
  ((decide ((chips1_1.n : Int) = (g0_1.n : Int))) = false →
  ∀ (b_1 : Nat) (h_1 : Heap), h.size ≤ b_1 → Fr (In []) h h_1 → Vars h_1 [(b_1, [(Sl.v g0_1)])] →
  K (VB false) h_1)
theorem v141 (g0_1 : Sl) (chips1_1 : Sl) (h : Heap) (K : Value → Heap → Prop) (H : u141 Try.prog g0_1 chips1_1 h K) : callM Try.prog 141 #[(Value.agg #[(Sl.v g0_1)]), (Sl.v chips1_1)] h K := by
  refine c141 (Value.agg #[(Sl.v g0_1)]) (Sl.v chips1_1) h K ?_
  unfold u141 at H
  unfold t141
  have hL : Vars h [] := .nil
  refine eop_box 32 (Value.agg #[(Sl.v g0_1)]) rfl hL (fun b_1 h_1 hb_1 hf_1 hL_1 => ?_)
  refine pop_len chips1_1 _ _ sli25 ?_
  refine pop_field 0 fld32_0 b_1 0 ?_
  refine rop_loc one22 hL_1 0 rfl 0 (v := (Sl.v g0_1)) rfl ?_
  refine pop_len g0_1 _ _ sli22 ?_
  refine pop_ieq .i64 _ _ (chips1_1.n : Int) (g0_1.n : Int) ?_
  refine guardM_st (fun hb_2 => ?_) (fun hb_2 => ?_)
  · have H := H.1 hb_2
    refine guardM_y' hb_2 ?_
    have H := H b_1 h_1 (Nat.le_trans (Fr.size (Fr.r (In []) _)) hb_1) (Fr.no' (Fr.r (In []) _) hf_1) hL_1
    refine H.mono fun rv_1 h_2 H => ?_
    obtain ⟨t13_1, rfl, hL_2, H⟩ := H
    refine guardM_y' hb_2 ?_
    refine pop_not t13_1 ?_
    refine pop_pickt' hb_2 ?_
    exact H
  · have H := H.2 hb_2
    refine guardM_n' hb_2 (by decide) ?_
    refine guardM_n' hb_2 (by decide) ?_
    refine pop_pickf' hb_2 ?_
    have H := H b_1 h_1 (Nat.le_trans (Fr.size (Fr.r (In []) _)) hb_1) (Fr.no' (Fr.r (In []) _) hf_1) hL_1
    exact H

/-! slices.Clone[[]int,int] -/
def u142 (P : Program) (s0_1 : Sl) (h : Heap) (K : Value → Heap → Prop) : Prop :=
  pop P (binE .eql 25 (.tmp 3) (.const (Value.slice none 0 0)) (Sl.v s0_1) (Value.slice none 0 0)) fun rv_1 => ∃ t4_1 : Bool, rv_1 = (VB t4_1) ∧ 
  (t4_1 = true →
  K (Sl.v nilSl) h) ∧
  (t4_1 = false →
  eop P (Instr.buildSlice 25 0 #[]) h fun rv_2 h_1 => ∃ t5_1 : Sl, rv_2 = (Sl.v t5_1) ∧ Vars h_1 [] ∧
  eop P (appS 25 25 25 (Sl.v t5_1) (Sl.v s0_1)) h_1 fun rv_3 h_2 => ∃ t7_1 : Sl, rv_3 = (Sl.v t7_1) ∧ Vars h_2 [] ∧
  K (Sl.v t7_1) h_2)
theorem v142 (s0_1 : Sl) (h : Heap) (K : Value → Heap → Prop) (H : u142 Try.prog s0_1 h K) : callM Try.prog 142 #[(Sl.v s0_1)] h K := by
  refine c142 (Sl.v s0_1) h K ?_
  unfold u142 at H
  unfold t142
  have hL : Vars h [] := .nil
  refine H.mono fun rv_1 H => ?_
  obtain ⟨t4_1, rfl, H⟩ := H
  refine condM_b (fun hb_1 => ?_) (fun hb_1 => ?_)
  · have H := H.1 hb_1
    exact H
  · have H := H.2 hb_1
    refine H.mono fun rv_2 h_1 H => ?_
    obtain ⟨t5_1, rfl, hL_1, H⟩ := H
    refine H.mono fun rv_3 h_2 H => ?_
    obtain ⟨t7_1, rfl, hL_2, H⟩ := H
    exact H

/-! (*impl.Load).send -/
def u143 (P : Program) (b_1 : Nat) (l0_1 : Sl) (l0_2 : Sl) (g1_1 : Sl) (p2_1 : Int) (h : Heap) (K : Value → Heap → Prop) : Prop :=
  ∀ (b_2 : Nat) (b_3 : Nat) (h_3 : Heap), h.size ≤ b_2 → h.size ≤ b_3 → Fr (In []) h h_3 → Vars h_3 [(b_3, [(Sl.v l0_1), (VI p2_1)]), (b_2, [(Sl.v g1_1)]), (b_1, [(Sl.v l0_1), (Sl.v l0_2)])] →
  callM P 176 #[(Value.agg #[(Sl.v g1_1)]), (VP b_3 0)] h_3 fun rv_1 h_4 => ∃ x_1 : Sl, ∃ x_2 : Int, ∃ t14_1 : Bool, rv_1 = (VB t14_1) ∧ Vars h_4 [(b_3, [(Sl.v x_1), (VI x_2)]), (b_2, [(Sl.v g1_1)]), (b_1, [(Sl.v l0_1), (Sl.v l0_2)])] ∧
  InB l0_2 p2_1 ∧
  ∃ t21_1 : Int, hcell h_4 (Sl.at l0_2 p2_1 1) = some (VI t21_1) ∧
  InB l0_2 p2_1 ∧
  Writable h_4 (Sl.at l0_2 p2_1 1) ∧ Vars (hset h_4 (Sl.at l0_2 p2_1 1) (VI (w64 (t21_1 - 1)))) [(b_3, [(Sl.v x_1), (VI x_2)]), (b_2, [(Sl.v g1_1)]), (b_1, [(Sl.v l0_1), (Sl.v l0_2)])] ∧
  ∀ h_5 : Heap, h_5 = hset h_4 (Sl.at l0_2 p2_1 1) (VI (w64 (t21_1 - 1))) → Vars h_5 [(b_3, [(Sl.v x_1), (VI x_2)]), (b_2, [(Sl.v g1_1)]), (b_1, [(Sl.v l0_1), (Sl.v l0_2)])] →
  InB l0_2 x_2 ∧
  ∃ t31_1 : Int, hcell h_5 (Sl.at l0_2 x_2 1) = some (VI t31_1) ∧
  InB l0_2 x_2 ∧
  Writable h_5 (Sl.at l0_2 x_2 1) ∧ Vars (hset h_5 (Sl.at l0_2 x_2 1) (VI (w64 (t31_1 + 1)))) [(b_3, [(Sl.v x_1), (VI x_2)]), (b_2, [(Sl.v g1_1)]), (b_1, [(Sl.v l0_1), (Sl.v l0_2)])] ∧
  ∀ h_6 : Heap, h_6 = hset h_5 (Sl.at l0_2 x_2 1) (VI (w64 (t31_1 + 1))) → Vars h_6 [(b_3, [(Sl.v x_1), (VI x_2)]), (b_2, [(Sl.v g1_1)]), (b_1, [(Sl.v l0_1), (Sl.v l0_2)])] →
  K (Value.tuple #[]) h_6
theorem v143 (b_1 : Nat) (l0_1 : Sl) (l0_2 : Sl) (g1_1 : Sl) (p2_1 : Int) (h : Heap) (K : Value → Heap → Prop) (hL : Vars h [(b_1, [(Sl.v l0_1), (Sl.v l0_2)])]) (H : u143 Try.prog b_1 l0_1 l0_2 g1_1 p2_1 h K) : callM Try.prog 143 #[(VP b_1 0), (Value.agg #[(Sl.v g1_1)]), (VI p2_1)] h K := by
  refine c143 (VP b_1 0) (Value.agg #[(Sl.v g1_1)]) (VI p2_1) h K ?_
  unfold u143 at H
  unfold t143
  refine eop_box 32 (Value.agg #[(Sl.v g1_1)]) rfl hL (fun b_2 h_1 hb_1 hf_1 hL_1 => ?_)
  refine pop_nil _ ?_
  refine pop_field 0 fld34_0 b_1 0 ?_
  refine rop_loc one25 hL_1 1 rfl 0 (v := (Sl.v l0_1)) rfl ?_
  refine pop.mk' (v := (Value.agg #[(Sl.v l0_1), (VI p2_1)])) (fun w => by kernel_rfl) ?_
  refine eop_alloc 132 zer132 rfl hL_1 (fun b_3 h_2 hb_2 hf_2 hL_2 => ?_)
  refine uop_loc siz132 hL_2 0 rfl 0 [(Sl.v l0_1), (VI p2_1)] rfl rfl rfl (Nat.le_of_ble_eq_true rfl) (L' := [(b_3, [(Sl.v l0_1), (VI p2_1)]), (b_2, [(Sl.v g1_1)]), (b_1, [(Sl.v l0_1), (Sl.v l0_2)])]) rfl (fun h_3 hf_3 hL_3 => ?_)
  refine rop_locA agg32 hL_3 1 rfl 0 (vs := [(Sl.v g1_1)]) rfl rfl ?_
  have H := H b_2 b_3 h_3 (Nat.le_trans (Fr.size (Fr.r (In []) _)) hb_1) (Nat.le_trans (Fr.size (Fr.no' (Fr.r (In []) _) hf_1)) hb_2) (Fr.new (Fr.no' (Fr.no' (Fr.r (In []) _) hf_1) hf_2) (Nat.le_trans (Fr.size (Fr.no' (Fr.r (In []) _) hf_1)) hb_2) hf_3) hL_3
  refine H.mono fun rv_1 h_4 H => ?_
  obtain ⟨x_1, x_2, t14_1, rfl, hL_4, H⟩ := H
  refine pop_nil _ ?_
  refine pop_field 1 fld34_1 b_1 0 ?_
  refine rop_loc one25 hL_4 2 rfl 1 (v := (Sl.v l0_2)) rfl ?_
  obtain ⟨hi_1, H⟩ := H
  refine pop_index sli25 siz3 .i64 l0_2 p2_1 hi_1 ?_
  obtain ⟨t21_1, hc_2, H⟩ := H
  refine rop_one one3 (VI t21_1) hc_2 ?_
  refine pop_sub .i64 t21_1 1 ?_
  obtain ⟨hi_2, H⟩ := H
  refine pop_index sli25 siz3 .i64 l0_2 p2_1 hi_2 ?_
  obtain ⟨hw_1, hL_5, H⟩ := H
  refine uop_cell (v := (VI (w64 (t21_1 - 1)))) siz3 hw_1 rfl (fun h_5 he_1 => ?_)
  rw [← he_1] at hL_5
  have H := H h_5 he_1 hL_5
  refine pop_nil _ ?_
  refine pop_field 1 fld34_1 b_1 0 ?_
  refine rop_loc one25 hL_5 2 rfl 1 (v := (Sl.v l0_2)) rfl ?_
  refine pop_field 1 fld132_1 b_3 0 ?_
  refine rop_loc one3 hL_5 0 rfl 1 (v := (VI x_2)) rfl ?_
  obtain ⟨hi_3, H⟩ := H
  refine pop_index sli25 siz3 .i64 l0_2 x_2 hi_3 ?_
  obtain ⟨t31_1, hc_1, H⟩ := H
  refine rop_one one3 (VI t31_1) hc_1 ?_
  refine pop_add .i64 t31_1 1 ?_
  obtain ⟨hi_4, H⟩ := H
  refine pop_index sli25 siz3 .i64 l0_2 x_2 hi_4 ?_
  obtain ⟨hw_2, hL_6, H⟩ := H
  refine uop_cell (v := (VI (w64 (t31_1 + 1)))) siz3 hw_2 rfl (fun h_6 he_2 => ?_)
  rw [← he_2] at hL_6
  have H := H h_6 he_2 hL_6
  exact H

/-! impl.isGraph$1 -/
def u150 (P : Program) (q0_1 : Int) (b_1 : Nat) (t1_1 : Int) (h : Heap) (K : Value → Heap → Prop) : Prop :=
  callM P 113 #[(VI q0_1), (VI 0), (VI (w64 (t1_1 - 1)))] h fun rv_1 h_1 => ∃ t7_1 : Bool, rv_1 = (VB t7_1) ∧ Vars h_1 [(b_1, [(VI t1_1)])] ∧
  K (VB (!t7_1)) h_1
theorem v150 (q0_1 : Int) (b_1 : Nat) (t1_1 : Int) (h : Heap) (K : Value → Heap → Prop) (hL : Vars h [(b_1, [(VI t1_1)])]) (H : u150 Try.prog q0_1 b_1 t1_1 h K) : callM Try.prog 150 #[(VI q0_1), (VP b_1 0)] h K := by
  refine c150 (VI q0_1) (VP b_1 0) h K ?_
  unfold u150 at H
  unfold t150
  refine rop_loc one3 hL 0 rfl 0 (v := (VI t1_1)) rfl ?_
  refine pop_sub .i64 t1_1 1 ?_
  refine H.mono fun rv_1 h_1 H => ?_
  obtain ⟨t7_1, rfl, hL_1, H⟩ := H
  refine pop_not t7_1 ?_
  exact H

/-! impl.force$1 -/
def u155 (P : Program) (n0_1 : Int) (h : Heap) (K : Value → Heap → Prop) : Prop :=
  callM P 113 #[(VI n0_1), (VI 0), (VI 50)] h fun rv_1 h_1 => ∃ t4_1 : Bool, rv_1 = (VB t4_1) ∧ Vars h_1 [] ∧
  K (VB (!t4_1)) h_1
theorem v155 (n0_1 : Int) (h : Heap) (K : Value → Heap → Prop) (H : u155 Try.prog n0_1 h K) : callM Try.prog 155 #[(VI n0_1)] h K := by
  refine c155 (VI n0_1) h K ?_
  unfold u155 at H
  unfold t155
  have hL : Vars h [] := .nil
  refine H.mono fun rv_1 h_1 H => ?_
  obtain ⟨t4_1, rfl, hL_1, H⟩ := H
  refine pop_not t4_1 ?_
  exact H

/-! (*spec.l1Cur).sunk -/
def u156 (P : Program) (b_1 : Nat) (c0_1 : Sl) (c0_2 : Int) (c0_3 : Int) (h : Heap) (K : Value → Heap → Prop) : Prop :=
  ∀ (b_2 : Nat) (h_1 : Heap), h.size ≤ b_2 → Fr (In []) h h_1 → Vars h_1 [(b_2, [(Sl.v nilSl)]), (b_1, [(Sl.v c0_1), (VI c0_2), (Value.int .u64 c0_3)])] →
  callM P 163 #[(VP b_1 0), (VI 5)] h_1 fun rv_1 h_2 => ∃ x_1 : Sl, ∃ x_2 : Int, ∃ x_3 : Int, ∃ t8_1 : Sl, rv_1 = (Value.agg #[(Sl.v t8_1)]) ∧ Vars h_2 [(b_2, [(Sl.v nilSl)]), (b_1, [(Sl.v x_1), (VI x_2), (Value.int .u64 x_3)])] ∧
  ∀ (b_3 : Nat) (h_4 : Heap), h_2.size ≤ b_3 → Fr (In []) h_2 h_4 → Vars h_4 [(b_3, [(Sl.v t8_1)]), (b_2, [(Sl.v nilSl)]), (b_1, [(Sl.v x_1), (VI x_2), (Value.int .u64 x_3)])] →
  callM P 100 #[(VP b_1 0), (VI (t8_1.n : Int))] h_4 fun rv_2 h_5 => ∃ x_4 : Sl, ∃ x_5 : Int, ∃ x_6 : Int, ∃ t13_1 : Int, rv_2 = (VI t13_1) ∧ Vars h_5 [(b_3, [(Sl.v t8_1)]), (b_2, [(Sl.v nilSl)]), (b_1, [(Sl.v x_4), (VI x_5), (Value.int .u64 x_6)])] ∧
  ∃ J_1 : Nat → Int → Sl → Int → Int → Heap → Prop, (∃ n0 : Nat, J_1 n0 0 x_4 x_5 x_6 h_5) ∧
  ∀ (n_1 : Nat) (t17_1 : Int) (x_7 : Sl) (x_8 : Int) (x_9 : Int) (h_6 : Heap), J_1 n_1 t17_1 x_7 x_8 x_9 h_6 → Vars h_6 [(b_3, [(Sl.v t8_1)]), (b_2, [(Sl.v nilSl)]), (b_1, [(Sl.v x_7), (VI x_8), (Value.int .u64 x_9)])] →
  ((decide (t17_1 < (t8_1.n : Int))) = true →
  callM P 186 #[(Value.agg #[(Sl.v t8_1)]), (VI t17_1)] h_6 fun rv_3 h_7 => ∃ t22_1 : Sl, rv_3 = (Sl.v t22_1) ∧ Vars h_7 [(b_3, [(Sl.v t8_1)]), (b_2, [(Sl.v nilSl)]), (b_1, [(Sl.v x_7), (VI x_8), (Value.int .u64 x_9)])] ∧
  ((decide (0 < (t22_1.n : Int))) = true →
  ((!decide (t17_1 = t13_1)) = true →
  callM P 186 #[(Value.agg #[(Sl.v t8_1)]), (VI t17_1)] h_7 fun rv_4 h_8 => ∃ t33_1 : Sl, rv_4 = (Sl.v t33_1) ∧ Vars h_8 [(b_3, [(Sl.v t8_1)]), (b_2, [(Sl.v nilSl)]), (b_1, [(Sl.v x_7), (VI x_8), (Value.int .u64 x_9)])] ∧
  InB t33_1 t13_1 ∧
  ∃ t36_1 : Int, hcell h_8 (Sl.at t33_1 t13_1 1) = some (VI t36_1) ∧
  ((decide (t36_1 < 0)) = true →
  callM P 99 #[(VP b_1 0), (VI 12)] h_8 fun rv_5 h_9 => ∃ x_10 : Sl, ∃ x_11 : Int, ∃ x_12 : Int, ∃ t41_1 : Bool, rv_5 = (VB t41_1) ∧ Vars h_9 [(b_3, [(Sl.v t8_1)]), (b_2, [(Sl.v nilSl)]), (b_1, [(Sl.v x_10), (VI x_11), (Value.int .u64 x_12)])] ∧
  ((!t41_1) = true →
  InB t8_1 t17_1 ∧
  ∃ t48_1 : Sl, hcell h_9 (Sl.at t8_1 t17_1 1) = some (Sl.v t48_1) ∧
  ((decide ((t48_1.n : Int) < 5)) = true →
  InB t8_1 t17_1 ∧
  ∃ t58_1 : Sl, hcell h_9 (Sl.at t8_1 t17_1 1) = some (Sl.v t58_1) ∧
  (callM P 130 #[(Sl.v t58_1)] h_9 fun rv_6 h_10 => ∃ t59_1 : Sl, rv_6 = (Sl.v t59_1) ∧ Vars h_10 [(b_3, [(Sl.v t8_1)]), (b_2, [(Sl.v nilSl)]), (b_1, [(Sl.v x_10), (VI x_11), (Value.int .u64 x_12)])] ∧
  eop P (Instr.buildSlice 25 1 #[(0, (VI t13_1))]) h_10 fun rv_7 h_11 => ∃ t61_1 : Sl, rv_7 = (Sl.v t61_1) ∧ Vars h_11 [(b_3, [(Sl.v t8_1)]), (b_2, [(Sl.v nilSl)]), (b_1, [(Sl.v x_10), (VI x_11), (Value.int .u64 x_12)])] ∧
  eop P (appS 25 25 25 (Sl.v t59_1) (Sl.v t61_1)) h_11 fun rv_8 h_12 => ∃ t62_1 : Sl, rv_8 = (Sl.v t62_1) ∧ Vars h_12 [(b_3, [(Sl.v t8_1)]), (b_2, [(Sl.v nilSl)]), (b_1, [(Sl.v x_10), (VI x_11), (Value.int .u64 x_12)])] ∧
  InB t8_1 t17_1 ∧
  Writable h_12 (Sl.at t8_1 t17_1 1) ∧ Vars (hset h_12 (Sl.at t8_1 t17_1 1) (Sl.v t62_1)) [(b_3, [(Sl.v t8_1)]), (b_2, [(Sl.v nilSl)]), (b_1, [(Sl.v x_10), (VI x_11), (Value.int .u64 x_12)])] ∧
  ∀ h_13 : Heap, h_13 = hset h_12 (Sl.at t8_1 t17_1 1) (Sl.v t62_1) → Vars h_13 [(b_3, [(Sl.v t8_1)]), (b_2, [(Sl.v nilSl)]), (b_1, [(Sl.v x_10), (VI x_11), (Value.int .u64 x_12)])] →
  ∃ m : Nat, m < n_1 ∧ J_1 m (w64 (t17_1 + 1)) x_10 x_11 x_12 h_13) ∧
  (eop P (Instr.buildSlice 25 1 #[(0, (VI t13_1))]) h_9 fun rv_9 h_14 => ∃ t61_2 : Sl, rv_9 = (Sl.v t61_2) ∧ Vars h_14 [(b_3, [(Sl.v t8_1)]), (b_2, [(Sl.v nilSl)]), (b_1, [(Sl.v x_10), (VI x_11), (Value.int .u64 x_12)])] ∧
  hcell h_14 (Sl.at t8_1 t17_1 1) = some (Sl.v t58_1) ∧
  callM P 130 #[(Sl.v t58_1)] h_14 fun rv_10 h_15 => ∃ t59_2 : Sl, rv_10 = (Sl.v t59_2) ∧ Vars h_15 [(b_3, [(Sl.v t8_1)]), (b_2, [(Sl.v nilSl)]), (b_1, [(Sl.v x_10), (VI x_11), (Value.int .u64 x_12)])] ∧
  eop P (appS 25 25 25 (Sl.v t59_2) (Sl.v t61_2)) h_15 fun rv_11 h_16 => ∃ t62_2 : Sl, rv_11 = (Sl.v t62_2) ∧ Vars h_16 [(b_3, [(Sl.v t8_1)]), (b_2, [(Sl.v nilSl)]), (b_1, [(Sl.v x_10), (VI x_11), (Value.int .u64 x_12)])] ∧
  InB t8_1 t17_1 ∧
  Writable h_16 (Sl.at t8_1 t17_1 1) ∧ Vars (hset h_16 (Sl.at t8_1 t17_1 1) (Sl.v t62_2)) [(b_3, [(Sl.v t8_1)]), (b_2, [(Sl.v nilSl)]), (b_1, [(Sl.v x_10), (VI x_11), (Value.int .u64 x_12)])] ∧
  ∀ h_17 : Heap, h_17 = hset h_16 (Sl.at t8_1 t17_1 1) (Sl.v t62_2) → Vars h_17 [(b_3, [(Sl.v t8_1)]), (b_2, [(Sl.v nilSl)]), (b_1, [(Sl.v x_10), (VI x_11), (Value.int .u64 x_12)])] →
  ∃ m : Nat, m < n_1 ∧ J_1 m (w64 (t17_1 + 1)) x_10 x_11 x_12 h_17)) ∧
  ((decide ((t48_1.n : Int) < 5)) = false →
  InB t8_1 t17_1 ∧
  ∃ t73_1 : Sl, hcell h_9 (Sl.at t8_1 t17_1 1) = some (Sl.v t73_1) ∧
  pop P (Instr.sliceAt 25 (Sl.v t73_1) (some (Value.int IntKind.i64 1)) none none) fun rv_12 => ∃ t74_1 : Sl, rv_12 = (Sl.v t74_1) ∧ 
  eop P (Instr.buildSlice 25 1 #[(0, (VI t13_1))]) h_9 fun rv_13 h_18 => ∃ t68_1 : Sl, rv_13 = (Sl.v t68_1) ∧ Vars h_18 [(b_3, [(Sl.v t8_1)]), (b_2, [(Sl.v nilSl)]), (b_1, [(Sl.v x_10), (VI x_11), (Value.int .u64 x_12)])] ∧
  hcell h_18 (Sl.at t8_1 t17_1 1) = some (Sl.v t73_1) ∧
  eop P (appS 25 25 25 (Sl.v t68_1) (Sl.v t74_1)) h_18 fun rv_14 h_19 => ∃ t75_1 : Sl, rv_14 = (Sl.v t75_1) ∧ Vars h_19 [(b_3, [(Sl.v t8_1)]), (b_2, [(Sl.v nilSl)]), (b_1, [(Sl.v x_10), (VI x_11), (Value.int .u64 x_12)])] ∧
  hcell h_19 (Sl.at t8_1 t17_1 1) = some (Sl.v t73_1) ∧
  InB t8_1 t17_1 ∧
  Writable h_19 (Sl.at t8_1 t17_1 1) ∧ Vars (hset h_19 (Sl.at t8_1 t17_1 1) (Sl.v t75_1)) [(b_3, [(Sl.v t8_1)]), (b_2, [(Sl.v nilSl)]), (b_1, [(Sl.v x_10), (VI x_11), (Value.int .u64 x_12)])] ∧
  ∀ h_20 : Heap, h_20 = hset h_19 (Sl.at t8_1 t17_1 1) (Sl.v t75_1) → Vars h_20 [(b_3, [(Sl.v t8_1)]), (b_2, [(Sl.v nilSl)]), (b_1, [(Sl.v x_10), (VI x_11), (Value.int .u64 x_12)])] →
  ∃ m : Nat, m < n_1 ∧ J_1 m (w64 (t17_1 + 1)) x_10 x_11 x_12 h_20)) ∧
  ((!t41_1) = false →
  ∃ m : Nat, m < n_1 ∧ J_1 m (w64 (t17_1 + 1)) x_10 x_11 x_12 h_9)) ∧
  ((decide (t36_1 < 0)) = false →
  ∃ m : Nat, m < n_1 ∧ J_1 m (w64 (t17_1 + 1)) x_7 x_8 x_9 h_8)) ∧
  ((!decide (t17_1 = t13_1)) = false →
  ∃ m : Nat, m < n_1 ∧ J_1 m (w64 (t17_1 + 1)) x_7 x_8 x_9 h_7)) ∧
  ((decide (0 < (t22_1.n : Int))) = false →
  ∃ m : Nat, m < n_1 ∧ J_1 m (w64 (t17_1 + 1)) x_7 x_8 x_9 h_7)) ∧
  ((decide (t17_1 < (t8_1.n : Int))) = false →
  ∀ (h_21 : Heap), Fr (In [b_2]) h_6 h_21 → Vars h_21 [(b_3, [(Sl.v t8_1)]), (b_2, [(Sl.v t8_1)]), (b_1, [(Sl.v x_7), (VI x_8), (Value.int .u64 x_9)])] →
  K (Value.tuple #[(Value.agg #[(Sl.v t8_1)]), (VI t13_1)]) h_21)
theorem v156 (b_1 : Nat) (c0_1 : Sl) (c0_2 : Int) (c0_3 : Int) (h : Heap) (K : Value → Heap → Prop) (hL : Vars h [(b_1, [(Sl.v c0_1), (VI c0_2), (Value.int .u64 c0_3)])]) (H : u156 Try.prog b_1 c0_1 c0_2 c0_3 h K) : callM Try.prog 156 #[(VP b_1 0)] h K := by
  refine c156 (VP b_1 0) h K ?_
  unfold u156 at H
  unfold t156
  refine eop_alloc 32 zer32 rfl hL (fun b_2 h_1 hb_1 hf_1 hL_1 => ?_)
  have H := H b_2 h_1 (Nat.le_trans (Fr.size (Fr.r (In []) _)) hb_1) (Fr.no' (Fr.r (In []) _) hf_1) hL_1
  refine H.mono fun rv_1 h_2 H => ?_
  obtain ⟨x_1, x_2, x_3, t8_1, rfl, hL_2, H⟩ := H
  refine eop_alloc 32 zer32 rfl hL_2 (fun b_3 h_3 hb_2 hf_2 hL_3 => ?_)
  refine uop_loc siz32 hL_3 0 rfl 0 [(Sl.v t8_1)] rfl rfl rfl (Nat.le_of_ble_eq_true rfl) (L' := [(b_3, [(Sl.v t8_1)]), (b_2, [(Sl.v nilSl)]), (b_1, [(Sl.v x_1), (VI x_2), (Value.int .u64 x_3)])]) rfl (fun h_4 hf_3 hL_4 => ?_)
  refine pop_field 0 fld32_0 b_3 0 ?_
  refine rop_loc one22 hL_4 0 rfl 0 (v := (Sl.v t8_1)) rfl ?_
  refine pop_len t8_1 _ _ sli22 ?_
  have H := H b_3 h_4 (Nat.le_trans (Fr.size (Fr.r (In []) _)) hb_2) (Fr.new (Fr.no' (Fr.r (In []) _) hf_2) (Nat.le_trans (Fr.size (Fr.r (In []) _)) hb_2) hf_3) hL_4
  refine H.mono fun rv_2 h_5 H => ?_
  obtain ⟨x_4, x_5, x_6, t13_1, rfl, hL_5, H⟩ := H
  refine pop_field 0 fld32_0 b_3 0 ?_
  refine rop_loc one22 hL_5 0 rfl 0 (v := (Sl.v t8_1)) rfl ?_
  refine pop_len t8_1 _ _ sli22 ?_
  obtain ⟨J_1, ⟨n_2, h0_1⟩, HB_1⟩ := H
  refine loop_intro (J := fun (n : Nat) (vs : List Value) (h' : Heap) => ∃ t17_1 : Int, ∃ x_7 : Sl, ∃ x_8 : Int, ∃ x_9 : Int, vs = [(VI t17_1)] ∧ J_1 n t17_1 x_7 x_8 x_9 h' ∧ Vars h' [(b_3, [(Sl.v t8_1)]), (b_2, [(Sl.v nilSl)]), (b_1, [(Sl.v x_7), (VI x_8), (Value.int .u64 x_9)])]) n_2 ⟨0, x_4, x_5, x_6, rfl, h0_1, hL_5⟩ ?_
  intro I_1 mu_1 hI_1 junk_1 tv_1 h_6 hi_1
  obtain ⟨n_1, ⟨t17_1, x_7, x_8, x_9, hv, hJ_1, hL_6⟩, hn_1⟩ := hI_1 _ _ hi_1
  cases hv
  have H := HB_1 n_1 t17_1 x_7 x_8 x_9 h_6 hJ_1 hL_6
  refine pop_lss .i64 t17_1 (t8_1.n : Int) ?_
  refine condM_b (fun hb_3 => ?_) (fun hb_3 => ?_)
  · have H := H.1 hb_3
    refine rop_locA agg32 hL_6 0 rfl 0 (vs := [(Sl.v t8_1)]) rfl rfl ?_
    refine H.mono fun rv_3 h_7 H => ?_
    obtain ⟨t22_1, rfl, hL_7, H⟩ := H
    refine pop_len t22_1 _ _ sli25 ?_
    refine pop_gtr .i64 (t22_1.n : Int) 0 ?_
    refine guardM_st (fun hb_4 => ?_) (fun hb_4 => ?_)
    · have H := H.1 hb_4
      refine guardM_y' hb_4 ?_
      refine guardM_y' hb_4 ?_
      refine pop_ine .i64 _ _ t17_1 t13_1 ?_
      refine pop_pickt' hb_4 ?_
      refine guardM_st (fun hb_5 => ?_) (fun hb_5 => ?_)
      · have H := H.1 hb_5
        refine rop_locA agg32 hL_7 0 rfl 0 (vs := [(Sl.v t8_1)]) rfl rfl ?_
        refine guardM_y' hb_5 ?_
        refine guardM_y' hb_5 ?_
        refine H.mono fun rv_4 h_8 H => ?_
        obtain ⟨t33_1, rfl, hL_8, H⟩ := H
        refine guardM_y' hb_5 ?_
        refine guardM_y' hb_5 ?_
        obtain ⟨hi_2, H⟩ := H
        refine pop_index sli25 siz3 .i64 t33_1 t13_1 hi_2 ?_
        refine guardM_y' hb_5 ?_
        obtain ⟨t36_1, hc_7, H⟩ := H
        refine rop_one one3 (VI t36_1) hc_7 ?_
        refine guardM_y' hb_5 ?_
        refine pop_lss .i64 t36_1 0 ?_
        refine pop_pickt' hb_5 ?_
        refine guardM_st (fun hb_6 => ?_) (fun hb_6 => ?_)
        · have H := H.1 hb_6
          refine guardM_y' hb_6 ?_
          refine H.mono fun rv_5 h_9 H => ?_
          obtain ⟨x_10, x_11, x_12, t41_1, rfl, hL_9, H⟩ := H
          refine guardM_y' hb_6 ?_
          refine pop_not t41_1 ?_
          refine pop_pickt' hb_6 ?_
          refine condM_b (fun hb_7 => ?_) (fun hb_7 => ?_)
          · have H := H.1 hb_7
            refine pop_field 0 fld32_0 b_3 0 ?_
            refine rop_loc one22 hL_9 0 rfl 0 (v := (Sl.v t8_1)) rfl ?_
            obtain ⟨hi_3, H⟩ := H
            refine pop_index sli22 siz25 .i64 t8_1 t17_1 hi_3 ?_
            obtain ⟨t48_1, hc_6, H⟩ := H
            refine rop_one one25 (Sl.v t48_1) hc_6 ?_
            refine pop_len t48_1 _ _ sli25 ?_
            refine pop_lss .i64 (t48_1.n : Int) 5 ?_
            refine condM_b (fun hb_8 => ?_) (fun hb_8 => ?_)
            · have H := H.1 hb_8
              refine pop_field 0 fld32_0 b_3 0 ?_
              refine rop_loc one22 hL_9 0 rfl 0 (v := (Sl.v t8_1)) rfl ?_
              refine pop_field 0 fld32_0 b_3 0 ?_
              refine rop_loc one22 hL_9 0 rfl 0 (v := (Sl.v t8_1)) rfl ?_
              obtain ⟨hi_4, H⟩ := H
              refine pop_index sli22 siz25 .i64 t8_1 t17_1 hi_4 ?_
              obtain ⟨t58_1, hc_2, H⟩ := H
              refine rop_one one25 (Sl.v t58_1) hc_2 ?_
              refine ⟨?_, ?_⟩
              · have H := H.1
                refine H.mono fun rv_6 h_10 H => ?_
                obtain ⟨t59_1, rfl, hL_10, H⟩ := H
                refine ⟨?_, ?_⟩
                · exact still_loc one22 hL_10 0 rfl 0 (v := (Sl.v t8_1)) rfl
                refine ⟨?_, ?_⟩
                · exact still_loc one22 hL_10 0 rfl 0 (v := (Sl.v t8_1)) rfl
                refine H.mono fun rv_7 h_11 H => ?_
                obtain ⟨t61_1, rfl, hL_11, H⟩ := H
                refine ⟨?_, ?_⟩
                · exact still_loc one22 hL_11 0 rfl 0 (v := (Sl.v t8_1)) rfl
                refine ⟨?_, ?_⟩
                · exact still_loc one22 hL_11 0 rfl 0 (v := (Sl.v t8_1)) rfl
                refine H.mono fun rv_8 h_12 H => ?_
                obtain ⟨t62_1, rfl, hL_12, H⟩ := H
                refine ⟨?_, ?_⟩
                · exact still_loc one22 hL_12 0 rfl 0 (v := (Sl.v t8_1)) rfl
                refine ⟨?_, ?_⟩
                · exact still_loc one22 hL_12 0 rfl 0 (v := (Sl.v t8_1)) rfl
                obtain ⟨hi_5, H⟩ := H
                refine pop_index sli22 siz25 .i64 t8_1 t17_1 hi_5 ?_
                obtain ⟨hw_1, hL_13, H⟩ := H
                refine uop_cell (v := (Sl.v t62_1)) siz25 hw_1 rfl (fun h_13 he_1 => ?_)
                rw [← he_1] at hL_13
                have H := H h_13 he_1 hL_13
                refine pop_add .i64 t17_1 1 ?_
                obtain ⟨m_1, hm_1, H⟩ := H
                exact hn_1 _ _ ⟨m_1, hm_1, (w64 (t17_1 + 1)), x_10, x_11, x_12, rfl, H, hL_13⟩
              · have H := H.2
                refine H.mono fun rv_9 h_14 H => ?_
                obtain ⟨t61_2, rfl, hL_14, H⟩ := H
                refine ⟨?_, ?_⟩
                · exact still_one one25 H.1
                obtain ⟨hc_1, H⟩ := H
                refine ⟨?_, ?_⟩
                · exact still_loc one22 hL_14 0 rfl 0 (v := (Sl.v t8_1)) rfl
                refine ⟨?_, ?_⟩
                · exact still_loc one22 hL_14 0 rfl 0 (v := (Sl.v t8_1)) rfl
                refine H.mono fun rv_10 h_15 H => ?_
                obtain ⟨t59_2, rfl, hL_15, H⟩ := H
                refine ⟨?_, ?_⟩
                · exact still_loc one22 hL_15 0 rfl 0 (v := (Sl.v t8_1)) rfl
                refine ⟨?_, ?_⟩
                · exact still_loc one22 hL_15 0 rfl 0 (v := (Sl.v t8_1)) rfl
                refine H.mono fun rv_11 h_16 H => ?_
                obtain ⟨t62_2, rfl, hL_16, H⟩ := H
                refine ⟨?_, ?_⟩
                · exact still_loc one22 hL_16 0 rfl 0 (v := (Sl.v t8_1)) rfl
                refine ⟨?_, ?_⟩
                · exact still_loc one22 hL_16 0 rfl 0 (v := (Sl.v t8_1)) rfl
                obtain ⟨hi_6, H⟩ := H
                refine pop_index sli22 siz25 .i64 t8_1 t17_1 hi_6 ?_
                obtain ⟨hw_2, hL_17, H⟩ := H
                refine uop_cell (v := (Sl.v t62_2)) siz25 hw_2 rfl (fun h_17 he_2 => ?_)
                rw [← he_2] at hL_17
                have H := H h_17 he_2 hL_17
                refine pop_add .i64 t17_1 1 ?_
                obtain ⟨m_2, hm_2, H⟩ := H
                exact hn_1 _ _ ⟨m_2, hm_2, (w64 (t17_1 + 1)), x_10, x_11, x_12, rfl, H, hL_17⟩
            · have H := H.2 hb_8
              refine pop_field 0 fld32_0 b_3 0 ?_
              refine rop_loc one22 hL_9 0 rfl 0 (v := (Sl.v t8_1)) rfl ?_
              refine pop_field 0 fld32_0 b_3 0 ?_
              refine rop_loc one22 hL_9 0 rfl 0 (v := (Sl.v t8_1)) rfl ?_
              obtain ⟨hi_7, H⟩ := H
              refine pop_index sli22 siz25 .i64 t8_1 t17_1 hi_7 ?_
              obtain ⟨t73_1, hc_5, H⟩ := H
              refine rop_one one25 (Sl.v t73_1) hc_5 ?_
              refine H.mono fun rv_12 H => ?_
              obtain ⟨t74_1, rfl, H⟩ := H
              refine H.mono fun rv_13 h_18 H => ?_
              obtain ⟨t68_1, rfl, hL_18, H⟩ := H
              refine ⟨?_, ?_⟩
              · exact still_one one25 H.1
              obtain ⟨hc_3, H⟩ := H
              refine ⟨?_, ?_⟩
              · exact still_loc one22 hL_18 0 rfl 0 (v := (Sl.v t8_1)) rfl
              refine ⟨?_, ?_⟩
              · exact still_loc one22 hL_18 0 rfl 0 (v := (Sl.v t8_1)) rfl
              refine H.mono fun rv_14 h_19 H => ?_
              obtain ⟨t75_1, rfl, hL_19, H⟩ := H
              refine ⟨?_, ?_⟩
              · exact still_one one25 H.1
              obtain ⟨hc_4, H⟩ := H
              refine ⟨?_, ?_⟩
              · exact still_loc one22 hL_19 0 rfl 0 (v := (Sl.v t8_1)) rfl
              refine ⟨?_, ?_⟩
              · exact still_loc one22 hL_19 0 rfl 0 (v := (Sl.v t8_1)) rfl
              obtain ⟨hi_8, H⟩ := H
              refine pop_index sli22 siz25 .i64 t8_1 t17_1 hi_8 ?_
              obtain ⟨hw_3, hL_20, H⟩ := H
              refine uop_cell (v := (Sl.v t75_1)) siz25 hw_3 rfl (fun h_20 he_3 => ?_)
              rw [← he_3] at hL_20
              have H := H h_20 he_3 hL_20
              refine pop_add .i64 t17_1 1 ?_
              obtain ⟨m_3, hm_3, H⟩ := H
              exact hn_1 _ _ ⟨m_3, hm_3, (w64 (t17_1 + 1)), x_10, x_11, x_12, rfl, H, hL_20⟩
          · have H := H.2 hb_7
            refine pop_add .i64 t17_1 1 ?_
            obtain ⟨m_4, hm_4, H⟩ := H
            exact hn_1 _ _ ⟨m_4, hm_4, (w64 (t17_1 + 1)), x_10, x_11, x_12, rfl, H, hL_9⟩
        · have H := H.2 hb_6
          refine guardM_n' hb_6 (by decide) ?_
          refine guardM_n' hb_6 (by decide) ?_
          refine pop_pickf' hb_6 ?_
          refine condM_f ?_
          refine pop_add .i64 t17_1 1 ?_
          obtain ⟨m_5, hm_5, H⟩ := H
          exact hn_1 _ _ ⟨m_5, hm_5, (w64 (t17_1 + 1)), x_7, x_8, x_9, rfl, H, hL_8⟩
      · have H := H.2 hb_5
        refine guardM_n' hb_5 (by decide) ?_
        refine guardM_n' hb_5 (by decide) ?_
        refine guardM_n' hb_5 (by decide) ?_
        refine guardM_n' hb_5 (by decide) ?_
        refine guardM_n' hb_5 (by decide) ?_
        refine guardM_n' hb_5 (by decide) ?_
        refine pop_pickf' hb_5 ?_
        refine guardM_n (by decide) ?_
        refine guardM_n (by decide) ?_
        refine guardM_n (by decide) ?_
        refine pop_pickf _ _ ?_
        refine condM_f ?_
        refine pop_add .i64 t17_1 1 ?_
        obtain ⟨m_6, hm_6, H⟩ := H
        exact hn_1 _ _ ⟨m_6, hm_6, (w64 (t17_1 + 1)), x_7, x_8, x_9, rfl, H, hL_7⟩
    · have H := H.2 hb_4
      refine guardM_n' hb_4 (by decide) ?_
      refine guardM_n' hb_4 (by decide) ?_
      refine pop_pickf' hb_4 ?_
      refine guardM_n (by decide) ?_
      refine guardM_n (by decide) ?_
      refine guardM_n (by decide) ?_
      refine guardM_n (by decide) ?_
      refine guardM_n (by decide) ?_
      refine guardM_n (by decide) ?_
      refine guardM_n (by decide) ?_
      refine pop_pickf _ _ ?_
      refine guardM_n (by decide) ?_
      refine guardM_n (by decide) ?_
      refine guardM_n (by decide) ?_
      refine pop_pickf _ _ ?_
      refine condM_f ?_
      refine pop_add .i64 t17_1 1 ?_
      obtain ⟨m_7, hm_7, H⟩ := H
      exact hn_1 _ _ ⟨m_7, hm_7, (w64 (t17_1 + 1)), x_7, x_8, x_9, rfl, H, hL_7⟩
  · have H := H.2 hb_3
    refine rop_locA agg32 hL_6 0 rfl 0 (vs := [(Sl.v t8_1)]) rfl rfl ?_
    refine uop_loc siz32 hL_6 1 rfl 0 [(Sl.v t8_1)] rfl rfl rfl (Nat.le_of_ble_eq_true rfl) (L' := [(b_3, [(Sl.v t8_1)]), (b_2, [(Sl.v t8_1)]), (b_1, [(Sl.v x_7), (VI x_8), (Value.int .u64 x_9)])]) rfl (fun h_21 hf_4 hL_21 => ?_)
    refine rop_locA agg32 hL_21 1 rfl 0 (vs := [(Sl.v t8_1)]) rfl rfl ?_
    have H := H  h_21  (Fr.old (Fr.r (In []) _) hf_4) hL_21
    exact H

/-! (*spec.l1Cur).sureWalk -/
def u157 (P : Program) (b_1 : Nat) (c0_1 : Sl) (c0_2 : Int) (c0_3 : Int) (g1_1 : Sl) (h : Heap) (K : Value → Heap → Prop) : Prop :=
  ∀ (b_2 : Nat) (b_3 : Nat) (h_2 : Heap), h.size ≤ b_2 → h.size ≤ b_3 → Fr (In []) h h_2 → Vars h_2 [(b_3, [(Sl.v nilSl), (VI 0)]), (b_2, [(Sl.v g1_1)]), (b_1, [(Sl.v c0_1), (VI c0_2), (Value.int .u64 c0_3)])] →
  callM P 100 #[(VP b_1 0), (VI (g1_1.n : Int))] h_2 fun rv_1 h_3 => ∃ x_1 : Sl, ∃ x_2 : Int, ∃ x_3 : Int, ∃ t13_1 : Int, rv_1 = (VI t13_1) ∧ Vars h_3 [(b_3, [(Sl.v nilSl), (VI 0)]), (b_2, [(Sl.v g1_1)]), (b_1, [(Sl.v x_1), (VI x_2), (Value.int .u64 x_3)])] ∧
  ∀ (b_4 : Nat) (h_5 : Heap), h_3.size ≤ b_4 → Fr (In []) h_3 h_5 → Vars h_5 [(b_4, [(Sl.v nilSl), (VI t13_1)]), (b_3, [(Sl.v nilSl), (VI 0)]), (b_2, [(Sl.v g1_1)]), (b_1, [(Sl.v x_1), (VI x_2), (Value.int .u64 x_3)])] →
  ∃ J_1 : Nat → Int → Sl → Int → Sl → Int → Int → Heap → Prop, (∃ n0 : Nat, J_1 n0 0 nilSl t13_1 x_1 x_2 x_3 h_5) ∧
  ∀ (n_1 : Nat) (t18_1 : Int) (x_4 : Sl) (x_5 : Int) (x_6 : Sl) (x_7 : Int) (x_8 : Int) (h_6 : Heap), J_1 n_1 t18_1 x_4 x_5 x_6 x_7 x_8 h_6 → Vars h_6 [(b_4, [(Sl.v x_4), (VI x_5)]), (b_3, [(Sl.v nilSl), (VI 0)]), (b_2, [(Sl.v g1_1)]), (b_1, [(Sl.v x_6), (VI x_7), (Value.int .u64 x_8)])] →
  ((decide (t18_1 < (g1_1.n : Int))) = true →
  InB g1_1 t18_1 ∧
  ∃ t21_1 : Sl, hcell h_6 (Sl.at g1_1 t18_1 1) = some (Sl.v t21_1) ∧
  ∃ J_2 : Int → Sl → Int → Int → Heap → Prop, (((decide (0 < (t21_1.n : Int))) = true →
  callM P 100 #[(VP b_1 0), (VI (t21_1.n : Int))] h_6 fun rv_2 h_7 => ∃ x_13 : Sl, ∃ x_14 : Int, ∃ x_15 : Int, ∃ t28_1 : Int, rv_2 = (VI t28_1) ∧ Vars h_7 [(b_4, [(Sl.v x_4), (VI x_5)]), (b_3, [(Sl.v nilSl), (VI 0)]), (b_2, [(Sl.v g1_1)]), (b_1, [(Sl.v x_13), (VI x_14), (Value.int .u64 x_15)])] ∧
  J_2 t28_1 x_13 x_14 x_15 h_7) ∧
  ((decide (0 < (t21_1.n : Int))) = false →
  J_2 0 x_6 x_7 x_8 h_6)) ∧
  ∀ (x_9 : Int) (x_10 : Sl) (x_11 : Int) (x_12 : Int) (h_8 : Heap), J_2 x_9 x_10 x_11 x_12 h_8 → Vars h_8 [(b_4, [(Sl.v x_4), (VI x_5)]), (b_3, [(Sl.v nilSl), (VI 0)]), (b_2, [(Sl.v g1_1)]), (b_1, [(Sl.v x_10), (VI x_11), (Value.int .u64 x_12)])] →
  eop P (Instr.buildSlice 25 1 #[(0, (VI x_9))]) h_8 fun rv_3 h_9 => ∃ t32_1 : Sl, rv_3 = (Sl.v t32_1) ∧ Vars h_9 [(b_4, [(Sl.v x_4), (VI x_5)]), (b_3, [(Sl.v nilSl), (VI 0)]), (b_2, [(Sl.v g1_1)]), (b_1, [(Sl.v x_10), (VI x_11), (Value.int .u64 x_12)])] ∧
  eop P (appS 25 25 25 (Sl.v x_4) (Sl.v t32_1)) h_9 fun rv_4 h_10 => ∃ t33_1 : Sl, rv_4 = (Sl.v t33_1) ∧ Vars h_10 [(b_4, [(Sl.v x_4), (VI x_5)]), (b_3, [(Sl.v nilSl), (VI 0)]), (b_2, [(Sl.v g1_1)]), (b_1, [(Sl.v x_10), (VI x_11), (Value.int .u64 x_12)])] ∧
  ∀ (h_11 : Heap), Fr (In [b_4]) h_10 h_11 → Vars h_11 [(b_4, [(Sl.v t33_1), (VI x_5)]), (b_3, [(Sl.v nilSl), (VI 0)]), (b_2, [(Sl.v g1_1)]), (b_1, [(Sl.v x_10), (VI x_11), (Value.int .u64 x_12)])] →
  ∃ m : Nat, m < n_1 ∧ J_1 m (w64 (t18_1 + 1)) t33_1 x_5 x_10 x_11 x_12 h_11) ∧
  ((decide (t18_1 < (g1_1.n : Int))) = false →
  ∀ (h_12 : Heap), Fr (In [b_3]) h_6 h_12 → Vars h_12 [(b_4, [(Sl.v x_4), (VI x_5)]), (b_3, [(Sl.v x_4), (VI x_5)]), (b_2, [(Sl.v g1_1)]), (b_1, [(Sl.v x_6), (VI x_7), (Value.int .u64 x_8)])] →
  K (Value.agg #[(Sl.v x_4), (VI x_5)]) h_12)
theorem v157 (b_1 : Nat) (c0_1 : Sl) (c0_2 : Int) (c0_3 : Int) (g1_1 : Sl) (h : Heap) (K : Value → Heap → Prop) (hL : Vars h [(b_1, [(Sl.v c0_1), (VI c0_2), (Value.int .u64 c0_3)])]) (H : u157 Try.prog b_1 c0_1 c0_2 c0_3 g1_1 h K) : callM Try.prog 157 #[(VP b_1 0), (Value.agg #[(Sl.v g1_1)])] h K := by
  refine c157 (VP b_1 0) (Value.agg #[(Sl.v g1_1)]) h K ?_
  unfold u157 at H
  unfold t157
  refine eop_box 32 (Value.agg #[(Sl.v g1_1)]) rfl hL (fun b_2 h_1 hb_1 hf_1 hL_1 => ?_)
  refine eop_alloc 132 zer132 rfl hL_1 (fun b_3 h_2 hb_2 hf_2 hL_2 => ?_)
  refine pop_field 0 fld32_0 b_2 0 ?_
  refine rop_loc one22 hL_2 1 rfl 0 (v := (Sl.v g1_1)) rfl ?_
  refine pop_len g1_1 _ _ sli22 ?_
  have H := H b_2 b_3 h_2 (Nat.le_trans (Fr.size (Fr.r (In []) _)) hb_1) (Nat.le_trans (Fr.size (Fr.no' (Fr.r (In []) _) hf_1)) hb_2) (Fr.no' (Fr.no' (Fr.r (In []) _) hf_1) hf_2) hL_2
  refine H.mono fun rv_1 h_3 H => ?_
  obtain ⟨x_1, x_2, x_3, t13_1, rfl, hL_3, H⟩ := H
  refine pop.mk' (v := (Value.agg #[(Sl.v nilSl), (VI t13_1)])) (fun w => by kernel_rfl) ?_
  refine eop_alloc 132 zer132 rfl hL_3 (fun b_4 h_4 hb_3 hf_3 hL_4 => ?_)
  refine uop_loc siz132 hL_4 0 rfl 0 [(Sl.v nilSl), (VI t13_1)] rfl rfl rfl (Nat.le_of_ble_eq_true rfl) (L' := [(b_4, [(Sl.v nilSl), (VI t13_1)]), (b_3, [(Sl.v nilSl), (VI 0)]), (b_2, [(Sl.v g1_1)]), (b_1, [(Sl.v x_1), (VI x_2), (Value.int .u64 x_3)])]) rfl (fun h_5 hf_4 hL_5 => ?_)
  refine pop_field 0 fld32_0 b_2 0 ?_
  refine rop_loc one22 hL_5 2 rfl 0 (v := (Sl.v g1_1)) rfl ?_
  refine pop_len g1_1 _ _ sli22 ?_
  have H := H b_4 h_5 (Nat.le_trans (Fr.size (Fr.r (In []) _)) hb_3) (Fr.new (Fr.no' (Fr.r (In []) _) hf_3) (Nat.le_trans (Fr.size (Fr.r (In []) _)) hb_3) hf_4) hL_5
  obtain ⟨J_1, ⟨n_2, h0_1⟩, HB_2⟩ := H
  refine loop_intro (J := fun (n : Nat) (vs : List Value) (h' : Heap) => ∃ t18_1 : Int, ∃ x_4 : Sl, ∃ x_5 : Int, ∃ x_6 : Sl, ∃ x_7 : Int, ∃ x_8 : Int, vs = [(VI t18_1)] ∧ J_1 n t18_1 x_4 x_5 x_6 x_7 x_8 h' ∧ Vars h' [(b_4, [(Sl.v x_4), (VI x_5)]), (b_3, [(Sl.v nilSl), (VI 0)]), (b_2, [(Sl.v g1_1)]), (b_1, [(Sl.v x_6), (VI x_7), (Value.int .u64 x_8)])]) n_2 ⟨0, nilSl, t13_1, x_1, x_2, x_3, rfl, h0_1, hL_5⟩ ?_
  intro I_1 mu_1 hI_1 junk_1 tv_2 h_6 hi_1
  obtain ⟨n_1, ⟨t18_1, x_4, x_5, x_6, x_7, x_8, hv, hJ_1, hL_6⟩, hn_1⟩ := hI_1 _ _ hi_1
  cases hv
  have H := HB_2 n_1 t18_1 x_4 x_5 x_6 x_7 x_8 h_6 hJ_1 hL_6
  refine pop_lss .i64 t18_1 (g1_1.n : Int) ?_
  refine condM_b (fun hb_4 => ?_) (fun hb_4 => ?_)
  · have H := H.1 hb_4
    obtain ⟨hi_2, H⟩ := H
    refine pop_index sli22 siz25 .i64 g1_1 t18_1 hi_2 ?_
    obtain ⟨t21_1, hc_1, H⟩ := H
    refine rop_one one25 (Sl.v t21_1) hc_1 ?_
    obtain ⟨J_2, H, HB_1⟩ := H
    refine ⟨fun (vs : List Value) (h' : Heap) => ∃ x_9 : Int, ∃ x_10 : Sl, ∃ x_11 : Int, ∃ x_12 : Int, vs = [(VI x_9)] ∧ J_2 x_9 x_10 x_11 x_12 h' ∧ Vars h' [(b_4, [(Sl.v x_4), (VI x_5)]), (b_3, [(Sl.v nilSl), (VI 0)]), (b_2, [(Sl.v g1_1)]), (b_1, [(Sl.v x_10), (VI x_11), (Value.int .u64 x_12)])], ?_, ?_⟩
    · refine pop_len t21_1 _ _ sli25 ?_
      refine pop_gtr .i64 (t21_1.n : Int) 0 ?_
      refine condM_b (fun hb_5 => ?_) (fun hb_5 => ?_)
      · have H := H.1 hb_5
        refine pop_len t21_1 _ _ sli25 ?_
        refine H.mono fun rv_2 h_7 H => ?_
        obtain ⟨x_13, x_14, x_15, t28_1, rfl, hL_7, H⟩ := H
        exact ⟨t28_1, x_13, x_14, x_15, rfl, H, hL_7⟩
      · have H := H.2 hb_5
        exact ⟨0, x_6, x_7, x_8, rfl, H, hL_6⟩
    intro junk_2 tv_1 h_8
    rintro ⟨x_9, x_10, x_11, x_12, hv, hJ_2, hL_8⟩
    cases hv
    have H := HB_1 x_9 x_10 x_11 x_12 h_8 hJ_2 hL_8
    refine pop_field 0 fld132_0 b_4 0 ?_
    refine rop_loc one25 hL_8 0 rfl 0 (v := (Sl.v x_4)) rfl ?_
    refine H.mono fun rv_3 h_9 H => ?_
    obtain ⟨t32_1, rfl, hL_9, H⟩ := H
    refine H.mono fun rv_4 h_10 H => ?_
    obtain ⟨t33_1, rfl, hL_10, H⟩ := H
    refine pop_field 0 fld132_0 b_4 0 ?_
    refine uop_loc siz25 hL_10 0 rfl 0 [(Sl.v t33_1)] rfl rfl rfl (Nat.le_of_ble_eq_true rfl) (L' := [(b_4, [(Sl.v t33_1), (VI x_5)]), (b_3, [(Sl.v nilSl), (VI 0)]), (b_2, [(Sl.v g1_1)]), (b_1, [(Sl.v x_10), (VI x_11), (Value.int .u64 x_12)])]) rfl (fun h_11 hf_5 hL_11 => ?_)
    refine pop_add .i64 t18_1 1 ?_
    have H := H  h_11  (Fr.old (Fr.r (In []) _) hf_5) hL_11
    obtain ⟨m_1, hm_1, H⟩ := H
    exact hn_1 _ _ ⟨m_1, hm_1, (w64 (t18_1 + 1)), t33_1, x_5, x_10, x_11, x_12, rfl, H, hL_11⟩
  · have H := H.2 hb_4
    refine rop_locA agg132 hL_6 0 rfl 0 (vs := [(Sl.v x_4), (VI x_5)]) rfl rfl ?_
    refine uop_loc siz132 hL_6 1 rfl 0 [(Sl.v x_4), (VI x_5)] rfl rfl rfl (Nat.le_of_ble_eq_true rfl) (L' := [(b_4, [(Sl.v x_4), (VI x_5)]), (b_3, [(Sl.v x_4), (VI x_5)]), (b_2, [(Sl.v g1_1)]), (b_1, [(Sl.v x_6), (VI x_7), (Value.int .u64 x_8)])]) rfl (fun h_12 hf_6 hL_12 => ?_)
    refine rop_locA agg132 hL_12 1 rfl 0 (vs := [(Sl.v x_4), (VI x_5)]) rfl rfl ?_
    have H := H  h_12  (Fr.old (Fr.r (In []) _) hf_6) hL_12
    exact H

/-! (*spec.l1Cur).next -/
def u158 (P : Program) (b_1 : Nat) (c0_1 : Sl) (c0_2 : Int) (c0_3 : Int) (h : Heap) (K : Value → Heap → Prop) : Prop :=
  ∃ J_1 : Int → Heap → Prop, (((decide (c0_2 < (c0_1.n : Int))) = true →
  InB c0_1 c0_2 ∧
  ∃ t23_1 : Int, hcell h (Sl.at c0_1 c0_2 1) = some (Value.int .u8 t23_1) ∧
  rop P (convert 5 3 (Value.int .u8 t23_1)) h fun rv_1 => ∃ t24_1 : Int, rv_1 = (VI t24_1) ∧ 
  J_1 t24_1 h) ∧
  ((decide (c0_2 < (c0_1.n : Int))) = false →
  J_1 0 h)) ∧
  ∀ (x_1 : Int) (h_1 : Heap), J_1 x_1 h_1 → Vars h_1 [(b_1, [(Sl.v c0_1), (VI c0_2), (Value.int .u64 c0_3)])] →
  ∀ (h_2 : Heap), Fr (In [b_1]) h_1 h_2 → Vars h_2 [(b_1, [(Sl.v c0_1), (VI (w64 (c0_2 + 1))), (Value.int .u64 c0_3)])] →
  rop P (convert 3 107 (VI x_1)) h_2 fun rv_2 => ∃ t39_1 : Int, rv_2 = (Value.int .u64 t39_1) ∧ 
  ((decide ((w64 (c0_2 + 1)) ≤ (c0_1.n : Int))) = true →
  ∀ (h_3 : Heap), Fr (In [b_1]) h_2 h_3 → Vars h_3 [(b_1, [(Sl.v c0_1), (VI (w64 (c0_2 + 1))), (Value.int .u64 (IntKind.wrap .u64 ((IntKind.wrap .u64 ((IntKind.wrap .u64 (c0_3 * 6364136223846793005)) + t39_1)) + 1442695040888963407)))])] →
  K (VI x_1) h_3) ∧
  ((decide ((w64 (c0_2 + 1)) ≤ (c0_1.n : Int))) = false →
  pop P (binA .shr 107 (Value.int .u64 (IntKind.wrap .u64 ((IntKind.wrap .u64 ((IntKind.wrap .u64 (c0_3 * 6364136223846793005)) + t39_1)) + 1442695040888963407))) (Value.int IntKind.u64 40)) fun rv_3 => ∃ t59_1 : Int, rv_3 = (Value.int .u64 t59_1) ∧ 
  pop P (binA .and 107 (Value.int .u64 t59_1) (Value.int IntKind.u64 255)) fun rv_4 => ∃ t60_1 : Int, rv_4 = (Value.int .u64 t60_1) ∧ 
  ∀ (h_3 : Heap), Fr (In [b_1]) h_2 h_3 → Vars h_3 [(b_1, [(Sl.v c0_1), (VI (w64 (c0_2 + 1))), (Value.int .u64 (IntKind.wrap .u64 ((IntKind.wrap .u64 ((IntKind.wrap .u64 (c0_3 * 6364136223846793005)) + t39_1)) + 1442695040888963407)))])] →
  rop P (convert 107 3 (Value.int .u64 t60_1)) h_3 fun rv_5 => ∃ t61_1 : Int, rv_5 = (VI t61_1) ∧ 
  K (VI t61_1) h_3)
theorem v158 (b_1 : Nat) (c0_1 : Sl) (c0_2 : Int) (c0_3 : Int) (h : Heap) (K : Value → Heap → Prop) (hL : Vars h [(b_1, [(Sl.v c0_1), (VI c0_2), (Value.int .u64 c0_3)])]) (H : u158 Try.prog b_1 c0_1 c0_2 c0_3 h K) : callM Try.prog 158 #[(VP b_1 0)] h K := by
  refine c158 (VP b_1 0) h K ?_
  unfold u158 at H
  unfold t158
  obtain ⟨J_1, H, HB_1⟩ := H
  refine ⟨fun (vs : List Value) (h' : Heap) => ∃ x_1 : Int, vs = [(VI x_1)] ∧ J_1 x_1 h' ∧ Vars h' [(b_1, [(Sl.v c0_1), (VI c0_2), (Value.int .u64 c0_3)])], ?_, ?_⟩
  · refine pop_nil _ ?_
    refine pop_field 1 fld109_1 b_1 0 ?_
    refine rop_loc one3 hL 0 rfl 1 (v := (VI c0_2)) rfl ?_
    refine pop_nil _ ?_
    refine pop_field 0 fld109_0 b_1 0 ?_
    refine rop_loc one55 hL 0 rfl 0 (v := (Sl.v c0_1)) rfl ?_
    refine pop_len c0_1 _ _ sli55 ?_
    refine pop_lss .i64 c0_2 (c0_1.n : Int) ?_
    refine condM_b (fun hb_1 => ?_) (fun hb_1 => ?_)
    · have H := H.1 hb_1
      refine pop_nil _ ?_
      refine pop_field 0 fld109_0 b_1 0 ?_
      refine rop_loc one55 hL 0 rfl 0 (v := (Sl.v c0_1)) rfl ?_
      refine pop_nil _ ?_
      refine pop_field 1 fld109_1 b_1 0 ?_
      refine rop_loc one3 hL 0 rfl 1 (v := (VI c0_2)) rfl ?_
      obtain ⟨hi_1, H⟩ := H
      refine pop_index sli55 siz5 .i64 c0_1 c0_2 hi_1 ?_
      obtain ⟨t23_1, hc_1, H⟩ := H
      refine rop_one one5 (Value.int .u8 t23_1) hc_1 ?_
      refine H.mono fun rv_1 H => ?_
      obtain ⟨t24_1, rfl, H⟩ := H
      exact ⟨t24_1, rfl, H, hL⟩
    · have H := H.2 hb_1
      exact ⟨0, rfl, H, hL⟩
  intro junk_1 tv_1 h_1
  rintro ⟨x_1, hv, hJ_1, hL_1⟩
  cases hv
  have H := HB_1 x_1 h_1 hJ_1 hL_1
  refine pop_nil _ ?_
  refine pop_field 1 fld109_1 b_1 0 ?_
  refine rop_loc one3 hL_1 0 rfl 1 (v := (VI c0_2)) rfl ?_
  refine pop_add .i64 c0_2 1 ?_
  refine pop_nil _ ?_
  refine pop_field 1 fld109_1 b_1 0 ?_
  refine uop_loc siz3 hL_1 0 rfl 1 [(VI (w64 (c0_2 + 1)))] rfl rfl rfl (Nat.le_of_ble_eq_true rfl) (L' := [(b_1, [(Sl.v c0_1), (VI (w64 (c0_2 + 1))), (Value.int .u64 c0_3)])]) rfl (fun h_2 hf_1 hL_2 => ?_)
  refine pop_nil _ ?_
  refine pop_field 2 fld109_2 b_1 0 ?_
  refine rop_loc one107 hL_2 0 rfl 2 (v := (Value.int .u64 c0_3)) rfl ?_
  refine pop_mul .u64 c0_3 6364136223846793005 ?_
  have H := H  h_2  (Fr.old (Fr.r (In []) _) hf_1) hL_2
  refine H.mono fun rv_2 H => ?_
  obtain ⟨t39_1, rfl, H⟩ := H
  refine pop_add .u64 (IntKind.wrap .u64 (c0_3 * 6364136223846793005)) t39_1 ?_
  refine pop_add .u64 (IntKind.wrap .u64 ((IntKind.wrap .u64 (c0_3 * 6364136223846793005)) + t39_1)) 1442695040888963407 ?_
  refine pop_nil _ ?_
  refine pop_field 2 fld109_2 b_1 0 ?_
  refine uop_loc siz107 hL_2 0 rfl 2 [(Value.int .u64 (IntKind.wrap .u64 ((IntKind.wrap .u64 ((IntKind.wrap .u64 (c0_3 * 6364136223846793005)) + t39_1)) + 1442695040888963407)))] rfl rfl rfl (Nat.le_of_ble_eq_true rfl) (L' := [(b_1, [(Sl.v c0_1), (VI (w64 (c0_2 + 1))), (Value.int .u64 (IntKind.wrap .u64 ((IntKind.wrap .u64 ((IntKind.wrap .u64 (c0_3 * 6364136223846793005)) + t39_1)) + 1442695040888963407)))])]) rfl (fun h_3 hf_2 hL_3 => ?_)
  refine pop_nil _ ?_
  refine pop_field 1 fld109_1 b_1 0 ?_
  refine rop_loc one3 hL_3 0 rfl 1 (v := (VI (w64 (c0_2 + 1)))) rfl ?_
  refine pop_nil _ ?_
  refine pop_field 0 fld109_0 b_1 0 ?_
  refine rop_loc one55 hL_3 0 rfl 0 (v := (Sl.v c0_1)) rfl ?_
  refine pop_len c0_1 _ _ sli55 ?_
  refine pop_leq .i64 (w64 (c0_2 + 1)) (c0_1.n : Int) ?_
  refine condM_b (fun hb_2 => ?_) (fun hb_2 => ?_)
  · have H := H.1 hb_2
    have H := H  h_3  (Fr.old (Fr.r (In []) _) hf_2) hL_3
    exact H
  · have H := H.2 hb_2
    refine pop_nil _ ?_
    refine pop_field 2 fld109_2 b_1 0 ?_
    refine rop_loc one107 hL_3 0 rfl 2 (v := (Value.int .u64 (IntKind.wrap .u64 ((IntKind.wrap .u64 ((IntKind.wrap .u64 (c0_3 * 6364136223846793005)) + t39_1)) + 1442695040888963407)))) rfl ?_
    refine H.mono fun rv_3 H => ?_
    obtain ⟨t59_1, rfl, H⟩ := H
    refine H.mono fun rv_4 H => ?_
    obtain ⟨t60_1, rfl, H⟩ := H
    have H := H  h_3  (Fr.old (Fr.r (In []) _) hf_2) hL_3
    refine H.mono fun rv_5 H => ?_
    obtain ⟨t61_1, rfl, H⟩ := H
    exact H

/-! slices.IndexFunc[[]int,int] -/
def u159 (P : Program) (s0_1 : Sl) (f1_1 : Value) (h : Heap) (K : Value → Heap → Prop) : Prop :=
  ∃ J_1 : Nat → Int → Heap → Prop, (∃ n0 : Nat, J_1 n0 0 h) ∧
  ∀ (n_1 : Nat) (t8_1 : Int) (h_1 : Heap), J_1 n_1 t8_1 h_1 → Vars h_1 [] →
  ((decide (t8_1 < (s0_1.n : Int))) = true →
  InB s0_1 t8_1 ∧
  ∃ t15_1 : Int, hcell h_1 (Sl.at s0_1 t8_1 1) = some (VI t15_1) ∧
  callV P f1_1 [(VI t15_1)] h_1 fun rv_1 h_2 => ∃ t16_1 : Bool, rv_1 = (VB t16_1) ∧ Vars h_2 [] ∧
  (t16_1 = true →
  K (VI t8_1) h_2) ∧
  (t16_1 = false →
  ∃ m : Nat, m < n_1 ∧ J_1 m (w64 (t8_1 + 1)) h_2)) ∧
  ((decide (t8_1 < (s0_1.n : Int))) = false →
  K (VI (-1)) h_1)
theorem v159 (s0_1 : Sl) (f1_1 : Value) (h : Heap) (K : Value → Heap → Prop) (H : u159 Try.prog s0_1 f1_1 h K) : callM Try.prog 159 #[(Sl.v s0_1), f1_1] h K := by
  refine c159 (Sl.v s0_1) f1_1 h K ?_
  unfold u159 at H
  unfold t159
  have hL : Vars h [] := .nil
  refine pop_len s0_1 _ _ sli25 ?_
  obtain ⟨J_1, ⟨n_2, h0_1⟩, HB_1⟩ := H
  refine loop_intro (J := fun (n : Nat) (vs : List Value) (h' : Heap) => ∃ t8_1 : Int, vs = [(VI t8_1)] ∧ J_1 n t8_1 h' ∧ Vars h' []) n_2 ⟨0, rfl, h0_1, hL⟩ ?_
  intro I_1 mu_1 hI_1 junk_1 tv_1 h_1 hi_1
  obtain ⟨n_1, ⟨t8_1, hv, hJ_1, hL_1⟩, hn_1⟩ := hI_1 _ _ hi_1
  cases hv
  have H := HB_1 n_1 t8_1 h_1 hJ_1 hL_1
  refine pop_lss .i64 t8_1 (s0_1.n : Int) ?_
  refine condM_b (fun hb_1 => ?_) (fun hb_1 => ?_)
  · have H := H.1 hb_1
    obtain ⟨hi_2, H⟩ := H
    refine pop_index sli25 siz3 .i64 s0_1 t8_1 hi_2 ?_
    obtain ⟨t15_1, hc_1, H⟩ := H
    refine rop_one one3 (VI t15_1) hc_1 ?_
    refine H.mono fun rv_1 h_2 H => ?_
    obtain ⟨t16_1, rfl, hL_2, H⟩ := H
    refine condM_b (fun hb_2 => ?_) (fun hb_2 => ?_)
    · have H := H.1 hb_2
      exact H
    · have H := H.2 hb_2
      refine pop_add .i64 t8_1 1 ?_
      obtain ⟨m_1, hm_1, H⟩ := H
      exact hn_1 _ _ ⟨m_1, hm_1, (w64 (t8_1 + 1)), rfl, H, hL_2⟩
  · have H := H.2 hb_1
    exact H

/-! (impl.Graph).leadsTo -/
def u160 (P : Program) (g0_1 : Sl) (p1_1 : Int) (h : Heap) (K : Value → Heap → Prop) : Prop :=
  ∀ (b_1 : Nat) (h_1 : Heap), h.size ≤ b_1 → Fr (In []) h h_1 → Vars h_1 [(b_1, [(Sl.v g0_1)])] →
  ∃ J_1 : Nat → Int → Heap → Prop, (∃ n0 : Nat, J_1 n0 0 h_1) ∧
  ∀ (n_1 : Nat) (t9_1 : Int) (h_2 : Heap), J_1 n_1 t9_1 h_2 → Vars h_2 [(b_1, [(Sl.v g0_1)])] →
  ((decide (t9_1 < (g0_1.n : Int))) = true →
  callM P 187 #[(Value.agg #[(Sl.v g0_1)]), (VI t9_1)] h_2 fun rv_1 h_3 => ∃ t14_1 : Sl, rv_1 = (Sl.v t14_1) ∧ Vars h_3 [(b_1, [(Sl.v g0_1)])] ∧
  InB t14_1 p1_1 ∧
  ∃ t17_1 : Int, hcell h_3 (Sl.at t14_1 p1_1 1) = some (VI t17_1) ∧
  ((decide (t17_1 < 0)) = true →
  K (VB false) h_3) ∧
  ((decide (t17_1 < 0)) = false →
  ∃ m : Nat, m < n_1 ∧ J_1 m (w64 (t9_1 + 1)) h_3)) ∧
  ((decide (t9_1 < (g0_1.n : Int))) = false →
  K (VB true) h_2)
theorem v160 (g0_1 : Sl) (p1_1 : Int) (h : Heap) (K : Value → Heap → Prop) (H : u160 Try.prog g0_1 p1_1 h K) : callM Try.prog 160 #[(Value.agg #[(Sl.v g0_1)]), (VI p1_1)] h K := by
  refine c160 (Value.agg #[(Sl.v g0_1)]) (VI p1_1) h K ?_
  unfold u160 at H
  unfold t160
  have hL : Vars h [] := .nil
  refine eop_box 32 (Value.agg #[(Sl.v g0_1)]) rfl hL (fun b_1 h_1 hb_1 hf_1 hL_1 => ?_)
  refine pop_field 0 fld32_0 b_1 0 ?_
  refine rop_loc one22 hL_1 0 rfl 0 (v := (Sl.v g0_1)) rfl ?_
  refine pop_len g0_1 _ _ sli22 ?_
  have H := H b_1 h_1 (Nat.le_trans (Fr.size (Fr.r (In []) _)) hb_1) (Fr.no' (Fr.r (In []) _) hf_1) hL_1
  obtain ⟨J_1, ⟨n_2, h0_1⟩, HB_1⟩ := H
  refine loop_intro (J := fun (n : Nat) (vs : List Value) (h' : Heap) => ∃ t9_1 : Int, vs = [(VI t9_1)] ∧ J_1 n t9_1 h' ∧ Vars h' [(b_1, [(Sl.v g0_1)])]) n_2 ⟨0, rfl, h0_1, hL_1⟩ ?_
  intro I_1 mu_1 hI_1 junk_1 tv_1 h_2 hi_1
  obtain ⟨n_1, ⟨t9_1, hv, hJ_1, hL_2⟩, hn_1⟩ := hI_1 _ _ hi_1
  cases hv
  have H := HB_1 n_1 t9_1 h_2 hJ_1 hL_2
  refine pop_lss .i64 t9_1 (g0_1.n : Int) ?_
  refine condM_b (fun hb_2 => ?_) (fun hb_2 => ?_)
  · have H := H.1 hb_2
    refine rop_locA agg32 hL_2 0 rfl 0 (vs := [(Sl.v g0_1)]) rfl rfl ?_
    refine H.mono fun rv_1 h_3 H => ?_
    obtain ⟨t14_1, rfl, hL_3, H⟩ := H
    obtain ⟨hi_2, H⟩ := H
    refine pop_index sli25 siz3 .i64 t14_1 p1_1 hi_2 ?_
    obtain ⟨t17_1, hc_1, H⟩ := H
    refine rop_one one3 (VI t17_1) hc_1 ?_
    refine pop_lss .i64 t17_1 0 ?_
    refine condM_b (fun hb_3 => ?_) (fun hb_3 => ?_)
    · have H := H.1 hb_3
      exact H
    · have H := H.2 hb_3
      refine pop_add .i64 t9_1 1 ?_
      obtain ⟨m_1, hm_1, H⟩ := H
      exact hn_1 _ _ ⟨m_1, hm_1, (w64 (t9_1 + 1)), rfl, H, hL_3⟩
  · have H := H.2 hb_2
    exact H

/-! impl.has$1 -/
def u161 (P : Program) (p0_1 : Int) (b_1 : Nat) (t1_1 : Sl) (h : Heap) (K : Value → Heap → Prop) : Prop :=
  callM P 113 #[(VI p0_1), (VI 0), (VI (w64 ((t1_1.n : Int) - 1)))] h fun rv_1 h_1 => ∃ t9_1 : Bool, rv_1 = (VB t9_1) ∧ Vars h_1 [(b_1, [(Sl.v t1_1)])] ∧
  K (VB (!t9_1)) h_1
theorem v161 (p0_1 : Int) (b_1 : Nat) (t1_1 : Sl) (h : Heap) (K : Value → Heap → Prop) (hL : Vars h [(b_1, [(Sl.v t1_1)])]) (H : u161 Try.prog p0_1 b_1 t1_1 h K) : callM Try.prog 161 #[(VI p0_1), (VP b_1 0)] h K := by
  refine c161 (VI p0_1) (VP b_1 0) h K ?_
  unfold u161 at H
  unfold t161
  refine pop_field 0 fld32_0 b_1 0 ?_
  refine rop_loc one22 hL 0 rfl 0 (v := (Sl.v t1_1)) rfl ?_
  refine pop_len t1_1 _ _ sli22 ?_
  refine pop_sub .i64 (t1_1.n : Int) 1 ?_
  refine H.mono fun rv_1 h_1 H => ?_
  obtain ⟨t9_1, rfl, hL_1, H⟩ := H
  refine pop_not t9_1 ?_
  exact H

/-! spec.grLeads -/
def u162 (P : Program) (g0_1 : Sl) (p1_1 : Int) (h : Heap) (K : Value → Heap → Prop) : Prop :=
  ∀ (b_1 : Nat) (h_1 : Heap), h.size ≤ b_1 → Fr (In []) h h_1 → Vars h_1 [(b_1, [(Sl.v g0_1)])] →
  ∃ J_1 : Nat → Int → Heap → Prop, (∃ n0 : Nat, J_1 n0 0 h_1) ∧
  ∀ (n_1 : Nat) (t9_1 : Int) (h_2 : Heap), J_1 n_1 t9_1 h_2 → Vars h_2 [(b_1, [(Sl.v g0_1)])] →
  ((decide (t9_1 < (g0_1.n : Int))) = true →
  callM P 186 #[(Value.agg #[(Sl.v g0_1)]), (VI t9_1)] h_2 fun rv_1 h_3 => ∃ t14_1 : Sl, rv_1 = (Sl.v t14_1) ∧ Vars h_3 [(b_1, [(Sl.v g0_1)])] ∧
  InB t14_1 p1_1 ∧
  ∃ t17_1 : Int, hcell h_3 (Sl.at t14_1 p1_1 1) = some (VI t17_1) ∧
  ((decide (t17_1 < 0)) = true →
  K (VB false) h_3) ∧
  ((decide (t17_1 < 0)) = false →
  ∃ m : Nat, m < n_1 ∧ J_1 m (w64 (t9_1 + 1)) h_3)) ∧
  ((decide (t9_1 < (g0_1.n : Int))) = false →
  K (VB true) h_2)
theorem v162 (g0_1 : Sl) (p1_1 : Int) (h : Heap) (K : Value → Heap → Prop) (H : u162 Try.prog g0_1 p1_1 h K) : callM Try.prog 162 #[(Value.agg #[(Sl.v g0_1)]), (VI p1_1)] h K := by
  refine c162 (Value.agg #[(Sl.v g0_1)]) (VI p1_1) h K ?_
  unfold u162 at H
  unfold t162
  have hL : Vars h [] := .nil
  refine eop_box 32 (Value.agg #[(Sl.v g0_1)]) rfl hL (fun b_1 h_1 hb_1 hf_1 hL_1 => ?_)
  refine pop_field 0 fld32_0 b_1 0 ?_
  refine rop_loc one22 hL_1 0 rfl 0 (v := (Sl.v g0_1)) rfl ?_
  refine pop_len g0_1 _ _ sli22 ?_
  have H := H b_1 h_1 (Nat.le_trans (Fr.size (Fr.r (In []) _)) hb_1) (Fr.no' (Fr.r (In []) _) hf_1) hL_1
  obtain ⟨J_1, ⟨n_2, h0_1⟩, HB_1⟩ := H
  refine loop_intro (J := fun (n : Nat) (vs : List Value) (h' : Heap) => ∃ t9_1 : Int, vs = [(VI t9_1)] ∧ J_1 n t9_1 h' ∧ Vars h' [(b_1, [(Sl.v g0_1)])]) n_2 ⟨0, rfl, h0_1, hL_1⟩ ?_
  intro I_1 mu_1 hI_1 junk_1 tv_1 h_2 hi_1
  obtain ⟨n_1, ⟨t9_1, hv, hJ_1, hL_2⟩, hn_1⟩ := hI_1 _ _ hi_1
  cases hv
  have H := HB_1 n_1 t9_1 h_2 hJ_1 hL_2
  refine pop_lss .i64 t9_1 (g0_1.n : Int) ?_
  refine condM_b (fun hb_2 => ?_) (fun hb_2 => ?_)
  · have H := H.1 hb_2
    refine rop_locA agg32 hL_2 0 rfl 0 (vs := [(Sl.v g0_1)]) rfl rfl ?_
    refine H.mono fun rv_1 h_3 H => ?_
    obtain ⟨t14_1, rfl, hL_3, H⟩ := H
    obtain ⟨hi_2, H⟩ := H
    refine pop_index sli25 siz3 .i64 t14_1 p1_1 hi_2 ?_
    obtain ⟨t17_1, hc_1, H⟩ := H
    refine rop_one one3 (VI t17_1) hc_1 ?_
    refine pop_lss .i64 t17_1 0 ?_
    refine condM_b (fun hb_3 => ?_) (fun hb_3 => ?_)
    · have H := H.1 hb_3
      exact H
    · have H := H.2 hb_3
      refine pop_add .i64 t9_1 1 ?_
      obtain ⟨m_1, hm_1, H⟩ := H
      exact hn_1 _ _ ⟨m_1, hm_1, (w64 (t9_1 + 1)), rfl, H, hL_3⟩
  · have H := H.2 hb_2
    exact H

end Go.Proofs.Ytbhnecochpehdaa
