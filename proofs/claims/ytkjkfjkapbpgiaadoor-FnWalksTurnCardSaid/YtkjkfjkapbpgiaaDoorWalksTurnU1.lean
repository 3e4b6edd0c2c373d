import Derived.Test.YtkjkfjkapbpgiaaDoorWalksTurnU
import Derived.Test.YtkjkfjkapbpgiaaDoorWalksTurnT
import Derived.Test.YtkjkfjkapbpgiaaDoorM2
set_option linter.unusedVariables false
set_option linter.unusedSimpArgs false
set_option maxRecDepth 100000
set_option maxHeartbeats 16000000
namespace Go.Proofs.YtkjkfjkapbpgiaaDoor
open Go Go.Mx
theorem v24 (g0_1 : Sl) (w1_1 : Sl) (w1_2 : Int) (n2_1 : Int) (h : Heap) (K : Value → Heap → Prop) (H : u24 Tryd.prog g0_1 w1_1 w1_2 n2_1 h K) : callM Tryd.prog 24 #[(Value.agg #[(Sl.v g0_1)]), (Value.agg #[(Sl.v w1_1), (VI w1_2)]), (VI n2_1)] h K := by
  refine c24 (Value.agg #[(Sl.v g0_1)]) (Value.agg #[(Sl.v w1_1), (VI w1_2)]) (VI n2_1) h K ?_
  unfold u24 at H
  unfold t24
  have hL : Vars h [] := .nil
  refine eop_box 41 (Value.agg #[(Sl.v g0_1)]) rfl hL (fun b_1 h_1 hb_1 hf_1 hL_1 => ?_)
  refine eop_box 43 (Value.agg #[(Sl.v w1_1), (VI w1_2)]) rfl hL_1 (fun b_2 h_2 hb_2 hf_2 hL_2 => ?_)
  refine rop_locA agg41 hL_2 1 rfl 0 (vs := [(Sl.v g0_1)]) rfl rfl ?_
  refine rop_locA agg43 hL_2 0 rfl 0 (vs := [(Sl.v w1_1), (VI w1_2)]) rfl rfl ?_
  have H := H b_1 b_2 h_2 (Nat.le_trans (Fr.size (Fr.r (In []) _)) hb_1) (Nat.le_trans (Fr.size (Fr.no' (Fr.r (In []) _) hf_1)) hb_2) (Fr.no' (Fr.no' (Fr.r (In []) _) hf_1) hf_2) hL_2
  refine H.mono fun rv_1 h_3 H => ?_
  obtain ⟨t13_1, rfl, hL_3, H⟩ := H
  refine pop_not t13_1 ?_
  refine condM_b (fun hb_3 => ?_) (fun hb_3 => ?_)
  ·have H := H.1 hb_3
   exact H
  have H := H.2 hb_3
  obtain ⟨J_1, H, HB_1⟩ := H
  refine ⟨fun (vs : List Value) (h' : Heap) => ∃ b_3 : Nat, ∃ x_1 : Sl, ∃ x_2 : Int, ∃ b_4 : Nat, ∃ x_3 : Sl, vs = [(VP b_3 0), (VP b_4 0)] ∧ J_1 b_3 x_1 x_2 b_4 x_3 h' ∧ Vars h' [(b_4, [(Sl.v x_3)]), (b_3, [(Sl.v x_1), (VI x_2)]), (b_2, [(Sl.v w1_1), (VI w1_2)]), (b_1, [(Sl.v g0_1)])], ?_, ?_⟩
  ·refine rop_locA agg43 hL_3 0 rfl 0 (vs := [(Sl.v w1_1), (VI w1_2)]) rfl rfl ?_
   refine pop_field 0 fld41_0 b_1 0 ?_
   refine rop_loc one22 hL_3 1 rfl 0 (v := (Sl.v g0_1)) rfl ?_
   refine pop_len g0_1 _ _ sli22 ?_
   refine ⟨?_, ?_, ?_, ?_⟩
   ·have H := H.1
    refine H.mono fun rv_2 h_4 H => ?_
    obtain ⟨t16_1, t16_2, rfl, hL_4, H⟩ := H
    refine ⟨?_, ?_⟩
    ·exact still_loc one22 hL_4 1 rfl 0 (v := (Sl.v g0_1)) rfl
    refine ⟨?_, ?_, ?_⟩
    ·have H := H.1
     refine H.mono fun rv_3 h_5 H => ?_
     obtain ⟨t20_1, rfl, hL_5, H⟩ := H
     refine ⟨?_, ?_⟩
     ·exact still_loc one22 hL_5 1 rfl 0 (v := (Sl.v g0_1)) rfl
     refine ⟨?_, ?_⟩
     ·have H := H.1
      refine eop_alloc 43 zer43 rfl hL_5 (fun b_5 h_6 hb_4 hf_3 hL_6 => ?_)
      have H := H b_5 h_6 (Nat.le_trans (Fr.size (Fr.r (In []) _)) hb_4) (Fr.no' (Fr.r (In []) _) hf_3) hL_6
      refine ⟨?_, ?_⟩
      ·exact still_loc one22 hL_6 2 rfl 0 (v := (Sl.v g0_1)) rfl
      refine eop_alloc 34 zer34 rfl hL_6 (fun b_6 h_7 hb_5 hf_4 hL_7 => ?_)
      have H := H b_6 h_7 (Nat.le_trans (Fr.size (Fr.r (In []) _)) hb_5) (Fr.no' (Fr.r (In []) _) hf_4) hL_7
      refine ⟨?_, ?_⟩
      ·exact still_loc one22 hL_7 3 rfl 0 (v := (Sl.v g0_1)) rfl
      refine uop_loc siz43 hL_7 1 rfl 0 [(Sl.v t16_1), (VI t16_2)] rfl rfl rfl (Nat.le_of_ble_eq_true rfl) (L' := [(b_6, [(Sl.v nilSl)]), (b_5, [(Sl.v t16_1), (VI t16_2)]), (b_2, [(Sl.v w1_1), (VI w1_2)]), (b_1, [(Sl.v g0_1)])]) rfl (fun h_8 hf_5 hL_8 => ?_)
      have H := H  h_8  (Fr.old (Fr.r (In []) _) hf_5) hL_8
      refine ⟨?_, ?_⟩
      ·exact still_loc one22 hL_8 3 rfl 0 (v := (Sl.v g0_1)) rfl
      refine uop_loc siz34 hL_8 0 rfl 0 [(Sl.v t20_1)] rfl rfl rfl (Nat.le_of_ble_eq_true rfl) (L' := [(b_6, [(Sl.v t20_1)]), (b_5, [(Sl.v t16_1), (VI t16_2)]), (b_2, [(Sl.v w1_1), (VI w1_2)]), (b_1, [(Sl.v g0_1)])]) rfl (fun h_9 hf_6 hL_9 => ?_)
      have H := H  h_9  (Fr.old (Fr.r (In []) _) hf_6) hL_9
      exact ⟨b_5, t16_1, t16_2, b_6, t20_1, rfl, H, hL_9⟩
     have H := H.2
     refine eop_alloc 34 zer34 rfl hL_5 (fun b_7 h_10 hb_6 hf_7 hL_10 => ?_)
     have H := H b_7 h_10 (Nat.le_trans (Fr.size (Fr.r (In []) _)) hb_6) (Fr.no' (Fr.r (In []) _) hf_7) hL_10
     refine ⟨?_, ?_⟩
     ·exact still_loc one22 hL_10 2 rfl 0 (v := (Sl.v g0_1)) rfl
     refine eop_alloc 43 zer43 rfl hL_10 (fun b_8 h_11 hb_7 hf_8 hL_11 => ?_)
     have H := H b_8 h_11 (Nat.le_trans (Fr.size (Fr.r (In []) _)) hb_7) (Fr.no' (Fr.r (In []) _) hf_8) hL_11
     refine ⟨?_, ?_⟩
     ·exact still_loc one22 hL_11 3 rfl 0 (v := (Sl.v g0_1)) rfl
     refine uop_loc siz43 hL_11 0 rfl 0 [(Sl.v t16_1), (VI t16_2)] rfl rfl rfl (Nat.le_of_ble_eq_true rfl) (L' := [(b_8, [(Sl.v t16_1), (VI t16_2)]), (b_7, [(Sl.v nilSl)]), (b_2, [(Sl.v w1_1), (VI w1_2)]), (b_1, [(Sl.v g0_1)])]) rfl (fun h_12 hf_9 hL_12 => ?_)
     have H := H  h_12  (Fr.old (Fr.r (In []) _) hf_9) hL_12
     refine ⟨?_, ?_⟩
     ·exact still_loc one22 hL_12 3 rfl 0 (v := (Sl.v g0_1)) rfl
     refine uop_loc siz34 hL_12 1 rfl 0 [(Sl.v t20_1)] rfl rfl rfl (Nat.le_of_ble_eq_true rfl) (L' := [(b_8, [(Sl.v t16_1), (VI t16_2)]), (b_7, [(Sl.v t20_1)]), (b_2, [(Sl.v w1_1), (VI w1_2)]), (b_1, [(Sl.v g0_1)])]) rfl (fun h_13 hf_10 hL_13 => ?_)
     have H := H  h_13  (Fr.old (Fr.r (In []) _) hf_10) hL_13
     exact ⟨b_8, t16_1, t16_2, b_7, t20_1, rfl, H, Vars.pick hL_13 [1, 0, 2, 3] rfl⟩
    ·have H := H.2.1
     refine eop_alloc 43 zer43 rfl hL_4 (fun b_9 h_14 hb_8 hf_11 hL_14 => ?_)
     have H := H b_9 h_14 (Nat.le_trans (Fr.size (Fr.r (In []) _)) hb_8) (Fr.no' (Fr.r (In []) _) hf_11) hL_14
     refine ⟨?_, ?_⟩
     ·exact still_loc one22 hL_14 2 rfl 0 (v := (Sl.v g0_1)) rfl
     refine ⟨?_, ?_⟩
     ·have H := H.1
      refine H.mono fun rv_4 h_15 H => ?_
      obtain ⟨t20_2, rfl, hL_15, H⟩ := H
      refine ⟨?_, ?_⟩
      ·exact still_loc one22 hL_15 2 rfl 0 (v := (Sl.v g0_1)) rfl
      refine eop_alloc 34 zer34 rfl hL_15 (fun b_10 h_16 hb_9 hf_12 hL_16 => ?_)
      have H := H b_10 h_16 (Nat.le_trans (Fr.size (Fr.r (In []) _)) hb_9) (Fr.no' (Fr.r (In []) _) hf_12) hL_16
      refine ⟨?_, ?_⟩
      ·exact still_loc one22 hL_16 3 rfl 0 (v := (Sl.v g0_1)) rfl
      refine uop_loc siz43 hL_16 1 rfl 0 [(Sl.v t16_1), (VI t16_2)] rfl rfl rfl (Nat.le_of_ble_eq_true rfl) (L' := [(b_10, [(Sl.v nilSl)]), (b_9, [(Sl.v t16_1), (VI t16_2)]), (b_2, [(Sl.v w1_1), (VI w1_2)]), (b_1, [(Sl.v g0_1)])]) rfl (fun h_17 hf_13 hL_17 => ?_)
      have H := H  h_17  (Fr.old (Fr.r (In []) _) hf_13) hL_17
      refine ⟨?_, ?_⟩
      ·exact still_loc one22 hL_17 3 rfl 0 (v := (Sl.v g0_1)) rfl
      refine uop_loc siz34 hL_17 0 rfl 0 [(Sl.v t20_2)] rfl rfl rfl (Nat.le_of_ble_eq_true rfl) (L' := [(b_10, [(Sl.v t20_2)]), (b_9, [(Sl.v t16_1), (VI t16_2)]), (b_2, [(Sl.v w1_1), (VI w1_2)]), (b_1, [(Sl.v g0_1)])]) rfl (fun h_18 hf_14 hL_18 => ?_)
      have H := H  h_18  (Fr.old (Fr.r (In []) _) hf_14) hL_18
      exact ⟨b_9, t16_1, t16_2, b_10, t20_2, rfl, H, hL_18⟩
     have H := H.2
     refine eop_alloc 34 zer34 rfl hL_14 (fun b_11 h_19 hb_10 hf_15 hL_19 => ?_)
     have H := H b_11 h_19 (Nat.le_trans (Fr.size (Fr.r (In []) _)) hb_10) (Fr.no' (Fr.r (In []) _) hf_15) hL_19
     refine ⟨?_, ?_⟩
     ·exact still_loc one22 hL_19 3 rfl 0 (v := (Sl.v g0_1)) rfl
     refine ⟨?_, ?_⟩
     ·have H := H.1
      refine H.mono fun rv_5 h_20 H => ?_
      obtain ⟨t20_3, rfl, hL_20, H⟩ := H
      refine ⟨?_, ?_⟩
      ·exact still_loc one22 hL_20 3 rfl 0 (v := (Sl.v g0_1)) rfl
      refine uop_loc siz43 hL_20 1 rfl 0 [(Sl.v t16_1), (VI t16_2)] rfl rfl rfl (Nat.le_of_ble_eq_true rfl) (L' := [(b_11, [(Sl.v nilSl)]), (b_9, [(Sl.v t16_1), (VI t16_2)]), (b_2, [(Sl.v w1_1), (VI w1_2)]), (b_1, [(Sl.v g0_1)])]) rfl (fun h_21 hf_16 hL_21 => ?_)
      have H := H  h_21  (Fr.old (Fr.r (In []) _) hf_16) hL_21
      refine ⟨?_, ?_⟩
      ·exact still_loc one22 hL_21 3 rfl 0 (v := (Sl.v g0_1)) rfl
      refine uop_loc siz34 hL_21 0 rfl 0 [(Sl.v t20_3)] rfl rfl rfl (Nat.le_of_ble_eq_true rfl) (L' := [(b_11, [(Sl.v t20_3)]), (b_9, [(Sl.v t16_1), (VI t16_2)]), (b_2, [(Sl.v w1_1), (VI w1_2)]), (b_1, [(Sl.v g0_1)])]) rfl (fun h_22 hf_17 hL_22 => ?_)
      have H := H  h_22  (Fr.old (Fr.r (In []) _) hf_17) hL_22
      exact ⟨b_9, t16_1, t16_2, b_11, t20_3, rfl, H, hL_22⟩
     have H := H.2
     refine uop_loc siz43 hL_19 1 rfl 0 [(Sl.v t16_1), (VI t16_2)] rfl rfl rfl (Nat.le_of_ble_eq_true rfl) (L' := [(b_11, [(Sl.v nilSl)]), (b_9, [(Sl.v t16_1), (VI t16_2)]), (b_2, [(Sl.v w1_1), (VI w1_2)]), (b_1, [(Sl.v g0_1)])]) rfl (fun h_23 hf_18 hL_23 => ?_)
     have H := H  h_23  (Fr.old (Fr.r (In []) _) hf_18) hL_23
     refine ⟨?_, ?_⟩
     ·exact still_loc one22 hL_23 3 rfl 0 (v := (Sl.v g0_1)) rfl
     refine H.mono fun rv_6 h_24 H => ?_
     obtain ⟨t20_4, rfl, hL_24, H⟩ := H
     refine ⟨?_, ?_⟩
     ·exact still_loc one22 hL_24 3 rfl 0 (v := (Sl.v g0_1)) rfl
     refine uop_loc siz34 hL_24 0 rfl 0 [(Sl.v t20_4)] rfl rfl rfl (Nat.le_of_ble_eq_true rfl) (L' := [(b_11, [(Sl.v t20_4)]), (b_9, [(Sl.v t16_1), (VI t16_2)]), (b_2, [(Sl.v w1_1), (VI w1_2)]), (b_1, [(Sl.v g0_1)])]) rfl (fun h_25 hf_19 hL_25 => ?_)
     have H := H  h_25  (Fr.old (Fr.r (In []) _) hf_19) hL_25
     exact ⟨b_9, t16_1, t16_2, b_11, t20_4, rfl, H, hL_25⟩
    have H := H.2.2
    refine eop_alloc 34 zer34 rfl hL_4 (fun b_12 h_26 hb_11 hf_20 hL_26 => ?_)
    have H := H b_12 h_26 (Nat.le_trans (Fr.size (Fr.r (In []) _)) hb_11) (Fr.no' (Fr.r (In []) _) hf_20) hL_26
    refine ⟨?_, ?_⟩
    ·exact still_loc one22 hL_26 2 rfl 0 (v := (Sl.v g0_1)) rfl
    refine ⟨?_, ?_⟩
    ·have H := H.1
     refine H.mono fun rv_7 h_27 H => ?_
     obtain ⟨t20_5, rfl, hL_27, H⟩ := H
     refine ⟨?_, ?_⟩
     ·exact still_loc one22 hL_27 2 rfl 0 (v := (Sl.v g0_1)) rfl
     refine eop_alloc 43 zer43 rfl hL_27 (fun b_13 h_28 hb_12 hf_21 hL_28 => ?_)
     have H := H b_13 h_28 (Nat.le_trans (Fr.size (Fr.r (In []) _)) hb_12) (Fr.no' (Fr.r (In []) _) hf_21) hL_28
     refine ⟨?_, ?_⟩
     ·exact still_loc one22 hL_28 3 rfl 0 (v := (Sl.v g0_1)) rfl
     refine uop_loc siz43 hL_28 0 rfl 0 [(Sl.v t16_1), (VI t16_2)] rfl rfl rfl (Nat.le_of_ble_eq_true rfl) (L' := [(b_13, [(Sl.v t16_1), (VI t16_2)]), (b_12, [(Sl.v nilSl)]), (b_2, [(Sl.v w1_1), (VI w1_2)]), (b_1, [(Sl.v g0_1)])]) rfl (fun h_29 hf_22 hL_29 => ?_)
     have H := H  h_29  (Fr.old (Fr.r (In []) _) hf_22) hL_29
     refine ⟨?_, ?_⟩
     ·exact still_loc one22 hL_29 3 rfl 0 (v := (Sl.v g0_1)) rfl
     refine uop_loc siz34 hL_29 1 rfl 0 [(Sl.v t20_5)] rfl rfl rfl (Nat.le_of_ble_eq_true rfl) (L' := [(b_13, [(Sl.v t16_1), (VI t16_2)]), (b_12, [(Sl.v t20_5)]), (b_2, [(Sl.v w1_1), (VI w1_2)]), (b_1, [(Sl.v g0_1)])]) rfl (fun h_30 hf_23 hL_30 => ?_)
     have H := H  h_30  (Fr.old (Fr.r (In []) _) hf_23) hL_30
     exact ⟨b_13, t16_1, t16_2, b_12, t20_5, rfl, H, Vars.pick hL_30 [1, 0, 2, 3] rfl⟩
    have H := H.2
    refine eop_alloc 43 zer43 rfl hL_26 (fun b_14 h_31 hb_13 hf_24 hL_31 => ?_)
    have H := H b_14 h_31 (Nat.le_trans (Fr.size (Fr.r (In []) _)) hb_13) (Fr.no' (Fr.r (In []) _) hf_24) hL_31
    refine ⟨?_, ?_⟩
    ·exact still_loc one22 hL_31 3 rfl 0 (v := (Sl.v g0_1)) rfl
    refine ⟨?_, ?_⟩
    ·have H := H.1
     refine H.mono fun rv_8 h_32 H => ?_
     obtain ⟨t20_6, rfl, hL_32, H⟩ := H
     refine ⟨?_, ?_⟩
     ·exact still_loc one22 hL_32 3 rfl 0 (v := (Sl.v g0_1)) rfl
     refine uop_loc siz43 hL_32 0 rfl 0 [(Sl.v t16_1), (VI t16_2)] rfl rfl rfl (Nat.le_of_ble_eq_true rfl) (L' := [(b_14, [(Sl.v t16_1), (VI t16_2)]), (b_12, [(Sl.v nilSl)]), (b_2, [(Sl.v w1_1), (VI w1_2)]), (b_1, [(Sl.v g0_1)])]) rfl (fun h_33 hf_25 hL_33 => ?_)
     have H := H  h_33  (Fr.old (Fr.r (In []) _) hf_25) hL_33
     refine ⟨?_, ?_⟩
     ·exact still_loc one22 hL_33 3 rfl 0 (v := (Sl.v g0_1)) rfl
     refine uop_loc siz34 hL_33 1 rfl 0 [(Sl.v t20_6)] rfl rfl rfl (Nat.le_of_ble_eq_true rfl) (L' := [(b_14, [(Sl.v t16_1), (VI t16_2)]), (b_12, [(Sl.v t20_6)]), (b_2, [(Sl.v w1_1), (VI w1_2)]), (b_1, [(Sl.v g0_1)])]) rfl (fun h_34 hf_26 hL_34 => ?_)
     have H := H  h_34  (Fr.old (Fr.r (In []) _) hf_26) hL_34
     exact ⟨b_14, t16_1, t16_2, b_12, t20_6, rfl, H, Vars.pick hL_34 [1, 0, 2, 3] rfl⟩
    have H := H.2
    refine uop_loc siz43 hL_31 0 rfl 0 [(Sl.v t16_1), (VI t16_2)] rfl rfl rfl (Nat.le_of_ble_eq_true rfl) (L' := [(b_14, [(Sl.v t16_1), (VI t16_2)]), (b_12, [(Sl.v nilSl)]), (b_2, [(Sl.v w1_1), (VI w1_2)]), (b_1, [(Sl.v g0_1)])]) rfl (fun h_35 hf_27 hL_35 => ?_)
    have H := H  h_35  (Fr.old (Fr.r (In []) _) hf_27) hL_35
    refine ⟨?_, ?_⟩
    ·exact still_loc one22 hL_35 3 rfl 0 (v := (Sl.v g0_1)) rfl
    refine H.mono fun rv_9 h_36 H => ?_
    obtain ⟨t20_7, rfl, hL_36, H⟩ := H
    refine ⟨?_, ?_⟩
    ·exact still_loc one22 hL_36 3 rfl 0 (v := (Sl.v g0_1)) rfl
    refine uop_loc siz34 hL_36 1 rfl 0 [(Sl.v t20_7)] rfl rfl rfl (Nat.le_of_ble_eq_true rfl) (L' := [(b_14, [(Sl.v t16_1), (VI t16_2)]), (b_12, [(Sl.v t20_7)]), (b_2, [(Sl.v w1_1), (VI w1_2)]), (b_1, [(Sl.v g0_1)])]) rfl (fun h_37 hf_28 hL_37 => ?_)
    have H := H  h_37  (Fr.old (Fr.r (In []) _) hf_28) hL_37
    exact ⟨b_14, t16_1, t16_2, b_12, t20_7, rfl, H, Vars.pick hL_37 [1, 0, 2, 3] rfl⟩
   ·have H := H.2.1
    refine H.mono fun rv_10 h_38 H => ?_
    obtain ⟨t20_8, rfl, hL_38, H⟩ := H
    refine ⟨?_, ?_⟩
    ·exact still_loc one22 hL_38 1 rfl 0 (v := (Sl.v g0_1)) rfl
    refine ⟨?_, ?_⟩
    ·exact still_locA agg43 hL_38 0 rfl 0 (vs := [(Sl.v w1_1), (VI w1_2)]) rfl rfl
    refine ⟨?_, ?_, ?_⟩
    ·have H := H.1
     refine H.mono fun rv_11 h_39 H => ?_
     obtain ⟨t16_3, t16_4, rfl, hL_39, H⟩ := H
     refine ⟨?_, ?_⟩
     ·exact still_loc one22 hL_39 1 rfl 0 (v := (Sl.v g0_1)) rfl
     refine ⟨?_, ?_⟩
     ·have H := H.1
      refine eop_alloc 43 zer43 rfl hL_39 (fun b_15 h_40 hb_14 hf_29 hL_40 => ?_)
      have H := H b_15 h_40 (Nat.le_trans (Fr.size (Fr.r (In []) _)) hb_14) (Fr.no' (Fr.r (In []) _) hf_29) hL_40
      refine ⟨?_, ?_⟩
      ·exact still_loc one22 hL_40 2 rfl 0 (v := (Sl.v g0_1)) rfl
      refine eop_alloc 34 zer34 rfl hL_40 (fun b_16 h_41 hb_15 hf_30 hL_41 => ?_)
      have H := H b_16 h_41 (Nat.le_trans (Fr.size (Fr.r (In []) _)) hb_15) (Fr.no' (Fr.r (In []) _) hf_30) hL_41
      refine ⟨?_, ?_⟩
      ·exact still_loc one22 hL_41 3 rfl 0 (v := (Sl.v g0_1)) rfl
      refine uop_loc siz43 hL_41 1 rfl 0 [(Sl.v t16_3), (VI t16_4)] rfl rfl rfl (Nat.le_of_ble_eq_true rfl) (L' := [(b_16, [(Sl.v nilSl)]), (b_15, [(Sl.v t16_3), (VI t16_4)]), (b_2, [(Sl.v w1_1), (VI w1_2)]), (b_1, [(Sl.v g0_1)])]) rfl (fun h_42 hf_31 hL_42 => ?_)
      have H := H  h_42  (Fr.old (Fr.r (In []) _) hf_31) hL_42
      refine ⟨?_, ?_⟩
      ·exact still_loc one22 hL_42 3 rfl 0 (v := (Sl.v g0_1)) rfl
      refine uop_loc siz34 hL_42 0 rfl 0 [(Sl.v t20_8)] rfl rfl rfl (Nat.le_of_ble_eq_true rfl) (L' := [(b_16, [(Sl.v t20_8)]), (b_15, [(Sl.v t16_3), (VI t16_4)]), (b_2, [(Sl.v w1_1), (VI w1_2)]), (b_1, [(Sl.v g0_1)])]) rfl (fun h_43 hf_32 hL_43 => ?_)
      have H := H  h_43  (Fr.old (Fr.r (In []) _) hf_32) hL_43
      exact ⟨b_15, t16_3, t16_4, b_16, t20_8, rfl, H, hL_43⟩
     have H := H.2
     refine eop_alloc 34 zer34 rfl hL_39 (fun b_17 h_44 hb_16 hf_33 hL_44 => ?_)
     have H := H b_17 h_44 (Nat.le_trans (Fr.size (Fr.r (In []) _)) hb_16) (Fr.no' (Fr.r (In []) _) hf_33) hL_44
     refine ⟨?_, ?_⟩
     ·exact still_loc one22 hL_44 2 rfl 0 (v := (Sl.v g0_1)) rfl
     refine eop_alloc 43 zer43 rfl hL_44 (fun b_18 h_45 hb_17 hf_34 hL_45 => ?_)
     have H := H b_18 h_45 (Nat.le_trans (Fr.size (Fr.r (In []) _)) hb_17) (Fr.no' (Fr.r (In []) _) hf_34) hL_45
     refine ⟨?_, ?_⟩
     ·exact still_loc one22 hL_45 3 rfl 0 (v := (Sl.v g0_1)) rfl
     refine uop_loc siz43 hL_45 0 rfl 0 [(Sl.v t16_3), (VI t16_4)] rfl rfl rfl (Nat.le_of_ble_eq_true rfl) (L' := [(b_18, [(Sl.v t16_3), (VI t16_4)]), (b_17, [(Sl.v nilSl)]), (b_2, [(Sl.v w1_1), (VI w1_2)]), (b_1, [(Sl.v g0_1)])]) rfl (fun h_46 hf_35 hL_46 => ?_)
     have H := H  h_46  (Fr.old (Fr.r (In []) _) hf_35) hL_46
     refine ⟨?_, ?_⟩
     ·exact still_loc one22 hL_46 3 rfl 0 (v := (Sl.v g0_1)) rfl
     refine uop_loc siz34 hL_46 1 rfl 0 [(Sl.v t20_8)] rfl rfl rfl (Nat.le_of_ble_eq_true rfl) (L' := [(b_18, [(Sl.v t16_3), (VI t16_4)]), (b_17, [(Sl.v t20_8)]), (b_2, [(Sl.v w1_1), (VI w1_2)]), (b_1, [(Sl.v g0_1)])]) rfl (fun h_47 hf_36 hL_47 => ?_)
     have H := H  h_47  (Fr.old (Fr.r (In []) _) hf_36) hL_47
     exact ⟨b_18, t16_3, t16_4, b_17, t20_8, rfl, H, Vars.pick hL_47 [1, 0, 2, 3] rfl⟩
    ·have H := H.2.1
     refine eop_alloc 43 zer43 rfl hL_38 (fun b_19 h_48 hb_18 hf_37 hL_48 => ?_)
     have H := H b_19 h_48 (Nat.le_trans (Fr.size (Fr.r (In []) _)) hb_18) (Fr.no' (Fr.r (In []) _) hf_37) hL_48
     refine ⟨?_, ?_⟩
     ·exact still_loc one22 hL_48 2 rfl 0 (v := (Sl.v g0_1)) rfl
     refine ⟨?_, ?_⟩
     ·exact still_locA agg43 hL_48 1 rfl 0 (vs := [(Sl.v w1_1), (VI w1_2)]) rfl rfl
     refine ⟨?_, ?_⟩
     ·have H := H.1
      refine H.mono fun rv_12 h_49 H => ?_
      obtain ⟨t16_5, t16_6, rfl, hL_49, H⟩ := H
      refine ⟨?_, ?_⟩
      ·exact still_loc one22 hL_49 2 rfl 0 (v := (Sl.v g0_1)) rfl
      refine eop_alloc 34 zer34 rfl hL_49 (fun b_20 h_50 hb_19 hf_38 hL_50 => ?_)
      have H := H b_20 h_50 (Nat.le_trans (Fr.size (Fr.r (In []) _)) hb_19) (Fr.no' (Fr.r (In []) _) hf_38) hL_50
      refine ⟨?_, ?_⟩
      ·exact still_loc one22 hL_50 3 rfl 0 (v := (Sl.v g0_1)) rfl
      refine uop_loc siz43 hL_50 1 rfl 0 [(Sl.v t16_5), (VI t16_6)] rfl rfl rfl (Nat.le_of_ble_eq_true rfl) (L' := [(b_20, [(Sl.v nilSl)]), (b_19, [(Sl.v t16_5), (VI t16_6)]), (b_2, [(Sl.v w1_1), (VI w1_2)]), (b_1, [(Sl.v g0_1)])]) rfl (fun h_51 hf_39 hL_51 => ?_)
      have H := H  h_51  (Fr.old (Fr.r (In []) _) hf_39) hL_51
      refine ⟨?_, ?_⟩
      ·exact still_loc one22 hL_51 3 rfl 0 (v := (Sl.v g0_1)) rfl
      refine uop_loc siz34 hL_51 0 rfl 0 [(Sl.v t20_8)] rfl rfl rfl (Nat.le_of_ble_eq_true rfl) (L' := [(b_20, [(Sl.v t20_8)]), (b_19, [(Sl.v t16_5), (VI t16_6)]), (b_2, [(Sl.v w1_1), (VI w1_2)]), (b_1, [(Sl.v g0_1)])]) rfl (fun h_52 hf_40 hL_52 => ?_)
      have H := H  h_52  (Fr.old (Fr.r (In []) _) hf_40) hL_52
      exact ⟨b_19, t16_5, t16_6, b_20, t20_8, rfl, H, hL_52⟩
     have H := H.2
     refine eop_alloc 34 zer34 rfl hL_48 (fun b_21 h_53 hb_20 hf_41 hL_53 => ?_)
     have H := H b_21 h_53 (Nat.le_trans (Fr.size (Fr.r (In []) _)) hb_20) (Fr.no' (Fr.r (In []) _) hf_41) hL_53
     refine ⟨?_, ?_⟩
     ·exact still_loc one22 hL_53 3 rfl 0 (v := (Sl.v g0_1)) rfl
     refine ⟨?_, ?_⟩
     ·exact still_locA agg43 hL_53 2 rfl 0 (vs := [(Sl.v w1_1), (VI w1_2)]) rfl rfl
     refine H.mono fun rv_13 h_54 H => ?_
     obtain ⟨t16_7, t16_8, rfl, hL_54, H⟩ := H
     refine ⟨?_, ?_⟩
     ·exact still_loc one22 hL_54 3 rfl 0 (v := (Sl.v g0_1)) rfl
     refine uop_loc siz43 hL_54 1 rfl 0 [(Sl.v t16_7), (VI t16_8)] rfl rfl rfl (Nat.le_of_ble_eq_true rfl) (L' := [(b_21, [(Sl.v nilSl)]), (b_19, [(Sl.v t16_7), (VI t16_8)]), (b_2, [(Sl.v w1_1), (VI w1_2)]), (b_1, [(Sl.v g0_1)])]) rfl (fun h_55 hf_42 hL_55 => ?_)
     have H := H  h_55  (Fr.old (Fr.r (In []) _) hf_42) hL_55
     refine ⟨?_, ?_⟩
     ·exact still_loc one22 hL_55 3 rfl 0 (v := (Sl.v g0_1)) rfl
     refine uop_loc siz34 hL_55 0 rfl 0 [(Sl.v t20_8)] rfl rfl rfl (Nat.le_of_ble_eq_true rfl) (L' := [(b_21, [(Sl.v t20_8)]), (b_19, [(Sl.v t16_7), (VI t16_8)]), (b_2, [(Sl.v w1_1), (VI w1_2)]), (b_1, [(Sl.v g0_1)])]) rfl (fun h_56 hf_43 hL_56 => ?_)
     have H := H  h_56  (Fr.old (Fr.r (In []) _) hf_43) hL_56
     exact ⟨b_19, t16_7, t16_8, b_21, t20_8, rfl, H, hL_56⟩
    have H := H.2.2
    refine eop_alloc 34 zer34 rfl hL_38 (fun b_22 h_57 hb_21 hf_44 hL_57 => ?_)
    have H := H b_22 h_57 (Nat.le_trans (Fr.size (Fr.r (In []) _)) hb_21) (Fr.no' (Fr.r (In []) _) hf_44) hL_57
    refine ⟨?_, ?_⟩
    ·exact still_loc one22 hL_57 2 rfl 0 (v := (Sl.v g0_1)) rfl
    refine ⟨?_, ?_⟩
    ·exact still_locA agg43 hL_57 1 rfl 0 (vs := [(Sl.v w1_1), (VI w1_2)]) rfl rfl
    refine ⟨?_, ?_⟩
    ·have H := H.1
     refine H.mono fun rv_14 h_58 H => ?_
     obtain ⟨t16_9, t16_10, rfl, hL_58, H⟩ := H
     refine ⟨?_, ?_⟩
     ·exact still_loc one22 hL_58 2 rfl 0 (v := (Sl.v g0_1)) rfl
     refine eop_alloc 43 zer43 rfl hL_58 (fun b_23 h_59 hb_22 hf_45 hL_59 => ?_)
     have H := H b_23 h_59 (Nat.le_trans (Fr.size (Fr.r (In []) _)) hb_22) (Fr.no' (Fr.r (In []) _) hf_45) hL_59
     refine ⟨?_, ?_⟩
     ·exact still_loc one22 hL_59 3 rfl 0 (v := (Sl.v g0_1)) rfl
     refine uop_loc siz43 hL_59 0 rfl 0 [(Sl.v t16_9), (VI t16_10)] rfl rfl rfl (Nat.le_of_ble_eq_true rfl) (L' := [(b_23, [(Sl.v t16_9), (VI t16_10)]), (b_22, [(Sl.v nilSl)]), (b_2, [(Sl.v w1_1), (VI w1_2)]), (b_1, [(Sl.v g0_1)])]) rfl (fun h_60 hf_46 hL_60 => ?_)
     have H := H  h_60  (Fr.old (Fr.r (In []) _) hf_46) hL_60
     refine ⟨?_, ?_⟩
     ·exact still_loc one22 hL_60 3 rfl 0 (v := (Sl.v g0_1)) rfl
     refine uop_loc siz34 hL_60 1 rfl 0 [(Sl.v t20_8)] rfl rfl rfl (Nat.le_of_ble_eq_true rfl) (L' := [(b_23, [(Sl.v t16_9), (VI t16_10)]), (b_22, [(Sl.v t20_8)]), (b_2, [(Sl.v w1_1), (VI w1_2)]), (b_1, [(Sl.v g0_1)])]) rfl (fun h_61 hf_47 hL_61 => ?_)
     have H := H  h_61  (Fr.old (Fr.r (In []) _) hf_47) hL_61
     exact ⟨b_23, t16_9, t16_10, b_22, t20_8, rfl, H, Vars.pick hL_61 [1, 0, 2, 3] rfl⟩
    have H := H.2
    refine eop_alloc 43 zer43 rfl hL_57 (fun b_24 h_62 hb_23 hf_48 hL_62 => ?_)
    have H := H b_24 h_62 (Nat.le_trans (Fr.size (Fr.r (In []) _)) hb_23) (Fr.no' (Fr.r (In []) _) hf_48) hL_62
    refine ⟨?_, ?_⟩
    ·exact still_loc one22 hL_62 3 rfl 0 (v := (Sl.v g0_1)) rfl
    refine ⟨?_, ?_⟩
    ·exact still_locA agg43 hL_62 2 rfl 0 (vs := [(Sl.v w1_1), (VI w1_2)]) rfl rfl
    refine H.mono fun rv_15 h_63 H => ?_
    obtain ⟨t16_11, t16_12, rfl, hL_63, H⟩ := H
    refine ⟨?_, ?_⟩
    ·exact still_loc one22 hL_63 3 rfl 0 (v := (Sl.v g0_1)) rfl
    refine uop_loc siz43 hL_63 0 rfl 0 [(Sl.v t16_11), (VI t16_12)] rfl rfl rfl (Nat.le_of_ble_eq_true rfl) (L' := [(b_24, [(Sl.v t16_11), (VI t16_12)]), (b_22, [(Sl.v nilSl)]), (b_2, [(Sl.v w1_1), (VI w1_2)]), (b_1, [(Sl.v g0_1)])]) rfl (fun h_64 hf_49 hL_64 => ?_)
    have H := H  h_64  (Fr.old (Fr.r (In []) _) hf_49) hL_64
    refine ⟨?_, ?_⟩
    ·exact still_loc one22 hL_64 3 rfl 0 (v := (Sl.v g0_1)) rfl
    refine uop_loc siz34 hL_64 1 rfl 0 [(Sl.v t20_8)] rfl rfl rfl (Nat.le_of_ble_eq_true rfl) (L' := [(b_24, [(Sl.v t16_11), (VI t16_12)]), (b_22, [(Sl.v t20_8)]), (b_2, [(Sl.v w1_1), (VI w1_2)]), (b_1, [(Sl.v g0_1)])]) rfl (fun h_65 hf_50 hL_65 => ?_)
    have H := H  h_65  (Fr.old (Fr.r (In []) _) hf_50) hL_65
    exact ⟨b_24, t16_11, t16_12, b_22, t20_8, rfl, H, Vars.pick hL_65 [1, 0, 2, 3] rfl⟩
   ·have H := H.2.2.1
    refine eop_alloc 43 zer43 rfl hL_3 (fun b_25 h_66 hb_24 hf_51 hL_66 => ?_)
    have H := H b_25 h_66 (Nat.le_trans (Fr.size (Fr.r (In []) _)) hb_24) (Fr.no' (Fr.r (In []) _) hf_51) hL_66
    refine ⟨?_, ?_⟩
    ·exact still_loc one22 hL_66 2 rfl 0 (v := (Sl.v g0_1)) rfl
    refine ⟨?_, ?_⟩
    ·exact still_locA agg43 hL_66 1 rfl 0 (vs := [(Sl.v w1_1), (VI w1_2)]) rfl rfl
    refine ⟨?_, ?_, ?_⟩
    ·have H := H.1
     refine H.mono fun rv_16 h_67 H => ?_
     obtain ⟨t16_13, t16_14, rfl, hL_67, H⟩ := H
     refine ⟨?_, ?_⟩
     ·exact still_loc one22 hL_67 2 rfl 0 (v := (Sl.v g0_1)) rfl
     refine ⟨?_, ?_⟩
     ·have H := H.1
      refine H.mono fun rv_17 h_68 H => ?_
      obtain ⟨t20_9, rfl, hL_68, H⟩ := H
      refine ⟨?_, ?_⟩
      ·exact still_loc one22 hL_68 2 rfl 0 (v := (Sl.v g0_1)) rfl
      refine eop_alloc 34 zer34 rfl hL_68 (fun b_26 h_69 hb_25 hf_52 hL_69 => ?_)
      have H := H b_26 h_69 (Nat.le_trans (Fr.size (Fr.r (In []) _)) hb_25) (Fr.no' (Fr.r (In []) _) hf_52) hL_69
      refine ⟨?_, ?_⟩
      ·exact still_loc one22 hL_69 3 rfl 0 (v := (Sl.v g0_1)) rfl
      refine uop_loc siz43 hL_69 1 rfl 0 [(Sl.v t16_13), (VI t16_14)] rfl rfl rfl (Nat.le_of_ble_eq_true rfl) (L' := [(b_26, [(Sl.v nilSl)]), (b_25, [(Sl.v t16_13), (VI t16_14)]), (b_2, [(Sl.v w1_1), (VI w1_2)]), (b_1, [(Sl.v g0_1)])]) rfl (fun h_70 hf_53 hL_70 => ?_)
      have H := H  h_70  (Fr.old (Fr.r (In []) _) hf_53) hL_70
      refine ⟨?_, ?_⟩
      ·exact still_loc one22 hL_70 3 rfl 0 (v := (Sl.v g0_1)) rfl
      refine uop_loc siz34 hL_70 0 rfl 0 [(Sl.v t20_9)] rfl rfl rfl (Nat.le_of_ble_eq_true rfl) (L' := [(b_26, [(Sl.v t20_9)]), (b_25, [(Sl.v t16_13), (VI t16_14)]), (b_2, [(Sl.v w1_1), (VI w1_2)]), (b_1, [(Sl.v g0_1)])]) rfl (fun h_71 hf_54 hL_71 => ?_)
      have H := H  h_71  (Fr.old (Fr.r (In []) _) hf_54) hL_71
      exact ⟨b_25, t16_13, t16_14, b_26, t20_9, rfl, H, hL_71⟩
     have H := H.2
     refine eop_alloc 34 zer34 rfl hL_67 (fun b_27 h_72 hb_26 hf_55 hL_72 => ?_)
     have H := H b_27 h_72 (Nat.le_trans (Fr.size (Fr.r (In []) _)) hb_26) (Fr.no' (Fr.r (In []) _) hf_55) hL_72
     refine ⟨?_, ?_⟩
     ·exact still_loc one22 hL_72 3 rfl 0 (v := (Sl.v g0_1)) rfl
     refine ⟨?_, ?_⟩
     ·have H := H.1
      refine H.mono fun rv_18 h_73 H => ?_
      obtain ⟨t20_10, rfl, hL_73, H⟩ := H
      refine ⟨?_, ?_⟩
      ·exact still_loc one22 hL_73 3 rfl 0 (v := (Sl.v g0_1)) rfl
      refine uop_loc siz43 hL_73 1 rfl 0 [(Sl.v t16_13), (VI t16_14)] rfl rfl rfl (Nat.le_of_ble_eq_true rfl) (L' := [(b_27, [(Sl.v nilSl)]), (b_25, [(Sl.v t16_13), (VI t16_14)]), (b_2, [(Sl.v w1_1), (VI w1_2)]), (b_1, [(Sl.v g0_1)])]) rfl (fun h_74 hf_56 hL_74 => ?_)
      have H := H  h_74  (Fr.old (Fr.r (In []) _) hf_56) hL_74
      refine ⟨?_, ?_⟩
      ·exact still_loc one22 hL_74 3 rfl 0 (v := (Sl.v g0_1)) rfl
      refine uop_loc siz34 hL_74 0 rfl 0 [(Sl.v t20_10)] rfl rfl rfl (Nat.le_of_ble_eq_true rfl) (L' := [(b_27, [(Sl.v t20_10)]), (b_25, [(Sl.v t16_13), (VI t16_14)]), (b_2, [(Sl.v w1_1), (VI w1_2)]), (b_1, [(Sl.v g0_1)])]) rfl (fun h_75 hf_57 hL_75 => ?_)
      have H := H  h_75  (Fr.old (Fr.r (In []) _) hf_57) hL_75
      exact ⟨b_25, t16_13, t16_14, b_27, t20_10, rfl, H, hL_75⟩
     have H := H.2
     refine uop_loc siz43 hL_72 1 rfl 0 [(Sl.v t16_13), (VI t16_14)] rfl rfl rfl (Nat.le_of_ble_eq_true rfl) (L' := [(b_27, [(Sl.v nilSl)]), (b_25, [(Sl.v t16_13), (VI t16_14)]), (b_2, [(Sl.v w1_1), (VI w1_2)]), (b_1, [(Sl.v g0_1)])]) rfl (fun h_76 hf_58 hL_76 => ?_)
     have H := H  h_76  (Fr.old (Fr.r (In []) _) hf_58) hL_76
     refine ⟨?_, ?_⟩
     ·exact still_loc one22 hL_76 3 rfl 0 (v := (Sl.v g0_1)) rfl
     refine H.mono fun rv_19 h_77 H => ?_
     obtain ⟨t20_11, rfl, hL_77, H⟩ := H
     refine ⟨?_, ?_⟩
     ·exact still_loc one22 hL_77 3 rfl 0 (v := (Sl.v g0_1)) rfl
     refine uop_loc siz34 hL_77 0 rfl 0 [(Sl.v t20_11)] rfl rfl rfl (Nat.le_of_ble_eq_true rfl) (L' := [(b_27, [(Sl.v t20_11)]), (b_25, [(Sl.v t16_13), (VI t16_14)]), (b_2, [(Sl.v w1_1), (VI w1_2)]), (b_1, [(Sl.v g0_1)])]) rfl (fun h_78 hf_59 hL_78 => ?_)
     have H := H  h_78  (Fr.old (Fr.r (In []) _) hf_59) hL_78
     exact ⟨b_25, t16_13, t16_14, b_27, t20_11, rfl, H, hL_78⟩
    ·have H := H.2.1
     refine H.mono fun rv_20 h_79 H => ?_
     obtain ⟨t20_12, rfl, hL_79, H⟩ := H
     refine ⟨?_, ?_⟩
     ·exact still_loc one22 hL_79 2 rfl 0 (v := (Sl.v g0_1)) rfl
     refine ⟨?_, ?_⟩
     ·exact still_locA agg43 hL_79 1 rfl 0 (vs := [(Sl.v w1_1), (VI w1_2)]) rfl rfl
     refine ⟨?_, ?_⟩
     ·have H := H.1
      refine H.mono fun rv_21 h_80 H => ?_
      obtain ⟨t16_15, t16_16, rfl, hL_80, H⟩ := H
      refine ⟨?_, ?_⟩
      ·exact still_loc one22 hL_80 2 rfl 0 (v := (Sl.v g0_1)) rfl
      refine eop_alloc 34 zer34 rfl hL_80 (fun b_28 h_81 hb_27 hf_60 hL_81 => ?_)
      have H := H b_28 h_81 (Nat.le_trans (Fr.size (Fr.r (In []) _)) hb_27) (Fr.no' (Fr.r (In []) _) hf_60) hL_81
      refine ⟨?_, ?_⟩
      ·exact still_loc one22 hL_81 3 rfl 0 (v := (Sl.v g0_1)) rfl
      refine uop_loc siz43 hL_81 1 rfl 0 [(Sl.v t16_15), (VI t16_16)] rfl rfl rfl (Nat.le_of_ble_eq_true rfl) (L' := [(b_28, [(Sl.v nilSl)]), (b_25, [(Sl.v t16_15), (VI t16_16)]), (b_2, [(Sl.v w1_1), (VI w1_2)]), (b_1, [(Sl.v g0_1)])]) rfl (fun h_82 hf_61 hL_82 => ?_)
      have H := H  h_82  (Fr.old (Fr.r (In []) _) hf_61) hL_82
      refine ⟨?_, ?_⟩
      ·exact still_loc one22 hL_82 3 rfl 0 (v := (Sl.v g0_1)) rfl
      refine uop_loc siz34 hL_82 0 rfl 0 [(Sl.v t20_12)] rfl rfl rfl (Nat.le_of_ble_eq_true rfl) (L' := [(b_28, [(Sl.v t20_12)]), (b_25, [(Sl.v t16_15), (VI t16_16)]), (b_2, [(Sl.v w1_1), (VI w1_2)]), (b_1, [(Sl.v g0_1)])]) rfl (fun h_83 hf_62 hL_83 => ?_)
      have H := H  h_83  (Fr.old (Fr.r (In []) _) hf_62) hL_83
      exact ⟨b_25, t16_15, t16_16, b_28, t20_12, rfl, H, hL_83⟩
     have H := H.2
     refine eop_alloc 34 zer34 rfl hL_79 (fun b_29 h_84 hb_28 hf_63 hL_84 => ?_)
     have H := H b_29 h_84 (Nat.le_trans (Fr.size (Fr.r (In []) _)) hb_28) (Fr.no' (Fr.r (In []) _) hf_63) hL_84
     refine ⟨?_, ?_⟩
     ·exact still_loc one22 hL_84 3 rfl 0 (v := (Sl.v g0_1)) rfl
     refine ⟨?_, ?_⟩
     ·exact still_locA agg43 hL_84 2 rfl 0 (vs := [(Sl.v w1_1), (VI w1_2)]) rfl rfl
     refine H.mono fun rv_22 h_85 H => ?_
     obtain ⟨t16_17, t16_18, rfl, hL_85, H⟩ := H
     refine ⟨?_, ?_⟩
     ·exact still_loc one22 hL_85 3 rfl 0 (v := (Sl.v g0_1)) rfl
     refine uop_loc siz43 hL_85 1 rfl 0 [(Sl.v t16_17), (VI t16_18)] rfl rfl rfl (Nat.le_of_ble_eq_true rfl) (L' := [(b_29, [(Sl.v nilSl)]), (b_25, [(Sl.v t16_17), (VI t16_18)]), (b_2, [(Sl.v w1_1), (VI w1_2)]), (b_1, [(Sl.v g0_1)])]) rfl (fun h_86 hf_64 hL_86 => ?_)
     have H := H  h_86  (Fr.old (Fr.r (In []) _) hf_64) hL_86
     refine ⟨?_, ?_⟩
     ·exact still_loc one22 hL_86 3 rfl 0 (v := (Sl.v g0_1)) rfl
     refine uop_loc siz34 hL_86 0 rfl 0 [(Sl.v t20_12)] rfl rfl rfl (Nat.le_of_ble_eq_true rfl) (L' := [(b_29, [(Sl.v t20_12)]), (b_25, [(Sl.v t16_17), (VI t16_18)]), (b_2, [(Sl.v w1_1), (VI w1_2)]), (b_1, [(Sl.v g0_1)])]) rfl (fun h_87 hf_65 hL_87 => ?_)
     have H := H  h_87  (Fr.old (Fr.r (In []) _) hf_65) hL_87
     exact ⟨b_25, t16_17, t16_18, b_29, t20_12, rfl, H, hL_87⟩
    have H := H.2.2
    refine eop_alloc 34 zer34 rfl hL_66 (fun b_30 h_88 hb_29 hf_66 hL_88 => ?_)
    have H := H b_30 h_88 (Nat.le_trans (Fr.size (Fr.r (In []) _)) hb_29) (Fr.no' (Fr.r (In []) _) hf_66) hL_88
    refine ⟨?_, ?_⟩
    ·exact still_loc one22 hL_88 3 rfl 0 (v := (Sl.v g0_1)) rfl
    refine ⟨?_, ?_⟩
    ·exact still_locA agg43 hL_88 2 rfl 0 (vs := [(Sl.v w1_1), (VI w1_2)]) rfl rfl
    refine ⟨?_, ?_⟩
    rotate_left
    ·have H := H.2
     refine H.mono fun rv_26 h_96 H => ?_
     obtain ⟨t20_15, rfl, hL_96, H⟩ := H
     refine ⟨?_, ?_⟩
     ·exact still_loc one22 hL_96 3 rfl 0 (v := (Sl.v g0_1)) rfl
     refine ⟨?_, ?_⟩
     ·exact still_locA agg43 hL_96 2 rfl 0 (vs := [(Sl.v w1_1), (VI w1_2)]) rfl rfl
     refine H.mono fun rv_27 h_97 H => ?_
     obtain ⟨t16_21, t16_22, rfl, hL_97, H⟩ := H
     refine ⟨?_, ?_⟩
     ·exact still_loc one22 hL_97 3 rfl 0 (v := (Sl.v g0_1)) rfl
     refine uop_loc siz43 hL_97 1 rfl 0 [(Sl.v t16_21), (VI t16_22)] rfl rfl rfl (Nat.le_of_ble_eq_true rfl) (L' := [(b_30, [(Sl.v nilSl)]), (b_25, [(Sl.v t16_21), (VI t16_22)]), (b_2, [(Sl.v w1_1), (VI w1_2)]), (b_1, [(Sl.v g0_1)])]) rfl (fun h_98 hf_71 hL_98 => ?_)
     have H := H  h_98  (Fr.old (Fr.r (In []) _) hf_71) hL_98
     refine ⟨?_, ?_⟩
     ·exact still_loc one22 hL_98 3 rfl 0 (v := (Sl.v g0_1)) rfl
     refine uop_loc siz34 hL_98 0 rfl 0 [(Sl.v t20_15)] rfl rfl rfl (Nat.le_of_ble_eq_true rfl) (L' := [(b_30, [(Sl.v t20_15)]), (b_25, [(Sl.v t16_21), (VI t16_22)]), (b_2, [(Sl.v w1_1), (VI w1_2)]), (b_1, [(Sl.v g0_1)])]) rfl (fun h_99 hf_72 hL_99 => ?_)
     have H := H  h_99  (Fr.old (Fr.r (In []) _) hf_72) hL_99
     exact ⟨b_25, t16_21, t16_22, b_30, t20_15, rfl, H, hL_99⟩
    have H := H.1
    refine H.mono fun rv_23 h_89 H => ?_
    obtain ⟨t16_19, t16_20, rfl, hL_89, H⟩ := H
    refine ⟨?_, ?_⟩
    ·exact still_loc one22 hL_89 3 rfl 0 (v := (Sl.v g0_1)) rfl
    refine ⟨?_, ?_⟩
    ·have H := H.1
     refine H.mono fun rv_24 h_90 H => ?_
     obtain ⟨t20_13, rfl, hL_90, H⟩ := H
     refine ⟨?_, ?_⟩
     ·exact still_loc one22 hL_90 3 rfl 0 (v := (Sl.v g0_1)) rfl
     refine uop_loc siz43 hL_90 1 rfl 0 [(Sl.v t16_19), (VI t16_20)] rfl rfl rfl (Nat.le_of_ble_eq_true rfl) (L' := [(b_30, [(Sl.v nilSl)]), (b_25, [(Sl.v t16_19), (VI t16_20)]), (b_2, [(Sl.v w1_1), (VI w1_2)]), (b_1, [(Sl.v g0_1)])]) rfl (fun h_91 hf_67 hL_91 => ?_)
     have H := H  h_91  (Fr.old (Fr.r (In []) _) hf_67) hL_91
     refine ⟨?_, ?_⟩
     ·exact still_loc one22 hL_91 3 rfl 0 (v := (Sl.v g0_1)) rfl
     refine uop_loc siz34 hL_91 0 rfl 0 [(Sl.v t20_13)] rfl rfl rfl (Nat.le_of_ble_eq_true rfl) (L' := [(b_30, [(Sl.v t20_13)]), (b_25, [(Sl.v t16_19), (VI t16_20)]), (b_2, [(Sl.v w1_1), (VI w1_2)]), (b_1, [(Sl.v g0_1)])]) rfl (fun h_92 hf_68 hL_92 => ?_)
     have H := H  h_92  (Fr.old (Fr.r (In []) _) hf_68) hL_92
     exact ⟨b_25, t16_19, t16_20, b_30, t20_13, rfl, H, hL_92⟩
    have H := H.2
    refine uop_loc siz43 hL_89 1 rfl 0 [(Sl.v t16_19), (VI t16_20)] rfl rfl rfl (Nat.le_of_ble_eq_true rfl) (L' := [(b_30, [(Sl.v nilSl)]), (b_25, [(Sl.v t16_19), (VI t16_20)]), (b_2, [(Sl.v w1_1), (VI w1_2)]), (b_1, [(Sl.v g0_1)])]) rfl (fun h_93 hf_69 hL_93 => ?_)
    have H := H  h_93  (Fr.old (Fr.r (In []) _) hf_69) hL_93
    refine ⟨?_, ?_⟩
    ·exact still_loc one22 hL_93 3 rfl 0 (v := (Sl.v g0_1)) rfl
    refine H.mono fun rv_25 h_94 H => ?_
    obtain ⟨t20_14, rfl, hL_94, H⟩ := H
    refine ⟨?_, ?_⟩
    ·exact still_loc one22 hL_94 3 rfl 0 (v := (Sl.v g0_1)) rfl
    refine uop_loc siz34 hL_94 0 rfl 0 [(Sl.v t20_14)] rfl rfl rfl (Nat.le_of_ble_eq_true rfl) (L' := [(b_30, [(Sl.v t20_14)]), (b_25, [(Sl.v t16_19), (VI t16_20)]), (b_2, [(Sl.v w1_1), (VI w1_2)]), (b_1, [(Sl.v g0_1)])]) rfl (fun h_95 hf_70 hL_95 => ?_)
    have H := H  h_95  (Fr.old (Fr.r (In []) _) hf_70) hL_95
    exact ⟨b_25, t16_19, t16_20, b_30, t20_14, rfl, H, hL_95⟩
   have H := H.2.2.2
   refine eop_alloc 34 zer34 rfl hL_3 (fun b_31 h_100 hb_30 hf_73 hL_100 => ?_)
   have H := H b_31 h_100 (Nat.le_trans (Fr.size (Fr.r (In []) _)) hb_30) (Fr.no' (Fr.r (In []) _) hf_73) hL_100
   refine ⟨?_, ?_⟩
   ·exact still_loc one22 hL_100 2 rfl 0 (v := (Sl.v g0_1)) rfl
   refine ⟨?_, ?_⟩
   ·exact still_locA agg43 hL_100 1 rfl 0 (vs := [(Sl.v w1_1), (VI w1_2)]) rfl rfl
   refine ⟨?_, ?_, ?_⟩
   ·have H := H.1
    refine H.mono fun rv_28 h_101 H => ?_
    obtain ⟨t16_23, t16_24, rfl, hL_101, H⟩ := H
    refine ⟨?_, ?_⟩
    ·exact still_loc one22 hL_101 2 rfl 0 (v := (Sl.v g0_1)) rfl
    refine ⟨?_, ?_⟩
    ·have H := H.1
     refine H.mono fun rv_29 h_102 H => ?_
     obtain ⟨t20_16, rfl, hL_102, H⟩ := H
     refine ⟨?_, ?_⟩
     ·exact still_loc one22 hL_102 2 rfl 0 (v := (Sl.v g0_1)) rfl
     refine eop_alloc 43 zer43 rfl hL_102 (fun b_32 h_103 hb_31 hf_74 hL_103 => ?_)
     have H := H b_32 h_103 (Nat.le_trans (Fr.size (Fr.r (In []) _)) hb_31) (Fr.no' (Fr.r (In []) _) hf_74) hL_103
     refine ⟨?_, ?_⟩
     ·exact still_loc one22 hL_103 3 rfl 0 (v := (Sl.v g0_1)) rfl
     refine uop_loc siz43 hL_103 0 rfl 0 [(Sl.v t16_23), (VI t16_24)] rfl rfl rfl (Nat.le_of_ble_eq_true rfl) (L' := [(b_32, [(Sl.v t16_23), (VI t16_24)]), (b_31, [(Sl.v nilSl)]), (b_2, [(Sl.v w1_1), (VI w1_2)]), (b_1, [(Sl.v g0_1)])]) rfl (fun h_104 hf_75 hL_104 => ?_)
     have H := H  h_104  (Fr.old (Fr.r (In []) _) hf_75) hL_104
     refine ⟨?_, ?_⟩
     ·exact still_loc one22 hL_104 3 rfl 0 (v := (Sl.v g0_1)) rfl
     refine uop_loc siz34 hL_104 1 rfl 0 [(Sl.v t20_16)] rfl rfl rfl (Nat.le_of_ble_eq_true rfl) (L' := [(b_32, [(Sl.v t16_23), (VI t16_24)]), (b_31, [(Sl.v t20_16)]), (b_2, [(Sl.v w1_1), (VI w1_2)]), (b_1, [(Sl.v g0_1)])]) rfl (fun h_105 hf_76 hL_105 => ?_)
     have H := H  h_105  (Fr.old (Fr.r (In []) _) hf_76) hL_105
     exact ⟨b_32, t16_23, t16_24, b_31, t20_16, rfl, H, Vars.pick hL_105 [1, 0, 2, 3] rfl⟩
    have H := H.2
    refine eop_alloc 43 zer43 rfl hL_101 (fun b_33 h_106 hb_32 hf_77 hL_106 => ?_)
    have H := H b_33 h_106 (Nat.le_trans (Fr.size (Fr.r (In []) _)) hb_32) (Fr.no' (Fr.r (In []) _) hf_77) hL_106
    refine ⟨?_, ?_⟩
    ·exact still_loc one22 hL_106 3 rfl 0 (v := (Sl.v g0_1)) rfl
    refine ⟨?_, ?_⟩
    ·have H := H.1
     refine H.mono fun rv_30 h_107 H => ?_
     obtain ⟨t20_17, rfl, hL_107, H⟩ := H
     refine ⟨?_, ?_⟩
     ·exact still_loc one22 hL_107 3 rfl 0 (v := (Sl.v g0_1)) rfl
     refine uop_loc siz43 hL_107 0 rfl 0 [(Sl.v t16_23), (VI t16_24)] rfl rfl rfl (Nat.le_of_ble_eq_true rfl) (L' := [(b_33, [(Sl.v t16_23), (VI t16_24)]), (b_31, [(Sl.v nilSl)]), (b_2, [(Sl.v w1_1), (VI w1_2)]), (b_1, [(Sl.v g0_1)])]) rfl (fun h_108 hf_78 hL_108 => ?_)
     have H := H  h_108  (Fr.old (Fr.r (In []) _) hf_78) hL_108
     refine ⟨?_, ?_⟩
     ·exact still_loc one22 hL_108 3 rfl 0 (v := (Sl.v g0_1)) rfl
     refine uop_loc siz34 hL_108 1 rfl 0 [(Sl.v t20_17)] rfl rfl rfl (Nat.le_of_ble_eq_true rfl) (L' := [(b_33, [(Sl.v t16_23), (VI t16_24)]), (b_31, [(Sl.v t20_17)]), (b_2, [(Sl.v w1_1), (VI w1_2)]), (b_1, [(Sl.v g0_1)])]) rfl (fun h_109 hf_79 hL_109 => ?_)
     have H := H  h_109  (Fr.old (Fr.r (In []) _) hf_79) hL_109
     exact ⟨b_33, t16_23, t16_24, b_31, t20_17, rfl, H, Vars.pick hL_109 [1, 0, 2, 3] rfl⟩
    have H := H.2
    refine uop_loc siz43 hL_106 0 rfl 0 [(Sl.v t16_23), (VI t16_24)] rfl rfl rfl (Nat.le_of_ble_eq_true rfl) (L' := [(b_33, [(Sl.v t16_23), (VI t16_24)]), (b_31, [(Sl.v nilSl)]), (b_2, [(Sl.v w1_1), (VI w1_2)]), (b_1, [(Sl.v g0_1)])]) rfl (fun h_110 hf_80 hL_110 => ?_)
    have H := H  h_110  (Fr.old (Fr.r (In []) _) hf_80) hL_110
    refine ⟨?_, ?_⟩
    ·exact still_loc one22 hL_110 3 rfl 0 (v := (Sl.v g0_1)) rfl
    refine H.mono fun rv_31 h_111 H => ?_
    obtain ⟨t20_18, rfl, hL_111, H⟩ := H
    refine ⟨?_, ?_⟩
    ·exact still_loc one22 hL_111 3 rfl 0 (v := (Sl.v g0_1)) rfl
    refine uop_loc siz34 hL_111 1 rfl 0 [(Sl.v t20_18)] rfl rfl rfl (Nat.le_of_ble_eq_true rfl) (L' := [(b_33, [(Sl.v t16_23), (VI t16_24)]), (b_31, [(Sl.v t20_18)]), (b_2, [(Sl.v w1_1), (VI w1_2)]), (b_1, [(Sl.v g0_1)])]) rfl (fun h_112 hf_81 hL_112 => ?_)
    have H := H  h_112  (Fr.old (Fr.r (In []) _) hf_81) hL_112
    exact ⟨b_33, t16_23, t16_24, b_31, t20_18, rfl, H, Vars.pick hL_112 [1, 0, 2, 3] rfl⟩
   ·have H := H.2.1
    refine H.mono fun rv_32 h_113 H => ?_
    obtain ⟨t20_19, rfl, hL_113, H⟩ := H
    refine ⟨?_, ?_⟩
    ·exact still_loc one22 hL_113 2 rfl 0 (v := (Sl.v g0_1)) rfl
    refine ⟨?_, ?_⟩
    ·exact still_locA agg43 hL_113 1 rfl 0 (vs := [(Sl.v w1_1), (VI w1_2)]) rfl rfl
    refine ⟨?_, ?_⟩
    ·have H := H.1
     refine H.mono fun rv_33 h_114 H => ?_
     obtain ⟨t16_25, t16_26, rfl, hL_114, H⟩ := H
     refine ⟨?_, ?_⟩
     ·exact still_loc one22 hL_114 2 rfl 0 (v := (Sl.v g0_1)) rfl
     refine eop_alloc 43 zer43 rfl hL_114 (fun b_34 h_115 hb_33 hf_82 hL_115 => ?_)
     have H := H b_34 h_115 (Nat.le_trans (Fr.size (Fr.r (In []) _)) hb_33) (Fr.no' (Fr.r (In []) _) hf_82) hL_115
     refine ⟨?_, ?_⟩
     ·exact still_loc one22 hL_115 3 rfl 0 (v := (Sl.v g0_1)) rfl
     refine uop_loc siz43 hL_115 0 rfl 0 [(Sl.v t16_25), (VI t16_26)] rfl rfl rfl (Nat.le_of_ble_eq_true rfl) (L' := [(b_34, [(Sl.v t16_25), (VI t16_26)]), (b_31, [(Sl.v nilSl)]), (b_2, [(Sl.v w1_1), (VI w1_2)]), (b_1, [(Sl.v g0_1)])]) rfl (fun h_116 hf_83 hL_116 => ?_)
     have H := H  h_116  (Fr.old (Fr.r (In []) _) hf_83) hL_116
     refine ⟨?_, ?_⟩
     ·exact still_loc one22 hL_116 3 rfl 0 (v := (Sl.v g0_1)) rfl
     refine uop_loc siz34 hL_116 1 rfl 0 [(Sl.v t20_19)] rfl rfl rfl (Nat.le_of_ble_eq_true rfl) (L' := [(b_34, [(Sl.v t16_25), (VI t16_26)]), (b_31, [(Sl.v t20_19)]), (b_2, [(Sl.v w1_1), (VI w1_2)]), (b_1, [(Sl.v g0_1)])]) rfl (fun h_117 hf_84 hL_117 => ?_)
     have H := H  h_117  (Fr.old (Fr.r (In []) _) hf_84) hL_117
     exact ⟨b_34, t16_25, t16_26, b_31, t20_19, rfl, H, Vars.pick hL_117 [1, 0, 2, 3] rfl⟩
    have H := H.2
    refine eop_alloc 43 zer43 rfl hL_113 (fun b_35 h_118 hb_34 hf_85 hL_118 => ?_)
    have H := H b_35 h_118 (Nat.le_trans (Fr.size (Fr.r (In []) _)) hb_34) (Fr.no' (Fr.r (In []) _) hf_85) hL_118
    refine ⟨?_, ?_⟩
    ·exact still_loc one22 hL_118 3 rfl 0 (v := (Sl.v g0_1)) rfl
    refine ⟨?_, ?_⟩
    ·exact still_locA agg43 hL_118 2 rfl 0 (vs := [(Sl.v w1_1), (VI w1_2)]) rfl rfl
    refine H.mono fun rv_34 h_119 H => ?_
    obtain ⟨t16_27, t16_28, rfl, hL_119, H⟩ := H
    refine ⟨?_, ?_⟩
    ·exact still_loc one22 hL_119 3 rfl 0 (v := (Sl.v g0_1)) rfl
    refine uop_loc siz43 hL_119 0 rfl 0 [(Sl.v t16_27), (VI t16_28)] rfl rfl rfl (Nat.le_of_ble_eq_true rfl) (L' := [(b_35, [(Sl.v t16_27), (VI t16_28)]), (b_31, [(Sl.v nilSl)]), (b_2, [(Sl.v w1_1), (VI w1_2)]), (b_1, [(Sl.v g0_1)])]) rfl (fun h_120 hf_86 hL_120 => ?_)
    have H := H  h_120  (Fr.old (Fr.r (In []) _) hf_86) hL_120
    refine ⟨?_, ?_⟩
    ·exact still_loc one22 hL_120 3 rfl 0 (v := (Sl.v g0_1)) rfl
    refine uop_loc siz34 hL_120 1 rfl 0 [(Sl.v t20_19)] rfl rfl rfl (Nat.le_of_ble_eq_true rfl) (L' := [(b_35, [(Sl.v t16_27), (VI t16_28)]), (b_31, [(Sl.v t20_19)]), (b_2, [(Sl.v w1_1), (VI w1_2)]), (b_1, [(Sl.v g0_1)])]) rfl (fun h_121 hf_87 hL_121 => ?_)
    have H := H  h_121  (Fr.old (Fr.r (In []) _) hf_87) hL_121
    exact ⟨b_35, t16_27, t16_28, b_31, t20_19, rfl, H, Vars.pick hL_121 [1, 0, 2, 3] rfl⟩
   have H := H.2.2
   refine eop_alloc 43 zer43 rfl hL_100 (fun b_36 h_122 hb_35 hf_88 hL_122 => ?_)
   have H := H b_36 h_122 (Nat.le_trans (Fr.size (Fr.r (In []) _)) hb_35) (Fr.no' (Fr.r (In []) _) hf_88) hL_122
   refine ⟨?_, ?_⟩
   ·exact still_loc one22 hL_122 3 rfl 0 (v := (Sl.v g0_1)) rfl
   refine ⟨?_, ?_⟩
   ·exact still_locA agg43 hL_122 2 rfl 0 (vs := [(Sl.v w1_1), (VI w1_2)]) rfl rfl
   refine ⟨?_, ?_⟩
   rotate_left
   ·have H := H.2
    refine H.mono fun rv_38 h_130 H => ?_
    obtain ⟨t20_22, rfl, hL_130, H⟩ := H
    refine ⟨?_, ?_⟩
    ·exact still_loc one22 hL_130 3 rfl 0 (v := (Sl.v g0_1)) rfl
    refine ⟨?_, ?_⟩
    ·exact still_locA agg43 hL_130 2 rfl 0 (vs := [(Sl.v w1_1), (VI w1_2)]) rfl rfl
    refine H.mono fun rv_39 h_131 H => ?_
    obtain ⟨t16_31, t16_32, rfl, hL_131, H⟩ := H
    refine ⟨?_, ?_⟩
    ·exact still_loc one22 hL_131 3 rfl 0 (v := (Sl.v g0_1)) rfl
    refine uop_loc siz43 hL_131 0 rfl 0 [(Sl.v t16_31), (VI t16_32)] rfl rfl rfl (Nat.le_of_ble_eq_true rfl) (L' := [(b_36, [(Sl.v t16_31), (VI t16_32)]), (b_31, [(Sl.v nilSl)]), (b_2, [(Sl.v w1_1), (VI w1_2)]), (b_1, [(Sl.v g0_1)])]) rfl (fun h_132 hf_93 hL_132 => ?_)
    have H := H  h_132  (Fr.old (Fr.r (In []) _) hf_93) hL_132
    refine ⟨?_, ?_⟩
    ·exact still_loc one22 hL_132 3 rfl 0 (v := (Sl.v g0_1)) rfl
    refine uop_loc siz34 hL_132 1 rfl 0 [(Sl.v t20_22)] rfl rfl rfl (Nat.le_of_ble_eq_true rfl) (L' := [(b_36, [(Sl.v t16_31), (VI t16_32)]), (b_31, [(Sl.v t20_22)]), (b_2, [(Sl.v w1_1), (VI w1_2)]), (b_1, [(Sl.v g0_1)])]) rfl (fun h_133 hf_94 hL_133 => ?_)
    have H := H  h_133  (Fr.old (Fr.r (In []) _) hf_94) hL_133
    exact ⟨b_36, t16_31, t16_32, b_31, t20_22, rfl, H, Vars.pick hL_133 [1, 0, 2, 3] rfl⟩
   have H := H.1
   refine H.mono fun rv_35 h_123 H => ?_
   obtain ⟨t16_29, t16_30, rfl, hL_123, H⟩ := H
   refine ⟨?_, ?_⟩
   ·exact still_loc one22 hL_123 3 rfl 0 (v := (Sl.v g0_1)) rfl
   refine ⟨?_, ?_⟩
   ·have H := H.1
    refine H.mono fun rv_36 h_124 H => ?_
    obtain ⟨t20_20, rfl, hL_124, H⟩ := H
    refine ⟨?_, ?_⟩
    ·exact still_loc one22 hL_124 3 rfl 0 (v := (Sl.v g0_1)) rfl
    refine uop_loc siz43 hL_124 0 rfl 0 [(Sl.v t16_29), (VI t16_30)] rfl rfl rfl (Nat.le_of_ble_eq_true rfl) (L' := [(b_36, [(Sl.v t16_29), (VI t16_30)]), (b_31, [(Sl.v nilSl)]), (b_2, [(Sl.v w1_1), (VI w1_2)]), (b_1, [(Sl.v g0_1)])]) rfl (fun h_125 hf_89 hL_125 => ?_)
    have H := H  h_125  (Fr.old (Fr.r (In []) _) hf_89) hL_125
    refine ⟨?_, ?_⟩
    ·exact still_loc one22 hL_125 3 rfl 0 (v := (Sl.v g0_1)) rfl
    refine uop_loc siz34 hL_125 1 rfl 0 [(Sl.v t20_20)] rfl rfl rfl (Nat.le_of_ble_eq_true rfl) (L' := [(b_36, [(Sl.v t16_29), (VI t16_30)]), (b_31, [(Sl.v t20_20)]), (b_2, [(Sl.v w1_1), (VI w1_2)]), (b_1, [(Sl.v g0_1)])]) rfl (fun h_126 hf_90 hL_126 => ?_)
    have H := H  h_126  (Fr.old (Fr.r (In []) _) hf_90) hL_126
    exact ⟨b_36, t16_29, t16_30, b_31, t20_20, rfl, H, Vars.pick hL_126 [1, 0, 2, 3] rfl⟩
   have H := H.2
   refine uop_loc siz43 hL_123 0 rfl 0 [(Sl.v t16_29), (VI t16_30)] rfl rfl rfl (Nat.le_of_ble_eq_true rfl) (L' := [(b_36, [(Sl.v t16_29), (VI t16_30)]), (b_31, [(Sl.v nilSl)]), (b_2, [(Sl.v w1_1), (VI w1_2)]), (b_1, [(Sl.v g0_1)])]) rfl (fun h_127 hf_91 hL_127 => ?_)
   have H := H  h_127  (Fr.old (Fr.r (In []) _) hf_91) hL_127
   refine ⟨?_, ?_⟩
   ·exact still_loc one22 hL_127 3 rfl 0 (v := (Sl.v g0_1)) rfl
   refine H.mono fun rv_37 h_128 H => ?_
   obtain ⟨t20_21, rfl, hL_128, H⟩ := H
   refine ⟨?_, ?_⟩
   ·exact still_loc one22 hL_128 3 rfl 0 (v := (Sl.v g0_1)) rfl
   refine uop_loc siz34 hL_128 1 rfl 0 [(Sl.v t20_21)] rfl rfl rfl (Nat.le_of_ble_eq_true rfl) (L' := [(b_36, [(Sl.v t16_29), (VI t16_30)]), (b_31, [(Sl.v t20_21)]), (b_2, [(Sl.v w1_1), (VI w1_2)]), (b_1, [(Sl.v g0_1)])]) rfl (fun h_129 hf_92 hL_129 => ?_)
   have H := H  h_129  (Fr.old (Fr.r (In []) _) hf_92) hL_129
   exact ⟨b_36, t16_29, t16_30, b_31, t20_21, rfl, H, Vars.pick hL_129 [1, 0, 2, 3] rfl⟩
  intro junk_1 tv_1 tv_2 h_134
  rintro ⟨b_3, x_1, x_2, b_4, x_3, hv, hJ_1, hL_134⟩
  cases hv
  have H := HB_1 b_3 x_1 x_2 b_4 x_3 h_134 hJ_1 hL_134
  refine rop_locA agg41 hL_134 3 rfl 0 (vs := [(Sl.v g0_1)]) rfl rfl ?_
  refine pop_func _ _ _ ?_
  refine H.mono fun rv_40 h_135 H => ?_
  obtain ⟨x_4, x_5, x_6, t24_1, rfl, hL_135, H⟩ := H
  refine pop_not t24_1 ?_
  refine condM_b (fun hb_36 => ?_) (fun hb_36 => ?_)
  ·have H := H.1 hb_36
   exact H
  have H := H.2 hb_36
  refine rop_loc one34 hL_135 0 rfl 0 (v := (Sl.v x_4)) rfl ?_
  exact H
def u25 (P : Program) (g0_1 : Sl) (w1_1 : Sl) (w1_2 : Int) (n2_1 : Int) (h : Heap) (K : Value → Heap → Prop) : Prop :=
  ∀ (b_1 : Nat) (b_2 : Nat) (h_2 : Heap), h.size ≤ b_1 → h.size ≤ b_2 → Fr (In []) h h_2 → Vars h_2 [(b_2, [(Sl.v w1_1), (VI w1_2)]), (b_1, [(Sl.v g0_1)])] →
  callM P 73 #[(Value.agg #[(Sl.v g0_1)]), (Value.agg #[(Sl.v w1_1), (VI w1_2)]), (VI n2_1)] h_2 fun rv_1 h_3 => ∃ t13_1 : Bool, rv_1 = (VB t13_1) ∧ Vars h_3 [(b_2, [(Sl.v w1_1), (VI w1_2)]), (b_1, [(Sl.v g0_1)])] ∧
  ((!t13_1) = true →
  K (Value.tuple #[(Sl.v nilSl), (VB false)]) h_3) ∧
  ((!t13_1) = false →
  callM P 74 #[(Value.agg #[(Sl.v g0_1)]), (Value.agg #[(Sl.v w1_1), (VI w1_2)]), (VI n2_1)] h_3 fun rv_2 h_4 => ∃ t19_1 : Sl, ∃ t19_2 : Int, ∃ t19_3 : Sl, ∃ t19_4 : Sl, ∃ t19_5 : Sl, ∃ t19_6 : Bool, rv_2 = (Value.tuple #[(Value.agg #[(Sl.v t19_1), (VI t19_2), (Sl.v t19_3), (Sl.v t19_4), (Sl.v t19_5)]), (VB t19_6)]) ∧ Vars h_4 [(b_2, [(Sl.v w1_1), (VI w1_2)]), (b_1, [(Sl.v g0_1)])] ∧
  ∀ (b_3 : Nat) (h_6 : Heap), h_4.size ≤ b_3 → Fr (In []) h_4 h_6 → Vars h_6 [(b_3, [(Sl.v t19_1), (VI t19_2), (Sl.v t19_3), (Sl.v t19_4), (Sl.v t19_5)]), (b_2, [(Sl.v w1_1), (VI w1_2)]), (b_1, [(Sl.v g0_1)])] →
  K (Value.tuple #[(Sl.v t19_4), (VB t19_6)]) h_6)
theorem v25 (g0_1 : Sl) (w1_1 : Sl) (w1_2 : Int) (n2_1 : Int) (h : Heap) (K : Value → Heap → Prop) (H : u25 Tryd.prog g0_1 w1_1 w1_2 n2_1 h K) : callM Tryd.prog 25 #[(Value.agg #[(Sl.v g0_1)]), (Value.agg #[(Sl.v w1_1), (VI w1_2)]), (VI n2_1)] h K := by
  refine c25 (Value.agg #[(Sl.v g0_1)]) (Value.agg #[(Sl.v w1_1), (VI w1_2)]) (VI n2_1) h K ?_
  unfold u25 at H
  unfold t25
  have hL : Vars h [] := .nil
  refine eop_box 41 (Value.agg #[(Sl.v g0_1)]) rfl hL (fun b_1 h_1 hb_1 hf_1 hL_1 => ?_)
  refine eop_box 43 (Value.agg #[(Sl.v w1_1), (VI w1_2)]) rfl hL_1 (fun b_2 h_2 hb_2 hf_2 hL_2 => ?_)
  refine rop_locA agg41 hL_2 1 rfl 0 (vs := [(Sl.v g0_1)]) rfl rfl ?_
  refine rop_locA agg43 hL_2 0 rfl 0 (vs := [(Sl.v w1_1), (VI w1_2)]) rfl rfl ?_
  have H := H b_1 b_2 h_2 (Nat.le_trans (Fr.size (Fr.r (In []) _)) hb_1) (Nat.le_trans (Fr.size (Fr.no' (Fr.r (In []) _) hf_1)) hb_2) (Fr.no' (Fr.no' (Fr.r (In []) _) hf_1) hf_2) hL_2
  refine H.mono fun rv_1 h_3 H => ?_
  obtain ⟨t13_1, rfl, hL_3, H⟩ := H
  refine pop_not t13_1 ?_
  refine condM_b (fun hb_3 => ?_) (fun hb_3 => ?_)
  ·have H := H.1 hb_3
   exact H
  have H := H.2 hb_3
  refine rop_locA agg41 hL_3 1 rfl 0 (vs := [(Sl.v g0_1)]) rfl rfl ?_
  refine rop_locA agg43 hL_3 0 rfl 0 (vs := [(Sl.v w1_1), (VI w1_2)]) rfl rfl ?_
  refine H.mono fun rv_2 h_4 H => ?_
  obtain ⟨t19_1, t19_2, t19_3, t19_4, t19_5, t19_6, rfl, hL_4, H⟩ := H
  refine pop_ext (v := (Value.agg #[(Sl.v t19_1), (VI t19_2), (Sl.v t19_3), (Sl.v t19_4), (Sl.v t19_5)])) rfl ?_
  refine pop_ext (v := (VB t19_6)) rfl ?_
  refine eop_alloc 96 zer96 rfl hL_4 (fun b_3 h_5 hb_4 hf_3 hL_5 => ?_)
  refine uop_loc siz96 hL_5 0 rfl 0 [(Sl.v t19_1), (VI t19_2), (Sl.v t19_3), (Sl.v t19_4), (Sl.v t19_5)] rfl rfl rfl (Nat.le_of_ble_eq_true rfl) (L' := [(b_3, [(Sl.v t19_1), (VI t19_2), (Sl.v t19_3), (Sl.v t19_4), (Sl.v t19_5)]), (b_2, [(Sl.v w1_1), (VI w1_2)]), (b_1, [(Sl.v g0_1)])]) rfl (fun h_6 hf_4 hL_6 => ?_)
  refine pop_field 2 fld96_2 b_3 0 ?_
  refine rop_loc one34 hL_6 0 rfl 3 (v := (Sl.v t19_4)) rfl ?_
  have H := H b_3 h_6 (Nat.le_trans (Fr.size (Fr.r (In []) _)) hb_4) (Fr.new (Fr.no' (Fr.r (In []) _) hf_3) (Nat.le_trans (Fr.size (Fr.r (In []) _)) hb_4) hf_4) hL_6
  exact H
def u26 (P : Program) (g0_1 : Sl) (w1_1 : Sl) (w1_2 : Int) (n2_1 : Int) (h : Heap) (K : Value → Heap → Prop) : Prop :=
  ∀ (b_1 : Nat) (b_2 : Nat) (b_3 : Nat) (h_3 : Heap), h.size ≤ b_1 → h.size ≤ b_2 → h.size ≤ b_3 → Fr (In []) h h_3 → Vars h_3 [(b_3, [(Sl.v nilSl), (VI 0)]), (b_2, [(Sl.v w1_1), (VI w1_2)]), (b_1, [(Sl.v g0_1)])] →
  callM P 68 #[(Value.agg #[(Sl.v g0_1)]), (Value.agg #[(Sl.v w1_1), (VI w1_2)]), (VI n2_1), (VI 2000)] h_3 fun rv_1 h_4 => ∃ t12_1 : Bool, rv_1 = (VB t12_1) ∧ Vars h_4 [(b_3, [(Sl.v nilSl), (VI 0)]), (b_2, [(Sl.v w1_1), (VI w1_2)]), (b_1, [(Sl.v g0_1)])] ∧
  ((!t12_1) = true →
  ∀ (h_5 : Heap), Fr (In [b_3]) h_4 h_5 → Vars h_5 [(b_3, [(Sl.v nilSl), (VI 0)]), (b_2, [(Sl.v w1_1), (VI w1_2)]), (b_1, [(Sl.v g0_1)])] →
  K (Value.tuple #[(Value.agg #[(Sl.v nilSl), (VI 0)]), (VB false)]) h_5) ∧
  ((!t12_1) = false →
  callM P 69 #[(Value.agg #[(Sl.v w1_1), (VI w1_2)])] h_4 fun rv_2 h_6 => ∃ t16_1 : Sl, ∃ t16_2 : Int, rv_2 = (Value.agg #[(Sl.v t16_1), (VI t16_2)]) ∧ Vars h_6 [(b_3, [(Sl.v nilSl), (VI 0)]), (b_2, [(Sl.v w1_1), (VI w1_2)]), (b_1, [(Sl.v g0_1)])] ∧
  ∀ (b_4 : Nat) (h_8 : Heap), h_6.size ≤ b_4 → Fr (In []) h_6 h_8 → Vars h_8 [(b_4, [(Sl.v t16_1), (VI t16_2)]), (b_3, [(Sl.v nilSl), (VI 0)]), (b_2, [(Sl.v w1_1), (VI w1_2)]), (b_1, [(Sl.v g0_1)])] →
  callM P 71 #[(Value.agg #[(Sl.v g0_1)]), (VP b_4 0), (VI n2_1), (Value.func (.func 76) #[] #[])] h_8 fun rv_3 h_9 => ∃ x_1 : Sl, ∃ x_2 : Int, ∃ t19_1 : Bool, rv_3 = (VB t19_1) ∧ Vars h_9 [(b_4, [(Sl.v x_1), (VI x_2)]), (b_3, [(Sl.v nilSl), (VI 0)]), (b_2, [(Sl.v w1_1), (VI w1_2)]), (b_1, [(Sl.v g0_1)])] ∧
  ((!t19_1) = true →
  ∀ (h_10 : Heap), Fr (In [b_3]) h_9 h_10 → Vars h_10 [(b_4, [(Sl.v x_1), (VI x_2)]), (b_3, [(Sl.v nilSl), (VI 0)]), (b_2, [(Sl.v w1_1), (VI w1_2)]), (b_1, [(Sl.v g0_1)])] →
  K (Value.tuple #[(Value.agg #[(Sl.v nilSl), (VI 0)]), (VB false)]) h_10) ∧
  ((!t19_1) = false →
  ∀ (h_11 : Heap), Fr (In [b_3]) h_9 h_11 → Vars h_11 [(b_4, [(Sl.v x_1), (VI x_2)]), (b_3, [(Sl.v x_1), (VI x_2)]), (b_2, [(Sl.v w1_1), (VI w1_2)]), (b_1, [(Sl.v g0_1)])] →
  K (Value.tuple #[(Value.agg #[(Sl.v x_1), (VI x_2)]), (VB true)]) h_11))
theorem v26 (g0_1 : Sl) (w1_1 : Sl) (w1_2 : Int) (n2_1 : Int) (h : Heap) (K : Value → Heap → Prop) (H : u26 Tryd.prog g0_1 w1_1 w1_2 n2_1 h K) : callM Tryd.prog 26 #[(Value.agg #[(Sl.v g0_1)]), (Value.agg #[(Sl.v w1_1), (VI w1_2)]), (VI n2_1)] h K := by
  refine c26 (Value.agg #[(Sl.v g0_1)]) (Value.agg #[(Sl.v w1_1), (VI w1_2)]) (VI n2_1) h K ?_
  unfold u26 at H
  unfold t26
  have hL : Vars h [] := .nil
  refine eop_box 41 (Value.agg #[(Sl.v g0_1)]) rfl hL (fun b_1 h_1 hb_1 hf_1 hL_1 => ?_)
  refine eop_box 43 (Value.agg #[(Sl.v w1_1), (VI w1_2)]) rfl hL_1 (fun b_2 h_2 hb_2 hf_2 hL_2 => ?_)
  refine eop_alloc 43 zer43 rfl hL_2 (fun b_3 h_3 hb_3 hf_3 hL_3 => ?_)
  refine rop_locA agg41 hL_3 2 rfl 0 (vs := [(Sl.v g0_1)]) rfl rfl ?_
  refine rop_locA agg43 hL_3 1 rfl 0 (vs := [(Sl.v w1_1), (VI w1_2)]) rfl rfl ?_
  have H := H b_1 b_2 b_3 h_3 (Nat.le_trans (Fr.size (Fr.r (In []) _)) hb_1) (Nat.le_trans (Fr.size (Fr.no' (Fr.r (In []) _) hf_1)) hb_2) (Nat.le_trans (Fr.size (Fr.no' (Fr.no' (Fr.r (In []) _) hf_1) hf_2)) hb_3) (Fr.no' (Fr.no' (Fr.no' (Fr.r (In []) _) hf_1) hf_2) hf_3) hL_3
  refine H.mono fun rv_1 h_4 H => ?_
  obtain ⟨t12_1, rfl, hL_4, H⟩ := H
  refine pop_not t12_1 ?_
  refine condM_b (fun hb_4 => ?_) (fun hb_4 => ?_)
  ·have H := H.1 hb_4
   refine pop.mk' (v := (Value.agg #[(Sl.v nilSl), (VI 0)])) (fun w => by kernel_rfl) ?_
   refine uop_loc siz43 hL_4 0 rfl 0 [(Sl.v nilSl), (VI 0)] rfl rfl rfl (Nat.le_of_ble_eq_true rfl) (L' := [(b_3, [(Sl.v nilSl), (VI 0)]), (b_2, [(Sl.v w1_1), (VI w1_2)]), (b_1, [(Sl.v g0_1)])]) rfl (fun h_5 hf_4 hL_5 => ?_)
   refine rop_locA agg43 hL_5 0 rfl 0 (vs := [(Sl.v nilSl), (VI 0)]) rfl rfl ?_
   have H := H  h_5  (Fr.old (Fr.r (In []) _) hf_4) hL_5
   exact H
  have H := H.2 hb_4
  refine rop_locA agg43 hL_4 1 rfl 0 (vs := [(Sl.v w1_1), (VI w1_2)]) rfl rfl ?_
  refine H.mono fun rv_2 h_6 H => ?_
  obtain ⟨t16_1, t16_2, rfl, hL_6, H⟩ := H
  refine eop_alloc 43 zer43 rfl hL_6 (fun b_4 h_7 hb_5 hf_5 hL_7 => ?_)
  refine uop_loc siz43 hL_7 0 rfl 0 [(Sl.v t16_1), (VI t16_2)] rfl rfl rfl (Nat.le_of_ble_eq_true rfl) (L' := [(b_4, [(Sl.v t16_1), (VI t16_2)]), (b_3, [(Sl.v nilSl), (VI 0)]), (b_2, [(Sl.v w1_1), (VI w1_2)]), (b_1, [(Sl.v g0_1)])]) rfl (fun h_8 hf_6 hL_8 => ?_)
  refine rop_locA agg41 hL_8 3 rfl 0 (vs := [(Sl.v g0_1)]) rfl rfl ?_
  have H := H b_4 h_8 (Nat.le_trans (Fr.size (Fr.r (In []) _)) hb_5) (Fr.new (Fr.no' (Fr.r (In []) _) hf_5) (Nat.le_trans (Fr.size (Fr.r (In []) _)) hb_5) hf_6) hL_8
  refine H.mono fun rv_3 h_9 H => ?_
  obtain ⟨x_1, x_2, t19_1, rfl, hL_9, H⟩ := H
  refine pop_not t19_1 ?_
  refine condM_b (fun hb_6 => ?_) (fun hb_6 => ?_)
  ·have H := H.1 hb_6
   refine pop.mk' (v := (Value.agg #[(Sl.v nilSl), (VI 0)])) (fun w => by kernel_rfl) ?_
   refine uop_loc siz43 hL_9 1 rfl 0 [(Sl.v nilSl), (VI 0)] rfl rfl rfl (Nat.le_of_ble_eq_true rfl) (L' := [(b_4, [(Sl.v x_1), (VI x_2)]), (b_3, [(Sl.v nilSl), (VI 0)]), (b_2, [(Sl.v w1_1), (VI w1_2)]), (b_1, [(Sl.v g0_1)])]) rfl (fun h_10 hf_7 hL_10 => ?_)
   refine rop_locA agg43 hL_10 1 rfl 0 (vs := [(Sl.v nilSl), (VI 0)]) rfl rfl ?_
   have H := H  h_10  (Fr.old (Fr.r (In []) _) hf_7) hL_10
   exact H
  have H := H.2 hb_6
  refine rop_locA agg43 hL_9 0 rfl 0 (vs := [(Sl.v x_1), (VI x_2)]) rfl rfl ?_
  refine uop_loc siz43 hL_9 1 rfl 0 [(Sl.v x_1), (VI x_2)] rfl rfl rfl (Nat.le_of_ble_eq_true rfl) (L' := [(b_4, [(Sl.v x_1), (VI x_2)]), (b_3, [(Sl.v x_1), (VI x_2)]), (b_2, [(Sl.v w1_1), (VI w1_2)]), (b_1, [(Sl.v g0_1)])]) rfl (fun h_11 hf_8 hL_11 => ?_)
  refine rop_locA agg43 hL_11 1 rfl 0 (vs := [(Sl.v x_1), (VI x_2)]) rfl rfl ?_
  have H := H  h_11  (Fr.old (Fr.r (In []) _) hf_8) hL_11
  exact H
def u27 (P : Program) (g0_1 : Sl) (w1_1 : Sl) (w1_2 : Int) (n2_1 : Int) (h : Heap) (K : Value → Heap → Prop) : Prop :=
  ∀ (b_1 : Nat) (b_2 : Nat) (b_3 : Nat) (h_3 : Heap), h.size ≤ b_1 → h.size ≤ b_2 → h.size ≤ b_3 → Fr (In []) h h_3 → Vars h_3 [(b_3, [(Sl.v nilSl), (VI 0)]), (b_2, [(Sl.v w1_1), (VI w1_2)]), (b_1, [(Sl.v g0_1)])] →
  callM P 73 #[(Value.agg #[(Sl.v g0_1)]), (Value.agg #[(Sl.v w1_1), (VI w1_2)]), (VI n2_1)] h_3 fun rv_1 h_4 => ∃ t13_1 : Bool, rv_1 = (VB t13_1) ∧ Vars h_4 [(b_3, [(Sl.v nilSl), (VI 0)]), (b_2, [(Sl.v w1_1), (VI w1_2)]), (b_1, [(Sl.v g0_1)])] ∧
  ((!t13_1) = true →
  ∀ (h_5 : Heap), Fr (In [b_3]) h_4 h_5 → Vars h_5 [(b_3, [(Sl.v nilSl), (VI 0)]), (b_2, [(Sl.v w1_1), (VI w1_2)]), (b_1, [(Sl.v g0_1)])] →
  K (Value.tuple #[(Value.agg #[(Sl.v nilSl), (VI 0)]), (VB false)]) h_5) ∧
  ((!t13_1) = false →
  callM P 74 #[(Value.agg #[(Sl.v g0_1)]), (Value.agg #[(Sl.v w1_1), (VI w1_2)]), (VI n2_1)] h_4 fun rv_2 h_6 => ∃ t20_1 : Sl, ∃ t20_2 : Int, ∃ t20_3 : Sl, ∃ t20_4 : Sl, ∃ t20_5 : Sl, ∃ t20_6 : Bool, rv_2 = (Value.tuple #[(Value.agg #[(Sl.v t20_1), (VI t20_2), (Sl.v t20_3), (Sl.v t20_4), (Sl.v t20_5)]), (VB t20_6)]) ∧ Vars h_6 [(b_3, [(Sl.v nilSl), (VI 0)]), (b_2, [(Sl.v w1_1), (VI w1_2)]), (b_1, [(Sl.v g0_1)])] ∧
  ((!t20_6) = true →
  ∀ (b_4 : Nat) (h_9 : Heap), h_6.size ≤ b_4 → Fr (In [b_3]) h_6 h_9 → Vars h_9 [(b_4, [(Sl.v t20_1), (VI t20_2), (Sl.v t20_3), (Sl.v t20_4), (Sl.v t20_5)]), (b_3, [(Sl.v nilSl), (VI 0)]), (b_2, [(Sl.v w1_1), (VI w1_2)]), (b_1, [(Sl.v g0_1)])] →
  K (Value.tuple #[(Value.agg #[(Sl.v nilSl), (VI 0)]), (VB false)]) h_9) ∧
  ((!t20_6) = false →
  ∀ (b_4 : Nat) (h_8 : Heap), h_6.size ≤ b_4 → Fr (In []) h_6 h_8 → Vars h_8 [(b_4, [(Sl.v t20_1), (VI t20_2), (Sl.v t20_3), (Sl.v t20_4), (Sl.v t20_5)]), (b_3, [(Sl.v nilSl), (VI 0)]), (b_2, [(Sl.v w1_1), (VI w1_2)]), (b_1, [(Sl.v g0_1)])] →
  callM P 77 #[(Sl.v t20_1)] h_8 fun rv_3 h_10 => ∃ t29_1 : Sl, rv_3 = (Sl.v t29_1) ∧ Vars h_10 [(b_4, [(Sl.v t20_1), (VI t20_2), (Sl.v t20_3), (Sl.v t20_4), (Sl.v t20_5)]), (b_3, [(Sl.v nilSl), (VI 0)]), (b_2, [(Sl.v w1_1), (VI w1_2)]), (b_1, [(Sl.v g0_1)])] ∧
  ∀ (h_11 : Heap), Fr (In [b_3]) h_10 h_11 → Vars h_11 [(b_4, [(Sl.v t20_1), (VI t20_2), (Sl.v t20_3), (Sl.v t20_4), (Sl.v t20_5)]), (b_3, [(Sl.v t29_1), (VI t20_2)]), (b_2, [(Sl.v w1_1), (VI w1_2)]), (b_1, [(Sl.v g0_1)])] →
  K (Value.tuple #[(Value.agg #[(Sl.v t29_1), (VI t20_2)]), (VB true)]) h_11))
theorem v27 (g0_1 : Sl) (w1_1 : Sl) (w1_2 : Int) (n2_1 : Int) (h : Heap) (K : Value → Heap → Prop) (H : u27 Tryd.prog g0_1 w1_1 w1_2 n2_1 h K) : callM Tryd.prog 27 #[(Value.agg #[(Sl.v g0_1)]), (Value.agg #[(Sl.v w1_1), (VI w1_2)]), (VI n2_1)] h K := by
  refine c27 (Value.agg #[(Sl.v g0_1)]) (Value.agg #[(Sl.v w1_1), (VI w1_2)]) (VI n2_1) h K ?_
  unfold u27 at H
  unfold t27
  have hL : Vars h [] := .nil
  refine eop_box 41 (Value.agg #[(Sl.v g0_1)]) rfl hL (fun b_1 h_1 hb_1 hf_1 hL_1 => ?_)
  refine eop_box 43 (Value.agg #[(Sl.v w1_1), (VI w1_2)]) rfl hL_1 (fun b_2 h_2 hb_2 hf_2 hL_2 => ?_)
  refine eop_alloc 43 zer43 rfl hL_2 (fun b_3 h_3 hb_3 hf_3 hL_3 => ?_)
  refine rop_locA agg41 hL_3 2 rfl 0 (vs := [(Sl.v g0_1)]) rfl rfl ?_
  refine rop_locA agg43 hL_3 1 rfl 0 (vs := [(Sl.v w1_1), (VI w1_2)]) rfl rfl ?_
  have H := H b_1 b_2 b_3 h_3 (Nat.le_trans (Fr.size (Fr.r (In []) _)) hb_1) (Nat.le_trans (Fr.size (Fr.no' (Fr.r (In []) _) hf_1)) hb_2) (Nat.le_trans (Fr.size (Fr.no' (Fr.no' (Fr.r (In []) _) hf_1) hf_2)) hb_3) (Fr.no' (Fr.no' (Fr.no' (Fr.r (In []) _) hf_1) hf_2) hf_3) hL_3
  refine H.mono fun rv_1 h_4 H => ?_
  obtain ⟨t13_1, rfl, hL_4, H⟩ := H
  refine pop_not t13_1 ?_
  refine condM_b (fun hb_4 => ?_) (fun hb_4 => ?_)
  ·have H := H.1 hb_4
   refine pop.mk' (v := (Value.agg #[(Sl.v nilSl), (VI 0)])) (fun w => by kernel_rfl) ?_
   refine uop_loc siz43 hL_4 0 rfl 0 [(Sl.v nilSl), (VI 0)] rfl rfl rfl (Nat.le_of_ble_eq_true rfl) (L' := [(b_3, [(Sl.v nilSl), (VI 0)]), (b_2, [(Sl.v w1_1), (VI w1_2)]), (b_1, [(Sl.v g0_1)])]) rfl (fun h_5 hf_4 hL_5 => ?_)
   refine rop_locA agg43 hL_5 0 rfl 0 (vs := [(Sl.v nilSl), (VI 0)]) rfl rfl ?_
   have H := H  h_5  (Fr.old (Fr.r (In []) _) hf_4) hL_5
   exact H
  have H := H.2 hb_4
  refine rop_locA agg41 hL_4 2 rfl 0 (vs := [(Sl.v g0_1)]) rfl rfl ?_
  refine rop_locA agg43 hL_4 1 rfl 0 (vs := [(Sl.v w1_1), (VI w1_2)]) rfl rfl ?_
  refine H.mono fun rv_2 h_6 H => ?_
  obtain ⟨t20_1, t20_2, t20_3, t20_4, t20_5, t20_6, rfl, hL_6, H⟩ := H
  refine pop_ext (v := (Value.agg #[(Sl.v t20_1), (VI t20_2), (Sl.v t20_3), (Sl.v t20_4), (Sl.v t20_5)])) rfl ?_
  refine pop_ext (v := (VB t20_6)) rfl ?_
  refine eop_alloc 96 zer96 rfl hL_6 (fun b_4 h_7 hb_5 hf_5 hL_7 => ?_)
  refine uop_loc siz96 hL_7 0 rfl 0 [(Sl.v t20_1), (VI t20_2), (Sl.v t20_3), (Sl.v t20_4), (Sl.v t20_5)] rfl rfl rfl (Nat.le_of_ble_eq_true rfl) (L' := [(b_4, [(Sl.v t20_1), (VI t20_2), (Sl.v t20_3), (Sl.v t20_4), (Sl.v t20_5)]), (b_3, [(Sl.v nilSl), (VI 0)]), (b_2, [(Sl.v w1_1), (VI w1_2)]), (b_1, [(Sl.v g0_1)])]) rfl (fun h_8 hf_6 hL_8 => ?_)
  refine pop_not t20_6 ?_
  refine condM_b (fun hb_6 => ?_) (fun hb_6 => ?_)
  ·have H := H.1 hb_6
   refine pop.mk' (v := (Value.agg #[(Sl.v nilSl), (VI 0)])) (fun w => by kernel_rfl) ?_
   refine uop_loc siz43 hL_8 1 rfl 0 [(Sl.v nilSl), (VI 0)] rfl rfl rfl (Nat.le_of_ble_eq_true rfl) (L' := [(b_4, [(Sl.v t20_1), (VI t20_2), (Sl.v t20_3), (Sl.v t20_4), (Sl.v t20_5)]), (b_3, [(Sl.v nilSl), (VI 0)]), (b_2, [(Sl.v w1_1), (VI w1_2)]), (b_1, [(Sl.v g0_1)])]) rfl (fun h_9 hf_7 hL_9 => ?_)
   refine rop_locA agg43 hL_9 1 rfl 0 (vs := [(Sl.v nilSl), (VI 0)]) rfl rfl ?_
   have H := H b_4 h_9 (Nat.le_trans (Fr.size (Fr.r (In []) _)) hb_5) (Fr.old (Fr.new (Fr.no' (Fr.r (In []) _) hf_5) (Nat.le_trans (Fr.size (Fr.r (In []) _)) hb_5) hf_6) hf_7) hL_9
   exact H
  have H := H.2 hb_6
  refine pop_field 0 fld96_0 b_4 0 ?_
  refine pop_field 0 fld43_0 b_4 0 ?_
  refine rop_loc one34 hL_8 0 rfl 0 (v := (Sl.v t20_1)) rfl ?_
  refine pop_field 0 fld96_0 b_4 0 ?_
  refine pop_field 1 fld43_1 b_4 0 ?_
  refine rop_loc one3 hL_8 0 rfl 1 (v := (VI t20_2)) rfl ?_
  have H := H b_4 h_8 (Nat.le_trans (Fr.size (Fr.r (In []) _)) hb_5) (Fr.new (Fr.no' (Fr.r (In []) _) hf_5) (Nat.le_trans (Fr.size (Fr.r (In []) _)) hb_5) hf_6) hL_8
  refine H.mono fun rv_3 h_10 H => ?_
  obtain ⟨t29_1, rfl, hL_10, H⟩ := H
  refine ⟨?_, ?_⟩
  ·exact still_loc one3 hL_10 0 rfl 1 (v := (VI t20_2)) rfl
  refine pop.mk' (v := (Value.agg #[(Sl.v t29_1), (VI t20_2)])) (fun w => by kernel_rfl) ?_
  refine uop_loc siz43 hL_10 1 rfl 0 [(Sl.v t29_1), (VI t20_2)] rfl rfl rfl (Nat.le_of_ble_eq_true rfl) (L' := [(b_4, [(Sl.v t20_1), (VI t20_2), (Sl.v t20_3), (Sl.v t20_4), (Sl.v t20_5)]), (b_3, [(Sl.v t29_1), (VI t20_2)]), (b_2, [(Sl.v w1_1), (VI w1_2)]), (b_1, [(Sl.v g0_1)])]) rfl (fun h_11 hf_8 hL_11 => ?_)
  refine rop_locA agg43 hL_11 1 rfl 0 (vs := [(Sl.v t29_1), (VI t20_2)]) rfl rfl ?_
  have H := H  h_11  (Fr.old (Fr.r (In []) _) hf_8) hL_11
  exact H
def u28 (P : Program) (g0_1 : Sl) (w1_1 : Sl) (w1_2 : Int) (n2_1 : Int) (h : Heap) (K : Value → Heap → Prop) : Prop :=
  ∀ (b_1 : Nat) (b_2 : Nat) (h_2 : Heap), h.size ≤ b_1 → h.size ≤ b_2 → Fr (In []) h h_2 → Vars h_2 [(b_2, [(Sl.v w1_1), (VI w1_2)]), (b_1, [(Sl.v g0_1)])] →
  callM P 68 #[(Value.agg #[(Sl.v g0_1)]), (Value.agg #[(Sl.v w1_1), (VI w1_2)]), (VI n2_1), (VI 200)] h_2 fun rv_1 h_3 => ∃ t13_1 : Bool, rv_1 = (VB t13_1) ∧ Vars h_3 [(b_2, [(Sl.v w1_1), (VI w1_2)]), (b_1, [(Sl.v g0_1)])] ∧
  ((!t13_1) = true →
  K (Value.tuple #[(Sl.v nilSl), (VB false)]) h_3) ∧
  ((!t13_1) = false →
  ∃ J_1 : Nat → Sl → Int → Nat → Sl → Heap → Prop, ((callM P 69 #[(Value.agg #[(Sl.v w1_1), (VI w1_2)])] h_3 fun rv_2 h_4 => ∃ t16_1 : Sl, ∃ t16_2 : Int, rv_2 = (Value.agg #[(Sl.v t16_1), (VI t16_2)]) ∧ Vars h_4 [(b_2, [(Sl.v w1_1), (VI w1_2)]), (b_1, [(Sl.v g0_1)])] ∧
  (eop P (Instr.buildSlice 34 1 #[(0, (VI w1_2))]) h_4 fun rv_3 h_5 => ∃ t19_1 : Sl, rv_3 = (Sl.v t19_1) ∧ Vars h_5 [(b_2, [(Sl.v w1_1), (VI w1_2)]), (b_1, [(Sl.v g0_1)])] ∧
  (∀ (b_5 : Nat) (b_6 : Nat) (h_9 : Heap), h_5.size ≤ b_5 → h_5.size ≤ b_6 → Fr (In []) h_5 h_9 → Vars h_9 [(b_6, [(Sl.v t19_1)]), (b_5, [(Sl.v t16_1), (VI t16_2)]), (b_2, [(Sl.v w1_1), (VI w1_2)]), (b_1, [(Sl.v g0_1)])] →
  J_1 b_5 t16_1 t16_2 b_6 t19_1 h_9) ∧
  (∀ (b_7 : Nat) (b_8 : Nat) (h_13 : Heap), h_5.size ≤ b_7 → h_5.size ≤ b_8 → Fr (In []) h_5 h_13 → Vars h_13 [(b_8, [(Sl.v t16_1), (VI t16_2)]), (b_7, [(Sl.v t19_1)]), (b_2, [(Sl.v w1_1), (VI w1_2)]), (b_1, [(Sl.v g0_1)])] →
  J_1 b_8 t16_1 t16_2 b_7 t19_1 h_13)) ∧
  (∀ (b_9 : Nat) (h_14 : Heap), h_4.size ≤ b_9 → Fr (In []) h_4 h_14 → Vars h_14 [(b_9, [(Sl.v nilSl), (VI 0)]), (b_2, [(Sl.v w1_1), (VI w1_2)]), (b_1, [(Sl.v g0_1)])] →
  (eop P (Instr.buildSlice 34 1 #[(0, (VI w1_2))]) h_14 fun rv_4 h_15 => ∃ t19_2 : Sl, rv_4 = (Sl.v t19_2) ∧ Vars h_15 [(b_9, [(Sl.v nilSl), (VI 0)]), (b_2, [(Sl.v w1_1), (VI w1_2)]), (b_1, [(Sl.v g0_1)])] ∧
  ∀ (b_10 : Nat) (h_18 : Heap), h_15.size ≤ b_10 → Fr (In [b_9]) h_15 h_18 → Vars h_18 [(b_10, [(Sl.v t19_2)]), (b_9, [(Sl.v t16_1), (VI t16_2)]), (b_2, [(Sl.v w1_1), (VI w1_2)]), (b_1, [(Sl.v g0_1)])] →
  J_1 b_9 t16_1 t16_2 b_10 t19_2 h_18) ∧
  (∀ (b_11 : Nat) (h_19 : Heap), h_14.size ≤ b_11 → Fr (In []) h_14 h_19 → Vars h_19 [(b_11, [(Sl.v nilSl)]), (b_9, [(Sl.v nilSl), (VI 0)]), (b_2, [(Sl.v w1_1), (VI w1_2)]), (b_1, [(Sl.v g0_1)])] →
  (eop P (Instr.buildSlice 34 1 #[(0, (VI w1_2))]) h_19 fun rv_5 h_20 => ∃ t19_3 : Sl, rv_5 = (Sl.v t19_3) ∧ Vars h_20 [(b_11, [(Sl.v nilSl)]), (b_9, [(Sl.v nilSl), (VI 0)]), (b_2, [(Sl.v w1_1), (VI w1_2)]), (b_1, [(Sl.v g0_1)])] ∧
  ∀ (h_22 : Heap), Fr (In [b_11, b_9]) h_20 h_22 → Vars h_22 [(b_11, [(Sl.v t19_3)]), (b_9, [(Sl.v t16_1), (VI t16_2)]), (b_2, [(Sl.v w1_1), (VI w1_2)]), (b_1, [(Sl.v g0_1)])] →
  J_1 b_9 t16_1 t16_2 b_11 t19_3 h_22) ∧
  (∀ (h_23 : Heap), Fr (In [b_9]) h_19 h_23 → Vars h_23 [(b_11, [(Sl.v nilSl)]), (b_9, [(Sl.v t16_1), (VI t16_2)]), (b_2, [(Sl.v w1_1), (VI w1_2)]), (b_1, [(Sl.v g0_1)])] →
  eop P (Instr.buildSlice 34 1 #[(0, (VI w1_2))]) h_23 fun rv_6 h_24 => ∃ t19_4 : Sl, rv_6 = (Sl.v t19_4) ∧ Vars h_24 [(b_11, [(Sl.v nilSl)]), (b_9, [(Sl.v t16_1), (VI t16_2)]), (b_2, [(Sl.v w1_1), (VI w1_2)]), (b_1, [(Sl.v g0_1)])] ∧
  ∀ (h_25 : Heap), Fr (In [b_11]) h_24 h_25 → Vars h_25 [(b_11, [(Sl.v t19_4)]), (b_9, [(Sl.v t16_1), (VI t16_2)]), (b_2, [(Sl.v w1_1), (VI w1_2)]), (b_1, [(Sl.v g0_1)])] →
  J_1 b_9 t16_1 t16_2 b_11 t19_4 h_25))) ∧
  (∀ (b_12 : Nat) (h_26 : Heap), h_4.size ≤ b_12 → Fr (In []) h_4 h_26 → Vars h_26 [(b_12, [(Sl.v nilSl)]), (b_2, [(Sl.v w1_1), (VI w1_2)]), (b_1, [(Sl.v g0_1)])] →
  (eop P (Instr.buildSlice 34 1 #[(0, (VI w1_2))]) h_26 fun rv_7 h_27 => ∃ t19_5 : Sl, rv_7 = (Sl.v t19_5) ∧ Vars h_27 [(b_12, [(Sl.v nilSl)]), (b_2, [(Sl.v w1_1), (VI w1_2)]), (b_1, [(Sl.v g0_1)])] ∧
  ∀ (b_13 : Nat) (h_30 : Heap), h_27.size ≤ b_13 → Fr (In [b_12]) h_27 h_30 → Vars h_30 [(b_13, [(Sl.v t16_1), (VI t16_2)]), (b_12, [(Sl.v t19_5)]), (b_2, [(Sl.v w1_1), (VI w1_2)]), (b_1, [(Sl.v g0_1)])] →
  J_1 b_13 t16_1 t16_2 b_12 t19_5 h_30) ∧
  (∀ (b_14 : Nat) (h_31 : Heap), h_26.size ≤ b_14 → Fr (In []) h_26 h_31 → Vars h_31 [(b_14, [(Sl.v nilSl), (VI 0)]), (b_12, [(Sl.v nilSl)]), (b_2, [(Sl.v w1_1), (VI w1_2)]), (b_1, [(Sl.v g0_1)])] →
  (eop P (Instr.buildSlice 34 1 #[(0, (VI w1_2))]) h_31 fun rv_8 h_32 => ∃ t19_6 : Sl, rv_8 = (Sl.v t19_6) ∧ Vars h_32 [(b_14, [(Sl.v nilSl), (VI 0)]), (b_12, [(Sl.v nilSl)]), (b_2, [(Sl.v w1_1), (VI w1_2)]), (b_1, [(Sl.v g0_1)])] ∧
  ∀ (h_34 : Heap), Fr (In [b_12, b_14]) h_32 h_34 → Vars h_34 [(b_14, [(Sl.v t16_1), (VI t16_2)]), (b_12, [(Sl.v t19_6)]), (b_2, [(Sl.v w1_1), (VI w1_2)]), (b_1, [(Sl.v g0_1)])] →
  J_1 b_14 t16_1 t16_2 b_12 t19_6 h_34) ∧
  (∀ (h_35 : Heap), Fr (In [b_14]) h_31 h_35 → Vars h_35 [(b_14, [(Sl.v t16_1), (VI t16_2)]), (b_12, [(Sl.v nilSl)]), (b_2, [(Sl.v w1_1), (VI w1_2)]), (b_1, [(Sl.v g0_1)])] →
  eop P (Instr.buildSlice 34 1 #[(0, (VI w1_2))]) h_35 fun rv_9 h_36 => ∃ t19_7 : Sl, rv_9 = (Sl.v t19_7) ∧ Vars h_36 [(b_14, [(Sl.v t16_1), (VI t16_2)]), (b_12, [(Sl.v nilSl)]), (b_2, [(Sl.v w1_1), (VI w1_2)]), (b_1, [(Sl.v g0_1)])] ∧
  ∀ (h_37 : Heap), Fr (In [b_12]) h_36 h_37 → Vars h_37 [(b_14, [(Sl.v t16_1), (VI t16_2)]), (b_12, [(Sl.v t19_7)]), (b_2, [(Sl.v w1_1), (VI w1_2)]), (b_1, [(Sl.v g0_1)])] →
  J_1 b_14 t16_1 t16_2 b_12 t19_7 h_37)))) ∧
  (eop P (Instr.buildSlice 34 1 #[(0, (VI w1_2))]) h_3 fun rv_10 h_38 => ∃ t19_8 : Sl, rv_10 = (Sl.v t19_8) ∧ Vars h_38 [(b_2, [(Sl.v w1_1), (VI w1_2)]), (b_1, [(Sl.v g0_1)])] ∧
  (callM P 69 #[(Value.agg #[(Sl.v w1_1), (VI w1_2)])] h_38 fun rv_11 h_39 => ∃ t16_3 : Sl, ∃ t16_4 : Int, rv_11 = (Value.agg #[(Sl.v t16_3), (VI t16_4)]) ∧ Vars h_39 [(b_2, [(Sl.v w1_1), (VI w1_2)]), (b_1, [(Sl.v g0_1)])] ∧
  (∀ (b_15 : Nat) (b_16 : Nat) (h_43 : Heap), h_39.size ≤ b_15 → h_39.size ≤ b_16 → Fr (In []) h_39 h_43 → Vars h_43 [(b_16, [(Sl.v t19_8)]), (b_15, [(Sl.v t16_3), (VI t16_4)]), (b_2, [(Sl.v w1_1), (VI w1_2)]), (b_1, [(Sl.v g0_1)])] →
  J_1 b_15 t16_3 t16_4 b_16 t19_8 h_43) ∧
  (∀ (b_17 : Nat) (b_18 : Nat) (h_47 : Heap), h_39.size ≤ b_17 → h_39.size ≤ b_18 → Fr (In []) h_39 h_47 → Vars h_47 [(b_18, [(Sl.v t16_3), (VI t16_4)]), (b_17, [(Sl.v t19_8)]), (b_2, [(Sl.v w1_1), (VI w1_2)]), (b_1, [(Sl.v g0_1)])] →
  J_1 b_18 t16_3 t16_4 b_17 t19_8 h_47)) ∧
  (∀ (b_19 : Nat) (h_48 : Heap), h_38.size ≤ b_19 → Fr (In []) h_38 h_48 → Vars h_48 [(b_19, [(Sl.v nilSl), (VI 0)]), (b_2, [(Sl.v w1_1), (VI w1_2)]), (b_1, [(Sl.v g0_1)])] →
  (callM P 69 #[(Value.agg #[(Sl.v w1_1), (VI w1_2)])] h_48 fun rv_12 h_49 => ∃ t16_5 : Sl, ∃ t16_6 : Int, rv_12 = (Value.agg #[(Sl.v t16_5), (VI t16_6)]) ∧ Vars h_49 [(b_19, [(Sl.v nilSl), (VI 0)]), (b_2, [(Sl.v w1_1), (VI w1_2)]), (b_1, [(Sl.v g0_1)])] ∧
  ∀ (b_20 : Nat) (h_52 : Heap), h_49.size ≤ b_20 → Fr (In [b_19]) h_49 h_52 → Vars h_52 [(b_20, [(Sl.v t19_8)]), (b_19, [(Sl.v t16_5), (VI t16_6)]), (b_2, [(Sl.v w1_1), (VI w1_2)]), (b_1, [(Sl.v g0_1)])] →
  J_1 b_19 t16_5 t16_6 b_20 t19_8 h_52) ∧
  (∀ (b_21 : Nat) (h_53 : Heap), h_48.size ≤ b_21 → Fr (In []) h_48 h_53 → Vars h_53 [(b_21, [(Sl.v nilSl)]), (b_19, [(Sl.v nilSl), (VI 0)]), (b_2, [(Sl.v w1_1), (VI w1_2)]), (b_1, [(Sl.v g0_1)])] →
  callM P 69 #[(Value.agg #[(Sl.v w1_1), (VI w1_2)])] h_53 fun rv_13 h_54 => ∃ t16_7 : Sl, ∃ t16_8 : Int, rv_13 = (Value.agg #[(Sl.v t16_7), (VI t16_8)]) ∧ Vars h_54 [(b_21, [(Sl.v nilSl)]), (b_19, [(Sl.v nilSl), (VI 0)]), (b_2, [(Sl.v w1_1), (VI w1_2)]), (b_1, [(Sl.v g0_1)])] ∧
  ∀ (h_56 : Heap), Fr (In [b_21, b_19]) h_54 h_56 → Vars h_56 [(b_21, [(Sl.v t19_8)]), (b_19, [(Sl.v t16_7), (VI t16_8)]), (b_2, [(Sl.v w1_1), (VI w1_2)]), (b_1, [(Sl.v g0_1)])] →
  J_1 b_19 t16_7 t16_8 b_21 t19_8 h_56)) ∧
  (∀ (b_22 : Nat) (h_57 : Heap), h_38.size ≤ b_22 → Fr (In []) h_38 h_57 → Vars h_57 [(b_22, [(Sl.v nilSl)]), (b_2, [(Sl.v w1_1), (VI w1_2)]), (b_1, [(Sl.v g0_1)])] →
  (callM P 69 #[(Value.agg #[(Sl.v w1_1), (VI w1_2)])] h_57 fun rv_14 h_58 => ∃ t16_9 : Sl, ∃ t16_10 : Int, rv_14 = (Value.agg #[(Sl.v t16_9), (VI t16_10)]) ∧ Vars h_58 [(b_22, [(Sl.v nilSl)]), (b_2, [(Sl.v w1_1), (VI w1_2)]), (b_1, [(Sl.v g0_1)])] ∧
  ∀ (b_23 : Nat) (h_61 : Heap), h_58.size ≤ b_23 → Fr (In [b_22]) h_58 h_61 → Vars h_61 [(b_23, [(Sl.v t16_9), (VI t16_10)]), (b_22, [(Sl.v t19_8)]), (b_2, [(Sl.v w1_1), (VI w1_2)]), (b_1, [(Sl.v g0_1)])] →
  J_1 b_23 t16_9 t16_10 b_22 t19_8 h_61) ∧
  (∀ (b_24 : Nat) (h_62 : Heap), h_57.size ≤ b_24 → Fr (In []) h_57 h_62 → Vars h_62 [(b_24, [(Sl.v nilSl), (VI 0)]), (b_22, [(Sl.v nilSl)]), (b_2, [(Sl.v w1_1), (VI w1_2)]), (b_1, [(Sl.v g0_1)])] →
  callM P 69 #[(Value.agg #[(Sl.v w1_1), (VI w1_2)])] h_62 fun rv_15 h_63 => ∃ t16_11 : Sl, ∃ t16_12 : Int, rv_15 = (Value.agg #[(Sl.v t16_11), (VI t16_12)]) ∧ Vars h_63 [(b_24, [(Sl.v nilSl), (VI 0)]), (b_22, [(Sl.v nilSl)]), (b_2, [(Sl.v w1_1), (VI w1_2)]), (b_1, [(Sl.v g0_1)])] ∧
  ∀ (h_65 : Heap), Fr (In [b_22, b_24]) h_63 h_65 → Vars h_65 [(b_24, [(Sl.v t16_11), (VI t16_12)]), (b_22, [(Sl.v t19_8)]), (b_2, [(Sl.v w1_1), (VI w1_2)]), (b_1, [(Sl.v g0_1)])] →
  J_1 b_24 t16_11 t16_12 b_22 t19_8 h_65))) ∧
  (∀ (b_25 : Nat) (h_66 : Heap), h_3.size ≤ b_25 → Fr (In []) h_3 h_66 → Vars h_66 [(b_25, [(Sl.v nilSl), (VI 0)]), (b_2, [(Sl.v w1_1), (VI w1_2)]), (b_1, [(Sl.v g0_1)])] →
  (callM P 69 #[(Value.agg #[(Sl.v w1_1), (VI w1_2)])] h_66 fun rv_16 h_67 => ∃ t16_13 : Sl, ∃ t16_14 : Int, rv_16 = (Value.agg #[(Sl.v t16_13), (VI t16_14)]) ∧ Vars h_67 [(b_25, [(Sl.v nilSl), (VI 0)]), (b_2, [(Sl.v w1_1), (VI w1_2)]), (b_1, [(Sl.v g0_1)])] ∧
  (eop P (Instr.buildSlice 34 1 #[(0, (VI w1_2))]) h_67 fun rv_17 h_68 => ∃ t19_9 : Sl, rv_17 = (Sl.v t19_9) ∧ Vars h_68 [(b_25, [(Sl.v nilSl), (VI 0)]), (b_2, [(Sl.v w1_1), (VI w1_2)]), (b_1, [(Sl.v g0_1)])] ∧
  ∀ (b_26 : Nat) (h_71 : Heap), h_68.size ≤ b_26 → Fr (In [b_25]) h_68 h_71 → Vars h_71 [(b_26, [(Sl.v t19_9)]), (b_25, [(Sl.v t16_13), (VI t16_14)]), (b_2, [(Sl.v w1_1), (VI w1_2)]), (b_1, [(Sl.v g0_1)])] →
  J_1 b_25 t16_13 t16_14 b_26 t19_9 h_71) ∧
  (∀ (b_27 : Nat) (h_72 : Heap), h_67.size ≤ b_27 → Fr (In []) h_67 h_72 → Vars h_72 [(b_27, [(Sl.v nilSl)]), (b_25, [(Sl.v nilSl), (VI 0)]), (b_2, [(Sl.v w1_1), (VI w1_2)]), (b_1, [(Sl.v g0_1)])] →
  (eop P (Instr.buildSlice 34 1 #[(0, (VI w1_2))]) h_72 fun rv_18 h_73 => ∃ t19_10 : Sl, rv_18 = (Sl.v t19_10) ∧ Vars h_73 [(b_27, [(Sl.v nilSl)]), (b_25, [(Sl.v nilSl), (VI 0)]), (b_2, [(Sl.v w1_1), (VI w1_2)]), (b_1, [(Sl.v g0_1)])] ∧
  ∀ (h_75 : Heap), Fr (In [b_27, b_25]) h_73 h_75 → Vars h_75 [(b_27, [(Sl.v t19_10)]), (b_25, [(Sl.v t16_13), (VI t16_14)]), (b_2, [(Sl.v w1_1), (VI w1_2)]), (b_1, [(Sl.v g0_1)])] →
  J_1 b_25 t16_13 t16_14 b_27 t19_10 h_75) ∧
  (∀ (h_76 : Heap), Fr (In [b_25]) h_72 h_76 → Vars h_76 [(b_27, [(Sl.v nilSl)]), (b_25, [(Sl.v t16_13), (VI t16_14)]), (b_2, [(Sl.v w1_1), (VI w1_2)]), (b_1, [(Sl.v g0_1)])] →
  eop P (Instr.buildSlice 34 1 #[(0, (VI w1_2))]) h_76 fun rv_19 h_77 => ∃ t19_11 : Sl, rv_19 = (Sl.v t19_11) ∧ Vars h_77 [(b_27, [(Sl.v nilSl)]), (b_25, [(Sl.v t16_13), (VI t16_14)]), (b_2, [(Sl.v w1_1), (VI w1_2)]), (b_1, [(Sl.v g0_1)])] ∧
  ∀ (h_78 : Heap), Fr (In [b_27]) h_77 h_78 → Vars h_78 [(b_27, [(Sl.v t19_11)]), (b_25, [(Sl.v t16_13), (VI t16_14)]), (b_2, [(Sl.v w1_1), (VI w1_2)]), (b_1, [(Sl.v g0_1)])] →
  J_1 b_25 t16_13 t16_14 b_27 t19_11 h_78))) ∧
  (eop P (Instr.buildSlice 34 1 #[(0, (VI w1_2))]) h_66 fun rv_20 h_79 => ∃ t19_12 : Sl, rv_20 = (Sl.v t19_12) ∧ Vars h_79 [(b_25, [(Sl.v nilSl), (VI 0)]), (b_2, [(Sl.v w1_1), (VI w1_2)]), (b_1, [(Sl.v g0_1)])] ∧
  (callM P 69 #[(Value.agg #[(Sl.v w1_1), (VI w1_2)])] h_79 fun rv_21 h_80 => ∃ t16_15 : Sl, ∃ t16_16 : Int, rv_21 = (Value.agg #[(Sl.v t16_15), (VI t16_16)]) ∧ Vars h_80 [(b_25, [(Sl.v nilSl), (VI 0)]), (b_2, [(Sl.v w1_1), (VI w1_2)]), (b_1, [(Sl.v g0_1)])] ∧
  ∀ (b_28 : Nat) (h_83 : Heap), h_80.size ≤ b_28 → Fr (In [b_25]) h_80 h_83 → Vars h_83 [(b_28, [(Sl.v t19_12)]), (b_25, [(Sl.v t16_15), (VI t16_16)]), (b_2, [(Sl.v w1_1), (VI w1_2)]), (b_1, [(Sl.v g0_1)])] →
  J_1 b_25 t16_15 t16_16 b_28 t19_12 h_83) ∧
  (∀ (b_29 : Nat) (h_84 : Heap), h_79.size ≤ b_29 → Fr (In []) h_79 h_84 → Vars h_84 [(b_29, [(Sl.v nilSl)]), (b_25, [(Sl.v nilSl), (VI 0)]), (b_2, [(Sl.v w1_1), (VI w1_2)]), (b_1, [(Sl.v g0_1)])] →
  callM P 69 #[(Value.agg #[(Sl.v w1_1), (VI w1_2)])] h_84 fun rv_22 h_85 => ∃ t16_17 : Sl, ∃ t16_18 : Int, rv_22 = (Value.agg #[(Sl.v t16_17), (VI t16_18)]) ∧ Vars h_85 [(b_29, [(Sl.v nilSl)]), (b_25, [(Sl.v nilSl), (VI 0)]), (b_2, [(Sl.v w1_1), (VI w1_2)]), (b_1, [(Sl.v g0_1)])] ∧
  ∀ (h_87 : Heap), Fr (In [b_29, b_25]) h_85 h_87 → Vars h_87 [(b_29, [(Sl.v t19_12)]), (b_25, [(Sl.v t16_17), (VI t16_18)]), (b_2, [(Sl.v w1_1), (VI w1_2)]), (b_1, [(Sl.v g0_1)])] →
  J_1 b_25 t16_17 t16_18 b_29 t19_12 h_87)) ∧
  (∀ (b_30 : Nat) (h_88 : Heap), h_66.size ≤ b_30 → Fr (In []) h_66 h_88 → Vars h_88 [(b_30, [(Sl.v nilSl)]), (b_25, [(Sl.v nilSl), (VI 0)]), (b_2, [(Sl.v w1_1), (VI w1_2)]), (b_1, [(Sl.v g0_1)])] →
  (callM P 69 #[(Value.agg #[(Sl.v w1_1), (VI w1_2)])] h_88 fun rv_23 h_89 => ∃ t16_19 : Sl, ∃ t16_20 : Int, rv_23 = (Value.agg #[(Sl.v t16_19), (VI t16_20)]) ∧ Vars h_89 [(b_30, [(Sl.v nilSl)]), (b_25, [(Sl.v nilSl), (VI 0)]), (b_2, [(Sl.v w1_1), (VI w1_2)]), (b_1, [(Sl.v g0_1)])] ∧
  (eop P (Instr.buildSlice 34 1 #[(0, (VI w1_2))]) h_89 fun rv_24 h_90 => ∃ t19_13 : Sl, rv_24 = (Sl.v t19_13) ∧ Vars h_90 [(b_30, [(Sl.v nilSl)]), (b_25, [(Sl.v nilSl), (VI 0)]), (b_2, [(Sl.v w1_1), (VI w1_2)]), (b_1, [(Sl.v g0_1)])] ∧
  ∀ (h_92 : Heap), Fr (In [b_30, b_25]) h_90 h_92 → Vars h_92 [(b_30, [(Sl.v t19_13)]), (b_25, [(Sl.v t16_19), (VI t16_20)]), (b_2, [(Sl.v w1_1), (VI w1_2)]), (b_1, [(Sl.v g0_1)])] →
  J_1 b_25 t16_19 t16_20 b_30 t19_13 h_92) ∧
  (∀ (h_93 : Heap), Fr (In [b_25]) h_89 h_93 → Vars h_93 [(b_30, [(Sl.v nilSl)]), (b_25, [(Sl.v t16_19), (VI t16_20)]), (b_2, [(Sl.v w1_1), (VI w1_2)]), (b_1, [(Sl.v g0_1)])] →
  eop P (Instr.buildSlice 34 1 #[(0, (VI w1_2))]) h_93 fun rv_25 h_94 => ∃ t19_14 : Sl, rv_25 = (Sl.v t19_14) ∧ Vars h_94 [(b_30, [(Sl.v nilSl)]), (b_25, [(Sl.v t16_19), (VI t16_20)]), (b_2, [(Sl.v w1_1), (VI w1_2)]), (b_1, [(Sl.v g0_1)])] ∧
  ∀ (h_95 : Heap), Fr (In [b_30]) h_94 h_95 → Vars h_95 [(b_30, [(Sl.v t19_14)]), (b_25, [(Sl.v t16_19), (VI t16_20)]), (b_2, [(Sl.v w1_1), (VI w1_2)]), (b_1, [(Sl.v g0_1)])] →
  J_1 b_25 t16_19 t16_20 b_30 t19_14 h_95)) ∧
  (eop P (Instr.buildSlice 34 1 #[(0, (VI w1_2))]) h_88 fun rv_26 h_96 => ∃ t19_15 : Sl, rv_26 = (Sl.v t19_15) ∧ Vars h_96 [(b_30, [(Sl.v nilSl)]), (b_25, [(Sl.v nilSl), (VI 0)]), (b_2, [(Sl.v w1_1), (VI w1_2)]), (b_1, [(Sl.v g0_1)])] ∧
  callM P 69 #[(Value.agg #[(Sl.v w1_1), (VI w1_2)])] h_96 fun rv_27 h_97 => ∃ t16_21 : Sl, ∃ t16_22 : Int, rv_27 = (Value.agg #[(Sl.v t16_21), (VI t16_22)]) ∧ Vars h_97 [(b_30, [(Sl.v nilSl)]), (b_25, [(Sl.v nilSl), (VI 0)]), (b_2, [(Sl.v w1_1), (VI w1_2)]), (b_1, [(Sl.v g0_1)])] ∧
  ∀ (h_99 : Heap), Fr (In [b_30, b_25]) h_97 h_99 → Vars h_99 [(b_30, [(Sl.v t19_15)]), (b_25, [(Sl.v t16_21), (VI t16_22)]), (b_2, [(Sl.v w1_1), (VI w1_2)]), (b_1, [(Sl.v g0_1)])] →
  J_1 b_25 t16_21 t16_22 b_30 t19_15 h_99))) ∧
  (∀ (b_31 : Nat) (h_100 : Heap), h_3.size ≤ b_31 → Fr (In []) h_3 h_100 → Vars h_100 [(b_31, [(Sl.v nilSl)]), (b_2, [(Sl.v w1_1), (VI w1_2)]), (b_1, [(Sl.v g0_1)])] →
  (callM P 69 #[(Value.agg #[(Sl.v w1_1), (VI w1_2)])] h_100 fun rv_28 h_101 => ∃ t16_23 : Sl, ∃ t16_24 : Int, rv_28 = (Value.agg #[(Sl.v t16_23), (VI t16_24)]) ∧ Vars h_101 [(b_31, [(Sl.v nilSl)]), (b_2, [(Sl.v w1_1), (VI w1_2)]), (b_1, [(Sl.v g0_1)])] ∧
  (eop P (Instr.buildSlice 34 1 #[(0, (VI w1_2))]) h_101 fun rv_29 h_102 => ∃ t19_16 : Sl, rv_29 = (Sl.v t19_16) ∧ Vars h_102 [(b_31, [(Sl.v nilSl)]), (b_2, [(Sl.v w1_1), (VI w1_2)]), (b_1, [(Sl.v g0_1)])] ∧
  ∀ (b_32 : Nat) (h_105 : Heap), h_102.size ≤ b_32 → Fr (In [b_31]) h_102 h_105 → Vars h_105 [(b_32, [(Sl.v t16_23), (VI t16_24)]), (b_31, [(Sl.v t19_16)]), (b_2, [(Sl.v w1_1), (VI w1_2)]), (b_1, [(Sl.v g0_1)])] →
  J_1 b_32 t16_23 t16_24 b_31 t19_16 h_105) ∧
  (∀ (b_33 : Nat) (h_106 : Heap), h_101.size ≤ b_33 → Fr (In []) h_101 h_106 → Vars h_106 [(b_33, [(Sl.v nilSl), (VI 0)]), (b_31, [(Sl.v nilSl)]), (b_2, [(Sl.v w1_1), (VI w1_2)]), (b_1, [(Sl.v g0_1)])] →
  (eop P (Instr.buildSlice 34 1 #[(0, (VI w1_2))]) h_106 fun rv_30 h_107 => ∃ t19_17 : Sl, rv_30 = (Sl.v t19_17) ∧ Vars h_107 [(b_33, [(Sl.v nilSl), (VI 0)]), (b_31, [(Sl.v nilSl)]), (b_2, [(Sl.v w1_1), (VI w1_2)]), (b_1, [(Sl.v g0_1)])] ∧
  ∀ (h_109 : Heap), Fr (In [b_31, b_33]) h_107 h_109 → Vars h_109 [(b_33, [(Sl.v t16_23), (VI t16_24)]), (b_31, [(Sl.v t19_17)]), (b_2, [(Sl.v w1_1), (VI w1_2)]), (b_1, [(Sl.v g0_1)])] →
  J_1 b_33 t16_23 t16_24 b_31 t19_17 h_109) ∧
  (∀ (h_110 : Heap), Fr (In [b_33]) h_106 h_110 → Vars h_110 [(b_33, [(Sl.v t16_23), (VI t16_24)]), (b_31, [(Sl.v nilSl)]), (b_2, [(Sl.v w1_1), (VI w1_2)]), (b_1, [(Sl.v g0_1)])] →
  eop P (Instr.buildSlice 34 1 #[(0, (VI w1_2))]) h_110 fun rv_31 h_111 => ∃ t19_18 : Sl, rv_31 = (Sl.v t19_18) ∧ Vars h_111 [(b_33, [(Sl.v t16_23), (VI t16_24)]), (b_31, [(Sl.v nilSl)]), (b_2, [(Sl.v w1_1), (VI w1_2)]), (b_1, [(Sl.v g0_1)])] ∧
  ∀ (h_112 : Heap), Fr (In [b_31]) h_111 h_112 → Vars h_112 [(b_33, [(Sl.v t16_23), (VI t16_24)]), (b_31, [(Sl.v t19_18)]), (b_2, [(Sl.v w1_1), (VI w1_2)]), (b_1, [(Sl.v g0_1)])] →
  J_1 b_33 t16_23 t16_24 b_31 t19_18 h_112))) ∧
  (eop P (Instr.buildSlice 34 1 #[(0, (VI w1_2))]) h_100 fun rv_32 h_113 => ∃ t19_19 : Sl, rv_32 = (Sl.v t19_19) ∧ Vars h_113 [(b_31, [(Sl.v nilSl)]), (b_2, [(Sl.v w1_1), (VI w1_2)]), (b_1, [(Sl.v g0_1)])] ∧
  (callM P 69 #[(Value.agg #[(Sl.v w1_1), (VI w1_2)])] h_113 fun rv_33 h_114 => ∃ t16_25 : Sl, ∃ t16_26 : Int, rv_33 = (Value.agg #[(Sl.v t16_25), (VI t16_26)]) ∧ Vars h_114 [(b_31, [(Sl.v nilSl)]), (b_2, [(Sl.v w1_1), (VI w1_2)]), (b_1, [(Sl.v g0_1)])] ∧
  ∀ (b_34 : Nat) (h_117 : Heap), h_114.size ≤ b_34 → Fr (In [b_31]) h_114 h_117 → Vars h_117 [(b_34, [(Sl.v t16_25), (VI t16_26)]), (b_31, [(Sl.v t19_19)]), (b_2, [(Sl.v w1_1), (VI w1_2)]), (b_1, [(Sl.v g0_1)])] →
  J_1 b_34 t16_25 t16_26 b_31 t19_19 h_117) ∧
  (∀ (b_35 : Nat) (h_118 : Heap), h_113.size ≤ b_35 → Fr (In []) h_113 h_118 → Vars h_118 [(b_35, [(Sl.v nilSl), (VI 0)]), (b_31, [(Sl.v nilSl)]), (b_2, [(Sl.v w1_1), (VI w1_2)]), (b_1, [(Sl.v g0_1)])] →
  callM P 69 #[(Value.agg #[(Sl.v w1_1), (VI w1_2)])] h_118 fun rv_34 h_119 => ∃ t16_27 : Sl, ∃ t16_28 : Int, rv_34 = (Value.agg #[(Sl.v t16_27), (VI t16_28)]) ∧ Vars h_119 [(b_35, [(Sl.v nilSl), (VI 0)]), (b_31, [(Sl.v nilSl)]), (b_2, [(Sl.v w1_1), (VI w1_2)]), (b_1, [(Sl.v g0_1)])] ∧
  ∀ (h_121 : Heap), Fr (In [b_31, b_35]) h_119 h_121 → Vars h_121 [(b_35, [(Sl.v t16_27), (VI t16_28)]), (b_31, [(Sl.v t19_19)]), (b_2, [(Sl.v w1_1), (VI w1_2)]), (b_1, [(Sl.v g0_1)])] →
  J_1 b_35 t16_27 t16_28 b_31 t19_19 h_121)) ∧
  (∀ (b_36 : Nat) (h_122 : Heap), h_100.size ≤ b_36 → Fr (In []) h_100 h_122 → Vars h_122 [(b_36, [(Sl.v nilSl), (VI 0)]), (b_31, [(Sl.v nilSl)]), (b_2, [(Sl.v w1_1), (VI w1_2)]), (b_1, [(Sl.v g0_1)])] →
  (callM P 69 #[(Value.agg #[(Sl.v w1_1), (VI w1_2)])] h_122 fun rv_35 h_123 => ∃ t16_29 : Sl, ∃ t16_30 : Int, rv_35 = (Value.agg #[(Sl.v t16_29), (VI t16_30)]) ∧ Vars h_123 [(b_36, [(Sl.v nilSl), (VI 0)]), (b_31, [(Sl.v nilSl)]), (b_2, [(Sl.v w1_1), (VI w1_2)]), (b_1, [(Sl.v g0_1)])] ∧
  (eop P (Instr.buildSlice 34 1 #[(0, (VI w1_2))]) h_123 fun rv_36 h_124 => ∃ t19_20 : Sl, rv_36 = (Sl.v t19_20) ∧ Vars h_124 [(b_36, [(Sl.v nilSl), (VI 0)]), (b_31, [(Sl.v nilSl)]), (b_2, [(Sl.v w1_1), (VI w1_2)]), (b_1, [(Sl.v g0_1)])] ∧
  ∀ (h_126 : Heap), Fr (In [b_31, b_36]) h_124 h_126 → Vars h_126 [(b_36, [(Sl.v t16_29), (VI t16_30)]), (b_31, [(Sl.v t19_20)]), (b_2, [(Sl.v w1_1), (VI w1_2)]), (b_1, [(Sl.v g0_1)])] →
  J_1 b_36 t16_29 t16_30 b_31 t19_20 h_126) ∧
  (∀ (h_127 : Heap), Fr (In [b_36]) h_123 h_127 → Vars h_127 [(b_36, [(Sl.v t16_29), (VI t16_30)]), (b_31, [(Sl.v nilSl)]), (b_2, [(Sl.v w1_1), (VI w1_2)]), (b_1, [(Sl.v g0_1)])] →
  eop P (Instr.buildSlice 34 1 #[(0, (VI w1_2))]) h_127 fun rv_37 h_128 => ∃ t19_21 : Sl, rv_37 = (Sl.v t19_21) ∧ Vars h_128 [(b_36, [(Sl.v t16_29), (VI t16_30)]), (b_31, [(Sl.v nilSl)]), (b_2, [(Sl.v w1_1), (VI w1_2)]), (b_1, [(Sl.v g0_1)])] ∧
  ∀ (h_129 : Heap), Fr (In [b_31]) h_128 h_129 → Vars h_129 [(b_36, [(Sl.v t16_29), (VI t16_30)]), (b_31, [(Sl.v t19_21)]), (b_2, [(Sl.v w1_1), (VI w1_2)]), (b_1, [(Sl.v g0_1)])] →
  J_1 b_36 t16_29 t16_30 b_31 t19_21 h_129)) ∧
  (eop P (Instr.buildSlice 34 1 #[(0, (VI w1_2))]) h_122 fun rv_38 h_130 => ∃ t19_22 : Sl, rv_38 = (Sl.v t19_22) ∧ Vars h_130 [(b_36, [(Sl.v nilSl), (VI 0)]), (b_31, [(Sl.v nilSl)]), (b_2, [(Sl.v w1_1), (VI w1_2)]), (b_1, [(Sl.v g0_1)])] ∧
  callM P 69 #[(Value.agg #[(Sl.v w1_1), (VI w1_2)])] h_130 fun rv_39 h_131 => ∃ t16_31 : Sl, ∃ t16_32 : Int, rv_39 = (Value.agg #[(Sl.v t16_31), (VI t16_32)]) ∧ Vars h_131 [(b_36, [(Sl.v nilSl), (VI 0)]), (b_31, [(Sl.v nilSl)]), (b_2, [(Sl.v w1_1), (VI w1_2)]), (b_1, [(Sl.v g0_1)])] ∧
  ∀ (h_133 : Heap), Fr (In [b_31, b_36]) h_131 h_133 → Vars h_133 [(b_36, [(Sl.v t16_31), (VI t16_32)]), (b_31, [(Sl.v t19_22)]), (b_2, [(Sl.v w1_1), (VI w1_2)]), (b_1, [(Sl.v g0_1)])] →
  J_1 b_36 t16_31 t16_32 b_31 t19_22 h_133)))) ∧
  ∀ (b_3 : Nat) (x_1 : Sl) (x_2 : Int) (b_4 : Nat) (x_3 : Sl) (h_134 : Heap), J_1 b_3 x_1 x_2 b_4 x_3 h_134 → Vars h_134 [(b_4, [(Sl.v x_3)]), (b_3, [(Sl.v x_1), (VI x_2)]), (b_2, [(Sl.v w1_1), (VI w1_2)]), (b_1, [(Sl.v g0_1)])] →
  callM P 71 #[(Value.agg #[(Sl.v g0_1)]), (VP b_3 0), (VI n2_1), (Value.func (Fn.func 78) #[] #[(VP b_4 0), (VP b_3 0)])] h_134 fun rv_40 h_135 => ∃ x_4 : Sl, ∃ x_5 : Sl, ∃ x_6 : Int, ∃ t23_1 : Bool, rv_40 = (VB t23_1) ∧ Vars h_135 [(b_4, [(Sl.v x_4)]), (b_3, [(Sl.v x_5), (VI x_6)]), (b_2, [(Sl.v w1_1), (VI w1_2)]), (b_1, [(Sl.v g0_1)])] ∧
  ((!t23_1) = true →
  K (Value.tuple #[(Sl.v nilSl), (VB false)]) h_135) ∧
  ((!t23_1) = false →
  K (Value.tuple #[(Sl.v x_4), (VB true)]) h_135))
theorem v28 (g0_1 : Sl) (w1_1 : Sl) (w1_2 : Int) (n2_1 : Int) (h : Heap) (K : Value → Heap → Prop) (H : u28 Tryd.prog g0_1 w1_1 w1_2 n2_1 h K) : callM Tryd.prog 28 #[(Value.agg #[(Sl.v g0_1)]), (Value.agg #[(Sl.v w1_1), (VI w1_2)]), (VI n2_1)] h K := by
  refine c28 (Value.agg #[(Sl.v g0_1)]) (Value.agg #[(Sl.v w1_1), (VI w1_2)]) (VI n2_1) h K ?_
  unfold u28 at H
  unfold t28
  have hL : Vars h [] := .nil
  refine eop_box 41 (Value.agg #[(Sl.v g0_1)]) rfl hL (fun b_1 h_1 hb_1 hf_1 hL_1 => ?_)
  refine eop_box 43 (Value.agg #[(Sl.v w1_1), (VI w1_2)]) rfl hL_1 (fun b_2 h_2 hb_2 hf_2 hL_2 => ?_)
  refine rop_locA agg41 hL_2 1 rfl 0 (vs := [(Sl.v g0_1)]) rfl rfl ?_
  refine rop_locA agg43 hL_2 0 rfl 0 (vs := [(Sl.v w1_1), (VI w1_2)]) rfl rfl ?_
  have H := H b_1 b_2 h_2 (Nat.le_trans (Fr.size (Fr.r (In []) _)) hb_1) (Nat.le_trans (Fr.size (Fr.no' (Fr.r (In []) _) hf_1)) hb_2) (Fr.no' (Fr.no' (Fr.r (In []) _) hf_1) hf_2) hL_2
  refine H.mono fun rv_1 h_3 H => ?_
  obtain ⟨t13_1, rfl, hL_3, H⟩ := H
  refine pop_not t13_1 ?_
  refine condM_b (fun hb_3 => ?_) (fun hb_3 => ?_)
  ·have H := H.1 hb_3
   exact H
  have H := H.2 hb_3
  obtain ⟨J_1, H, HB_1⟩ := H
  refine ⟨fun (vs : List Value) (h' : Heap) => ∃ b_3 : Nat, ∃ x_1 : Sl, ∃ x_2 : Int, ∃ b_4 : Nat, ∃ x_3 : Sl, vs = [(VP b_3 0), (VP b_4 0)] ∧ J_1 b_3 x_1 x_2 b_4 x_3 h' ∧ Vars h' [(b_4, [(Sl.v x_3)]), (b_3, [(Sl.v x_1), (VI x_2)]), (b_2, [(Sl.v w1_1), (VI w1_2)]), (b_1, [(Sl.v g0_1)])], ?_, ?_⟩
  ·refine rop_locA agg43 hL_3 0 rfl 0 (vs := [(Sl.v w1_1), (VI w1_2)]) rfl rfl ?_
   refine pop_field 1 fld43_1 b_2 0 ?_
   refine rop_loc one3 hL_3 0 rfl 1 (v := (VI w1_2)) rfl ?_
   refine ⟨?_, ?_, ?_, ?_⟩
   ·have H := H.1
    refine H.mono fun rv_2 h_4 H => ?_
    obtain ⟨t16_1, t16_2, rfl, hL_4, H⟩ := H
    refine ⟨?_, ?_⟩
    ·exact still_loc one3 hL_4 0 rfl 1 (v := (VI w1_2)) rfl
    refine ⟨?_, ?_, ?_⟩
    ·have H := H.1
     refine H.mono fun rv_3 h_5 H => ?_
     obtain ⟨t19_1, rfl, hL_5, H⟩ := H
     refine ⟨?_, ?_⟩
     ·have H := H.1
      refine eop_alloc 43 zer43 rfl hL_5 (fun b_5 h_6 hb_4 hf_3 hL_6 => ?_)
      refine eop_alloc 34 zer34 rfl hL_6 (fun b_6 h_7 hb_5 hf_4 hL_7 => ?_)
      refine uop_loc siz43 hL_7 1 rfl 0 [(Sl.v t16_1), (VI t16_2)] rfl rfl rfl (Nat.le_of_ble_eq_true rfl) (L' := [(b_6, [(Sl.v nilSl)]), (b_5, [(Sl.v t16_1), (VI t16_2)]), (b_2, [(Sl.v w1_1), (VI w1_2)]), (b_1, [(Sl.v g0_1)])]) rfl (fun h_8 hf_5 hL_8 => ?_)
      refine uop_loc siz34 hL_8 0 rfl 0 [(Sl.v t19_1)] rfl rfl rfl (Nat.le_of_ble_eq_true rfl) (L' := [(b_6, [(Sl.v t19_1)]), (b_5, [(Sl.v t16_1), (VI t16_2)]), (b_2, [(Sl.v w1_1), (VI w1_2)]), (b_1, [(Sl.v g0_1)])]) rfl (fun h_9 hf_6 hL_9 => ?_)
      have H := H b_5 b_6 h_9 (Nat.le_trans (Fr.size (Fr.r (In []) _)) hb_4) (Nat.le_trans (Fr.size (Fr.no' (Fr.r (In []) _) hf_3)) hb_5) (Fr.new (Fr.new (Fr.no' (Fr.no' (Fr.r (In []) _) hf_3) hf_4) (Nat.le_trans (Fr.size (Fr.r (In []) _)) hb_4) hf_5) (Nat.le_trans (Fr.size (Fr.no' (Fr.r (In []) _) hf_3)) hb_5) hf_6) hL_9
      exact ⟨b_5, t16_1, t16_2, b_6, t19_1, rfl, H, hL_9⟩
     have H := H.2
     refine eop_alloc 34 zer34 rfl hL_5 (fun b_7 h_10 hb_6 hf_7 hL_10 => ?_)
     refine eop_alloc 43 zer43 rfl hL_10 (fun b_8 h_11 hb_7 hf_8 hL_11 => ?_)
     refine uop_loc siz43 hL_11 0 rfl 0 [(Sl.v t16_1), (VI t16_2)] rfl rfl rfl (Nat.le_of_ble_eq_true rfl) (L' := [(b_8, [(Sl.v t16_1), (VI t16_2)]), (b_7, [(Sl.v nilSl)]), (b_2, [(Sl.v w1_1), (VI w1_2)]), (b_1, [(Sl.v g0_1)])]) rfl (fun h_12 hf_9 hL_12 => ?_)
     refine uop_loc siz34 hL_12 1 rfl 0 [(Sl.v t19_1)] rfl rfl rfl (Nat.le_of_ble_eq_true rfl) (L' := [(b_8, [(Sl.v t16_1), (VI t16_2)]), (b_7, [(Sl.v t19_1)]), (b_2, [(Sl.v w1_1), (VI w1_2)]), (b_1, [(Sl.v g0_1)])]) rfl (fun h_13 hf_10 hL_13 => ?_)
     have H := H b_7 b_8 h_13 (Nat.le_trans (Fr.size (Fr.r (In []) _)) hb_6) (Nat.le_trans (Fr.size (Fr.no' (Fr.r (In []) _) hf_7)) hb_7) (Fr.new (Fr.new (Fr.no' (Fr.no' (Fr.r (In []) _) hf_7) hf_8) (Nat.le_trans (Fr.size (Fr.no' (Fr.r (In []) _) hf_7)) hb_7) hf_9) (Nat.le_trans (Fr.size (Fr.r (In []) _)) hb_6) hf_10) hL_13
     exact ⟨b_8, t16_1, t16_2, b_7, t19_1, rfl, H, Vars.pick hL_13 [1, 0, 2, 3] rfl⟩
    ·have H := H.2.1
     refine eop_alloc 43 zer43 rfl hL_4 (fun b_9 h_14 hb_8 hf_11 hL_14 => ?_)
     have H := H b_9 h_14 (Nat.le_trans (Fr.size (Fr.r (In []) _)) hb_8) (Fr.no' (Fr.r (In []) _) hf_11) hL_14
     refine ⟨?_, ?_⟩
     ·exact still_loc one3 hL_14 1 rfl 1 (v := (VI w1_2)) rfl
     refine ⟨?_, ?_⟩
     ·have H := H.1
      refine H.mono fun rv_4 h_15 H => ?_
      obtain ⟨t19_2, rfl, hL_15, H⟩ := H
      refine eop_alloc 34 zer34 rfl hL_15 (fun b_10 h_16 hb_9 hf_12 hL_16 => ?_)
      refine uop_loc siz43 hL_16 1 rfl 0 [(Sl.v t16_1), (VI t16_2)] rfl rfl rfl (Nat.le_of_ble_eq_true rfl) (L' := [(b_10, [(Sl.v nilSl)]), (b_9, [(Sl.v t16_1), (VI t16_2)]), (b_2, [(Sl.v w1_1), (VI w1_2)]), (b_1, [(Sl.v g0_1)])]) rfl (fun h_17 hf_13 hL_17 => ?_)
      refine uop_loc siz34 hL_17 0 rfl 0 [(Sl.v t19_2)] rfl rfl rfl (Nat.le_of_ble_eq_true rfl) (L' := [(b_10, [(Sl.v t19_2)]), (b_9, [(Sl.v t16_1), (VI t16_2)]), (b_2, [(Sl.v w1_1), (VI w1_2)]), (b_1, [(Sl.v g0_1)])]) rfl (fun h_18 hf_14 hL_18 => ?_)
      have H := H b_10 h_18 (Nat.le_trans (Fr.size (Fr.r (In []) _)) hb_9) (Fr.new (Fr.old (Fr.no' (Fr.r (In []) _) hf_12) hf_13) (Nat.le_trans (Fr.size (Fr.r (In []) _)) hb_9) hf_14) hL_18
      exact ⟨b_9, t16_1, t16_2, b_10, t19_2, rfl, H, hL_18⟩
     have H := H.2
     refine eop_alloc 34 zer34 rfl hL_14 (fun b_11 h_19 hb_10 hf_15 hL_19 => ?_)
     have H := H b_11 h_19 (Nat.le_trans (Fr.size (Fr.r (In []) _)) hb_10) (Fr.no' (Fr.r (In []) _) hf_15) hL_19
     refine ⟨?_, ?_⟩
     ·exact still_loc one3 hL_19 2 rfl 1 (v := (VI w1_2)) rfl
     refine ⟨?_, ?_⟩
     ·have H := H.1
      refine H.mono fun rv_5 h_20 H => ?_
      obtain ⟨t19_3, rfl, hL_20, H⟩ := H
      refine uop_loc siz43 hL_20 1 rfl 0 [(Sl.v t16_1), (VI t16_2)] rfl rfl rfl (Nat.le_of_ble_eq_true rfl) (L' := [(b_11, [(Sl.v nilSl)]), (b_9, [(Sl.v t16_1), (VI t16_2)]), (b_2, [(Sl.v w1_1), (VI w1_2)]), (b_1, [(Sl.v g0_1)])]) rfl (fun h_21 hf_16 hL_21 => ?_)
      refine uop_loc siz34 hL_21 0 rfl 0 [(Sl.v t19_3)] rfl rfl rfl (Nat.le_of_ble_eq_true rfl) (L' := [(b_11, [(Sl.v t19_3)]), (b_9, [(Sl.v t16_1), (VI t16_2)]), (b_2, [(Sl.v w1_1), (VI w1_2)]), (b_1, [(Sl.v g0_1)])]) rfl (fun h_22 hf_17 hL_22 => ?_)
      have H := H  h_22  (Fr.old (Fr.old (Fr.r (In []) _) hf_16) hf_17) hL_22
      exact ⟨b_9, t16_1, t16_2, b_11, t19_3, rfl, H, hL_22⟩
     have H := H.2
     refine uop_loc siz43 hL_19 1 rfl 0 [(Sl.v t16_1), (VI t16_2)] rfl rfl rfl (Nat.le_of_ble_eq_true rfl) (L' := [(b_11, [(Sl.v nilSl)]), (b_9, [(Sl.v t16_1), (VI t16_2)]), (b_2, [(Sl.v w1_1), (VI w1_2)]), (b_1, [(Sl.v g0_1)])]) rfl (fun h_23 hf_18 hL_23 => ?_)
     have H := H  h_23  (Fr.old (Fr.r (In []) _) hf_18) hL_23
     refine ⟨?_, ?_⟩
     ·exact still_loc one3 hL_23 2 rfl 1 (v := (VI w1_2)) rfl
     refine H.mono fun rv_6 h_24 H => ?_
     obtain ⟨t19_4, rfl, hL_24, H⟩ := H
     refine uop_loc siz34 hL_24 0 rfl 0 [(Sl.v t19_4)] rfl rfl rfl (Nat.le_of_ble_eq_true rfl) (L' := [(b_11, [(Sl.v t19_4)]), (b_9, [(Sl.v t16_1), (VI t16_2)]), (b_2, [(Sl.v w1_1), (VI w1_2)]), (b_1, [(Sl.v g0_1)])]) rfl (fun h_25 hf_19 hL_25 => ?_)
     have H := H  h_25  (Fr.old (Fr.r (In []) _) hf_19) hL_25
     exact ⟨b_9, t16_1, t16_2, b_11, t19_4, rfl, H, hL_25⟩
    have H := H.2.2
    refine eop_alloc 34 zer34 rfl hL_4 (fun b_12 h_26 hb_11 hf_20 hL_26 => ?_)
    have H := H b_12 h_26 (Nat.le_trans (Fr.size (Fr.r (In []) _)) hb_11) (Fr.no' (Fr.r (In []) _) hf_20) hL_26
    refine ⟨?_, ?_⟩
    ·exact still_loc one3 hL_26 1 rfl 1 (v := (VI w1_2)) rfl
    refine ⟨?_, ?_⟩
    ·have H := H.1
     refine H.mono fun rv_7 h_27 H => ?_
     obtain ⟨t19_5, rfl, hL_27, H⟩ := H
     refine eop_alloc 43 zer43 rfl hL_27 (fun b_13 h_28 hb_12 hf_21 hL_28 => ?_)
     refine uop_loc siz43 hL_28 0 rfl 0 [(Sl.v t16_1), (VI t16_2)] rfl rfl rfl (Nat.le_of_ble_eq_true rfl) (L' := [(b_13, [(Sl.v t16_1), (VI t16_2)]), (b_12, [(Sl.v nilSl)]), (b_2, [(Sl.v w1_1), (VI w1_2)]), (b_1, [(Sl.v g0_1)])]) rfl (fun h_29 hf_22 hL_29 => ?_)
     refine uop_loc siz34 hL_29 1 rfl 0 [(Sl.v t19_5)] rfl rfl rfl (Nat.le_of_ble_eq_true rfl) (L' := [(b_13, [(Sl.v t16_1), (VI t16_2)]), (b_12, [(Sl.v t19_5)]), (b_2, [(Sl.v w1_1), (VI w1_2)]), (b_1, [(Sl.v g0_1)])]) rfl (fun h_30 hf_23 hL_30 => ?_)
     have H := H b_13 h_30 (Nat.le_trans (Fr.size (Fr.r (In []) _)) hb_12) (Fr.old (Fr.new (Fr.no' (Fr.r (In []) _) hf_21) (Nat.le_trans (Fr.size (Fr.r (In []) _)) hb_12) hf_22) hf_23) hL_30
     exact ⟨b_13, t16_1, t16_2, b_12, t19_5, rfl, H, Vars.pick hL_30 [1, 0, 2, 3] rfl⟩
    have H := H.2
    refine eop_alloc 43 zer43 rfl hL_26 (fun b_14 h_31 hb_13 hf_24 hL_31 => ?_)
    have H := H b_14 h_31 (Nat.le_trans (Fr.size (Fr.r (In []) _)) hb_13) (Fr.no' (Fr.r (In []) _) hf_24) hL_31
    refine ⟨?_, ?_⟩
    ·exact still_loc one3 hL_31 2 rfl 1 (v := (VI w1_2)) rfl
    refine ⟨?_, ?_⟩
    ·have H := H.1
     refine H.mono fun rv_8 h_32 H => ?_
     obtain ⟨t19_6, rfl, hL_32, H⟩ := H
     refine uop_loc siz43 hL_32 0 rfl 0 [(Sl.v t16_1), (VI t16_2)] rfl rfl rfl (Nat.le_of_ble_eq_true rfl) (L' := [(b_14, [(Sl.v t16_1), (VI t16_2)]), (b_12, [(Sl.v nilSl)]), (b_2, [(Sl.v w1_1), (VI w1_2)]), (b_1, [(Sl.v g0_1)])]) rfl (fun h_33 hf_25 hL_33 => ?_)
     refine uop_loc siz34 hL_33 1 rfl 0 [(Sl.v t19_6)] rfl rfl rfl (Nat.le_of_ble_eq_true rfl) (L' := [(b_14, [(Sl.v t16_1), (VI t16_2)]), (b_12, [(Sl.v t19_6)]), (b_2, [(Sl.v w1_1), (VI w1_2)]), (b_1, [(Sl.v g0_1)])]) rfl (fun h_34 hf_26 hL_34 => ?_)
     have H := H  h_34  (Fr.old (Fr.old (Fr.r (In []) _) hf_25) hf_26) hL_34
     exact ⟨b_14, t16_1, t16_2, b_12, t19_6, rfl, H, Vars.pick hL_34 [1, 0, 2, 3] rfl⟩
    have H := H.2
    refine uop_loc siz43 hL_31 0 rfl 0 [(Sl.v t16_1), (VI t16_2)] rfl rfl rfl (Nat.le_of_ble_eq_true rfl) (L' := [(b_14, [(Sl.v t16_1), (VI t16_2)]), (b_12, [(Sl.v nilSl)]), (b_2, [(Sl.v w1_1), (VI w1_2)]), (b_1, [(Sl.v g0_1)])]) rfl (fun h_35 hf_27 hL_35 => ?_)
    have H := H  h_35  (Fr.old (Fr.r (In []) _) hf_27) hL_35
    refine ⟨?_, ?_⟩
    ·exact still_loc one3 hL_35 2 rfl 1 (v := (VI w1_2)) rfl
    refine H.mono fun rv_9 h_36 H => ?_
    obtain ⟨t19_7, rfl, hL_36, H⟩ := H
    refine uop_loc siz34 hL_36 1 rfl 0 [(Sl.v t19_7)] rfl rfl rfl (Nat.le_of_ble_eq_true rfl) (L' := [(b_14, [(Sl.v t16_1), (VI t16_2)]), (b_12, [(Sl.v t19_7)]), (b_2, [(Sl.v w1_1), (VI w1_2)]), (b_1, [(Sl.v g0_1)])]) rfl (fun h_37 hf_28 hL_37 => ?_)
    have H := H  h_37  (Fr.old (Fr.r (In []) _) hf_28) hL_37
    exact ⟨b_14, t16_1, t16_2, b_12, t19_7, rfl, H, Vars.pick hL_37 [1, 0, 2, 3] rfl⟩
   ·have H := H.2.1
    refine H.mono fun rv_10 h_38 H => ?_
    obtain ⟨t19_8, rfl, hL_38, H⟩ := H
    refine ⟨?_, ?_⟩
    ·exact still_locA agg43 hL_38 0 rfl 0 (vs := [(Sl.v w1_1), (VI w1_2)]) rfl rfl
    refine ⟨?_, ?_, ?_⟩
    ·have H := H.1
     refine H.mono fun rv_11 h_39 H => ?_
     obtain ⟨t16_3, t16_4, rfl, hL_39, H⟩ := H
     refine ⟨?_, ?_⟩
     ·have H := H.1
      refine eop_alloc 43 zer43 rfl hL_39 (fun b_15 h_40 hb_14 hf_29 hL_40 => ?_)
      refine eop_alloc 34 zer34 rfl hL_40 (fun b_16 h_41 hb_15 hf_30 hL_41 => ?_)
      refine uop_loc siz43 hL_41 1 rfl 0 [(Sl.v t16_3), (VI t16_4)] rfl rfl rfl (Nat.le_of_ble_eq_true rfl) (L' := [(b_16, [(Sl.v nilSl)]), (b_15, [(Sl.v t16_3), (VI t16_4)]), (b_2, [(Sl.v w1_1), (VI w1_2)]), (b_1, [(Sl.v g0_1)])]) rfl (fun h_42 hf_31 hL_42 => ?_)
      refine uop_loc siz34 hL_42 0 rfl 0 [(Sl.v t19_8)] rfl rfl rfl (Nat.le_of_ble_eq_true rfl) (L' := [(b_16, [(Sl.v t19_8)]), (b_15, [(Sl.v t16_3), (VI t16_4)]), (b_2, [(Sl.v w1_1), (VI w1_2)]), (b_1, [(Sl.v g0_1)])]) rfl (fun h_43 hf_32 hL_43 => ?_)
      have H := H b_15 b_16 h_43 (Nat.le_trans (Fr.size (Fr.r (In []) _)) hb_14) (Nat.le_trans (Fr.size (Fr.no' (Fr.r (In []) _) hf_29)) hb_15) (Fr.new (Fr.new (Fr.no' (Fr.no' (Fr.r (In []) _) hf_29) hf_30) (Nat.le_trans (Fr.size (Fr.r (In []) _)) hb_14) hf_31) (Nat.le_trans (Fr.size (Fr.no' (Fr.r (In []) _) hf_29)) hb_15) hf_32) hL_43
      exact ⟨b_15, t16_3, t16_4, b_16, t19_8, rfl, H, hL_43⟩
     have H := H.2
     refine eop_alloc 34 zer34 rfl hL_39 (fun b_17 h_44 hb_16 hf_33 hL_44 => ?_)
     refine eop_alloc 43 zer43 rfl hL_44 (fun b_18 h_45 hb_17 hf_34 hL_45 => ?_)
     refine uop_loc siz43 hL_45 0 rfl 0 [(Sl.v t16_3), (VI t16_4)] rfl rfl rfl (Nat.le_of_ble_eq_true rfl) (L' := [(b_18, [(Sl.v t16_3), (VI t16_4)]), (b_17, [(Sl.v nilSl)]), (b_2, [(Sl.v w1_1), (VI w1_2)]), (b_1, [(Sl.v g0_1)])]) rfl (fun h_46 hf_35 hL_46 => ?_)
     refine uop_loc siz34 hL_46 1 rfl 0 [(Sl.v t19_8)] rfl rfl rfl (Nat.le_of_ble_eq_true rfl) (L' := [(b_18, [(Sl.v t16_3), (VI t16_4)]), (b_17, [(Sl.v t19_8)]), (b_2, [(Sl.v w1_1), (VI w1_2)]), (b_1, [(Sl.v g0_1)])]) rfl (fun h_47 hf_36 hL_47 => ?_)
     have H := H b_17 b_18 h_47 (Nat.le_trans (Fr.size (Fr.r (In []) _)) hb_16) (Nat.le_trans (Fr.size (Fr.no' (Fr.r (In []) _) hf_33)) hb_17) (Fr.new (Fr.new (Fr.no' (Fr.no' (Fr.r (In []) _) hf_33) hf_34) (Nat.le_trans (Fr.size (Fr.no' (Fr.r (In []) _) hf_33)) hb_17) hf_35) (Nat.le_trans (Fr.size (Fr.r (In []) _)) hb_16) hf_36) hL_47
     exact ⟨b_18, t16_3, t16_4, b_17, t19_8, rfl, H, Vars.pick hL_47 [1, 0, 2, 3] rfl⟩
    ·have H := H.2.1
     refine eop_alloc 43 zer43 rfl hL_38 (fun b_19 h_48 hb_18 hf_37 hL_48 => ?_)
     have H := H b_19 h_48 (Nat.le_trans (Fr.size (Fr.r (In []) _)) hb_18) (Fr.no' (Fr.r (In []) _) hf_37) hL_48
     refine ⟨?_, ?_⟩
     ·exact still_locA agg43 hL_48 1 rfl 0 (vs := [(Sl.v w1_1), (VI w1_2)]) rfl rfl
     refine ⟨?_, ?_⟩
     ·have H := H.1
      refine H.mono fun rv_12 h_49 H => ?_
      obtain ⟨t16_5, t16_6, rfl, hL_49, H⟩ := H
      refine eop_alloc 34 zer34 rfl hL_49 (fun b_20 h_50 hb_19 hf_38 hL_50 => ?_)
      refine uop_loc siz43 hL_50 1 rfl 0 [(Sl.v t16_5), (VI t16_6)] rfl rfl rfl (Nat.le_of_ble_eq_true rfl) (L' := [(b_20, [(Sl.v nilSl)]), (b_19, [(Sl.v t16_5), (VI t16_6)]), (b_2, [(Sl.v w1_1), (VI w1_2)]), (b_1, [(Sl.v g0_1)])]) rfl (fun h_51 hf_39 hL_51 => ?_)
      refine uop_loc siz34 hL_51 0 rfl 0 [(Sl.v t19_8)] rfl rfl rfl (Nat.le_of_ble_eq_true rfl) (L' := [(b_20, [(Sl.v t19_8)]), (b_19, [(Sl.v t16_5), (VI t16_6)]), (b_2, [(Sl.v w1_1), (VI w1_2)]), (b_1, [(Sl.v g0_1)])]) rfl (fun h_52 hf_40 hL_52 => ?_)
      have H := H b_20 h_52 (Nat.le_trans (Fr.size (Fr.r (In []) _)) hb_19) (Fr.new (Fr.old (Fr.no' (Fr.r (In []) _) hf_38) hf_39) (Nat.le_trans (Fr.size (Fr.r (In []) _)) hb_19) hf_40) hL_52
      exact ⟨b_19, t16_5, t16_6, b_20, t19_8, rfl, H, hL_52⟩
     have H := H.2
     refine eop_alloc 34 zer34 rfl hL_48 (fun b_21 h_53 hb_20 hf_41 hL_53 => ?_)
     have H := H b_21 h_53 (Nat.le_trans (Fr.size (Fr.r (In []) _)) hb_20) (Fr.no' (Fr.r (In []) _) hf_41) hL_53
     refine ⟨?_, ?_⟩
     ·exact still_locA agg43 hL_53 2 rfl 0 (vs := [(Sl.v w1_1), (VI w1_2)]) rfl rfl
     refine H.mono fun rv_13 h_54 H => ?_
     obtain ⟨t16_7, t16_8, rfl, hL_54, H⟩ := H
     refine uop_loc siz43 hL_54 1 rfl 0 [(Sl.v t16_7), (VI t16_8)] rfl rfl rfl (Nat.le_of_ble_eq_true rfl) (L' := [(b_21, [(Sl.v nilSl)]), (b_19, [(Sl.v t16_7), (VI t16_8)]), (b_2, [(Sl.v w1_1), (VI w1_2)]), (b_1, [(Sl.v g0_1)])]) rfl (fun h_55 hf_42 hL_55 => ?_)
     refine uop_loc siz34 hL_55 0 rfl 0 [(Sl.v t19_8)] rfl rfl rfl (Nat.le_of_ble_eq_true rfl) (L' := [(b_21, [(Sl.v t19_8)]), (b_19, [(Sl.v t16_7), (VI t16_8)]), (b_2, [(Sl.v w1_1), (VI w1_2)]), (b_1, [(Sl.v g0_1)])]) rfl (fun h_56 hf_43 hL_56 => ?_)
     have H := H  h_56  (Fr.old (Fr.old (Fr.r (In []) _) hf_42) hf_43) hL_56
     exact ⟨b_19, t16_7, t16_8, b_21, t19_8, rfl, H, hL_56⟩
    have H := H.2.2
    refine eop_alloc 34 zer34 rfl hL_38 (fun b_22 h_57 hb_21 hf_44 hL_57 => ?_)
    have H := H b_22 h_57 (Nat.le_trans (Fr.size (Fr.r (In []) _)) hb_21) (Fr.no' (Fr.r (In []) _) hf_44) hL_57
    refine ⟨?_, ?_⟩
    ·exact still_locA agg43 hL_57 1 rfl 0 (vs := [(Sl.v w1_1), (VI w1_2)]) rfl rfl
    refine ⟨?_, ?_⟩
    ·have H := H.1
     refine H.mono fun rv_14 h_58 H => ?_
     obtain ⟨t16_9, t16_10, rfl, hL_58, H⟩ := H
     refine eop_alloc 43 zer43 rfl hL_58 (fun b_23 h_59 hb_22 hf_45 hL_59 => ?_)
     refine uop_loc siz43 hL_59 0 rfl 0 [(Sl.v t16_9), (VI t16_10)] rfl rfl rfl (Nat.le_of_ble_eq_true rfl) (L' := [(b_23, [(Sl.v t16_9), (VI t16_10)]), (b_22, [(Sl.v nilSl)]), (b_2, [(Sl.v w1_1), (VI w1_2)]), (b_1, [(Sl.v g0_1)])]) rfl (fun h_60 hf_46 hL_60 => ?_)
     refine uop_loc siz34 hL_60 1 rfl 0 [(Sl.v t19_8)] rfl rfl rfl (Nat.le_of_ble_eq_true rfl) (L' := [(b_23, [(Sl.v t16_9), (VI t16_10)]), (b_22, [(Sl.v t19_8)]), (b_2, [(Sl.v w1_1), (VI w1_2)]), (b_1, [(Sl.v g0_1)])]) rfl (fun h_61 hf_47 hL_61 => ?_)
     have H := H b_23 h_61 (Nat.le_trans (Fr.size (Fr.r (In []) _)) hb_22) (Fr.old (Fr.new (Fr.no' (Fr.r (In []) _) hf_45) (Nat.le_trans (Fr.size (Fr.r (In []) _)) hb_22) hf_46) hf_47) hL_61
     exact ⟨b_23, t16_9, t16_10, b_22, t19_8, rfl, H, Vars.pick hL_61 [1, 0, 2, 3] rfl⟩
    have H := H.2
    refine eop_alloc 43 zer43 rfl hL_57 (fun b_24 h_62 hb_23 hf_48 hL_62 => ?_)
    have H := H b_24 h_62 (Nat.le_trans (Fr.size (Fr.r (In []) _)) hb_23) (Fr.no' (Fr.r (In []) _) hf_48) hL_62
    refine ⟨?_, ?_⟩
    ·exact still_locA agg43 hL_62 2 rfl 0 (vs := [(Sl.v w1_1), (VI w1_2)]) rfl rfl
    refine H.mono fun rv_15 h_63 H => ?_
    obtain ⟨t16_11, t16_12, rfl, hL_63, H⟩ := H
    refine uop_loc siz43 hL_63 0 rfl 0 [(Sl.v t16_11), (VI t16_12)] rfl rfl rfl (Nat.le_of_ble_eq_true rfl) (L' := [(b_24, [(Sl.v t16_11), (VI t16_12)]), (b_22, [(Sl.v nilSl)]), (b_2, [(Sl.v w1_1), (VI w1_2)]), (b_1, [(Sl.v g0_1)])]) rfl (fun h_64 hf_49 hL_64 => ?_)
    refine uop_loc siz34 hL_64 1 rfl 0 [(Sl.v t19_8)] rfl rfl rfl (Nat.le_of_ble_eq_true rfl) (L' := [(b_24, [(Sl.v t16_11), (VI t16_12)]), (b_22, [(Sl.v t19_8)]), (b_2, [(Sl.v w1_1), (VI w1_2)]), (b_1, [(Sl.v g0_1)])]) rfl (fun h_65 hf_50 hL_65 => ?_)
    have H := H  h_65  (Fr.old (Fr.old (Fr.r (In []) _) hf_49) hf_50) hL_65
    exact ⟨b_24, t16_11, t16_12, b_22, t19_8, rfl, H, Vars.pick hL_65 [1, 0, 2, 3] rfl⟩
   ·have H := H.2.2.1
    refine eop_alloc 43 zer43 rfl hL_3 (fun b_25 h_66 hb_24 hf_51 hL_66 => ?_)
    have H := H b_25 h_66 (Nat.le_trans (Fr.size (Fr.r (In []) _)) hb_24) (Fr.no' (Fr.r (In []) _) hf_51) hL_66
    refine ⟨?_, ?_⟩
    ·exact still_loc one3 hL_66 1 rfl 1 (v := (VI w1_2)) rfl
    refine ⟨?_, ?_⟩
    ·exact still_locA agg43 hL_66 1 rfl 0 (vs := [(Sl.v w1_1), (VI w1_2)]) rfl rfl
    refine ⟨?_, ?_, ?_⟩
    ·have H := H.1
     refine H.mono fun rv_16 h_67 H => ?_
     obtain ⟨t16_13, t16_14, rfl, hL_67, H⟩ := H
     refine ⟨?_, ?_⟩
     ·exact still_loc one3 hL_67 1 rfl 1 (v := (VI w1_2)) rfl
     refine ⟨?_, ?_⟩
     ·have H := H.1
      refine H.mono fun rv_17 h_68 H => ?_
      obtain ⟨t19_9, rfl, hL_68, H⟩ := H
      refine eop_alloc 34 zer34 rfl hL_68 (fun b_26 h_69 hb_25 hf_52 hL_69 => ?_)
      refine uop_loc siz43 hL_69 1 rfl 0 [(Sl.v t16_13), (VI t16_14)] rfl rfl rfl (Nat.le_of_ble_eq_true rfl) (L' := [(b_26, [(Sl.v nilSl)]), (b_25, [(Sl.v t16_13), (VI t16_14)]), (b_2, [(Sl.v w1_1), (VI w1_2)]), (b_1, [(Sl.v g0_1)])]) rfl (fun h_70 hf_53 hL_70 => ?_)
      refine uop_loc siz34 hL_70 0 rfl 0 [(Sl.v t19_9)] rfl rfl rfl (Nat.le_of_ble_eq_true rfl) (L' := [(b_26, [(Sl.v t19_9)]), (b_25, [(Sl.v t16_13), (VI t16_14)]), (b_2, [(Sl.v w1_1), (VI w1_2)]), (b_1, [(Sl.v g0_1)])]) rfl (fun h_71 hf_54 hL_71 => ?_)
      have H := H b_26 h_71 (Nat.le_trans (Fr.size (Fr.r (In []) _)) hb_25) (Fr.new (Fr.old (Fr.no' (Fr.r (In []) _) hf_52) hf_53) (Nat.le_trans (Fr.size (Fr.r (In []) _)) hb_25) hf_54) hL_71
      exact ⟨b_25, t16_13, t16_14, b_26, t19_9, rfl, H, hL_71⟩
     have H := H.2
     refine eop_alloc 34 zer34 rfl hL_67 (fun b_27 h_72 hb_26 hf_55 hL_72 => ?_)
     have H := H b_27 h_72 (Nat.le_trans (Fr.size (Fr.r (In []) _)) hb_26) (Fr.no' (Fr.r (In []) _) hf_55) hL_72
     refine ⟨?_, ?_⟩
     ·exact still_loc one3 hL_72 2 rfl 1 (v := (VI w1_2)) rfl
     refine ⟨?_, ?_⟩
     ·have H := H.1
      refine H.mono fun rv_18 h_73 H => ?_
      obtain ⟨t19_10, rfl, hL_73, H⟩ := H
      refine uop_loc siz43 hL_73 1 rfl 0 [(Sl.v t16_13), (VI t16_14)] rfl rfl rfl (Nat.le_of_ble_eq_true rfl) (L' := [(b_27, [(Sl.v nilSl)]), (b_25, [(Sl.v t16_13), (VI t16_14)]), (b_2, [(Sl.v w1_1), (VI w1_2)]), (b_1, [(Sl.v g0_1)])]) rfl (fun h_74 hf_56 hL_74 => ?_)
      refine uop_loc siz34 hL_74 0 rfl 0 [(Sl.v t19_10)] rfl rfl rfl (Nat.le_of_ble_eq_true rfl) (L' := [(b_27, [(Sl.v t19_10)]), (b_25, [(Sl.v t16_13), (VI t16_14)]), (b_2, [(Sl.v w1_1), (VI w1_2)]), (b_1, [(Sl.v g0_1)])]) rfl (fun h_75 hf_57 hL_75 => ?_)
      have H := H  h_75  (Fr.old (Fr.old (Fr.r (In []) _) hf_56) hf_57) hL_75
      exact ⟨b_25, t16_13, t16_14, b_27, t19_10, rfl, H, hL_75⟩
     have H := H.2
     refine uop_loc siz43 hL_72 1 rfl 0 [(Sl.v t16_13), (VI t16_14)] rfl rfl rfl (Nat.le_of_ble_eq_true rfl) (L' := [(b_27, [(Sl.v nilSl)]), (b_25, [(Sl.v t16_13), (VI t16_14)]), (b_2, [(Sl.v w1_1), (VI w1_2)]), (b_1, [(Sl.v g0_1)])]) rfl (fun h_76 hf_58 hL_76 => ?_)
     have H := H  h_76  (Fr.old (Fr.r (In []) _) hf_58) hL_76
     refine ⟨?_, ?_⟩
     ·exact still_loc one3 hL_76 2 rfl 1 (v := (VI w1_2)) rfl
     refine H.mono fun rv_19 h_77 H => ?_
     obtain ⟨t19_11, rfl, hL_77, H⟩ := H
     refine uop_loc siz34 hL_77 0 rfl 0 [(Sl.v t19_11)] rfl rfl rfl (Nat.le_of_ble_eq_true rfl) (L' := [(b_27, [(Sl.v t19_11)]), (b_25, [(Sl.v t16_13), (VI t16_14)]), (b_2, [(Sl.v w1_1), (VI w1_2)]), (b_1, [(Sl.v g0_1)])]) rfl (fun h_78 hf_59 hL_78 => ?_)
     have H := H  h_78  (Fr.old (Fr.r (In []) _) hf_59) hL_78
     exact ⟨b_25, t16_13, t16_14, b_27, t19_11, rfl, H, hL_78⟩
    ·have H := H.2.1
     refine H.mono fun rv_20 h_79 H => ?_
     obtain ⟨t19_12, rfl, hL_79, H⟩ := H
     refine ⟨?_, ?_⟩
     ·exact still_locA agg43 hL_79 1 rfl 0 (vs := [(Sl.v w1_1), (VI w1_2)]) rfl rfl
     refine ⟨?_, ?_⟩
     ·have H := H.1
      refine H.mono fun rv_21 h_80 H => ?_
      obtain ⟨t16_15, t16_16, rfl, hL_80, H⟩ := H
      refine eop_alloc 34 zer34 rfl hL_80 (fun b_28 h_81 hb_27 hf_60 hL_81 => ?_)
      refine uop_loc siz43 hL_81 1 rfl 0 [(Sl.v t16_15), (VI t16_16)] rfl rfl rfl (Nat.le_of_ble_eq_true rfl) (L' := [(b_28, [(Sl.v nilSl)]), (b_25, [(Sl.v t16_15), (VI t16_16)]), (b_2, [(Sl.v w1_1), (VI w1_2)]), (b_1, [(Sl.v g0_1)])]) rfl (fun h_82 hf_61 hL_82 => ?_)
      refine uop_loc siz34 hL_82 0 rfl 0 [(Sl.v t19_12)] rfl rfl rfl (Nat.le_of_ble_eq_true rfl) (L' := [(b_28, [(Sl.v t19_12)]), (b_25, [(Sl.v t16_15), (VI t16_16)]), (b_2, [(Sl.v w1_1), (VI w1_2)]), (b_1, [(Sl.v g0_1)])]) rfl (fun h_83 hf_62 hL_83 => ?_)
      have H := H b_28 h_83 (Nat.le_trans (Fr.size (Fr.r (In []) _)) hb_27) (Fr.new (Fr.old (Fr.no' (Fr.r (In []) _) hf_60) hf_61) (Nat.le_trans (Fr.size (Fr.r (In []) _)) hb_27) hf_62) hL_83
      exact ⟨b_25, t16_15, t16_16, b_28, t19_12, rfl, H, hL_83⟩
     have H := H.2
     refine eop_alloc 34 zer34 rfl hL_79 (fun b_29 h_84 hb_28 hf_63 hL_84 => ?_)
     have H := H b_29 h_84 (Nat.le_trans (Fr.size (Fr.r (In []) _)) hb_28) (Fr.no' (Fr.r (In []) _) hf_63) hL_84
     refine ⟨?_, ?_⟩
     ·exact still_locA agg43 hL_84 2 rfl 0 (vs := [(Sl.v w1_1), (VI w1_2)]) rfl rfl
     refine H.mono fun rv_22 h_85 H => ?_
     obtain ⟨t16_17, t16_18, rfl, hL_85, H⟩ := H
     refine uop_loc siz43 hL_85 1 rfl 0 [(Sl.v t16_17), (VI t16_18)] rfl rfl rfl (Nat.le_of_ble_eq_true rfl) (L' := [(b_29, [(Sl.v nilSl)]), (b_25, [(Sl.v t16_17), (VI t16_18)]), (b_2, [(Sl.v w1_1), (VI w1_2)]), (b_1, [(Sl.v g0_1)])]) rfl (fun h_86 hf_64 hL_86 => ?_)
     refine uop_loc siz34 hL_86 0 rfl 0 [(Sl.v t19_12)] rfl rfl rfl (Nat.le_of_ble_eq_true rfl) (L' := [(b_29, [(Sl.v t19_12)]), (b_25, [(Sl.v t16_17), (VI t16_18)]), (b_2, [(Sl.v w1_1), (VI w1_2)]), (b_1, [(Sl.v g0_1)])]) rfl (fun h_87 hf_65 hL_87 => ?_)
     have H := H  h_87  (Fr.old (Fr.old (Fr.r (In []) _) hf_64) hf_65) hL_87
     exact ⟨b_25, t16_17, t16_18, b_29, t19_12, rfl, H, hL_87⟩
    have H := H.2.2
    refine eop_alloc 34 zer34 rfl hL_66 (fun b_30 h_88 hb_29 hf_66 hL_88 => ?_)
    have H := H b_30 h_88 (Nat.le_trans (Fr.size (Fr.r (In []) _)) hb_29) (Fr.no' (Fr.r (In []) _) hf_66) hL_88
    refine ⟨?_, ?_⟩
    ·exact still_loc one3 hL_88 2 rfl 1 (v := (VI w1_2)) rfl
    refine ⟨?_, ?_⟩
    ·exact still_locA agg43 hL_88 2 rfl 0 (vs := [(Sl.v w1_1), (VI w1_2)]) rfl rfl
    refine ⟨?_, ?_⟩
    rotate_left
    ·have H := H.2
     refine H.mono fun rv_26 h_96 H => ?_
     obtain ⟨t19_15, rfl, hL_96, H⟩ := H
     refine ⟨?_, ?_⟩
     ·exact still_locA agg43 hL_96 2 rfl 0 (vs := [(Sl.v w1_1), (VI w1_2)]) rfl rfl
     refine H.mono fun rv_27 h_97 H => ?_
     obtain ⟨t16_21, t16_22, rfl, hL_97, H⟩ := H
     refine uop_loc siz43 hL_97 1 rfl 0 [(Sl.v t16_21), (VI t16_22)] rfl rfl rfl (Nat.le_of_ble_eq_true rfl) (L' := [(b_30, [(Sl.v nilSl)]), (b_25, [(Sl.v t16_21), (VI t16_22)]), (b_2, [(Sl.v w1_1), (VI w1_2)]), (b_1, [(Sl.v g0_1)])]) rfl (fun h_98 hf_71 hL_98 => ?_)
     refine uop_loc siz34 hL_98 0 rfl 0 [(Sl.v t19_15)] rfl rfl rfl (Nat.le_of_ble_eq_true rfl) (L' := [(b_30, [(Sl.v t19_15)]), (b_25, [(Sl.v t16_21), (VI t16_22)]), (b_2, [(Sl.v w1_1), (VI w1_2)]), (b_1, [(Sl.v g0_1)])]) rfl (fun h_99 hf_72 hL_99 => ?_)
     have H := H  h_99  (Fr.old (Fr.old (Fr.r (In []) _) hf_71) hf_72) hL_99
     exact ⟨b_25, t16_21, t16_22, b_30, t19_15, rfl, H, hL_99⟩
    have H := H.1
    refine H.mono fun rv_23 h_89 H => ?_
    obtain ⟨t16_19, t16_20, rfl, hL_89, H⟩ := H
    refine ⟨?_, ?_⟩
    ·exact still_loc one3 hL_89 2 rfl 1 (v := (VI w1_2)) rfl
    refine ⟨?_, ?_⟩
    ·have H := H.1
     refine H.mono fun rv_24 h_90 H => ?_
     obtain ⟨t19_13, rfl, hL_90, H⟩ := H
     refine uop_loc siz43 hL_90 1 rfl 0 [(Sl.v t16_19), (VI t16_20)] rfl rfl rfl (Nat.le_of_ble_eq_true rfl) (L' := [(b_30, [(Sl.v nilSl)]), (b_25, [(Sl.v t16_19), (VI t16_20)]), (b_2, [(Sl.v w1_1), (VI w1_2)]), (b_1, [(Sl.v g0_1)])]) rfl (fun h_91 hf_67 hL_91 => ?_)
     refine uop_loc siz34 hL_91 0 rfl 0 [(Sl.v t19_13)] rfl rfl rfl (Nat.le_of_ble_eq_true rfl) (L' := [(b_30, [(Sl.v t19_13)]), (b_25, [(Sl.v t16_19), (VI t16_20)]), (b_2, [(Sl.v w1_1), (VI w1_2)]), (b_1, [(Sl.v g0_1)])]) rfl (fun h_92 hf_68 hL_92 => ?_)
     have H := H  h_92  (Fr.old (Fr.old (Fr.r (In []) _) hf_67) hf_68) hL_92
     exact ⟨b_25, t16_19, t16_20, b_30, t19_13, rfl, H, hL_92⟩
    have H := H.2
    refine uop_loc siz43 hL_89 1 rfl 0 [(Sl.v t16_19), (VI t16_20)] rfl rfl rfl (Nat.le_of_ble_eq_true rfl) (L' := [(b_30, [(Sl.v nilSl)]), (b_25, [(Sl.v t16_19), (VI t16_20)]), (b_2, [(Sl.v w1_1), (VI w1_2)]), (b_1, [(Sl.v g0_1)])]) rfl (fun h_93 hf_69 hL_93 => ?_)
    have H := H  h_93  (Fr.old (Fr.r (In []) _) hf_69) hL_93
    refine ⟨?_, ?_⟩
    ·exact still_loc one3 hL_93 2 rfl 1 (v := (VI w1_2)) rfl
    refine H.mono fun rv_25 h_94 H => ?_
    obtain ⟨t19_14, rfl, hL_94, H⟩ := H
    refine uop_loc siz34 hL_94 0 rfl 0 [(Sl.v t19_14)] rfl rfl rfl (Nat.le_of_ble_eq_true rfl) (L' := [(b_30, [(Sl.v t19_14)]), (b_25, [(Sl.v t16_19), (VI t16_20)]), (b_2, [(Sl.v w1_1), (VI w1_2)]), (b_1, [(Sl.v g0_1)])]) rfl (fun h_95 hf_70 hL_95 => ?_)
    have H := H  h_95  (Fr.old (Fr.r (In []) _) hf_70) hL_95
    exact ⟨b_25, t16_19, t16_20, b_30, t19_14, rfl, H, hL_95⟩
   have H := H.2.2.2
   refine eop_alloc 34 zer34 rfl hL_3 (fun b_31 h_100 hb_30 hf_73 hL_100 => ?_)
   have H := H b_31 h_100 (Nat.le_trans (Fr.size (Fr.r (In []) _)) hb_30) (Fr.no' (Fr.r (In []) _) hf_73) hL_100
   refine ⟨?_, ?_⟩
   ·exact still_loc one3 hL_100 1 rfl 1 (v := (VI w1_2)) rfl
   refine ⟨?_, ?_⟩
   ·exact still_locA agg43 hL_100 1 rfl 0 (vs := [(Sl.v w1_1), (VI w1_2)]) rfl rfl
   refine ⟨?_, ?_, ?_⟩
   ·have H := H.1
    refine H.mono fun rv_28 h_101 H => ?_
    obtain ⟨t16_23, t16_24, rfl, hL_101, H⟩ := H
    refine ⟨?_, ?_⟩
    ·exact still_loc one3 hL_101 1 rfl 1 (v := (VI w1_2)) rfl
    refine ⟨?_, ?_⟩
    ·have H := H.1
     refine H.mono fun rv_29 h_102 H => ?_
     obtain ⟨t19_16, rfl, hL_102, H⟩ := H
     refine eop_alloc 43 zer43 rfl hL_102 (fun b_32 h_103 hb_31 hf_74 hL_103 => ?_)
     refine uop_loc siz43 hL_103 0 rfl 0 [(Sl.v t16_23), (VI t16_24)] rfl rfl rfl (Nat.le_of_ble_eq_true rfl) (L' := [(b_32, [(Sl.v t16_23), (VI t16_24)]), (b_31, [(Sl.v nilSl)]), (b_2, [(Sl.v w1_1), (VI w1_2)]), (b_1, [(Sl.v g0_1)])]) rfl (fun h_104 hf_75 hL_104 => ?_)
     refine uop_loc siz34 hL_104 1 rfl 0 [(Sl.v t19_16)] rfl rfl rfl (Nat.le_of_ble_eq_true rfl) (L' := [(b_32, [(Sl.v t16_23), (VI t16_24)]), (b_31, [(Sl.v t19_16)]), (b_2, [(Sl.v w1_1), (VI w1_2)]), (b_1, [(Sl.v g0_1)])]) rfl (fun h_105 hf_76 hL_105 => ?_)
     have H := H b_32 h_105 (Nat.le_trans (Fr.size (Fr.r (In []) _)) hb_31) (Fr.old (Fr.new (Fr.no' (Fr.r (In []) _) hf_74) (Nat.le_trans (Fr.size (Fr.r (In []) _)) hb_31) hf_75) hf_76) hL_105
     exact ⟨b_32, t16_23, t16_24, b_31, t19_16, rfl, H, Vars.pick hL_105 [1, 0, 2, 3] rfl⟩
    have H := H.2
    refine eop_alloc 43 zer43 rfl hL_101 (fun b_33 h_106 hb_32 hf_77 hL_106 => ?_)
    have H := H b_33 h_106 (Nat.le_trans (Fr.size (Fr.r (In []) _)) hb_32) (Fr.no' (Fr.r (In []) _) hf_77) hL_106
    refine ⟨?_, ?_⟩
    ·exact still_loc one3 hL_106 2 rfl 1 (v := (VI w1_2)) rfl
    refine ⟨?_, ?_⟩
    ·have H := H.1
     refine H.mono fun rv_30 h_107 H => ?_
     obtain ⟨t19_17, rfl, hL_107, H⟩ := H
     refine uop_loc siz43 hL_107 0 rfl 0 [(Sl.v t16_23), (VI t16_24)] rfl rfl rfl (Nat.le_of_ble_eq_true rfl) (L' := [(b_33, [(Sl.v t16_23), (VI t16_24)]), (b_31, [(Sl.v nilSl)]), (b_2, [(Sl.v w1_1), (VI w1_2)]), (b_1, [(Sl.v g0_1)])]) rfl (fun h_108 hf_78 hL_108 => ?_)
     refine uop_loc siz34 hL_108 1 rfl 0 [(Sl.v t19_17)] rfl rfl rfl (Nat.le_of_ble_eq_true rfl) (L' := [(b_33, [(Sl.v t16_23), (VI t16_24)]), (b_31, [(Sl.v t19_17)]), (b_2, [(Sl.v w1_1), (VI w1_2)]), (b_1, [(Sl.v g0_1)])]) rfl (fun h_109 hf_79 hL_109 => ?_)
     have H := H  h_109  (Fr.old (Fr.old (Fr.r (In []) _) hf_78) hf_79) hL_109
     exact ⟨b_33, t16_23, t16_24, b_31, t19_17, rfl, H, Vars.pick hL_109 [1, 0, 2, 3] rfl⟩
    have H := H.2
    refine uop_loc siz43 hL_106 0 rfl 0 [(Sl.v t16_23), (VI t16_24)] rfl rfl rfl (Nat.le_of_ble_eq_true rfl) (L' := [(b_33, [(Sl.v t16_23), (VI t16_24)]), (b_31, [(Sl.v nilSl)]), (b_2, [(Sl.v w1_1), (VI w1_2)]), (b_1, [(Sl.v g0_1)])]) rfl (fun h_110 hf_80 hL_110 => ?_)
    have H := H  h_110  (Fr.old (Fr.r (In []) _) hf_80) hL_110
    refine ⟨?_, ?_⟩
    ·exact still_loc one3 hL_110 2 rfl 1 (v := (VI w1_2)) rfl
    refine H.mono fun rv_31 h_111 H => ?_
    obtain ⟨t19_18, rfl, hL_111, H⟩ := H
    refine uop_loc siz34 hL_111 1 rfl 0 [(Sl.v t19_18)] rfl rfl rfl (Nat.le_of_ble_eq_true rfl) (L' := [(b_33, [(Sl.v t16_23), (VI t16_24)]), (b_31, [(Sl.v t19_18)]), (b_2, [(Sl.v w1_1), (VI w1_2)]), (b_1, [(Sl.v g0_1)])]) rfl (fun h_112 hf_81 hL_112 => ?_)
    have H := H  h_112  (Fr.old (Fr.r (In []) _) hf_81) hL_112
    exact ⟨b_33, t16_23, t16_24, b_31, t19_18, rfl, H, Vars.pick hL_112 [1, 0, 2, 3] rfl⟩
   ·have H := H.2.1
    refine H.mono fun rv_32 h_113 H => ?_
    obtain ⟨t19_19, rfl, hL_113, H⟩ := H
    refine ⟨?_, ?_⟩
    ·exact still_locA agg43 hL_113 1 rfl 0 (vs := [(Sl.v w1_1), (VI w1_2)]) rfl rfl
    refine ⟨?_, ?_⟩
    ·have H := H.1
     refine H.mono fun rv_33 h_114 H => ?_
     obtain ⟨t16_25, t16_26, rfl, hL_114, H⟩ := H
     refine eop_alloc 43 zer43 rfl hL_114 (fun b_34 h_115 hb_33 hf_82 hL_115 => ?_)
     refine uop_loc siz43 hL_115 0 rfl 0 [(Sl.v t16_25), (VI t16_26)] rfl rfl rfl (Nat.le_of_ble_eq_true rfl) (L' := [(b_34, [(Sl.v t16_25), (VI t16_26)]), (b_31, [(Sl.v nilSl)]), (b_2, [(Sl.v w1_1), (VI w1_2)]), (b_1, [(Sl.v g0_1)])]) rfl (fun h_116 hf_83 hL_116 => ?_)
     refine uop_loc siz34 hL_116 1 rfl 0 [(Sl.v t19_19)] rfl rfl rfl (Nat.le_of_ble_eq_true rfl) (L' := [(b_34, [(Sl.v t16_25), (VI t16_26)]), (b_31, [(Sl.v t19_19)]), (b_2, [(Sl.v w1_1), (VI w1_2)]), (b_1, [(Sl.v g0_1)])]) rfl (fun h_117 hf_84 hL_117 => ?_)
     have H := H b_34 h_117 (Nat.le_trans (Fr.size (Fr.r (In []) _)) hb_33) (Fr.old (Fr.new (Fr.no' (Fr.r (In []) _) hf_82) (Nat.le_trans (Fr.size (Fr.r (In []) _)) hb_33) hf_83) hf_84) hL_117
     exact ⟨b_34, t16_25, t16_26, b_31, t19_19, rfl, H, Vars.pick hL_117 [1, 0, 2, 3] rfl⟩
    have H := H.2
    refine eop_alloc 43 zer43 rfl hL_113 (fun b_35 h_118 hb_34 hf_85 hL_118 => ?_)
    have H := H b_35 h_118 (Nat.le_trans (Fr.size (Fr.r (In []) _)) hb_34) (Fr.no' (Fr.r (In []) _) hf_85) hL_118
    refine ⟨?_, ?_⟩
    ·exact still_locA agg43 hL_118 2 rfl 0 (vs := [(Sl.v w1_1), (VI w1_2)]) rfl rfl
    refine H.mono fun rv_34 h_119 H => ?_
    obtain ⟨t16_27, t16_28, rfl, hL_119, H⟩ := H
    refine uop_loc siz43 hL_119 0 rfl 0 [(Sl.v t16_27), (VI t16_28)] rfl rfl rfl (Nat.le_of_ble_eq_true rfl) (L' := [(b_35, [(Sl.v t16_27), (VI t16_28)]), (b_31, [(Sl.v nilSl)]), (b_2, [(Sl.v w1_1), (VI w1_2)]), (b_1, [(Sl.v g0_1)])]) rfl (fun h_120 hf_86 hL_120 => ?_)
    refine uop_loc siz34 hL_120 1 rfl 0 [(Sl.v t19_19)] rfl rfl rfl (Nat.le_of_ble_eq_true rfl) (L' := [(b_35, [(Sl.v t16_27), (VI t16_28)]), (b_31, [(Sl.v t19_19)]), (b_2, [(Sl.v w1_1), (VI w1_2)]), (b_1, [(Sl.v g0_1)])]) rfl (fun h_121 hf_87 hL_121 => ?_)
    have H := H  h_121  (Fr.old (Fr.old (Fr.r (In []) _) hf_86) hf_87) hL_121
    exact ⟨b_35, t16_27, t16_28, b_31, t19_19, rfl, H, Vars.pick hL_121 [1, 0, 2, 3] rfl⟩
   have H := H.2.2
   refine eop_alloc 43 zer43 rfl hL_100 (fun b_36 h_122 hb_35 hf_88 hL_122 => ?_)
   have H := H b_36 h_122 (Nat.le_trans (Fr.size (Fr.r (In []) _)) hb_35) (Fr.no' (Fr.r (In []) _) hf_88) hL_122
   refine ⟨?_, ?_⟩
   ·exact still_loc one3 hL_122 2 rfl 1 (v := (VI w1_2)) rfl
   refine ⟨?_, ?_⟩
   ·exact still_locA agg43 hL_122 2 rfl 0 (vs := [(Sl.v w1_1), (VI w1_2)]) rfl rfl
   refine ⟨?_, ?_⟩
   rotate_left
   ·have H := H.2
    refine H.mono fun rv_38 h_130 H => ?_
    obtain ⟨t19_22, rfl, hL_130, H⟩ := H
    refine ⟨?_, ?_⟩
    ·exact still_locA agg43 hL_130 2 rfl 0 (vs := [(Sl.v w1_1), (VI w1_2)]) rfl rfl
    refine H.mono fun rv_39 h_131 H => ?_
    obtain ⟨t16_31, t16_32, rfl, hL_131, H⟩ := H
    refine uop_loc siz43 hL_131 0 rfl 0 [(Sl.v t16_31), (VI t16_32)] rfl rfl rfl (Nat.le_of_ble_eq_true rfl) (L' := [(b_36, [(Sl.v t16_31), (VI t16_32)]), (b_31, [(Sl.v nilSl)]), (b_2, [(Sl.v w1_1), (VI w1_2)]), (b_1, [(Sl.v g0_1)])]) rfl (fun h_132 hf_93 hL_132 => ?_)
    refine uop_loc siz34 hL_132 1 rfl 0 [(Sl.v t19_22)] rfl rfl rfl (Nat.le_of_ble_eq_true rfl) (L' := [(b_36, [(Sl.v t16_31), (VI t16_32)]), (b_31, [(Sl.v t19_22)]), (b_2, [(Sl.v w1_1), (VI w1_2)]), (b_1, [(Sl.v g0_1)])]) rfl (fun h_133 hf_94 hL_133 => ?_)
    have H := H  h_133  (Fr.old (Fr.old (Fr.r (In []) _) hf_93) hf_94) hL_133
    exact ⟨b_36, t16_31, t16_32, b_31, t19_22, rfl, H, Vars.pick hL_133 [1, 0, 2, 3] rfl⟩
   have H := H.1
   refine H.mono fun rv_35 h_123 H => ?_
   obtain ⟨t16_29, t16_30, rfl, hL_123, H⟩ := H
   refine ⟨?_, ?_⟩
   ·exact still_loc one3 hL_123 2 rfl 1 (v := (VI w1_2)) rfl
   refine ⟨?_, ?_⟩
   ·have H := H.1
    refine H.mono fun rv_36 h_124 H => ?_
    obtain ⟨t19_20, rfl, hL_124, H⟩ := H
    refine uop_loc siz43 hL_124 0 rfl 0 [(Sl.v t16_29), (VI t16_30)] rfl rfl rfl (Nat.le_of_ble_eq_true rfl) (L' := [(b_36, [(Sl.v t16_29), (VI t16_30)]), (b_31, [(Sl.v nilSl)]), (b_2, [(Sl.v w1_1), (VI w1_2)]), (b_1, [(Sl.v g0_1)])]) rfl (fun h_125 hf_89 hL_125 => ?_)
    refine uop_loc siz34 hL_125 1 rfl 0 [(Sl.v t19_20)] rfl rfl rfl (Nat.le_of_ble_eq_true rfl) (L' := [(b_36, [(Sl.v t16_29), (VI t16_30)]), (b_31, [(Sl.v t19_20)]), (b_2, [(Sl.v w1_1), (VI w1_2)]), (b_1, [(Sl.v g0_1)])]) rfl (fun h_126 hf_90 hL_126 => ?_)
    have H := H  h_126  (Fr.old (Fr.old (Fr.r (In []) _) hf_89) hf_90) hL_126
    exact ⟨b_36, t16_29, t16_30, b_31, t19_20, rfl, H, Vars.pick hL_126 [1, 0, 2, 3] rfl⟩
   have H := H.2
   refine uop_loc siz43 hL_123 0 rfl 0 [(Sl.v t16_29), (VI t16_30)] rfl rfl rfl (Nat.le_of_ble_eq_true rfl) (L' := [(b_36, [(Sl.v t16_29), (VI t16_30)]), (b_31, [(Sl.v nilSl)]), (b_2, [(Sl.v w1_1), (VI w1_2)]), (b_1, [(Sl.v g0_1)])]) rfl (fun h_127 hf_91 hL_127 => ?_)
   have H := H  h_127  (Fr.old (Fr.r (In []) _) hf_91) hL_127
   refine ⟨?_, ?_⟩
   ·exact still_loc one3 hL_127 2 rfl 1 (v := (VI w1_2)) rfl
   refine H.mono fun rv_37 h_128 H => ?_
   obtain ⟨t19_21, rfl, hL_128, H⟩ := H
   refine uop_loc siz34 hL_128 1 rfl 0 [(Sl.v t19_21)] rfl rfl rfl (Nat.le_of_ble_eq_true rfl) (L' := [(b_36, [(Sl.v t16_29), (VI t16_30)]), (b_31, [(Sl.v t19_21)]), (b_2, [(Sl.v w1_1), (VI w1_2)]), (b_1, [(Sl.v g0_1)])]) rfl (fun h_129 hf_92 hL_129 => ?_)
   have H := H  h_129  (Fr.old (Fr.r (In []) _) hf_92) hL_129
   exact ⟨b_36, t16_29, t16_30, b_31, t19_21, rfl, H, Vars.pick hL_129 [1, 0, 2, 3] rfl⟩
  intro junk_1 tv_1 tv_2 h_134
  rintro ⟨b_3, x_1, x_2, b_4, x_3, hv, hJ_1, hL_134⟩
  cases hv
  have H := HB_1 b_3 x_1 x_2 b_4 x_3 h_134 hJ_1 hL_134
  refine rop_locA agg41 hL_134 3 rfl 0 (vs := [(Sl.v g0_1)]) rfl rfl ?_
  refine pop_func _ _ _ ?_
  refine H.mono fun rv_40 h_135 H => ?_
  obtain ⟨x_4, x_5, x_6, t23_1, rfl, hL_135, H⟩ := H
  refine pop_not t23_1 ?_
  refine condM_b (fun hb_36 => ?_) (fun hb_36 => ?_)
  ·have H := H.1 hb_36
   exact H
  have H := H.2 hb_36
  refine rop_loc one34 hL_135 0 rfl 0 (v := (Sl.v x_4)) rfl ?_
  exact H
def u29 (P : Program) (g0_1 : Sl) (w1_1 : Sl) (w1_2 : Int) (n2_1 : Int) (h : Heap) (K : Value → Heap → Prop) : Prop :=
  ∀ (b_1 : Nat) (b_2 : Nat) (h_2 : Heap), h.size ≤ b_1 → h.size ≤ b_2 → Fr (In []) h h_2 → Vars h_2 [(b_2, [(Sl.v w1_1), (VI w1_2)]), (b_1, [(Sl.v g0_1)])] →
  callM P 62 #[(Value.agg #[(Sl.v g0_1)]), (Value.agg #[(Sl.v w1_1), (VI w1_2)])] h_2 fun rv_1 h_3 => ∃ t12_1 : Bool, rv_1 = (VB t12_1) ∧ Vars h_3 [(b_2, [(Sl.v w1_1), (VI w1_2)]), (b_1, [(Sl.v g0_1)])] ∧
  ((!t12_1) = true →
  K (Value.tuple #[(Sl.v nilSl), (VB false)]) h_3) ∧
  ((!t12_1) = false →
  callM P 51 #[(VI n2_1), (VI 0), (VI 200)] h_3 fun rv_2 h_4 => ∃ t16_1 : Bool, rv_2 = (VB t16_1) ∧ Vars h_4 [(b_2, [(Sl.v w1_1), (VI w1_2)]), (b_1, [(Sl.v g0_1)])] ∧
  ((!t16_1) = true →
  K (Value.tuple #[(Sl.v nilSl), (VB false)]) h_4) ∧
  ((!t16_1) = false →
  callM P 74 #[(Value.agg #[(Sl.v g0_1)]), (Value.agg #[(Sl.v w1_1), (VI w1_2)]), (VI n2_1)] h_4 fun rv_3 h_5 => ∃ t23_1 : Sl, ∃ t23_2 : Int, ∃ t23_3 : Sl, ∃ t23_4 : Sl, ∃ t23_5 : Sl, ∃ t23_6 : Bool, rv_3 = (Value.tuple #[(Value.agg #[(Sl.v t23_1), (VI t23_2), (Sl.v t23_3), (Sl.v t23_4), (Sl.v t23_5)]), (VB t23_6)]) ∧ Vars h_5 [(b_2, [(Sl.v w1_1), (VI w1_2)]), (b_1, [(Sl.v g0_1)])] ∧
  ∀ (b_3 : Nat) (h_7 : Heap), h_5.size ≤ b_3 → Fr (In []) h_5 h_7 → Vars h_7 [(b_3, [(Sl.v t23_1), (VI t23_2), (Sl.v t23_3), (Sl.v t23_4), (Sl.v t23_5)]), (b_2, [(Sl.v w1_1), (VI w1_2)]), (b_1, [(Sl.v g0_1)])] →
  K (Value.tuple #[(Sl.v t23_3), (VB t23_6)]) h_7))
theorem v29 (g0_1 : Sl) (w1_1 : Sl) (w1_2 : Int) (n2_1 : Int) (h : Heap) (K : Value → Heap → Prop) (H : u29 Tryd.prog g0_1 w1_1 w1_2 n2_1 h K) : callM Tryd.prog 29 #[(Value.agg #[(Sl.v g0_1)]), (Value.agg #[(Sl.v w1_1), (VI w1_2)]), (VI n2_1)] h K := by
  refine c29 (Value.agg #[(Sl.v g0_1)]) (Value.agg #[(Sl.v w1_1), (VI w1_2)]) (VI n2_1) h K ?_
  unfold u29 at H
  unfold t29
  have hL : Vars h [] := .nil
  refine eop_box 41 (Value.agg #[(Sl.v g0_1)]) rfl hL (fun b_1 h_1 hb_1 hf_1 hL_1 => ?_)
  refine eop_box 43 (Value.agg #[(Sl.v w1_1), (VI w1_2)]) rfl hL_1 (fun b_2 h_2 hb_2 hf_2 hL_2 => ?_)
  refine rop_locA agg41 hL_2 1 rfl 0 (vs := [(Sl.v g0_1)]) rfl rfl ?_
  refine rop_locA agg43 hL_2 0 rfl 0 (vs := [(Sl.v w1_1), (VI w1_2)]) rfl rfl ?_
  have H := H b_1 b_2 h_2 (Nat.le_trans (Fr.size (Fr.r (In []) _)) hb_1) (Nat.le_trans (Fr.size (Fr.no' (Fr.r (In []) _) hf_1)) hb_2) (Fr.no' (Fr.no' (Fr.r (In []) _) hf_1) hf_2) hL_2
  refine H.mono fun rv_1 h_3 H => ?_
  obtain ⟨t12_1, rfl, hL_3, H⟩ := H
  refine pop_not t12_1 ?_
  refine guardM_sf (fun hb_3 => ?_) (fun hb_3 => ?_)
  rotate_left
  ·have H := H.1 hb_3
   refine guardM_n' hb_3 (by decide) ?_
   refine guardM_n' hb_3 (by decide) ?_
   refine pop_pickt' hb_3 ?_
   refine condM_t ?_
   exact H
  have H := H.2 hb_3
  refine guardM_y' hb_3 ?_
  refine H.mono fun rv_2 h_4 H => ?_
  obtain ⟨t16_1, rfl, hL_4, H⟩ := H
  refine guardM_y' hb_3 ?_
  refine pop_not t16_1 ?_
  refine pop_pickf' hb_3 ?_
  refine condM_b (fun hb_4 => ?_) (fun hb_4 => ?_)
  ·have H := H.1 hb_4
   exact H
  have H := H.2 hb_4
  refine rop_locA agg41 hL_4 1 rfl 0 (vs := [(Sl.v g0_1)]) rfl rfl ?_
  refine rop_locA agg43 hL_4 0 rfl 0 (vs := [(Sl.v w1_1), (VI w1_2)]) rfl rfl ?_
  refine H.mono fun rv_3 h_5 H => ?_
  obtain ⟨t23_1, t23_2, t23_3, t23_4, t23_5, t23_6, rfl, hL_5, H⟩ := H
  refine pop_ext (v := (Value.agg #[(Sl.v t23_1), (VI t23_2), (Sl.v t23_3), (Sl.v t23_4), (Sl.v t23_5)])) rfl ?_
  refine pop_ext (v := (VB t23_6)) rfl ?_
  refine eop_alloc 96 zer96 rfl hL_5 (fun b_3 h_6 hb_5 hf_3 hL_6 => ?_)
  refine uop_loc siz96 hL_6 0 rfl 0 [(Sl.v t23_1), (VI t23_2), (Sl.v t23_3), (Sl.v t23_4), (Sl.v t23_5)] rfl rfl rfl (Nat.le_of_ble_eq_true rfl) (L' := [(b_3, [(Sl.v t23_1), (VI t23_2), (Sl.v t23_3), (Sl.v t23_4), (Sl.v t23_5)]), (b_2, [(Sl.v w1_1), (VI w1_2)]), (b_1, [(Sl.v g0_1)])]) rfl (fun h_7 hf_4 hL_7 => ?_)
  refine pop_field 1 fld96_1 b_3 0 ?_
  refine rop_loc one34 hL_7 0 rfl 2 (v := (Sl.v t23_3)) rfl ?_
  have H := H b_3 h_7 (Nat.le_trans (Fr.size (Fr.r (In []) _)) hb_5) (Fr.new (Fr.no' (Fr.r (In []) _) hf_3) (Nat.le_trans (Fr.size (Fr.r (In []) _)) hb_5) hf_4) hL_7
  exact H
def u30 (P : Program) (a0_1 : Sl) (b1_1 : Sl) (h : Heap) (K : Value → Heap → Prop) : Prop :=
  ((!decide ((a0_1.n : Int) = (b1_1.n : Int))) = true →
  K (VB false) h) ∧
  ((!decide ((a0_1.n : Int) = (b1_1.n : Int))) = false →
  ∃ J_1 : Nat → Int → Heap → Prop, (∃ n0 : Nat, J_1 n0 0 h) ∧
  ∀ (n_1 : Nat) (t13_1 : Int) (h_1 : Heap), J_1 n_1 t13_1 h_1 → Vars h_1 [] →
  ((decide (t13_1 < (a0_1.n : Int))) = true →
  InB a0_1 t13_1 ∧
  ∃ t19_1 : Sl, hcell h_1 (Sl.at a0_1 t13_1 1) = some (Sl.v t19_1) ∧
  InB b1_1 t13_1 ∧
  ∃ t23_1 : Sl, hcell h_1 (Sl.at b1_1 t13_1 1) = some (Sl.v t23_1) ∧
  callM P 31 #[(Sl.v t19_1), (Sl.v t23_1)] h_1 fun rv_1 h_2 => ∃ t24_1 : Bool, rv_1 = (VB t24_1) ∧ Vars h_2 [] ∧
  ((!t24_1) = true →
  K (VB false) h_2) ∧
  ((!t24_1) = false →
  ∃ m : Nat, m < n_1 ∧ J_1 m (w64 (t13_1 + 1)) h_2)) ∧
  ((decide (t13_1 < (a0_1.n : Int))) = false →
  K (VB true) h_1))
theorem v30 (a0_1 : Sl) (b1_1 : Sl) (h : Heap) (K : Value → Heap → Prop) (H : u30 Tryd.prog a0_1 b1_1 h K) : callM Tryd.prog 30 #[(Sl.v a0_1), (Sl.v b1_1)] h K := by
  refine c30 (Sl.v a0_1) (Sl.v b1_1) h K ?_
  unfold u30 at H
  unfold t30
  have hL : Vars h [] := .nil
  refine pop_len a0_1 _ _ sli22 ?_
  refine pop_len b1_1 _ _ sli22 ?_
  refine pop_ine .i64 _ _ (a0_1.n : Int) (b1_1.n : Int) ?_
  refine condM_b (fun hb_1 => ?_) (fun hb_1 => ?_)
  ·have H := H.1 hb_1
   exact H
  have H := H.2 hb_1
  refine pop_len a0_1 _ _ sli22 ?_
  obtain ⟨J_1, ⟨n_2, h0_1⟩, HB_1⟩ := H
  refine loop_intro (J := fun (n : Nat) (vs : List Value) (h' : Heap) => ∃ t13_1 : Int, vs = [(VI t13_1)] ∧ J_1 n t13_1 h' ∧ Vars h' []) n_2 ⟨0, rfl, h0_1, hL⟩ ?_
  intro I_1 mu_1 hI_1 junk_1 tv_1 h_1 hi_1
  obtain ⟨n_1, ⟨t13_1, hv, hJ_1, hL_1⟩, hn_1⟩ := hI_1 _ _ hi_1
  cases hv
  have H := HB_1 n_1 t13_1 h_1 hJ_1 hL_1
  refine pop_lss .i64 t13_1 (a0_1.n : Int) ?_
  refine condM_b (fun hb_2 => ?_) (fun hb_2 => ?_)
  rotate_left
  ·have H := H.2 hb_2
   exact H
  have H := H.1 hb_2
  obtain ⟨hi_2, H⟩ := H
  refine pop_index sli22 siz34 .i64 a0_1 t13_1 hi_2 ?_
  obtain ⟨t19_1, hc_2, H⟩ := H
  refine rop_one one34 (Sl.v t19_1) hc_2 ?_
  obtain ⟨hi_3, H⟩ := H
  refine pop_index sli22 siz34 .i64 b1_1 t13_1 hi_3 ?_
  obtain ⟨t23_1, hc_1, H⟩ := H
  refine rop_one one34 (Sl.v t23_1) hc_1 ?_
  refine H.mono fun rv_1 h_2 H => ?_
  obtain ⟨t24_1, rfl, hL_2, H⟩ := H
  refine pop_not t24_1 ?_
  refine condM_b (fun hb_3 => ?_) (fun hb_3 => ?_)
  ·have H := H.1 hb_3
   exact H
  have H := H.2 hb_3
  refine pop_add .i64 t13_1 1 ?_
  obtain ⟨m_1, hm_1, H⟩ := H
  exact hn_1 _ _ ⟨m_1, hm_1, (w64 (t13_1 + 1)), rfl, H, hL_2⟩
def u31 (P : Program) (a0_1 : Sl) (b1_1 : Sl) (h : Heap) (K : Value → Heap → Prop) : Prop :=
  ((!decide ((a0_1.n : Int) = (b1_1.n : Int))) = true →
  K (VB false) h) ∧
  ((!decide ((a0_1.n : Int) = (b1_1.n : Int))) = false →
  ∃ J_1 : Nat → Int → Heap → Prop, (∃ n0 : Nat, J_1 n0 0 h) ∧
  ∀ (n_1 : Nat) (t13_1 : Int) (h_1 : Heap), J_1 n_1 t13_1 h_1 → Vars h_1 [] →
  ((decide (t13_1 < (a0_1.n : Int))) = true →
  InB a0_1 t13_1 ∧
  ∃ t19_1 : Int, hcell h_1 (Sl.at a0_1 t13_1 1) = some (VI t19_1) ∧
  InB b1_1 t13_1 ∧
  ∃ t23_1 : Int, hcell h_1 (Sl.at b1_1 t13_1 1) = some (VI t23_1) ∧
  ((!decide (t19_1 = t23_1)) = true →
  K (VB false) h_1) ∧
  ((!decide (t19_1 = t23_1)) = false →
  ∃ m : Nat, m < n_1 ∧ J_1 m (w64 (t13_1 + 1)) h_1)) ∧
  ((decide (t13_1 < (a0_1.n : Int))) = false →
  K (VB true) h_1))
theorem v31 (a0_1 : Sl) (b1_1 : Sl) (h : Heap) (K : Value → Heap → Prop) (H : u31 Tryd.prog a0_1 b1_1 h K) : callM Tryd.prog 31 #[(Sl.v a0_1), (Sl.v b1_1)] h K := by
  refine c31 (Sl.v a0_1) (Sl.v b1_1) h K ?_
  unfold u31 at H
  unfold t31
  have hL : Vars h [] := .nil
  refine pop_len a0_1 _ _ sli34 ?_
  refine pop_len b1_1 _ _ sli34 ?_
  refine pop_ine .i64 _ _ (a0_1.n : Int) (b1_1.n : Int) ?_
  refine condM_b (fun hb_1 => ?_) (fun hb_1 => ?_)
  ·have H := H.1 hb_1
   exact H
  have H := H.2 hb_1
  refine pop_len a0_1 _ _ sli34 ?_
  obtain ⟨J_1, ⟨n_2, h0_1⟩, HB_1⟩ := H
  refine loop_intro (J := fun (n : Nat) (vs : List Value) (h' : Heap) => ∃ t13_1 : Int, vs = [(VI t13_1)] ∧ J_1 n t13_1 h' ∧ Vars h' []) n_2 ⟨0, rfl, h0_1, hL⟩ ?_
  intro I_1 mu_1 hI_1 junk_1 tv_1 h_1 hi_1
  obtain ⟨n_1, ⟨t13_1, hv, hJ_1, hL_1⟩, hn_1⟩ := hI_1 _ _ hi_1
  cases hv
  have H := HB_1 n_1 t13_1 h_1 hJ_1 hL_1
  refine pop_lss .i64 t13_1 (a0_1.n : Int) ?_
  refine condM_b (fun hb_2 => ?_) (fun hb_2 => ?_)
  rotate_left
  ·have H := H.2 hb_2
   exact H
  have H := H.1 hb_2
  obtain ⟨hi_2, H⟩ := H
  refine pop_index sli34 siz3 .i64 a0_1 t13_1 hi_2 ?_
  obtain ⟨t19_1, hc_2, H⟩ := H
  refine rop_one one3 (VI t19_1) hc_2 ?_
  obtain ⟨hi_3, H⟩ := H
  refine pop_index sli34 siz3 .i64 b1_1 t13_1 hi_3 ?_
  obtain ⟨t23_1, hc_1, H⟩ := H
  refine rop_one one3 (VI t23_1) hc_1 ?_
  refine pop_ine .i64 _ _ t19_1 t23_1 ?_
  refine condM_b (fun hb_3 => ?_) (fun hb_3 => ?_)
  ·have H := H.1 hb_3
   exact H
  have H := H.2 hb_3
  refine pop_add .i64 t13_1 1 ?_
  obtain ⟨m_1, hm_1, H⟩ := H
  exact hn_1 _ _ ⟨m_1, hm_1, (w64 (t13_1 + 1)), rfl, H, hL_1⟩
def u32 (P : Program) (a0_1 : Sl) (a0_2 : Int) (b1_1 : Sl) (b1_2 : Int) (h : Heap) (K : Value → Heap → Prop) : Prop :=
  ((decide (a0_2 = b1_2)) = true →
  ∀ (b_1 : Nat) (b_2 : Nat) (h_2 : Heap), h.size ≤ b_1 → h.size ≤ b_2 → Fr (In []) h h_2 → Vars h_2 [(b_2, [(Sl.v b1_1), (VI b1_2)]), (b_1, [(Sl.v a0_1), (VI a0_2)])] →
  callM P 31 #[(Sl.v a0_1), (Sl.v b1_1)] h_2 fun rv_1 h_3 => ∃ t15_1 : Bool, rv_1 = (VB t15_1) ∧ Vars h_3 [(b_2, [(Sl.v b1_1), (VI b1_2)]), (b_1, [(Sl.v a0_1), (VI a0_2)])] ∧
  K (VB t15_1) h_3) ∧
  ((decide (a0_2 = b1_2)) = false →
  ∀ (b_1 : Nat) (b_2 : Nat) (h_2 : Heap), h.size ≤ b_1 → h.size ≤ b_2 → Fr (In []) h h_2 → Vars h_2 [(b_2, [(Sl.v b1_1), (VI b1_2)]), (b_1, [(Sl.v a0_1), (VI a0_2)])] →
  K (VB false) h_2)
theorem v32 (a0_1 : Sl) (a0_2 : Int) (b1_1 : Sl) (b1_2 : Int) (h : Heap) (K : Value → Heap → Prop) (H : u32 Tryd.prog a0_1 a0_2 b1_1 b1_2 h K) : callM Tryd.prog 32 #[(Value.agg #[(Sl.v a0_1), (VI a0_2)]), (Value.agg #[(Sl.v b1_1), (VI b1_2)])] h K := by
  refine c32 (Value.agg #[(Sl.v a0_1), (VI a0_2)]) (Value.agg #[(Sl.v b1_1), (VI b1_2)]) h K ?_
  unfold u32 at H
  unfold t32
  have hL : Vars h [] := .nil
  refine eop_box 43 (Value.agg #[(Sl.v a0_1), (VI a0_2)]) rfl hL (fun b_1 h_1 hb_1 hf_1 hL_1 => ?_)
  refine eop_box 43 (Value.agg #[(Sl.v b1_1), (VI b1_2)]) rfl hL_1 (fun b_2 h_2 hb_2 hf_2 hL_2 => ?_)
  refine pop_field 1 fld43_1 b_1 0 ?_
  refine rop_loc one3 hL_2 1 rfl 1 (v := (VI a0_2)) rfl ?_
  refine pop_field 1 fld43_1 b_2 0 ?_
  refine rop_loc one3 hL_2 0 rfl 1 (v := (VI b1_2)) rfl ?_
  refine pop_ieq .i64 _ _ a0_2 b1_2 ?_
  refine guardM_st (fun hb_3 => ?_) (fun hb_3 => ?_)
  rotate_left
  ·have H := H.2 hb_3
   refine guardM_n' hb_3 (by decide) ?_
   refine guardM_n' hb_3 (by decide) ?_
   refine guardM_n' hb_3 (by decide) ?_
   refine guardM_n' hb_3 (by decide) ?_
   refine pop_pickf' hb_3 ?_
   have H := H b_1 b_2 h_2 (Nat.le_trans (Fr.size (Fr.r (In []) _)) hb_1) (Nat.le_trans (Fr.size (Fr.no' (Fr.r (In []) _) hf_1)) hb_2) (Fr.no' (Fr.no' (Fr.r (In []) _) hf_1) hf_2) hL_2
   exact H
  have H := H.1 hb_3
  refine pop_field 0 fld43_0 b_1 0 ?_
  refine guardM_y' hb_3 ?_
  refine rop_loc one34 hL_2 1 rfl 0 (v := (Sl.v a0_1)) rfl ?_
  refine guardM_y' hb_3 ?_
  refine pop_field 0 fld43_0 b_2 0 ?_
  refine guardM_y' hb_3 ?_
  refine rop_loc one34 hL_2 0 rfl 0 (v := (Sl.v b1_1)) rfl ?_
  refine guardM_y' hb_3 ?_
  have H := H b_1 b_2 h_2 (Nat.le_trans (Fr.size (Fr.r (In []) _)) hb_1) (Nat.le_trans (Fr.size (Fr.no' (Fr.r (In []) _) hf_1)) hb_2) (Fr.no' (Fr.no' (Fr.r (In []) _) hf_1) hf_2) hL_2
  refine H.mono fun rv_1 h_3 H => ?_
  obtain ⟨t15_1, rfl, hL_3, H⟩ := H
  refine pop_pickt' hb_3 ?_
  exact H
def u33 (P : Program) (a0_1 : Sl) (h : Heap) (K : Value → Heap → Prop) : Prop :=
  ∃ J_1 : Nat → Int → Int → Heap → Prop, (∃ n0 : Nat, J_1 n0 0 0 h) ∧
  ∀ (n_1 : Nat) (n3_1 : Int) (t8_1 : Int) (h_1 : Heap), J_1 n_1 n3_1 t8_1 h_1 → Vars h_1 [] →
  ((decide (t8_1 < (a0_1.n : Int))) = true →
  InB a0_1 t8_1 ∧
  ∃ t11_1 : Int, hcell h_1 (Sl.at a0_1 t8_1 1) = some (VI t11_1) ∧
  ∃ m : Nat, m < n_1 ∧ J_1 m (w64 (n3_1 + t11_1)) (w64 (t8_1 + 1)) h_1) ∧
  ((decide (t8_1 < (a0_1.n : Int))) = false →
  K (VI n3_1) h_1)
theorem v33 (a0_1 : Sl) (h : Heap) (K : Value → Heap → Prop) (H : u33 Tryd.prog a0_1 h K) : callM Tryd.prog 33 #[(Sl.v a0_1)] h K := by
  refine c33 (Sl.v a0_1) h K ?_
  unfold u33 at H
  unfold t33
  have hL : Vars h [] := .nil
  refine pop_len a0_1 _ _ sli34 ?_
  obtain ⟨J_1, ⟨n_2, h0_1⟩, HB_1⟩ := H
  refine loop_intro (J := fun (n : Nat) (vs : List Value) (h' : Heap) => ∃ n3_1 : Int, ∃ t8_1 : Int, vs = [(VI n3_1), (VI t8_1)] ∧ J_1 n n3_1 t8_1 h' ∧ Vars h' []) n_2 ⟨0, 0, rfl, h0_1, hL⟩ ?_
  intro I_1 mu_1 hI_1 junk_1 tv_1 tv_2 h_1 hi_1
  obtain ⟨n_1, ⟨n3_1, t8_1, hv, hJ_1, hL_1⟩, hn_1⟩ := hI_1 _ _ hi_1
  cases hv
  have H := HB_1 n_1 n3_1 t8_1 h_1 hJ_1 hL_1
  refine pop_lss .i64 t8_1 (a0_1.n : Int) ?_
  refine condM_b (fun hb_1 => ?_) (fun hb_1 => ?_)
  rotate_left
  ·have H := H.2 hb_1
   exact H
  have H := H.1 hb_1
  obtain ⟨hi_2, H⟩ := H
  refine pop_index sli34 siz3 .i64 a0_1 t8_1 hi_2 ?_
  obtain ⟨t11_1, hc_1, H⟩ := H
  refine rop_one one3 (VI t11_1) hc_1 ?_
  refine pop_add .i64 n3_1 t11_1 ?_
  refine pop_add .i64 t8_1 1 ?_
  obtain ⟨m_1, hm_1, H⟩ := H
  exact hn_1 _ _ ⟨m_1, hm_1, (w64 (n3_1 + t11_1)), (w64 (t8_1 + 1)), rfl, H, hL_1⟩
def u34 (P : Program) (g0_1 : Sl) (w1_1 : Sl) (w1_2 : Int) (h : Heap) (K : Value → Heap → Prop) : Prop :=
  ∀ (b_1 : Nat) (b_2 : Nat) (h_2 : Heap), h.size ≤ b_1 → h.size ≤ b_2 → Fr (In []) h h_2 → Vars h_2 [(b_2, [(Sl.v w1_1), (VI w1_2)]), (b_1, [(Sl.v g0_1)])] →
  callM P 65 #[(Value.agg #[(Sl.v g0_1)]), (Value.agg #[(Sl.v w1_1), (VI w1_2)])] h_2 fun rv_1 h_3 => ∃ t7_1 : Bool, rv_1 = (VB t7_1) ∧ Vars h_3 [(b_2, [(Sl.v w1_1), (VI w1_2)]), (b_1, [(Sl.v g0_1)])] ∧
  K (VB t7_1) h_3
theorem v34 (g0_1 : Sl) (w1_1 : Sl) (w1_2 : Int) (h : Heap) (K : Value → Heap → Prop) (H : u34 Tryd.prog g0_1 w1_1 w1_2 h K) : callM Tryd.prog 34 #[(Value.agg #[(Sl.v g0_1)]), (Value.agg #[(Sl.v w1_1), (VI w1_2)])] h K := by
  refine c34 (Value.agg #[(Sl.v g0_1)]) (Value.agg #[(Sl.v w1_1), (VI w1_2)]) h K ?_
  unfold u34 at H
  unfold t34
  have hL : Vars h [] := .nil
  refine eop_box 41 (Value.agg #[(Sl.v g0_1)]) rfl hL (fun b_1 h_1 hb_1 hf_1 hL_1 => ?_)
  refine eop_box 43 (Value.agg #[(Sl.v w1_1), (VI w1_2)]) rfl hL_1 (fun b_2 h_2 hb_2 hf_2 hL_2 => ?_)
  refine rop_locA agg41 hL_2 1 rfl 0 (vs := [(Sl.v g0_1)]) rfl rfl ?_
  refine rop_locA agg43 hL_2 0 rfl 0 (vs := [(Sl.v w1_1), (VI w1_2)]) rfl rfl ?_
  have H := H b_1 b_2 h_2 (Nat.le_trans (Fr.size (Fr.r (In []) _)) hb_1) (Nat.le_trans (Fr.size (Fr.no' (Fr.r (In []) _) hf_1)) hb_2) (Fr.no' (Fr.no' (Fr.r (In []) _) hf_1) hf_2) hL_2
  refine H.mono fun rv_1 h_3 H => ?_
  obtain ⟨t7_1, rfl, hL_3, H⟩ := H
  exact H
def u35 (P : Program) (g0_1 : Sl) (w1_1 : Sl) (w1_2 : Int) (h : Heap) (K : Value → Heap → Prop) : Prop :=
  ∀ (b_1 : Nat) (b_2 : Nat) (b_3 : Nat) (h_3 : Heap), h.size ≤ b_1 → h.size ≤ b_2 → h.size ≤ b_3 → Fr (In []) h h_3 → Vars h_3 [(b_3, [(Sl.v nilSl), (VI 0)]), (b_2, [(Sl.v w1_1), (VI w1_2)]), (b_1, [(Sl.v g0_1)])] →
  callM P 26 #[(Value.agg #[(Sl.v g0_1)]), (Value.agg #[(Sl.v w1_1), (VI w1_2)]), (VI 1)] h_3 fun rv_1 h_4 => ∃ t8_1 : Sl, ∃ t8_2 : Int, ∃ t8_3 : Bool, rv_1 = (Value.tuple #[(Value.agg #[(Sl.v t8_1), (VI t8_2)]), (VB t8_3)]) ∧ Vars h_4 [(b_3, [(Sl.v nilSl), (VI 0)]), (b_2, [(Sl.v w1_1), (VI w1_2)]), (b_1, [(Sl.v g0_1)])] ∧
  ∀ (h_5 : Heap), Fr (In [b_3]) h_4 h_5 → Vars h_5 [(b_3, [(Sl.v t8_1), (VI t8_2)]), (b_2, [(Sl.v w1_1), (VI w1_2)]), (b_1, [(Sl.v g0_1)])] →
  K (Value.tuple #[(Value.agg #[(Sl.v t8_1), (VI t8_2)]), (VB t8_3)]) h_5
theorem v35 (g0_1 : Sl) (w1_1 : Sl) (w1_2 : Int) (h : Heap) (K : Value → Heap → Prop) (H : u35 Tryd.prog g0_1 w1_1 w1_2 h K) : callM Tryd.prog 35 #[(Value.agg #[(Sl.v g0_1)]), (Value.agg #[(Sl.v w1_1), (VI w1_2)])] h K := by
  refine c35 (Value.agg #[(Sl.v g0_1)]) (Value.agg #[(Sl.v w1_1), (VI w1_2)]) h K ?_
  unfold u35 at H
  unfold t35
  have hL : Vars h [] := .nil
  refine eop_box 41 (Value.agg #[(Sl.v g0_1)]) rfl hL (fun b_1 h_1 hb_1 hf_1 hL_1 => ?_)
  refine eop_box 43 (Value.agg #[(Sl.v w1_1), (VI w1_2)]) rfl hL_1 (fun b_2 h_2 hb_2 hf_2 hL_2 => ?_)
  refine eop_alloc 43 zer43 rfl hL_2 (fun b_3 h_3 hb_3 hf_3 hL_3 => ?_)
  refine rop_locA agg41 hL_3 2 rfl 0 (vs := [(Sl.v g0_1)]) rfl rfl ?_
  refine rop_locA agg43 hL_3 1 rfl 0 (vs := [(Sl.v w1_1), (VI w1_2)]) rfl rfl ?_
  have H := H b_1 b_2 b_3 h_3 (Nat.le_trans (Fr.size (Fr.r (In []) _)) hb_1) (Nat.le_trans (Fr.size (Fr.no' (Fr.r (In []) _) hf_1)) hb_2) (Nat.le_trans (Fr.size (Fr.no' (Fr.no' (Fr.r (In []) _) hf_1) hf_2)) hb_3) (Fr.no' (Fr.no' (Fr.no' (Fr.r (In []) _) hf_1) hf_2) hf_3) hL_3
  refine H.mono fun rv_1 h_4 H => ?_
  obtain ⟨t8_1, t8_2, t8_3, rfl, hL_4, H⟩ := H
  refine pop_ext (v := (Value.agg #[(Sl.v t8_1), (VI t8_2)])) rfl ?_
  refine pop_ext (v := (VB t8_3)) rfl ?_
  refine uop_loc siz43 hL_4 0 rfl 0 [(Sl.v t8_1), (VI t8_2)] rfl rfl rfl (Nat.le_of_ble_eq_true rfl) (L' := [(b_3, [(Sl.v t8_1), (VI t8_2)]), (b_2, [(Sl.v w1_1), (VI w1_2)]), (b_1, [(Sl.v g0_1)])]) rfl (fun h_5 hf_4 hL_5 => ?_)
  refine rop_locA agg43 hL_5 0 rfl 0 (vs := [(Sl.v t8_1), (VI t8_2)]) rfl rfl ?_
  have H := H  h_5  (Fr.old (Fr.r (In []) _) hf_4) hL_5
  exact H
def u36 (P : Program) (code0_1 : Sl) (h : Heap) (K : Value → Heap → Prop) : Prop :=
  ∀ (b_1 : Nat) (b_2 : Nat) (h_2 : Heap), h.size ≤ b_1 → h.size ≤ b_2 → Fr (In []) h h_2 → Vars h_2 [(b_2, [(Sl.v nilSl), (VI 0)]), (b_1, [(Sl.v nilSl)])] →
  callM P 79 #[(Sl.v code0_1)] h_2 fun rv_1 h_3 => ∃ t5_1 : Sl, ∃ t5_2 : Sl, ∃ t5_3 : Int, rv_1 = (Value.tuple #[(Value.agg #[(Sl.v t5_1)]), (Value.agg #[(Sl.v t5_2), (VI t5_3)])]) ∧ Vars h_3 [(b_2, [(Sl.v nilSl), (VI 0)]), (b_1, [(Sl.v nilSl)])] ∧
  ∀ (h_5 : Heap), Fr (In [b_2, b_1]) h_3 h_5 → Vars h_5 [(b_2, [(Sl.v t5_2), (VI t5_3)]), (b_1, [(Sl.v t5_1)])] →
  K (Value.tuple #[(Value.agg #[(Sl.v t5_1)]), (Value.agg #[(Sl.v t5_2), (VI t5_3)])]) h_5
theorem v36 (code0_1 : Sl) (h : Heap) (K : Value → Heap → Prop) (H : u36 Tryd.prog code0_1 h K) : callM Tryd.prog 36 #[(Sl.v code0_1)] h K := by
  refine c36 (Sl.v code0_1) h K ?_
  unfold u36 at H
  unfold t36
  have hL : Vars h [] := .nil
  refine eop_alloc 41 zer41 rfl hL (fun b_1 h_1 hb_1 hf_1 hL_1 => ?_)
  refine eop_alloc 43 zer43 rfl hL_1 (fun b_2 h_2 hb_2 hf_2 hL_2 => ?_)
  have H := H b_1 b_2 h_2 (Nat.le_trans (Fr.size (Fr.r (In []) _)) hb_1) (Nat.le_trans (Fr.size (Fr.no' (Fr.r (In []) _) hf_1)) hb_2) (Fr.no' (Fr.no' (Fr.r (In []) _) hf_1) hf_2) hL_2
  refine H.mono fun rv_1 h_3 H => ?_
  obtain ⟨t5_1, t5_2, t5_3, rfl, hL_3, H⟩ := H
  refine pop_ext (v := (Value.agg #[(Sl.v t5_1)])) rfl ?_
  refine pop_ext (v := (Value.agg #[(Sl.v t5_2), (VI t5_3)])) rfl ?_
  refine uop_loc siz41 hL_3 1 rfl 0 [(Sl.v t5_1)] rfl rfl rfl (Nat.le_of_ble_eq_true rfl) (L' := [(b_2, [(Sl.v nilSl), (VI 0)]), (b_1, [(Sl.v t5_1)])]) rfl (fun h_4 hf_3 hL_4 => ?_)
  refine uop_loc siz43 hL_4 0 rfl 0 [(Sl.v t5_2), (VI t5_3)] rfl rfl rfl (Nat.le_of_ble_eq_true rfl) (L' := [(b_2, [(Sl.v t5_2), (VI t5_3)]), (b_1, [(Sl.v t5_1)])]) rfl (fun h_5 hf_4 hL_5 => ?_)
  refine rop_locA agg41 hL_5 1 rfl 0 (vs := [(Sl.v t5_1)]) rfl rfl ?_
  refine rop_locA agg43 hL_5 0 rfl 0 (vs := [(Sl.v t5_2), (VI t5_3)]) rfl rfl ?_
  have H := H  h_5  (Fr.old (Fr.old (Fr.r (In []) _) hf_3) hf_4) hL_5
  exact H
def u37 (P : Program) (g0_1 : Sl) (w1_1 : Sl) (w1_2 : Int) (h : Heap) (K : Value → Heap → Prop) : Prop :=
  ∀ (b_1 : Nat) (b_2 : Nat) (b_3 : Nat) (h_3 : Heap), h.size ≤ b_1 → h.size ≤ b_2 → h.size ≤ b_3 → Fr (In []) h h_3 → Vars h_3 [(b_3, [(Sl.v nilSl), (VI 0)]), (b_2, [(Sl.v w1_1), (VI w1_2)]), (b_1, [(Sl.v g0_1)])] →
  callM P 62 #[(Value.agg #[(Sl.v g0_1)]), (Value.agg #[(Sl.v w1_1), (VI w1_2)])] h_3 fun rv_1 h_4 => ∃ t10_1 : Bool, rv_1 = (VB t10_1) ∧ Vars h_4 [(b_3, [(Sl.v nilSl), (VI 0)]), (b_2, [(Sl.v w1_1), (VI w1_2)]), (b_1, [(Sl.v g0_1)])] ∧
  ((!t10_1) = true →
  ∀ (h_5 : Heap), Fr (In [b_3]) h_4 h_5 → Vars h_5 [(b_3, [(Sl.v nilSl), (VI 0)]), (b_2, [(Sl.v w1_1), (VI w1_2)]), (b_1, [(Sl.v g0_1)])] →
  K (Value.tuple #[(Value.agg #[(Sl.v nilSl), (VI 0)]), (VB false)]) h_5) ∧
  ((!t10_1) = false →
  callM P 80 #[(Value.agg #[(Sl.v g0_1)]), (Value.agg #[(Sl.v w1_1), (VI w1_2)])] h_4 fun rv_2 h_6 => ∃ t16_1 : Sl, ∃ t16_2 : Int, ∃ t16_3 : Bool, rv_2 = (Value.tuple #[(Value.agg #[(Sl.v t16_1), (VI t16_2)]), (VB t16_3)]) ∧ Vars h_6 [(b_3, [(Sl.v nilSl), (VI 0)]), (b_2, [(Sl.v w1_1), (VI w1_2)]), (b_1, [(Sl.v g0_1)])] ∧
  ((!t16_3) = true →
  ∀ (b_4 : Nat) (h_9 : Heap), h_6.size ≤ b_4 → Fr (In [b_3]) h_6 h_9 → Vars h_9 [(b_4, [(Sl.v t16_1), (VI t16_2)]), (b_3, [(Sl.v nilSl), (VI 0)]), (b_2, [(Sl.v w1_1), (VI w1_2)]), (b_1, [(Sl.v g0_1)])] →
  K (Value.tuple #[(Value.agg #[(Sl.v nilSl), (VI 0)]), (VB false)]) h_9) ∧
  ((!t16_3) = false →
  ∀ (b_4 : Nat) (h_10 : Heap), h_6.size ≤ b_4 → Fr (In [b_3]) h_6 h_10 → Vars h_10 [(b_4, [(Sl.v t16_1), (VI t16_2)]), (b_3, [(Sl.v t16_1), (VI t16_2)]), (b_2, [(Sl.v w1_1), (VI w1_2)]), (b_1, [(Sl.v g0_1)])] →
  K (Value.tuple #[(Value.agg #[(Sl.v t16_1), (VI t16_2)]), (VB true)]) h_10))
theorem v37 (g0_1 : Sl) (w1_1 : Sl) (w1_2 : Int) (h : Heap) (K : Value → Heap → Prop) (H : u37 Tryd.prog g0_1 w1_1 w1_2 h K) : callM Tryd.prog 37 #[(Value.agg #[(Sl.v g0_1)]), (Value.agg #[(Sl.v w1_1), (VI w1_2)])] h K := by
  refine c37 (Value.agg #[(Sl.v g0_1)]) (Value.agg #[(Sl.v w1_1), (VI w1_2)]) h K ?_
  unfold u37 at H
  unfold t37
  have hL : Vars h [] := .nil
  refine eop_box 41 (Value.agg #[(Sl.v g0_1)]) rfl hL (fun b_1 h_1 hb_1 hf_1 hL_1 => ?_)
  refine eop_box 43 (Value.agg #[(Sl.v w1_1), (VI w1_2)]) rfl hL_1 (fun b_2 h_2 hb_2 hf_2 hL_2 => ?_)
  refine eop_alloc 43 zer43 rfl hL_2 (fun b_3 h_3 hb_3 hf_3 hL_3 => ?_)
  refine rop_locA agg41 hL_3 2 rfl 0 (vs := [(Sl.v g0_1)]) rfl rfl ?_
  refine rop_locA agg43 hL_3 1 rfl 0 (vs := [(Sl.v w1_1), (VI w1_2)]) rfl rfl ?_
  have H := H b_1 b_2 b_3 h_3 (Nat.le_trans (Fr.size (Fr.r (In []) _)) hb_1) (Nat.le_trans (Fr.size (Fr.no' (Fr.r (In []) _) hf_1)) hb_2) (Nat.le_trans (Fr.size (Fr.no' (Fr.no' (Fr.r (In []) _) hf_1) hf_2)) hb_3) (Fr.no' (Fr.no' (Fr.no' (Fr.r (In []) _) hf_1) hf_2) hf_3) hL_3
  refine H.mono fun rv_1 h_4 H => ?_
  obtain ⟨t10_1, rfl, hL_4, H⟩ := H
  refine pop_not t10_1 ?_
  refine condM_b (fun hb_4 => ?_) (fun hb_4 => ?_)
  ·have H := H.1 hb_4
   refine pop.mk' (v := (Value.agg #[(Sl.v nilSl), (VI 0)])) (fun w => by kernel_rfl) ?_
   refine uop_loc siz43 hL_4 0 rfl 0 [(Sl.v nilSl), (VI 0)] rfl rfl rfl (Nat.le_of_ble_eq_true rfl) (L' := [(b_3, [(Sl.v nilSl), (VI 0)]), (b_2, [(Sl.v w1_1), (VI w1_2)]), (b_1, [(Sl.v g0_1)])]) rfl (fun h_5 hf_4 hL_5 => ?_)
   refine rop_locA agg43 hL_5 0 rfl 0 (vs := [(Sl.v nilSl), (VI 0)]) rfl rfl ?_
   have H := H  h_5  (Fr.old (Fr.r (In []) _) hf_4) hL_5
   exact H
  have H := H.2 hb_4
  refine rop_locA agg41 hL_4 2 rfl 0 (vs := [(Sl.v g0_1)]) rfl rfl ?_
  refine rop_locA agg43 hL_4 1 rfl 0 (vs := [(Sl.v w1_1), (VI w1_2)]) rfl rfl ?_
  refine H.mono fun rv_2 h_6 H => ?_
  obtain ⟨t16_1, t16_2, t16_3, rfl, hL_6, H⟩ := H
  refine pop_ext (v := (Value.agg #[(Sl.v t16_1), (VI t16_2)])) rfl ?_
  refine pop_ext (v := (VB t16_3)) rfl ?_
  refine eop_alloc 43 zer43 rfl hL_6 (fun b_4 h_7 hb_5 hf_5 hL_7 => ?_)
  refine uop_loc siz43 hL_7 0 rfl 0 [(Sl.v t16_1), (VI t16_2)] rfl rfl rfl (Nat.le_of_ble_eq_true rfl) (L' := [(b_4, [(Sl.v t16_1), (VI t16_2)]), (b_3, [(Sl.v nilSl), (VI 0)]), (b_2, [(Sl.v w1_1), (VI w1_2)]), (b_1, [(Sl.v g0_1)])]) rfl (fun h_8 hf_6 hL_8 => ?_)
  refine pop_not t16_3 ?_
  refine condM_b (fun hb_6 => ?_) (fun hb_6 => ?_)
  ·have H := H.1 hb_6
   refine pop.mk' (v := (Value.agg #[(Sl.v nilSl), (VI 0)])) (fun w => by kernel_rfl) ?_
   refine uop_loc siz43 hL_8 1 rfl 0 [(Sl.v nilSl), (VI 0)] rfl rfl rfl (Nat.le_of_ble_eq_true rfl) (L' := [(b_4, [(Sl.v t16_1), (VI t16_2)]), (b_3, [(Sl.v nilSl), (VI 0)]), (b_2, [(Sl.v w1_1), (VI w1_2)]), (b_1, [(Sl.v g0_1)])]) rfl (fun h_9 hf_7 hL_9 => ?_)
   refine rop_locA agg43 hL_9 1 rfl 0 (vs := [(Sl.v nilSl), (VI 0)]) rfl rfl ?_
   have H := H b_4 h_9 (Nat.le_trans (Fr.size (Fr.r (In []) _)) hb_5) (Fr.old (Fr.new (Fr.no' (Fr.r (In []) _) hf_5) (Nat.le_trans (Fr.size (Fr.r (In []) _)) hb_5) hf_6) hf_7) hL_9
   exact H
  have H := H.2 hb_6
  refine rop_locA agg43 hL_8 0 rfl 0 (vs := [(Sl.v t16_1), (VI t16_2)]) rfl rfl ?_
  refine uop_loc siz43 hL_8 1 rfl 0 [(Sl.v t16_1), (VI t16_2)] rfl rfl rfl (Nat.le_of_ble_eq_true rfl) (L' := [(b_4, [(Sl.v t16_1), (VI t16_2)]), (b_3, [(Sl.v t16_1), (VI t16_2)]), (b_2, [(Sl.v w1_1), (VI w1_2)]), (b_1, [(Sl.v g0_1)])]) rfl (fun h_10 hf_8 hL_10 => ?_)
  refine rop_locA agg43 hL_10 1 rfl 0 (vs := [(Sl.v t16_1), (VI t16_2)]) rfl rfl ?_
  have H := H b_4 h_10 (Nat.le_trans (Fr.size (Fr.r (In []) _)) hb_5) (Fr.old (Fr.new (Fr.no' (Fr.r (In []) _) hf_5) (Nat.le_trans (Fr.size (Fr.r (In []) _)) hb_5) hf_6) hf_8) hL_10
  exact H
def u38 (P : Program) (g0_1 : Sl) (w1_1 : Sl) (w1_2 : Int) (h : Heap) (K : Value → Heap → Prop) : Prop :=
  ∀ (b_1 : Nat) (b_2 : Nat) (h_2 : Heap), h.size ≤ b_1 → h.size ≤ b_2 → Fr (In []) h h_2 → Vars h_2 [(b_2, [(Sl.v w1_1), (VI w1_2)]), (b_1, [(Sl.v g0_1)])] →
  callM P 65 #[(Value.agg #[(Sl.v g0_1)]), (Value.agg #[(Sl.v w1_1), (VI w1_2)])] h_2 fun rv_1 h_3 => ∃ t12_1 : Bool, rv_1 = (VB t12_1) ∧ Vars h_3 [(b_2, [(Sl.v w1_1), (VI w1_2)]), (b_1, [(Sl.v g0_1)])] ∧
  ((!t12_1) = true →
  K (Value.tuple #[(Sl.v nilSl), (VB false)]) h_3) ∧
  ((!t12_1) = false →
  eop P (Instr.buildSlice 65 0 #[]) h_3 fun rv_2 h_4 => ∃ t14_1 : Sl, rv_2 = (Sl.v t14_1) ∧ Vars h_4 [(b_2, [(Sl.v w1_1), (VI w1_2)]), (b_1, [(Sl.v g0_1)])] ∧
  ∃ J_1 : Nat → Sl → Int → Heap → Prop, (∃ n0 : Nat, J_1 n0 t14_1 0 h_4) ∧
  ∀ (n_1 : Nat) (out6_1 : Sl) (t18_1 : Int) (h_5 : Heap), J_1 n_1 out6_1 t18_1 h_5 → Vars h_5 [(b_2, [(Sl.v w1_1), (VI w1_2)]), (b_1, [(Sl.v g0_1)])] →
  ((decide (t18_1 < (g0_1.n : Int))) = true →
  InB g0_1 t18_1 ∧
  ∃ t22_1 : Sl, hcell h_5 (Sl.at g0_1 t18_1 1) = some (Sl.v t22_1) ∧
  ((decide (0 < (t22_1.n : Int))) = true →
  InB w1_1 t18_1 ∧
  ∃ t32_1 : Int, hcell h_5 (Sl.at w1_1 t18_1 1) = some (VI t32_1) ∧
  InB t22_1 t32_1 ∧
  ∃ t34_1 : Int, hcell h_5 (Sl.at t22_1 t32_1 1) = some (VI t34_1) ∧
  ((decide (t34_1 = w1_2)) = true →
  callM P 69 #[(Value.agg #[(Sl.v w1_1), (VI w1_2)])] h_5 fun rv_3 h_6 => ∃ t40_1 : Sl, ∃ t40_2 : Int, rv_3 = (Value.agg #[(Sl.v t40_1), (VI t40_2)]) ∧ Vars h_6 [(b_2, [(Sl.v w1_1), (VI w1_2)]), (b_1, [(Sl.v g0_1)])] ∧
  InB w1_1 t18_1 ∧
  ∀ (b_3 : Nat) (h_8 : Heap), h_6.size ≤ b_3 → Fr (In []) h_6 h_8 → Vars h_8 [(b_3, [(Sl.v t40_1), (VI t40_2)]), (b_2, [(Sl.v w1_1), (VI w1_2)]), (b_1, [(Sl.v g0_1)])] →
  ∃ t49_1 : Int, hcell h_8 (Sl.at w1_1 t18_1 1) = some (VI t49_1) ∧
  (t22_1.n : Int) ≠ 0 ∧
  ∀ (h_9 : Heap), Fr (In [b_3]) h_8 h_9 → Vars h_9 [(b_3, [(Sl.v t40_1), (VI t18_1)]), (b_2, [(Sl.v w1_1), (VI w1_2)]), (b_1, [(Sl.v g0_1)])] →
  hcell h_9 (Sl.at w1_1 t18_1 1) = some (VI t49_1) ∧
  InB t40_1 t18_1 ∧
  Writable h_9 (Sl.at t40_1 t18_1 1) ∧ Vars (hset h_9 (Sl.at t40_1 t18_1 1) (VI (Int.tmod (w64 ((w64 (t49_1 + (t22_1.n : Int))) - 1)) (t22_1.n : Int)))) [(b_3, [(Sl.v t40_1), (VI t18_1)]), (b_2, [(Sl.v w1_1), (VI w1_2)]), (b_1, [(Sl.v g0_1)])] ∧
  ∀ h_10 : Heap, h_10 = hset h_9 (Sl.at t40_1 t18_1 1) (VI (Int.tmod (w64 ((w64 (t49_1 + (t22_1.n : Int))) - 1)) (t22_1.n : Int))) → Vars h_10 [(b_3, [(Sl.v t40_1), (VI t18_1)]), (b_2, [(Sl.v w1_1), (VI w1_2)]), (b_1, [(Sl.v g0_1)])] →
  eop P (Instr.buildSlice 65 1 #[(0, (Value.agg #[(Sl.v t40_1), (VI t18_1)]))]) h_10 fun rv_4 h_11 => ∃ t61_1 : Sl, rv_4 = (Sl.v t61_1) ∧ Vars h_11 [(b_3, [(Sl.v t40_1), (VI t18_1)]), (b_2, [(Sl.v w1_1), (VI w1_2)]), (b_1, [(Sl.v g0_1)])] ∧
  eop P (appS 65 65 65 (Sl.v out6_1) (Sl.v t61_1)) h_11 fun rv_5 h_12 => ∃ t62_1 : Sl, rv_5 = (Sl.v t62_1) ∧ Vars h_12 [(b_3, [(Sl.v t40_1), (VI t18_1)]), (b_2, [(Sl.v w1_1), (VI w1_2)]), (b_1, [(Sl.v g0_1)])] ∧
  ∃ m : Nat, m < n_1 ∧ J_1 m t62_1 (w64 (t18_1 + 1)) h_12) ∧
  ((decide (t34_1 = w1_2)) = false →
  ∃ m : Nat, m < n_1 ∧ J_1 m out6_1 (w64 (t18_1 + 1)) h_5)) ∧
  ((decide (0 < (t22_1.n : Int))) = false →
  ∃ m : Nat, m < n_1 ∧ J_1 m out6_1 (w64 (t18_1 + 1)) h_5)) ∧
  ((decide (t18_1 < (g0_1.n : Int))) = false →
  K (Value.tuple #[(Sl.v out6_1), (VB true)]) h_5))
theorem v38 (g0_1 : Sl) (w1_1 : Sl) (w1_2 : Int) (h : Heap) (K : Value → Heap → Prop) (H : u38 Tryd.prog g0_1 w1_1 w1_2 h K) : callM Tryd.prog 38 #[(Value.agg #[(Sl.v g0_1)]), (Value.agg #[(Sl.v w1_1), (VI w1_2)])] h K := by
  refine c38 (Value.agg #[(Sl.v g0_1)]) (Value.agg #[(Sl.v w1_1), (VI w1_2)]) h K ?_
  unfold u38 at H
  unfold t38
  have hL : Vars h [] := .nil
  refine eop_box 41 (Value.agg #[(Sl.v g0_1)]) rfl hL (fun b_1 h_1 hb_1 hf_1 hL_1 => ?_)
  refine eop_box 43 (Value.agg #[(Sl.v w1_1), (VI w1_2)]) rfl hL_1 (fun b_2 h_2 hb_2 hf_2 hL_2 => ?_)
  refine rop_locA agg41 hL_2 1 rfl 0 (vs := [(Sl.v g0_1)]) rfl rfl ?_
  refine rop_locA agg43 hL_2 0 rfl 0 (vs := [(Sl.v w1_1), (VI w1_2)]) rfl rfl ?_
  have H := H b_1 b_2 h_2 (Nat.le_trans (Fr.size (Fr.r (In []) _)) hb_1) (Nat.le_trans (Fr.size (Fr.no' (Fr.r (In []) _) hf_1)) hb_2) (Fr.no' (Fr.no' (Fr.r (In []) _) hf_1) hf_2) hL_2
  refine H.mono fun rv_1 h_3 H => ?_
  obtain ⟨t12_1, rfl, hL_3, H⟩ := H
  refine pop_not t12_1 ?_
  refine condM_b (fun hb_3 => ?_) (fun hb_3 => ?_)
  ·have H := H.1 hb_3
   exact H
  have H := H.2 hb_3
  refine H.mono fun rv_2 h_4 H => ?_
  obtain ⟨t14_1, rfl, hL_4, H⟩ := H
  refine pop_field 0 fld41_0 b_1 0 ?_
  refine rop_loc one22 hL_4 1 rfl 0 (v := (Sl.v g0_1)) rfl ?_
  refine pop_len g0_1 _ _ sli22 ?_
  obtain ⟨J_1, ⟨n_2, h0_1⟩, HB_1⟩ := H
  refine loop_intro (J := fun (n : Nat) (vs : List Value) (h' : Heap) => ∃ out6_1 : Sl, ∃ t18_1 : Int, vs = [(Sl.v out6_1), (VI t18_1)] ∧ J_1 n out6_1 t18_1 h' ∧ Vars h' [(b_2, [(Sl.v w1_1), (VI w1_2)]), (b_1, [(Sl.v g0_1)])]) n_2 ⟨t14_1, 0, rfl, h0_1, hL_4⟩ ?_
  intro I_1 mu_1 hI_1 junk_1 tv_1 tv_2 h_5 hi_1
  obtain ⟨n_1, ⟨out6_1, t18_1, hv, hJ_1, hL_5⟩, hn_1⟩ := hI_1 _ _ hi_1
  cases hv
  have H := HB_1 n_1 out6_1 t18_1 h_5 hJ_1 hL_5
  refine pop_lss .i64 t18_1 (g0_1.n : Int) ?_
  refine condM_b (fun hb_4 => ?_) (fun hb_4 => ?_)
  rotate_left
  ·have H := H.2 hb_4
   exact H
  have H := H.1 hb_4
  obtain ⟨hi_2, H⟩ := H
  refine pop_index sli22 siz34 .i64 g0_1 t18_1 hi_2 ?_
  obtain ⟨t22_1, hc_5, H⟩ := H
  refine rop_one one34 (Sl.v t22_1) hc_5 ?_
  refine pop_len t22_1 _ _ sli34 ?_
  refine pop_gtr .i64 (t22_1.n : Int) 0 ?_
  refine guardM_st (fun hb_5 => ?_) (fun hb_5 => ?_)
  rotate_left
  ·have H := H.2 hb_5
   refine guardM_n' hb_5 (by decide) ?_
   refine guardM_n' hb_5 (by decide) ?_
   refine guardM_n' hb_5 (by decide) ?_
   refine guardM_n' hb_5 (by decide) ?_
   refine guardM_n' hb_5 (by decide) ?_
   refine guardM_n' hb_5 (by decide) ?_
   refine guardM_n' hb_5 (by decide) ?_
   refine guardM_n' hb_5 (by decide) ?_
   refine guardM_n' hb_5 (by decide) ?_
   refine guardM_n' hb_5 (by decide) ?_
   refine pop_pickf' hb_5 ?_
   refine condM_f ?_
   refine pop_add .i64 t18_1 1 ?_
   obtain ⟨m_3, hm_3, H⟩ := H
   exact hn_1 _ _ ⟨m_3, hm_3, out6_1, (w64 (t18_1 + 1)), rfl, H, hL_5⟩
  have H := H.1 hb_5
  refine guardM_y' hb_5 ?_
  refine pop_field 0 fld43_0 b_2 0 ?_
  refine guardM_y' hb_5 ?_
  refine rop_loc one34 hL_5 0 rfl 0 (v := (Sl.v w1_1)) rfl ?_
  refine guardM_y' hb_5 ?_
  refine guardM_y' hb_5 ?_
  obtain ⟨hi_3, H⟩ := H
  refine pop_index sli34 siz3 .i64 w1_1 t18_1 hi_3 ?_
  refine guardM_y' hb_5 ?_
  obtain ⟨t32_1, hc_4, H⟩ := H
  refine rop_one one3 (VI t32_1) hc_4 ?_
  refine guardM_y' hb_5 ?_
  obtain ⟨hi_4, H⟩ := H
  refine pop_index sli34 siz3 .i64 t22_1 t32_1 hi_4 ?_
  refine guardM_y' hb_5 ?_
  obtain ⟨t34_1, hc_3, H⟩ := H
  refine rop_one one3 (VI t34_1) hc_3 ?_
  refine guardM_y' hb_5 ?_
  refine pop_field 1 fld43_1 b_2 0 ?_
  refine guardM_y' hb_5 ?_
  refine rop_loc one3 hL_5 0 rfl 1 (v := (VI w1_2)) rfl ?_
  refine guardM_y' hb_5 ?_
  refine pop_ieq .i64 _ _ t34_1 w1_2 ?_
  refine pop_pickt' hb_5 ?_
  refine condM_b (fun hb_6 => ?_) (fun hb_6 => ?_)
  rotate_left
  ·have H := H.2 hb_6
   refine pop_add .i64 t18_1 1 ?_
   obtain ⟨m_2, hm_2, H⟩ := H
   exact hn_1 _ _ ⟨m_2, hm_2, out6_1, (w64 (t18_1 + 1)), rfl, H, hL_5⟩
  have H := H.1 hb_6
  refine rop_locA agg43 hL_5 0 rfl 0 (vs := [(Sl.v w1_1), (VI w1_2)]) rfl rfl ?_
  refine H.mono fun rv_3 h_6 H => ?_
  obtain ⟨t40_1, t40_2, rfl, hL_6, H⟩ := H
  refine eop_alloc 43 zer43 rfl hL_6 (fun b_3 h_7 hb_7 hf_3 hL_7 => ?_)
  refine uop_loc siz43 hL_7 0 rfl 0 [(Sl.v t40_1), (VI t40_2)] rfl rfl rfl (Nat.le_of_ble_eq_true rfl) (L' := [(b_3, [(Sl.v t40_1), (VI t40_2)]), (b_2, [(Sl.v w1_1), (VI w1_2)]), (b_1, [(Sl.v g0_1)])]) rfl (fun h_8 hf_4 hL_8 => ?_)
  refine pop_field 0 fld43_0 b_3 0 ?_
  refine rop_loc one34 hL_8 0 rfl 0 (v := (Sl.v t40_1)) rfl ?_
  refine pop_field 0 fld43_0 b_2 0 ?_
  refine rop_loc one34 hL_8 1 rfl 0 (v := (Sl.v w1_1)) rfl ?_
  obtain ⟨hi_5, H⟩ := H
  refine pop_index sli34 siz3 .i64 w1_1 t18_1 hi_5 ?_
  have H := H b_3 h_8 (Nat.le_trans (Fr.size (Fr.r (In []) _)) hb_7) (Fr.new (Fr.no' (Fr.r (In []) _) hf_3) (Nat.le_trans (Fr.size (Fr.r (In []) _)) hb_7) hf_4) hL_8
  obtain ⟨t49_1, hc_2, H⟩ := H
  refine rop_one one3 (VI t49_1) hc_2 ?_
  refine pop_len t22_1 _ _ sli34 ?_
  refine pop_add .i64 t49_1 (t22_1.n : Int) ?_
  refine pop_sub .i64 (w64 (t49_1 + (t22_1.n : Int))) 1 ?_
  refine pop_len t22_1 _ _ sli34 ?_
  obtain ⟨hz_1, H⟩ := H
  refine pop_rem .i64 (w64 ((w64 (t49_1 + (t22_1.n : Int))) - 1)) (t22_1.n : Int) hz_1 ?_
  refine pop_field 1 fld43_1 b_3 0 ?_
  refine uop_loc siz3 hL_8 0 rfl 1 [(VI t18_1)] rfl rfl rfl (Nat.le_of_ble_eq_true rfl) (L' := [(b_3, [(Sl.v t40_1), (VI t18_1)]), (b_2, [(Sl.v w1_1), (VI w1_2)]), (b_1, [(Sl.v g0_1)])]) rfl (fun h_9 hf_5 hL_9 => ?_)
  have H := H  h_9  (Fr.old (Fr.r (In []) _) hf_5) hL_9
  refine ⟨?_, ?_⟩
  ·exact still_one one3 H.1
  obtain ⟨hc_1, H⟩ := H
  refine ⟨?_, ?_⟩
  ·exact still_loc one34 hL_9 1 rfl 0 (v := (Sl.v w1_1)) rfl
  obtain ⟨hi_6, H⟩ := H
  refine pop_index sli34 siz3 .i64 t40_1 t18_1 hi_6 ?_
  obtain ⟨hw_1, hL_10, H⟩ := H
  refine uop_cell (v := (VI (Int.tmod (w64 ((w64 (t49_1 + (t22_1.n : Int))) - 1)) (t22_1.n : Int)))) siz3 hw_1 rfl (fun h_10 he_1 => ?_)
  rw [← he_1] at hL_10
  have H := H h_10 he_1 hL_10
  refine rop_locA agg43 hL_10 0 rfl 0 (vs := [(Sl.v t40_1), (VI t18_1)]) rfl rfl ?_
  refine H.mono fun rv_4 h_11 H => ?_
  obtain ⟨t61_1, rfl, hL_11, H⟩ := H
  refine H.mono fun rv_5 h_12 H => ?_
  obtain ⟨t62_1, rfl, hL_12, H⟩ := H
  refine pop_add .i64 t18_1 1 ?_
  obtain ⟨m_1, hm_1, H⟩ := H
  exact hn_1 _ _ ⟨m_1, hm_1, t62_1, (w64 (t18_1 + 1)), rfl, H, (Vars.tail hL_12)⟩
def u39 (P : Program) (g0_1 : Sl) (w1_1 : Sl) (w1_2 : Int) (h : Heap) (K : Value → Heap → Prop) : Prop :=
  ∀ (b_1 : Nat) (b_2 : Nat) (h_2 : Heap), h.size ≤ b_1 → h.size ≤ b_2 → Fr (In []) h h_2 → Vars h_2 [(b_2, [(Sl.v w1_1), (VI w1_2)]), (b_1, [(Sl.v g0_1)])] →
  callM P 62 #[(Value.agg #[(Sl.v g0_1)]), (Value.agg #[(Sl.v w1_1), (VI w1_2)])] h_2 fun rv_1 h_3 => ∃ t12_1 : Bool, rv_1 = (VB t12_1) ∧ Vars h_3 [(b_2, [(Sl.v w1_1), (VI w1_2)]), (b_1, [(Sl.v g0_1)])] ∧
  ((!t12_1) = true →
  K (Value.tuple #[(Sl.v nilSl), (VB false)]) h_3) ∧
  ((!t12_1) = false →
  ∃ J_1 : Nat → Sl → Int → Heap → Prop, (∃ n0 : Nat, J_1 n0 nilSl 0 h_3) ∧
  ∀ (n_1 : Nat) (out6_1 : Sl) (t17_1 : Int) (h_4 : Heap), J_1 n_1 out6_1 t17_1 h_4 → Vars h_4 [(b_2, [(Sl.v w1_1), (VI w1_2)]), (b_1, [(Sl.v g0_1)])] →
  ((decide (t17_1 < (g0_1.n : Int))) = true →
  InB g0_1 t17_1 ∧
  ∃ t21_1 : Sl, hcell h_4 (Sl.at g0_1 t17_1 1) = some (Sl.v t21_1) ∧
  ((decide ((t21_1.n : Int) = 0)) = true →
  ∃ m : Nat, m < n_1 ∧ J_1 m out6_1 (w64 (t17_1 + 1)) h_4) ∧
  ((decide ((t21_1.n : Int) = 0)) = false →
  InB w1_1 t17_1 ∧
  ∃ t31_1 : Int, hcell h_4 (Sl.at w1_1 t17_1 1) = some (VI t31_1) ∧
  InB t21_1 t31_1 ∧
  ∃ t33_1 : Int, hcell h_4 (Sl.at t21_1 t31_1 1) = some (VI t33_1) ∧
  ((!decide (t33_1 = w1_2)) = true →
  ∃ m : Nat, m < n_1 ∧ J_1 m out6_1 (w64 (t17_1 + 1)) h_4) ∧
  ((!decide (t33_1 = w1_2)) = false →
  callM P 77 #[(Sl.v w1_1)] h_4 fun rv_2 h_5 => ∃ t40_1 : Sl, rv_2 = (Sl.v t40_1) ∧ Vars h_5 [(b_2, [(Sl.v w1_1), (VI w1_2)]), (b_1, [(Sl.v g0_1)])] ∧
  InB w1_1 t17_1 ∧
  ∀ (b_3 : Nat) (h_7 : Heap), h_5.size ≤ b_3 → Fr (In []) h_5 h_7 → Vars h_7 [(b_3, [(Sl.v t40_1), (VI t17_1)]), (b_2, [(Sl.v w1_1), (VI w1_2)]), (b_1, [(Sl.v g0_1)])] →
  ∃ t50_1 : Int, hcell h_7 (Sl.at w1_1 t17_1 1) = some (VI t50_1) ∧
  (t21_1.n : Int) ≠ 0 ∧
  InB t40_1 t17_1 ∧
  Writable h_7 (Sl.at t40_1 t17_1 1) ∧ Vars (hset h_7 (Sl.at t40_1 t17_1 1) (VI (Int.tmod (w64 ((w64 (t50_1 + (t21_1.n : Int))) - 1)) (t21_1.n : Int)))) [(b_3, [(Sl.v t40_1), (VI t17_1)]), (b_2, [(Sl.v w1_1), (VI w1_2)]), (b_1, [(Sl.v g0_1)])] ∧
  ∀ h_8 : Heap, h_8 = hset h_7 (Sl.at t40_1 t17_1 1) (VI (Int.tmod (w64 ((w64 (t50_1 + (t21_1.n : Int))) - 1)) (t21_1.n : Int))) → Vars h_8 [(b_3, [(Sl.v t40_1), (VI t17_1)]), (b_2, [(Sl.v w1_1), (VI w1_2)]), (b_1, [(Sl.v g0_1)])] →
  eop P (Instr.buildSlice 65 1 #[(0, (Value.agg #[(Sl.v t40_1), (VI t17_1)]))]) h_8 fun rv_3 h_9 => ∃ t61_1 : Sl, rv_3 = (Sl.v t61_1) ∧ Vars h_9 [(b_3, [(Sl.v t40_1), (VI t17_1)]), (b_2, [(Sl.v w1_1), (VI w1_2)]), (b_1, [(Sl.v g0_1)])] ∧
  eop P (appS 65 65 65 (Sl.v out6_1) (Sl.v t61_1)) h_9 fun rv_4 h_10 => ∃ t62_1 : Sl, rv_4 = (Sl.v t62_1) ∧ Vars h_10 [(b_3, [(Sl.v t40_1), (VI t17_1)]), (b_2, [(Sl.v w1_1), (VI w1_2)]), (b_1, [(Sl.v g0_1)])] ∧
  ∃ m : Nat, m < n_1 ∧ J_1 m t62_1 (w64 (t17_1 + 1)) h_10))) ∧
  ((decide (t17_1 < (g0_1.n : Int))) = false →
  K (Value.tuple #[(Sl.v out6_1), (VB true)]) h_4))
theorem v39 (g0_1 : Sl) (w1_1 : Sl) (w1_2 : Int) (h : Heap) (K : Value → Heap → Prop) (H : u39 Tryd.prog g0_1 w1_1 w1_2 h K) : callM Tryd.prog 39 #[(Value.agg #[(Sl.v g0_1)]), (Value.agg #[(Sl.v w1_1), (VI w1_2)])] h K := by
  refine c39 (Value.agg #[(Sl.v g0_1)]) (Value.agg #[(Sl.v w1_1), (VI w1_2)]) h K ?_
  unfold u39 at H
  unfold t39
  have hL : Vars h [] := .nil
  refine eop_box 41 (Value.agg #[(Sl.v g0_1)]) rfl hL (fun b_1 h_1 hb_1 hf_1 hL_1 => ?_)
  refine eop_box 43 (Value.agg #[(Sl.v w1_1), (VI w1_2)]) rfl hL_1 (fun b_2 h_2 hb_2 hf_2 hL_2 => ?_)
  refine rop_locA agg41 hL_2 1 rfl 0 (vs := [(Sl.v g0_1)]) rfl rfl ?_
  refine rop_locA agg43 hL_2 0 rfl 0 (vs := [(Sl.v w1_1), (VI w1_2)]) rfl rfl ?_
  have H := H b_1 b_2 h_2 (Nat.le_trans (Fr.size (Fr.r (In []) _)) hb_1) (Nat.le_trans (Fr.size (Fr.no' (Fr.r (In []) _) hf_1)) hb_2) (Fr.no' (Fr.no' (Fr.r (In []) _) hf_1) hf_2) hL_2
  refine H.mono fun rv_1 h_3 H => ?_
  obtain ⟨t12_1, rfl, hL_3, H⟩ := H
  refine pop_not t12_1 ?_
  refine condM_b (fun hb_3 => ?_) (fun hb_3 => ?_)
  ·have H := H.1 hb_3
   exact H
  have H := H.2 hb_3
  refine pop_field 0 fld41_0 b_1 0 ?_
  refine rop_loc one22 hL_3 1 rfl 0 (v := (Sl.v g0_1)) rfl ?_
  refine pop_len g0_1 _ _ sli22 ?_
  obtain ⟨J_1, ⟨n_2, h0_1⟩, HB_1⟩ := H
  refine loop_intro (J := fun (n : Nat) (vs : List Value) (h' : Heap) => ∃ out6_1 : Sl, ∃ t17_1 : Int, vs = [(Sl.v out6_1), (VI t17_1)] ∧ J_1 n out6_1 t17_1 h' ∧ Vars h' [(b_2, [(Sl.v w1_1), (VI w1_2)]), (b_1, [(Sl.v g0_1)])]) n_2 ⟨nilSl, 0, rfl, h0_1, hL_3⟩ ?_
  intro I_1 mu_1 hI_1 junk_1 tv_1 tv_2 h_4 hi_1
  obtain ⟨n_1, ⟨out6_1, t17_1, hv, hJ_1, hL_4⟩, hn_1⟩ := hI_1 _ _ hi_1
  cases hv
  have H := HB_1 n_1 out6_1 t17_1 h_4 hJ_1 hL_4
  refine pop_lss .i64 t17_1 (g0_1.n : Int) ?_
  refine condM_b (fun hb_4 => ?_) (fun hb_4 => ?_)
  rotate_left
  ·have H := H.2 hb_4
   exact H
  have H := H.1 hb_4
  obtain ⟨hi_2, H⟩ := H
  refine pop_index sli22 siz34 .i64 g0_1 t17_1 hi_2 ?_
  obtain ⟨t21_1, hc_4, H⟩ := H
  refine rop_one one34 (Sl.v t21_1) hc_4 ?_
  refine pop_len t21_1 _ _ sli34 ?_
  refine pop_ieq .i64 _ _ (t21_1.n : Int) 0 ?_
  refine guardM_sf (fun hb_5 => ?_) (fun hb_5 => ?_)
  rotate_left
  ·have H := H.1 hb_5
   refine guardM_n' hb_5 (by decide) ?_
   refine guardM_n' hb_5 (by decide) ?_
   refine guardM_n' hb_5 (by decide) ?_
   refine guardM_n' hb_5 (by decide) ?_
   refine guardM_n' hb_5 (by decide) ?_
   refine guardM_n' hb_5 (by decide) ?_
   refine guardM_n' hb_5 (by decide) ?_
   refine guardM_n' hb_5 (by decide) ?_
   refine guardM_n' hb_5 (by decide) ?_
   refine guardM_n' hb_5 (by decide) ?_
   refine pop_pickt' hb_5 ?_
   refine condM_t ?_
   refine pop_add .i64 t17_1 1 ?_
   obtain ⟨m_3, hm_3, H⟩ := H
   exact hn_1 _ _ ⟨m_3, hm_3, out6_1, (w64 (t17_1 + 1)), rfl, H, hL_4⟩
  have H := H.2 hb_5
  refine guardM_y' hb_5 ?_
  refine pop_field 0 fld43_0 b_2 0 ?_
  refine guardM_y' hb_5 ?_
  refine rop_loc one34 hL_4 0 rfl 0 (v := (Sl.v w1_1)) rfl ?_
  refine guardM_y' hb_5 ?_
  refine guardM_y' hb_5 ?_
  obtain ⟨hi_3, H⟩ := H
  refine pop_index sli34 siz3 .i64 w1_1 t17_1 hi_3 ?_
  refine guardM_y' hb_5 ?_
  obtain ⟨t31_1, hc_3, H⟩ := H
  refine rop_one one3 (VI t31_1) hc_3 ?_
  refine guardM_y' hb_5 ?_
  obtain ⟨hi_4, H⟩ := H
  refine pop_index sli34 siz3 .i64 t21_1 t31_1 hi_4 ?_
  refine guardM_y' hb_5 ?_
  obtain ⟨t33_1, hc_2, H⟩ := H
  refine rop_one one3 (VI t33_1) hc_2 ?_
  refine guardM_y' hb_5 ?_
  refine pop_field 1 fld43_1 b_2 0 ?_
  refine guardM_y' hb_5 ?_
  refine rop_loc one3 hL_4 0 rfl 1 (v := (VI w1_2)) rfl ?_
  refine guardM_y' hb_5 ?_
  refine pop_ine .i64 _ _ t33_1 w1_2 ?_
  refine pop_pickf' hb_5 ?_
  refine condM_b (fun hb_6 => ?_) (fun hb_6 => ?_)
  ·have H := H.1 hb_6
   refine pop_add .i64 t17_1 1 ?_
   obtain ⟨m_1, hm_1, H⟩ := H
   exact hn_1 _ _ ⟨m_1, hm_1, out6_1, (w64 (t17_1 + 1)), rfl, H, hL_4⟩
  have H := H.2 hb_6
  refine pop_field 0 fld43_0 b_2 0 ?_
  refine rop_loc one34 hL_4 0 rfl 0 (v := (Sl.v w1_1)) rfl ?_
  refine H.mono fun rv_2 h_5 H => ?_
  obtain ⟨t40_1, rfl, hL_5, H⟩ := H
  refine pop.mk' (v := (Value.agg #[(Sl.v t40_1), (VI t17_1)])) (fun w => by kernel_rfl) ?_
  refine eop_alloc 43 zer43 rfl hL_5 (fun b_3 h_6 hb_7 hf_3 hL_6 => ?_)
  refine uop_loc siz43 hL_6 0 rfl 0 [(Sl.v t40_1), (VI t17_1)] rfl rfl rfl (Nat.le_of_ble_eq_true rfl) (L' := [(b_3, [(Sl.v t40_1), (VI t17_1)]), (b_2, [(Sl.v w1_1), (VI w1_2)]), (b_1, [(Sl.v g0_1)])]) rfl (fun h_7 hf_4 hL_7 => ?_)
  refine pop_field 0 fld43_0 b_3 0 ?_
  refine rop_loc one34 hL_7 0 rfl 0 (v := (Sl.v t40_1)) rfl ?_
  refine pop_field 0 fld43_0 b_2 0 ?_
  refine rop_loc one34 hL_7 1 rfl 0 (v := (Sl.v w1_1)) rfl ?_
  obtain ⟨hi_5, H⟩ := H
  refine pop_index sli34 siz3 .i64 w1_1 t17_1 hi_5 ?_
  have H := H b_3 h_7 (Nat.le_trans (Fr.size (Fr.r (In []) _)) hb_7) (Fr.new (Fr.no' (Fr.r (In []) _) hf_3) (Nat.le_trans (Fr.size (Fr.r (In []) _)) hb_7) hf_4) hL_7
  obtain ⟨t50_1, hc_1, H⟩ := H
  refine rop_one one3 (VI t50_1) hc_1 ?_
  refine pop_len t21_1 _ _ sli34 ?_
  refine pop_add .i64 t50_1 (t21_1.n : Int) ?_
  refine pop_sub .i64 (w64 (t50_1 + (t21_1.n : Int))) 1 ?_
  refine pop_len t21_1 _ _ sli34 ?_
  obtain ⟨hz_1, H⟩ := H
  refine pop_rem .i64 (w64 ((w64 (t50_1 + (t21_1.n : Int))) - 1)) (t21_1.n : Int) hz_1 ?_
  obtain ⟨hi_6, H⟩ := H
  refine pop_index sli34 siz3 .i64 t40_1 t17_1 hi_6 ?_
  obtain ⟨hw_1, hL_8, H⟩ := H
  refine uop_cell (v := (VI (Int.tmod (w64 ((w64 (t50_1 + (t21_1.n : Int))) - 1)) (t21_1.n : Int)))) siz3 hw_1 rfl (fun h_8 he_1 => ?_)
  rw [← he_1] at hL_8
  have H := H h_8 he_1 hL_8
  refine rop_locA agg43 hL_8 0 rfl 0 (vs := [(Sl.v t40_1), (VI t17_1)]) rfl rfl ?_
  refine H.mono fun rv_3 h_9 H => ?_
  obtain ⟨t61_1, rfl, hL_9, H⟩ := H
  refine H.mono fun rv_4 h_10 H => ?_
  obtain ⟨t62_1, rfl, hL_10, H⟩ := H
  refine pop_add .i64 t17_1 1 ?_
  obtain ⟨m_2, hm_2, H⟩ := H
  exact hn_1 _ _ ⟨m_2, hm_2, t62_1, (w64 (t17_1 + 1)), rfl, H, (Vars.tail hL_10)⟩
def u40 (P : Program) (w0_1 : Sl) (w0_2 : Int) (h : Heap) (K : Value → Heap → Prop) : Prop :=
  ∀ (b_1 : Nat) (h_1 : Heap), h.size ≤ b_1 → Fr (In []) h h_1 → Vars h_1 [(b_1, [(Sl.v w0_1), (VI w0_2)])] →
  callM P 55 #[(VI (w0_1.n : Int)), (VI 1), (VI 8)] h_1 fun rv_1 h_2 => ∃ t9_1 : Bool, rv_1 = (VB t9_1) ∧ Vars h_2 [(b_1, [(Sl.v w0_1), (VI w0_2)])] ∧
  ((!t9_1) = true →
  K (Value.tuple #[(VS ({ data := #[] })), (VB false)]) h_2) ∧
  ((!t9_1) = false →
  callM P 55 #[(VI w0_2), (VI 0), (VI (w64 ((w0_1.n : Int) - 1)))] h_2 fun rv_2 h_3 => ∃ t16_1 : Bool, rv_2 = (VB t16_1) ∧ Vars h_3 [(b_1, [(Sl.v w0_1), (VI w0_2)])] ∧
  ((!t16_1) = true →
  K (Value.tuple #[(VS ({ data := #[] })), (VB false)]) h_3) ∧
  ((!t16_1) = false →
  callM P 56 #[(Sl.v w0_1), (Value.func (.func 81) #[] #[])] h_3 fun rv_3 h_4 => ∃ t22_1 : Bool, rv_3 = (VB t22_1) ∧ Vars h_4 [(b_1, [(Sl.v w0_1), (VI w0_2)])] ∧
  (t22_1 = true →
  K (Value.tuple #[(VS ({ data := #[] })), (VB false)]) h_4) ∧
  (t22_1 = false →
  callM P 82 #[(Value.agg #[(Sl.v w0_1), (VI w0_2)])] h_4 fun rv_4 h_5 => ∃ t25_1 : ByteArray, rv_4 = (VS t25_1) ∧ Vars h_5 [(b_1, [(Sl.v w0_1), (VI w0_2)])] ∧
  K (Value.tuple #[(VS t25_1), (VB true)]) h_5)))
theorem v40 (w0_1 : Sl) (w0_2 : Int) (h : Heap) (K : Value → Heap → Prop) (H : u40 Tryd.prog w0_1 w0_2 h K) : callM Tryd.prog 40 #[(Value.agg #[(Sl.v w0_1), (VI w0_2)])] h K := by
  refine c40 (Value.agg #[(Sl.v w0_1), (VI w0_2)]) h K ?_
  unfold u40 at H
  unfold t40
  have hL : Vars h [] := .nil
  refine eop_box 43 (Value.agg #[(Sl.v w0_1), (VI w0_2)]) rfl hL (fun b_1 h_1 hb_1 hf_1 hL_1 => ?_)
  refine pop_field 0 fld43_0 b_1 0 ?_
  refine rop_loc one34 hL_1 0 rfl 0 (v := (Sl.v w0_1)) rfl ?_
  refine pop_len w0_1 _ _ sli34 ?_
  have H := H b_1 h_1 (Nat.le_trans (Fr.size (Fr.r (In []) _)) hb_1) (Fr.no' (Fr.r (In []) _) hf_1) hL_1
  refine H.mono fun rv_1 h_2 H => ?_
  obtain ⟨t9_1, rfl, hL_2, H⟩ := H
  refine pop_not t9_1 ?_
  refine guardM_sf (fun hb_2 => ?_) (fun hb_2 => ?_)
  rotate_left
  ·have H := H.1 hb_2
   refine guardM_n' hb_2 (by decide) ?_
   refine guardM_n' hb_2 (by decide) ?_
   refine guardM_n' hb_2 (by decide) ?_
   refine guardM_n' hb_2 (by decide) ?_
   refine guardM_n' hb_2 (by decide) ?_
   refine pop_pickt' hb_2 ?_
   refine guardM_n (by decide) ?_
   refine guardM_n (by decide) ?_
   refine guardM_n (by decide) ?_
   refine pop_pickt _ _ ?_
   refine condM_t ?_
   exact H
  have H := H.2 hb_2
  refine pop_field 1 fld43_1 b_1 0 ?_
  refine guardM_y' hb_2 ?_
  refine rop_loc one3 hL_2 0 rfl 1 (v := (VI w0_2)) rfl ?_
  refine guardM_y' hb_2 ?_
  refine guardM_y' hb_2 ?_
  refine pop_sub .i64 (w0_1.n : Int) 1 ?_
  refine guardM_y' hb_2 ?_
  refine H.mono fun rv_2 h_3 H => ?_
  obtain ⟨t16_1, rfl, hL_3, H⟩ := H
  refine guardM_y' hb_2 ?_
  refine pop_not t16_1 ?_
  refine pop_pickf' hb_2 ?_
  refine guardM_sf (fun hb_3 => ?_) (fun hb_3 => ?_)
  rotate_left
  ·have H := H.1 hb_3
   refine guardM_n' hb_3 (by decide) ?_
   refine guardM_n' hb_3 (by decide) ?_
   refine pop_pickt' hb_3 ?_
   refine condM_t ?_
   exact H
  have H := H.2 hb_3
  refine pop_field 0 fld43_0 b_1 0 ?_
  refine guardM_y' hb_3 ?_
  refine rop_loc one34 hL_3 0 rfl 0 (v := (Sl.v w0_1)) rfl ?_
  refine guardM_y' hb_3 ?_
  refine H.mono fun rv_3 h_4 H => ?_
  obtain ⟨t22_1, rfl, hL_4, H⟩ := H
  refine pop_pickf' hb_3 ?_
  refine condM_b (fun hb_4 => ?_) (fun hb_4 => ?_)
  ·have H := H.1 hb_4
   exact H
  have H := H.2 hb_4
  refine rop_locA agg43 hL_4 0 rfl 0 (vs := [(Sl.v w0_1), (VI w0_2)]) rfl rfl ?_
  refine H.mono fun rv_4 h_5 H => ?_
  obtain ⟨t25_1, rfl, hL_5, H⟩ := H
  exact H
def u41 (P : Program) (w0_1 : Sl) (w0_2 : Int) (h : Heap) (K : Value → Heap → Prop) : Prop :=
  ∀ (b_1 : Nat) (h_1 : Heap), h.size ≤ b_1 → Fr (In []) h h_1 → Vars h_1 [(b_1, [(Sl.v w0_1), (VI w0_2)])] →
  callM P 51 #[(VI (w0_1.n : Int)), (VI 1), (VI 8)] h_1 fun rv_1 h_2 => ∃ t10_1 : Bool, rv_1 = (VB t10_1) ∧ Vars h_2 [(b_1, [(Sl.v w0_1), (VI w0_2)])] ∧
  ((!t10_1) = true →
  K (Value.tuple #[(VS ({ data := #[] })), (VB false)]) h_2) ∧
  ((!t10_1) = false →
  callM P 51 #[(VI w0_2), (VI 0), (VI (w64 ((w0_1.n : Int) - 1)))] h_2 fun rv_2 h_3 => ∃ t19_1 : Bool, rv_2 = (VB t19_1) ∧ Vars h_3 [(b_1, [(Sl.v w0_1), (VI w0_2)])] ∧
  ((!t19_1) = true →
  K (Value.tuple #[(VS ({ data := #[] })), (VB false)]) h_3) ∧
  ((!t19_1) = false →
  callM P 52 #[(Sl.v w0_1), (VI 0), (VI 4)] h_3 fun rv_3 h_4 => ∃ t25_1 : Bool, rv_3 = (VB t25_1) ∧ Vars h_4 [(b_1, [(Sl.v w0_1), (VI w0_2)])] ∧
  ((!t25_1) = true →
  K (Value.tuple #[(VS ({ data := #[] })), (VB false)]) h_4) ∧
  ((!t25_1) = false →
  callM P 53 #[(VI w0_2)] h_4 fun rv_4 h_5 => ∃ t30_1 : ByteArray, rv_4 = (VS t30_1) ∧ Vars h_5 [(b_1, [(Sl.v w0_1), (VI w0_2)])] ∧
  ByteArray.size t30_1 + ByteArray.size ({ data := #[58] }) ≤ 9223372036854775807 ∧
  ∃ J_1 : Nat → ByteArray → Int → Heap → Prop, (∃ n0 : Nat, J_1 n0 (t30_1 ++ ({ data := #[58] })) 0 h_5) ∧
  ∀ (n_1 : Nat) (out4_1 : ByteArray) (t35_1 : Int) (h_6 : Heap), J_1 n_1 out4_1 t35_1 h_6 → Vars h_6 [(b_1, [(Sl.v w0_1), (VI w0_2)])] →
  ((decide (t35_1 < (w0_1.n : Int))) = true →
  InB w0_1 t35_1 ∧
  ∃ t39_1 : Int, hcell h_6 (Sl.at w0_1 t35_1 1) = some (VI t39_1) ∧
  ∃ J_2 : ByteArray → Heap → Prop, (((decide (0 < t35_1)) = true →
  ByteArray.size out4_1 + ByteArray.size ({ data := #[44] }) ≤ 9223372036854775807 ∧
  J_2 (out4_1 ++ ({ data := #[44] })) h_6) ∧
  ((decide (0 < t35_1)) = false →
  J_2 out4_1 h_6)) ∧
  ∀ (x_1 : ByteArray) (h_7 : Heap), J_2 x_1 h_7 → Vars h_7 [(b_1, [(Sl.v w0_1), (VI w0_2)])] →
  callM P 53 #[(VI t39_1)] h_7 fun rv_5 h_8 => ∃ t46_1 : ByteArray, rv_5 = (VS t46_1) ∧ Vars h_8 [(b_1, [(Sl.v w0_1), (VI w0_2)])] ∧
  ByteArray.size x_1 + ByteArray.size t46_1 ≤ 9223372036854775807 ∧
  ∃ m : Nat, m < n_1 ∧ J_1 m (x_1 ++ t46_1) (w64 (t35_1 + 1)) h_8) ∧
  ((decide (t35_1 < (w0_1.n : Int))) = false →
  K (Value.tuple #[(VS out4_1), (VB true)]) h_6))))
theorem v41 (w0_1 : Sl) (w0_2 : Int) (h : Heap) (K : Value → Heap → Prop) (H : u41 Tryd.prog w0_1 w0_2 h K) : callM Tryd.prog 41 #[(Value.agg #[(Sl.v w0_1), (VI w0_2)])] h K := by
  refine c41 (Value.agg #[(Sl.v w0_1), (VI w0_2)]) h K ?_
  unfold u41 at H
  unfold t41
  have hL : Vars h [] := .nil
  refine eop_box 43 (Value.agg #[(Sl.v w0_1), (VI w0_2)]) rfl hL (fun b_1 h_1 hb_1 hf_1 hL_1 => ?_)
  refine pop_field 0 fld43_0 b_1 0 ?_
  refine rop_loc one34 hL_1 0 rfl 0 (v := (Sl.v w0_1)) rfl ?_
  refine pop_len w0_1 _ _ sli34 ?_
  have H := H b_1 h_1 (Nat.le_trans (Fr.size (Fr.r (In []) _)) hb_1) (Fr.no' (Fr.r (In []) _) hf_1) hL_1
  refine H.mono fun rv_1 h_2 H => ?_
  obtain ⟨t10_1, rfl, hL_2, H⟩ := H
  refine pop_not t10_1 ?_
  refine guardM_sf (fun hb_2 => ?_) (fun hb_2 => ?_)
  rotate_left
  ·have H := H.1 hb_2
   refine guardM_n' hb_2 (by decide) ?_
   refine guardM_n' hb_2 (by decide) ?_
   refine guardM_n' hb_2 (by decide) ?_
   refine guardM_n' hb_2 (by decide) ?_
   refine guardM_n' hb_2 (by decide) ?_
   refine guardM_n' hb_2 (by decide) ?_
   refine guardM_n' hb_2 (by decide) ?_
   refine pop_pickt' hb_2 ?_
   refine guardM_n (by decide) ?_
   refine guardM_n (by decide) ?_
   refine guardM_n (by decide) ?_
   refine guardM_n (by decide) ?_
   refine pop_pickt _ _ ?_
   refine condM_t ?_
   exact H
  have H := H.2 hb_2
  refine pop_field 1 fld43_1 b_1 0 ?_
  refine guardM_y' hb_2 ?_
  refine rop_loc one3 hL_2 0 rfl 1 (v := (VI w0_2)) rfl ?_
  refine guardM_y' hb_2 ?_
  refine pop_field 0 fld43_0 b_1 0 ?_
  refine guardM_y' hb_2 ?_
  refine rop_loc one34 hL_2 0 rfl 0 (v := (Sl.v w0_1)) rfl ?_
  refine guardM_y' hb_2 ?_
  refine pop_len w0_1 _ _ sli34 ?_
  refine guardM_y' hb_2 ?_
  refine pop_sub .i64 (w0_1.n : Int) 1 ?_
  refine guardM_y' hb_2 ?_
  refine H.mono fun rv_2 h_3 H => ?_
  obtain ⟨t19_1, rfl, hL_3, H⟩ := H
  refine guardM_y' hb_2 ?_
  refine pop_not t19_1 ?_
  refine pop_pickf' hb_2 ?_
  refine guardM_sf (fun hb_3 => ?_) (fun hb_3 => ?_)
  rotate_left
  ·have H := H.1 hb_3
   refine guardM_n' hb_3 (by decide) ?_
   refine guardM_n' hb_3 (by decide) ?_
   refine guardM_n' hb_3 (by decide) ?_
   refine pop_pickt' hb_3 ?_
   refine condM_t ?_
   exact H
  have H := H.2 hb_3
  refine pop_field 0 fld43_0 b_1 0 ?_
  refine guardM_y' hb_3 ?_
  refine rop_loc one34 hL_3 0 rfl 0 (v := (Sl.v w0_1)) rfl ?_
  refine guardM_y' hb_3 ?_
  refine H.mono fun rv_3 h_4 H => ?_
  obtain ⟨t25_1, rfl, hL_4, H⟩ := H
  refine guardM_y' hb_3 ?_
  refine pop_not t25_1 ?_
  refine pop_pickf' hb_3 ?_
  refine condM_b (fun hb_4 => ?_) (fun hb_4 => ?_)
  ·have H := H.1 hb_4
   exact H
  have H := H.2 hb_4
  refine pop_field 1 fld43_1 b_1 0 ?_
  refine rop_loc one3 hL_4 0 rfl 1 (v := (VI w0_2)) rfl ?_
  refine H.mono fun rv_4 h_5 H => ?_
  obtain ⟨t30_1, rfl, hL_5, H⟩ := H
  obtain ⟨hz_1, H⟩ := H
  refine pop_sadd t30_1 ({ data := #[58] }) hz_1 ?_
  refine pop_field 0 fld43_0 b_1 0 ?_
  refine rop_loc one34 hL_5 0 rfl 0 (v := (Sl.v w0_1)) rfl ?_
  refine pop_len w0_1 _ _ sli34 ?_
  obtain ⟨J_1, ⟨n_2, h0_1⟩, HB_2⟩ := H
  refine loop_intro (J := fun (n : Nat) (vs : List Value) (h' : Heap) => ∃ out4_1 : ByteArray, ∃ t35_1 : Int, vs = [(VS out4_1), (VI t35_1)] ∧ J_1 n out4_1 t35_1 h' ∧ Vars h' [(b_1, [(Sl.v w0_1), (VI w0_2)])]) n_2 ⟨(t30_1 ++ ({ data := #[58] })), 0, rfl, h0_1, hL_5⟩ ?_
  intro I_1 mu_1 hI_1 junk_1 tv_2 tv_3 h_6 hi_1
  obtain ⟨n_1, ⟨out4_1, t35_1, hv, hJ_1, hL_6⟩, hn_1⟩ := hI_1 _ _ hi_1
  cases hv
  have H := HB_2 n_1 out4_1 t35_1 h_6 hJ_1 hL_6
  refine pop_lss .i64 t35_1 (w0_1.n : Int) ?_
  refine condM_b (fun hb_5 => ?_) (fun hb_5 => ?_)
  rotate_left
  ·have H := H.2 hb_5
   exact H
  have H := H.1 hb_5
  obtain ⟨hi_2, H⟩ := H
  refine pop_index sli34 siz3 .i64 w0_1 t35_1 hi_2 ?_
  obtain ⟨t39_1, hc_1, H⟩ := H
  refine rop_one one3 (VI t39_1) hc_1 ?_
  obtain ⟨J_2, H, HB_1⟩ := H
  refine ⟨fun (vs : List Value) (h' : Heap) => ∃ x_1 : ByteArray, vs = [(VS x_1)] ∧ J_2 x_1 h' ∧ Vars h' [(b_1, [(Sl.v w0_1), (VI w0_2)])], ?_, ?_⟩
  ·refine pop_gtr .i64 t35_1 0 ?_
   refine condM_b (fun hb_6 => ?_) (fun hb_6 => ?_)
   rotate_left
   ·have H := H.2 hb_6
    exact ⟨out4_1, rfl, H, hL_6⟩
   have H := H.1 hb_6
   obtain ⟨hz_2, H⟩ := H
   refine pop_sadd out4_1 ({ data := #[44] }) hz_2 ?_
   exact ⟨(out4_1 ++ ({ data := #[44] })), rfl, H, hL_6⟩
  intro junk_2 tv_1 h_7
  rintro ⟨x_1, hv, hJ_2, hL_7⟩
  cases hv
  have H := HB_1 x_1 h_7 hJ_2 hL_7
  refine H.mono fun rv_5 h_8 H => ?_
  obtain ⟨t46_1, rfl, hL_8, H⟩ := H
  obtain ⟨hz_3, H⟩ := H
  refine pop_sadd x_1 t46_1 hz_3 ?_
  refine pop_add .i64 t35_1 1 ?_
  obtain ⟨m_1, hm_1, H⟩ := H
  exact hn_1 _ _ ⟨m_1, hm_1, (x_1 ++ t46_1), (w64 (t35_1 + 1)), rfl, H, hL_8⟩
def u42 (P : Program) (a0_1 : Sl) (b1_1 : Sl) (h : Heap) (K : Value → Heap → Prop) : Prop :=
  ((!decide ((a0_1.n : Int) = (b1_1.n : Int))) = true →
  K (VB false) h) ∧
  ((!decide ((a0_1.n : Int) = (b1_1.n : Int))) = false →
  ∃ J_1 : Nat → Int → Heap → Prop, (∃ n0 : Nat, J_1 n0 0 h) ∧
  ∀ (n_1 : Nat) (t13_1 : Int) (h_1 : Heap), J_1 n_1 t13_1 h_1 → Vars h_1 [] →
  ((decide (t13_1 < (a0_1.n : Int))) = true →
  InB a0_1 t13_1 ∧
  ∃ t19_1 : Sl, ∃ t19_2 : Int, CellsAt h_1 (Sl.at a0_1 t13_1 2) [(Sl.v t19_1), (VI t19_2)] ∧
  InB b1_1 t13_1 ∧
  ∃ t23_1 : Sl, ∃ t23_2 : Int, CellsAt h_1 (Sl.at b1_1 t13_1 2) [(Sl.v t23_1), (VI t23_2)] ∧
  callM P 32 #[(Value.agg #[(Sl.v t19_1), (VI t19_2)]), (Value.agg #[(Sl.v t23_1), (VI t23_2)])] h_1 fun rv_1 h_2 => ∃ t24_1 : Bool, rv_1 = (VB t24_1) ∧ Vars h_2 [] ∧
  ((!t24_1) = true →
  K (VB false) h_2) ∧
  ((!t24_1) = false →
  ∃ m : Nat, m < n_1 ∧ J_1 m (w64 (t13_1 + 1)) h_2)) ∧
  ((decide (t13_1 < (a0_1.n : Int))) = false →
  K (VB true) h_1))
theorem v42 (a0_1 : Sl) (b1_1 : Sl) (h : Heap) (K : Value → Heap → Prop) (H : u42 Tryd.prog a0_1 b1_1 h K) : callM Tryd.prog 42 #[(Sl.v a0_1), (Sl.v b1_1)] h K := by
  refine c42 (Sl.v a0_1) (Sl.v b1_1) h K ?_
  unfold u42 at H
  unfold t42
  have hL : Vars h [] := .nil
  refine pop_len a0_1 _ _ sli65 ?_
  refine pop_len b1_1 _ _ sli65 ?_
  refine pop_ine .i64 _ _ (a0_1.n : Int) (b1_1.n : Int) ?_
  refine condM_b (fun hb_1 => ?_) (fun hb_1 => ?_)
  ·have H := H.1 hb_1
   exact H
  have H := H.2 hb_1
  refine pop_len a0_1 _ _ sli65 ?_
  obtain ⟨J_1, ⟨n_2, h0_1⟩, HB_1⟩ := H
  refine loop_intro (J := fun (n : Nat) (vs : List Value) (h' : Heap) => ∃ t13_1 : Int, vs = [(VI t13_1)] ∧ J_1 n t13_1 h' ∧ Vars h' []) n_2 ⟨0, rfl, h0_1, hL⟩ ?_
  intro I_1 mu_1 hI_1 junk_1 tv_1 h_1 hi_1
  obtain ⟨n_1, ⟨t13_1, hv, hJ_1, hL_1⟩, hn_1⟩ := hI_1 _ _ hi_1
  cases hv
  have H := HB_1 n_1 t13_1 h_1 hJ_1 hL_1
  refine pop_lss .i64 t13_1 (a0_1.n : Int) ?_
  refine condM_b (fun hb_2 => ?_) (fun hb_2 => ?_)
  rotate_left
  ·have H := H.2 hb_2
   exact H
  have H := H.1 hb_2
  obtain ⟨hi_2, H⟩ := H
  refine pop_index sli65 siz43 .i64 a0_1 t13_1 hi_2 ?_
  obtain ⟨t19_1, t19_2, hc_2, H⟩ := H
  refine rop_agg agg43 [(Sl.v t19_1), (VI t19_2)] rfl hc_2 ?_
  obtain ⟨hi_3, H⟩ := H
  refine pop_index sli65 siz43 .i64 b1_1 t13_1 hi_3 ?_
  obtain ⟨t23_1, t23_2, hc_1, H⟩ := H
  refine rop_agg agg43 [(Sl.v t23_1), (VI t23_2)] rfl hc_1 ?_
  refine H.mono fun rv_1 h_2 H => ?_
  obtain ⟨t24_1, rfl, hL_2, H⟩ := H
  refine pop_not t24_1 ?_
  refine condM_b (fun hb_3 => ?_) (fun hb_3 => ?_)
  ·have H := H.1 hb_3
   exact H
  have H := H.2 hb_3
  refine pop_add .i64 t13_1 1 ?_
  obtain ⟨m_1, hm_1, H⟩ := H
  exact hn_1 _ _ ⟨m_1, hm_1, (w64 (t13_1 + 1)), rfl, H, hL_2⟩
def u43 (P : Program) (g0_1 : Sl) (w1_1 : Sl) (w1_2 : Int) (h : Heap) (K : Value → Heap → Prop) : Prop :=
  ∀ (b_1 : Nat) (b_2 : Nat) (h_2 : Heap), h.size ≤ b_1 → h.size ≤ b_2 → Fr (In []) h h_2 → Vars h_2 [(b_2, [(Sl.v w1_1), (VI w1_2)]), (b_1, [(Sl.v g0_1)])] →
  callM P 62 #[(Value.agg #[(Sl.v g0_1)]), (Value.agg #[(Sl.v w1_1), (VI w1_2)])] h_2 fun rv_1 h_3 => ∃ t7_1 : Bool, rv_1 = (VB t7_1) ∧ Vars h_3 [(b_2, [(Sl.v w1_1), (VI w1_2)]), (b_1, [(Sl.v g0_1)])] ∧
  K (VB t7_1) h_3
theorem v43 (g0_1 : Sl) (w1_1 : Sl) (w1_2 : Int) (h : Heap) (K : Value → Heap → Prop) (H : u43 Tryd.prog g0_1 w1_1 w1_2 h K) : callM Tryd.prog 43 #[(Value.agg #[(Sl.v g0_1)]), (Value.agg #[(Sl.v w1_1), (VI w1_2)])] h K := by
  refine c43 (Value.agg #[(Sl.v g0_1)]) (Value.agg #[(Sl.v w1_1), (VI w1_2)]) h K ?_
  unfold u43 at H
  unfold t43
  have hL : Vars h [] := .nil
  refine eop_box 41 (Value.agg #[(Sl.v g0_1)]) rfl hL (fun b_1 h_1 hb_1 hf_1 hL_1 => ?_)
  refine eop_box 43 (Value.agg #[(Sl.v w1_1), (VI w1_2)]) rfl hL_1 (fun b_2 h_2 hb_2 hf_2 hL_2 => ?_)
  refine rop_locA agg41 hL_2 1 rfl 0 (vs := [(Sl.v g0_1)]) rfl rfl ?_
  refine rop_locA agg43 hL_2 0 rfl 0 (vs := [(Sl.v w1_1), (VI w1_2)]) rfl rfl ?_
  have H := H b_1 b_2 h_2 (Nat.le_trans (Fr.size (Fr.r (In []) _)) hb_1) (Nat.le_trans (Fr.size (Fr.no' (Fr.r (In []) _) hf_1)) hb_2) (Fr.no' (Fr.no' (Fr.r (In []) _) hf_1) hf_2) hL_2
  refine H.mono fun rv_1 h_3 H => ?_
  obtain ⟨t7_1, rfl, hL_3, H⟩ := H
  exact H
def u51 (P : Program) (n0_1 : Int) (lo1_1 : Int) (hi2_1 : Int) (h : Heap) (K : Value → Heap → Prop) : Prop :=
  ((decide (lo1_1 ≤ n0_1)) = true →
  K (VB (decide (n0_1 ≤ hi2_1))) h) ∧
  ((decide (lo1_1 ≤ n0_1)) = false →
  K (VB false) h)
theorem v51 (n0_1 : Int) (lo1_1 : Int) (hi2_1 : Int) (h : Heap) (K : Value → Heap → Prop) (H : u51 Tryd.prog n0_1 lo1_1 hi2_1 h K) : callM Tryd.prog 51 #[(VI n0_1), (VI lo1_1), (VI hi2_1)] h K := by
  refine c51 (VI n0_1) (VI lo1_1) (VI hi2_1) h K ?_
  unfold u51 at H
  unfold t51
  have hL : Vars h [] := .nil
  refine pop_geq .i64 n0_1 lo1_1 ?_
  refine guardM_st (fun hb_1 => ?_) (fun hb_1 => ?_)
  rotate_left
  ·have H := H.2 hb_1
   refine guardM_n' hb_1 (by decide) ?_
   refine guardM_n' hb_1 (by decide) ?_
   refine pop_pickf' hb_1 ?_
   exact H
  have H := H.1 hb_1
  refine guardM_y' hb_1 ?_
  refine guardM_y' hb_1 ?_
  refine pop_leq .i64 n0_1 hi2_1 ?_
  refine pop_pickt' hb_1 ?_
  exact H
def u52 (P : Program) (l0_1 : Sl) (lo1_1 : Int) (hi2_1 : Int) (h : Heap) (K : Value → Heap → Prop) : Prop :=
  ∃ J_1 : Nat → Int → Heap → Prop, (∃ n0 : Nat, J_1 n0 0 h) ∧
  ∀ (n_1 : Nat) (t11_1 : Int) (h_1 : Heap), J_1 n_1 t11_1 h_1 → Vars h_1 [] →
  ((decide (t11_1 < (l0_1.n : Int))) = true →
  InB l0_1 t11_1 ∧
  ∃ t14_1 : Int, hcell h_1 (Sl.at l0_1 t11_1 1) = some (VI t14_1) ∧
  callM P 51 #[(VI t14_1), (VI lo1_1), (VI hi2_1)] h_1 fun rv_1 h_2 => ∃ t18_1 : Bool, rv_1 = (VB t18_1) ∧ Vars h_2 [] ∧
  ((!t18_1) = true →
  K (VB false) h_2) ∧
  ((!t18_1) = false →
  ∃ m : Nat, m < n_1 ∧ J_1 m (w64 (t11_1 + 1)) h_2)) ∧
  ((decide (t11_1 < (l0_1.n : Int))) = false →
  K (VB true) h_1)
theorem v52 (l0_1 : Sl) (lo1_1 : Int) (hi2_1 : Int) (h : Heap) (K : Value → Heap → Prop) (H : u52 Tryd.prog l0_1 lo1_1 hi2_1 h K) : callM Tryd.prog 52 #[(Sl.v l0_1), (VI lo1_1), (VI hi2_1)] h K := by
  refine c52 (Sl.v l0_1) (VI lo1_1) (VI hi2_1) h K ?_
  unfold u52 at H
  unfold t52
  have hL : Vars h [] := .nil
  refine pop_len l0_1 _ _ sli34 ?_
  obtain ⟨J_1, ⟨n_2, h0_1⟩, HB_1⟩ := H
  refine loop_intro (J := fun (n : Nat) (vs : List Value) (h' : Heap) => ∃ t11_1 : Int, vs = [(VI t11_1)] ∧ J_1 n t11_1 h' ∧ Vars h' []) n_2 ⟨0, rfl, h0_1, hL⟩ ?_
  intro I_1 mu_1 hI_1 junk_1 tv_1 h_1 hi_1
  obtain ⟨n_1, ⟨t11_1, hv, hJ_1, hL_1⟩, hn_1⟩ := hI_1 _ _ hi_1
  cases hv
  have H := HB_1 n_1 t11_1 h_1 hJ_1 hL_1
  refine pop_lss .i64 t11_1 (l0_1.n : Int) ?_
  refine condM_b (fun hb_1 => ?_) (fun hb_1 => ?_)
  rotate_left
  ·have H := H.2 hb_1
   exact H
  have H := H.1 hb_1
  obtain ⟨hi_2, H⟩ := H
  refine pop_index sli34 siz3 .i64 l0_1 t11_1 hi_2 ?_
  obtain ⟨t14_1, hc_1, H⟩ := H
  refine rop_one one3 (VI t14_1) hc_1 ?_
  refine H.mono fun rv_1 h_2 H => ?_
  obtain ⟨t18_1, rfl, hL_2, H⟩ := H
  refine pop_not t18_1 ?_
  refine condM_b (fun hb_2 => ?_) (fun hb_2 => ?_)
  ·have H := H.1 hb_2
   exact H
  have H := H.2 hb_2
  refine pop_add .i64 t11_1 1 ?_
  obtain ⟨m_1, hm_1, H⟩ := H
  exact hn_1 _ _ ⟨m_1, hm_1, (w64 (t11_1 + 1)), rfl, H, hL_2⟩
def u53 (P : Program) (n0_1 : Int) (h : Heap) (K : Value → Heap → Prop) : Prop :=
  ((decide (n0_1 < 10)) = true →
  rop P (convert 3 5 (VI (w64 (48 + n0_1)))) h fun rv_1 => ∃ t7_1 : Int, rv_1 = (Value.int .u8 t7_1) ∧ 
  eop P (Instr.buildSlice 48 1 #[(0, (Value.int .u8 t7_1))]) h fun rv_2 h_1 => ∃ t8_1 : Sl, rv_2 = (Sl.v t8_1) ∧ Vars h_1 [] ∧
  rop P (convert 48 9 (Sl.v t8_1)) h_1 fun rv_3 => ∃ t9_1 : ByteArray, rv_3 = (VS t9_1) ∧ 
  K (VS t9_1) h_1) ∧
  ((decide (n0_1 < 10)) = false →
  rop P (convert 3 5 (VI (w64 (48 + (Int.tmod n0_1 10))))) h fun rv_4 => ∃ t16_1 : Int, rv_4 = (Value.int .u8 t16_1) ∧ 
  (callM P 53 #[(VI (w64 (Int.tdiv n0_1 10)))] h fun rv_5 h_2 => ∃ t12_1 : ByteArray, rv_5 = (VS t12_1) ∧ Vars h_2 [] ∧
  (∀ w : World, w.heap = h_2 → (convert 3 5 (VI (w64 (48 + (Int.tmod n0_1 10))))).run P w = .ok (Value.int .u8 t16_1) w) ∧
  eop P (Instr.buildSlice 48 1 #[(0, (Value.int .u8 t16_1))]) h_2 fun rv_6 h_3 => ∃ t17_1 : Sl, rv_6 = (Sl.v t17_1) ∧ Vars h_3 [] ∧
  rop P (convert 48 9 (Sl.v t17_1)) h_3 fun rv_7 => ∃ t18_1 : ByteArray, rv_7 = (VS t18_1) ∧ 
  ByteArray.size t12_1 + ByteArray.size t18_1 ≤ 9223372036854775807 ∧
  K (VS (t12_1 ++ t18_1)) h_3) ∧
  (eop P (Instr.buildSlice 48 1 #[(0, (Value.int .u8 t16_1))]) h fun rv_8 h_4 => ∃ t17_2 : Sl, rv_8 = (Sl.v t17_2) ∧ Vars h_4 [] ∧
  rop P (convert 48 9 (Sl.v t17_2)) h_4 fun rv_9 => ∃ t18_2 : ByteArray, rv_9 = (VS t18_2) ∧ 
  callM P 53 #[(VI (w64 (Int.tdiv n0_1 10)))] h_4 fun rv_10 h_5 => ∃ t12_2 : ByteArray, rv_10 = (VS t12_2) ∧ Vars h_5 [] ∧
  (∀ w : World, w.heap = h_5 → (convert 48 9 (Sl.v t17_2)).run P w = .ok (VS t18_2) w) ∧
  ByteArray.size t12_2 + ByteArray.size t18_2 ≤ 9223372036854775807 ∧
  K (VS (t12_2 ++ t18_2)) h_5))
theorem v53 (n0_1 : Int) (h : Heap) (K : Value → Heap → Prop) (H : u53 Tryd.prog n0_1 h K) : callM Tryd.prog 53 #[(VI n0_1)] h K := by
  refine c53 (VI n0_1) h K ?_
  unfold u53 at H
  unfold t53
  have hL : Vars h [] := .nil
  refine pop_lss .i64 n0_1 10 ?_
  refine condM_b (fun hb_1 => ?_) (fun hb_1 => ?_)
  ·have H := H.1 hb_1
   refine pop_add .i64 48 n0_1 ?_
   refine H.mono fun rv_1 H => ?_
   obtain ⟨t7_1, rfl, H⟩ := H
   refine H.mono fun rv_2 h_1 H => ?_
   obtain ⟨t8_1, rfl, hL_1, H⟩ := H
   refine H.mono fun rv_3 H => ?_
   obtain ⟨t9_1, rfl, H⟩ := H
   exact H
  have H := H.2 hb_1
  refine pop_quo .i64 n0_1 10 (by decide) ?_
  refine pop_rem .i64 n0_1 10 (by decide) ?_
  refine pop_add .i64 48 (Int.tmod n0_1 10) ?_
  refine H.mono fun rv_4 H => ?_
  obtain ⟨t16_1, rfl, H⟩ := H
  refine ⟨?_, ?_⟩
  ·have H := H.1
   refine H.mono fun rv_5 h_2 H => ?_
   obtain ⟨t12_1, rfl, hL_2, H⟩ := H
   refine ⟨?_, ?_⟩
   ·exact H.1
   obtain ⟨hc_1, H⟩ := H
   refine H.mono fun rv_6 h_3 H => ?_
   obtain ⟨t17_1, rfl, hL_3, H⟩ := H
   refine H.mono fun rv_7 H => ?_
   obtain ⟨t18_1, rfl, H⟩ := H
   obtain ⟨hz_1, H⟩ := H
   refine pop_sadd t12_1 t18_1 hz_1 ?_
   exact H
  have H := H.2
  refine H.mono fun rv_8 h_4 H => ?_
  obtain ⟨t17_2, rfl, hL_4, H⟩ := H
  refine H.mono fun rv_9 H => ?_
  obtain ⟨t18_2, rfl, H⟩ := H
  refine H.mono fun rv_10 h_5 H => ?_
  obtain ⟨t12_2, rfl, hL_5, H⟩ := H
  refine ⟨?_, ?_⟩
  ·exact H.1
  obtain ⟨hc_2, H⟩ := H
  obtain ⟨hz_2, H⟩ := H
  refine pop_sadd t12_2 t18_2 hz_2 ?_
  exact H
def u55 (P : Program) (n0_1 : Int) (low1_1 : Int) (high2_1 : Int) (h : Heap) (K : Value → Heap → Prop) : Prop :=
  ((decide (low1_1 ≤ n0_1)) = true →
  K (VB (decide (n0_1 ≤ high2_1))) h) ∧
  ((decide (low1_1 ≤ n0_1)) = false →
  K (VB false) h)
theorem v55 (n0_1 : Int) (low1_1 : Int) (high2_1 : Int) (h : Heap) (K : Value → Heap → Prop) (H : u55 Tryd.prog n0_1 low1_1 high2_1 h K) : callM Tryd.prog 55 #[(VI n0_1), (VI low1_1), (VI high2_1)] h K := by
  refine c55 (VI n0_1) (VI low1_1) (VI high2_1) h K ?_
  unfold u55 at H
  unfold t55
  have hL : Vars h [] := .nil
  refine pop_leq .i64 low1_1 n0_1 ?_
  refine guardM_st (fun hb_1 => ?_) (fun hb_1 => ?_)
  rotate_left
  ·have H := H.2 hb_1
   refine guardM_n' hb_1 (by decide) ?_
   refine guardM_n' hb_1 (by decide) ?_
   refine pop_pickf' hb_1 ?_
   exact H
  have H := H.1 hb_1
  refine guardM_y' hb_1 ?_
  refine guardM_y' hb_1 ?_
  refine pop_leq .i64 n0_1 high2_1 ?_
  refine pop_pickt' hb_1 ?_
  exact H
def u56 (P : Program) (s0_1 : Sl) (f1_1 : Value) (h : Heap) (K : Value → Heap → Prop) : Prop :=
  callM P 95 #[(Sl.v s0_1), f1_1] h fun rv_1 h_1 => ∃ t7_1 : Int, rv_1 = (VI t7_1) ∧ Vars h_1 [] ∧
  K (VB (decide (0 ≤ t7_1))) h_1
theorem v56 (s0_1 : Sl) (f1_1 : Value) (h : Heap) (K : Value → Heap → Prop) (H : u56 Tryd.prog s0_1 f1_1 h K) : callM Tryd.prog 56 #[(Sl.v s0_1), f1_1] h K := by
  refine c56 (Sl.v s0_1) f1_1 h K ?_
  unfold u56 at H
  unfold t56
  have hL : Vars h [] := .nil
  refine H.mono fun rv_1 h_1 H => ?_
  obtain ⟨t7_1, rfl, hL_1, H⟩ := H
  refine pop_geq .i64 t7_1 0 ?_
  exact H
def u58 (P : Program) (list0_1 : Sl) (h : Heap) (K : Value → Heap → Prop) : Prop :=
  ((decide ((list0_1.n : Int) = 0)) = true →
  K (VS ({ data := #[45] })) h) ∧
  ((decide ((list0_1.n : Int) = 0)) = false →
  eop P (Instr.buildSlice 79 0 #[]) h fun rv_1 h_1 => ∃ t9_1 : Sl, rv_1 = (Sl.v t9_1) ∧ Vars h_1 [] ∧
  ∃ J_1 : Nat → Sl → Int → Heap → Prop, (∃ n0 : Nat, J_1 n0 t9_1 0 h_1) ∧
  ∀ (n_1 : Nat) (words3_1 : Sl) (t12_1 : Int) (h_2 : Heap), J_1 n_1 words3_1 t12_1 h_2 → Vars h_2 [] →
  ((decide (t12_1 < (list0_1.n : Int))) = true →
  InB list0_1 t12_1 ∧
  ∃ t15_1 : Int, hcell h_2 (Sl.at list0_1 t12_1 1) = some (VI t15_1) ∧
  callM P 96 #[(VI t15_1)] h_2 fun rv_2 h_3 => ∃ t18_1 : ByteArray, rv_2 = (VS t18_1) ∧ Vars h_3 [] ∧
  eop P (Instr.buildSlice 79 1 #[(0, (VS t18_1))]) h_3 fun rv_3 h_4 => ∃ t19_1 : Sl, rv_3 = (Sl.v t19_1) ∧ Vars h_4 [] ∧
  eop P (appS 79 79 79 (Sl.v words3_1) (Sl.v t19_1)) h_4 fun rv_4 h_5 => ∃ t20_1 : Sl, rv_4 = (Sl.v t20_1) ∧ Vars h_5 [] ∧
  ∃ m : Nat, m < n_1 ∧ J_1 m t20_1 (w64 (t12_1 + 1)) h_5) ∧
  ((decide (t12_1 < (list0_1.n : Int))) = false →
  callM P 59 #[(Sl.v words3_1), (VS ({ data := #[44] }))] h_2 fun rv_5 h_6 => ∃ t23_1 : ByteArray, rv_5 = (VS t23_1) ∧ Vars h_6 [] ∧
  K (VS t23_1) h_6))
theorem v58 (list0_1 : Sl) (h : Heap) (K : Value → Heap → Prop) (H : u58 Tryd.prog list0_1 h K) : callM Tryd.prog 58 #[(Sl.v list0_1)] h K := by
  refine c58 (Sl.v list0_1) h K ?_
  unfold u58 at H
  unfold t58
  have hL : Vars h [] := .nil
  refine pop_len list0_1 _ _ sli34 ?_
  refine pop_ieq .i64 _ _ (list0_1.n : Int) 0 ?_
  refine condM_b (fun hb_1 => ?_) (fun hb_1 => ?_)
  ·have H := H.1 hb_1
   exact H
  have H := H.2 hb_1
  refine H.mono fun rv_1 h_1 H => ?_
  obtain ⟨t9_1, rfl, hL_1, H⟩ := H
  refine pop_len list0_1 _ _ sli34 ?_
  obtain ⟨J_1, ⟨n_2, h0_1⟩, HB_1⟩ := H
  refine loop_intro (J := fun (n : Nat) (vs : List Value) (h' : Heap) => ∃ words3_1 : Sl, ∃ t12_1 : Int, vs = [(Sl.v words3_1), (VI t12_1)] ∧ J_1 n words3_1 t12_1 h' ∧ Vars h' []) n_2 ⟨t9_1, 0, rfl, h0_1, hL_1⟩ ?_
  intro I_1 mu_1 hI_1 junk_1 tv_1 tv_2 h_2 hi_1
  obtain ⟨n_1, ⟨words3_1, t12_1, hv, hJ_1, hL_2⟩, hn_1⟩ := hI_1 _ _ hi_1
  cases hv
  have H := HB_1 n_1 words3_1 t12_1 h_2 hJ_1 hL_2
  refine pop_lss .i64 t12_1 (list0_1.n : Int) ?_
  refine condM_b (fun hb_2 => ?_) (fun hb_2 => ?_)
  rotate_left
  ·have H := H.2 hb_2
   refine H.mono fun rv_5 h_6 H => ?_
   obtain ⟨t23_1, rfl, hL_6, H⟩ := H
   exact H
  have H := H.1 hb_2
  obtain ⟨hi_2, H⟩ := H
  refine pop_index sli34 siz3 .i64 list0_1 t12_1 hi_2 ?_
  obtain ⟨t15_1, hc_1, H⟩ := H
  refine rop_one one3 (VI t15_1) hc_1 ?_
  refine H.mono fun rv_2 h_3 H => ?_
  obtain ⟨t18_1, rfl, hL_3, H⟩ := H
  refine H.mono fun rv_3 h_4 H => ?_
  obtain ⟨t19_1, rfl, hL_4, H⟩ := H
  refine H.mono fun rv_4 h_5 H => ?_
  obtain ⟨t20_1, rfl, hL_5, H⟩ := H
  refine pop_add .i64 t12_1 1 ?_
  obtain ⟨m_1, hm_1, H⟩ := H
  exact hn_1 _ _ ⟨m_1, hm_1, t20_1, (w64 (t12_1 + 1)), rfl, H, hL_5⟩
def u62 (P : Program) (g0_1 : Sl) (w1_1 : Sl) (w1_2 : Int) (h : Heap) (K : Value → Heap → Prop) : Prop :=
  ∀ (b_1 : Nat) (b_2 : Nat) (h_2 : Heap), h.size ≤ b_1 → h.size ≤ b_2 → Fr (In []) h h_2 → Vars h_2 [(b_2, [(Sl.v w1_1), (VI w1_2)]), (b_1, [(Sl.v g0_1)])] →
  callM P 83 #[(Value.agg #[(Sl.v g0_1)]), (VI w1_2)] h_2 fun rv_1 h_3 => ∃ t10_1 : Bool, rv_1 = (VB t10_1) ∧ Vars h_3 [(b_2, [(Sl.v w1_1), (VI w1_2)]), (b_1, [(Sl.v g0_1)])] ∧
  ((!t10_1) = true →
  K (VB false) h_3) ∧
  ((!t10_1) = false →
  ((!decide ((w1_1.n : Int) = (g0_1.n : Int))) = true →
  K (VB false) h_3) ∧
  ((!decide ((w1_1.n : Int) = (g0_1.n : Int))) = false →
  ∃ J_1 : Nat → Int → Heap → Prop, (∃ n0 : Nat, J_1 n0 0 h_3) ∧
  ∀ (n_1 : Nat) (t24_1 : Int) (h_4 : Heap), J_1 n_1 t24_1 h_4 → Vars h_4 [(b_2, [(Sl.v w1_1), (VI w1_2)]), (b_1, [(Sl.v g0_1)])] →
  ((decide (t24_1 < (g0_1.n : Int))) = true →
  InB g0_1 t24_1 ∧
  ∃ t28_1 : Sl, hcell h_4 (Sl.at g0_1 t24_1 1) = some (Sl.v t28_1) ∧
  InB w1_1 t24_1 ∧
  ∃ t33_1 : Int, hcell h_4 (Sl.at w1_1 t24_1 1) = some (VI t33_1) ∧
  callM P 100 #[(VI 0), (VI (w64 ((t28_1.n : Int) - 1)))] h_4 fun rv_2 h_5 => ∃ t37_1 : Int, rv_2 = (VI t37_1) ∧ Vars h_5 [(b_2, [(Sl.v w1_1), (VI w1_2)]), (b_1, [(Sl.v g0_1)])] ∧
  hcell h_5 (Sl.at w1_1 t24_1 1) = some (VI t33_1) ∧
  callM P 51 #[(VI t33_1), (VI 0), (VI t37_1)] h_5 fun rv_3 h_6 => ∃ t38_1 : Bool, rv_3 = (VB t38_1) ∧ Vars h_6 [(b_2, [(Sl.v w1_1), (VI w1_2)]), (b_1, [(Sl.v g0_1)])] ∧
  ((!t38_1) = true →
  K (VB false) h_6) ∧
  ((!t38_1) = false →
  ∃ m : Nat, m < n_1 ∧ J_1 m (w64 (t24_1 + 1)) h_6)) ∧
  ((decide (t24_1 < (g0_1.n : Int))) = false →
  K (VB true) h_4)))
theorem v62 (g0_1 : Sl) (w1_1 : Sl) (w1_2 : Int) (h : Heap) (K : Value → Heap → Prop) (H : u62 Tryd.prog g0_1 w1_1 w1_2 h K) : callM Tryd.prog 62 #[(Value.agg #[(Sl.v g0_1)]), (Value.agg #[(Sl.v w1_1), (VI w1_2)])] h K := by
  refine c62 (Value.agg #[(Sl.v g0_1)]) (Value.agg #[(Sl.v w1_1), (VI w1_2)]) h K ?_
  unfold u62 at H
  unfold t62
  have hL : Vars h [] := .nil
  refine eop_box 41 (Value.agg #[(Sl.v g0_1)]) rfl hL (fun b_1 h_1 hb_1 hf_1 hL_1 => ?_)
  refine eop_box 43 (Value.agg #[(Sl.v w1_1), (VI w1_2)]) rfl hL_1 (fun b_2 h_2 hb_2 hf_2 hL_2 => ?_)
  refine rop_locA agg41 hL_2 1 rfl 0 (vs := [(Sl.v g0_1)]) rfl rfl ?_
  refine pop_field 1 fld43_1 b_2 0 ?_
  refine rop_loc one3 hL_2 0 rfl 1 (v := (VI w1_2)) rfl ?_
  have H := H b_1 b_2 h_2 (Nat.le_trans (Fr.size (Fr.r (In []) _)) hb_1) (Nat.le_trans (Fr.size (Fr.no' (Fr.r (In []) _) hf_1)) hb_2) (Fr.no' (Fr.no' (Fr.r (In []) _) hf_1) hf_2) hL_2
  refine H.mono fun rv_1 h_3 H => ?_
  obtain ⟨t10_1, rfl, hL_3, H⟩ := H
  refine pop_not t10_1 ?_
  refine guardM_sf (fun hb_3 => ?_) (fun hb_3 => ?_)
  rotate_left
  ·have H := H.1 hb_3
   refine guardM_n' hb_3 (by decide) ?_
   refine guardM_n' hb_3 (by decide) ?_
   refine guardM_n' hb_3 (by decide) ?_
   refine guardM_n' hb_3 (by decide) ?_
   refine guardM_n' hb_3 (by decide) ?_
   refine guardM_n' hb_3 (by decide) ?_
   refine pop_pickt' hb_3 ?_
   refine condM_t ?_
   exact H
  have H := H.2 hb_3
  refine pop_field 0 fld43_0 b_2 0 ?_
  refine guardM_y' hb_3 ?_
  refine rop_loc one34 hL_3 0 rfl 0 (v := (Sl.v w1_1)) rfl ?_
  refine guardM_y' hb_3 ?_
  refine pop_len w1_1 _ _ sli34 ?_
  refine guardM_y' hb_3 ?_
  refine pop_field 0 fld41_0 b_1 0 ?_
  refine guardM_y' hb_3 ?_
  refine rop_loc one22 hL_3 1 rfl 0 (v := (Sl.v g0_1)) rfl ?_
  refine guardM_y' hb_3 ?_
  refine pop_len g0_1 _ _ sli22 ?_
  refine guardM_y' hb_3 ?_
  refine pop_ine .i64 _ _ (w1_1.n : Int) (g0_1.n : Int) ?_
  refine pop_pickf' hb_3 ?_
  refine condM_b (fun hb_4 => ?_) (fun hb_4 => ?_)
  ·have H := H.1 hb_4
   exact H
  have H := H.2 hb_4
  refine pop_field 0 fld41_0 b_1 0 ?_
  refine rop_loc one22 hL_3 1 rfl 0 (v := (Sl.v g0_1)) rfl ?_
  refine pop_len g0_1 _ _ sli22 ?_
  obtain ⟨J_1, ⟨n_2, h0_1⟩, HB_1⟩ := H
  refine loop_intro (J := fun (n : Nat) (vs : List Value) (h' : Heap) => ∃ t24_1 : Int, vs = [(VI t24_1)] ∧ J_1 n t24_1 h' ∧ Vars h' [(b_2, [(Sl.v w1_1), (VI w1_2)]), (b_1, [(Sl.v g0_1)])]) n_2 ⟨0, rfl, h0_1, hL_3⟩ ?_
  intro I_1 mu_1 hI_1 junk_1 tv_1 h_4 hi_1
  obtain ⟨n_1, ⟨t24_1, hv, hJ_1, hL_4⟩, hn_1⟩ := hI_1 _ _ hi_1
  cases hv
  have H := HB_1 n_1 t24_1 h_4 hJ_1 hL_4
  refine pop_lss .i64 t24_1 (g0_1.n : Int) ?_
  refine condM_b (fun hb_5 => ?_) (fun hb_5 => ?_)
  rotate_left
  ·have H := H.2 hb_5
   exact H
  have H := H.1 hb_5
  obtain ⟨hi_2, H⟩ := H
  refine pop_index sli22 siz34 .i64 g0_1 t24_1 hi_2 ?_
  obtain ⟨t28_1, hc_3, H⟩ := H
  refine rop_one one34 (Sl.v t28_1) hc_3 ?_
  refine pop_field 0 fld43_0 b_2 0 ?_
  refine rop_loc one34 hL_4 0 rfl 0 (v := (Sl.v w1_1)) rfl ?_
  obtain ⟨hi_3, H⟩ := H
  refine pop_index sli34 siz3 .i64 w1_1 t24_1 hi_3 ?_
  obtain ⟨t33_1, hc_2, H⟩ := H
  refine rop_one one3 (VI t33_1) hc_2 ?_
  refine pop_len t28_1 _ _ sli34 ?_
  refine pop_sub .i64 (t28_1.n : Int) 1 ?_
  refine H.mono fun rv_2 h_5 H => ?_
  obtain ⟨t37_1, rfl, hL_5, H⟩ := H
  refine ⟨?_, ?_⟩
  ·exact still_one one3 H.1
  obtain ⟨hc_1, H⟩ := H
  refine ⟨?_, ?_⟩
  ·exact still_loc one34 hL_5 0 rfl 0 (v := (Sl.v w1_1)) rfl
  refine H.mono fun rv_3 h_6 H => ?_
  obtain ⟨t38_1, rfl, hL_6, H⟩ := H
  refine ⟨?_, ?_⟩
  ·exact still_loc one34 hL_6 0 rfl 0 (v := (Sl.v w1_1)) rfl
  refine pop_not t38_1 ?_
  refine condM_b (fun hb_6 => ?_) (fun hb_6 => ?_)
  ·have H := H.1 hb_6
   exact H
  have H := H.2 hb_6
  refine pop_add .i64 t24_1 1 ?_
  obtain ⟨m_1, hm_1, H⟩ := H
  exact hn_1 _ _ ⟨m_1, hm_1, (w64 (t24_1 + 1)), rfl, H, hL_6⟩
def u65 (P : Program) (g0_1 : Sl) (w1_1 : Sl) (w1_2 : Int) (h : Heap) (K : Value → Heap → Prop) : Prop :=
  ∀ (b_1 : Nat) (b_2 : Nat) (h_2 : Heap), h.size ≤ b_1 → h.size ≤ b_2 → Fr (In []) h h_2 → Vars h_2 [(b_2, [(Sl.v w1_1), (VI w1_2)]), (b_1, [(Sl.v g0_1)])] →
  eop P (Instr.buildSlice 34 1 #[(0, (VI w1_2))]) h_2 fun rv_1 h_3 => ∃ t10_1 : Sl, rv_1 = (Sl.v t10_1) ∧ Vars h_3 [(b_2, [(Sl.v w1_1), (VI w1_2)]), (b_1, [(Sl.v g0_1)])] ∧
  callM P 87 #[(Value.agg #[(Sl.v g0_1)]), (Sl.v t10_1)] h_3 fun rv_2 h_4 => ∃ t11_1 : Bool, rv_2 = (VB t11_1) ∧ Vars h_4 [(b_2, [(Sl.v w1_1), (VI w1_2)]), (b_1, [(Sl.v g0_1)])] ∧
  ((!t11_1) = true →
  K (VB false) h_4) ∧
  ((!t11_1) = false →
  ((!decide ((w1_1.n : Int) = (g0_1.n : Int))) = true →
  K (VB false) h_4) ∧
  ((!decide ((w1_1.n : Int) = (g0_1.n : Int))) = false →
  ∃ J_1 : Nat → Int → Heap → Prop, (∃ n0 : Nat, J_1 n0 0 h_4) ∧
  ∀ (n_1 : Nat) (t25_1 : Int) (h_5 : Heap), J_1 n_1 t25_1 h_5 → Vars h_5 [(b_2, [(Sl.v w1_1), (VI w1_2)]), (b_1, [(Sl.v g0_1)])] →
  ((decide (t25_1 < (w1_1.n : Int))) = true →
  InB w1_1 t25_1 ∧
  ∃ t29_1 : Int, hcell h_5 (Sl.at w1_1 t25_1 1) = some (VI t29_1) ∧
  InB g0_1 t25_1 ∧
  ∃ t35_1 : Sl, hcell h_5 (Sl.at g0_1 t25_1 1) = some (Sl.v t35_1) ∧
  pop P (Builtin.max_ #[3, 3] 3 #[(VI (w64 ((t35_1.n : Int) - 1))), (Value.int IntKind.i64 0)]) fun rv_3 => ∃ t38_1 : Int, rv_3 = (VI t38_1) ∧ 
  callM P 55 #[(VI t29_1), (VI 0), (VI t38_1)] h_5 fun rv_4 h_6 => ∃ t39_1 : Bool, rv_4 = (VB t39_1) ∧ Vars h_6 [(b_2, [(Sl.v w1_1), (VI w1_2)]), (b_1, [(Sl.v g0_1)])] ∧
  ((!t39_1) = true →
  K (VB false) h_6) ∧
  ((!t39_1) = false →
  ∃ m : Nat, m < n_1 ∧ J_1 m (w64 (t25_1 + 1)) h_6)) ∧
  ((decide (t25_1 < (w1_1.n : Int))) = false →
  K (VB true) h_5)))
theorem v65 (g0_1 : Sl) (w1_1 : Sl) (w1_2 : Int) (h : Heap) (K : Value → Heap → Prop) (H : u65 Tryd.prog g0_1 w1_1 w1_2 h K) : callM Tryd.prog 65 #[(Value.agg #[(Sl.v g0_1)]), (Value.agg #[(Sl.v w1_1), (VI w1_2)])] h K := by
  refine c65 (Value.agg #[(Sl.v g0_1)]) (Value.agg #[(Sl.v w1_1), (VI w1_2)]) h K ?_
  unfold u65 at H
  unfold t65
  have hL : Vars h [] := .nil
  refine eop_box 41 (Value.agg #[(Sl.v g0_1)]) rfl hL (fun b_1 h_1 hb_1 hf_1 hL_1 => ?_)
  refine eop_box 43 (Value.agg #[(Sl.v w1_1), (VI w1_2)]) rfl hL_1 (fun b_2 h_2 hb_2 hf_2 hL_2 => ?_)
  refine rop_locA agg41 hL_2 1 rfl 0 (vs := [(Sl.v g0_1)]) rfl rfl ?_
  refine pop_field 1 fld43_1 b_2 0 ?_
  refine rop_loc one3 hL_2 0 rfl 1 (v := (VI w1_2)) rfl ?_
  have H := H b_1 b_2 h_2 (Nat.le_trans (Fr.size (Fr.r (In []) _)) hb_1) (Nat.le_trans (Fr.size (Fr.no' (Fr.r (In []) _) hf_1)) hb_2) (Fr.no' (Fr.no' (Fr.r (In []) _) hf_1) hf_2) hL_2
  refine H.mono fun rv_1 h_3 H => ?_
  obtain ⟨t10_1, rfl, hL_3, H⟩ := H
  refine H.mono fun rv_2 h_4 H => ?_
  obtain ⟨t11_1, rfl, hL_4, H⟩ := H
  refine pop_not t11_1 ?_
  refine guardM_sf (fun hb_3 => ?_) (fun hb_3 => ?_)
  rotate_left
  ·have H := H.1 hb_3
   refine guardM_n' hb_3 (by decide) ?_
   refine guardM_n' hb_3 (by decide) ?_
   refine guardM_n' hb_3 (by decide) ?_
   refine guardM_n' hb_3 (by decide) ?_
   refine guardM_n' hb_3 (by decide) ?_
   refine guardM_n' hb_3 (by decide) ?_
   refine pop_pickt' hb_3 ?_
   refine condM_t ?_
   exact H
  have H := H.2 hb_3
  refine pop_field 0 fld43_0 b_2 0 ?_
  refine guardM_y' hb_3 ?_
  refine rop_loc one34 hL_4 0 rfl 0 (v := (Sl.v w1_1)) rfl ?_
  refine guardM_y' hb_3 ?_
  refine pop_len w1_1 _ _ sli34 ?_
  refine guardM_y' hb_3 ?_
  refine pop_field 0 fld41_0 b_1 0 ?_
  refine guardM_y' hb_3 ?_
  refine rop_loc one22 hL_4 1 rfl 0 (v := (Sl.v g0_1)) rfl ?_
  refine guardM_y' hb_3 ?_
  refine pop_len g0_1 _ _ sli22 ?_
  refine guardM_y' hb_3 ?_
  refine pop_ine .i64 _ _ (w1_1.n : Int) (g0_1.n : Int) ?_
  refine pop_pickf' hb_3 ?_
  refine condM_b (fun hb_4 => ?_) (fun hb_4 => ?_)
  ·have H := H.1 hb_4
   exact H
  have H := H.2 hb_4
  refine pop_field 0 fld43_0 b_2 0 ?_
  refine rop_loc one34 hL_4 0 rfl 0 (v := (Sl.v w1_1)) rfl ?_
  refine pop_len w1_1 _ _ sli34 ?_
  obtain ⟨J_1, ⟨n_2, h0_1⟩, HB_1⟩ := H
  refine loop_intro (J := fun (n : Nat) (vs : List Value) (h' : Heap) => ∃ t25_1 : Int, vs = [(VI t25_1)] ∧ J_1 n t25_1 h' ∧ Vars h' [(b_2, [(Sl.v w1_1), (VI w1_2)]), (b_1, [(Sl.v g0_1)])]) n_2 ⟨0, rfl, h0_1, hL_4⟩ ?_
  intro I_1 mu_1 hI_1 junk_1 tv_1 h_5 hi_1
  obtain ⟨n_1, ⟨t25_1, hv, hJ_1, hL_5⟩, hn_1⟩ := hI_1 _ _ hi_1
  cases hv
  have H := HB_1 n_1 t25_1 h_5 hJ_1 hL_5
  refine pop_lss .i64 t25_1 (w1_1.n : Int) ?_
  refine condM_b (fun hb_5 => ?_) (fun hb_5 => ?_)
  rotate_left
  ·have H := H.2 hb_5
   exact H
  have H := H.1 hb_5
  obtain ⟨hi_2, H⟩ := H
  refine pop_index sli34 siz3 .i64 w1_1 t25_1 hi_2 ?_
  obtain ⟨t29_1, hc_2, H⟩ := H
  refine rop_one one3 (VI t29_1) hc_2 ?_
  refine pop_field 0 fld41_0 b_1 0 ?_
  refine rop_loc one22 hL_5 1 rfl 0 (v := (Sl.v g0_1)) rfl ?_
  obtain ⟨hi_3, H⟩ := H
  refine pop_index sli22 siz34 .i64 g0_1 t25_1 hi_3 ?_
  obtain ⟨t35_1, hc_1, H⟩ := H
  refine rop_one one34 (Sl.v t35_1) hc_1 ?_
  refine pop_len t35_1 _ _ sli34 ?_
  refine pop_sub .i64 (t35_1.n : Int) 1 ?_
  refine H.mono fun rv_3 H => ?_
  obtain ⟨t38_1, rfl, H⟩ := H
  refine H.mono fun rv_4 h_6 H => ?_
  obtain ⟨t39_1, rfl, hL_6, H⟩ := H
  refine pop_not t39_1 ?_
  refine condM_b (fun hb_6 => ?_) (fun hb_6 => ?_)
  ·have H := H.1 hb_6
   exact H
  have H := H.2 hb_6
  refine pop_add .i64 t25_1 1 ?_
  obtain ⟨m_1, hm_1, H⟩ := H
  exact hn_1 _ _ ⟨m_1, hm_1, (w64 (t25_1 + 1)), rfl, H, hL_6⟩
def u67 (P : Program) (code0_1 : Sl) (h : Heap) (K : Value → Heap → Prop) : Prop :=
  ∀ (b_1 : Nat) (b_2 : Nat) (b_3 : Nat) (h_3 : Heap), h.size ≤ b_1 → h.size ≤ b_2 → h.size ≤ b_3 → Fr (In []) h h_3 → Vars h_3 [(b_3, [(Sl.v code0_1), (VI 0), (Value.int .u64 0)]), (b_2, [(Sl.v nilSl), (VI 0)]), (b_1, [(Sl.v nilSl)])] →
  callM P 103 #[(VP b_3 0)] h_3 fun rv_1 h_4 => ∃ x_1 : Sl, ∃ x_2 : Int, ∃ x_3 : Int, ∃ t13_1 : Sl, ∃ t13_2 : Sl, ∃ t13_3 : Int, rv_1 = (Value.tuple #[(Value.agg #[(Sl.v t13_1)]), (Value.agg #[(Sl.v t13_2), (VI t13_3)])]) ∧ Vars h_4 [(b_3, [(Sl.v x_1), (VI x_2), (Value.int .u64 x_3)]), (b_2, [(Sl.v nilSl), (VI 0)]), (b_1, [(Sl.v nilSl)])] ∧
  ∀ (b_4 : Nat) (b_5 : Nat) (h_8 : Heap), h_4.size ≤ b_4 → h_4.size ≤ b_5 → Fr (In []) h_4 h_8 → Vars h_8 [(b_5, [(Sl.v t13_2), (VI t13_3)]), (b_4, [(Sl.v t13_1)]), (b_3, [(Sl.v x_1), (VI x_2), (Value.int .u64 x_3)]), (b_2, [(Sl.v nilSl), (VI 0)]), (b_1, [(Sl.v nilSl)])] →
  callM P 104 #[(VP b_3 0)] h_8 fun rv_2 h_9 => ∃ x_4 : Sl, ∃ x_5 : Int, ∃ x_6 : Int, ∃ t19_1 : Int, rv_2 = (VI t19_1) ∧ Vars h_9 [(b_5, [(Sl.v t13_2), (VI t13_3)]), (b_4, [(Sl.v t13_1)]), (b_3, [(Sl.v x_4), (VI x_5), (Value.int .u64 x_6)]), (b_2, [(Sl.v nilSl), (VI 0)]), (b_1, [(Sl.v nilSl)])] ∧
  ∀ (h_10 : Heap), Fr (In [b_1]) h_9 h_10 → Vars h_10 [(b_5, [(Sl.v t13_2), (VI t13_3)]), (b_4, [(Sl.v t13_1)]), (b_3, [(Sl.v x_4), (VI x_5), (Value.int .u64 x_6)]), (b_2, [(Sl.v nilSl), (VI 0)]), (b_1, [(Sl.v t13_1)])] →
  ∀ (h_11 : Heap), Fr (In [b_2]) h_10 h_11 → Vars h_11 [(b_5, [(Sl.v t13_2), (VI t13_3)]), (b_4, [(Sl.v t13_1)]), (b_3, [(Sl.v x_4), (VI x_5), (Value.int .u64 x_6)]), (b_2, [(Sl.v t13_2), (VI t13_3)]), (b_1, [(Sl.v t13_1)])] →
  K (Value.tuple #[(Value.agg #[(Sl.v t13_1)]), (Value.agg #[(Sl.v t13_2), (VI t13_3)]), (VI t19_1)]) h_11
theorem v67 (code0_1 : Sl) (h : Heap) (K : Value → Heap → Prop) (H : u67 Tryd.prog code0_1 h K) : callM Tryd.prog 67 #[(Sl.v code0_1)] h K := by
  refine c67 (Sl.v code0_1) h K ?_
  unfold u67 at H
  unfold t67
  have hL : Vars h [] := .nil
  refine eop_alloc 41 zer41 rfl hL (fun b_1 h_1 hb_1 hf_1 hL_1 => ?_)
  refine eop_alloc 43 zer43 rfl hL_1 (fun b_2 h_2 hb_2 hf_2 hL_2 => ?_)
  refine pop.mk' (v := (Value.agg #[(Sl.v code0_1), (VI 0), (Value.int .u64 0)])) (fun w => by kernel_rfl) ?_
  refine eop_box 123 (Value.agg #[(Sl.v code0_1), (VI 0), (Value.int .u64 0)]) rfl hL_2 (fun b_3 h_3 hb_3 hf_3 hL_3 => ?_)
  have H := H b_1 b_2 b_3 h_3 (Nat.le_trans (Fr.size (Fr.r (In []) _)) hb_1) (Nat.le_trans (Fr.size (Fr.no' (Fr.r (In []) _) hf_1)) hb_2) (Nat.le_trans (Fr.size (Fr.no' (Fr.no' (Fr.r (In []) _) hf_1) hf_2)) hb_3) (Fr.no' (Fr.no' (Fr.no' (Fr.r (In []) _) hf_1) hf_2) hf_3) hL_3
  refine H.mono fun rv_1 h_4 H => ?_
  obtain ⟨x_1, x_2, x_3, t13_1, t13_2, t13_3, rfl, hL_4, H⟩ := H
  refine pop_ext (v := (Value.agg #[(Sl.v t13_1)])) rfl ?_
  refine pop_ext (v := (Value.agg #[(Sl.v t13_2), (VI t13_3)])) rfl ?_
  refine eop_alloc 41 zer41 rfl hL_4 (fun b_4 h_5 hb_4 hf_4 hL_5 => ?_)
  refine eop_alloc 43 zer43 rfl hL_5 (fun b_5 h_6 hb_5 hf_5 hL_6 => ?_)
  refine uop_loc siz41 hL_6 1 rfl 0 [(Sl.v t13_1)] rfl rfl rfl (Nat.le_of_ble_eq_true rfl) (L' := [(b_5, [(Sl.v nilSl), (VI 0)]), (b_4, [(Sl.v t13_1)]), (b_3, [(Sl.v x_1), (VI x_2), (Value.int .u64 x_3)]), (b_2, [(Sl.v nilSl), (VI 0)]), (b_1, [(Sl.v nilSl)])]) rfl (fun h_7 hf_6 hL_7 => ?_)
  refine uop_loc siz43 hL_7 0 rfl 0 [(Sl.v t13_2), (VI t13_3)] rfl rfl rfl (Nat.le_of_ble_eq_true rfl) (L' := [(b_5, [(Sl.v t13_2), (VI t13_3)]), (b_4, [(Sl.v t13_1)]), (b_3, [(Sl.v x_1), (VI x_2), (Value.int .u64 x_3)]), (b_2, [(Sl.v nilSl), (VI 0)]), (b_1, [(Sl.v nilSl)])]) rfl (fun h_8 hf_7 hL_8 => ?_)
  refine rop_locA agg41 hL_8 1 rfl 0 (vs := [(Sl.v t13_1)]) rfl rfl ?_
  refine rop_locA agg43 hL_8 0 rfl 0 (vs := [(Sl.v t13_2), (VI t13_3)]) rfl rfl ?_
  have H := H b_4 b_5 h_8 (Nat.le_trans (Fr.size (Fr.r (In []) _)) hb_4) (Nat.le_trans (Fr.size (Fr.no' (Fr.r (In []) _) hf_4)) hb_5) (Fr.new (Fr.new (Fr.no' (Fr.no' (Fr.r (In []) _) hf_4) hf_5) (Nat.le_trans (Fr.size (Fr.r (In []) _)) hb_4) hf_6) (Nat.le_trans (Fr.size (Fr.no' (Fr.r (In []) _) hf_4)) hb_5) hf_7) hL_8
  refine H.mono fun rv_2 h_9 H => ?_
  obtain ⟨x_4, x_5, x_6, t19_1, rfl, hL_9, H⟩ := H
  refine ⟨?_, ?_⟩
  ·exact still_locA agg43 hL_9 0 rfl 0 (vs := [(Sl.v t13_2), (VI t13_3)]) rfl rfl
  refine ⟨?_, ?_⟩
  ·exact still_locA agg41 hL_9 1 rfl 0 (vs := [(Sl.v t13_1)]) rfl rfl
  refine uop_loc siz41 hL_9 4 rfl 0 [(Sl.v t13_1)] rfl rfl rfl (Nat.le_of_ble_eq_true rfl) (L' := [(b_5, [(Sl.v t13_2), (VI t13_3)]), (b_4, [(Sl.v t13_1)]), (b_3, [(Sl.v x_4), (VI x_5), (Value.int .u64 x_6)]), (b_2, [(Sl.v nilSl), (VI 0)]), (b_1, [(Sl.v t13_1)])]) rfl (fun h_10 hf_8 hL_10 => ?_)
  have H := H  h_10  (Fr.old (Fr.r (In []) _) hf_8) hL_10
  refine ⟨?_, ?_⟩
  ·exact still_locA agg43 hL_10 0 rfl 0 (vs := [(Sl.v t13_2), (VI t13_3)]) rfl rfl
  refine uop_loc siz43 hL_10 3 rfl 0 [(Sl.v t13_2), (VI t13_3)] rfl rfl rfl (Nat.le_of_ble_eq_true rfl) (L' := [(b_5, [(Sl.v t13_2), (VI t13_3)]), (b_4, [(Sl.v t13_1)]), (b_3, [(Sl.v x_4), (VI x_5), (Value.int .u64 x_6)]), (b_2, [(Sl.v t13_2), (VI t13_3)]), (b_1, [(Sl.v t13_1)])]) rfl (fun h_11 hf_9 hL_11 => ?_)
  refine rop_locA agg41 hL_11 4 rfl 0 (vs := [(Sl.v t13_1)]) rfl rfl ?_
  refine rop_locA agg43 hL_11 3 rfl 0 (vs := [(Sl.v t13_2), (VI t13_3)]) rfl rfl ?_
  have H := H  h_11  (Fr.old (Fr.r (In []) _) hf_9) hL_11
  exact H
def u68 (P : Program) (g0_1 : Sl) (w1_1 : Sl) (w1_2 : Int) (n2_1 : Int) (most3_1 : Int) (h : Heap) (K : Value → Heap → Prop) : Prop :=
  ∀ (b_1 : Nat) (b_2 : Nat) (h_2 : Heap), h.size ≤ b_1 → h.size ≤ b_2 → Fr (In []) h h_2 → Vars h_2 [(b_2, [(Sl.v w1_1), (VI w1_2)]), (b_1, [(Sl.v g0_1)])] →
  callM P 65 #[(Value.agg #[(Sl.v g0_1)]), (Value.agg #[(Sl.v w1_1), (VI w1_2)])] h_2 fun rv_1 h_3 => ∃ t11_1 : Bool, rv_1 = (VB t11_1) ∧ Vars h_3 [(b_2, [(Sl.v w1_1), (VI w1_2)]), (b_1, [(Sl.v g0_1)])] ∧
  (t11_1 = true →
  callM P 55 #[(VI n2_1), (VI 0), (VI most3_1)] h_3 fun rv_2 h_4 => ∃ t15_1 : Bool, rv_2 = (VB t15_1) ∧ Vars h_4 [(b_2, [(Sl.v w1_1), (VI w1_2)]), (b_1, [(Sl.v g0_1)])] ∧
  K (VB t15_1) h_4) ∧
  (t11_1 = false →
  K (VB false) h_3)
theorem v68 (g0_1 : Sl) (w1_1 : Sl) (w1_2 : Int) (n2_1 : Int) (most3_1 : Int) (h : Heap) (K : Value → Heap → Prop) (H : u68 Tryd.prog g0_1 w1_1 w1_2 n2_1 most3_1 h K) : callM Tryd.prog 68 #[(Value.agg #[(Sl.v g0_1)]), (Value.agg #[(Sl.v w1_1), (VI w1_2)]), (VI n2_1), (VI most3_1)] h K := by
  refine c68 (Value.agg #[(Sl.v g0_1)]) (Value.agg #[(Sl.v w1_1), (VI w1_2)]) (VI n2_1) (VI most3_1) h K ?_
  unfold u68 at H
  unfold t68
  have hL : Vars h [] := .nil
  refine eop_box 41 (Value.agg #[(Sl.v g0_1)]) rfl hL (fun b_1 h_1 hb_1 hf_1 hL_1 => ?_)
  refine eop_box 43 (Value.agg #[(Sl.v w1_1), (VI w1_2)]) rfl hL_1 (fun b_2 h_2 hb_2 hf_2 hL_2 => ?_)
  refine rop_locA agg41 hL_2 1 rfl 0 (vs := [(Sl.v g0_1)]) rfl rfl ?_
  refine rop_locA agg43 hL_2 0 rfl 0 (vs := [(Sl.v w1_1), (VI w1_2)]) rfl rfl ?_
  have H := H b_1 b_2 h_2 (Nat.le_trans (Fr.size (Fr.r (In []) _)) hb_1) (Nat.le_trans (Fr.size (Fr.no' (Fr.r (In []) _) hf_1)) hb_2) (Fr.no' (Fr.no' (Fr.r (In []) _) hf_1) hf_2) hL_2
  refine H.mono fun rv_1 h_3 H => ?_
  obtain ⟨t11_1, rfl, hL_3, H⟩ := H
  refine guardM_st (fun hb_3 => ?_) (fun hb_3 => ?_)
  rotate_left
  ·have H := H.2 hb_3
   refine guardM_n' hb_3 (by decide) ?_
   refine guardM_n' hb_3 (by decide) ?_
   refine pop_pickf' hb_3 ?_
   exact H
  have H := H.1 hb_3
  refine guardM_y' hb_3 ?_
  refine guardM_y' hb_3 ?_
  refine H.mono fun rv_2 h_4 H => ?_
  obtain ⟨t15_1, rfl, hL_4, H⟩ := H
  refine pop_pickt' hb_3 ?_
  exact H
def u69 (P : Program) (w0_1 : Sl) (w0_2 : Int) (h : Heap) (K : Value → Heap → Prop) : Prop :=
  ∀ (b_1 : Nat) (b_2 : Nat) (h_2 : Heap), h.size ≤ b_1 → h.size ≤ b_2 → Fr (In []) h h_2 → Vars h_2 [(b_2, [(Sl.v nilSl), (VI 0)]), (b_1, [(Sl.v w0_1), (VI w0_2)])] →
  callM P 105 #[(Sl.v w0_1)] h_2 fun rv_1 h_3 => ∃ t5_1 : Sl, rv_1 = (Sl.v t5_1) ∧ Vars h_3 [(b_2, [(Sl.v nilSl), (VI 0)]), (b_1, [(Sl.v w0_1), (VI w0_2)])] ∧
  ∀ (h_4 : Heap), Fr (In [b_2]) h_3 h_4 → Vars h_4 [(b_2, [(Sl.v t5_1), (VI w0_2)]), (b_1, [(Sl.v w0_1), (VI w0_2)])] →
  K (Value.agg #[(Sl.v t5_1), (VI w0_2)]) h_4
theorem v69 (w0_1 : Sl) (w0_2 : Int) (h : Heap) (K : Value → Heap → Prop) (H : u69 Tryd.prog w0_1 w0_2 h K) : callM Tryd.prog 69 #[(Value.agg #[(Sl.v w0_1), (VI w0_2)])] h K := by
  refine c69 (Value.agg #[(Sl.v w0_1), (VI w0_2)]) h K ?_
  unfold u69 at H
  unfold t69
  have hL : Vars h [] := .nil
  refine eop_box 43 (Value.agg #[(Sl.v w0_1), (VI w0_2)]) rfl hL (fun b_1 h_1 hb_1 hf_1 hL_1 => ?_)
  refine eop_alloc 43 zer43 rfl hL_1 (fun b_2 h_2 hb_2 hf_2 hL_2 => ?_)
  refine pop_field 0 fld43_0 b_1 0 ?_
  refine rop_loc one34 hL_2 1 rfl 0 (v := (Sl.v w0_1)) rfl ?_
  refine pop_field 1 fld43_1 b_1 0 ?_
  refine rop_loc one3 hL_2 1 rfl 1 (v := (VI w0_2)) rfl ?_
  have H := H b_1 b_2 h_2 (Nat.le_trans (Fr.size (Fr.r (In []) _)) hb_1) (Nat.le_trans (Fr.size (Fr.no' (Fr.r (In []) _) hf_1)) hb_2) (Fr.no' (Fr.no' (Fr.r (In []) _) hf_1) hf_2) hL_2
  refine H.mono fun rv_1 h_3 H => ?_
  obtain ⟨t5_1, rfl, hL_3, H⟩ := H
  refine ⟨?_, ?_⟩
  ·exact still_loc one3 hL_3 1 rfl 1 (v := (VI w0_2)) rfl
  refine pop.mk' (v := (Value.agg #[(Sl.v t5_1), (VI w0_2)])) (fun w => by kernel_rfl) ?_
  refine uop_loc siz43 hL_3 0 rfl 0 [(Sl.v t5_1), (VI w0_2)] rfl rfl rfl (Nat.le_of_ble_eq_true rfl) (L' := [(b_2, [(Sl.v t5_1), (VI w0_2)]), (b_1, [(Sl.v w0_1), (VI w0_2)])]) rfl (fun h_4 hf_3 hL_4 => ?_)
  refine rop_locA agg43 hL_4 0 rfl 0 (vs := [(Sl.v t5_1), (VI w0_2)]) rfl rfl ?_
  have H := H  h_4  (Fr.old (Fr.r (In []) _) hf_3) hL_4
  exact H
def u70 (P : Program) (g0_1 : Sl) (h : Heap) (K : Value → Heap → Prop) : Prop :=
  ∀ (b_1 : Nat) (h_1 : Heap), h.size ≤ b_1 → Fr (In []) h h_1 → Vars h_1 [(b_1, [(Sl.v g0_1)])] →
  eop P (Instr.buildSlice 22 0 #[]) h_1 fun rv_1 h_2 => ∃ t6_1 : Sl, rv_1 = (Sl.v t6_1) ∧ Vars h_2 [(b_1, [(Sl.v g0_1)])] ∧
  ∃ J_1 : Nat → Sl → Int → Heap → Prop, (∃ n0 : Nat, J_1 n0 t6_1 0 h_2) ∧
  ∀ (n_1 : Nat) (out3_1 : Sl) (t10_1 : Int) (h_3 : Heap), J_1 n_1 out3_1 t10_1 h_3 → Vars h_3 [(b_1, [(Sl.v g0_1)])] →
  ((decide (t10_1 < (g0_1.n : Int))) = true →
  InB g0_1 t10_1 ∧
  ∃ t13_1 : Sl, hcell h_3 (Sl.at g0_1 t10_1 1) = some (Sl.v t13_1) ∧
  eop P (Instr.makeSlice 34 (VI (t13_1.n : Int)) (VI (t13_1.n : Int))) h_3 fun rv_2 h_4 => ∃ t17_1 : Sl, rv_2 = (Sl.v t17_1) ∧ Vars h_4 [(b_1, [(Sl.v g0_1)])] ∧
  eop P (Instr.buildSlice 22 1 #[(0, (Sl.v t17_1))]) h_4 fun rv_3 h_5 => ∃ t18_1 : Sl, rv_3 = (Sl.v t18_1) ∧ Vars h_5 [(b_1, [(Sl.v g0_1)])] ∧
  eop P (appS 22 22 22 (Sl.v out3_1) (Sl.v t18_1)) h_5 fun rv_4 h_6 => ∃ t19_1 : Sl, rv_4 = (Sl.v t19_1) ∧ Vars h_6 [(b_1, [(Sl.v g0_1)])] ∧
  ∃ m : Nat, m < n_1 ∧ J_1 m t19_1 (w64 (t10_1 + 1)) h_6) ∧
  ((decide (t10_1 < (g0_1.n : Int))) = false →
  K (Sl.v out3_1) h_3)
theorem v70 (g0_1 : Sl) (h : Heap) (K : Value → Heap → Prop) (H : u70 Tryd.prog g0_1 h K) : callM Tryd.prog 70 #[(Value.agg #[(Sl.v g0_1)])] h K := by
  refine c70 (Value.agg #[(Sl.v g0_1)]) h K ?_
  unfold u70 at H
  unfold t70
  have hL : Vars h [] := .nil
  refine eop_box 41 (Value.agg #[(Sl.v g0_1)]) rfl hL (fun b_1 h_1 hb_1 hf_1 hL_1 => ?_)
  have H := H b_1 h_1 (Nat.le_trans (Fr.size (Fr.r (In []) _)) hb_1) (Fr.no' (Fr.r (In []) _) hf_1) hL_1
  refine H.mono fun rv_1 h_2 H => ?_
  obtain ⟨t6_1, rfl, hL_2, H⟩ := H
  refine pop_field 0 fld41_0 b_1 0 ?_
  refine rop_loc one22 hL_2 0 rfl 0 (v := (Sl.v g0_1)) rfl ?_
  refine pop_len g0_1 _ _ sli22 ?_
  obtain ⟨J_1, ⟨n_2, h0_1⟩, HB_1⟩ := H
  refine loop_intro (J := fun (n : Nat) (vs : List Value) (h' : Heap) => ∃ out3_1 : Sl, ∃ t10_1 : Int, vs = [(Sl.v out3_1), (VI t10_1)] ∧ J_1 n out3_1 t10_1 h' ∧ Vars h' [(b_1, [(Sl.v g0_1)])]) n_2 ⟨t6_1, 0, rfl, h0_1, hL_2⟩ ?_
  intro I_1 mu_1 hI_1 junk_1 tv_1 tv_2 h_3 hi_1
  obtain ⟨n_1, ⟨out3_1, t10_1, hv, hJ_1, hL_3⟩, hn_1⟩ := hI_1 _ _ hi_1
  cases hv
  have H := HB_1 n_1 out3_1 t10_1 h_3 hJ_1 hL_3
  refine pop_lss .i64 t10_1 (g0_1.n : Int) ?_
  refine condM_b (fun hb_2 => ?_) (fun hb_2 => ?_)
  rotate_left
  ·have H := H.2 hb_2
   exact H
  have H := H.1 hb_2
  obtain ⟨hi_2, H⟩ := H
  refine pop_index sli22 siz34 .i64 g0_1 t10_1 hi_2 ?_
  obtain ⟨t13_1, hc_1, H⟩ := H
  refine rop_one one34 (Sl.v t13_1) hc_1 ?_
  refine pop_len t13_1 _ _ sli34 ?_
  refine H.mono fun rv_2 h_4 H => ?_
  obtain ⟨t17_1, rfl, hL_4, H⟩ := H
  refine H.mono fun rv_3 h_5 H => ?_
  obtain ⟨t18_1, rfl, hL_5, H⟩ := H
  refine H.mono fun rv_4 h_6 H => ?_
  obtain ⟨t19_1, rfl, hL_6, H⟩ := H
  refine pop_add .i64 t10_1 1 ?_
  obtain ⟨m_1, hm_1, H⟩ := H
  exact hn_1 _ _ ⟨m_1, hm_1, t19_1, (w64 (t10_1 + 1)), rfl, H, hL_6⟩
def u71 (P : Program) (g0_1 : Sl) (b_1 : Nat) (w1_1 : Sl) (w1_2 : Int) (n2_1 : Int) (with3_1 : Value) (h : Heap) (K : Value → Heap → Prop) : Prop :=
  ∀ (b_2 : Nat) (h_1 : Heap), h.size ≤ b_2 → Fr (In []) h h_1 → Vars h_1 [(b_2, [(Sl.v g0_1)]), (b_1, [(Sl.v w1_1), (VI w1_2)])] →
  ∃ J_1 : Nat → Int → Sl → Int → Heap → Prop, (∃ n0 : Nat, J_1 n0 0 w1_1 w1_2 h_1) ∧
  ∀ (n_1 : Nat) (t11_1 : Int) (x_1 : Sl) (x_2 : Int) (h_2 : Heap), J_1 n_1 t11_1 x_1 x_2 h_2 → Vars h_2 [(b_2, [(Sl.v g0_1)]), (b_1, [(Sl.v x_1), (VI x_2)])] →
  ((decide (t11_1 < n2_1)) = true →
  callM P 92 #[(Value.agg #[(Sl.v g0_1)]), (VP b_1 0)] h_2 fun rv_1 h_3 => ∃ x_3 : Sl, ∃ x_4 : Int, ∃ t19_1 : Bool, rv_1 = (VB t19_1) ∧ Vars h_3 [(b_2, [(Sl.v g0_1)]), (b_1, [(Sl.v x_3), (VI x_4)])] ∧
  ((!t19_1) = true →
  K (VB false) h_3) ∧
  ((!t19_1) = false →
  callV P with3_1 [(VI x_2)] h_3 fun rv_2 h_4 => Vars h_4 [(b_2, [(Sl.v g0_1)]), (b_1, [(Sl.v x_3), (VI x_4)])] ∧
  ∃ m : Nat, m < n_1 ∧ J_1 m (w64 (t11_1 + 1)) x_3 x_4 h_4)) ∧
  ((decide (t11_1 < n2_1)) = false →
  K (VB true) h_2)
theorem v71 (g0_1 : Sl) (b_1 : Nat) (w1_1 : Sl) (w1_2 : Int) (n2_1 : Int) (with3_1 : Value) (h : Heap) (K : Value → Heap → Prop) (hL : Vars h [(b_1, [(Sl.v w1_1), (VI w1_2)])]) (H : u71 Tryd.prog g0_1 b_1 w1_1 w1_2 n2_1 with3_1 h K) : callM Tryd.prog 71 #[(Value.agg #[(Sl.v g0_1)]), (VP b_1 0), (VI n2_1), with3_1] h K := by
  refine c71 (Value.agg #[(Sl.v g0_1)]) (VP b_1 0) (VI n2_1) with3_1 h K ?_
  unfold u71 at H
  unfold t71
  refine eop_box 41 (Value.agg #[(Sl.v g0_1)]) rfl hL (fun b_2 h_1 hb_1 hf_1 hL_1 => ?_)
  have H := H b_2 h_1 (Nat.le_trans (Fr.size (Fr.r (In []) _)) hb_1) (Fr.no' (Fr.r (In []) _) hf_1) hL_1
  obtain ⟨J_1, ⟨n_2, h0_1⟩, HB_1⟩ := H
  refine loop_intro (J := fun (n : Nat) (vs : List Value) (h' : Heap) => ∃ t11_1 : Int, ∃ x_1 : Sl, ∃ x_2 : Int, vs = [(VI t11_1)] ∧ J_1 n t11_1 x_1 x_2 h' ∧ Vars h' [(b_2, [(Sl.v g0_1)]), (b_1, [(Sl.v x_1), (VI x_2)])]) n_2 ⟨0, w1_1, w1_2, rfl, h0_1, hL_1⟩ ?_
  intro I_1 mu_1 hI_1 junk_1 tv_1 h_2 hi_1
  obtain ⟨n_1, ⟨t11_1, x_1, x_2, hv, hJ_1, hL_2⟩, hn_1⟩ := hI_1 _ _ hi_1
  cases hv
  have H := HB_1 n_1 t11_1 x_1 x_2 h_2 hJ_1 hL_2
  refine pop_lss .i64 t11_1 n2_1 ?_
  refine condM_b (fun hb_2 => ?_) (fun hb_2 => ?_)
  rotate_left
  ·have H := H.2 hb_2
   exact H
  have H := H.1 hb_2
  refine pop_nil _ ?_
  refine pop_field 1 fld43_1 b_1 0 ?_
  refine rop_loc one3 hL_2 1 rfl 1 (v := (VI x_2)) rfl ?_
  refine rop_locA agg41 hL_2 0 rfl 0 (vs := [(Sl.v g0_1)]) rfl rfl ?_
  refine H.mono fun rv_1 h_3 H => ?_
  obtain ⟨x_3, x_4, t19_1, rfl, hL_3, H⟩ := H
  refine pop_not t19_1 ?_
  refine condM_b (fun hb_3 => ?_) (fun hb_3 => ?_)
  ·have H := H.1 hb_3
   exact H
  have H := H.2 hb_3
  refine H.mono fun rv_2 h_4 H => ?_
  obtain ⟨hL_4, H⟩ := H
  refine pop_add .i64 t11_1 1 ?_
  obtain ⟨m_1, hm_1, H⟩ := H
  exact hn_1 _ _ ⟨m_1, hm_1, (w64 (t11_1 + 1)), x_3, x_4, rfl, H, hL_4⟩
def u72 (P : Program) (from0_1 : Int) (b_1 : Nat) (t1_1 : Sl) (b_2 : Nat) (t2_1 : Sl) (t2_2 : Int) (h : Heap) (K : Value → Heap → Prop) : Prop :=
  InB t1_1 from0_1 ∧
  ∃ t7_1 : Sl, hcell h (Sl.at t1_1 from0_1 1) = some (Sl.v t7_1) ∧
  InB t2_1 from0_1 ∧
  ∃ t12_1 : Int, hcell h (Sl.at t2_1 from0_1 1) = some (VI t12_1) ∧
  InB t7_1 t12_1 ∧
  ∃ t14_1 : Int, hcell h (Sl.at t7_1 t12_1 1) = some (VI t14_1) ∧
  InB t7_1 t12_1 ∧
  Writable h (Sl.at t7_1 t12_1 1) ∧ Vars (hset h (Sl.at t7_1 t12_1 1) (VI (w64 (t14_1 + 1)))) [(b_1, [(Sl.v t1_1)]), (b_2, [(Sl.v t2_1), (VI t2_2)])] ∧
  ∀ h_1 : Heap, h_1 = hset h (Sl.at t7_1 t12_1 1) (VI (w64 (t14_1 + 1))) → Vars h_1 [(b_1, [(Sl.v t1_1)]), (b_2, [(Sl.v t2_1), (VI t2_2)])] →
  K (Value.tuple #[]) h_1
theorem v72 (from0_1 : Int) (b_1 : Nat) (t1_1 : Sl) (b_2 : Nat) (t2_1 : Sl) (t2_2 : Int) (h : Heap) (K : Value → Heap → Prop) (hL : Vars h [(b_1, [(Sl.v t1_1)]), (b_2, [(Sl.v t2_1), (VI t2_2)])]) (H : u72 Tryd.prog from0_1 b_1 t1_1 b_2 t2_1 t2_2 h K) : callM Tryd.prog 72 #[(VI from0_1), (VP b_1 0), (VP b_2 0)] h K := by
  refine c72 (VI from0_1) (VP b_1 0) (VP b_2 0) h K ?_
  unfold u72 at H
  unfold t72
  refine rop_loc one22 hL 0 rfl 0 (v := (Sl.v t1_1)) rfl ?_
  obtain ⟨hi_1, H⟩ := H
  refine pop_index sli22 siz34 .i64 t1_1 from0_1 hi_1 ?_
  obtain ⟨t7_1, hc_3, H⟩ := H
  refine rop_one one34 (Sl.v t7_1) hc_3 ?_
  refine pop_field 0 fld43_0 b_2 0 ?_
  refine rop_loc one34 hL 1 rfl 0 (v := (Sl.v t2_1)) rfl ?_
  obtain ⟨hi_2, H⟩ := H
  refine pop_index sli34 siz3 .i64 t2_1 from0_1 hi_2 ?_
  obtain ⟨t12_1, hc_2, H⟩ := H
  refine rop_one one3 (VI t12_1) hc_2 ?_
  obtain ⟨hi_3, H⟩ := H
  refine pop_index sli34 siz3 .i64 t7_1 t12_1 hi_3 ?_
  obtain ⟨t14_1, hc_1, H⟩ := H
  refine rop_one one3 (VI t14_1) hc_1 ?_
  refine pop_add .i64 t14_1 1 ?_
  obtain ⟨hi_4, H⟩ := H
  refine pop_index sli34 siz3 .i64 t7_1 t12_1 hi_4 ?_
  obtain ⟨hw_1, hL_1, H⟩ := H
  refine uop_cell (v := (VI (w64 (t14_1 + 1)))) siz3 hw_1 rfl (fun h_1 he_1 => ?_)
  rw [← he_1] at hL_1
  have H := H h_1 he_1 hL_1
  exact H
def u73 (P : Program) (g0_1 : Sl) (w1_1 : Sl) (w1_2 : Int) (n2_1 : Int) (h : Heap) (K : Value → Heap → Prop) : Prop :=
  ∀ (b_1 : Nat) (b_2 : Nat) (h_2 : Heap), h.size ≤ b_1 → h.size ≤ b_2 → Fr (In []) h h_2 → Vars h_2 [(b_2, [(Sl.v w1_1), (VI w1_2)]), (b_1, [(Sl.v g0_1)])] →
  callM P 62 #[(Value.agg #[(Sl.v g0_1)]), (Value.agg #[(Sl.v w1_1), (VI w1_2)])] h_2 fun rv_1 h_3 => ∃ t9_1 : Bool, rv_1 = (VB t9_1) ∧ Vars h_3 [(b_2, [(Sl.v w1_1), (VI w1_2)]), (b_1, [(Sl.v g0_1)])] ∧
  (t9_1 = true →
  callM P 51 #[(VI n2_1), (VI 0), (VI 2000)] h_3 fun rv_2 h_4 => ∃ t12_1 : Bool, rv_2 = (VB t12_1) ∧ Vars h_4 [(b_2, [(Sl.v w1_1), (VI w1_2)]), (b_1, [(Sl.v g0_1)])] ∧
  K (VB t12_1) h_4) ∧
  (t9_1 = false →
  K (VB false) h_3)
theorem v73 (g0_1 : Sl) (w1_1 : Sl) (w1_2 : Int) (n2_1 : Int) (h : Heap) (K : Value → Heap → Prop) (H : u73 Tryd.prog g0_1 w1_1 w1_2 n2_1 h K) : callM Tryd.prog 73 #[(Value.agg #[(Sl.v g0_1)]), (Value.agg #[(Sl.v w1_1), (VI w1_2)]), (VI n2_1)] h K := by
  refine c73 (Value.agg #[(Sl.v g0_1)]) (Value.agg #[(Sl.v w1_1), (VI w1_2)]) (VI n2_1) h K ?_
  unfold u73 at H
  unfold t73
  have hL : Vars h [] := .nil
  refine eop_box 41 (Value.agg #[(Sl.v g0_1)]) rfl hL (fun b_1 h_1 hb_1 hf_1 hL_1 => ?_)
  refine eop_box 43 (Value.agg #[(Sl.v w1_1), (VI w1_2)]) rfl hL_1 (fun b_2 h_2 hb_2 hf_2 hL_2 => ?_)
  refine rop_locA agg41 hL_2 1 rfl 0 (vs := [(Sl.v g0_1)]) rfl rfl ?_
  refine rop_locA agg43 hL_2 0 rfl 0 (vs := [(Sl.v w1_1), (VI w1_2)]) rfl rfl ?_
  have H := H b_1 b_2 h_2 (Nat.le_trans (Fr.size (Fr.r (In []) _)) hb_1) (Nat.le_trans (Fr.size (Fr.no' (Fr.r (In []) _) hf_1)) hb_2) (Fr.no' (Fr.no' (Fr.r (In []) _) hf_1) hf_2) hL_2
  refine H.mono fun rv_1 h_3 H => ?_
  obtain ⟨t9_1, rfl, hL_3, H⟩ := H
  refine guardM_st (fun hb_3 => ?_) (fun hb_3 => ?_)
  rotate_left
  ·have H := H.2 hb_3
   refine guardM_n' hb_3 (by decide) ?_
   refine pop_pickf' hb_3 ?_
   exact H
  have H := H.1 hb_3
  refine guardM_y' hb_3 ?_
  refine H.mono fun rv_2 h_4 H => ?_
  obtain ⟨t12_1, rfl, hL_4, H⟩ := H
  refine pop_pickt' hb_3 ?_
  exact H
end Go.Proofs.YtkjkfjkapbpgiaaDoor
