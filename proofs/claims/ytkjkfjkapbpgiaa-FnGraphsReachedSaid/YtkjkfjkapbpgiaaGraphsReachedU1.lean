import Derived.Test.YtkjkfjkapbpgiaaGraphsReachedU
import Derived.Test.YtkjkfjkapbpgiaaGraphsReachedT
import Derived.Test.YtkjkfjkapbpgiaaM2
set_option linter.unusedVariables false
set_option linter.unusedSimpArgs false
set_option maxRecDepth 100000
set_option maxHeartbeats 16000000
namespace Go.Proofs.Ytkjkfjkapbpgiaa
open Go Go.Mx
theorem v5 (code0_1 : Sl) (more1_1 : Sl) (h : Heap) (K : Value → Heap → Prop) (H : u5 Try.prog code0_1 more1_1 h K) : callM Try.prog 5 #[(Sl.v code0_1), (Sl.v more1_1)] h K := by
  refine c5 (Sl.v code0_1) (Sl.v more1_1) h K ?_
  unfold u5 at H
  unfold t5
  have hL : Vars h [] := .nil
  refine H.mono fun rv_1 h_1 H => ?_
  obtain ⟨t58_1, rfl, hL_1, H⟩ := H
  refine condM_b (fun hb_1 => ?_) (fun hb_1 => ?_)
  ·have H := H.1 hb_1
   exact H
  have H := H.2 hb_1
  refine H.mono fun rv_2 h_2 H => ?_
  obtain ⟨t61_1, t61_2, t61_3, rfl, hL_2, H⟩ := H
  refine pop_ext (v := (Value.agg #[(Sl.v t61_1)])) rfl ?_
  refine pop_ext (v := (VI t61_2)) rfl ?_
  refine pop_ext (v := (VI t61_3)) rfl ?_
  refine eop_alloc 32 zer32 rfl hL_2 (fun b_1 h_3 hb_2 hf_1 hL_3 => ?_)
  refine uop_loc siz32 hL_3 0 rfl 0 [(Sl.v t61_1)] rfl rfl rfl (Nat.le_of_ble_eq_true rfl) (L' := [(b_1, [(Sl.v t61_1)])]) rfl (fun h_4 hf_2 hL_4 => ?_)
  refine rop_locA agg32 hL_4 0 rfl 0 (vs := [(Sl.v t61_1)]) rfl rfl ?_
  have H := H b_1 h_4 (Nat.le_trans (Fr.size (Fr.r (In []) _)) hb_2) (Fr.new (Fr.no' (Fr.r (In []) _) hf_1) (Nat.le_trans (Fr.size (Fr.r (In []) _)) hb_2) hf_2) hL_4
  refine H.mono fun rv_3 h_5 H => ?_
  obtain ⟨t69_1, t69_2, rfl, hL_5, H⟩ := H
  refine pop_ext (v := (VI t69_1)) rfl ?_
  refine pop_ext (v := (VB t69_2)) rfl ?_
  refine rop_locA agg32 hL_5 0 rfl 0 (vs := [(Sl.v t61_1)]) rfl rfl ?_
  refine H.mono fun rv_4 h_6 H => ?_
  obtain ⟨t76_1, t76_2, rfl, hL_6, H⟩ := H
  refine pop_ext (v := (VI t76_1)) rfl ?_
  refine pop_ext (v := (VB t76_2)) rfl ?_
  refine rop_locA agg32 hL_6 0 rfl 0 (vs := [(Sl.v t61_1)]) rfl rfl ?_
  refine H.mono fun rv_5 h_7 H => ?_
  obtain ⟨t82_1, t82_2, rfl, hL_7, H⟩ := H
  refine pop_ext (v := (Sl.v t82_1)) rfl ?_
  refine pop_ext (v := (VB t82_2)) rfl ?_
  refine rop_locA agg32 hL_7 0 rfl 0 (vs := [(Sl.v t61_1)]) rfl rfl ?_
  refine H.mono fun rv_6 h_8 H => ?_
  obtain ⟨t88_1, t88_2, rfl, hL_8, H⟩ := H
  refine pop_ext (v := (Sl.v t88_1)) rfl ?_
  refine pop_ext (v := (VB t88_2)) rfl ?_
  refine pop_bne boo4 _ _ t69_2 t76_2 ?_
  refine guardM_sf (fun hb_3 => ?_) (fun hb_3 => ?_)
  rotate_left
  ·have H := H.1 hb_3
   refine guardM_n' hb_3 (by decide) ?_
   refine guardM_n' hb_3 (by decide) ?_
   refine pop_pickt' hb_3 ?_
   refine guardM_n (by decide) ?_
   refine guardM_n (by decide) ?_
   refine guardM_n (by decide) ?_
   refine pop_pickt _ _ ?_
   refine guardM_n (by decide) ?_
   refine guardM_n (by decide) ?_
   refine guardM_n (by decide) ?_
   refine guardM_n (by decide) ?_
   refine pop_pickt _ _ ?_
   refine condM_t ?_
   exact H
  have H := H.2 hb_3
  refine guardM_y' hb_3 ?_
  refine guardM_y' hb_3 ?_
  refine pop_ine .i64 _ _ t69_1 t76_1 ?_
  refine pop_pickf' hb_3 ?_
  refine guardM_sf (fun hb_4 => ?_) (fun hb_4 => ?_)
  rotate_left
  ·have H := H.1 hb_4
   refine guardM_n' hb_4 (by decide) ?_
   refine guardM_n' hb_4 (by decide) ?_
   refine pop_pickt' hb_4 ?_
   refine guardM_n (by decide) ?_
   refine guardM_n (by decide) ?_
   refine guardM_n (by decide) ?_
   refine guardM_n (by decide) ?_
   refine pop_pickt _ _ ?_
   refine condM_t ?_
   exact H
  have H := H.2 hb_4
  refine guardM_y' hb_4 ?_
  refine guardM_y' hb_4 ?_
  refine pop_bne boo4 _ _ t82_2 t88_2 ?_
  refine pop_pickf' hb_4 ?_
  refine guardM_sf (fun hb_5 => ?_) (fun hb_5 => ?_)
  rotate_left
  ·have H := H.1 hb_5
   refine guardM_n' hb_5 (by decide) ?_
   refine guardM_n' hb_5 (by decide) ?_
   refine guardM_n' hb_5 (by decide) ?_
   refine pop_pickt' hb_5 ?_
   refine condM_t ?_
   exact H
  have H := H.2 hb_5
  refine guardM_y' hb_5 ?_
  refine guardM_y' hb_5 ?_
  refine H.mono fun rv_7 h_9 H => ?_
  obtain ⟨t107_1, rfl, hL_9, H⟩ := H
  refine guardM_y' hb_5 ?_
  refine pop_not t107_1 ?_
  refine pop_pickf' hb_5 ?_
  refine condM_b (fun hb_6 => ?_) (fun hb_6 => ?_)
  ·have H := H.1 hb_6
   exact H
  have H := H.2 hb_6
  refine guardM_st (fun hb_7 => ?_) (fun hb_7 => ?_)
  rotate_left
  ·have H := H.2 hb_7
   refine guardM_n' hb_7 (by decide) ?_
   refine pop_pickf' hb_7 ?_
   refine guardM_n (by decide) ?_
   refine guardM_n (by decide) ?_
   refine pop_pickf _ _ ?_
   refine guardM_n (by decide) ?_
   refine guardM_n (by decide) ?_
   refine guardM_n (by decide) ?_
   refine guardM_n (by decide) ?_
   refine guardM_n (by decide) ?_
   refine pop_pickf _ _ ?_
   refine guardM_n (by decide) ?_
   refine guardM_n (by decide) ?_
   refine guardM_n (by decide) ?_
   refine guardM_n (by decide) ?_
   refine guardM_n (by decide) ?_
   refine pop_pickf _ _ ?_
   refine condM_f ?_
   refine guardM_st (fun hb_300 => ?_) (fun hb_300 => ?_)
   rotate_left
   ·have H := H.2 hb_300
    refine guardM_n' hb_300 (by decide) ?_
    refine guardM_n' hb_300 (by decide) ?_
    refine guardM_n (by decide) ?_
    refine guardM_n (by decide) ?_
    refine guardM_n (by decide) ?_
    refine guardM_n (by decide) ?_
    refine guardM_n (by decide) ?_
    refine guardM_n' hb_300 (by decide) ?_
    refine guardM_n' hb_300 (by decide) ?_
    refine guardM_n (by decide) ?_
    refine guardM_n (by decide) ?_
    refine guardM_n (by decide) ?_
    refine guardM_n (by decide) ?_
    refine guardM_n (by decide) ?_
    refine guardM_n (by decide) ?_
    refine guardM_n' hb_300 (by decide) ?_
    refine pop_pickf' hb_300 ?_
    refine condM_f ?_
    refine H.mono fun rv_172 h_354 H => ?_
    obtain ⟨t154_10, rfl, hL_354, H⟩ := H
    refine eop_alloc 32 zer32 rfl hL_354 (fun b_47 h_355 hb_338 hf_93 hL_355 => ?_)
    refine uop_loc siz32 hL_355 0 rfl 0 [(Sl.v t154_10)] rfl rfl rfl (Nat.le_of_ble_eq_true rfl) (L' := [(b_47, [(Sl.v t154_10)]), (b_1, [(Sl.v t61_1)])]) rfl (fun h_356 hf_94 hL_356 => ?_)
    refine rop_locA agg32 hL_356 0 rfl 0 (vs := [(Sl.v t154_10)]) rfl rfl ?_
    have H := H b_47 h_356 (Nat.le_trans (Fr.size (Fr.r (In []) _)) hb_338) (Fr.new (Fr.no' (Fr.r (In []) _) hf_93) (Nat.le_trans (Fr.size (Fr.r (In []) _)) hb_338) hf_94) hL_356
    refine H.mono fun rv_173 h_357 H => ?_
    obtain ⟨t157_19, t157_20, rfl, hL_357, H⟩ := H
    refine pop_ext (v := (Sl.v t157_19)) rfl ?_
    refine pop_ext (v := (VB t157_20)) rfl ?_
    refine rop_locA agg32 hL_357 0 rfl 0 (vs := [(Sl.v t154_10)]) rfl rfl ?_
    refine H.mono fun rv_174 h_358 H => ?_
    obtain ⟨t162_19, t162_20, rfl, hL_358, H⟩ := H
    refine pop_ext (v := (Sl.v t162_19)) rfl ?_
    refine pop_ext (v := (VB t162_20)) rfl ?_
    refine rop_locA agg32 hL_358 0 rfl 0 (vs := [(Sl.v t154_10)]) rfl rfl ?_
    refine H.mono fun rv_175 h_359 H => ?_
    obtain ⟨t167_19, t167_20, rfl, hL_359, H⟩ := H
    refine pop_ext (v := (VB t167_19)) rfl ?_
    refine pop_ext (v := (VB t167_20)) rfl ?_
    refine rop_locA agg32 hL_359 0 rfl 0 (vs := [(Sl.v t154_10)]) rfl rfl ?_
    refine H.mono fun rv_176 h_360 H => ?_
    obtain ⟨t172_19, t172_20, rfl, hL_360, H⟩ := H
    refine pop_ext (v := (VB t172_19)) rfl ?_
    refine pop_ext (v := (VB t172_20)) rfl ?_
    refine pop_bne boo4 _ _ t157_20 t162_20 ?_
    refine guardM_sf (fun hb_339 => ?_) (fun hb_339 => ?_)
    rotate_left
    ·have H := H.1 hb_339
     refine guardM_n' hb_339 (by decide) ?_
     refine guardM_n' hb_339 (by decide) ?_
     refine guardM_n' hb_339 (by decide) ?_
     refine pop_pickt' hb_339 ?_
     refine guardM_n (by decide) ?_
     refine guardM_n (by decide) ?_
     refine guardM_n (by decide) ?_
     refine pop_pickt _ _ ?_
     refine guardM_n (by decide) ?_
     refine guardM_n (by decide) ?_
     refine guardM_n (by decide) ?_
     refine pop_pickt _ _ ?_
     refine guardM_n (by decide) ?_
     refine guardM_n (by decide) ?_
     refine guardM_n (by decide) ?_
     refine pop_pickt _ _ ?_
     refine condM_t ?_
     exact H
    have H := H.2 hb_339
    refine guardM_y' hb_339 ?_
    refine guardM_y' hb_339 ?_
    refine H.mono fun rv_177 h_361 H => ?_
    obtain ⟨t181_10, rfl, hL_361, H⟩ := H
    refine guardM_y' hb_339 ?_
    refine pop_not t181_10 ?_
    refine pop_pickf' hb_339 ?_
    refine guardM_sf (fun hb_340 => ?_) (fun hb_340 => ?_)
    rotate_left
    ·have H := H.1 hb_340
     refine guardM_n' hb_340 (by decide) ?_
     refine guardM_n' hb_340 (by decide) ?_
     refine pop_pickt' hb_340 ?_
     refine guardM_n (by decide) ?_
     refine guardM_n (by decide) ?_
     refine guardM_n (by decide) ?_
     refine pop_pickt _ _ ?_
     refine guardM_n (by decide) ?_
     refine guardM_n (by decide) ?_
     refine guardM_n (by decide) ?_
     refine pop_pickt _ _ ?_
     refine condM_t ?_
     exact H
    have H := H.2 hb_340
    refine guardM_y' hb_340 ?_
    refine guardM_y' hb_340 ?_
    refine pop_bne boo4 _ _ t167_20 t172_20 ?_
    refine pop_pickf' hb_340 ?_
    refine guardM_sf (fun hb_341 => ?_) (fun hb_341 => ?_)
    rotate_left
    ·have H := H.1 hb_341
     refine guardM_n' hb_341 (by decide) ?_
     refine guardM_n' hb_341 (by decide) ?_
     refine pop_pickt' hb_341 ?_
     refine guardM_n (by decide) ?_
     refine guardM_n (by decide) ?_
     refine guardM_n (by decide) ?_
     refine pop_pickt _ _ ?_
     refine condM_t ?_
     exact H
    have H := H.2 hb_341
    refine guardM_y' hb_341 ?_
    refine guardM_y' hb_341 ?_
    refine pop_bne boo4 _ _ t167_19 t172_19 ?_
    refine pop_pickf' hb_341 ?_
    refine guardM_sf (fun hb_342 => ?_) (fun hb_342 => ?_)
    rotate_left
    ·have H := H.1 hb_342
     refine guardM_n' hb_342 (by decide) ?_
     refine guardM_n' hb_342 (by decide) ?_
     refine pop_pickt' hb_342 ?_
     refine condM_t ?_
     exact H
    have H := H.2 hb_342
    refine guardM_y' hb_342 ?_
    refine guardM_y' hb_342 ?_
    refine pop_bne boo4 _ _ t167_20 t157_20 ?_
    refine pop_pickf' hb_342 ?_
    refine condM_b (fun hb_343 => ?_) (fun hb_343 => ?_)
    ·have H := H.1 hb_343
     exact H
    have H := H.2 hb_343
    obtain ⟨J_91, H, HB_100⟩ := H
    refine ⟨fun (vs : List Value) (h' : Heap) => vs = [] ∧ J_91  h' ∧ Vars h' [(b_47, [(Sl.v t154_10)]), (b_1, [(Sl.v t61_1)])], ?_, ?_⟩
    ·refine condM_b (fun hb_344 => ?_) (fun hb_344 => ?_)
     rotate_left
     ·have H := H.2 hb_344
      exact ⟨rfl, H, hL_361⟩
     have H := H.1 hb_344
     refine pop_len t157_19 _ _ sli22 ?_
     obtain ⟨J_92, ⟨n_154, h0_77⟩, HB_95⟩ := H
     refine loop_intro (J := fun (n : Nat) (vs : List Value) (h' : Heap) => ∃ count25_10 : Int, ∃ t202_10 : Int, vs = [(VI count25_10), (VI t202_10)] ∧ J_92 n count25_10 t202_10 h' ∧ Vars h' [(b_47, [(Sl.v t154_10)]), (b_1, [(Sl.v t61_1)])]) n_154 ⟨0, 0, rfl, h0_77, hL_361⟩ ?_
     intro I_77 mu_77 hI_77 junk_91 tv_95 tv_96 h_362 hi_163
     obtain ⟨n_145, ⟨count25_10, t202_10, hv, hJ_91, hL_362⟩, hn_73⟩ := hI_77 _ _ hi_163
     cases hv
     have H := HB_95 n_145 count25_10 t202_10 h_362 hJ_91 hL_362
     refine pop_lss .i64 t202_10 (t157_19.n : Int) ?_
     refine condM_b (fun hb_345 => ?_) (fun hb_345 => ?_)
     rotate_left
     ·have H := H.2 hb_345
      refine pop_field 0 fld32_0 b_47 0 ?_
      refine rop_loc one22 hL_362 0 rfl 0 (v := (Sl.v t154_10)) rfl ?_
      refine pop_len t154_10 _ _ sli22 ?_
      refine pop_ine .i64 _ _ count25_10 (t154_10.n : Int) ?_
      refine guardM_sf (fun hb_354 => ?_) (fun hb_354 => ?_)
      rotate_left
      ·have H := H.1 hb_354
       refine guardM_n' hb_354 (by decide) ?_
       refine guardM_n' hb_354 (by decide) ?_
       refine guardM_n' hb_354 (by decide) ?_
       refine guardM_n' hb_354 (by decide) ?_
       refine pop_pickt' hb_354 ?_
       refine condM_t ?_
       exact H
      have H := H.2 hb_354
      refine guardM_y' hb_354 ?_
      refine guardM_y' hb_354 ?_
      refine pop_len t157_19 _ _ sli22 ?_
      refine guardM_y' hb_354 ?_
      refine pop_ieq .i64 _ _ (t157_19.n : Int) 1 ?_
      refine guardM_y' hb_354 ?_
      refine pop_bne boo4 _ _ t167_19 (decide ((t157_19.n : Int) = 1)) ?_
      refine pop_pickf' hb_354 ?_
      refine condM_b (fun hb_355 => ?_) (fun hb_355 => ?_)
      ·have H := H.1 hb_355
       exact H
      have H := H.2 hb_355
      exact ⟨rfl, H, hL_362⟩
     have H := H.1 hb_345
     obtain ⟨hi_164, H⟩ := H
     refine pop_index sli22 siz27 .i64 t157_19 t202_10 hi_164 ?_
     obtain ⟨t206_10, hc_98, H⟩ := H
     refine rop_one one27 (Sl.v t206_10) hc_98 ?_
     refine pop_len t206_10 _ _ sli27 ?_
     refine pop_add .i64 count25_10 (t206_10.n : Int) ?_
     refine pop_gtr .i64 t202_10 0 ?_
     refine guardM_st (fun hb_346 => ?_) (fun hb_346 => ?_)
     rotate_left
     ·have H := H.2 hb_346
      refine guardM_n' hb_346 (by decide) ?_
      refine guardM_n' hb_346 (by decide) ?_
      refine guardM_n' hb_346 (by decide) ?_
      refine guardM_n' hb_346 (by decide) ?_
      refine guardM_n' hb_346 (by decide) ?_
      refine guardM_n' hb_346 (by decide) ?_
      refine guardM_n' hb_346 (by decide) ?_
      refine guardM_n' hb_346 (by decide) ?_
      refine guardM_n' hb_346 (by decide) ?_
      refine guardM_n' hb_346 (by decide) ?_
      refine pop_pickf' hb_346 ?_
      refine condM_f ?_
      refine pop_len t206_10 _ _ sli27 ?_
      obtain ⟨J_95, ⟨n_153, h0_76⟩, HB_94⟩ := H
      refine loop_intro (J := fun (n : Nat) (vs : List Value) (h' : Heap) => ∃ t228_20 : Int, vs = [(VI t228_20)] ∧ J_95 n t228_20 h' ∧ Vars h' [(b_47, [(Sl.v t154_10)]), (b_1, [(Sl.v t61_1)])]) n_153 ⟨0, rfl, h0_76, hL_362⟩ ?_
      intro I_76 mu_76 hI_76 junk_94 tv_94 h_366 hi_172
      obtain ⟨n_150, ⟨t228_20, hv, hJ_94, hL_366⟩, hn_76⟩ := hI_76 _ _ hi_172
      cases hv
      have H := HB_94 n_150 t228_20 h_366 hJ_94 hL_366
      refine pop_lss .i64 t228_20 (t206_10.n : Int) ?_
      refine condM_b (fun hb_351 => ?_) (fun hb_351 => ?_)
      rotate_left
      ·have H := H.2 hb_351
       refine pop_add .i64 t202_10 1 ?_
       obtain ⟨m_96, hm_96, H⟩ := H
       exact hn_73 _ _ ⟨m_96, hm_96, (w64 (count25_10 + (t206_10.n : Int))), (w64 (t202_10 + 1)), rfl, H, hL_366⟩
      have H := H.1 hb_351
      obtain ⟨hi_173, H⟩ := H
      refine pop_index sli27 siz3 .i64 t206_10 t228_20 hi_173 ?_
      obtain ⟨t231_20, hc_97, H⟩ := H
      refine rop_one one3 (VI t231_20) hc_97 ?_
      refine pop_len t206_10 _ _ sli27 ?_
      obtain ⟨J_96, ⟨n_152, h0_75⟩, HB_93⟩ := H
      refine loop_intro (J := fun (n : Nat) (vs : List Value) (h' : Heap) => ∃ t234_20 : Int, vs = [(VI t234_20)] ∧ J_96 n t234_20 h' ∧ Vars h' [(b_47, [(Sl.v t154_10)]), (b_1, [(Sl.v t61_1)])]) n_152 ⟨0, rfl, h0_75, hL_366⟩ ?_
      intro I_75 mu_75 hI_75 junk_95 tv_93 h_367 hi_174
      obtain ⟨n_151, ⟨t234_20, hv, hJ_95, hL_367⟩, hn_77⟩ := hI_75 _ _ hi_174
      cases hv
      have H := HB_93 n_151 t234_20 h_367 hJ_95 hL_367
      refine pop_lss .i64 t234_20 (t206_10.n : Int) ?_
      refine condM_b (fun hb_352 => ?_) (fun hb_352 => ?_)
      rotate_left
      ·have H := H.2 hb_352
       refine pop_add .i64 t228_20 1 ?_
       obtain ⟨m_95, hm_95, H⟩ := H
       exact hn_76 _ _ ⟨m_95, hm_95, (w64 (t228_20 + 1)), rfl, H, hL_367⟩
      have H := H.1 hb_352
      obtain ⟨hi_175, H⟩ := H
      refine pop_index sli27 siz3 .i64 t206_10 t234_20 hi_175 ?_
      obtain ⟨t237_20, hc_96, H⟩ := H
      refine rop_one one3 (VI t237_20) hc_96 ?_
      refine rop_locA agg32 hL_367 0 rfl 0 (vs := [(Sl.v t154_10)]) rfl rfl ?_
      refine H.mono fun rv_179 h_368 H => ?_
      obtain ⟨t242_39, t242_40, rfl, hL_368, H⟩ := H
      refine pop_ext (v := (VI t242_39)) rfl ?_
      refine pop_ext (v := (VB t242_40)) rfl ?_
      refine pop_not t242_40 ?_
      refine condM_b (fun hb_353 => ?_) (fun hb_353 => ?_)
      ·have H := H.1 hb_353
       exact H
      have H := H.2 hb_353
      refine pop_add .i64 t234_20 1 ?_
      obtain ⟨m_94, hm_94, H⟩ := H
      exact hn_77 _ _ ⟨m_94, hm_94, (w64 (t234_20 + 1)), rfl, H, hL_368⟩
     have H := H.1 hb_346
     refine guardM_y' hb_346 ?_
     refine guardM_y' hb_346 ?_
     refine pop_sub .i64 t202_10 1 ?_
     refine guardM_y' hb_346 ?_
     obtain ⟨hi_165, H⟩ := H
     refine pop_index sli22 siz27 .i64 t157_19 (w64 (t202_10 - 1)) hi_165 ?_
     refine guardM_y' hb_346 ?_
     obtain ⟨t218_10, hc_95, H⟩ := H
     refine rop_one one27 (Sl.v t218_10) hc_95 ?_
     refine guardM_y' hb_346 ?_
     obtain ⟨hi_166, H⟩ := H
     refine pop_index sli27 siz3 .i64 t218_10 0 hi_166 ?_
     refine guardM_y' hb_346 ?_
     obtain ⟨t220_10, hc_94, H⟩ := H
     refine rop_one one3 (VI t220_10) hc_94 ?_
     refine guardM_y' hb_346 ?_
     refine guardM_y' hb_346 ?_
     obtain ⟨hi_167, H⟩ := H
     refine pop_index sli27 siz3 .i64 t206_10 0 hi_167 ?_
     refine guardM_y' hb_346 ?_
     obtain ⟨t223_10, hc_93, H⟩ := H
     refine rop_one one3 (VI t223_10) hc_93 ?_
     refine guardM_y' hb_346 ?_
     refine pop_geq .i64 t220_10 t223_10 ?_
     refine pop_pickt' hb_346 ?_
     refine condM_b (fun hb_347 => ?_) (fun hb_347 => ?_)
     ·have H := H.1 hb_347
      exact H
     have H := H.2 hb_347
     refine pop_len t206_10 _ _ sli27 ?_
     obtain ⟨J_93, ⟨n_149, h0_74⟩, HB_92⟩ := H
     refine loop_intro (J := fun (n : Nat) (vs : List Value) (h' : Heap) => ∃ t228_19 : Int, vs = [(VI t228_19)] ∧ J_93 n t228_19 h' ∧ Vars h' [(b_47, [(Sl.v t154_10)]), (b_1, [(Sl.v t61_1)])]) n_149 ⟨0, rfl, h0_74, hL_362⟩ ?_
     intro I_74 mu_74 hI_74 junk_92 tv_92 h_363 hi_168
     obtain ⟨n_146, ⟨t228_19, hv, hJ_92, hL_363⟩, hn_74⟩ := hI_74 _ _ hi_168
     cases hv
     have H := HB_92 n_146 t228_19 h_363 hJ_92 hL_363
     refine pop_lss .i64 t228_19 (t206_10.n : Int) ?_
     refine condM_b (fun hb_348 => ?_) (fun hb_348 => ?_)
     rotate_left
     ·have H := H.2 hb_348
      refine pop_add .i64 t202_10 1 ?_
      obtain ⟨m_93, hm_93, H⟩ := H
      exact hn_73 _ _ ⟨m_93, hm_93, (w64 (count25_10 + (t206_10.n : Int))), (w64 (t202_10 + 1)), rfl, H, hL_363⟩
     have H := H.1 hb_348
     obtain ⟨hi_169, H⟩ := H
     refine pop_index sli27 siz3 .i64 t206_10 t228_19 hi_169 ?_
     obtain ⟨t231_19, hc_92, H⟩ := H
     refine rop_one one3 (VI t231_19) hc_92 ?_
     refine pop_len t206_10 _ _ sli27 ?_
     obtain ⟨J_94, ⟨n_148, h0_73⟩, HB_91⟩ := H
     refine loop_intro (J := fun (n : Nat) (vs : List Value) (h' : Heap) => ∃ t234_19 : Int, vs = [(VI t234_19)] ∧ J_94 n t234_19 h' ∧ Vars h' [(b_47, [(Sl.v t154_10)]), (b_1, [(Sl.v t61_1)])]) n_148 ⟨0, rfl, h0_73, hL_363⟩ ?_
     intro I_73 mu_73 hI_73 junk_93 tv_91 h_364 hi_170
     obtain ⟨n_147, ⟨t234_19, hv, hJ_93, hL_364⟩, hn_75⟩ := hI_73 _ _ hi_170
     cases hv
     have H := HB_91 n_147 t234_19 h_364 hJ_93 hL_364
     refine pop_lss .i64 t234_19 (t206_10.n : Int) ?_
     refine condM_b (fun hb_349 => ?_) (fun hb_349 => ?_)
     rotate_left
     ·have H := H.2 hb_349
      refine pop_add .i64 t228_19 1 ?_
      obtain ⟨m_92, hm_92, H⟩ := H
      exact hn_74 _ _ ⟨m_92, hm_92, (w64 (t228_19 + 1)), rfl, H, hL_364⟩
     have H := H.1 hb_349
     obtain ⟨hi_171, H⟩ := H
     refine pop_index sli27 siz3 .i64 t206_10 t234_19 hi_171 ?_
     obtain ⟨t237_19, hc_91, H⟩ := H
     refine rop_one one3 (VI t237_19) hc_91 ?_
     refine rop_locA agg32 hL_364 0 rfl 0 (vs := [(Sl.v t154_10)]) rfl rfl ?_
     refine H.mono fun rv_178 h_365 H => ?_
     obtain ⟨t242_37, t242_38, rfl, hL_365, H⟩ := H
     refine pop_ext (v := (VI t242_37)) rfl ?_
     refine pop_ext (v := (VB t242_38)) rfl ?_
     refine pop_not t242_38 ?_
     refine condM_b (fun hb_350 => ?_) (fun hb_350 => ?_)
     ·have H := H.1 hb_350
      exact H
     have H := H.2 hb_350
     refine pop_add .i64 t234_19 1 ?_
     obtain ⟨m_91, hm_91, H⟩ := H
     exact hn_75 _ _ ⟨m_91, hm_91, (w64 (t234_19 + 1)), rfl, H, hL_365⟩
    intro junk_96  h_369
    rintro ⟨hv, hJ_96, hL_369⟩
    have H := HB_100  h_369 hJ_96 hL_369
    refine H.mono fun rv_180 h_370 H => ?_
    obtain ⟨t264_19, t264_20, rfl, hL_370, H⟩ := H
    refine pop_ext (v := (Value.agg #[(Sl.v t264_19)])) rfl ?_
    refine pop_ext (v := (Sl.v t264_20)) rfl ?_
    refine eop_alloc 32 zer32 rfl hL_370 (fun b_48 h_371 hb_356 hf_95 hL_371 => ?_)
    refine uop_loc siz32 hL_371 0 rfl 0 [(Sl.v t264_19)] rfl rfl rfl (Nat.le_of_ble_eq_true rfl) (L' := [(b_48, [(Sl.v t264_19)]), (b_47, [(Sl.v t154_10)]), (b_1, [(Sl.v t61_1)])]) rfl (fun h_372 hf_96 hL_372 => ?_)
    refine rop_locA agg32 hL_372 0 rfl 0 (vs := [(Sl.v t264_19)]) rfl rfl ?_
    have H := H b_48 h_372 (Nat.le_trans (Fr.size (Fr.r (In []) _)) hb_356) (Fr.new (Fr.no' (Fr.r (In []) _) hf_95) (Nat.le_trans (Fr.size (Fr.r (In []) _)) hb_356) hf_96) hL_372
    refine H.mono fun rv_181 h_373 H => ?_
    obtain ⟨t270_19, t270_20, rfl, hL_373, H⟩ := H
    refine pop_ext (v := (Value.agg #[(Sl.v t270_19)])) rfl ?_
    refine pop_ext (v := (VB t270_20)) rfl ?_
    refine eop_alloc 32 zer32 rfl hL_373 (fun b_49 h_374 hb_357 hf_97 hL_374 => ?_)
    refine uop_loc siz32 hL_374 0 rfl 0 [(Sl.v t270_19)] rfl rfl rfl (Nat.le_of_ble_eq_true rfl) (L' := [(b_49, [(Sl.v t270_19)]), (b_48, [(Sl.v t264_19)]), (b_47, [(Sl.v t154_10)]), (b_1, [(Sl.v t61_1)])]) rfl (fun h_375 hf_98 hL_375 => ?_)
    refine rop_locA agg32 hL_375 1 rfl 0 (vs := [(Sl.v t264_19)]) rfl rfl ?_
    have H := H b_49 h_375 (Nat.le_trans (Fr.size (Fr.r (In []) _)) hb_357) (Fr.new (Fr.no' (Fr.r (In []) _) hf_97) (Nat.le_trans (Fr.size (Fr.r (In []) _)) hb_357) hf_98) hL_375
    refine H.mono fun rv_182 h_376 H => ?_
    obtain ⟨t276_19, t276_20, rfl, hL_376, H⟩ := H
    refine pop_ext (v := (Value.agg #[(Sl.v t276_19)])) rfl ?_
    refine pop_ext (v := (VB t276_20)) rfl ?_
    refine eop_alloc 32 zer32 rfl hL_376 (fun b_50 h_377 hb_358 hf_99 hL_377 => ?_)
    refine uop_loc siz32 hL_377 0 rfl 0 [(Sl.v t276_19)] rfl rfl rfl (Nat.le_of_ble_eq_true rfl) (L' := [(b_50, [(Sl.v t276_19)]), (b_49, [(Sl.v t270_19)]), (b_48, [(Sl.v t264_19)]), (b_47, [(Sl.v t154_10)]), (b_1, [(Sl.v t61_1)])]) rfl (fun h_378 hf_100 hL_378 => ?_)
    refine pop_bne boo4 _ _ t270_20 t276_20 ?_
    refine guardM_sf (fun hb_359 => ?_) (fun hb_359 => ?_)
    rotate_left
    ·have H := H.1 hb_359
     refine guardM_n' hb_359 (by decide) ?_
     refine guardM_n' hb_359 (by decide) ?_
     refine guardM_n' hb_359 (by decide) ?_
     refine pop_pickt' hb_359 ?_
     refine condM_t ?_
     have H := H b_50 h_378 (Nat.le_trans (Fr.size (Fr.r (In []) _)) hb_358) (Fr.new (Fr.no' (Fr.r (In []) _) hf_99) (Nat.le_trans (Fr.size (Fr.r (In []) _)) hb_358) hf_100) hL_378
     exact H
    have H := H.2 hb_359
    refine rop_locA agg32 hL_378 1 rfl 0 (vs := [(Sl.v t270_19)]) rfl rfl ?_
    refine guardM_y' hb_359 ?_
    refine rop_locA agg32 hL_378 0 rfl 0 (vs := [(Sl.v t276_19)]) rfl rfl ?_
    refine guardM_y' hb_359 ?_
    have H := H b_50 h_378 (Nat.le_trans (Fr.size (Fr.r (In []) _)) hb_358) (Fr.new (Fr.no' (Fr.r (In []) _) hf_99) (Nat.le_trans (Fr.size (Fr.r (In []) _)) hb_358) hf_100) hL_378
    refine H.mono fun rv_183 h_379 H => ?_
    obtain ⟨t285_10, rfl, hL_379, H⟩ := H
    refine guardM_y' hb_359 ?_
    refine pop_not t285_10 ?_
    refine pop_pickf' hb_359 ?_
    refine condM_b (fun hb_360 => ?_) (fun hb_360 => ?_)
    ·have H := H.1 hb_360
     exact H
    have H := H.2 hb_360
    obtain ⟨J_97, H, HB_99⟩ := H
    refine ⟨fun (vs : List Value) (h' : Heap) => vs = [] ∧ J_97  h' ∧ Vars h' [(b_50, [(Sl.v t276_19)]), (b_49, [(Sl.v t270_19)]), (b_48, [(Sl.v t264_19)]), (b_47, [(Sl.v t154_10)]), (b_1, [(Sl.v t61_1)])], ?_, ?_⟩
    ·refine condM_b (fun hb_361 => ?_) (fun hb_361 => ?_)
     rotate_left
     ·have H := H.2 hb_361
      exact ⟨rfl, H, hL_379⟩
     have H := H.1 hb_361
     refine pop_field 0 fld32_0 b_48 0 ?_
     refine rop_loc one22 hL_379 2 rfl 0 (v := (Sl.v t264_19)) rfl ?_
     refine pop_len t264_19 _ _ sli22 ?_
     obtain ⟨J_98, ⟨n_158, h0_79⟩, HB_97⟩ := H
     refine loop_intro (J := fun (n : Nat) (vs : List Value) (h' : Heap) => ∃ t292_10 : Int, vs = [(VI t292_10)] ∧ J_98 n t292_10 h' ∧ Vars h' [(b_50, [(Sl.v t276_19)]), (b_49, [(Sl.v t270_19)]), (b_48, [(Sl.v t264_19)]), (b_47, [(Sl.v t154_10)]), (b_1, [(Sl.v t61_1)])]) n_158 ⟨0, rfl, h0_79, hL_379⟩ ?_
     intro I_79 mu_79 hI_79 junk_97 tv_98 h_380 hi_176
     obtain ⟨n_155, ⟨t292_10, hv, hJ_97, hL_380⟩, hn_78⟩ := hI_79 _ _ hi_176
     cases hv
     have H := HB_97 n_155 t292_10 h_380 hJ_97 hL_380
     refine pop_lss .i64 t292_10 (t264_19.n : Int) ?_
     refine condM_b (fun hb_362 => ?_) (fun hb_362 => ?_)
     rotate_left
     ·have H := H.2 hb_362
      exact ⟨rfl, H, hL_380⟩
     have H := H.1 hb_362
     refine pop_field 0 fld32_0 b_48 0 ?_
     refine rop_loc one22 hL_380 2 rfl 0 (v := (Sl.v t264_19)) rfl ?_
     refine pop_len t264_19 _ _ sli22 ?_
     obtain ⟨J_99, ⟨n_157, h0_78⟩, HB_96⟩ := H
     refine loop_intro (J := fun (n : Nat) (vs : List Value) (h' : Heap) => ∃ t298_10 : Int, vs = [(VI t298_10)] ∧ J_99 n t298_10 h' ∧ Vars h' [(b_50, [(Sl.v t276_19)]), (b_49, [(Sl.v t270_19)]), (b_48, [(Sl.v t264_19)]), (b_47, [(Sl.v t154_10)]), (b_1, [(Sl.v t61_1)])]) n_157 ⟨0, rfl, h0_78, hL_380⟩ ?_
     intro I_78 mu_78 hI_78 junk_98 tv_97 h_381 hi_177
     obtain ⟨n_156, ⟨t298_10, hv, hJ_98, hL_381⟩, hn_79⟩ := hI_78 _ _ hi_177
     cases hv
     have H := HB_96 n_156 t298_10 h_381 hJ_98 hL_381
     refine pop_lss .i64 t298_10 (t264_19.n : Int) ?_
     refine condM_b (fun hb_363 => ?_) (fun hb_363 => ?_)
     rotate_left
     ·have H := H.2 hb_363
      refine pop_add .i64 t292_10 1 ?_
      obtain ⟨m_98, hm_98, H⟩ := H
      exact hn_78 _ _ ⟨m_98, hm_98, (w64 (t292_10 + 1)), rfl, H, hL_381⟩
     have H := H.1 hb_363
     refine rop_locA agg32 hL_381 2 rfl 0 (vs := [(Sl.v t264_19)]) rfl rfl ?_
     refine H.mono fun rv_184 h_382 H => ?_
     obtain ⟨t305_19, t305_20, rfl, hL_382, H⟩ := H
     refine pop_ext (v := (VI t305_19)) rfl ?_
     refine pop_ext (v := (VB t305_20)) rfl ?_
     refine rop_locA agg32 hL_382 1 rfl 0 (vs := [(Sl.v t270_19)]) rfl rfl ?_
     obtain ⟨hi_178, H⟩ := H
     refine pop_index sli27 siz3 .i64 t264_20 t292_10 hi_178 ?_
     obtain ⟨t313_10, hc_100, H⟩ := H
     refine rop_one one3 (VI t313_10) hc_100 ?_
     obtain ⟨hi_179, H⟩ := H
     refine pop_index sli27 siz3 .i64 t264_20 t298_10 hi_179 ?_
     obtain ⟨t317_10, hc_99, H⟩ := H
     refine rop_one one3 (VI t317_10) hc_99 ?_
     refine H.mono fun rv_185 h_383 H => ?_
     obtain ⟨t318_19, t318_20, rfl, hL_383, H⟩ := H
     refine pop_ext (v := (VI t318_19)) rfl ?_
     refine pop_ext (v := (VB t318_20)) rfl ?_
     refine pop_bne boo4 _ _ t305_20 t318_20 ?_
     refine guardM_sf (fun hb_364 => ?_) (fun hb_364 => ?_)
     rotate_left
     ·have H := H.1 hb_364
      refine guardM_n' hb_364 (by decide) ?_
      refine guardM_n' hb_364 (by decide) ?_
      refine pop_pickt' hb_364 ?_
      refine condM_t ?_
      exact H
     have H := H.2 hb_364
     refine guardM_y' hb_364 ?_
     refine guardM_y' hb_364 ?_
     refine pop_ine .i64 _ _ t305_19 t318_19 ?_
     refine pop_pickf' hb_364 ?_
     refine condM_b (fun hb_365 => ?_) (fun hb_365 => ?_)
     ·have H := H.1 hb_365
      exact H
     have H := H.2 hb_365
     refine pop_add .i64 t298_10 1 ?_
     obtain ⟨m_97, hm_97, H⟩ := H
     exact hn_79 _ _ ⟨m_97, hm_97, (w64 (t298_10 + 1)), rfl, H, hL_383⟩
    intro junk_99  h_384
    rintro ⟨hv, hJ_99, hL_384⟩
    have H := HB_99  h_384 hJ_99 hL_384
    refine H.mono fun rv_186 h_385 H => ?_
    obtain ⟨t333_19, t333_20, rfl, hL_385, H⟩ := H
    refine pop_ext (v := (Value.agg #[(Sl.v t333_19)])) rfl ?_
    refine pop_ext (v := (VI t333_20)) rfl ?_
    refine eop_alloc 32 zer32 rfl hL_385 (fun b_51 h_386 hb_366 hf_101 hL_386 => ?_)
    refine uop_loc siz32 hL_386 0 rfl 0 [(Sl.v t333_19)] rfl rfl rfl (Nat.le_of_ble_eq_true rfl) (L' := [(b_51, [(Sl.v t333_19)]), (b_50, [(Sl.v t276_19)]), (b_49, [(Sl.v t270_19)]), (b_48, [(Sl.v t264_19)]), (b_47, [(Sl.v t154_10)]), (b_1, [(Sl.v t61_1)])]) rfl (fun h_387 hf_102 hL_387 => ?_)
    refine rop_locA agg32 hL_387 0 rfl 0 (vs := [(Sl.v t333_19)]) rfl rfl ?_
    have H := H b_51 h_387 (Nat.le_trans (Fr.size (Fr.r (In []) _)) hb_366) (Fr.new (Fr.no' (Fr.r (In []) _) hf_101) (Nat.le_trans (Fr.size (Fr.r (In []) _)) hb_366) hf_102) hL_387
    refine H.mono fun rv_187 h_388 H => ?_
    obtain ⟨t339_19, t339_20, rfl, hL_388, H⟩ := H
    refine pop_ext (v := (VB t339_19)) rfl ?_
    refine pop_ext (v := (VB t339_20)) rfl ?_
    refine rop_locA agg32 hL_388 0 rfl 0 (vs := [(Sl.v t333_19)]) rfl rfl ?_
    refine H.mono fun rv_188 h_389 H => ?_
    obtain ⟨t345_19, t345_20, rfl, hL_389, H⟩ := H
    refine pop_ext (v := (VB t345_19)) rfl ?_
    refine pop_ext (v := (VB t345_20)) rfl ?_
    refine pop_bne boo4 _ _ t339_20 t345_20 ?_
    refine guardM_sf (fun hb_367 => ?_) (fun hb_367 => ?_)
    rotate_left
    ·have H := H.1 hb_367
     refine guardM_n' hb_367 (by decide) ?_
     refine guardM_n' hb_367 (by decide) ?_
     refine pop_pickt' hb_367 ?_
     refine condM_t ?_
     exact H
    have H := H.2 hb_367
    refine guardM_y' hb_367 ?_
    refine guardM_y' hb_367 ?_
    refine pop_bne boo4 _ _ t339_19 t345_19 ?_
    refine pop_pickf' hb_367 ?_
    refine condM_b (fun hb_368 => ?_) (fun hb_368 => ?_)
    ·have H := H.1 hb_368
     exact H
    have H := H.2 hb_368
    refine condM_b (fun hb_369 => ?_) (fun hb_369 => ?_)
    rotate_left
    ·have H := H.2 hb_369
     exact H
    have H := H.1 hb_369
    refine pop_field 0 fld32_0 b_51 0 ?_
    refine rop_loc one22 hL_389 0 rfl 0 (v := (Sl.v t333_19)) rfl ?_
    refine pop_len t333_19 _ _ sli22 ?_
    obtain ⟨J_100, ⟨n_160, h0_80⟩, HB_98⟩ := H
    refine loop_intro (J := fun (n : Nat) (vs : List Value) (h' : Heap) => ∃ all52_10 : Bool, ∃ t360_10 : Int, vs = [(VB all52_10), (VI t360_10)] ∧ J_100 n all52_10 t360_10 h' ∧ Vars h' [(b_51, [(Sl.v t333_19)]), (b_50, [(Sl.v t276_19)]), (b_49, [(Sl.v t270_19)]), (b_48, [(Sl.v t264_19)]), (b_47, [(Sl.v t154_10)]), (b_1, [(Sl.v t61_1)])]) n_160 ⟨true, 0, rfl, h0_80, hL_389⟩ ?_
    intro I_80 mu_80 hI_80 junk_100 tv_99 tv_100 h_390 hi_180
    obtain ⟨n_159, ⟨all52_10, t360_10, hv, hJ_100, hL_390⟩, hn_80⟩ := hI_80 _ _ hi_180
    cases hv
    have H := HB_98 n_159 all52_10 t360_10 h_390 hJ_100 hL_390
    refine pop_lss .i64 t360_10 (t333_19.n : Int) ?_
    refine condM_b (fun hb_370 => ?_) (fun hb_370 => ?_)
    rotate_left
    ·have H := H.2 hb_370
     refine pop_beq boo4 _ _ all52_10 t339_19 ?_
     exact H
    have H := H.1 hb_370
    refine rop_locA agg32 hL_390 0 rfl 0 (vs := [(Sl.v t333_19)]) rfl rfl ?_
    refine H.mono fun rv_189 h_391 H => ?_
    obtain ⟨t367_19, t367_20, rfl, hL_391, H⟩ := H
    refine pop_ext (v := (VI t367_19)) rfl ?_
    refine pop_ext (v := (VB t367_20)) rfl ?_
    refine guardM_st (fun hb_371 => ?_) (fun hb_371 => ?_)
    ·have H := H.1 hb_371
     refine pop_pickt' hb_371 ?_
     refine pop_add .i64 t360_10 1 ?_
     obtain ⟨m_99, hm_99, H⟩ := H
     exact hn_80 _ _ ⟨m_99, hm_99, t367_20, (w64 (t360_10 + 1)), rfl, H, hL_391⟩
    have H := H.2 hb_371
    refine pop_pickf' hb_371 ?_
    refine pop_add .i64 t360_10 1 ?_
    obtain ⟨m_100, hm_100, H⟩ := H
    exact hn_80 _ _ ⟨m_100, hm_100, false, (w64 (t360_10 + 1)), rfl, H, hL_391⟩
   have H := H.1 hb_300
   refine guardM_y' hb_300 ?_
   refine pop_lss .i64 t69_1 0 ?_
   refine guardM_y' hb_300 ?_
   refine guardM_sf (fun hb_301 => ?_) (fun hb_301 => ?_)
   rotate_left
   ·have H := H.1 hb_301
    refine guardM_n' hb_301 (by decide) ?_
    refine guardM_n' hb_301 (by decide) ?_
    refine guardM_n' hb_301 (by decide) ?_
    refine guardM_n' hb_301 (by decide) ?_
    refine guardM_y' hb_300 ?_
    refine pop_pickt' hb_301 ?_
    refine guardM_y' hb_300 ?_
    refine guardM_n (by decide) ?_
    refine guardM_n (by decide) ?_
    refine guardM_n (by decide) ?_
    refine guardM_n (by decide) ?_
    refine guardM_n (by decide) ?_
    refine guardM_n (by decide) ?_
    refine guardM_y' hb_300 ?_
    refine pop_pickt _ _ ?_
    refine pop_pickt' hb_300 ?_
    refine condM_t ?_
    exact H
   have H := H.2 hb_301
   refine guardM_y' hb_301 ?_
   refine pop_field 0 fld32_0 b_1 0 ?_
   refine guardM_y' hb_301 ?_
   refine rop_loc one22 hL_9 0 rfl 0 (v := (Sl.v t61_1)) rfl ?_
   refine guardM_y' hb_301 ?_
   refine pop_len t61_1 _ _ sli22 ?_
   refine guardM_y' hb_301 ?_
   refine pop_geq .i64 t69_1 (t61_1.n : Int) ?_
   refine guardM_y' hb_300 ?_
   refine pop_pickf' hb_301 ?_
   refine guardM_y' hb_300 ?_
   refine guardM_sf (fun hb_302 => ?_) (fun hb_302 => ?_)
   rotate_left
   ·have H := H.1 hb_302
    refine guardM_n' hb_302 (by decide) ?_
    refine guardM_n' hb_302 (by decide) ?_
    refine guardM_n' hb_302 (by decide) ?_
    refine guardM_n' hb_302 (by decide) ?_
    refine guardM_n' hb_302 (by decide) ?_
    refine guardM_y' hb_300 ?_
    refine pop_pickt' hb_302 ?_
    refine pop_pickt' hb_300 ?_
    refine condM_t ?_
    exact H
   have H := H.2 hb_302
   refine guardM_y' hb_302 ?_
   refine pop_ieq .i64 _ _ t69_1 0 ?_
   refine guardM_y' hb_302 ?_
   refine guardM_y' hb_302 ?_
   refine guardM_y' hb_302 ?_
   refine pop_ieq .i64 _ _ t61_2 t61_3 ?_
   refine guardM_y' hb_302 ?_
   refine pop_bne boo4 _ _ (decide (t69_1 = 0)) (decide (t61_2 = t61_3)) ?_
   refine guardM_y' hb_300 ?_
   refine pop_pickf' hb_302 ?_
   refine pop_pickt' hb_300 ?_
   refine condM_b (fun hb_303 => ?_) (fun hb_303 => ?_)
   ·have H := H.1 hb_303
    exact H
   have H := H.2 hb_303
   refine H.mono fun rv_154 h_316 H => ?_
   obtain ⟨t154_9, rfl, hL_316, H⟩ := H
   refine eop_alloc 32 zer32 rfl hL_316 (fun b_42 h_317 hb_304 hf_83 hL_317 => ?_)
   refine uop_loc siz32 hL_317 0 rfl 0 [(Sl.v t154_9)] rfl rfl rfl (Nat.le_of_ble_eq_true rfl) (L' := [(b_42, [(Sl.v t154_9)]), (b_1, [(Sl.v t61_1)])]) rfl (fun h_318 hf_84 hL_318 => ?_)
   refine rop_locA agg32 hL_318 0 rfl 0 (vs := [(Sl.v t154_9)]) rfl rfl ?_
   have H := H b_42 h_318 (Nat.le_trans (Fr.size (Fr.r (In []) _)) hb_304) (Fr.new (Fr.no' (Fr.r (In []) _) hf_83) (Nat.le_trans (Fr.size (Fr.r (In []) _)) hb_304) hf_84) hL_318
   refine H.mono fun rv_155 h_319 H => ?_
   obtain ⟨t157_17, t157_18, rfl, hL_319, H⟩ := H
   refine pop_ext (v := (Sl.v t157_17)) rfl ?_
   refine pop_ext (v := (VB t157_18)) rfl ?_
   refine rop_locA agg32 hL_319 0 rfl 0 (vs := [(Sl.v t154_9)]) rfl rfl ?_
   refine H.mono fun rv_156 h_320 H => ?_
   obtain ⟨t162_17, t162_18, rfl, hL_320, H⟩ := H
   refine pop_ext (v := (Sl.v t162_17)) rfl ?_
   refine pop_ext (v := (VB t162_18)) rfl ?_
   refine rop_locA agg32 hL_320 0 rfl 0 (vs := [(Sl.v t154_9)]) rfl rfl ?_
   refine H.mono fun rv_157 h_321 H => ?_
   obtain ⟨t167_17, t167_18, rfl, hL_321, H⟩ := H
   refine pop_ext (v := (VB t167_17)) rfl ?_
   refine pop_ext (v := (VB t167_18)) rfl ?_
   refine rop_locA agg32 hL_321 0 rfl 0 (vs := [(Sl.v t154_9)]) rfl rfl ?_
   refine H.mono fun rv_158 h_322 H => ?_
   obtain ⟨t172_17, t172_18, rfl, hL_322, H⟩ := H
   refine pop_ext (v := (VB t172_17)) rfl ?_
   refine pop_ext (v := (VB t172_18)) rfl ?_
   refine pop_bne boo4 _ _ t157_18 t162_18 ?_
   refine guardM_sf (fun hb_305 => ?_) (fun hb_305 => ?_)
   rotate_left
   ·have H := H.1 hb_305
    refine guardM_n' hb_305 (by decide) ?_
    refine guardM_n' hb_305 (by decide) ?_
    refine guardM_n' hb_305 (by decide) ?_
    refine pop_pickt' hb_305 ?_
    refine guardM_n (by decide) ?_
    refine guardM_n (by decide) ?_
    refine guardM_n (by decide) ?_
    refine pop_pickt _ _ ?_
    refine guardM_n (by decide) ?_
    refine guardM_n (by decide) ?_
    refine guardM_n (by decide) ?_
    refine pop_pickt _ _ ?_
    refine guardM_n (by decide) ?_
    refine guardM_n (by decide) ?_
    refine guardM_n (by decide) ?_
    refine pop_pickt _ _ ?_
    refine condM_t ?_
    exact H
   have H := H.2 hb_305
   refine guardM_y' hb_305 ?_
   refine guardM_y' hb_305 ?_
   refine H.mono fun rv_159 h_323 H => ?_
   obtain ⟨t181_9, rfl, hL_323, H⟩ := H
   refine guardM_y' hb_305 ?_
   refine pop_not t181_9 ?_
   refine pop_pickf' hb_305 ?_
   refine guardM_sf (fun hb_306 => ?_) (fun hb_306 => ?_)
   rotate_left
   ·have H := H.1 hb_306
    refine guardM_n' hb_306 (by decide) ?_
    refine guardM_n' hb_306 (by decide) ?_
    refine pop_pickt' hb_306 ?_
    refine guardM_n (by decide) ?_
    refine guardM_n (by decide) ?_
    refine guardM_n (by decide) ?_
    refine pop_pickt _ _ ?_
    refine guardM_n (by decide) ?_
    refine guardM_n (by decide) ?_
    refine guardM_n (by decide) ?_
    refine pop_pickt _ _ ?_
    refine condM_t ?_
    exact H
   have H := H.2 hb_306
   refine guardM_y' hb_306 ?_
   refine guardM_y' hb_306 ?_
   refine pop_bne boo4 _ _ t167_18 t172_18 ?_
   refine pop_pickf' hb_306 ?_
   refine guardM_sf (fun hb_307 => ?_) (fun hb_307 => ?_)
   rotate_left
   ·have H := H.1 hb_307
    refine guardM_n' hb_307 (by decide) ?_
    refine guardM_n' hb_307 (by decide) ?_
    refine pop_pickt' hb_307 ?_
    refine guardM_n (by decide) ?_
    refine guardM_n (by decide) ?_
    refine guardM_n (by decide) ?_
    refine pop_pickt _ _ ?_
    refine condM_t ?_
    exact H
   have H := H.2 hb_307
   refine guardM_y' hb_307 ?_
   refine guardM_y' hb_307 ?_
   refine pop_bne boo4 _ _ t167_17 t172_17 ?_
   refine pop_pickf' hb_307 ?_
   refine guardM_sf (fun hb_308 => ?_) (fun hb_308 => ?_)
   rotate_left
   ·have H := H.1 hb_308
    refine guardM_n' hb_308 (by decide) ?_
    refine guardM_n' hb_308 (by decide) ?_
    refine pop_pickt' hb_308 ?_
    refine condM_t ?_
    exact H
   have H := H.2 hb_308
   refine guardM_y' hb_308 ?_
   refine guardM_y' hb_308 ?_
   refine pop_bne boo4 _ _ t167_18 t157_18 ?_
   refine pop_pickf' hb_308 ?_
   refine condM_b (fun hb_309 => ?_) (fun hb_309 => ?_)
   ·have H := H.1 hb_309
    exact H
   have H := H.2 hb_309
   obtain ⟨J_81, H, HB_90⟩ := H
   refine ⟨fun (vs : List Value) (h' : Heap) => vs = [] ∧ J_81  h' ∧ Vars h' [(b_42, [(Sl.v t154_9)]), (b_1, [(Sl.v t61_1)])], ?_, ?_⟩
   ·refine condM_b (fun hb_310 => ?_) (fun hb_310 => ?_)
    rotate_left
    ·have H := H.2 hb_310
     exact ⟨rfl, H, hL_323⟩
    have H := H.1 hb_310
    refine pop_len t157_17 _ _ sli22 ?_
    obtain ⟨J_82, ⟨n_138, h0_69⟩, HB_85⟩ := H
    refine loop_intro (J := fun (n : Nat) (vs : List Value) (h' : Heap) => ∃ count25_9 : Int, ∃ t202_9 : Int, vs = [(VI count25_9), (VI t202_9)] ∧ J_82 n count25_9 t202_9 h' ∧ Vars h' [(b_42, [(Sl.v t154_9)]), (b_1, [(Sl.v t61_1)])]) n_138 ⟨0, 0, rfl, h0_69, hL_323⟩ ?_
    intro I_69 mu_69 hI_69 junk_81 tv_85 tv_86 h_324 hi_145
    obtain ⟨n_129, ⟨count25_9, t202_9, hv, hJ_81, hL_324⟩, hn_65⟩ := hI_69 _ _ hi_145
    cases hv
    have H := HB_85 n_129 count25_9 t202_9 h_324 hJ_81 hL_324
    refine pop_lss .i64 t202_9 (t157_17.n : Int) ?_
    refine condM_b (fun hb_311 => ?_) (fun hb_311 => ?_)
    rotate_left
    ·have H := H.2 hb_311
     refine pop_field 0 fld32_0 b_42 0 ?_
     refine rop_loc one22 hL_324 0 rfl 0 (v := (Sl.v t154_9)) rfl ?_
     refine pop_len t154_9 _ _ sli22 ?_
     refine pop_ine .i64 _ _ count25_9 (t154_9.n : Int) ?_
     refine guardM_sf (fun hb_320 => ?_) (fun hb_320 => ?_)
     rotate_left
     ·have H := H.1 hb_320
      refine guardM_n' hb_320 (by decide) ?_
      refine guardM_n' hb_320 (by decide) ?_
      refine guardM_n' hb_320 (by decide) ?_
      refine guardM_n' hb_320 (by decide) ?_
      refine pop_pickt' hb_320 ?_
      refine condM_t ?_
      exact H
     have H := H.2 hb_320
     refine guardM_y' hb_320 ?_
     refine guardM_y' hb_320 ?_
     refine pop_len t157_17 _ _ sli22 ?_
     refine guardM_y' hb_320 ?_
     refine pop_ieq .i64 _ _ (t157_17.n : Int) 1 ?_
     refine guardM_y' hb_320 ?_
     refine pop_bne boo4 _ _ t167_17 (decide ((t157_17.n : Int) = 1)) ?_
     refine pop_pickf' hb_320 ?_
     refine condM_b (fun hb_321 => ?_) (fun hb_321 => ?_)
     ·have H := H.1 hb_321
      exact H
     have H := H.2 hb_321
     exact ⟨rfl, H, hL_324⟩
    have H := H.1 hb_311
    obtain ⟨hi_146, H⟩ := H
    refine pop_index sli22 siz27 .i64 t157_17 t202_9 hi_146 ?_
    obtain ⟨t206_9, hc_88, H⟩ := H
    refine rop_one one27 (Sl.v t206_9) hc_88 ?_
    refine pop_len t206_9 _ _ sli27 ?_
    refine pop_add .i64 count25_9 (t206_9.n : Int) ?_
    refine pop_gtr .i64 t202_9 0 ?_
    refine guardM_st (fun hb_312 => ?_) (fun hb_312 => ?_)
    rotate_left
    ·have H := H.2 hb_312
     refine guardM_n' hb_312 (by decide) ?_
     refine guardM_n' hb_312 (by decide) ?_
     refine guardM_n' hb_312 (by decide) ?_
     refine guardM_n' hb_312 (by decide) ?_
     refine guardM_n' hb_312 (by decide) ?_
     refine guardM_n' hb_312 (by decide) ?_
     refine guardM_n' hb_312 (by decide) ?_
     refine guardM_n' hb_312 (by decide) ?_
     refine guardM_n' hb_312 (by decide) ?_
     refine guardM_n' hb_312 (by decide) ?_
     refine pop_pickf' hb_312 ?_
     refine condM_f ?_
     refine pop_len t206_9 _ _ sli27 ?_
     obtain ⟨J_85, ⟨n_137, h0_68⟩, HB_84⟩ := H
     refine loop_intro (J := fun (n : Nat) (vs : List Value) (h' : Heap) => ∃ t228_18 : Int, vs = [(VI t228_18)] ∧ J_85 n t228_18 h' ∧ Vars h' [(b_42, [(Sl.v t154_9)]), (b_1, [(Sl.v t61_1)])]) n_137 ⟨0, rfl, h0_68, hL_324⟩ ?_
     intro I_68 mu_68 hI_68 junk_84 tv_84 h_328 hi_154
     obtain ⟨n_134, ⟨t228_18, hv, hJ_84, hL_328⟩, hn_68⟩ := hI_68 _ _ hi_154
     cases hv
     have H := HB_84 n_134 t228_18 h_328 hJ_84 hL_328
     refine pop_lss .i64 t228_18 (t206_9.n : Int) ?_
     refine condM_b (fun hb_317 => ?_) (fun hb_317 => ?_)
     rotate_left
     ·have H := H.2 hb_317
      refine pop_add .i64 t202_9 1 ?_
      obtain ⟨m_86, hm_86, H⟩ := H
      exact hn_65 _ _ ⟨m_86, hm_86, (w64 (count25_9 + (t206_9.n : Int))), (w64 (t202_9 + 1)), rfl, H, hL_328⟩
     have H := H.1 hb_317
     obtain ⟨hi_155, H⟩ := H
     refine pop_index sli27 siz3 .i64 t206_9 t228_18 hi_155 ?_
     obtain ⟨t231_18, hc_87, H⟩ := H
     refine rop_one one3 (VI t231_18) hc_87 ?_
     refine pop_len t206_9 _ _ sli27 ?_
     obtain ⟨J_86, ⟨n_136, h0_67⟩, HB_83⟩ := H
     refine loop_intro (J := fun (n : Nat) (vs : List Value) (h' : Heap) => ∃ t234_18 : Int, vs = [(VI t234_18)] ∧ J_86 n t234_18 h' ∧ Vars h' [(b_42, [(Sl.v t154_9)]), (b_1, [(Sl.v t61_1)])]) n_136 ⟨0, rfl, h0_67, hL_328⟩ ?_
     intro I_67 mu_67 hI_67 junk_85 tv_83 h_329 hi_156
     obtain ⟨n_135, ⟨t234_18, hv, hJ_85, hL_329⟩, hn_69⟩ := hI_67 _ _ hi_156
     cases hv
     have H := HB_83 n_135 t234_18 h_329 hJ_85 hL_329
     refine pop_lss .i64 t234_18 (t206_9.n : Int) ?_
     refine condM_b (fun hb_318 => ?_) (fun hb_318 => ?_)
     rotate_left
     ·have H := H.2 hb_318
      refine pop_add .i64 t228_18 1 ?_
      obtain ⟨m_85, hm_85, H⟩ := H
      exact hn_68 _ _ ⟨m_85, hm_85, (w64 (t228_18 + 1)), rfl, H, hL_329⟩
     have H := H.1 hb_318
     obtain ⟨hi_157, H⟩ := H
     refine pop_index sli27 siz3 .i64 t206_9 t234_18 hi_157 ?_
     obtain ⟨t237_18, hc_86, H⟩ := H
     refine rop_one one3 (VI t237_18) hc_86 ?_
     refine rop_locA agg32 hL_329 0 rfl 0 (vs := [(Sl.v t154_9)]) rfl rfl ?_
     refine H.mono fun rv_161 h_330 H => ?_
     obtain ⟨t242_35, t242_36, rfl, hL_330, H⟩ := H
     refine pop_ext (v := (VI t242_35)) rfl ?_
     refine pop_ext (v := (VB t242_36)) rfl ?_
     refine pop_not t242_36 ?_
     refine condM_b (fun hb_319 => ?_) (fun hb_319 => ?_)
     ·have H := H.1 hb_319
      exact H
     have H := H.2 hb_319
     refine pop_add .i64 t234_18 1 ?_
     obtain ⟨m_84, hm_84, H⟩ := H
     exact hn_69 _ _ ⟨m_84, hm_84, (w64 (t234_18 + 1)), rfl, H, hL_330⟩
    have H := H.1 hb_312
    refine guardM_y' hb_312 ?_
    refine guardM_y' hb_312 ?_
    refine pop_sub .i64 t202_9 1 ?_
    refine guardM_y' hb_312 ?_
    obtain ⟨hi_147, H⟩ := H
    refine pop_index sli22 siz27 .i64 t157_17 (w64 (t202_9 - 1)) hi_147 ?_
    refine guardM_y' hb_312 ?_
    obtain ⟨t218_9, hc_85, H⟩ := H
    refine rop_one one27 (Sl.v t218_9) hc_85 ?_
    refine guardM_y' hb_312 ?_
    obtain ⟨hi_148, H⟩ := H
    refine pop_index sli27 siz3 .i64 t218_9 0 hi_148 ?_
    refine guardM_y' hb_312 ?_
    obtain ⟨t220_9, hc_84, H⟩ := H
    refine rop_one one3 (VI t220_9) hc_84 ?_
    refine guardM_y' hb_312 ?_
    refine guardM_y' hb_312 ?_
    obtain ⟨hi_149, H⟩ := H
    refine pop_index sli27 siz3 .i64 t206_9 0 hi_149 ?_
    refine guardM_y' hb_312 ?_
    obtain ⟨t223_9, hc_83, H⟩ := H
    refine rop_one one3 (VI t223_9) hc_83 ?_
    refine guardM_y' hb_312 ?_
    refine pop_geq .i64 t220_9 t223_9 ?_
    refine pop_pickt' hb_312 ?_
    refine condM_b (fun hb_313 => ?_) (fun hb_313 => ?_)
    ·have H := H.1 hb_313
     exact H
    have H := H.2 hb_313
    refine pop_len t206_9 _ _ sli27 ?_
    obtain ⟨J_83, ⟨n_133, h0_66⟩, HB_82⟩ := H
    refine loop_intro (J := fun (n : Nat) (vs : List Value) (h' : Heap) => ∃ t228_17 : Int, vs = [(VI t228_17)] ∧ J_83 n t228_17 h' ∧ Vars h' [(b_42, [(Sl.v t154_9)]), (b_1, [(Sl.v t61_1)])]) n_133 ⟨0, rfl, h0_66, hL_324⟩ ?_
    intro I_66 mu_66 hI_66 junk_82 tv_82 h_325 hi_150
    obtain ⟨n_130, ⟨t228_17, hv, hJ_82, hL_325⟩, hn_66⟩ := hI_66 _ _ hi_150
    cases hv
    have H := HB_82 n_130 t228_17 h_325 hJ_82 hL_325
    refine pop_lss .i64 t228_17 (t206_9.n : Int) ?_
    refine condM_b (fun hb_314 => ?_) (fun hb_314 => ?_)
    rotate_left
    ·have H := H.2 hb_314
     refine pop_add .i64 t202_9 1 ?_
     obtain ⟨m_83, hm_83, H⟩ := H
     exact hn_65 _ _ ⟨m_83, hm_83, (w64 (count25_9 + (t206_9.n : Int))), (w64 (t202_9 + 1)), rfl, H, hL_325⟩
    have H := H.1 hb_314
    obtain ⟨hi_151, H⟩ := H
    refine pop_index sli27 siz3 .i64 t206_9 t228_17 hi_151 ?_
    obtain ⟨t231_17, hc_82, H⟩ := H
    refine rop_one one3 (VI t231_17) hc_82 ?_
    refine pop_len t206_9 _ _ sli27 ?_
    obtain ⟨J_84, ⟨n_132, h0_65⟩, HB_81⟩ := H
    refine loop_intro (J := fun (n : Nat) (vs : List Value) (h' : Heap) => ∃ t234_17 : Int, vs = [(VI t234_17)] ∧ J_84 n t234_17 h' ∧ Vars h' [(b_42, [(Sl.v t154_9)]), (b_1, [(Sl.v t61_1)])]) n_132 ⟨0, rfl, h0_65, hL_325⟩ ?_
    intro I_65 mu_65 hI_65 junk_83 tv_81 h_326 hi_152
    obtain ⟨n_131, ⟨t234_17, hv, hJ_83, hL_326⟩, hn_67⟩ := hI_65 _ _ hi_152
    cases hv
    have H := HB_81 n_131 t234_17 h_326 hJ_83 hL_326
    refine pop_lss .i64 t234_17 (t206_9.n : Int) ?_
    refine condM_b (fun hb_315 => ?_) (fun hb_315 => ?_)
    rotate_left
    ·have H := H.2 hb_315
     refine pop_add .i64 t228_17 1 ?_
     obtain ⟨m_82, hm_82, H⟩ := H
     exact hn_66 _ _ ⟨m_82, hm_82, (w64 (t228_17 + 1)), rfl, H, hL_326⟩
    have H := H.1 hb_315
    obtain ⟨hi_153, H⟩ := H
    refine pop_index sli27 siz3 .i64 t206_9 t234_17 hi_153 ?_
    obtain ⟨t237_17, hc_81, H⟩ := H
    refine rop_one one3 (VI t237_17) hc_81 ?_
    refine rop_locA agg32 hL_326 0 rfl 0 (vs := [(Sl.v t154_9)]) rfl rfl ?_
    refine H.mono fun rv_160 h_327 H => ?_
    obtain ⟨t242_33, t242_34, rfl, hL_327, H⟩ := H
    refine pop_ext (v := (VI t242_33)) rfl ?_
    refine pop_ext (v := (VB t242_34)) rfl ?_
    refine pop_not t242_34 ?_
    refine condM_b (fun hb_316 => ?_) (fun hb_316 => ?_)
    ·have H := H.1 hb_316
     exact H
    have H := H.2 hb_316
    refine pop_add .i64 t234_17 1 ?_
    obtain ⟨m_81, hm_81, H⟩ := H
    exact hn_67 _ _ ⟨m_81, hm_81, (w64 (t234_17 + 1)), rfl, H, hL_327⟩
   intro junk_86  h_331
   rintro ⟨hv, hJ_86, hL_331⟩
   have H := HB_90  h_331 hJ_86 hL_331
   refine H.mono fun rv_162 h_332 H => ?_
   obtain ⟨t264_17, t264_18, rfl, hL_332, H⟩ := H
   refine pop_ext (v := (Value.agg #[(Sl.v t264_17)])) rfl ?_
   refine pop_ext (v := (Sl.v t264_18)) rfl ?_
   refine eop_alloc 32 zer32 rfl hL_332 (fun b_43 h_333 hb_322 hf_85 hL_333 => ?_)
   refine uop_loc siz32 hL_333 0 rfl 0 [(Sl.v t264_17)] rfl rfl rfl (Nat.le_of_ble_eq_true rfl) (L' := [(b_43, [(Sl.v t264_17)]), (b_42, [(Sl.v t154_9)]), (b_1, [(Sl.v t61_1)])]) rfl (fun h_334 hf_86 hL_334 => ?_)
   refine rop_locA agg32 hL_334 0 rfl 0 (vs := [(Sl.v t264_17)]) rfl rfl ?_
   have H := H b_43 h_334 (Nat.le_trans (Fr.size (Fr.r (In []) _)) hb_322) (Fr.new (Fr.no' (Fr.r (In []) _) hf_85) (Nat.le_trans (Fr.size (Fr.r (In []) _)) hb_322) hf_86) hL_334
   refine H.mono fun rv_163 h_335 H => ?_
   obtain ⟨t270_17, t270_18, rfl, hL_335, H⟩ := H
   refine pop_ext (v := (Value.agg #[(Sl.v t270_17)])) rfl ?_
   refine pop_ext (v := (VB t270_18)) rfl ?_
   refine eop_alloc 32 zer32 rfl hL_335 (fun b_44 h_336 hb_323 hf_87 hL_336 => ?_)
   refine uop_loc siz32 hL_336 0 rfl 0 [(Sl.v t270_17)] rfl rfl rfl (Nat.le_of_ble_eq_true rfl) (L' := [(b_44, [(Sl.v t270_17)]), (b_43, [(Sl.v t264_17)]), (b_42, [(Sl.v t154_9)]), (b_1, [(Sl.v t61_1)])]) rfl (fun h_337 hf_88 hL_337 => ?_)
   refine rop_locA agg32 hL_337 1 rfl 0 (vs := [(Sl.v t264_17)]) rfl rfl ?_
   have H := H b_44 h_337 (Nat.le_trans (Fr.size (Fr.r (In []) _)) hb_323) (Fr.new (Fr.no' (Fr.r (In []) _) hf_87) (Nat.le_trans (Fr.size (Fr.r (In []) _)) hb_323) hf_88) hL_337
   refine H.mono fun rv_164 h_338 H => ?_
   obtain ⟨t276_17, t276_18, rfl, hL_338, H⟩ := H
   refine pop_ext (v := (Value.agg #[(Sl.v t276_17)])) rfl ?_
   refine pop_ext (v := (VB t276_18)) rfl ?_
   refine eop_alloc 32 zer32 rfl hL_338 (fun b_45 h_339 hb_324 hf_89 hL_339 => ?_)
   refine uop_loc siz32 hL_339 0 rfl 0 [(Sl.v t276_17)] rfl rfl rfl (Nat.le_of_ble_eq_true rfl) (L' := [(b_45, [(Sl.v t276_17)]), (b_44, [(Sl.v t270_17)]), (b_43, [(Sl.v t264_17)]), (b_42, [(Sl.v t154_9)]), (b_1, [(Sl.v t61_1)])]) rfl (fun h_340 hf_90 hL_340 => ?_)
   refine pop_bne boo4 _ _ t270_18 t276_18 ?_
   refine guardM_sf (fun hb_325 => ?_) (fun hb_325 => ?_)
   rotate_left
   ·have H := H.1 hb_325
    refine guardM_n' hb_325 (by decide) ?_
    refine guardM_n' hb_325 (by decide) ?_
    refine guardM_n' hb_325 (by decide) ?_
    refine pop_pickt' hb_325 ?_
    refine condM_t ?_
    have H := H b_45 h_340 (Nat.le_trans (Fr.size (Fr.r (In []) _)) hb_324) (Fr.new (Fr.no' (Fr.r (In []) _) hf_89) (Nat.le_trans (Fr.size (Fr.r (In []) _)) hb_324) hf_90) hL_340
    exact H
   have H := H.2 hb_325
   refine rop_locA agg32 hL_340 1 rfl 0 (vs := [(Sl.v t270_17)]) rfl rfl ?_
   refine guardM_y' hb_325 ?_
   refine rop_locA agg32 hL_340 0 rfl 0 (vs := [(Sl.v t276_17)]) rfl rfl ?_
   refine guardM_y' hb_325 ?_
   have H := H b_45 h_340 (Nat.le_trans (Fr.size (Fr.r (In []) _)) hb_324) (Fr.new (Fr.no' (Fr.r (In []) _) hf_89) (Nat.le_trans (Fr.size (Fr.r (In []) _)) hb_324) hf_90) hL_340
   refine H.mono fun rv_165 h_341 H => ?_
   obtain ⟨t285_9, rfl, hL_341, H⟩ := H
   refine guardM_y' hb_325 ?_
   refine pop_not t285_9 ?_
   refine pop_pickf' hb_325 ?_
   refine condM_b (fun hb_326 => ?_) (fun hb_326 => ?_)
   ·have H := H.1 hb_326
    exact H
   have H := H.2 hb_326
   obtain ⟨J_87, H, HB_89⟩ := H
   refine ⟨fun (vs : List Value) (h' : Heap) => vs = [] ∧ J_87  h' ∧ Vars h' [(b_45, [(Sl.v t276_17)]), (b_44, [(Sl.v t270_17)]), (b_43, [(Sl.v t264_17)]), (b_42, [(Sl.v t154_9)]), (b_1, [(Sl.v t61_1)])], ?_, ?_⟩
   ·refine condM_b (fun hb_327 => ?_) (fun hb_327 => ?_)
    rotate_left
    ·have H := H.2 hb_327
     exact ⟨rfl, H, hL_341⟩
    have H := H.1 hb_327
    refine pop_field 0 fld32_0 b_43 0 ?_
    refine rop_loc one22 hL_341 2 rfl 0 (v := (Sl.v t264_17)) rfl ?_
    refine pop_len t264_17 _ _ sli22 ?_
    obtain ⟨J_88, ⟨n_142, h0_71⟩, HB_87⟩ := H
    refine loop_intro (J := fun (n : Nat) (vs : List Value) (h' : Heap) => ∃ t292_9 : Int, vs = [(VI t292_9)] ∧ J_88 n t292_9 h' ∧ Vars h' [(b_45, [(Sl.v t276_17)]), (b_44, [(Sl.v t270_17)]), (b_43, [(Sl.v t264_17)]), (b_42, [(Sl.v t154_9)]), (b_1, [(Sl.v t61_1)])]) n_142 ⟨0, rfl, h0_71, hL_341⟩ ?_
    intro I_71 mu_71 hI_71 junk_87 tv_88 h_342 hi_158
    obtain ⟨n_139, ⟨t292_9, hv, hJ_87, hL_342⟩, hn_70⟩ := hI_71 _ _ hi_158
    cases hv
    have H := HB_87 n_139 t292_9 h_342 hJ_87 hL_342
    refine pop_lss .i64 t292_9 (t264_17.n : Int) ?_
    refine condM_b (fun hb_328 => ?_) (fun hb_328 => ?_)
    rotate_left
    ·have H := H.2 hb_328
     exact ⟨rfl, H, hL_342⟩
    have H := H.1 hb_328
    refine pop_field 0 fld32_0 b_43 0 ?_
    refine rop_loc one22 hL_342 2 rfl 0 (v := (Sl.v t264_17)) rfl ?_
    refine pop_len t264_17 _ _ sli22 ?_
    obtain ⟨J_89, ⟨n_141, h0_70⟩, HB_86⟩ := H
    refine loop_intro (J := fun (n : Nat) (vs : List Value) (h' : Heap) => ∃ t298_9 : Int, vs = [(VI t298_9)] ∧ J_89 n t298_9 h' ∧ Vars h' [(b_45, [(Sl.v t276_17)]), (b_44, [(Sl.v t270_17)]), (b_43, [(Sl.v t264_17)]), (b_42, [(Sl.v t154_9)]), (b_1, [(Sl.v t61_1)])]) n_141 ⟨0, rfl, h0_70, hL_342⟩ ?_
    intro I_70 mu_70 hI_70 junk_88 tv_87 h_343 hi_159
    obtain ⟨n_140, ⟨t298_9, hv, hJ_88, hL_343⟩, hn_71⟩ := hI_70 _ _ hi_159
    cases hv
    have H := HB_86 n_140 t298_9 h_343 hJ_88 hL_343
    refine pop_lss .i64 t298_9 (t264_17.n : Int) ?_
    refine condM_b (fun hb_329 => ?_) (fun hb_329 => ?_)
    rotate_left
    ·have H := H.2 hb_329
     refine pop_add .i64 t292_9 1 ?_
     obtain ⟨m_88, hm_88, H⟩ := H
     exact hn_70 _ _ ⟨m_88, hm_88, (w64 (t292_9 + 1)), rfl, H, hL_343⟩
    have H := H.1 hb_329
    refine rop_locA agg32 hL_343 2 rfl 0 (vs := [(Sl.v t264_17)]) rfl rfl ?_
    refine H.mono fun rv_166 h_344 H => ?_
    obtain ⟨t305_17, t305_18, rfl, hL_344, H⟩ := H
    refine pop_ext (v := (VI t305_17)) rfl ?_
    refine pop_ext (v := (VB t305_18)) rfl ?_
    refine rop_locA agg32 hL_344 1 rfl 0 (vs := [(Sl.v t270_17)]) rfl rfl ?_
    obtain ⟨hi_160, H⟩ := H
    refine pop_index sli27 siz3 .i64 t264_18 t292_9 hi_160 ?_
    obtain ⟨t313_9, hc_90, H⟩ := H
    refine rop_one one3 (VI t313_9) hc_90 ?_
    obtain ⟨hi_161, H⟩ := H
    refine pop_index sli27 siz3 .i64 t264_18 t298_9 hi_161 ?_
    obtain ⟨t317_9, hc_89, H⟩ := H
    refine rop_one one3 (VI t317_9) hc_89 ?_
    refine H.mono fun rv_167 h_345 H => ?_
    obtain ⟨t318_17, t318_18, rfl, hL_345, H⟩ := H
    refine pop_ext (v := (VI t318_17)) rfl ?_
    refine pop_ext (v := (VB t318_18)) rfl ?_
    refine pop_bne boo4 _ _ t305_18 t318_18 ?_
    refine guardM_sf (fun hb_330 => ?_) (fun hb_330 => ?_)
    rotate_left
    ·have H := H.1 hb_330
     refine guardM_n' hb_330 (by decide) ?_
     refine guardM_n' hb_330 (by decide) ?_
     refine pop_pickt' hb_330 ?_
     refine condM_t ?_
     exact H
    have H := H.2 hb_330
    refine guardM_y' hb_330 ?_
    refine guardM_y' hb_330 ?_
    refine pop_ine .i64 _ _ t305_17 t318_17 ?_
    refine pop_pickf' hb_330 ?_
    refine condM_b (fun hb_331 => ?_) (fun hb_331 => ?_)
    ·have H := H.1 hb_331
     exact H
    have H := H.2 hb_331
    refine pop_add .i64 t298_9 1 ?_
    obtain ⟨m_87, hm_87, H⟩ := H
    exact hn_71 _ _ ⟨m_87, hm_87, (w64 (t298_9 + 1)), rfl, H, hL_345⟩
   intro junk_89  h_346
   rintro ⟨hv, hJ_89, hL_346⟩
   have H := HB_89  h_346 hJ_89 hL_346
   refine H.mono fun rv_168 h_347 H => ?_
   obtain ⟨t333_17, t333_18, rfl, hL_347, H⟩ := H
   refine pop_ext (v := (Value.agg #[(Sl.v t333_17)])) rfl ?_
   refine pop_ext (v := (VI t333_18)) rfl ?_
   refine eop_alloc 32 zer32 rfl hL_347 (fun b_46 h_348 hb_332 hf_91 hL_348 => ?_)
   refine uop_loc siz32 hL_348 0 rfl 0 [(Sl.v t333_17)] rfl rfl rfl (Nat.le_of_ble_eq_true rfl) (L' := [(b_46, [(Sl.v t333_17)]), (b_45, [(Sl.v t276_17)]), (b_44, [(Sl.v t270_17)]), (b_43, [(Sl.v t264_17)]), (b_42, [(Sl.v t154_9)]), (b_1, [(Sl.v t61_1)])]) rfl (fun h_349 hf_92 hL_349 => ?_)
   refine rop_locA agg32 hL_349 0 rfl 0 (vs := [(Sl.v t333_17)]) rfl rfl ?_
   have H := H b_46 h_349 (Nat.le_trans (Fr.size (Fr.r (In []) _)) hb_332) (Fr.new (Fr.no' (Fr.r (In []) _) hf_91) (Nat.le_trans (Fr.size (Fr.r (In []) _)) hb_332) hf_92) hL_349
   refine H.mono fun rv_169 h_350 H => ?_
   obtain ⟨t339_17, t339_18, rfl, hL_350, H⟩ := H
   refine pop_ext (v := (VB t339_17)) rfl ?_
   refine pop_ext (v := (VB t339_18)) rfl ?_
   refine rop_locA agg32 hL_350 0 rfl 0 (vs := [(Sl.v t333_17)]) rfl rfl ?_
   refine H.mono fun rv_170 h_351 H => ?_
   obtain ⟨t345_17, t345_18, rfl, hL_351, H⟩ := H
   refine pop_ext (v := (VB t345_17)) rfl ?_
   refine pop_ext (v := (VB t345_18)) rfl ?_
   refine pop_bne boo4 _ _ t339_18 t345_18 ?_
   refine guardM_sf (fun hb_333 => ?_) (fun hb_333 => ?_)
   rotate_left
   ·have H := H.1 hb_333
    refine guardM_n' hb_333 (by decide) ?_
    refine guardM_n' hb_333 (by decide) ?_
    refine pop_pickt' hb_333 ?_
    refine condM_t ?_
    exact H
   have H := H.2 hb_333
   refine guardM_y' hb_333 ?_
   refine guardM_y' hb_333 ?_
   refine pop_bne boo4 _ _ t339_17 t345_17 ?_
   refine pop_pickf' hb_333 ?_
   refine condM_b (fun hb_334 => ?_) (fun hb_334 => ?_)
   ·have H := H.1 hb_334
    exact H
   have H := H.2 hb_334
   refine condM_b (fun hb_335 => ?_) (fun hb_335 => ?_)
   rotate_left
   ·have H := H.2 hb_335
    exact H
   have H := H.1 hb_335
   refine pop_field 0 fld32_0 b_46 0 ?_
   refine rop_loc one22 hL_351 0 rfl 0 (v := (Sl.v t333_17)) rfl ?_
   refine pop_len t333_17 _ _ sli22 ?_
   obtain ⟨J_90, ⟨n_144, h0_72⟩, HB_88⟩ := H
   refine loop_intro (J := fun (n : Nat) (vs : List Value) (h' : Heap) => ∃ all52_9 : Bool, ∃ t360_9 : Int, vs = [(VB all52_9), (VI t360_9)] ∧ J_90 n all52_9 t360_9 h' ∧ Vars h' [(b_46, [(Sl.v t333_17)]), (b_45, [(Sl.v t276_17)]), (b_44, [(Sl.v t270_17)]), (b_43, [(Sl.v t264_17)]), (b_42, [(Sl.v t154_9)]), (b_1, [(Sl.v t61_1)])]) n_144 ⟨true, 0, rfl, h0_72, hL_351⟩ ?_
   intro I_72 mu_72 hI_72 junk_90 tv_89 tv_90 h_352 hi_162
   obtain ⟨n_143, ⟨all52_9, t360_9, hv, hJ_90, hL_352⟩, hn_72⟩ := hI_72 _ _ hi_162
   cases hv
   have H := HB_88 n_143 all52_9 t360_9 h_352 hJ_90 hL_352
   refine pop_lss .i64 t360_9 (t333_17.n : Int) ?_
   refine condM_b (fun hb_336 => ?_) (fun hb_336 => ?_)
   rotate_left
   ·have H := H.2 hb_336
    refine pop_beq boo4 _ _ all52_9 t339_17 ?_
    exact H
   have H := H.1 hb_336
   refine rop_locA agg32 hL_352 0 rfl 0 (vs := [(Sl.v t333_17)]) rfl rfl ?_
   refine H.mono fun rv_171 h_353 H => ?_
   obtain ⟨t367_17, t367_18, rfl, hL_353, H⟩ := H
   refine pop_ext (v := (VI t367_17)) rfl ?_
   refine pop_ext (v := (VB t367_18)) rfl ?_
   refine guardM_st (fun hb_337 => ?_) (fun hb_337 => ?_)
   ·have H := H.1 hb_337
    refine pop_pickt' hb_337 ?_
    refine pop_add .i64 t360_9 1 ?_
    obtain ⟨m_89, hm_89, H⟩ := H
    exact hn_72 _ _ ⟨m_89, hm_89, t367_18, (w64 (t360_9 + 1)), rfl, H, hL_353⟩
   have H := H.2 hb_337
   refine pop_pickf' hb_337 ?_
   refine pop_add .i64 t360_9 1 ?_
   obtain ⟨m_90, hm_90, H⟩ := H
   exact hn_72 _ _ ⟨m_90, hm_90, false, (w64 (t360_9 + 1)), rfl, H, hL_353⟩
  have H := H.1 hb_7
  refine rop_locA agg32 hL_9 0 rfl 0 (vs := [(Sl.v t61_1)]) rfl rfl ?_
  refine guardM_y' hb_7 ?_
  refine H.mono fun rv_8 h_10 H => ?_
  obtain ⟨t113_1, rfl, hL_10, H⟩ := H
  refine pop_pickt' hb_7 ?_
  refine guardM_st (fun hb_8 => ?_) (fun hb_8 => ?_)
  rotate_left
  ·have H := H.2 hb_8
   refine guardM_n' hb_8 (by decide) ?_
   refine pop_pickf' hb_8 ?_
   refine guardM_n (by decide) ?_
   refine guardM_n (by decide) ?_
   refine guardM_n (by decide) ?_
   refine guardM_n (by decide) ?_
   refine guardM_n (by decide) ?_
   refine pop_pickf _ _ ?_
   refine guardM_n (by decide) ?_
   refine guardM_n (by decide) ?_
   refine guardM_n (by decide) ?_
   refine guardM_n (by decide) ?_
   refine guardM_n (by decide) ?_
   refine pop_pickf _ _ ?_
   refine condM_f ?_
   refine guardM_st (fun hb_228 => ?_) (fun hb_228 => ?_)
   rotate_left
   ·have H := H.2 hb_228
    refine guardM_n' hb_228 (by decide) ?_
    refine guardM_n' hb_228 (by decide) ?_
    refine guardM_n (by decide) ?_
    refine guardM_n (by decide) ?_
    refine guardM_n (by decide) ?_
    refine guardM_n (by decide) ?_
    refine guardM_n (by decide) ?_
    refine guardM_n' hb_228 (by decide) ?_
    refine guardM_n' hb_228 (by decide) ?_
    refine guardM_n (by decide) ?_
    refine guardM_n (by decide) ?_
    refine guardM_n (by decide) ?_
    refine guardM_n (by decide) ?_
    refine guardM_n (by decide) ?_
    refine guardM_n (by decide) ?_
    refine guardM_n' hb_228 (by decide) ?_
    refine pop_pickf' hb_228 ?_
    refine condM_f ?_
    refine H.mono fun rv_136 h_278 H => ?_
    obtain ⟨t154_8, rfl, hL_278, H⟩ := H
    refine eop_alloc 32 zer32 rfl hL_278 (fun b_37 h_279 hb_266 hf_73 hL_279 => ?_)
    refine uop_loc siz32 hL_279 0 rfl 0 [(Sl.v t154_8)] rfl rfl rfl (Nat.le_of_ble_eq_true rfl) (L' := [(b_37, [(Sl.v t154_8)]), (b_1, [(Sl.v t61_1)])]) rfl (fun h_280 hf_74 hL_280 => ?_)
    refine rop_locA agg32 hL_280 0 rfl 0 (vs := [(Sl.v t154_8)]) rfl rfl ?_
    have H := H b_37 h_280 (Nat.le_trans (Fr.size (Fr.r (In []) _)) hb_266) (Fr.new (Fr.no' (Fr.r (In []) _) hf_73) (Nat.le_trans (Fr.size (Fr.r (In []) _)) hb_266) hf_74) hL_280
    refine H.mono fun rv_137 h_281 H => ?_
    obtain ⟨t157_15, t157_16, rfl, hL_281, H⟩ := H
    refine pop_ext (v := (Sl.v t157_15)) rfl ?_
    refine pop_ext (v := (VB t157_16)) rfl ?_
    refine rop_locA agg32 hL_281 0 rfl 0 (vs := [(Sl.v t154_8)]) rfl rfl ?_
    refine H.mono fun rv_138 h_282 H => ?_
    obtain ⟨t162_15, t162_16, rfl, hL_282, H⟩ := H
    refine pop_ext (v := (Sl.v t162_15)) rfl ?_
    refine pop_ext (v := (VB t162_16)) rfl ?_
    refine rop_locA agg32 hL_282 0 rfl 0 (vs := [(Sl.v t154_8)]) rfl rfl ?_
    refine H.mono fun rv_139 h_283 H => ?_
    obtain ⟨t167_15, t167_16, rfl, hL_283, H⟩ := H
    refine pop_ext (v := (VB t167_15)) rfl ?_
    refine pop_ext (v := (VB t167_16)) rfl ?_
    refine rop_locA agg32 hL_283 0 rfl 0 (vs := [(Sl.v t154_8)]) rfl rfl ?_
    refine H.mono fun rv_140 h_284 H => ?_
    obtain ⟨t172_15, t172_16, rfl, hL_284, H⟩ := H
    refine pop_ext (v := (VB t172_15)) rfl ?_
    refine pop_ext (v := (VB t172_16)) rfl ?_
    refine pop_bne boo4 _ _ t157_16 t162_16 ?_
    refine guardM_sf (fun hb_267 => ?_) (fun hb_267 => ?_)
    rotate_left
    ·have H := H.1 hb_267
     refine guardM_n' hb_267 (by decide) ?_
     refine guardM_n' hb_267 (by decide) ?_
     refine guardM_n' hb_267 (by decide) ?_
     refine pop_pickt' hb_267 ?_
     refine guardM_n (by decide) ?_
     refine guardM_n (by decide) ?_
     refine guardM_n (by decide) ?_
     refine pop_pickt _ _ ?_
     refine guardM_n (by decide) ?_
     refine guardM_n (by decide) ?_
     refine guardM_n (by decide) ?_
     refine pop_pickt _ _ ?_
     refine guardM_n (by decide) ?_
     refine guardM_n (by decide) ?_
     refine guardM_n (by decide) ?_
     refine pop_pickt _ _ ?_
     refine condM_t ?_
     exact H
    have H := H.2 hb_267
    refine guardM_y' hb_267 ?_
    refine guardM_y' hb_267 ?_
    refine H.mono fun rv_141 h_285 H => ?_
    obtain ⟨t181_8, rfl, hL_285, H⟩ := H
    refine guardM_y' hb_267 ?_
    refine pop_not t181_8 ?_
    refine pop_pickf' hb_267 ?_
    refine guardM_sf (fun hb_268 => ?_) (fun hb_268 => ?_)
    rotate_left
    ·have H := H.1 hb_268
     refine guardM_n' hb_268 (by decide) ?_
     refine guardM_n' hb_268 (by decide) ?_
     refine pop_pickt' hb_268 ?_
     refine guardM_n (by decide) ?_
     refine guardM_n (by decide) ?_
     refine guardM_n (by decide) ?_
     refine pop_pickt _ _ ?_
     refine guardM_n (by decide) ?_
     refine guardM_n (by decide) ?_
     refine guardM_n (by decide) ?_
     refine pop_pickt _ _ ?_
     refine condM_t ?_
     exact H
    have H := H.2 hb_268
    refine guardM_y' hb_268 ?_
    refine guardM_y' hb_268 ?_
    refine pop_bne boo4 _ _ t167_16 t172_16 ?_
    refine pop_pickf' hb_268 ?_
    refine guardM_sf (fun hb_269 => ?_) (fun hb_269 => ?_)
    rotate_left
    ·have H := H.1 hb_269
     refine guardM_n' hb_269 (by decide) ?_
     refine guardM_n' hb_269 (by decide) ?_
     refine pop_pickt' hb_269 ?_
     refine guardM_n (by decide) ?_
     refine guardM_n (by decide) ?_
     refine guardM_n (by decide) ?_
     refine pop_pickt _ _ ?_
     refine condM_t ?_
     exact H
    have H := H.2 hb_269
    refine guardM_y' hb_269 ?_
    refine guardM_y' hb_269 ?_
    refine pop_bne boo4 _ _ t167_15 t172_15 ?_
    refine pop_pickf' hb_269 ?_
    refine guardM_sf (fun hb_270 => ?_) (fun hb_270 => ?_)
    rotate_left
    ·have H := H.1 hb_270
     refine guardM_n' hb_270 (by decide) ?_
     refine guardM_n' hb_270 (by decide) ?_
     refine pop_pickt' hb_270 ?_
     refine condM_t ?_
     exact H
    have H := H.2 hb_270
    refine guardM_y' hb_270 ?_
    refine guardM_y' hb_270 ?_
    refine pop_bne boo4 _ _ t167_16 t157_16 ?_
    refine pop_pickf' hb_270 ?_
    refine condM_b (fun hb_271 => ?_) (fun hb_271 => ?_)
    ·have H := H.1 hb_271
     exact H
    have H := H.2 hb_271
    obtain ⟨J_71, H, HB_80⟩ := H
    refine ⟨fun (vs : List Value) (h' : Heap) => vs = [] ∧ J_71  h' ∧ Vars h' [(b_37, [(Sl.v t154_8)]), (b_1, [(Sl.v t61_1)])], ?_, ?_⟩
    ·refine condM_b (fun hb_272 => ?_) (fun hb_272 => ?_)
     rotate_left
     ·have H := H.2 hb_272
      exact ⟨rfl, H, hL_285⟩
     have H := H.1 hb_272
     refine pop_len t157_15 _ _ sli22 ?_
     obtain ⟨J_72, ⟨n_122, h0_61⟩, HB_75⟩ := H
     refine loop_intro (J := fun (n : Nat) (vs : List Value) (h' : Heap) => ∃ count25_8 : Int, ∃ t202_8 : Int, vs = [(VI count25_8), (VI t202_8)] ∧ J_72 n count25_8 t202_8 h' ∧ Vars h' [(b_37, [(Sl.v t154_8)]), (b_1, [(Sl.v t61_1)])]) n_122 ⟨0, 0, rfl, h0_61, hL_285⟩ ?_
     intro I_61 mu_61 hI_61 junk_71 tv_75 tv_76 h_286 hi_127
     obtain ⟨n_113, ⟨count25_8, t202_8, hv, hJ_71, hL_286⟩, hn_57⟩ := hI_61 _ _ hi_127
     cases hv
     have H := HB_75 n_113 count25_8 t202_8 h_286 hJ_71 hL_286
     refine pop_lss .i64 t202_8 (t157_15.n : Int) ?_
     refine condM_b (fun hb_273 => ?_) (fun hb_273 => ?_)
     rotate_left
     ·have H := H.2 hb_273
      refine pop_field 0 fld32_0 b_37 0 ?_
      refine rop_loc one22 hL_286 0 rfl 0 (v := (Sl.v t154_8)) rfl ?_
      refine pop_len t154_8 _ _ sli22 ?_
      refine pop_ine .i64 _ _ count25_8 (t154_8.n : Int) ?_
      refine guardM_sf (fun hb_282 => ?_) (fun hb_282 => ?_)
      rotate_left
      ·have H := H.1 hb_282
       refine guardM_n' hb_282 (by decide) ?_
       refine guardM_n' hb_282 (by decide) ?_
       refine guardM_n' hb_282 (by decide) ?_
       refine guardM_n' hb_282 (by decide) ?_
       refine pop_pickt' hb_282 ?_
       refine condM_t ?_
       exact H
      have H := H.2 hb_282
      refine guardM_y' hb_282 ?_
      refine guardM_y' hb_282 ?_
      refine pop_len t157_15 _ _ sli22 ?_
      refine guardM_y' hb_282 ?_
      refine pop_ieq .i64 _ _ (t157_15.n : Int) 1 ?_
      refine guardM_y' hb_282 ?_
      refine pop_bne boo4 _ _ t167_15 (decide ((t157_15.n : Int) = 1)) ?_
      refine pop_pickf' hb_282 ?_
      refine condM_b (fun hb_283 => ?_) (fun hb_283 => ?_)
      ·have H := H.1 hb_283
       exact H
      have H := H.2 hb_283
      exact ⟨rfl, H, hL_286⟩
     have H := H.1 hb_273
     obtain ⟨hi_128, H⟩ := H
     refine pop_index sli22 siz27 .i64 t157_15 t202_8 hi_128 ?_
     obtain ⟨t206_8, hc_78, H⟩ := H
     refine rop_one one27 (Sl.v t206_8) hc_78 ?_
     refine pop_len t206_8 _ _ sli27 ?_
     refine pop_add .i64 count25_8 (t206_8.n : Int) ?_
     refine pop_gtr .i64 t202_8 0 ?_
     refine guardM_st (fun hb_274 => ?_) (fun hb_274 => ?_)
     rotate_left
     ·have H := H.2 hb_274
      refine guardM_n' hb_274 (by decide) ?_
      refine guardM_n' hb_274 (by decide) ?_
      refine guardM_n' hb_274 (by decide) ?_
      refine guardM_n' hb_274 (by decide) ?_
      refine guardM_n' hb_274 (by decide) ?_
      refine guardM_n' hb_274 (by decide) ?_
      refine guardM_n' hb_274 (by decide) ?_
      refine guardM_n' hb_274 (by decide) ?_
      refine guardM_n' hb_274 (by decide) ?_
      refine guardM_n' hb_274 (by decide) ?_
      refine pop_pickf' hb_274 ?_
      refine condM_f ?_
      refine pop_len t206_8 _ _ sli27 ?_
      obtain ⟨J_75, ⟨n_121, h0_60⟩, HB_74⟩ := H
      refine loop_intro (J := fun (n : Nat) (vs : List Value) (h' : Heap) => ∃ t228_16 : Int, vs = [(VI t228_16)] ∧ J_75 n t228_16 h' ∧ Vars h' [(b_37, [(Sl.v t154_8)]), (b_1, [(Sl.v t61_1)])]) n_121 ⟨0, rfl, h0_60, hL_286⟩ ?_
      intro I_60 mu_60 hI_60 junk_74 tv_74 h_290 hi_136
      obtain ⟨n_118, ⟨t228_16, hv, hJ_74, hL_290⟩, hn_60⟩ := hI_60 _ _ hi_136
      cases hv
      have H := HB_74 n_118 t228_16 h_290 hJ_74 hL_290
      refine pop_lss .i64 t228_16 (t206_8.n : Int) ?_
      refine condM_b (fun hb_279 => ?_) (fun hb_279 => ?_)
      rotate_left
      ·have H := H.2 hb_279
       refine pop_add .i64 t202_8 1 ?_
       obtain ⟨m_76, hm_76, H⟩ := H
       exact hn_57 _ _ ⟨m_76, hm_76, (w64 (count25_8 + (t206_8.n : Int))), (w64 (t202_8 + 1)), rfl, H, hL_290⟩
      have H := H.1 hb_279
      obtain ⟨hi_137, H⟩ := H
      refine pop_index sli27 siz3 .i64 t206_8 t228_16 hi_137 ?_
      obtain ⟨t231_16, hc_77, H⟩ := H
      refine rop_one one3 (VI t231_16) hc_77 ?_
      refine pop_len t206_8 _ _ sli27 ?_
      obtain ⟨J_76, ⟨n_120, h0_59⟩, HB_73⟩ := H
      refine loop_intro (J := fun (n : Nat) (vs : List Value) (h' : Heap) => ∃ t234_16 : Int, vs = [(VI t234_16)] ∧ J_76 n t234_16 h' ∧ Vars h' [(b_37, [(Sl.v t154_8)]), (b_1, [(Sl.v t61_1)])]) n_120 ⟨0, rfl, h0_59, hL_290⟩ ?_
      intro I_59 mu_59 hI_59 junk_75 tv_73 h_291 hi_138
      obtain ⟨n_119, ⟨t234_16, hv, hJ_75, hL_291⟩, hn_61⟩ := hI_59 _ _ hi_138
      cases hv
      have H := HB_73 n_119 t234_16 h_291 hJ_75 hL_291
      refine pop_lss .i64 t234_16 (t206_8.n : Int) ?_
      refine condM_b (fun hb_280 => ?_) (fun hb_280 => ?_)
      rotate_left
      ·have H := H.2 hb_280
       refine pop_add .i64 t228_16 1 ?_
       obtain ⟨m_75, hm_75, H⟩ := H
       exact hn_60 _ _ ⟨m_75, hm_75, (w64 (t228_16 + 1)), rfl, H, hL_291⟩
      have H := H.1 hb_280
      obtain ⟨hi_139, H⟩ := H
      refine pop_index sli27 siz3 .i64 t206_8 t234_16 hi_139 ?_
      obtain ⟨t237_16, hc_76, H⟩ := H
      refine rop_one one3 (VI t237_16) hc_76 ?_
      refine rop_locA agg32 hL_291 0 rfl 0 (vs := [(Sl.v t154_8)]) rfl rfl ?_
      refine H.mono fun rv_143 h_292 H => ?_
      obtain ⟨t242_31, t242_32, rfl, hL_292, H⟩ := H
      refine pop_ext (v := (VI t242_31)) rfl ?_
      refine pop_ext (v := (VB t242_32)) rfl ?_
      refine pop_not t242_32 ?_
      refine condM_b (fun hb_281 => ?_) (fun hb_281 => ?_)
      ·have H := H.1 hb_281
       exact H
      have H := H.2 hb_281
      refine pop_add .i64 t234_16 1 ?_
      obtain ⟨m_74, hm_74, H⟩ := H
      exact hn_61 _ _ ⟨m_74, hm_74, (w64 (t234_16 + 1)), rfl, H, hL_292⟩
     have H := H.1 hb_274
     refine guardM_y' hb_274 ?_
     refine guardM_y' hb_274 ?_
     refine pop_sub .i64 t202_8 1 ?_
     refine guardM_y' hb_274 ?_
     obtain ⟨hi_129, H⟩ := H
     refine pop_index sli22 siz27 .i64 t157_15 (w64 (t202_8 - 1)) hi_129 ?_
     refine guardM_y' hb_274 ?_
     obtain ⟨t218_8, hc_75, H⟩ := H
     refine rop_one one27 (Sl.v t218_8) hc_75 ?_
     refine guardM_y' hb_274 ?_
     obtain ⟨hi_130, H⟩ := H
     refine pop_index sli27 siz3 .i64 t218_8 0 hi_130 ?_
     refine guardM_y' hb_274 ?_
     obtain ⟨t220_8, hc_74, H⟩ := H
     refine rop_one one3 (VI t220_8) hc_74 ?_
     refine guardM_y' hb_274 ?_
     refine guardM_y' hb_274 ?_
     obtain ⟨hi_131, H⟩ := H
     refine pop_index sli27 siz3 .i64 t206_8 0 hi_131 ?_
     refine guardM_y' hb_274 ?_
     obtain ⟨t223_8, hc_73, H⟩ := H
     refine rop_one one3 (VI t223_8) hc_73 ?_
     refine guardM_y' hb_274 ?_
     refine pop_geq .i64 t220_8 t223_8 ?_
     refine pop_pickt' hb_274 ?_
     refine condM_b (fun hb_275 => ?_) (fun hb_275 => ?_)
     ·have H := H.1 hb_275
      exact H
     have H := H.2 hb_275
     refine pop_len t206_8 _ _ sli27 ?_
     obtain ⟨J_73, ⟨n_117, h0_58⟩, HB_72⟩ := H
     refine loop_intro (J := fun (n : Nat) (vs : List Value) (h' : Heap) => ∃ t228_15 : Int, vs = [(VI t228_15)] ∧ J_73 n t228_15 h' ∧ Vars h' [(b_37, [(Sl.v t154_8)]), (b_1, [(Sl.v t61_1)])]) n_117 ⟨0, rfl, h0_58, hL_286⟩ ?_
     intro I_58 mu_58 hI_58 junk_72 tv_72 h_287 hi_132
     obtain ⟨n_114, ⟨t228_15, hv, hJ_72, hL_287⟩, hn_58⟩ := hI_58 _ _ hi_132
     cases hv
     have H := HB_72 n_114 t228_15 h_287 hJ_72 hL_287
     refine pop_lss .i64 t228_15 (t206_8.n : Int) ?_
     refine condM_b (fun hb_276 => ?_) (fun hb_276 => ?_)
     rotate_left
     ·have H := H.2 hb_276
      refine pop_add .i64 t202_8 1 ?_
      obtain ⟨m_73, hm_73, H⟩ := H
      exact hn_57 _ _ ⟨m_73, hm_73, (w64 (count25_8 + (t206_8.n : Int))), (w64 (t202_8 + 1)), rfl, H, hL_287⟩
     have H := H.1 hb_276
     obtain ⟨hi_133, H⟩ := H
     refine pop_index sli27 siz3 .i64 t206_8 t228_15 hi_133 ?_
     obtain ⟨t231_15, hc_72, H⟩ := H
     refine rop_one one3 (VI t231_15) hc_72 ?_
     refine pop_len t206_8 _ _ sli27 ?_
     obtain ⟨J_74, ⟨n_116, h0_57⟩, HB_71⟩ := H
     refine loop_intro (J := fun (n : Nat) (vs : List Value) (h' : Heap) => ∃ t234_15 : Int, vs = [(VI t234_15)] ∧ J_74 n t234_15 h' ∧ Vars h' [(b_37, [(Sl.v t154_8)]), (b_1, [(Sl.v t61_1)])]) n_116 ⟨0, rfl, h0_57, hL_287⟩ ?_
     intro I_57 mu_57 hI_57 junk_73 tv_71 h_288 hi_134
     obtain ⟨n_115, ⟨t234_15, hv, hJ_73, hL_288⟩, hn_59⟩ := hI_57 _ _ hi_134
     cases hv
     have H := HB_71 n_115 t234_15 h_288 hJ_73 hL_288
     refine pop_lss .i64 t234_15 (t206_8.n : Int) ?_
     refine condM_b (fun hb_277 => ?_) (fun hb_277 => ?_)
     rotate_left
     ·have H := H.2 hb_277
      refine pop_add .i64 t228_15 1 ?_
      obtain ⟨m_72, hm_72, H⟩ := H
      exact hn_58 _ _ ⟨m_72, hm_72, (w64 (t228_15 + 1)), rfl, H, hL_288⟩
     have H := H.1 hb_277
     obtain ⟨hi_135, H⟩ := H
     refine pop_index sli27 siz3 .i64 t206_8 t234_15 hi_135 ?_
     obtain ⟨t237_15, hc_71, H⟩ := H
     refine rop_one one3 (VI t237_15) hc_71 ?_
     refine rop_locA agg32 hL_288 0 rfl 0 (vs := [(Sl.v t154_8)]) rfl rfl ?_
     refine H.mono fun rv_142 h_289 H => ?_
     obtain ⟨t242_29, t242_30, rfl, hL_289, H⟩ := H
     refine pop_ext (v := (VI t242_29)) rfl ?_
     refine pop_ext (v := (VB t242_30)) rfl ?_
     refine pop_not t242_30 ?_
     refine condM_b (fun hb_278 => ?_) (fun hb_278 => ?_)
     ·have H := H.1 hb_278
      exact H
     have H := H.2 hb_278
     refine pop_add .i64 t234_15 1 ?_
     obtain ⟨m_71, hm_71, H⟩ := H
     exact hn_59 _ _ ⟨m_71, hm_71, (w64 (t234_15 + 1)), rfl, H, hL_289⟩
    intro junk_76  h_293
    rintro ⟨hv, hJ_76, hL_293⟩
    have H := HB_80  h_293 hJ_76 hL_293
    refine H.mono fun rv_144 h_294 H => ?_
    obtain ⟨t264_15, t264_16, rfl, hL_294, H⟩ := H
    refine pop_ext (v := (Value.agg #[(Sl.v t264_15)])) rfl ?_
    refine pop_ext (v := (Sl.v t264_16)) rfl ?_
    refine eop_alloc 32 zer32 rfl hL_294 (fun b_38 h_295 hb_284 hf_75 hL_295 => ?_)
    refine uop_loc siz32 hL_295 0 rfl 0 [(Sl.v t264_15)] rfl rfl rfl (Nat.le_of_ble_eq_true rfl) (L' := [(b_38, [(Sl.v t264_15)]), (b_37, [(Sl.v t154_8)]), (b_1, [(Sl.v t61_1)])]) rfl (fun h_296 hf_76 hL_296 => ?_)
    refine rop_locA agg32 hL_296 0 rfl 0 (vs := [(Sl.v t264_15)]) rfl rfl ?_
    have H := H b_38 h_296 (Nat.le_trans (Fr.size (Fr.r (In []) _)) hb_284) (Fr.new (Fr.no' (Fr.r (In []) _) hf_75) (Nat.le_trans (Fr.size (Fr.r (In []) _)) hb_284) hf_76) hL_296
    refine H.mono fun rv_145 h_297 H => ?_
    obtain ⟨t270_15, t270_16, rfl, hL_297, H⟩ := H
    refine pop_ext (v := (Value.agg #[(Sl.v t270_15)])) rfl ?_
    refine pop_ext (v := (VB t270_16)) rfl ?_
    refine eop_alloc 32 zer32 rfl hL_297 (fun b_39 h_298 hb_285 hf_77 hL_298 => ?_)
    refine uop_loc siz32 hL_298 0 rfl 0 [(Sl.v t270_15)] rfl rfl rfl (Nat.le_of_ble_eq_true rfl) (L' := [(b_39, [(Sl.v t270_15)]), (b_38, [(Sl.v t264_15)]), (b_37, [(Sl.v t154_8)]), (b_1, [(Sl.v t61_1)])]) rfl (fun h_299 hf_78 hL_299 => ?_)
    refine rop_locA agg32 hL_299 1 rfl 0 (vs := [(Sl.v t264_15)]) rfl rfl ?_
    have H := H b_39 h_299 (Nat.le_trans (Fr.size (Fr.r (In []) _)) hb_285) (Fr.new (Fr.no' (Fr.r (In []) _) hf_77) (Nat.le_trans (Fr.size (Fr.r (In []) _)) hb_285) hf_78) hL_299
    refine H.mono fun rv_146 h_300 H => ?_
    obtain ⟨t276_15, t276_16, rfl, hL_300, H⟩ := H
    refine pop_ext (v := (Value.agg #[(Sl.v t276_15)])) rfl ?_
    refine pop_ext (v := (VB t276_16)) rfl ?_
    refine eop_alloc 32 zer32 rfl hL_300 (fun b_40 h_301 hb_286 hf_79 hL_301 => ?_)
    refine uop_loc siz32 hL_301 0 rfl 0 [(Sl.v t276_15)] rfl rfl rfl (Nat.le_of_ble_eq_true rfl) (L' := [(b_40, [(Sl.v t276_15)]), (b_39, [(Sl.v t270_15)]), (b_38, [(Sl.v t264_15)]), (b_37, [(Sl.v t154_8)]), (b_1, [(Sl.v t61_1)])]) rfl (fun h_302 hf_80 hL_302 => ?_)
    refine pop_bne boo4 _ _ t270_16 t276_16 ?_
    refine guardM_sf (fun hb_287 => ?_) (fun hb_287 => ?_)
    rotate_left
    ·have H := H.1 hb_287
     refine guardM_n' hb_287 (by decide) ?_
     refine guardM_n' hb_287 (by decide) ?_
     refine guardM_n' hb_287 (by decide) ?_
     refine pop_pickt' hb_287 ?_
     refine condM_t ?_
     have H := H b_40 h_302 (Nat.le_trans (Fr.size (Fr.r (In []) _)) hb_286) (Fr.new (Fr.no' (Fr.r (In []) _) hf_79) (Nat.le_trans (Fr.size (Fr.r (In []) _)) hb_286) hf_80) hL_302
     exact H
    have H := H.2 hb_287
    refine rop_locA agg32 hL_302 1 rfl 0 (vs := [(Sl.v t270_15)]) rfl rfl ?_
    refine guardM_y' hb_287 ?_
    refine rop_locA agg32 hL_302 0 rfl 0 (vs := [(Sl.v t276_15)]) rfl rfl ?_
    refine guardM_y' hb_287 ?_
    have H := H b_40 h_302 (Nat.le_trans (Fr.size (Fr.r (In []) _)) hb_286) (Fr.new (Fr.no' (Fr.r (In []) _) hf_79) (Nat.le_trans (Fr.size (Fr.r (In []) _)) hb_286) hf_80) hL_302
    refine H.mono fun rv_147 h_303 H => ?_
    obtain ⟨t285_8, rfl, hL_303, H⟩ := H
    refine guardM_y' hb_287 ?_
    refine pop_not t285_8 ?_
    refine pop_pickf' hb_287 ?_
    refine condM_b (fun hb_288 => ?_) (fun hb_288 => ?_)
    ·have H := H.1 hb_288
     exact H
    have H := H.2 hb_288
    obtain ⟨J_77, H, HB_79⟩ := H
    refine ⟨fun (vs : List Value) (h' : Heap) => vs = [] ∧ J_77  h' ∧ Vars h' [(b_40, [(Sl.v t276_15)]), (b_39, [(Sl.v t270_15)]), (b_38, [(Sl.v t264_15)]), (b_37, [(Sl.v t154_8)]), (b_1, [(Sl.v t61_1)])], ?_, ?_⟩
    ·refine condM_b (fun hb_289 => ?_) (fun hb_289 => ?_)
     rotate_left
     ·have H := H.2 hb_289
      exact ⟨rfl, H, hL_303⟩
     have H := H.1 hb_289
     refine pop_field 0 fld32_0 b_38 0 ?_
     refine rop_loc one22 hL_303 2 rfl 0 (v := (Sl.v t264_15)) rfl ?_
     refine pop_len t264_15 _ _ sli22 ?_
     obtain ⟨J_78, ⟨n_126, h0_63⟩, HB_77⟩ := H
     refine loop_intro (J := fun (n : Nat) (vs : List Value) (h' : Heap) => ∃ t292_8 : Int, vs = [(VI t292_8)] ∧ J_78 n t292_8 h' ∧ Vars h' [(b_40, [(Sl.v t276_15)]), (b_39, [(Sl.v t270_15)]), (b_38, [(Sl.v t264_15)]), (b_37, [(Sl.v t154_8)]), (b_1, [(Sl.v t61_1)])]) n_126 ⟨0, rfl, h0_63, hL_303⟩ ?_
     intro I_63 mu_63 hI_63 junk_77 tv_78 h_304 hi_140
     obtain ⟨n_123, ⟨t292_8, hv, hJ_77, hL_304⟩, hn_62⟩ := hI_63 _ _ hi_140
     cases hv
     have H := HB_77 n_123 t292_8 h_304 hJ_77 hL_304
     refine pop_lss .i64 t292_8 (t264_15.n : Int) ?_
     refine condM_b (fun hb_290 => ?_) (fun hb_290 => ?_)
     rotate_left
     ·have H := H.2 hb_290
      exact ⟨rfl, H, hL_304⟩
     have H := H.1 hb_290
     refine pop_field 0 fld32_0 b_38 0 ?_
     refine rop_loc one22 hL_304 2 rfl 0 (v := (Sl.v t264_15)) rfl ?_
     refine pop_len t264_15 _ _ sli22 ?_
     obtain ⟨J_79, ⟨n_125, h0_62⟩, HB_76⟩ := H
     refine loop_intro (J := fun (n : Nat) (vs : List Value) (h' : Heap) => ∃ t298_8 : Int, vs = [(VI t298_8)] ∧ J_79 n t298_8 h' ∧ Vars h' [(b_40, [(Sl.v t276_15)]), (b_39, [(Sl.v t270_15)]), (b_38, [(Sl.v t264_15)]), (b_37, [(Sl.v t154_8)]), (b_1, [(Sl.v t61_1)])]) n_125 ⟨0, rfl, h0_62, hL_304⟩ ?_
     intro I_62 mu_62 hI_62 junk_78 tv_77 h_305 hi_141
     obtain ⟨n_124, ⟨t298_8, hv, hJ_78, hL_305⟩, hn_63⟩ := hI_62 _ _ hi_141
     cases hv
     have H := HB_76 n_124 t298_8 h_305 hJ_78 hL_305
     refine pop_lss .i64 t298_8 (t264_15.n : Int) ?_
     refine condM_b (fun hb_291 => ?_) (fun hb_291 => ?_)
     rotate_left
     ·have H := H.2 hb_291
      refine pop_add .i64 t292_8 1 ?_
      obtain ⟨m_78, hm_78, H⟩ := H
      exact hn_62 _ _ ⟨m_78, hm_78, (w64 (t292_8 + 1)), rfl, H, hL_305⟩
     have H := H.1 hb_291
     refine rop_locA agg32 hL_305 2 rfl 0 (vs := [(Sl.v t264_15)]) rfl rfl ?_
     refine H.mono fun rv_148 h_306 H => ?_
     obtain ⟨t305_15, t305_16, rfl, hL_306, H⟩ := H
     refine pop_ext (v := (VI t305_15)) rfl ?_
     refine pop_ext (v := (VB t305_16)) rfl ?_
     refine rop_locA agg32 hL_306 1 rfl 0 (vs := [(Sl.v t270_15)]) rfl rfl ?_
     obtain ⟨hi_142, H⟩ := H
     refine pop_index sli27 siz3 .i64 t264_16 t292_8 hi_142 ?_
     obtain ⟨t313_8, hc_80, H⟩ := H
     refine rop_one one3 (VI t313_8) hc_80 ?_
     obtain ⟨hi_143, H⟩ := H
     refine pop_index sli27 siz3 .i64 t264_16 t298_8 hi_143 ?_
     obtain ⟨t317_8, hc_79, H⟩ := H
     refine rop_one one3 (VI t317_8) hc_79 ?_
     refine H.mono fun rv_149 h_307 H => ?_
     obtain ⟨t318_15, t318_16, rfl, hL_307, H⟩ := H
     refine pop_ext (v := (VI t318_15)) rfl ?_
     refine pop_ext (v := (VB t318_16)) rfl ?_
     refine pop_bne boo4 _ _ t305_16 t318_16 ?_
     refine guardM_sf (fun hb_292 => ?_) (fun hb_292 => ?_)
     rotate_left
     ·have H := H.1 hb_292
      refine guardM_n' hb_292 (by decide) ?_
      refine guardM_n' hb_292 (by decide) ?_
      refine pop_pickt' hb_292 ?_
      refine condM_t ?_
      exact H
     have H := H.2 hb_292
     refine guardM_y' hb_292 ?_
     refine guardM_y' hb_292 ?_
     refine pop_ine .i64 _ _ t305_15 t318_15 ?_
     refine pop_pickf' hb_292 ?_
     refine condM_b (fun hb_293 => ?_) (fun hb_293 => ?_)
     ·have H := H.1 hb_293
      exact H
     have H := H.2 hb_293
     refine pop_add .i64 t298_8 1 ?_
     obtain ⟨m_77, hm_77, H⟩ := H
     exact hn_63 _ _ ⟨m_77, hm_77, (w64 (t298_8 + 1)), rfl, H, hL_307⟩
    intro junk_79  h_308
    rintro ⟨hv, hJ_79, hL_308⟩
    have H := HB_79  h_308 hJ_79 hL_308
    refine H.mono fun rv_150 h_309 H => ?_
    obtain ⟨t333_15, t333_16, rfl, hL_309, H⟩ := H
    refine pop_ext (v := (Value.agg #[(Sl.v t333_15)])) rfl ?_
    refine pop_ext (v := (VI t333_16)) rfl ?_
    refine eop_alloc 32 zer32 rfl hL_309 (fun b_41 h_310 hb_294 hf_81 hL_310 => ?_)
    refine uop_loc siz32 hL_310 0 rfl 0 [(Sl.v t333_15)] rfl rfl rfl (Nat.le_of_ble_eq_true rfl) (L' := [(b_41, [(Sl.v t333_15)]), (b_40, [(Sl.v t276_15)]), (b_39, [(Sl.v t270_15)]), (b_38, [(Sl.v t264_15)]), (b_37, [(Sl.v t154_8)]), (b_1, [(Sl.v t61_1)])]) rfl (fun h_311 hf_82 hL_311 => ?_)
    refine rop_locA agg32 hL_311 0 rfl 0 (vs := [(Sl.v t333_15)]) rfl rfl ?_
    have H := H b_41 h_311 (Nat.le_trans (Fr.size (Fr.r (In []) _)) hb_294) (Fr.new (Fr.no' (Fr.r (In []) _) hf_81) (Nat.le_trans (Fr.size (Fr.r (In []) _)) hb_294) hf_82) hL_311
    refine H.mono fun rv_151 h_312 H => ?_
    obtain ⟨t339_15, t339_16, rfl, hL_312, H⟩ := H
    refine pop_ext (v := (VB t339_15)) rfl ?_
    refine pop_ext (v := (VB t339_16)) rfl ?_
    refine rop_locA agg32 hL_312 0 rfl 0 (vs := [(Sl.v t333_15)]) rfl rfl ?_
    refine H.mono fun rv_152 h_313 H => ?_
    obtain ⟨t345_15, t345_16, rfl, hL_313, H⟩ := H
    refine pop_ext (v := (VB t345_15)) rfl ?_
    refine pop_ext (v := (VB t345_16)) rfl ?_
    refine pop_bne boo4 _ _ t339_16 t345_16 ?_
    refine guardM_sf (fun hb_295 => ?_) (fun hb_295 => ?_)
    rotate_left
    ·have H := H.1 hb_295
     refine guardM_n' hb_295 (by decide) ?_
     refine guardM_n' hb_295 (by decide) ?_
     refine pop_pickt' hb_295 ?_
     refine condM_t ?_
     exact H
    have H := H.2 hb_295
    refine guardM_y' hb_295 ?_
    refine guardM_y' hb_295 ?_
    refine pop_bne boo4 _ _ t339_15 t345_15 ?_
    refine pop_pickf' hb_295 ?_
    refine condM_b (fun hb_296 => ?_) (fun hb_296 => ?_)
    ·have H := H.1 hb_296
     exact H
    have H := H.2 hb_296
    refine condM_b (fun hb_297 => ?_) (fun hb_297 => ?_)
    rotate_left
    ·have H := H.2 hb_297
     exact H
    have H := H.1 hb_297
    refine pop_field 0 fld32_0 b_41 0 ?_
    refine rop_loc one22 hL_313 0 rfl 0 (v := (Sl.v t333_15)) rfl ?_
    refine pop_len t333_15 _ _ sli22 ?_
    obtain ⟨J_80, ⟨n_128, h0_64⟩, HB_78⟩ := H
    refine loop_intro (J := fun (n : Nat) (vs : List Value) (h' : Heap) => ∃ all52_8 : Bool, ∃ t360_8 : Int, vs = [(VB all52_8), (VI t360_8)] ∧ J_80 n all52_8 t360_8 h' ∧ Vars h' [(b_41, [(Sl.v t333_15)]), (b_40, [(Sl.v t276_15)]), (b_39, [(Sl.v t270_15)]), (b_38, [(Sl.v t264_15)]), (b_37, [(Sl.v t154_8)]), (b_1, [(Sl.v t61_1)])]) n_128 ⟨true, 0, rfl, h0_64, hL_313⟩ ?_
    intro I_64 mu_64 hI_64 junk_80 tv_79 tv_80 h_314 hi_144
    obtain ⟨n_127, ⟨all52_8, t360_8, hv, hJ_80, hL_314⟩, hn_64⟩ := hI_64 _ _ hi_144
    cases hv
    have H := HB_78 n_127 all52_8 t360_8 h_314 hJ_80 hL_314
    refine pop_lss .i64 t360_8 (t333_15.n : Int) ?_
    refine condM_b (fun hb_298 => ?_) (fun hb_298 => ?_)
    rotate_left
    ·have H := H.2 hb_298
     refine pop_beq boo4 _ _ all52_8 t339_15 ?_
     exact H
    have H := H.1 hb_298
    refine rop_locA agg32 hL_314 0 rfl 0 (vs := [(Sl.v t333_15)]) rfl rfl ?_
    refine H.mono fun rv_153 h_315 H => ?_
    obtain ⟨t367_15, t367_16, rfl, hL_315, H⟩ := H
    refine pop_ext (v := (VI t367_15)) rfl ?_
    refine pop_ext (v := (VB t367_16)) rfl ?_
    refine guardM_st (fun hb_299 => ?_) (fun hb_299 => ?_)
    ·have H := H.1 hb_299
     refine pop_pickt' hb_299 ?_
     refine pop_add .i64 t360_8 1 ?_
     obtain ⟨m_79, hm_79, H⟩ := H
     exact hn_64 _ _ ⟨m_79, hm_79, t367_16, (w64 (t360_8 + 1)), rfl, H, hL_315⟩
    have H := H.2 hb_299
    refine pop_pickf' hb_299 ?_
    refine pop_add .i64 t360_8 1 ?_
    obtain ⟨m_80, hm_80, H⟩ := H
    exact hn_64 _ _ ⟨m_80, hm_80, false, (w64 (t360_8 + 1)), rfl, H, hL_315⟩
   have H := H.1 hb_228
   refine guardM_y' hb_228 ?_
   refine pop_lss .i64 t69_1 0 ?_
   refine guardM_y' hb_228 ?_
   refine guardM_sf (fun hb_229 => ?_) (fun hb_229 => ?_)
   rotate_left
   ·have H := H.1 hb_229
    refine guardM_n' hb_229 (by decide) ?_
    refine guardM_n' hb_229 (by decide) ?_
    refine guardM_n' hb_229 (by decide) ?_
    refine guardM_n' hb_229 (by decide) ?_
    refine guardM_y' hb_228 ?_
    refine pop_pickt' hb_229 ?_
    refine guardM_y' hb_228 ?_
    refine guardM_n (by decide) ?_
    refine guardM_n (by decide) ?_
    refine guardM_n (by decide) ?_
    refine guardM_n (by decide) ?_
    refine guardM_n (by decide) ?_
    refine guardM_n (by decide) ?_
    refine guardM_y' hb_228 ?_
    refine pop_pickt _ _ ?_
    refine pop_pickt' hb_228 ?_
    refine condM_t ?_
    exact H
   have H := H.2 hb_229
   refine guardM_y' hb_229 ?_
   refine pop_field 0 fld32_0 b_1 0 ?_
   refine guardM_y' hb_229 ?_
   refine rop_loc one22 hL_10 0 rfl 0 (v := (Sl.v t61_1)) rfl ?_
   refine guardM_y' hb_229 ?_
   refine pop_len t61_1 _ _ sli22 ?_
   refine guardM_y' hb_229 ?_
   refine pop_geq .i64 t69_1 (t61_1.n : Int) ?_
   refine guardM_y' hb_228 ?_
   refine pop_pickf' hb_229 ?_
   refine guardM_y' hb_228 ?_
   refine guardM_sf (fun hb_230 => ?_) (fun hb_230 => ?_)
   rotate_left
   ·have H := H.1 hb_230
    refine guardM_n' hb_230 (by decide) ?_
    refine guardM_n' hb_230 (by decide) ?_
    refine guardM_n' hb_230 (by decide) ?_
    refine guardM_n' hb_230 (by decide) ?_
    refine guardM_n' hb_230 (by decide) ?_
    refine guardM_y' hb_228 ?_
    refine pop_pickt' hb_230 ?_
    refine pop_pickt' hb_228 ?_
    refine condM_t ?_
    exact H
   have H := H.2 hb_230
   refine guardM_y' hb_230 ?_
   refine pop_ieq .i64 _ _ t69_1 0 ?_
   refine guardM_y' hb_230 ?_
   refine guardM_y' hb_230 ?_
   refine guardM_y' hb_230 ?_
   refine pop_ieq .i64 _ _ t61_2 t61_3 ?_
   refine guardM_y' hb_230 ?_
   refine pop_bne boo4 _ _ (decide (t69_1 = 0)) (decide (t61_2 = t61_3)) ?_
   refine guardM_y' hb_228 ?_
   refine pop_pickf' hb_230 ?_
   refine pop_pickt' hb_228 ?_
   refine condM_b (fun hb_231 => ?_) (fun hb_231 => ?_)
   ·have H := H.1 hb_231
    exact H
   have H := H.2 hb_231
   refine H.mono fun rv_118 h_240 H => ?_
   obtain ⟨t154_7, rfl, hL_240, H⟩ := H
   refine eop_alloc 32 zer32 rfl hL_240 (fun b_32 h_241 hb_232 hf_63 hL_241 => ?_)
   refine uop_loc siz32 hL_241 0 rfl 0 [(Sl.v t154_7)] rfl rfl rfl (Nat.le_of_ble_eq_true rfl) (L' := [(b_32, [(Sl.v t154_7)]), (b_1, [(Sl.v t61_1)])]) rfl (fun h_242 hf_64 hL_242 => ?_)
   refine rop_locA agg32 hL_242 0 rfl 0 (vs := [(Sl.v t154_7)]) rfl rfl ?_
   have H := H b_32 h_242 (Nat.le_trans (Fr.size (Fr.r (In []) _)) hb_232) (Fr.new (Fr.no' (Fr.r (In []) _) hf_63) (Nat.le_trans (Fr.size (Fr.r (In []) _)) hb_232) hf_64) hL_242
   refine H.mono fun rv_119 h_243 H => ?_
   obtain ⟨t157_13, t157_14, rfl, hL_243, H⟩ := H
   refine pop_ext (v := (Sl.v t157_13)) rfl ?_
   refine pop_ext (v := (VB t157_14)) rfl ?_
   refine rop_locA agg32 hL_243 0 rfl 0 (vs := [(Sl.v t154_7)]) rfl rfl ?_
   refine H.mono fun rv_120 h_244 H => ?_
   obtain ⟨t162_13, t162_14, rfl, hL_244, H⟩ := H
   refine pop_ext (v := (Sl.v t162_13)) rfl ?_
   refine pop_ext (v := (VB t162_14)) rfl ?_
   refine rop_locA agg32 hL_244 0 rfl 0 (vs := [(Sl.v t154_7)]) rfl rfl ?_
   refine H.mono fun rv_121 h_245 H => ?_
   obtain ⟨t167_13, t167_14, rfl, hL_245, H⟩ := H
   refine pop_ext (v := (VB t167_13)) rfl ?_
   refine pop_ext (v := (VB t167_14)) rfl ?_
   refine rop_locA agg32 hL_245 0 rfl 0 (vs := [(Sl.v t154_7)]) rfl rfl ?_
   refine H.mono fun rv_122 h_246 H => ?_
   obtain ⟨t172_13, t172_14, rfl, hL_246, H⟩ := H
   refine pop_ext (v := (VB t172_13)) rfl ?_
   refine pop_ext (v := (VB t172_14)) rfl ?_
   refine pop_bne boo4 _ _ t157_14 t162_14 ?_
   refine guardM_sf (fun hb_233 => ?_) (fun hb_233 => ?_)
   rotate_left
   ·have H := H.1 hb_233
    refine guardM_n' hb_233 (by decide) ?_
    refine guardM_n' hb_233 (by decide) ?_
    refine guardM_n' hb_233 (by decide) ?_
    refine pop_pickt' hb_233 ?_
    refine guardM_n (by decide) ?_
    refine guardM_n (by decide) ?_
    refine guardM_n (by decide) ?_
    refine pop_pickt _ _ ?_
    refine guardM_n (by decide) ?_
    refine guardM_n (by decide) ?_
    refine guardM_n (by decide) ?_
    refine pop_pickt _ _ ?_
    refine guardM_n (by decide) ?_
    refine guardM_n (by decide) ?_
    refine guardM_n (by decide) ?_
    refine pop_pickt _ _ ?_
    refine condM_t ?_
    exact H
   have H := H.2 hb_233
   refine guardM_y' hb_233 ?_
   refine guardM_y' hb_233 ?_
   refine H.mono fun rv_123 h_247 H => ?_
   obtain ⟨t181_7, rfl, hL_247, H⟩ := H
   refine guardM_y' hb_233 ?_
   refine pop_not t181_7 ?_
   refine pop_pickf' hb_233 ?_
   refine guardM_sf (fun hb_234 => ?_) (fun hb_234 => ?_)
   rotate_left
   ·have H := H.1 hb_234
    refine guardM_n' hb_234 (by decide) ?_
    refine guardM_n' hb_234 (by decide) ?_
    refine pop_pickt' hb_234 ?_
    refine guardM_n (by decide) ?_
    refine guardM_n (by decide) ?_
    refine guardM_n (by decide) ?_
    refine pop_pickt _ _ ?_
    refine guardM_n (by decide) ?_
    refine guardM_n (by decide) ?_
    refine guardM_n (by decide) ?_
    refine pop_pickt _ _ ?_
    refine condM_t ?_
    exact H
   have H := H.2 hb_234
   refine guardM_y' hb_234 ?_
   refine guardM_y' hb_234 ?_
   refine pop_bne boo4 _ _ t167_14 t172_14 ?_
   refine pop_pickf' hb_234 ?_
   refine guardM_sf (fun hb_235 => ?_) (fun hb_235 => ?_)
   rotate_left
   ·have H := H.1 hb_235
    refine guardM_n' hb_235 (by decide) ?_
    refine guardM_n' hb_235 (by decide) ?_
    refine pop_pickt' hb_235 ?_
    refine guardM_n (by decide) ?_
    refine guardM_n (by decide) ?_
    refine guardM_n (by decide) ?_
    refine pop_pickt _ _ ?_
    refine condM_t ?_
    exact H
   have H := H.2 hb_235
   refine guardM_y' hb_235 ?_
   refine guardM_y' hb_235 ?_
   refine pop_bne boo4 _ _ t167_13 t172_13 ?_
   refine pop_pickf' hb_235 ?_
   refine guardM_sf (fun hb_236 => ?_) (fun hb_236 => ?_)
   rotate_left
   ·have H := H.1 hb_236
    refine guardM_n' hb_236 (by decide) ?_
    refine guardM_n' hb_236 (by decide) ?_
    refine pop_pickt' hb_236 ?_
    refine condM_t ?_
    exact H
   have H := H.2 hb_236
   refine guardM_y' hb_236 ?_
   refine guardM_y' hb_236 ?_
   refine pop_bne boo4 _ _ t167_14 t157_14 ?_
   refine pop_pickf' hb_236 ?_
   refine condM_b (fun hb_237 => ?_) (fun hb_237 => ?_)
   ·have H := H.1 hb_237
    exact H
   have H := H.2 hb_237
   obtain ⟨J_61, H, HB_70⟩ := H
   refine ⟨fun (vs : List Value) (h' : Heap) => vs = [] ∧ J_61  h' ∧ Vars h' [(b_32, [(Sl.v t154_7)]), (b_1, [(Sl.v t61_1)])], ?_, ?_⟩
   ·refine condM_b (fun hb_238 => ?_) (fun hb_238 => ?_)
    rotate_left
    ·have H := H.2 hb_238
     exact ⟨rfl, H, hL_247⟩
    have H := H.1 hb_238
    refine pop_len t157_13 _ _ sli22 ?_
    obtain ⟨J_62, ⟨n_106, h0_53⟩, HB_65⟩ := H
    refine loop_intro (J := fun (n : Nat) (vs : List Value) (h' : Heap) => ∃ count25_7 : Int, ∃ t202_7 : Int, vs = [(VI count25_7), (VI t202_7)] ∧ J_62 n count25_7 t202_7 h' ∧ Vars h' [(b_32, [(Sl.v t154_7)]), (b_1, [(Sl.v t61_1)])]) n_106 ⟨0, 0, rfl, h0_53, hL_247⟩ ?_
    intro I_53 mu_53 hI_53 junk_61 tv_65 tv_66 h_248 hi_109
    obtain ⟨n_97, ⟨count25_7, t202_7, hv, hJ_61, hL_248⟩, hn_49⟩ := hI_53 _ _ hi_109
    cases hv
    have H := HB_65 n_97 count25_7 t202_7 h_248 hJ_61 hL_248
    refine pop_lss .i64 t202_7 (t157_13.n : Int) ?_
    refine condM_b (fun hb_239 => ?_) (fun hb_239 => ?_)
    rotate_left
    ·have H := H.2 hb_239
     refine pop_field 0 fld32_0 b_32 0 ?_
     refine rop_loc one22 hL_248 0 rfl 0 (v := (Sl.v t154_7)) rfl ?_
     refine pop_len t154_7 _ _ sli22 ?_
     refine pop_ine .i64 _ _ count25_7 (t154_7.n : Int) ?_
     refine guardM_sf (fun hb_248 => ?_) (fun hb_248 => ?_)
     rotate_left
     ·have H := H.1 hb_248
      refine guardM_n' hb_248 (by decide) ?_
      refine guardM_n' hb_248 (by decide) ?_
      refine guardM_n' hb_248 (by decide) ?_
      refine guardM_n' hb_248 (by decide) ?_
      refine pop_pickt' hb_248 ?_
      refine condM_t ?_
      exact H
     have H := H.2 hb_248
     refine guardM_y' hb_248 ?_
     refine guardM_y' hb_248 ?_
     refine pop_len t157_13 _ _ sli22 ?_
     refine guardM_y' hb_248 ?_
     refine pop_ieq .i64 _ _ (t157_13.n : Int) 1 ?_
     refine guardM_y' hb_248 ?_
     refine pop_bne boo4 _ _ t167_13 (decide ((t157_13.n : Int) = 1)) ?_
     refine pop_pickf' hb_248 ?_
     refine condM_b (fun hb_249 => ?_) (fun hb_249 => ?_)
     ·have H := H.1 hb_249
      exact H
     have H := H.2 hb_249
     exact ⟨rfl, H, hL_248⟩
    have H := H.1 hb_239
    obtain ⟨hi_110, H⟩ := H
    refine pop_index sli22 siz27 .i64 t157_13 t202_7 hi_110 ?_
    obtain ⟨t206_7, hc_68, H⟩ := H
    refine rop_one one27 (Sl.v t206_7) hc_68 ?_
    refine pop_len t206_7 _ _ sli27 ?_
    refine pop_add .i64 count25_7 (t206_7.n : Int) ?_
    refine pop_gtr .i64 t202_7 0 ?_
    refine guardM_st (fun hb_240 => ?_) (fun hb_240 => ?_)
    rotate_left
    ·have H := H.2 hb_240
     refine guardM_n' hb_240 (by decide) ?_
     refine guardM_n' hb_240 (by decide) ?_
     refine guardM_n' hb_240 (by decide) ?_
     refine guardM_n' hb_240 (by decide) ?_
     refine guardM_n' hb_240 (by decide) ?_
     refine guardM_n' hb_240 (by decide) ?_
     refine guardM_n' hb_240 (by decide) ?_
     refine guardM_n' hb_240 (by decide) ?_
     refine guardM_n' hb_240 (by decide) ?_
     refine guardM_n' hb_240 (by decide) ?_
     refine pop_pickf' hb_240 ?_
     refine condM_f ?_
     refine pop_len t206_7 _ _ sli27 ?_
     obtain ⟨J_65, ⟨n_105, h0_52⟩, HB_64⟩ := H
     refine loop_intro (J := fun (n : Nat) (vs : List Value) (h' : Heap) => ∃ t228_14 : Int, vs = [(VI t228_14)] ∧ J_65 n t228_14 h' ∧ Vars h' [(b_32, [(Sl.v t154_7)]), (b_1, [(Sl.v t61_1)])]) n_105 ⟨0, rfl, h0_52, hL_248⟩ ?_
     intro I_52 mu_52 hI_52 junk_64 tv_64 h_252 hi_118
     obtain ⟨n_102, ⟨t228_14, hv, hJ_64, hL_252⟩, hn_52⟩ := hI_52 _ _ hi_118
     cases hv
     have H := HB_64 n_102 t228_14 h_252 hJ_64 hL_252
     refine pop_lss .i64 t228_14 (t206_7.n : Int) ?_
     refine condM_b (fun hb_245 => ?_) (fun hb_245 => ?_)
     rotate_left
     ·have H := H.2 hb_245
      refine pop_add .i64 t202_7 1 ?_
      obtain ⟨m_66, hm_66, H⟩ := H
      exact hn_49 _ _ ⟨m_66, hm_66, (w64 (count25_7 + (t206_7.n : Int))), (w64 (t202_7 + 1)), rfl, H, hL_252⟩
     have H := H.1 hb_245
     obtain ⟨hi_119, H⟩ := H
     refine pop_index sli27 siz3 .i64 t206_7 t228_14 hi_119 ?_
     obtain ⟨t231_14, hc_67, H⟩ := H
     refine rop_one one3 (VI t231_14) hc_67 ?_
     refine pop_len t206_7 _ _ sli27 ?_
     obtain ⟨J_66, ⟨n_104, h0_51⟩, HB_63⟩ := H
     refine loop_intro (J := fun (n : Nat) (vs : List Value) (h' : Heap) => ∃ t234_14 : Int, vs = [(VI t234_14)] ∧ J_66 n t234_14 h' ∧ Vars h' [(b_32, [(Sl.v t154_7)]), (b_1, [(Sl.v t61_1)])]) n_104 ⟨0, rfl, h0_51, hL_252⟩ ?_
     intro I_51 mu_51 hI_51 junk_65 tv_63 h_253 hi_120
     obtain ⟨n_103, ⟨t234_14, hv, hJ_65, hL_253⟩, hn_53⟩ := hI_51 _ _ hi_120
     cases hv
     have H := HB_63 n_103 t234_14 h_253 hJ_65 hL_253
     refine pop_lss .i64 t234_14 (t206_7.n : Int) ?_
     refine condM_b (fun hb_246 => ?_) (fun hb_246 => ?_)
     rotate_left
     ·have H := H.2 hb_246
      refine pop_add .i64 t228_14 1 ?_
      obtain ⟨m_65, hm_65, H⟩ := H
      exact hn_52 _ _ ⟨m_65, hm_65, (w64 (t228_14 + 1)), rfl, H, hL_253⟩
     have H := H.1 hb_246
     obtain ⟨hi_121, H⟩ := H
     refine pop_index sli27 siz3 .i64 t206_7 t234_14 hi_121 ?_
     obtain ⟨t237_14, hc_66, H⟩ := H
     refine rop_one one3 (VI t237_14) hc_66 ?_
     refine rop_locA agg32 hL_253 0 rfl 0 (vs := [(Sl.v t154_7)]) rfl rfl ?_
     refine H.mono fun rv_125 h_254 H => ?_
     obtain ⟨t242_27, t242_28, rfl, hL_254, H⟩ := H
     refine pop_ext (v := (VI t242_27)) rfl ?_
     refine pop_ext (v := (VB t242_28)) rfl ?_
     refine pop_not t242_28 ?_
     refine condM_b (fun hb_247 => ?_) (fun hb_247 => ?_)
     ·have H := H.1 hb_247
      exact H
     have H := H.2 hb_247
     refine pop_add .i64 t234_14 1 ?_
     obtain ⟨m_64, hm_64, H⟩ := H
     exact hn_53 _ _ ⟨m_64, hm_64, (w64 (t234_14 + 1)), rfl, H, hL_254⟩
    have H := H.1 hb_240
    refine guardM_y' hb_240 ?_
    refine guardM_y' hb_240 ?_
    refine pop_sub .i64 t202_7 1 ?_
    refine guardM_y' hb_240 ?_
    obtain ⟨hi_111, H⟩ := H
    refine pop_index sli22 siz27 .i64 t157_13 (w64 (t202_7 - 1)) hi_111 ?_
    refine guardM_y' hb_240 ?_
    obtain ⟨t218_7, hc_65, H⟩ := H
    refine rop_one one27 (Sl.v t218_7) hc_65 ?_
    refine guardM_y' hb_240 ?_
    obtain ⟨hi_112, H⟩ := H
    refine pop_index sli27 siz3 .i64 t218_7 0 hi_112 ?_
    refine guardM_y' hb_240 ?_
    obtain ⟨t220_7, hc_64, H⟩ := H
    refine rop_one one3 (VI t220_7) hc_64 ?_
    refine guardM_y' hb_240 ?_
    refine guardM_y' hb_240 ?_
    obtain ⟨hi_113, H⟩ := H
    refine pop_index sli27 siz3 .i64 t206_7 0 hi_113 ?_
    refine guardM_y' hb_240 ?_
    obtain ⟨t223_7, hc_63, H⟩ := H
    refine rop_one one3 (VI t223_7) hc_63 ?_
    refine guardM_y' hb_240 ?_
    refine pop_geq .i64 t220_7 t223_7 ?_
    refine pop_pickt' hb_240 ?_
    refine condM_b (fun hb_241 => ?_) (fun hb_241 => ?_)
    ·have H := H.1 hb_241
     exact H
    have H := H.2 hb_241
    refine pop_len t206_7 _ _ sli27 ?_
    obtain ⟨J_63, ⟨n_101, h0_50⟩, HB_62⟩ := H
    refine loop_intro (J := fun (n : Nat) (vs : List Value) (h' : Heap) => ∃ t228_13 : Int, vs = [(VI t228_13)] ∧ J_63 n t228_13 h' ∧ Vars h' [(b_32, [(Sl.v t154_7)]), (b_1, [(Sl.v t61_1)])]) n_101 ⟨0, rfl, h0_50, hL_248⟩ ?_
    intro I_50 mu_50 hI_50 junk_62 tv_62 h_249 hi_114
    obtain ⟨n_98, ⟨t228_13, hv, hJ_62, hL_249⟩, hn_50⟩ := hI_50 _ _ hi_114
    cases hv
    have H := HB_62 n_98 t228_13 h_249 hJ_62 hL_249
    refine pop_lss .i64 t228_13 (t206_7.n : Int) ?_
    refine condM_b (fun hb_242 => ?_) (fun hb_242 => ?_)
    rotate_left
    ·have H := H.2 hb_242
     refine pop_add .i64 t202_7 1 ?_
     obtain ⟨m_63, hm_63, H⟩ := H
     exact hn_49 _ _ ⟨m_63, hm_63, (w64 (count25_7 + (t206_7.n : Int))), (w64 (t202_7 + 1)), rfl, H, hL_249⟩
    have H := H.1 hb_242
    obtain ⟨hi_115, H⟩ := H
    refine pop_index sli27 siz3 .i64 t206_7 t228_13 hi_115 ?_
    obtain ⟨t231_13, hc_62, H⟩ := H
    refine rop_one one3 (VI t231_13) hc_62 ?_
    refine pop_len t206_7 _ _ sli27 ?_
    obtain ⟨J_64, ⟨n_100, h0_49⟩, HB_61⟩ := H
    refine loop_intro (J := fun (n : Nat) (vs : List Value) (h' : Heap) => ∃ t234_13 : Int, vs = [(VI t234_13)] ∧ J_64 n t234_13 h' ∧ Vars h' [(b_32, [(Sl.v t154_7)]), (b_1, [(Sl.v t61_1)])]) n_100 ⟨0, rfl, h0_49, hL_249⟩ ?_
    intro I_49 mu_49 hI_49 junk_63 tv_61 h_250 hi_116
    obtain ⟨n_99, ⟨t234_13, hv, hJ_63, hL_250⟩, hn_51⟩ := hI_49 _ _ hi_116
    cases hv
    have H := HB_61 n_99 t234_13 h_250 hJ_63 hL_250
    refine pop_lss .i64 t234_13 (t206_7.n : Int) ?_
    refine condM_b (fun hb_243 => ?_) (fun hb_243 => ?_)
    rotate_left
    ·have H := H.2 hb_243
     refine pop_add .i64 t228_13 1 ?_
     obtain ⟨m_62, hm_62, H⟩ := H
     exact hn_50 _ _ ⟨m_62, hm_62, (w64 (t228_13 + 1)), rfl, H, hL_250⟩
    have H := H.1 hb_243
    obtain ⟨hi_117, H⟩ := H
    refine pop_index sli27 siz3 .i64 t206_7 t234_13 hi_117 ?_
    obtain ⟨t237_13, hc_61, H⟩ := H
    refine rop_one one3 (VI t237_13) hc_61 ?_
    refine rop_locA agg32 hL_250 0 rfl 0 (vs := [(Sl.v t154_7)]) rfl rfl ?_
    refine H.mono fun rv_124 h_251 H => ?_
    obtain ⟨t242_25, t242_26, rfl, hL_251, H⟩ := H
    refine pop_ext (v := (VI t242_25)) rfl ?_
    refine pop_ext (v := (VB t242_26)) rfl ?_
    refine pop_not t242_26 ?_
    refine condM_b (fun hb_244 => ?_) (fun hb_244 => ?_)
    ·have H := H.1 hb_244
     exact H
    have H := H.2 hb_244
    refine pop_add .i64 t234_13 1 ?_
    obtain ⟨m_61, hm_61, H⟩ := H
    exact hn_51 _ _ ⟨m_61, hm_61, (w64 (t234_13 + 1)), rfl, H, hL_251⟩
   intro junk_66  h_255
   rintro ⟨hv, hJ_66, hL_255⟩
   have H := HB_70  h_255 hJ_66 hL_255
   refine H.mono fun rv_126 h_256 H => ?_
   obtain ⟨t264_13, t264_14, rfl, hL_256, H⟩ := H
   refine pop_ext (v := (Value.agg #[(Sl.v t264_13)])) rfl ?_
   refine pop_ext (v := (Sl.v t264_14)) rfl ?_
   refine eop_alloc 32 zer32 rfl hL_256 (fun b_33 h_257 hb_250 hf_65 hL_257 => ?_)
   refine uop_loc siz32 hL_257 0 rfl 0 [(Sl.v t264_13)] rfl rfl rfl (Nat.le_of_ble_eq_true rfl) (L' := [(b_33, [(Sl.v t264_13)]), (b_32, [(Sl.v t154_7)]), (b_1, [(Sl.v t61_1)])]) rfl (fun h_258 hf_66 hL_258 => ?_)
   refine rop_locA agg32 hL_258 0 rfl 0 (vs := [(Sl.v t264_13)]) rfl rfl ?_
   have H := H b_33 h_258 (Nat.le_trans (Fr.size (Fr.r (In []) _)) hb_250) (Fr.new (Fr.no' (Fr.r (In []) _) hf_65) (Nat.le_trans (Fr.size (Fr.r (In []) _)) hb_250) hf_66) hL_258
   refine H.mono fun rv_127 h_259 H => ?_
   obtain ⟨t270_13, t270_14, rfl, hL_259, H⟩ := H
   refine pop_ext (v := (Value.agg #[(Sl.v t270_13)])) rfl ?_
   refine pop_ext (v := (VB t270_14)) rfl ?_
   refine eop_alloc 32 zer32 rfl hL_259 (fun b_34 h_260 hb_251 hf_67 hL_260 => ?_)
   refine uop_loc siz32 hL_260 0 rfl 0 [(Sl.v t270_13)] rfl rfl rfl (Nat.le_of_ble_eq_true rfl) (L' := [(b_34, [(Sl.v t270_13)]), (b_33, [(Sl.v t264_13)]), (b_32, [(Sl.v t154_7)]), (b_1, [(Sl.v t61_1)])]) rfl (fun h_261 hf_68 hL_261 => ?_)
   refine rop_locA agg32 hL_261 1 rfl 0 (vs := [(Sl.v t264_13)]) rfl rfl ?_
   have H := H b_34 h_261 (Nat.le_trans (Fr.size (Fr.r (In []) _)) hb_251) (Fr.new (Fr.no' (Fr.r (In []) _) hf_67) (Nat.le_trans (Fr.size (Fr.r (In []) _)) hb_251) hf_68) hL_261
   refine H.mono fun rv_128 h_262 H => ?_
   obtain ⟨t276_13, t276_14, rfl, hL_262, H⟩ := H
   refine pop_ext (v := (Value.agg #[(Sl.v t276_13)])) rfl ?_
   refine pop_ext (v := (VB t276_14)) rfl ?_
   refine eop_alloc 32 zer32 rfl hL_262 (fun b_35 h_263 hb_252 hf_69 hL_263 => ?_)
   refine uop_loc siz32 hL_263 0 rfl 0 [(Sl.v t276_13)] rfl rfl rfl (Nat.le_of_ble_eq_true rfl) (L' := [(b_35, [(Sl.v t276_13)]), (b_34, [(Sl.v t270_13)]), (b_33, [(Sl.v t264_13)]), (b_32, [(Sl.v t154_7)]), (b_1, [(Sl.v t61_1)])]) rfl (fun h_264 hf_70 hL_264 => ?_)
   refine pop_bne boo4 _ _ t270_14 t276_14 ?_
   refine guardM_sf (fun hb_253 => ?_) (fun hb_253 => ?_)
   rotate_left
   ·have H := H.1 hb_253
    refine guardM_n' hb_253 (by decide) ?_
    refine guardM_n' hb_253 (by decide) ?_
    refine guardM_n' hb_253 (by decide) ?_
    refine pop_pickt' hb_253 ?_
    refine condM_t ?_
    have H := H b_35 h_264 (Nat.le_trans (Fr.size (Fr.r (In []) _)) hb_252) (Fr.new (Fr.no' (Fr.r (In []) _) hf_69) (Nat.le_trans (Fr.size (Fr.r (In []) _)) hb_252) hf_70) hL_264
    exact H
   have H := H.2 hb_253
   refine rop_locA agg32 hL_264 1 rfl 0 (vs := [(Sl.v t270_13)]) rfl rfl ?_
   refine guardM_y' hb_253 ?_
   refine rop_locA agg32 hL_264 0 rfl 0 (vs := [(Sl.v t276_13)]) rfl rfl ?_
   refine guardM_y' hb_253 ?_
   have H := H b_35 h_264 (Nat.le_trans (Fr.size (Fr.r (In []) _)) hb_252) (Fr.new (Fr.no' (Fr.r (In []) _) hf_69) (Nat.le_trans (Fr.size (Fr.r (In []) _)) hb_252) hf_70) hL_264
   refine H.mono fun rv_129 h_265 H => ?_
   obtain ⟨t285_7, rfl, hL_265, H⟩ := H
   refine guardM_y' hb_253 ?_
   refine pop_not t285_7 ?_
   refine pop_pickf' hb_253 ?_
   refine condM_b (fun hb_254 => ?_) (fun hb_254 => ?_)
   ·have H := H.1 hb_254
    exact H
   have H := H.2 hb_254
   obtain ⟨J_67, H, HB_69⟩ := H
   refine ⟨fun (vs : List Value) (h' : Heap) => vs = [] ∧ J_67  h' ∧ Vars h' [(b_35, [(Sl.v t276_13)]), (b_34, [(Sl.v t270_13)]), (b_33, [(Sl.v t264_13)]), (b_32, [(Sl.v t154_7)]), (b_1, [(Sl.v t61_1)])], ?_, ?_⟩
   ·refine condM_b (fun hb_255 => ?_) (fun hb_255 => ?_)
    rotate_left
    ·have H := H.2 hb_255
     exact ⟨rfl, H, hL_265⟩
    have H := H.1 hb_255
    refine pop_field 0 fld32_0 b_33 0 ?_
    refine rop_loc one22 hL_265 2 rfl 0 (v := (Sl.v t264_13)) rfl ?_
    refine pop_len t264_13 _ _ sli22 ?_
    obtain ⟨J_68, ⟨n_110, h0_55⟩, HB_67⟩ := H
    refine loop_intro (J := fun (n : Nat) (vs : List Value) (h' : Heap) => ∃ t292_7 : Int, vs = [(VI t292_7)] ∧ J_68 n t292_7 h' ∧ Vars h' [(b_35, [(Sl.v t276_13)]), (b_34, [(Sl.v t270_13)]), (b_33, [(Sl.v t264_13)]), (b_32, [(Sl.v t154_7)]), (b_1, [(Sl.v t61_1)])]) n_110 ⟨0, rfl, h0_55, hL_265⟩ ?_
    intro I_55 mu_55 hI_55 junk_67 tv_68 h_266 hi_122
    obtain ⟨n_107, ⟨t292_7, hv, hJ_67, hL_266⟩, hn_54⟩ := hI_55 _ _ hi_122
    cases hv
    have H := HB_67 n_107 t292_7 h_266 hJ_67 hL_266
    refine pop_lss .i64 t292_7 (t264_13.n : Int) ?_
    refine condM_b (fun hb_256 => ?_) (fun hb_256 => ?_)
    rotate_left
    ·have H := H.2 hb_256
     exact ⟨rfl, H, hL_266⟩
    have H := H.1 hb_256
    refine pop_field 0 fld32_0 b_33 0 ?_
    refine rop_loc one22 hL_266 2 rfl 0 (v := (Sl.v t264_13)) rfl ?_
    refine pop_len t264_13 _ _ sli22 ?_
    obtain ⟨J_69, ⟨n_109, h0_54⟩, HB_66⟩ := H
    refine loop_intro (J := fun (n : Nat) (vs : List Value) (h' : Heap) => ∃ t298_7 : Int, vs = [(VI t298_7)] ∧ J_69 n t298_7 h' ∧ Vars h' [(b_35, [(Sl.v t276_13)]), (b_34, [(Sl.v t270_13)]), (b_33, [(Sl.v t264_13)]), (b_32, [(Sl.v t154_7)]), (b_1, [(Sl.v t61_1)])]) n_109 ⟨0, rfl, h0_54, hL_266⟩ ?_
    intro I_54 mu_54 hI_54 junk_68 tv_67 h_267 hi_123
    obtain ⟨n_108, ⟨t298_7, hv, hJ_68, hL_267⟩, hn_55⟩ := hI_54 _ _ hi_123
    cases hv
    have H := HB_66 n_108 t298_7 h_267 hJ_68 hL_267
    refine pop_lss .i64 t298_7 (t264_13.n : Int) ?_
    refine condM_b (fun hb_257 => ?_) (fun hb_257 => ?_)
    rotate_left
    ·have H := H.2 hb_257
     refine pop_add .i64 t292_7 1 ?_
     obtain ⟨m_68, hm_68, H⟩ := H
     exact hn_54 _ _ ⟨m_68, hm_68, (w64 (t292_7 + 1)), rfl, H, hL_267⟩
    have H := H.1 hb_257
    refine rop_locA agg32 hL_267 2 rfl 0 (vs := [(Sl.v t264_13)]) rfl rfl ?_
    refine H.mono fun rv_130 h_268 H => ?_
    obtain ⟨t305_13, t305_14, rfl, hL_268, H⟩ := H
    refine pop_ext (v := (VI t305_13)) rfl ?_
    refine pop_ext (v := (VB t305_14)) rfl ?_
    refine rop_locA agg32 hL_268 1 rfl 0 (vs := [(Sl.v t270_13)]) rfl rfl ?_
    obtain ⟨hi_124, H⟩ := H
    refine pop_index sli27 siz3 .i64 t264_14 t292_7 hi_124 ?_
    obtain ⟨t313_7, hc_70, H⟩ := H
    refine rop_one one3 (VI t313_7) hc_70 ?_
    obtain ⟨hi_125, H⟩ := H
    refine pop_index sli27 siz3 .i64 t264_14 t298_7 hi_125 ?_
    obtain ⟨t317_7, hc_69, H⟩ := H
    refine rop_one one3 (VI t317_7) hc_69 ?_
    refine H.mono fun rv_131 h_269 H => ?_
    obtain ⟨t318_13, t318_14, rfl, hL_269, H⟩ := H
    refine pop_ext (v := (VI t318_13)) rfl ?_
    refine pop_ext (v := (VB t318_14)) rfl ?_
    refine pop_bne boo4 _ _ t305_14 t318_14 ?_
    refine guardM_sf (fun hb_258 => ?_) (fun hb_258 => ?_)
    rotate_left
    ·have H := H.1 hb_258
     refine guardM_n' hb_258 (by decide) ?_
     refine guardM_n' hb_258 (by decide) ?_
     refine pop_pickt' hb_258 ?_
     refine condM_t ?_
     exact H
    have H := H.2 hb_258
    refine guardM_y' hb_258 ?_
    refine guardM_y' hb_258 ?_
    refine pop_ine .i64 _ _ t305_13 t318_13 ?_
    refine pop_pickf' hb_258 ?_
    refine condM_b (fun hb_259 => ?_) (fun hb_259 => ?_)
    ·have H := H.1 hb_259
     exact H
    have H := H.2 hb_259
    refine pop_add .i64 t298_7 1 ?_
    obtain ⟨m_67, hm_67, H⟩ := H
    exact hn_55 _ _ ⟨m_67, hm_67, (w64 (t298_7 + 1)), rfl, H, hL_269⟩
   intro junk_69  h_270
   rintro ⟨hv, hJ_69, hL_270⟩
   have H := HB_69  h_270 hJ_69 hL_270
   refine H.mono fun rv_132 h_271 H => ?_
   obtain ⟨t333_13, t333_14, rfl, hL_271, H⟩ := H
   refine pop_ext (v := (Value.agg #[(Sl.v t333_13)])) rfl ?_
   refine pop_ext (v := (VI t333_14)) rfl ?_
   refine eop_alloc 32 zer32 rfl hL_271 (fun b_36 h_272 hb_260 hf_71 hL_272 => ?_)
   refine uop_loc siz32 hL_272 0 rfl 0 [(Sl.v t333_13)] rfl rfl rfl (Nat.le_of_ble_eq_true rfl) (L' := [(b_36, [(Sl.v t333_13)]), (b_35, [(Sl.v t276_13)]), (b_34, [(Sl.v t270_13)]), (b_33, [(Sl.v t264_13)]), (b_32, [(Sl.v t154_7)]), (b_1, [(Sl.v t61_1)])]) rfl (fun h_273 hf_72 hL_273 => ?_)
   refine rop_locA agg32 hL_273 0 rfl 0 (vs := [(Sl.v t333_13)]) rfl rfl ?_
   have H := H b_36 h_273 (Nat.le_trans (Fr.size (Fr.r (In []) _)) hb_260) (Fr.new (Fr.no' (Fr.r (In []) _) hf_71) (Nat.le_trans (Fr.size (Fr.r (In []) _)) hb_260) hf_72) hL_273
   refine H.mono fun rv_133 h_274 H => ?_
   obtain ⟨t339_13, t339_14, rfl, hL_274, H⟩ := H
   refine pop_ext (v := (VB t339_13)) rfl ?_
   refine pop_ext (v := (VB t339_14)) rfl ?_
   refine rop_locA agg32 hL_274 0 rfl 0 (vs := [(Sl.v t333_13)]) rfl rfl ?_
   refine H.mono fun rv_134 h_275 H => ?_
   obtain ⟨t345_13, t345_14, rfl, hL_275, H⟩ := H
   refine pop_ext (v := (VB t345_13)) rfl ?_
   refine pop_ext (v := (VB t345_14)) rfl ?_
   refine pop_bne boo4 _ _ t339_14 t345_14 ?_
   refine guardM_sf (fun hb_261 => ?_) (fun hb_261 => ?_)
   rotate_left
   ·have H := H.1 hb_261
    refine guardM_n' hb_261 (by decide) ?_
    refine guardM_n' hb_261 (by decide) ?_
    refine pop_pickt' hb_261 ?_
    refine condM_t ?_
    exact H
   have H := H.2 hb_261
   refine guardM_y' hb_261 ?_
   refine guardM_y' hb_261 ?_
   refine pop_bne boo4 _ _ t339_13 t345_13 ?_
   refine pop_pickf' hb_261 ?_
   refine condM_b (fun hb_262 => ?_) (fun hb_262 => ?_)
   ·have H := H.1 hb_262
    exact H
   have H := H.2 hb_262
   refine condM_b (fun hb_263 => ?_) (fun hb_263 => ?_)
   rotate_left
   ·have H := H.2 hb_263
    exact H
   have H := H.1 hb_263
   refine pop_field 0 fld32_0 b_36 0 ?_
   refine rop_loc one22 hL_275 0 rfl 0 (v := (Sl.v t333_13)) rfl ?_
   refine pop_len t333_13 _ _ sli22 ?_
   obtain ⟨J_70, ⟨n_112, h0_56⟩, HB_68⟩ := H
   refine loop_intro (J := fun (n : Nat) (vs : List Value) (h' : Heap) => ∃ all52_7 : Bool, ∃ t360_7 : Int, vs = [(VB all52_7), (VI t360_7)] ∧ J_70 n all52_7 t360_7 h' ∧ Vars h' [(b_36, [(Sl.v t333_13)]), (b_35, [(Sl.v t276_13)]), (b_34, [(Sl.v t270_13)]), (b_33, [(Sl.v t264_13)]), (b_32, [(Sl.v t154_7)]), (b_1, [(Sl.v t61_1)])]) n_112 ⟨true, 0, rfl, h0_56, hL_275⟩ ?_
   intro I_56 mu_56 hI_56 junk_70 tv_69 tv_70 h_276 hi_126
   obtain ⟨n_111, ⟨all52_7, t360_7, hv, hJ_70, hL_276⟩, hn_56⟩ := hI_56 _ _ hi_126
   cases hv
   have H := HB_68 n_111 all52_7 t360_7 h_276 hJ_70 hL_276
   refine pop_lss .i64 t360_7 (t333_13.n : Int) ?_
   refine condM_b (fun hb_264 => ?_) (fun hb_264 => ?_)
   rotate_left
   ·have H := H.2 hb_264
    refine pop_beq boo4 _ _ all52_7 t339_13 ?_
    exact H
   have H := H.1 hb_264
   refine rop_locA agg32 hL_276 0 rfl 0 (vs := [(Sl.v t333_13)]) rfl rfl ?_
   refine H.mono fun rv_135 h_277 H => ?_
   obtain ⟨t367_13, t367_14, rfl, hL_277, H⟩ := H
   refine pop_ext (v := (VI t367_13)) rfl ?_
   refine pop_ext (v := (VB t367_14)) rfl ?_
   refine guardM_st (fun hb_265 => ?_) (fun hb_265 => ?_)
   ·have H := H.1 hb_265
    refine pop_pickt' hb_265 ?_
    refine pop_add .i64 t360_7 1 ?_
    obtain ⟨m_69, hm_69, H⟩ := H
    exact hn_56 _ _ ⟨m_69, hm_69, t367_14, (w64 (t360_7 + 1)), rfl, H, hL_277⟩
   have H := H.2 hb_265
   refine pop_pickf' hb_265 ?_
   refine pop_add .i64 t360_7 1 ?_
   obtain ⟨m_70, hm_70, H⟩ := H
   exact hn_56 _ _ ⟨m_70, hm_70, false, (w64 (t360_7 + 1)), rfl, H, hL_277⟩
  have H := H.1 hb_8
  refine guardM_y' hb_8 ?_
  refine pop_geq .i64 t61_3 0 ?_
  refine pop_pickt' hb_8 ?_
  refine guardM_st (fun hb_9 => ?_) (fun hb_9 => ?_)
  rotate_left
  ·have H := H.2 hb_9
   refine guardM_n' hb_9 (by decide) ?_
   refine guardM_n' hb_9 (by decide) ?_
   refine guardM_n' hb_9 (by decide) ?_
   refine guardM_n' hb_9 (by decide) ?_
   refine pop_pickf' hb_9 ?_
   refine guardM_n (by decide) ?_
   refine guardM_n (by decide) ?_
   refine guardM_n (by decide) ?_
   refine guardM_n (by decide) ?_
   refine guardM_n (by decide) ?_
   refine pop_pickf _ _ ?_
   refine condM_f ?_
   refine guardM_st (fun hb_156 => ?_) (fun hb_156 => ?_)
   rotate_left
   ·have H := H.2 hb_156
    refine guardM_n' hb_156 (by decide) ?_
    refine guardM_n' hb_156 (by decide) ?_
    refine guardM_n (by decide) ?_
    refine guardM_n (by decide) ?_
    refine guardM_n (by decide) ?_
    refine guardM_n (by decide) ?_
    refine guardM_n (by decide) ?_
    refine guardM_n' hb_156 (by decide) ?_
    refine guardM_n' hb_156 (by decide) ?_
    refine guardM_n (by decide) ?_
    refine guardM_n (by decide) ?_
    refine guardM_n (by decide) ?_
    refine guardM_n (by decide) ?_
    refine guardM_n (by decide) ?_
    refine guardM_n (by decide) ?_
    refine guardM_n' hb_156 (by decide) ?_
    refine pop_pickf' hb_156 ?_
    refine condM_f ?_
    refine H.mono fun rv_100 h_202 H => ?_
    obtain ⟨t154_6, rfl, hL_202, H⟩ := H
    refine eop_alloc 32 zer32 rfl hL_202 (fun b_27 h_203 hb_194 hf_53 hL_203 => ?_)
    refine uop_loc siz32 hL_203 0 rfl 0 [(Sl.v t154_6)] rfl rfl rfl (Nat.le_of_ble_eq_true rfl) (L' := [(b_27, [(Sl.v t154_6)]), (b_1, [(Sl.v t61_1)])]) rfl (fun h_204 hf_54 hL_204 => ?_)
    refine rop_locA agg32 hL_204 0 rfl 0 (vs := [(Sl.v t154_6)]) rfl rfl ?_
    have H := H b_27 h_204 (Nat.le_trans (Fr.size (Fr.r (In []) _)) hb_194) (Fr.new (Fr.no' (Fr.r (In []) _) hf_53) (Nat.le_trans (Fr.size (Fr.r (In []) _)) hb_194) hf_54) hL_204
    refine H.mono fun rv_101 h_205 H => ?_
    obtain ⟨t157_11, t157_12, rfl, hL_205, H⟩ := H
    refine pop_ext (v := (Sl.v t157_11)) rfl ?_
    refine pop_ext (v := (VB t157_12)) rfl ?_
    refine rop_locA agg32 hL_205 0 rfl 0 (vs := [(Sl.v t154_6)]) rfl rfl ?_
    refine H.mono fun rv_102 h_206 H => ?_
    obtain ⟨t162_11, t162_12, rfl, hL_206, H⟩ := H
    refine pop_ext (v := (Sl.v t162_11)) rfl ?_
    refine pop_ext (v := (VB t162_12)) rfl ?_
    refine rop_locA agg32 hL_206 0 rfl 0 (vs := [(Sl.v t154_6)]) rfl rfl ?_
    refine H.mono fun rv_103 h_207 H => ?_
    obtain ⟨t167_11, t167_12, rfl, hL_207, H⟩ := H
    refine pop_ext (v := (VB t167_11)) rfl ?_
    refine pop_ext (v := (VB t167_12)) rfl ?_
    refine rop_locA agg32 hL_207 0 rfl 0 (vs := [(Sl.v t154_6)]) rfl rfl ?_
    refine H.mono fun rv_104 h_208 H => ?_
    obtain ⟨t172_11, t172_12, rfl, hL_208, H⟩ := H
    refine pop_ext (v := (VB t172_11)) rfl ?_
    refine pop_ext (v := (VB t172_12)) rfl ?_
    refine pop_bne boo4 _ _ t157_12 t162_12 ?_
    refine guardM_sf (fun hb_195 => ?_) (fun hb_195 => ?_)
    rotate_left
    ·have H := H.1 hb_195
     refine guardM_n' hb_195 (by decide) ?_
     refine guardM_n' hb_195 (by decide) ?_
     refine guardM_n' hb_195 (by decide) ?_
     refine pop_pickt' hb_195 ?_
     refine guardM_n (by decide) ?_
     refine guardM_n (by decide) ?_
     refine guardM_n (by decide) ?_
     refine pop_pickt _ _ ?_
     refine guardM_n (by decide) ?_
     refine guardM_n (by decide) ?_
     refine guardM_n (by decide) ?_
     refine pop_pickt _ _ ?_
     refine guardM_n (by decide) ?_
     refine guardM_n (by decide) ?_
     refine guardM_n (by decide) ?_
     refine pop_pickt _ _ ?_
     refine condM_t ?_
     exact H
    have H := H.2 hb_195
    refine guardM_y' hb_195 ?_
    refine guardM_y' hb_195 ?_
    refine H.mono fun rv_105 h_209 H => ?_
    obtain ⟨t181_6, rfl, hL_209, H⟩ := H
    refine guardM_y' hb_195 ?_
    refine pop_not t181_6 ?_
    refine pop_pickf' hb_195 ?_
    refine guardM_sf (fun hb_196 => ?_) (fun hb_196 => ?_)
    rotate_left
    ·have H := H.1 hb_196
     refine guardM_n' hb_196 (by decide) ?_
     refine guardM_n' hb_196 (by decide) ?_
     refine pop_pickt' hb_196 ?_
     refine guardM_n (by decide) ?_
     refine guardM_n (by decide) ?_
     refine guardM_n (by decide) ?_
     refine pop_pickt _ _ ?_
     refine guardM_n (by decide) ?_
     refine guardM_n (by decide) ?_
     refine guardM_n (by decide) ?_
     refine pop_pickt _ _ ?_
     refine condM_t ?_
     exact H
    have H := H.2 hb_196
    refine guardM_y' hb_196 ?_
    refine guardM_y' hb_196 ?_
    refine pop_bne boo4 _ _ t167_12 t172_12 ?_
    refine pop_pickf' hb_196 ?_
    refine guardM_sf (fun hb_197 => ?_) (fun hb_197 => ?_)
    rotate_left
    ·have H := H.1 hb_197
     refine guardM_n' hb_197 (by decide) ?_
     refine guardM_n' hb_197 (by decide) ?_
     refine pop_pickt' hb_197 ?_
     refine guardM_n (by decide) ?_
     refine guardM_n (by decide) ?_
     refine guardM_n (by decide) ?_
     refine pop_pickt _ _ ?_
     refine condM_t ?_
     exact H
    have H := H.2 hb_197
    refine guardM_y' hb_197 ?_
    refine guardM_y' hb_197 ?_
    refine pop_bne boo4 _ _ t167_11 t172_11 ?_
    refine pop_pickf' hb_197 ?_
    refine guardM_sf (fun hb_198 => ?_) (fun hb_198 => ?_)
    rotate_left
    ·have H := H.1 hb_198
     refine guardM_n' hb_198 (by decide) ?_
     refine guardM_n' hb_198 (by decide) ?_
     refine pop_pickt' hb_198 ?_
     refine condM_t ?_
     exact H
    have H := H.2 hb_198
    refine guardM_y' hb_198 ?_
    refine guardM_y' hb_198 ?_
    refine pop_bne boo4 _ _ t167_12 t157_12 ?_
    refine pop_pickf' hb_198 ?_
    refine condM_b (fun hb_199 => ?_) (fun hb_199 => ?_)
    ·have H := H.1 hb_199
     exact H
    have H := H.2 hb_199
    obtain ⟨J_51, H, HB_60⟩ := H
    refine ⟨fun (vs : List Value) (h' : Heap) => vs = [] ∧ J_51  h' ∧ Vars h' [(b_27, [(Sl.v t154_6)]), (b_1, [(Sl.v t61_1)])], ?_, ?_⟩
    ·refine condM_b (fun hb_200 => ?_) (fun hb_200 => ?_)
     rotate_left
     ·have H := H.2 hb_200
      exact ⟨rfl, H, hL_209⟩
     have H := H.1 hb_200
     refine pop_len t157_11 _ _ sli22 ?_
     obtain ⟨J_52, ⟨n_90, h0_45⟩, HB_55⟩ := H
     refine loop_intro (J := fun (n : Nat) (vs : List Value) (h' : Heap) => ∃ count25_6 : Int, ∃ t202_6 : Int, vs = [(VI count25_6), (VI t202_6)] ∧ J_52 n count25_6 t202_6 h' ∧ Vars h' [(b_27, [(Sl.v t154_6)]), (b_1, [(Sl.v t61_1)])]) n_90 ⟨0, 0, rfl, h0_45, hL_209⟩ ?_
     intro I_45 mu_45 hI_45 junk_51 tv_55 tv_56 h_210 hi_91
     obtain ⟨n_81, ⟨count25_6, t202_6, hv, hJ_51, hL_210⟩, hn_41⟩ := hI_45 _ _ hi_91
     cases hv
     have H := HB_55 n_81 count25_6 t202_6 h_210 hJ_51 hL_210
     refine pop_lss .i64 t202_6 (t157_11.n : Int) ?_
     refine condM_b (fun hb_201 => ?_) (fun hb_201 => ?_)
     rotate_left
     ·have H := H.2 hb_201
      refine pop_field 0 fld32_0 b_27 0 ?_
      refine rop_loc one22 hL_210 0 rfl 0 (v := (Sl.v t154_6)) rfl ?_
      refine pop_len t154_6 _ _ sli22 ?_
      refine pop_ine .i64 _ _ count25_6 (t154_6.n : Int) ?_
      refine guardM_sf (fun hb_210 => ?_) (fun hb_210 => ?_)
      rotate_left
      ·have H := H.1 hb_210
       refine guardM_n' hb_210 (by decide) ?_
       refine guardM_n' hb_210 (by decide) ?_
       refine guardM_n' hb_210 (by decide) ?_
       refine guardM_n' hb_210 (by decide) ?_
       refine pop_pickt' hb_210 ?_
       refine condM_t ?_
       exact H
      have H := H.2 hb_210
      refine guardM_y' hb_210 ?_
      refine guardM_y' hb_210 ?_
      refine pop_len t157_11 _ _ sli22 ?_
      refine guardM_y' hb_210 ?_
      refine pop_ieq .i64 _ _ (t157_11.n : Int) 1 ?_
      refine guardM_y' hb_210 ?_
      refine pop_bne boo4 _ _ t167_11 (decide ((t157_11.n : Int) = 1)) ?_
      refine pop_pickf' hb_210 ?_
      refine condM_b (fun hb_211 => ?_) (fun hb_211 => ?_)
      ·have H := H.1 hb_211
       exact H
      have H := H.2 hb_211
      exact ⟨rfl, H, hL_210⟩
     have H := H.1 hb_201
     obtain ⟨hi_92, H⟩ := H
     refine pop_index sli22 siz27 .i64 t157_11 t202_6 hi_92 ?_
     obtain ⟨t206_6, hc_58, H⟩ := H
     refine rop_one one27 (Sl.v t206_6) hc_58 ?_
     refine pop_len t206_6 _ _ sli27 ?_
     refine pop_add .i64 count25_6 (t206_6.n : Int) ?_
     refine pop_gtr .i64 t202_6 0 ?_
     refine guardM_st (fun hb_202 => ?_) (fun hb_202 => ?_)
     rotate_left
     ·have H := H.2 hb_202
      refine guardM_n' hb_202 (by decide) ?_
      refine guardM_n' hb_202 (by decide) ?_
      refine guardM_n' hb_202 (by decide) ?_
      refine guardM_n' hb_202 (by decide) ?_
      refine guardM_n' hb_202 (by decide) ?_
      refine guardM_n' hb_202 (by decide) ?_
      refine guardM_n' hb_202 (by decide) ?_
      refine guardM_n' hb_202 (by decide) ?_
      refine guardM_n' hb_202 (by decide) ?_
      refine guardM_n' hb_202 (by decide) ?_
      refine pop_pickf' hb_202 ?_
      refine condM_f ?_
      refine pop_len t206_6 _ _ sli27 ?_
      obtain ⟨J_55, ⟨n_89, h0_44⟩, HB_54⟩ := H
      refine loop_intro (J := fun (n : Nat) (vs : List Value) (h' : Heap) => ∃ t228_12 : Int, vs = [(VI t228_12)] ∧ J_55 n t228_12 h' ∧ Vars h' [(b_27, [(Sl.v t154_6)]), (b_1, [(Sl.v t61_1)])]) n_89 ⟨0, rfl, h0_44, hL_210⟩ ?_
      intro I_44 mu_44 hI_44 junk_54 tv_54 h_214 hi_100
      obtain ⟨n_86, ⟨t228_12, hv, hJ_54, hL_214⟩, hn_44⟩ := hI_44 _ _ hi_100
      cases hv
      have H := HB_54 n_86 t228_12 h_214 hJ_54 hL_214
      refine pop_lss .i64 t228_12 (t206_6.n : Int) ?_
      refine condM_b (fun hb_207 => ?_) (fun hb_207 => ?_)
      rotate_left
      ·have H := H.2 hb_207
       refine pop_add .i64 t202_6 1 ?_
       obtain ⟨m_56, hm_56, H⟩ := H
       exact hn_41 _ _ ⟨m_56, hm_56, (w64 (count25_6 + (t206_6.n : Int))), (w64 (t202_6 + 1)), rfl, H, hL_214⟩
      have H := H.1 hb_207
      obtain ⟨hi_101, H⟩ := H
      refine pop_index sli27 siz3 .i64 t206_6 t228_12 hi_101 ?_
      obtain ⟨t231_12, hc_57, H⟩ := H
      refine rop_one one3 (VI t231_12) hc_57 ?_
      refine pop_len t206_6 _ _ sli27 ?_
      obtain ⟨J_56, ⟨n_88, h0_43⟩, HB_53⟩ := H
      refine loop_intro (J := fun (n : Nat) (vs : List Value) (h' : Heap) => ∃ t234_12 : Int, vs = [(VI t234_12)] ∧ J_56 n t234_12 h' ∧ Vars h' [(b_27, [(Sl.v t154_6)]), (b_1, [(Sl.v t61_1)])]) n_88 ⟨0, rfl, h0_43, hL_214⟩ ?_
      intro I_43 mu_43 hI_43 junk_55 tv_53 h_215 hi_102
      obtain ⟨n_87, ⟨t234_12, hv, hJ_55, hL_215⟩, hn_45⟩ := hI_43 _ _ hi_102
      cases hv
      have H := HB_53 n_87 t234_12 h_215 hJ_55 hL_215
      refine pop_lss .i64 t234_12 (t206_6.n : Int) ?_
      refine condM_b (fun hb_208 => ?_) (fun hb_208 => ?_)
      rotate_left
      ·have H := H.2 hb_208
       refine pop_add .i64 t228_12 1 ?_
       obtain ⟨m_55, hm_55, H⟩ := H
       exact hn_44 _ _ ⟨m_55, hm_55, (w64 (t228_12 + 1)), rfl, H, hL_215⟩
      have H := H.1 hb_208
      obtain ⟨hi_103, H⟩ := H
      refine pop_index sli27 siz3 .i64 t206_6 t234_12 hi_103 ?_
      obtain ⟨t237_12, hc_56, H⟩ := H
      refine rop_one one3 (VI t237_12) hc_56 ?_
      refine rop_locA agg32 hL_215 0 rfl 0 (vs := [(Sl.v t154_6)]) rfl rfl ?_
      refine H.mono fun rv_107 h_216 H => ?_
      obtain ⟨t242_23, t242_24, rfl, hL_216, H⟩ := H
      refine pop_ext (v := (VI t242_23)) rfl ?_
      refine pop_ext (v := (VB t242_24)) rfl ?_
      refine pop_not t242_24 ?_
      refine condM_b (fun hb_209 => ?_) (fun hb_209 => ?_)
      ·have H := H.1 hb_209
       exact H
      have H := H.2 hb_209
      refine pop_add .i64 t234_12 1 ?_
      obtain ⟨m_54, hm_54, H⟩ := H
      exact hn_45 _ _ ⟨m_54, hm_54, (w64 (t234_12 + 1)), rfl, H, hL_216⟩
     have H := H.1 hb_202
     refine guardM_y' hb_202 ?_
     refine guardM_y' hb_202 ?_
     refine pop_sub .i64 t202_6 1 ?_
     refine guardM_y' hb_202 ?_
     obtain ⟨hi_93, H⟩ := H
     refine pop_index sli22 siz27 .i64 t157_11 (w64 (t202_6 - 1)) hi_93 ?_
     refine guardM_y' hb_202 ?_
     obtain ⟨t218_6, hc_55, H⟩ := H
     refine rop_one one27 (Sl.v t218_6) hc_55 ?_
     refine guardM_y' hb_202 ?_
     obtain ⟨hi_94, H⟩ := H
     refine pop_index sli27 siz3 .i64 t218_6 0 hi_94 ?_
     refine guardM_y' hb_202 ?_
     obtain ⟨t220_6, hc_54, H⟩ := H
     refine rop_one one3 (VI t220_6) hc_54 ?_
     refine guardM_y' hb_202 ?_
     refine guardM_y' hb_202 ?_
     obtain ⟨hi_95, H⟩ := H
     refine pop_index sli27 siz3 .i64 t206_6 0 hi_95 ?_
     refine guardM_y' hb_202 ?_
     obtain ⟨t223_6, hc_53, H⟩ := H
     refine rop_one one3 (VI t223_6) hc_53 ?_
     refine guardM_y' hb_202 ?_
     refine pop_geq .i64 t220_6 t223_6 ?_
     refine pop_pickt' hb_202 ?_
     refine condM_b (fun hb_203 => ?_) (fun hb_203 => ?_)
     ·have H := H.1 hb_203
      exact H
     have H := H.2 hb_203
     refine pop_len t206_6 _ _ sli27 ?_
     obtain ⟨J_53, ⟨n_85, h0_42⟩, HB_52⟩ := H
     refine loop_intro (J := fun (n : Nat) (vs : List Value) (h' : Heap) => ∃ t228_11 : Int, vs = [(VI t228_11)] ∧ J_53 n t228_11 h' ∧ Vars h' [(b_27, [(Sl.v t154_6)]), (b_1, [(Sl.v t61_1)])]) n_85 ⟨0, rfl, h0_42, hL_210⟩ ?_
     intro I_42 mu_42 hI_42 junk_52 tv_52 h_211 hi_96
     obtain ⟨n_82, ⟨t228_11, hv, hJ_52, hL_211⟩, hn_42⟩ := hI_42 _ _ hi_96
     cases hv
     have H := HB_52 n_82 t228_11 h_211 hJ_52 hL_211
     refine pop_lss .i64 t228_11 (t206_6.n : Int) ?_
     refine condM_b (fun hb_204 => ?_) (fun hb_204 => ?_)
     rotate_left
     ·have H := H.2 hb_204
      refine pop_add .i64 t202_6 1 ?_
      obtain ⟨m_53, hm_53, H⟩ := H
      exact hn_41 _ _ ⟨m_53, hm_53, (w64 (count25_6 + (t206_6.n : Int))), (w64 (t202_6 + 1)), rfl, H, hL_211⟩
     have H := H.1 hb_204
     obtain ⟨hi_97, H⟩ := H
     refine pop_index sli27 siz3 .i64 t206_6 t228_11 hi_97 ?_
     obtain ⟨t231_11, hc_52, H⟩ := H
     refine rop_one one3 (VI t231_11) hc_52 ?_
     refine pop_len t206_6 _ _ sli27 ?_
     obtain ⟨J_54, ⟨n_84, h0_41⟩, HB_51⟩ := H
     refine loop_intro (J := fun (n : Nat) (vs : List Value) (h' : Heap) => ∃ t234_11 : Int, vs = [(VI t234_11)] ∧ J_54 n t234_11 h' ∧ Vars h' [(b_27, [(Sl.v t154_6)]), (b_1, [(Sl.v t61_1)])]) n_84 ⟨0, rfl, h0_41, hL_211⟩ ?_
     intro I_41 mu_41 hI_41 junk_53 tv_51 h_212 hi_98
     obtain ⟨n_83, ⟨t234_11, hv, hJ_53, hL_212⟩, hn_43⟩ := hI_41 _ _ hi_98
     cases hv
     have H := HB_51 n_83 t234_11 h_212 hJ_53 hL_212
     refine pop_lss .i64 t234_11 (t206_6.n : Int) ?_
     refine condM_b (fun hb_205 => ?_) (fun hb_205 => ?_)
     rotate_left
     ·have H := H.2 hb_205
      refine pop_add .i64 t228_11 1 ?_
      obtain ⟨m_52, hm_52, H⟩ := H
      exact hn_42 _ _ ⟨m_52, hm_52, (w64 (t228_11 + 1)), rfl, H, hL_212⟩
     have H := H.1 hb_205
     obtain ⟨hi_99, H⟩ := H
     refine pop_index sli27 siz3 .i64 t206_6 t234_11 hi_99 ?_
     obtain ⟨t237_11, hc_51, H⟩ := H
     refine rop_one one3 (VI t237_11) hc_51 ?_
     refine rop_locA agg32 hL_212 0 rfl 0 (vs := [(Sl.v t154_6)]) rfl rfl ?_
     refine H.mono fun rv_106 h_213 H => ?_
     obtain ⟨t242_21, t242_22, rfl, hL_213, H⟩ := H
     refine pop_ext (v := (VI t242_21)) rfl ?_
     refine pop_ext (v := (VB t242_22)) rfl ?_
     refine pop_not t242_22 ?_
     refine condM_b (fun hb_206 => ?_) (fun hb_206 => ?_)
     ·have H := H.1 hb_206
      exact H
     have H := H.2 hb_206
     refine pop_add .i64 t234_11 1 ?_
     obtain ⟨m_51, hm_51, H⟩ := H
     exact hn_43 _ _ ⟨m_51, hm_51, (w64 (t234_11 + 1)), rfl, H, hL_213⟩
    intro junk_56  h_217
    rintro ⟨hv, hJ_56, hL_217⟩
    have H := HB_60  h_217 hJ_56 hL_217
    refine H.mono fun rv_108 h_218 H => ?_
    obtain ⟨t264_11, t264_12, rfl, hL_218, H⟩ := H
    refine pop_ext (v := (Value.agg #[(Sl.v t264_11)])) rfl ?_
    refine pop_ext (v := (Sl.v t264_12)) rfl ?_
    refine eop_alloc 32 zer32 rfl hL_218 (fun b_28 h_219 hb_212 hf_55 hL_219 => ?_)
    refine uop_loc siz32 hL_219 0 rfl 0 [(Sl.v t264_11)] rfl rfl rfl (Nat.le_of_ble_eq_true rfl) (L' := [(b_28, [(Sl.v t264_11)]), (b_27, [(Sl.v t154_6)]), (b_1, [(Sl.v t61_1)])]) rfl (fun h_220 hf_56 hL_220 => ?_)
    refine rop_locA agg32 hL_220 0 rfl 0 (vs := [(Sl.v t264_11)]) rfl rfl ?_
    have H := H b_28 h_220 (Nat.le_trans (Fr.size (Fr.r (In []) _)) hb_212) (Fr.new (Fr.no' (Fr.r (In []) _) hf_55) (Nat.le_trans (Fr.size (Fr.r (In []) _)) hb_212) hf_56) hL_220
    refine H.mono fun rv_109 h_221 H => ?_
    obtain ⟨t270_11, t270_12, rfl, hL_221, H⟩ := H
    refine pop_ext (v := (Value.agg #[(Sl.v t270_11)])) rfl ?_
    refine pop_ext (v := (VB t270_12)) rfl ?_
    refine eop_alloc 32 zer32 rfl hL_221 (fun b_29 h_222 hb_213 hf_57 hL_222 => ?_)
    refine uop_loc siz32 hL_222 0 rfl 0 [(Sl.v t270_11)] rfl rfl rfl (Nat.le_of_ble_eq_true rfl) (L' := [(b_29, [(Sl.v t270_11)]), (b_28, [(Sl.v t264_11)]), (b_27, [(Sl.v t154_6)]), (b_1, [(Sl.v t61_1)])]) rfl (fun h_223 hf_58 hL_223 => ?_)
    refine rop_locA agg32 hL_223 1 rfl 0 (vs := [(Sl.v t264_11)]) rfl rfl ?_
    have H := H b_29 h_223 (Nat.le_trans (Fr.size (Fr.r (In []) _)) hb_213) (Fr.new (Fr.no' (Fr.r (In []) _) hf_57) (Nat.le_trans (Fr.size (Fr.r (In []) _)) hb_213) hf_58) hL_223
    refine H.mono fun rv_110 h_224 H => ?_
    obtain ⟨t276_11, t276_12, rfl, hL_224, H⟩ := H
    refine pop_ext (v := (Value.agg #[(Sl.v t276_11)])) rfl ?_
    refine pop_ext (v := (VB t276_12)) rfl ?_
    refine eop_alloc 32 zer32 rfl hL_224 (fun b_30 h_225 hb_214 hf_59 hL_225 => ?_)
    refine uop_loc siz32 hL_225 0 rfl 0 [(Sl.v t276_11)] rfl rfl rfl (Nat.le_of_ble_eq_true rfl) (L' := [(b_30, [(Sl.v t276_11)]), (b_29, [(Sl.v t270_11)]), (b_28, [(Sl.v t264_11)]), (b_27, [(Sl.v t154_6)]), (b_1, [(Sl.v t61_1)])]) rfl (fun h_226 hf_60 hL_226 => ?_)
    refine pop_bne boo4 _ _ t270_12 t276_12 ?_
    refine guardM_sf (fun hb_215 => ?_) (fun hb_215 => ?_)
    rotate_left
    ·have H := H.1 hb_215
     refine guardM_n' hb_215 (by decide) ?_
     refine guardM_n' hb_215 (by decide) ?_
     refine guardM_n' hb_215 (by decide) ?_
     refine pop_pickt' hb_215 ?_
     refine condM_t ?_
     have H := H b_30 h_226 (Nat.le_trans (Fr.size (Fr.r (In []) _)) hb_214) (Fr.new (Fr.no' (Fr.r (In []) _) hf_59) (Nat.le_trans (Fr.size (Fr.r (In []) _)) hb_214) hf_60) hL_226
     exact H
    have H := H.2 hb_215
    refine rop_locA agg32 hL_226 1 rfl 0 (vs := [(Sl.v t270_11)]) rfl rfl ?_
    refine guardM_y' hb_215 ?_
    refine rop_locA agg32 hL_226 0 rfl 0 (vs := [(Sl.v t276_11)]) rfl rfl ?_
    refine guardM_y' hb_215 ?_
    have H := H b_30 h_226 (Nat.le_trans (Fr.size (Fr.r (In []) _)) hb_214) (Fr.new (Fr.no' (Fr.r (In []) _) hf_59) (Nat.le_trans (Fr.size (Fr.r (In []) _)) hb_214) hf_60) hL_226
    refine H.mono fun rv_111 h_227 H => ?_
    obtain ⟨t285_6, rfl, hL_227, H⟩ := H
    refine guardM_y' hb_215 ?_
    refine pop_not t285_6 ?_
    refine pop_pickf' hb_215 ?_
    refine condM_b (fun hb_216 => ?_) (fun hb_216 => ?_)
    ·have H := H.1 hb_216
     exact H
    have H := H.2 hb_216
    obtain ⟨J_57, H, HB_59⟩ := H
    refine ⟨fun (vs : List Value) (h' : Heap) => vs = [] ∧ J_57  h' ∧ Vars h' [(b_30, [(Sl.v t276_11)]), (b_29, [(Sl.v t270_11)]), (b_28, [(Sl.v t264_11)]), (b_27, [(Sl.v t154_6)]), (b_1, [(Sl.v t61_1)])], ?_, ?_⟩
    ·refine condM_b (fun hb_217 => ?_) (fun hb_217 => ?_)
     rotate_left
     ·have H := H.2 hb_217
      exact ⟨rfl, H, hL_227⟩
     have H := H.1 hb_217
     refine pop_field 0 fld32_0 b_28 0 ?_
     refine rop_loc one22 hL_227 2 rfl 0 (v := (Sl.v t264_11)) rfl ?_
     refine pop_len t264_11 _ _ sli22 ?_
     obtain ⟨J_58, ⟨n_94, h0_47⟩, HB_57⟩ := H
     refine loop_intro (J := fun (n : Nat) (vs : List Value) (h' : Heap) => ∃ t292_6 : Int, vs = [(VI t292_6)] ∧ J_58 n t292_6 h' ∧ Vars h' [(b_30, [(Sl.v t276_11)]), (b_29, [(Sl.v t270_11)]), (b_28, [(Sl.v t264_11)]), (b_27, [(Sl.v t154_6)]), (b_1, [(Sl.v t61_1)])]) n_94 ⟨0, rfl, h0_47, hL_227⟩ ?_
     intro I_47 mu_47 hI_47 junk_57 tv_58 h_228 hi_104
     obtain ⟨n_91, ⟨t292_6, hv, hJ_57, hL_228⟩, hn_46⟩ := hI_47 _ _ hi_104
     cases hv
     have H := HB_57 n_91 t292_6 h_228 hJ_57 hL_228
     refine pop_lss .i64 t292_6 (t264_11.n : Int) ?_
     refine condM_b (fun hb_218 => ?_) (fun hb_218 => ?_)
     rotate_left
     ·have H := H.2 hb_218
      exact ⟨rfl, H, hL_228⟩
     have H := H.1 hb_218
     refine pop_field 0 fld32_0 b_28 0 ?_
     refine rop_loc one22 hL_228 2 rfl 0 (v := (Sl.v t264_11)) rfl ?_
     refine pop_len t264_11 _ _ sli22 ?_
     obtain ⟨J_59, ⟨n_93, h0_46⟩, HB_56⟩ := H
     refine loop_intro (J := fun (n : Nat) (vs : List Value) (h' : Heap) => ∃ t298_6 : Int, vs = [(VI t298_6)] ∧ J_59 n t298_6 h' ∧ Vars h' [(b_30, [(Sl.v t276_11)]), (b_29, [(Sl.v t270_11)]), (b_28, [(Sl.v t264_11)]), (b_27, [(Sl.v t154_6)]), (b_1, [(Sl.v t61_1)])]) n_93 ⟨0, rfl, h0_46, hL_228⟩ ?_
     intro I_46 mu_46 hI_46 junk_58 tv_57 h_229 hi_105
     obtain ⟨n_92, ⟨t298_6, hv, hJ_58, hL_229⟩, hn_47⟩ := hI_46 _ _ hi_105
     cases hv
     have H := HB_56 n_92 t298_6 h_229 hJ_58 hL_229
     refine pop_lss .i64 t298_6 (t264_11.n : Int) ?_
     refine condM_b (fun hb_219 => ?_) (fun hb_219 => ?_)
     rotate_left
     ·have H := H.2 hb_219
      refine pop_add .i64 t292_6 1 ?_
      obtain ⟨m_58, hm_58, H⟩ := H
      exact hn_46 _ _ ⟨m_58, hm_58, (w64 (t292_6 + 1)), rfl, H, hL_229⟩
     have H := H.1 hb_219
     refine rop_locA agg32 hL_229 2 rfl 0 (vs := [(Sl.v t264_11)]) rfl rfl ?_
     refine H.mono fun rv_112 h_230 H => ?_
     obtain ⟨t305_11, t305_12, rfl, hL_230, H⟩ := H
     refine pop_ext (v := (VI t305_11)) rfl ?_
     refine pop_ext (v := (VB t305_12)) rfl ?_
     refine rop_locA agg32 hL_230 1 rfl 0 (vs := [(Sl.v t270_11)]) rfl rfl ?_
     obtain ⟨hi_106, H⟩ := H
     refine pop_index sli27 siz3 .i64 t264_12 t292_6 hi_106 ?_
     obtain ⟨t313_6, hc_60, H⟩ := H
     refine rop_one one3 (VI t313_6) hc_60 ?_
     obtain ⟨hi_107, H⟩ := H
     refine pop_index sli27 siz3 .i64 t264_12 t298_6 hi_107 ?_
     obtain ⟨t317_6, hc_59, H⟩ := H
     refine rop_one one3 (VI t317_6) hc_59 ?_
     refine H.mono fun rv_113 h_231 H => ?_
     obtain ⟨t318_11, t318_12, rfl, hL_231, H⟩ := H
     refine pop_ext (v := (VI t318_11)) rfl ?_
     refine pop_ext (v := (VB t318_12)) rfl ?_
     refine pop_bne boo4 _ _ t305_12 t318_12 ?_
     refine guardM_sf (fun hb_220 => ?_) (fun hb_220 => ?_)
     rotate_left
     ·have H := H.1 hb_220
      refine guardM_n' hb_220 (by decide) ?_
      refine guardM_n' hb_220 (by decide) ?_
      refine pop_pickt' hb_220 ?_
      refine condM_t ?_
      exact H
     have H := H.2 hb_220
     refine guardM_y' hb_220 ?_
     refine guardM_y' hb_220 ?_
     refine pop_ine .i64 _ _ t305_11 t318_11 ?_
     refine pop_pickf' hb_220 ?_
     refine condM_b (fun hb_221 => ?_) (fun hb_221 => ?_)
     ·have H := H.1 hb_221
      exact H
     have H := H.2 hb_221
     refine pop_add .i64 t298_6 1 ?_
     obtain ⟨m_57, hm_57, H⟩ := H
     exact hn_47 _ _ ⟨m_57, hm_57, (w64 (t298_6 + 1)), rfl, H, hL_231⟩
    intro junk_59  h_232
    rintro ⟨hv, hJ_59, hL_232⟩
    have H := HB_59  h_232 hJ_59 hL_232
    refine H.mono fun rv_114 h_233 H => ?_
    obtain ⟨t333_11, t333_12, rfl, hL_233, H⟩ := H
    refine pop_ext (v := (Value.agg #[(Sl.v t333_11)])) rfl ?_
    refine pop_ext (v := (VI t333_12)) rfl ?_
    refine eop_alloc 32 zer32 rfl hL_233 (fun b_31 h_234 hb_222 hf_61 hL_234 => ?_)
    refine uop_loc siz32 hL_234 0 rfl 0 [(Sl.v t333_11)] rfl rfl rfl (Nat.le_of_ble_eq_true rfl) (L' := [(b_31, [(Sl.v t333_11)]), (b_30, [(Sl.v t276_11)]), (b_29, [(Sl.v t270_11)]), (b_28, [(Sl.v t264_11)]), (b_27, [(Sl.v t154_6)]), (b_1, [(Sl.v t61_1)])]) rfl (fun h_235 hf_62 hL_235 => ?_)
    refine rop_locA agg32 hL_235 0 rfl 0 (vs := [(Sl.v t333_11)]) rfl rfl ?_
    have H := H b_31 h_235 (Nat.le_trans (Fr.size (Fr.r (In []) _)) hb_222) (Fr.new (Fr.no' (Fr.r (In []) _) hf_61) (Nat.le_trans (Fr.size (Fr.r (In []) _)) hb_222) hf_62) hL_235
    refine H.mono fun rv_115 h_236 H => ?_
    obtain ⟨t339_11, t339_12, rfl, hL_236, H⟩ := H
    refine pop_ext (v := (VB t339_11)) rfl ?_
    refine pop_ext (v := (VB t339_12)) rfl ?_
    refine rop_locA agg32 hL_236 0 rfl 0 (vs := [(Sl.v t333_11)]) rfl rfl ?_
    refine H.mono fun rv_116 h_237 H => ?_
    obtain ⟨t345_11, t345_12, rfl, hL_237, H⟩ := H
    refine pop_ext (v := (VB t345_11)) rfl ?_
    refine pop_ext (v := (VB t345_12)) rfl ?_
    refine pop_bne boo4 _ _ t339_12 t345_12 ?_
    refine guardM_sf (fun hb_223 => ?_) (fun hb_223 => ?_)
    rotate_left
    ·have H := H.1 hb_223
     refine guardM_n' hb_223 (by decide) ?_
     refine guardM_n' hb_223 (by decide) ?_
     refine pop_pickt' hb_223 ?_
     refine condM_t ?_
     exact H
    have H := H.2 hb_223
    refine guardM_y' hb_223 ?_
    refine guardM_y' hb_223 ?_
    refine pop_bne boo4 _ _ t339_11 t345_11 ?_
    refine pop_pickf' hb_223 ?_
    refine condM_b (fun hb_224 => ?_) (fun hb_224 => ?_)
    ·have H := H.1 hb_224
     exact H
    have H := H.2 hb_224
    refine condM_b (fun hb_225 => ?_) (fun hb_225 => ?_)
    rotate_left
    ·have H := H.2 hb_225
     exact H
    have H := H.1 hb_225
    refine pop_field 0 fld32_0 b_31 0 ?_
    refine rop_loc one22 hL_237 0 rfl 0 (v := (Sl.v t333_11)) rfl ?_
    refine pop_len t333_11 _ _ sli22 ?_
    obtain ⟨J_60, ⟨n_96, h0_48⟩, HB_58⟩ := H
    refine loop_intro (J := fun (n : Nat) (vs : List Value) (h' : Heap) => ∃ all52_6 : Bool, ∃ t360_6 : Int, vs = [(VB all52_6), (VI t360_6)] ∧ J_60 n all52_6 t360_6 h' ∧ Vars h' [(b_31, [(Sl.v t333_11)]), (b_30, [(Sl.v t276_11)]), (b_29, [(Sl.v t270_11)]), (b_28, [(Sl.v t264_11)]), (b_27, [(Sl.v t154_6)]), (b_1, [(Sl.v t61_1)])]) n_96 ⟨true, 0, rfl, h0_48, hL_237⟩ ?_
    intro I_48 mu_48 hI_48 junk_60 tv_59 tv_60 h_238 hi_108
    obtain ⟨n_95, ⟨all52_6, t360_6, hv, hJ_60, hL_238⟩, hn_48⟩ := hI_48 _ _ hi_108
    cases hv
    have H := HB_58 n_95 all52_6 t360_6 h_238 hJ_60 hL_238
    refine pop_lss .i64 t360_6 (t333_11.n : Int) ?_
    refine condM_b (fun hb_226 => ?_) (fun hb_226 => ?_)
    rotate_left
    ·have H := H.2 hb_226
     refine pop_beq boo4 _ _ all52_6 t339_11 ?_
     exact H
    have H := H.1 hb_226
    refine rop_locA agg32 hL_238 0 rfl 0 (vs := [(Sl.v t333_11)]) rfl rfl ?_
    refine H.mono fun rv_117 h_239 H => ?_
    obtain ⟨t367_11, t367_12, rfl, hL_239, H⟩ := H
    refine pop_ext (v := (VI t367_11)) rfl ?_
    refine pop_ext (v := (VB t367_12)) rfl ?_
    refine guardM_st (fun hb_227 => ?_) (fun hb_227 => ?_)
    ·have H := H.1 hb_227
     refine pop_pickt' hb_227 ?_
     refine pop_add .i64 t360_6 1 ?_
     obtain ⟨m_59, hm_59, H⟩ := H
     exact hn_48 _ _ ⟨m_59, hm_59, t367_12, (w64 (t360_6 + 1)), rfl, H, hL_239⟩
    have H := H.2 hb_227
    refine pop_pickf' hb_227 ?_
    refine pop_add .i64 t360_6 1 ?_
    obtain ⟨m_60, hm_60, H⟩ := H
    exact hn_48 _ _ ⟨m_60, hm_60, false, (w64 (t360_6 + 1)), rfl, H, hL_239⟩
   have H := H.1 hb_156
   refine guardM_y' hb_156 ?_
   refine pop_lss .i64 t69_1 0 ?_
   refine guardM_y' hb_156 ?_
   refine guardM_sf (fun hb_157 => ?_) (fun hb_157 => ?_)
   rotate_left
   ·have H := H.1 hb_157
    refine guardM_n' hb_157 (by decide) ?_
    refine guardM_n' hb_157 (by decide) ?_
    refine guardM_n' hb_157 (by decide) ?_
    refine guardM_n' hb_157 (by decide) ?_
    refine guardM_y' hb_156 ?_
    refine pop_pickt' hb_157 ?_
    refine guardM_y' hb_156 ?_
    refine guardM_n (by decide) ?_
    refine guardM_n (by decide) ?_
    refine guardM_n (by decide) ?_
    refine guardM_n (by decide) ?_
    refine guardM_n (by decide) ?_
    refine guardM_n (by decide) ?_
    refine guardM_y' hb_156 ?_
    refine pop_pickt _ _ ?_
    refine pop_pickt' hb_156 ?_
    refine condM_t ?_
    exact H
   have H := H.2 hb_157
   refine guardM_y' hb_157 ?_
   refine pop_field 0 fld32_0 b_1 0 ?_
   refine guardM_y' hb_157 ?_
   refine rop_loc one22 hL_10 0 rfl 0 (v := (Sl.v t61_1)) rfl ?_
   refine guardM_y' hb_157 ?_
   refine pop_len t61_1 _ _ sli22 ?_
   refine guardM_y' hb_157 ?_
   refine pop_geq .i64 t69_1 (t61_1.n : Int) ?_
   refine guardM_y' hb_156 ?_
   refine pop_pickf' hb_157 ?_
   refine guardM_y' hb_156 ?_
   refine guardM_sf (fun hb_158 => ?_) (fun hb_158 => ?_)
   rotate_left
   ·have H := H.1 hb_158
    refine guardM_n' hb_158 (by decide) ?_
    refine guardM_n' hb_158 (by decide) ?_
    refine guardM_n' hb_158 (by decide) ?_
    refine guardM_n' hb_158 (by decide) ?_
    refine guardM_n' hb_158 (by decide) ?_
    refine guardM_y' hb_156 ?_
    refine pop_pickt' hb_158 ?_
    refine pop_pickt' hb_156 ?_
    refine condM_t ?_
    exact H
   have H := H.2 hb_158
   refine guardM_y' hb_158 ?_
   refine pop_ieq .i64 _ _ t69_1 0 ?_
   refine guardM_y' hb_158 ?_
   refine guardM_y' hb_158 ?_
   refine guardM_y' hb_158 ?_
   refine pop_ieq .i64 _ _ t61_2 t61_3 ?_
   refine guardM_y' hb_158 ?_
   refine pop_bne boo4 _ _ (decide (t69_1 = 0)) (decide (t61_2 = t61_3)) ?_
   refine guardM_y' hb_156 ?_
   refine pop_pickf' hb_158 ?_
   refine pop_pickt' hb_156 ?_
   refine condM_b (fun hb_159 => ?_) (fun hb_159 => ?_)
   ·have H := H.1 hb_159
    exact H
   have H := H.2 hb_159
   refine H.mono fun rv_82 h_164 H => ?_
   obtain ⟨t154_5, rfl, hL_164, H⟩ := H
   refine eop_alloc 32 zer32 rfl hL_164 (fun b_22 h_165 hb_160 hf_43 hL_165 => ?_)
   refine uop_loc siz32 hL_165 0 rfl 0 [(Sl.v t154_5)] rfl rfl rfl (Nat.le_of_ble_eq_true rfl) (L' := [(b_22, [(Sl.v t154_5)]), (b_1, [(Sl.v t61_1)])]) rfl (fun h_166 hf_44 hL_166 => ?_)
   refine rop_locA agg32 hL_166 0 rfl 0 (vs := [(Sl.v t154_5)]) rfl rfl ?_
   have H := H b_22 h_166 (Nat.le_trans (Fr.size (Fr.r (In []) _)) hb_160) (Fr.new (Fr.no' (Fr.r (In []) _) hf_43) (Nat.le_trans (Fr.size (Fr.r (In []) _)) hb_160) hf_44) hL_166
   refine H.mono fun rv_83 h_167 H => ?_
   obtain ⟨t157_9, t157_10, rfl, hL_167, H⟩ := H
   refine pop_ext (v := (Sl.v t157_9)) rfl ?_
   refine pop_ext (v := (VB t157_10)) rfl ?_
   refine rop_locA agg32 hL_167 0 rfl 0 (vs := [(Sl.v t154_5)]) rfl rfl ?_
   refine H.mono fun rv_84 h_168 H => ?_
   obtain ⟨t162_9, t162_10, rfl, hL_168, H⟩ := H
   refine pop_ext (v := (Sl.v t162_9)) rfl ?_
   refine pop_ext (v := (VB t162_10)) rfl ?_
   refine rop_locA agg32 hL_168 0 rfl 0 (vs := [(Sl.v t154_5)]) rfl rfl ?_
   refine H.mono fun rv_85 h_169 H => ?_
   obtain ⟨t167_9, t167_10, rfl, hL_169, H⟩ := H
   refine pop_ext (v := (VB t167_9)) rfl ?_
   refine pop_ext (v := (VB t167_10)) rfl ?_
   refine rop_locA agg32 hL_169 0 rfl 0 (vs := [(Sl.v t154_5)]) rfl rfl ?_
   refine H.mono fun rv_86 h_170 H => ?_
   obtain ⟨t172_9, t172_10, rfl, hL_170, H⟩ := H
   refine pop_ext (v := (VB t172_9)) rfl ?_
   refine pop_ext (v := (VB t172_10)) rfl ?_
   refine pop_bne boo4 _ _ t157_10 t162_10 ?_
   refine guardM_sf (fun hb_161 => ?_) (fun hb_161 => ?_)
   rotate_left
   ·have H := H.1 hb_161
    refine guardM_n' hb_161 (by decide) ?_
    refine guardM_n' hb_161 (by decide) ?_
    refine guardM_n' hb_161 (by decide) ?_
    refine pop_pickt' hb_161 ?_
    refine guardM_n (by decide) ?_
    refine guardM_n (by decide) ?_
    refine guardM_n (by decide) ?_
    refine pop_pickt _ _ ?_
    refine guardM_n (by decide) ?_
    refine guardM_n (by decide) ?_
    refine guardM_n (by decide) ?_
    refine pop_pickt _ _ ?_
    refine guardM_n (by decide) ?_
    refine guardM_n (by decide) ?_
    refine guardM_n (by decide) ?_
    refine pop_pickt _ _ ?_
    refine condM_t ?_
    exact H
   have H := H.2 hb_161
   refine guardM_y' hb_161 ?_
   refine guardM_y' hb_161 ?_
   refine H.mono fun rv_87 h_171 H => ?_
   obtain ⟨t181_5, rfl, hL_171, H⟩ := H
   refine guardM_y' hb_161 ?_
   refine pop_not t181_5 ?_
   refine pop_pickf' hb_161 ?_
   refine guardM_sf (fun hb_162 => ?_) (fun hb_162 => ?_)
   rotate_left
   ·have H := H.1 hb_162
    refine guardM_n' hb_162 (by decide) ?_
    refine guardM_n' hb_162 (by decide) ?_
    refine pop_pickt' hb_162 ?_
    refine guardM_n (by decide) ?_
    refine guardM_n (by decide) ?_
    refine guardM_n (by decide) ?_
    refine pop_pickt _ _ ?_
    refine guardM_n (by decide) ?_
    refine guardM_n (by decide) ?_
    refine guardM_n (by decide) ?_
    refine pop_pickt _ _ ?_
    refine condM_t ?_
    exact H
   have H := H.2 hb_162
   refine guardM_y' hb_162 ?_
   refine guardM_y' hb_162 ?_
   refine pop_bne boo4 _ _ t167_10 t172_10 ?_
   refine pop_pickf' hb_162 ?_
   refine guardM_sf (fun hb_163 => ?_) (fun hb_163 => ?_)
   rotate_left
   ·have H := H.1 hb_163
    refine guardM_n' hb_163 (by decide) ?_
    refine guardM_n' hb_163 (by decide) ?_
    refine pop_pickt' hb_163 ?_
    refine guardM_n (by decide) ?_
    refine guardM_n (by decide) ?_
    refine guardM_n (by decide) ?_
    refine pop_pickt _ _ ?_
    refine condM_t ?_
    exact H
   have H := H.2 hb_163
   refine guardM_y' hb_163 ?_
   refine guardM_y' hb_163 ?_
   refine pop_bne boo4 _ _ t167_9 t172_9 ?_
   refine pop_pickf' hb_163 ?_
   refine guardM_sf (fun hb_164 => ?_) (fun hb_164 => ?_)
   rotate_left
   ·have H := H.1 hb_164
    refine guardM_n' hb_164 (by decide) ?_
    refine guardM_n' hb_164 (by decide) ?_
    refine pop_pickt' hb_164 ?_
    refine condM_t ?_
    exact H
   have H := H.2 hb_164
   refine guardM_y' hb_164 ?_
   refine guardM_y' hb_164 ?_
   refine pop_bne boo4 _ _ t167_10 t157_10 ?_
   refine pop_pickf' hb_164 ?_
   refine condM_b (fun hb_165 => ?_) (fun hb_165 => ?_)
   ·have H := H.1 hb_165
    exact H
   have H := H.2 hb_165
   obtain ⟨J_41, H, HB_50⟩ := H
   refine ⟨fun (vs : List Value) (h' : Heap) => vs = [] ∧ J_41  h' ∧ Vars h' [(b_22, [(Sl.v t154_5)]), (b_1, [(Sl.v t61_1)])], ?_, ?_⟩
   ·refine condM_b (fun hb_166 => ?_) (fun hb_166 => ?_)
    rotate_left
    ·have H := H.2 hb_166
     exact ⟨rfl, H, hL_171⟩
    have H := H.1 hb_166
    refine pop_len t157_9 _ _ sli22 ?_
    obtain ⟨J_42, ⟨n_74, h0_37⟩, HB_45⟩ := H
    refine loop_intro (J := fun (n : Nat) (vs : List Value) (h' : Heap) => ∃ count25_5 : Int, ∃ t202_5 : Int, vs = [(VI count25_5), (VI t202_5)] ∧ J_42 n count25_5 t202_5 h' ∧ Vars h' [(b_22, [(Sl.v t154_5)]), (b_1, [(Sl.v t61_1)])]) n_74 ⟨0, 0, rfl, h0_37, hL_171⟩ ?_
    intro I_37 mu_37 hI_37 junk_41 tv_45 tv_46 h_172 hi_73
    obtain ⟨n_65, ⟨count25_5, t202_5, hv, hJ_41, hL_172⟩, hn_33⟩ := hI_37 _ _ hi_73
    cases hv
    have H := HB_45 n_65 count25_5 t202_5 h_172 hJ_41 hL_172
    refine pop_lss .i64 t202_5 (t157_9.n : Int) ?_
    refine condM_b (fun hb_167 => ?_) (fun hb_167 => ?_)
    rotate_left
    ·have H := H.2 hb_167
     refine pop_field 0 fld32_0 b_22 0 ?_
     refine rop_loc one22 hL_172 0 rfl 0 (v := (Sl.v t154_5)) rfl ?_
     refine pop_len t154_5 _ _ sli22 ?_
     refine pop_ine .i64 _ _ count25_5 (t154_5.n : Int) ?_
     refine guardM_sf (fun hb_176 => ?_) (fun hb_176 => ?_)
     rotate_left
     ·have H := H.1 hb_176
      refine guardM_n' hb_176 (by decide) ?_
      refine guardM_n' hb_176 (by decide) ?_
      refine guardM_n' hb_176 (by decide) ?_
      refine guardM_n' hb_176 (by decide) ?_
      refine pop_pickt' hb_176 ?_
      refine condM_t ?_
      exact H
     have H := H.2 hb_176
     refine guardM_y' hb_176 ?_
     refine guardM_y' hb_176 ?_
     refine pop_len t157_9 _ _ sli22 ?_
     refine guardM_y' hb_176 ?_
     refine pop_ieq .i64 _ _ (t157_9.n : Int) 1 ?_
     refine guardM_y' hb_176 ?_
     refine pop_bne boo4 _ _ t167_9 (decide ((t157_9.n : Int) = 1)) ?_
     refine pop_pickf' hb_176 ?_
     refine condM_b (fun hb_177 => ?_) (fun hb_177 => ?_)
     ·have H := H.1 hb_177
      exact H
     have H := H.2 hb_177
     exact ⟨rfl, H, hL_172⟩
    have H := H.1 hb_167
    obtain ⟨hi_74, H⟩ := H
    refine pop_index sli22 siz27 .i64 t157_9 t202_5 hi_74 ?_
    obtain ⟨t206_5, hc_48, H⟩ := H
    refine rop_one one27 (Sl.v t206_5) hc_48 ?_
    refine pop_len t206_5 _ _ sli27 ?_
    refine pop_add .i64 count25_5 (t206_5.n : Int) ?_
    refine pop_gtr .i64 t202_5 0 ?_
    refine guardM_st (fun hb_168 => ?_) (fun hb_168 => ?_)
    rotate_left
    ·have H := H.2 hb_168
     refine guardM_n' hb_168 (by decide) ?_
     refine guardM_n' hb_168 (by decide) ?_
     refine guardM_n' hb_168 (by decide) ?_
     refine guardM_n' hb_168 (by decide) ?_
     refine guardM_n' hb_168 (by decide) ?_
     refine guardM_n' hb_168 (by decide) ?_
     refine guardM_n' hb_168 (by decide) ?_
     refine guardM_n' hb_168 (by decide) ?_
     refine guardM_n' hb_168 (by decide) ?_
     refine guardM_n' hb_168 (by decide) ?_
     refine pop_pickf' hb_168 ?_
     refine condM_f ?_
     refine pop_len t206_5 _ _ sli27 ?_
     obtain ⟨J_45, ⟨n_73, h0_36⟩, HB_44⟩ := H
     refine loop_intro (J := fun (n : Nat) (vs : List Value) (h' : Heap) => ∃ t228_10 : Int, vs = [(VI t228_10)] ∧ J_45 n t228_10 h' ∧ Vars h' [(b_22, [(Sl.v t154_5)]), (b_1, [(Sl.v t61_1)])]) n_73 ⟨0, rfl, h0_36, hL_172⟩ ?_
     intro I_36 mu_36 hI_36 junk_44 tv_44 h_176 hi_82
     obtain ⟨n_70, ⟨t228_10, hv, hJ_44, hL_176⟩, hn_36⟩ := hI_36 _ _ hi_82
     cases hv
     have H := HB_44 n_70 t228_10 h_176 hJ_44 hL_176
     refine pop_lss .i64 t228_10 (t206_5.n : Int) ?_
     refine condM_b (fun hb_173 => ?_) (fun hb_173 => ?_)
     rotate_left
     ·have H := H.2 hb_173
      refine pop_add .i64 t202_5 1 ?_
      obtain ⟨m_46, hm_46, H⟩ := H
      exact hn_33 _ _ ⟨m_46, hm_46, (w64 (count25_5 + (t206_5.n : Int))), (w64 (t202_5 + 1)), rfl, H, hL_176⟩
     have H := H.1 hb_173
     obtain ⟨hi_83, H⟩ := H
     refine pop_index sli27 siz3 .i64 t206_5 t228_10 hi_83 ?_
     obtain ⟨t231_10, hc_47, H⟩ := H
     refine rop_one one3 (VI t231_10) hc_47 ?_
     refine pop_len t206_5 _ _ sli27 ?_
     obtain ⟨J_46, ⟨n_72, h0_35⟩, HB_43⟩ := H
     refine loop_intro (J := fun (n : Nat) (vs : List Value) (h' : Heap) => ∃ t234_10 : Int, vs = [(VI t234_10)] ∧ J_46 n t234_10 h' ∧ Vars h' [(b_22, [(Sl.v t154_5)]), (b_1, [(Sl.v t61_1)])]) n_72 ⟨0, rfl, h0_35, hL_176⟩ ?_
     intro I_35 mu_35 hI_35 junk_45 tv_43 h_177 hi_84
     obtain ⟨n_71, ⟨t234_10, hv, hJ_45, hL_177⟩, hn_37⟩ := hI_35 _ _ hi_84
     cases hv
     have H := HB_43 n_71 t234_10 h_177 hJ_45 hL_177
     refine pop_lss .i64 t234_10 (t206_5.n : Int) ?_
     refine condM_b (fun hb_174 => ?_) (fun hb_174 => ?_)
     rotate_left
     ·have H := H.2 hb_174
      refine pop_add .i64 t228_10 1 ?_
      obtain ⟨m_45, hm_45, H⟩ := H
      exact hn_36 _ _ ⟨m_45, hm_45, (w64 (t228_10 + 1)), rfl, H, hL_177⟩
     have H := H.1 hb_174
     obtain ⟨hi_85, H⟩ := H
     refine pop_index sli27 siz3 .i64 t206_5 t234_10 hi_85 ?_
     obtain ⟨t237_10, hc_46, H⟩ := H
     refine rop_one one3 (VI t237_10) hc_46 ?_
     refine rop_locA agg32 hL_177 0 rfl 0 (vs := [(Sl.v t154_5)]) rfl rfl ?_
     refine H.mono fun rv_89 h_178 H => ?_
     obtain ⟨t242_19, t242_20, rfl, hL_178, H⟩ := H
     refine pop_ext (v := (VI t242_19)) rfl ?_
     refine pop_ext (v := (VB t242_20)) rfl ?_
     refine pop_not t242_20 ?_
     refine condM_b (fun hb_175 => ?_) (fun hb_175 => ?_)
     ·have H := H.1 hb_175
      exact H
     have H := H.2 hb_175
     refine pop_add .i64 t234_10 1 ?_
     obtain ⟨m_44, hm_44, H⟩ := H
     exact hn_37 _ _ ⟨m_44, hm_44, (w64 (t234_10 + 1)), rfl, H, hL_178⟩
    have H := H.1 hb_168
    refine guardM_y' hb_168 ?_
    refine guardM_y' hb_168 ?_
    refine pop_sub .i64 t202_5 1 ?_
    refine guardM_y' hb_168 ?_
    obtain ⟨hi_75, H⟩ := H
    refine pop_index sli22 siz27 .i64 t157_9 (w64 (t202_5 - 1)) hi_75 ?_
    refine guardM_y' hb_168 ?_
    obtain ⟨t218_5, hc_45, H⟩ := H
    refine rop_one one27 (Sl.v t218_5) hc_45 ?_
    refine guardM_y' hb_168 ?_
    obtain ⟨hi_76, H⟩ := H
    refine pop_index sli27 siz3 .i64 t218_5 0 hi_76 ?_
    refine guardM_y' hb_168 ?_
    obtain ⟨t220_5, hc_44, H⟩ := H
    refine rop_one one3 (VI t220_5) hc_44 ?_
    refine guardM_y' hb_168 ?_
    refine guardM_y' hb_168 ?_
    obtain ⟨hi_77, H⟩ := H
    refine pop_index sli27 siz3 .i64 t206_5 0 hi_77 ?_
    refine guardM_y' hb_168 ?_
    obtain ⟨t223_5, hc_43, H⟩ := H
    refine rop_one one3 (VI t223_5) hc_43 ?_
    refine guardM_y' hb_168 ?_
    refine pop_geq .i64 t220_5 t223_5 ?_
    refine pop_pickt' hb_168 ?_
    refine condM_b (fun hb_169 => ?_) (fun hb_169 => ?_)
    ·have H := H.1 hb_169
     exact H
    have H := H.2 hb_169
    refine pop_len t206_5 _ _ sli27 ?_
    obtain ⟨J_43, ⟨n_69, h0_34⟩, HB_42⟩ := H
    refine loop_intro (J := fun (n : Nat) (vs : List Value) (h' : Heap) => ∃ t228_9 : Int, vs = [(VI t228_9)] ∧ J_43 n t228_9 h' ∧ Vars h' [(b_22, [(Sl.v t154_5)]), (b_1, [(Sl.v t61_1)])]) n_69 ⟨0, rfl, h0_34, hL_172⟩ ?_
    intro I_34 mu_34 hI_34 junk_42 tv_42 h_173 hi_78
    obtain ⟨n_66, ⟨t228_9, hv, hJ_42, hL_173⟩, hn_34⟩ := hI_34 _ _ hi_78
    cases hv
    have H := HB_42 n_66 t228_9 h_173 hJ_42 hL_173
    refine pop_lss .i64 t228_9 (t206_5.n : Int) ?_
    refine condM_b (fun hb_170 => ?_) (fun hb_170 => ?_)
    rotate_left
    ·have H := H.2 hb_170
     refine pop_add .i64 t202_5 1 ?_
     obtain ⟨m_43, hm_43, H⟩ := H
     exact hn_33 _ _ ⟨m_43, hm_43, (w64 (count25_5 + (t206_5.n : Int))), (w64 (t202_5 + 1)), rfl, H, hL_173⟩
    have H := H.1 hb_170
    obtain ⟨hi_79, H⟩ := H
    refine pop_index sli27 siz3 .i64 t206_5 t228_9 hi_79 ?_
    obtain ⟨t231_9, hc_42, H⟩ := H
    refine rop_one one3 (VI t231_9) hc_42 ?_
    refine pop_len t206_5 _ _ sli27 ?_
    obtain ⟨J_44, ⟨n_68, h0_33⟩, HB_41⟩ := H
    refine loop_intro (J := fun (n : Nat) (vs : List Value) (h' : Heap) => ∃ t234_9 : Int, vs = [(VI t234_9)] ∧ J_44 n t234_9 h' ∧ Vars h' [(b_22, [(Sl.v t154_5)]), (b_1, [(Sl.v t61_1)])]) n_68 ⟨0, rfl, h0_33, hL_173⟩ ?_
    intro I_33 mu_33 hI_33 junk_43 tv_41 h_174 hi_80
    obtain ⟨n_67, ⟨t234_9, hv, hJ_43, hL_174⟩, hn_35⟩ := hI_33 _ _ hi_80
    cases hv
    have H := HB_41 n_67 t234_9 h_174 hJ_43 hL_174
    refine pop_lss .i64 t234_9 (t206_5.n : Int) ?_
    refine condM_b (fun hb_171 => ?_) (fun hb_171 => ?_)
    rotate_left
    ·have H := H.2 hb_171
     refine pop_add .i64 t228_9 1 ?_
     obtain ⟨m_42, hm_42, H⟩ := H
     exact hn_34 _ _ ⟨m_42, hm_42, (w64 (t228_9 + 1)), rfl, H, hL_174⟩
    have H := H.1 hb_171
    obtain ⟨hi_81, H⟩ := H
    refine pop_index sli27 siz3 .i64 t206_5 t234_9 hi_81 ?_
    obtain ⟨t237_9, hc_41, H⟩ := H
    refine rop_one one3 (VI t237_9) hc_41 ?_
    refine rop_locA agg32 hL_174 0 rfl 0 (vs := [(Sl.v t154_5)]) rfl rfl ?_
    refine H.mono fun rv_88 h_175 H => ?_
    obtain ⟨t242_17, t242_18, rfl, hL_175, H⟩ := H
    refine pop_ext (v := (VI t242_17)) rfl ?_
    refine pop_ext (v := (VB t242_18)) rfl ?_
    refine pop_not t242_18 ?_
    refine condM_b (fun hb_172 => ?_) (fun hb_172 => ?_)
    ·have H := H.1 hb_172
     exact H
    have H := H.2 hb_172
    refine pop_add .i64 t234_9 1 ?_
    obtain ⟨m_41, hm_41, H⟩ := H
    exact hn_35 _ _ ⟨m_41, hm_41, (w64 (t234_9 + 1)), rfl, H, hL_175⟩
   intro junk_46  h_179
   rintro ⟨hv, hJ_46, hL_179⟩
   have H := HB_50  h_179 hJ_46 hL_179
   refine H.mono fun rv_90 h_180 H => ?_
   obtain ⟨t264_9, t264_10, rfl, hL_180, H⟩ := H
   refine pop_ext (v := (Value.agg #[(Sl.v t264_9)])) rfl ?_
   refine pop_ext (v := (Sl.v t264_10)) rfl ?_
   refine eop_alloc 32 zer32 rfl hL_180 (fun b_23 h_181 hb_178 hf_45 hL_181 => ?_)
   refine uop_loc siz32 hL_181 0 rfl 0 [(Sl.v t264_9)] rfl rfl rfl (Nat.le_of_ble_eq_true rfl) (L' := [(b_23, [(Sl.v t264_9)]), (b_22, [(Sl.v t154_5)]), (b_1, [(Sl.v t61_1)])]) rfl (fun h_182 hf_46 hL_182 => ?_)
   refine rop_locA agg32 hL_182 0 rfl 0 (vs := [(Sl.v t264_9)]) rfl rfl ?_
   have H := H b_23 h_182 (Nat.le_trans (Fr.size (Fr.r (In []) _)) hb_178) (Fr.new (Fr.no' (Fr.r (In []) _) hf_45) (Nat.le_trans (Fr.size (Fr.r (In []) _)) hb_178) hf_46) hL_182
   refine H.mono fun rv_91 h_183 H => ?_
   obtain ⟨t270_9, t270_10, rfl, hL_183, H⟩ := H
   refine pop_ext (v := (Value.agg #[(Sl.v t270_9)])) rfl ?_
   refine pop_ext (v := (VB t270_10)) rfl ?_
   refine eop_alloc 32 zer32 rfl hL_183 (fun b_24 h_184 hb_179 hf_47 hL_184 => ?_)
   refine uop_loc siz32 hL_184 0 rfl 0 [(Sl.v t270_9)] rfl rfl rfl (Nat.le_of_ble_eq_true rfl) (L' := [(b_24, [(Sl.v t270_9)]), (b_23, [(Sl.v t264_9)]), (b_22, [(Sl.v t154_5)]), (b_1, [(Sl.v t61_1)])]) rfl (fun h_185 hf_48 hL_185 => ?_)
   refine rop_locA agg32 hL_185 1 rfl 0 (vs := [(Sl.v t264_9)]) rfl rfl ?_
   have H := H b_24 h_185 (Nat.le_trans (Fr.size (Fr.r (In []) _)) hb_179) (Fr.new (Fr.no' (Fr.r (In []) _) hf_47) (Nat.le_trans (Fr.size (Fr.r (In []) _)) hb_179) hf_48) hL_185
   refine H.mono fun rv_92 h_186 H => ?_
   obtain ⟨t276_9, t276_10, rfl, hL_186, H⟩ := H
   refine pop_ext (v := (Value.agg #[(Sl.v t276_9)])) rfl ?_
   refine pop_ext (v := (VB t276_10)) rfl ?_
   refine eop_alloc 32 zer32 rfl hL_186 (fun b_25 h_187 hb_180 hf_49 hL_187 => ?_)
   refine uop_loc siz32 hL_187 0 rfl 0 [(Sl.v t276_9)] rfl rfl rfl (Nat.le_of_ble_eq_true rfl) (L' := [(b_25, [(Sl.v t276_9)]), (b_24, [(Sl.v t270_9)]), (b_23, [(Sl.v t264_9)]), (b_22, [(Sl.v t154_5)]), (b_1, [(Sl.v t61_1)])]) rfl (fun h_188 hf_50 hL_188 => ?_)
   refine pop_bne boo4 _ _ t270_10 t276_10 ?_
   refine guardM_sf (fun hb_181 => ?_) (fun hb_181 => ?_)
   rotate_left
   ·have H := H.1 hb_181
    refine guardM_n' hb_181 (by decide) ?_
    refine guardM_n' hb_181 (by decide) ?_
    refine guardM_n' hb_181 (by decide) ?_
    refine pop_pickt' hb_181 ?_
    refine condM_t ?_
    have H := H b_25 h_188 (Nat.le_trans (Fr.size (Fr.r (In []) _)) hb_180) (Fr.new (Fr.no' (Fr.r (In []) _) hf_49) (Nat.le_trans (Fr.size (Fr.r (In []) _)) hb_180) hf_50) hL_188
    exact H
   have H := H.2 hb_181
   refine rop_locA agg32 hL_188 1 rfl 0 (vs := [(Sl.v t270_9)]) rfl rfl ?_
   refine guardM_y' hb_181 ?_
   refine rop_locA agg32 hL_188 0 rfl 0 (vs := [(Sl.v t276_9)]) rfl rfl ?_
   refine guardM_y' hb_181 ?_
   have H := H b_25 h_188 (Nat.le_trans (Fr.size (Fr.r (In []) _)) hb_180) (Fr.new (Fr.no' (Fr.r (In []) _) hf_49) (Nat.le_trans (Fr.size (Fr.r (In []) _)) hb_180) hf_50) hL_188
   refine H.mono fun rv_93 h_189 H => ?_
   obtain ⟨t285_5, rfl, hL_189, H⟩ := H
   refine guardM_y' hb_181 ?_
   refine pop_not t285_5 ?_
   refine pop_pickf' hb_181 ?_
   refine condM_b (fun hb_182 => ?_) (fun hb_182 => ?_)
   ·have H := H.1 hb_182
    exact H
   have H := H.2 hb_182
   obtain ⟨J_47, H, HB_49⟩ := H
   refine ⟨fun (vs : List Value) (h' : Heap) => vs = [] ∧ J_47  h' ∧ Vars h' [(b_25, [(Sl.v t276_9)]), (b_24, [(Sl.v t270_9)]), (b_23, [(Sl.v t264_9)]), (b_22, [(Sl.v t154_5)]), (b_1, [(Sl.v t61_1)])], ?_, ?_⟩
   ·refine condM_b (fun hb_183 => ?_) (fun hb_183 => ?_)
    rotate_left
    ·have H := H.2 hb_183
     exact ⟨rfl, H, hL_189⟩
    have H := H.1 hb_183
    refine pop_field 0 fld32_0 b_23 0 ?_
    refine rop_loc one22 hL_189 2 rfl 0 (v := (Sl.v t264_9)) rfl ?_
    refine pop_len t264_9 _ _ sli22 ?_
    obtain ⟨J_48, ⟨n_78, h0_39⟩, HB_47⟩ := H
    refine loop_intro (J := fun (n : Nat) (vs : List Value) (h' : Heap) => ∃ t292_5 : Int, vs = [(VI t292_5)] ∧ J_48 n t292_5 h' ∧ Vars h' [(b_25, [(Sl.v t276_9)]), (b_24, [(Sl.v t270_9)]), (b_23, [(Sl.v t264_9)]), (b_22, [(Sl.v t154_5)]), (b_1, [(Sl.v t61_1)])]) n_78 ⟨0, rfl, h0_39, hL_189⟩ ?_
    intro I_39 mu_39 hI_39 junk_47 tv_48 h_190 hi_86
    obtain ⟨n_75, ⟨t292_5, hv, hJ_47, hL_190⟩, hn_38⟩ := hI_39 _ _ hi_86
    cases hv
    have H := HB_47 n_75 t292_5 h_190 hJ_47 hL_190
    refine pop_lss .i64 t292_5 (t264_9.n : Int) ?_
    refine condM_b (fun hb_184 => ?_) (fun hb_184 => ?_)
    rotate_left
    ·have H := H.2 hb_184
     exact ⟨rfl, H, hL_190⟩
    have H := H.1 hb_184
    refine pop_field 0 fld32_0 b_23 0 ?_
    refine rop_loc one22 hL_190 2 rfl 0 (v := (Sl.v t264_9)) rfl ?_
    refine pop_len t264_9 _ _ sli22 ?_
    obtain ⟨J_49, ⟨n_77, h0_38⟩, HB_46⟩ := H
    refine loop_intro (J := fun (n : Nat) (vs : List Value) (h' : Heap) => ∃ t298_5 : Int, vs = [(VI t298_5)] ∧ J_49 n t298_5 h' ∧ Vars h' [(b_25, [(Sl.v t276_9)]), (b_24, [(Sl.v t270_9)]), (b_23, [(Sl.v t264_9)]), (b_22, [(Sl.v t154_5)]), (b_1, [(Sl.v t61_1)])]) n_77 ⟨0, rfl, h0_38, hL_190⟩ ?_
    intro I_38 mu_38 hI_38 junk_48 tv_47 h_191 hi_87
    obtain ⟨n_76, ⟨t298_5, hv, hJ_48, hL_191⟩, hn_39⟩ := hI_38 _ _ hi_87
    cases hv
    have H := HB_46 n_76 t298_5 h_191 hJ_48 hL_191
    refine pop_lss .i64 t298_5 (t264_9.n : Int) ?_
    refine condM_b (fun hb_185 => ?_) (fun hb_185 => ?_)
    rotate_left
    ·have H := H.2 hb_185
     refine pop_add .i64 t292_5 1 ?_
     obtain ⟨m_48, hm_48, H⟩ := H
     exact hn_38 _ _ ⟨m_48, hm_48, (w64 (t292_5 + 1)), rfl, H, hL_191⟩
    have H := H.1 hb_185
    refine rop_locA agg32 hL_191 2 rfl 0 (vs := [(Sl.v t264_9)]) rfl rfl ?_
    refine H.mono fun rv_94 h_192 H => ?_
    obtain ⟨t305_9, t305_10, rfl, hL_192, H⟩ := H
    refine pop_ext (v := (VI t305_9)) rfl ?_
    refine pop_ext (v := (VB t305_10)) rfl ?_
    refine rop_locA agg32 hL_192 1 rfl 0 (vs := [(Sl.v t270_9)]) rfl rfl ?_
    obtain ⟨hi_88, H⟩ := H
    refine pop_index sli27 siz3 .i64 t264_10 t292_5 hi_88 ?_
    obtain ⟨t313_5, hc_50, H⟩ := H
    refine rop_one one3 (VI t313_5) hc_50 ?_
    obtain ⟨hi_89, H⟩ := H
    refine pop_index sli27 siz3 .i64 t264_10 t298_5 hi_89 ?_
    obtain ⟨t317_5, hc_49, H⟩ := H
    refine rop_one one3 (VI t317_5) hc_49 ?_
    refine H.mono fun rv_95 h_193 H => ?_
    obtain ⟨t318_9, t318_10, rfl, hL_193, H⟩ := H
    refine pop_ext (v := (VI t318_9)) rfl ?_
    refine pop_ext (v := (VB t318_10)) rfl ?_
    refine pop_bne boo4 _ _ t305_10 t318_10 ?_
    refine guardM_sf (fun hb_186 => ?_) (fun hb_186 => ?_)
    rotate_left
    ·have H := H.1 hb_186
     refine guardM_n' hb_186 (by decide) ?_
     refine guardM_n' hb_186 (by decide) ?_
     refine pop_pickt' hb_186 ?_
     refine condM_t ?_
     exact H
    have H := H.2 hb_186
    refine guardM_y' hb_186 ?_
    refine guardM_y' hb_186 ?_
    refine pop_ine .i64 _ _ t305_9 t318_9 ?_
    refine pop_pickf' hb_186 ?_
    refine condM_b (fun hb_187 => ?_) (fun hb_187 => ?_)
    ·have H := H.1 hb_187
     exact H
    have H := H.2 hb_187
    refine pop_add .i64 t298_5 1 ?_
    obtain ⟨m_47, hm_47, H⟩ := H
    exact hn_39 _ _ ⟨m_47, hm_47, (w64 (t298_5 + 1)), rfl, H, hL_193⟩
   intro junk_49  h_194
   rintro ⟨hv, hJ_49, hL_194⟩
   have H := HB_49  h_194 hJ_49 hL_194
   refine H.mono fun rv_96 h_195 H => ?_
   obtain ⟨t333_9, t333_10, rfl, hL_195, H⟩ := H
   refine pop_ext (v := (Value.agg #[(Sl.v t333_9)])) rfl ?_
   refine pop_ext (v := (VI t333_10)) rfl ?_
   refine eop_alloc 32 zer32 rfl hL_195 (fun b_26 h_196 hb_188 hf_51 hL_196 => ?_)
   refine uop_loc siz32 hL_196 0 rfl 0 [(Sl.v t333_9)] rfl rfl rfl (Nat.le_of_ble_eq_true rfl) (L' := [(b_26, [(Sl.v t333_9)]), (b_25, [(Sl.v t276_9)]), (b_24, [(Sl.v t270_9)]), (b_23, [(Sl.v t264_9)]), (b_22, [(Sl.v t154_5)]), (b_1, [(Sl.v t61_1)])]) rfl (fun h_197 hf_52 hL_197 => ?_)
   refine rop_locA agg32 hL_197 0 rfl 0 (vs := [(Sl.v t333_9)]) rfl rfl ?_
   have H := H b_26 h_197 (Nat.le_trans (Fr.size (Fr.r (In []) _)) hb_188) (Fr.new (Fr.no' (Fr.r (In []) _) hf_51) (Nat.le_trans (Fr.size (Fr.r (In []) _)) hb_188) hf_52) hL_197
   refine H.mono fun rv_97 h_198 H => ?_
   obtain ⟨t339_9, t339_10, rfl, hL_198, H⟩ := H
   refine pop_ext (v := (VB t339_9)) rfl ?_
   refine pop_ext (v := (VB t339_10)) rfl ?_
   refine rop_locA agg32 hL_198 0 rfl 0 (vs := [(Sl.v t333_9)]) rfl rfl ?_
   refine H.mono fun rv_98 h_199 H => ?_
   obtain ⟨t345_9, t345_10, rfl, hL_199, H⟩ := H
   refine pop_ext (v := (VB t345_9)) rfl ?_
   refine pop_ext (v := (VB t345_10)) rfl ?_
   refine pop_bne boo4 _ _ t339_10 t345_10 ?_
   refine guardM_sf (fun hb_189 => ?_) (fun hb_189 => ?_)
   rotate_left
   ·have H := H.1 hb_189
    refine guardM_n' hb_189 (by decide) ?_
    refine guardM_n' hb_189 (by decide) ?_
    refine pop_pickt' hb_189 ?_
    refine condM_t ?_
    exact H
   have H := H.2 hb_189
   refine guardM_y' hb_189 ?_
   refine guardM_y' hb_189 ?_
   refine pop_bne boo4 _ _ t339_9 t345_9 ?_
   refine pop_pickf' hb_189 ?_
   refine condM_b (fun hb_190 => ?_) (fun hb_190 => ?_)
   ·have H := H.1 hb_190
    exact H
   have H := H.2 hb_190
   refine condM_b (fun hb_191 => ?_) (fun hb_191 => ?_)
   rotate_left
   ·have H := H.2 hb_191
    exact H
   have H := H.1 hb_191
   refine pop_field 0 fld32_0 b_26 0 ?_
   refine rop_loc one22 hL_199 0 rfl 0 (v := (Sl.v t333_9)) rfl ?_
   refine pop_len t333_9 _ _ sli22 ?_
   obtain ⟨J_50, ⟨n_80, h0_40⟩, HB_48⟩ := H
   refine loop_intro (J := fun (n : Nat) (vs : List Value) (h' : Heap) => ∃ all52_5 : Bool, ∃ t360_5 : Int, vs = [(VB all52_5), (VI t360_5)] ∧ J_50 n all52_5 t360_5 h' ∧ Vars h' [(b_26, [(Sl.v t333_9)]), (b_25, [(Sl.v t276_9)]), (b_24, [(Sl.v t270_9)]), (b_23, [(Sl.v t264_9)]), (b_22, [(Sl.v t154_5)]), (b_1, [(Sl.v t61_1)])]) n_80 ⟨true, 0, rfl, h0_40, hL_199⟩ ?_
   intro I_40 mu_40 hI_40 junk_50 tv_49 tv_50 h_200 hi_90
   obtain ⟨n_79, ⟨all52_5, t360_5, hv, hJ_50, hL_200⟩, hn_40⟩ := hI_40 _ _ hi_90
   cases hv
   have H := HB_48 n_79 all52_5 t360_5 h_200 hJ_50 hL_200
   refine pop_lss .i64 t360_5 (t333_9.n : Int) ?_
   refine condM_b (fun hb_192 => ?_) (fun hb_192 => ?_)
   rotate_left
   ·have H := H.2 hb_192
    refine pop_beq boo4 _ _ all52_5 t339_9 ?_
    exact H
   have H := H.1 hb_192
   refine rop_locA agg32 hL_200 0 rfl 0 (vs := [(Sl.v t333_9)]) rfl rfl ?_
   refine H.mono fun rv_99 h_201 H => ?_
   obtain ⟨t367_9, t367_10, rfl, hL_201, H⟩ := H
   refine pop_ext (v := (VI t367_9)) rfl ?_
   refine pop_ext (v := (VB t367_10)) rfl ?_
   refine guardM_st (fun hb_193 => ?_) (fun hb_193 => ?_)
   ·have H := H.1 hb_193
    refine pop_pickt' hb_193 ?_
    refine pop_add .i64 t360_5 1 ?_
    obtain ⟨m_49, hm_49, H⟩ := H
    exact hn_40 _ _ ⟨m_49, hm_49, t367_10, (w64 (t360_5 + 1)), rfl, H, hL_201⟩
   have H := H.2 hb_193
   refine pop_pickf' hb_193 ?_
   refine pop_add .i64 t360_5 1 ?_
   obtain ⟨m_50, hm_50, H⟩ := H
   exact hn_40 _ _ ⟨m_50, hm_50, false, (w64 (t360_5 + 1)), rfl, H, hL_201⟩
  have H := H.1 hb_9
  refine guardM_y' hb_9 ?_
  refine pop_field 0 fld32_0 b_1 0 ?_
  refine guardM_y' hb_9 ?_
  refine rop_loc one22 hL_10 0 rfl 0 (v := (Sl.v t61_1)) rfl ?_
  refine guardM_y' hb_9 ?_
  refine pop_len t61_1 _ _ sli22 ?_
  refine guardM_y' hb_9 ?_
  refine pop_lss .i64 t61_3 (t61_1.n : Int) ?_
  refine pop_pickt' hb_9 ?_
  refine guardM_st (fun hb_10 => ?_) (fun hb_10 => ?_)
  rotate_left
  ·have H := H.2 hb_10
   refine guardM_n' hb_10 (by decide) ?_
   refine guardM_n' hb_10 (by decide) ?_
   refine guardM_n' hb_10 (by decide) ?_
   refine guardM_n' hb_10 (by decide) ?_
   refine pop_pickf' hb_10 ?_
   refine condM_f ?_
   refine guardM_st (fun hb_84 => ?_) (fun hb_84 => ?_)
   rotate_left
   ·have H := H.2 hb_84
    refine guardM_n' hb_84 (by decide) ?_
    refine guardM_n' hb_84 (by decide) ?_
    refine guardM_n (by decide) ?_
    refine guardM_n (by decide) ?_
    refine guardM_n (by decide) ?_
    refine guardM_n (by decide) ?_
    refine guardM_n (by decide) ?_
    refine guardM_n' hb_84 (by decide) ?_
    refine guardM_n' hb_84 (by decide) ?_
    refine guardM_n (by decide) ?_
    refine guardM_n (by decide) ?_
    refine guardM_n (by decide) ?_
    refine guardM_n (by decide) ?_
    refine guardM_n (by decide) ?_
    refine guardM_n (by decide) ?_
    refine guardM_n' hb_84 (by decide) ?_
    refine pop_pickf' hb_84 ?_
    refine condM_f ?_
    refine H.mono fun rv_64 h_126 H => ?_
    obtain ⟨t154_4, rfl, hL_126, H⟩ := H
    refine eop_alloc 32 zer32 rfl hL_126 (fun b_17 h_127 hb_122 hf_33 hL_127 => ?_)
    refine uop_loc siz32 hL_127 0 rfl 0 [(Sl.v t154_4)] rfl rfl rfl (Nat.le_of_ble_eq_true rfl) (L' := [(b_17, [(Sl.v t154_4)]), (b_1, [(Sl.v t61_1)])]) rfl (fun h_128 hf_34 hL_128 => ?_)
    refine rop_locA agg32 hL_128 0 rfl 0 (vs := [(Sl.v t154_4)]) rfl rfl ?_
    have H := H b_17 h_128 (Nat.le_trans (Fr.size (Fr.r (In []) _)) hb_122) (Fr.new (Fr.no' (Fr.r (In []) _) hf_33) (Nat.le_trans (Fr.size (Fr.r (In []) _)) hb_122) hf_34) hL_128
    refine H.mono fun rv_65 h_129 H => ?_
    obtain ⟨t157_7, t157_8, rfl, hL_129, H⟩ := H
    refine pop_ext (v := (Sl.v t157_7)) rfl ?_
    refine pop_ext (v := (VB t157_8)) rfl ?_
    refine rop_locA agg32 hL_129 0 rfl 0 (vs := [(Sl.v t154_4)]) rfl rfl ?_
    refine H.mono fun rv_66 h_130 H => ?_
    obtain ⟨t162_7, t162_8, rfl, hL_130, H⟩ := H
    refine pop_ext (v := (Sl.v t162_7)) rfl ?_
    refine pop_ext (v := (VB t162_8)) rfl ?_
    refine rop_locA agg32 hL_130 0 rfl 0 (vs := [(Sl.v t154_4)]) rfl rfl ?_
    refine H.mono fun rv_67 h_131 H => ?_
    obtain ⟨t167_7, t167_8, rfl, hL_131, H⟩ := H
    refine pop_ext (v := (VB t167_7)) rfl ?_
    refine pop_ext (v := (VB t167_8)) rfl ?_
    refine rop_locA agg32 hL_131 0 rfl 0 (vs := [(Sl.v t154_4)]) rfl rfl ?_
    refine H.mono fun rv_68 h_132 H => ?_
    obtain ⟨t172_7, t172_8, rfl, hL_132, H⟩ := H
    refine pop_ext (v := (VB t172_7)) rfl ?_
    refine pop_ext (v := (VB t172_8)) rfl ?_
    refine pop_bne boo4 _ _ t157_8 t162_8 ?_
    refine guardM_sf (fun hb_123 => ?_) (fun hb_123 => ?_)
    rotate_left
    ·have H := H.1 hb_123
     refine guardM_n' hb_123 (by decide) ?_
     refine guardM_n' hb_123 (by decide) ?_
     refine guardM_n' hb_123 (by decide) ?_
     refine pop_pickt' hb_123 ?_
     refine guardM_n (by decide) ?_
     refine guardM_n (by decide) ?_
     refine guardM_n (by decide) ?_
     refine pop_pickt _ _ ?_
     refine guardM_n (by decide) ?_
     refine guardM_n (by decide) ?_
     refine guardM_n (by decide) ?_
     refine pop_pickt _ _ ?_
     refine guardM_n (by decide) ?_
     refine guardM_n (by decide) ?_
     refine guardM_n (by decide) ?_
     refine pop_pickt _ _ ?_
     refine condM_t ?_
     exact H
    have H := H.2 hb_123
    refine guardM_y' hb_123 ?_
    refine guardM_y' hb_123 ?_
    refine H.mono fun rv_69 h_133 H => ?_
    obtain ⟨t181_4, rfl, hL_133, H⟩ := H
    refine guardM_y' hb_123 ?_
    refine pop_not t181_4 ?_
    refine pop_pickf' hb_123 ?_
    refine guardM_sf (fun hb_124 => ?_) (fun hb_124 => ?_)
    rotate_left
    ·have H := H.1 hb_124
     refine guardM_n' hb_124 (by decide) ?_
     refine guardM_n' hb_124 (by decide) ?_
     refine pop_pickt' hb_124 ?_
     refine guardM_n (by decide) ?_
     refine guardM_n (by decide) ?_
     refine guardM_n (by decide) ?_
     refine pop_pickt _ _ ?_
     refine guardM_n (by decide) ?_
     refine guardM_n (by decide) ?_
     refine guardM_n (by decide) ?_
     refine pop_pickt _ _ ?_
     refine condM_t ?_
     exact H
    have H := H.2 hb_124
    refine guardM_y' hb_124 ?_
    refine guardM_y' hb_124 ?_
    refine pop_bne boo4 _ _ t167_8 t172_8 ?_
    refine pop_pickf' hb_124 ?_
    refine guardM_sf (fun hb_125 => ?_) (fun hb_125 => ?_)
    rotate_left
    ·have H := H.1 hb_125
     refine guardM_n' hb_125 (by decide) ?_
     refine guardM_n' hb_125 (by decide) ?_
     refine pop_pickt' hb_125 ?_
     refine guardM_n (by decide) ?_
     refine guardM_n (by decide) ?_
     refine guardM_n (by decide) ?_
     refine pop_pickt _ _ ?_
     refine condM_t ?_
     exact H
    have H := H.2 hb_125
    refine guardM_y' hb_125 ?_
    refine guardM_y' hb_125 ?_
    refine pop_bne boo4 _ _ t167_7 t172_7 ?_
    refine pop_pickf' hb_125 ?_
    refine guardM_sf (fun hb_126 => ?_) (fun hb_126 => ?_)
    rotate_left
    ·have H := H.1 hb_126
     refine guardM_n' hb_126 (by decide) ?_
     refine guardM_n' hb_126 (by decide) ?_
     refine pop_pickt' hb_126 ?_
     refine condM_t ?_
     exact H
    have H := H.2 hb_126
    refine guardM_y' hb_126 ?_
    refine guardM_y' hb_126 ?_
    refine pop_bne boo4 _ _ t167_8 t157_8 ?_
    refine pop_pickf' hb_126 ?_
    refine condM_b (fun hb_127 => ?_) (fun hb_127 => ?_)
    ·have H := H.1 hb_127
     exact H
    have H := H.2 hb_127
    obtain ⟨J_31, H, HB_40⟩ := H
    refine ⟨fun (vs : List Value) (h' : Heap) => vs = [] ∧ J_31  h' ∧ Vars h' [(b_17, [(Sl.v t154_4)]), (b_1, [(Sl.v t61_1)])], ?_, ?_⟩
    ·refine condM_b (fun hb_128 => ?_) (fun hb_128 => ?_)
     rotate_left
     ·have H := H.2 hb_128
      exact ⟨rfl, H, hL_133⟩
     have H := H.1 hb_128
     refine pop_len t157_7 _ _ sli22 ?_
     obtain ⟨J_32, ⟨n_58, h0_29⟩, HB_35⟩ := H
     refine loop_intro (J := fun (n : Nat) (vs : List Value) (h' : Heap) => ∃ count25_4 : Int, ∃ t202_4 : Int, vs = [(VI count25_4), (VI t202_4)] ∧ J_32 n count25_4 t202_4 h' ∧ Vars h' [(b_17, [(Sl.v t154_4)]), (b_1, [(Sl.v t61_1)])]) n_58 ⟨0, 0, rfl, h0_29, hL_133⟩ ?_
     intro I_29 mu_29 hI_29 junk_31 tv_35 tv_36 h_134 hi_55
     obtain ⟨n_49, ⟨count25_4, t202_4, hv, hJ_31, hL_134⟩, hn_25⟩ := hI_29 _ _ hi_55
     cases hv
     have H := HB_35 n_49 count25_4 t202_4 h_134 hJ_31 hL_134
     refine pop_lss .i64 t202_4 (t157_7.n : Int) ?_
     refine condM_b (fun hb_129 => ?_) (fun hb_129 => ?_)
     rotate_left
     ·have H := H.2 hb_129
      refine pop_field 0 fld32_0 b_17 0 ?_
      refine rop_loc one22 hL_134 0 rfl 0 (v := (Sl.v t154_4)) rfl ?_
      refine pop_len t154_4 _ _ sli22 ?_
      refine pop_ine .i64 _ _ count25_4 (t154_4.n : Int) ?_
      refine guardM_sf (fun hb_138 => ?_) (fun hb_138 => ?_)
      rotate_left
      ·have H := H.1 hb_138
       refine guardM_n' hb_138 (by decide) ?_
       refine guardM_n' hb_138 (by decide) ?_
       refine guardM_n' hb_138 (by decide) ?_
       refine guardM_n' hb_138 (by decide) ?_
       refine pop_pickt' hb_138 ?_
       refine condM_t ?_
       exact H
      have H := H.2 hb_138
      refine guardM_y' hb_138 ?_
      refine guardM_y' hb_138 ?_
      refine pop_len t157_7 _ _ sli22 ?_
      refine guardM_y' hb_138 ?_
      refine pop_ieq .i64 _ _ (t157_7.n : Int) 1 ?_
      refine guardM_y' hb_138 ?_
      refine pop_bne boo4 _ _ t167_7 (decide ((t157_7.n : Int) = 1)) ?_
      refine pop_pickf' hb_138 ?_
      refine condM_b (fun hb_139 => ?_) (fun hb_139 => ?_)
      ·have H := H.1 hb_139
       exact H
      have H := H.2 hb_139
      exact ⟨rfl, H, hL_134⟩
     have H := H.1 hb_129
     obtain ⟨hi_56, H⟩ := H
     refine pop_index sli22 siz27 .i64 t157_7 t202_4 hi_56 ?_
     obtain ⟨t206_4, hc_38, H⟩ := H
     refine rop_one one27 (Sl.v t206_4) hc_38 ?_
     refine pop_len t206_4 _ _ sli27 ?_
     refine pop_add .i64 count25_4 (t206_4.n : Int) ?_
     refine pop_gtr .i64 t202_4 0 ?_
     refine guardM_st (fun hb_130 => ?_) (fun hb_130 => ?_)
     rotate_left
     ·have H := H.2 hb_130
      refine guardM_n' hb_130 (by decide) ?_
      refine guardM_n' hb_130 (by decide) ?_
      refine guardM_n' hb_130 (by decide) ?_
      refine guardM_n' hb_130 (by decide) ?_
      refine guardM_n' hb_130 (by decide) ?_
      refine guardM_n' hb_130 (by decide) ?_
      refine guardM_n' hb_130 (by decide) ?_
      refine guardM_n' hb_130 (by decide) ?_
      refine guardM_n' hb_130 (by decide) ?_
      refine guardM_n' hb_130 (by decide) ?_
      refine pop_pickf' hb_130 ?_
      refine condM_f ?_
      refine pop_len t206_4 _ _ sli27 ?_
      obtain ⟨J_35, ⟨n_57, h0_28⟩, HB_34⟩ := H
      refine loop_intro (J := fun (n : Nat) (vs : List Value) (h' : Heap) => ∃ t228_8 : Int, vs = [(VI t228_8)] ∧ J_35 n t228_8 h' ∧ Vars h' [(b_17, [(Sl.v t154_4)]), (b_1, [(Sl.v t61_1)])]) n_57 ⟨0, rfl, h0_28, hL_134⟩ ?_
      intro I_28 mu_28 hI_28 junk_34 tv_34 h_138 hi_64
      obtain ⟨n_54, ⟨t228_8, hv, hJ_34, hL_138⟩, hn_28⟩ := hI_28 _ _ hi_64
      cases hv
      have H := HB_34 n_54 t228_8 h_138 hJ_34 hL_138
      refine pop_lss .i64 t228_8 (t206_4.n : Int) ?_
      refine condM_b (fun hb_135 => ?_) (fun hb_135 => ?_)
      rotate_left
      ·have H := H.2 hb_135
       refine pop_add .i64 t202_4 1 ?_
       obtain ⟨m_36, hm_36, H⟩ := H
       exact hn_25 _ _ ⟨m_36, hm_36, (w64 (count25_4 + (t206_4.n : Int))), (w64 (t202_4 + 1)), rfl, H, hL_138⟩
      have H := H.1 hb_135
      obtain ⟨hi_65, H⟩ := H
      refine pop_index sli27 siz3 .i64 t206_4 t228_8 hi_65 ?_
      obtain ⟨t231_8, hc_37, H⟩ := H
      refine rop_one one3 (VI t231_8) hc_37 ?_
      refine pop_len t206_4 _ _ sli27 ?_
      obtain ⟨J_36, ⟨n_56, h0_27⟩, HB_33⟩ := H
      refine loop_intro (J := fun (n : Nat) (vs : List Value) (h' : Heap) => ∃ t234_8 : Int, vs = [(VI t234_8)] ∧ J_36 n t234_8 h' ∧ Vars h' [(b_17, [(Sl.v t154_4)]), (b_1, [(Sl.v t61_1)])]) n_56 ⟨0, rfl, h0_27, hL_138⟩ ?_
      intro I_27 mu_27 hI_27 junk_35 tv_33 h_139 hi_66
      obtain ⟨n_55, ⟨t234_8, hv, hJ_35, hL_139⟩, hn_29⟩ := hI_27 _ _ hi_66
      cases hv
      have H := HB_33 n_55 t234_8 h_139 hJ_35 hL_139
      refine pop_lss .i64 t234_8 (t206_4.n : Int) ?_
      refine condM_b (fun hb_136 => ?_) (fun hb_136 => ?_)
      rotate_left
      ·have H := H.2 hb_136
       refine pop_add .i64 t228_8 1 ?_
       obtain ⟨m_35, hm_35, H⟩ := H
       exact hn_28 _ _ ⟨m_35, hm_35, (w64 (t228_8 + 1)), rfl, H, hL_139⟩
      have H := H.1 hb_136
      obtain ⟨hi_67, H⟩ := H
      refine pop_index sli27 siz3 .i64 t206_4 t234_8 hi_67 ?_
      obtain ⟨t237_8, hc_36, H⟩ := H
      refine rop_one one3 (VI t237_8) hc_36 ?_
      refine rop_locA agg32 hL_139 0 rfl 0 (vs := [(Sl.v t154_4)]) rfl rfl ?_
      refine H.mono fun rv_71 h_140 H => ?_
      obtain ⟨t242_15, t242_16, rfl, hL_140, H⟩ := H
      refine pop_ext (v := (VI t242_15)) rfl ?_
      refine pop_ext (v := (VB t242_16)) rfl ?_
      refine pop_not t242_16 ?_
      refine condM_b (fun hb_137 => ?_) (fun hb_137 => ?_)
      ·have H := H.1 hb_137
       exact H
      have H := H.2 hb_137
      refine pop_add .i64 t234_8 1 ?_
      obtain ⟨m_34, hm_34, H⟩ := H
      exact hn_29 _ _ ⟨m_34, hm_34, (w64 (t234_8 + 1)), rfl, H, hL_140⟩
     have H := H.1 hb_130
     refine guardM_y' hb_130 ?_
     refine guardM_y' hb_130 ?_
     refine pop_sub .i64 t202_4 1 ?_
     refine guardM_y' hb_130 ?_
     obtain ⟨hi_57, H⟩ := H
     refine pop_index sli22 siz27 .i64 t157_7 (w64 (t202_4 - 1)) hi_57 ?_
     refine guardM_y' hb_130 ?_
     obtain ⟨t218_4, hc_35, H⟩ := H
     refine rop_one one27 (Sl.v t218_4) hc_35 ?_
     refine guardM_y' hb_130 ?_
     obtain ⟨hi_58, H⟩ := H
     refine pop_index sli27 siz3 .i64 t218_4 0 hi_58 ?_
     refine guardM_y' hb_130 ?_
     obtain ⟨t220_4, hc_34, H⟩ := H
     refine rop_one one3 (VI t220_4) hc_34 ?_
     refine guardM_y' hb_130 ?_
     refine guardM_y' hb_130 ?_
     obtain ⟨hi_59, H⟩ := H
     refine pop_index sli27 siz3 .i64 t206_4 0 hi_59 ?_
     refine guardM_y' hb_130 ?_
     obtain ⟨t223_4, hc_33, H⟩ := H
     refine rop_one one3 (VI t223_4) hc_33 ?_
     refine guardM_y' hb_130 ?_
     refine pop_geq .i64 t220_4 t223_4 ?_
     refine pop_pickt' hb_130 ?_
     refine condM_b (fun hb_131 => ?_) (fun hb_131 => ?_)
     ·have H := H.1 hb_131
      exact H
     have H := H.2 hb_131
     refine pop_len t206_4 _ _ sli27 ?_
     obtain ⟨J_33, ⟨n_53, h0_26⟩, HB_32⟩ := H
     refine loop_intro (J := fun (n : Nat) (vs : List Value) (h' : Heap) => ∃ t228_7 : Int, vs = [(VI t228_7)] ∧ J_33 n t228_7 h' ∧ Vars h' [(b_17, [(Sl.v t154_4)]), (b_1, [(Sl.v t61_1)])]) n_53 ⟨0, rfl, h0_26, hL_134⟩ ?_
     intro I_26 mu_26 hI_26 junk_32 tv_32 h_135 hi_60
     obtain ⟨n_50, ⟨t228_7, hv, hJ_32, hL_135⟩, hn_26⟩ := hI_26 _ _ hi_60
     cases hv
     have H := HB_32 n_50 t228_7 h_135 hJ_32 hL_135
     refine pop_lss .i64 t228_7 (t206_4.n : Int) ?_
     refine condM_b (fun hb_132 => ?_) (fun hb_132 => ?_)
     rotate_left
     ·have H := H.2 hb_132
      refine pop_add .i64 t202_4 1 ?_
      obtain ⟨m_33, hm_33, H⟩ := H
      exact hn_25 _ _ ⟨m_33, hm_33, (w64 (count25_4 + (t206_4.n : Int))), (w64 (t202_4 + 1)), rfl, H, hL_135⟩
     have H := H.1 hb_132
     obtain ⟨hi_61, H⟩ := H
     refine pop_index sli27 siz3 .i64 t206_4 t228_7 hi_61 ?_
     obtain ⟨t231_7, hc_32, H⟩ := H
     refine rop_one one3 (VI t231_7) hc_32 ?_
     refine pop_len t206_4 _ _ sli27 ?_
     obtain ⟨J_34, ⟨n_52, h0_25⟩, HB_31⟩ := H
     refine loop_intro (J := fun (n : Nat) (vs : List Value) (h' : Heap) => ∃ t234_7 : Int, vs = [(VI t234_7)] ∧ J_34 n t234_7 h' ∧ Vars h' [(b_17, [(Sl.v t154_4)]), (b_1, [(Sl.v t61_1)])]) n_52 ⟨0, rfl, h0_25, hL_135⟩ ?_
     intro I_25 mu_25 hI_25 junk_33 tv_31 h_136 hi_62
     obtain ⟨n_51, ⟨t234_7, hv, hJ_33, hL_136⟩, hn_27⟩ := hI_25 _ _ hi_62
     cases hv
     have H := HB_31 n_51 t234_7 h_136 hJ_33 hL_136
     refine pop_lss .i64 t234_7 (t206_4.n : Int) ?_
     refine condM_b (fun hb_133 => ?_) (fun hb_133 => ?_)
     rotate_left
     ·have H := H.2 hb_133
      refine pop_add .i64 t228_7 1 ?_
      obtain ⟨m_32, hm_32, H⟩ := H
      exact hn_26 _ _ ⟨m_32, hm_32, (w64 (t228_7 + 1)), rfl, H, hL_136⟩
     have H := H.1 hb_133
     obtain ⟨hi_63, H⟩ := H
     refine pop_index sli27 siz3 .i64 t206_4 t234_7 hi_63 ?_
     obtain ⟨t237_7, hc_31, H⟩ := H
     refine rop_one one3 (VI t237_7) hc_31 ?_
     refine rop_locA agg32 hL_136 0 rfl 0 (vs := [(Sl.v t154_4)]) rfl rfl ?_
     refine H.mono fun rv_70 h_137 H => ?_
     obtain ⟨t242_13, t242_14, rfl, hL_137, H⟩ := H
     refine pop_ext (v := (VI t242_13)) rfl ?_
     refine pop_ext (v := (VB t242_14)) rfl ?_
     refine pop_not t242_14 ?_
     refine condM_b (fun hb_134 => ?_) (fun hb_134 => ?_)
     ·have H := H.1 hb_134
      exact H
     have H := H.2 hb_134
     refine pop_add .i64 t234_7 1 ?_
     obtain ⟨m_31, hm_31, H⟩ := H
     exact hn_27 _ _ ⟨m_31, hm_31, (w64 (t234_7 + 1)), rfl, H, hL_137⟩
    intro junk_36  h_141
    rintro ⟨hv, hJ_36, hL_141⟩
    have H := HB_40  h_141 hJ_36 hL_141
    refine H.mono fun rv_72 h_142 H => ?_
    obtain ⟨t264_7, t264_8, rfl, hL_142, H⟩ := H
    refine pop_ext (v := (Value.agg #[(Sl.v t264_7)])) rfl ?_
    refine pop_ext (v := (Sl.v t264_8)) rfl ?_
    refine eop_alloc 32 zer32 rfl hL_142 (fun b_18 h_143 hb_140 hf_35 hL_143 => ?_)
    refine uop_loc siz32 hL_143 0 rfl 0 [(Sl.v t264_7)] rfl rfl rfl (Nat.le_of_ble_eq_true rfl) (L' := [(b_18, [(Sl.v t264_7)]), (b_17, [(Sl.v t154_4)]), (b_1, [(Sl.v t61_1)])]) rfl (fun h_144 hf_36 hL_144 => ?_)
    refine rop_locA agg32 hL_144 0 rfl 0 (vs := [(Sl.v t264_7)]) rfl rfl ?_
    have H := H b_18 h_144 (Nat.le_trans (Fr.size (Fr.r (In []) _)) hb_140) (Fr.new (Fr.no' (Fr.r (In []) _) hf_35) (Nat.le_trans (Fr.size (Fr.r (In []) _)) hb_140) hf_36) hL_144
    refine H.mono fun rv_73 h_145 H => ?_
    obtain ⟨t270_7, t270_8, rfl, hL_145, H⟩ := H
    refine pop_ext (v := (Value.agg #[(Sl.v t270_7)])) rfl ?_
    refine pop_ext (v := (VB t270_8)) rfl ?_
    refine eop_alloc 32 zer32 rfl hL_145 (fun b_19 h_146 hb_141 hf_37 hL_146 => ?_)
    refine uop_loc siz32 hL_146 0 rfl 0 [(Sl.v t270_7)] rfl rfl rfl (Nat.le_of_ble_eq_true rfl) (L' := [(b_19, [(Sl.v t270_7)]), (b_18, [(Sl.v t264_7)]), (b_17, [(Sl.v t154_4)]), (b_1, [(Sl.v t61_1)])]) rfl (fun h_147 hf_38 hL_147 => ?_)
    refine rop_locA agg32 hL_147 1 rfl 0 (vs := [(Sl.v t264_7)]) rfl rfl ?_
    have H := H b_19 h_147 (Nat.le_trans (Fr.size (Fr.r (In []) _)) hb_141) (Fr.new (Fr.no' (Fr.r (In []) _) hf_37) (Nat.le_trans (Fr.size (Fr.r (In []) _)) hb_141) hf_38) hL_147
    refine H.mono fun rv_74 h_148 H => ?_
    obtain ⟨t276_7, t276_8, rfl, hL_148, H⟩ := H
    refine pop_ext (v := (Value.agg #[(Sl.v t276_7)])) rfl ?_
    refine pop_ext (v := (VB t276_8)) rfl ?_
    refine eop_alloc 32 zer32 rfl hL_148 (fun b_20 h_149 hb_142 hf_39 hL_149 => ?_)
    refine uop_loc siz32 hL_149 0 rfl 0 [(Sl.v t276_7)] rfl rfl rfl (Nat.le_of_ble_eq_true rfl) (L' := [(b_20, [(Sl.v t276_7)]), (b_19, [(Sl.v t270_7)]), (b_18, [(Sl.v t264_7)]), (b_17, [(Sl.v t154_4)]), (b_1, [(Sl.v t61_1)])]) rfl (fun h_150 hf_40 hL_150 => ?_)
    refine pop_bne boo4 _ _ t270_8 t276_8 ?_
    refine guardM_sf (fun hb_143 => ?_) (fun hb_143 => ?_)
    rotate_left
    ·have H := H.1 hb_143
     refine guardM_n' hb_143 (by decide) ?_
     refine guardM_n' hb_143 (by decide) ?_
     refine guardM_n' hb_143 (by decide) ?_
     refine pop_pickt' hb_143 ?_
     refine condM_t ?_
     have H := H b_20 h_150 (Nat.le_trans (Fr.size (Fr.r (In []) _)) hb_142) (Fr.new (Fr.no' (Fr.r (In []) _) hf_39) (Nat.le_trans (Fr.size (Fr.r (In []) _)) hb_142) hf_40) hL_150
     exact H
    have H := H.2 hb_143
    refine rop_locA agg32 hL_150 1 rfl 0 (vs := [(Sl.v t270_7)]) rfl rfl ?_
    refine guardM_y' hb_143 ?_
    refine rop_locA agg32 hL_150 0 rfl 0 (vs := [(Sl.v t276_7)]) rfl rfl ?_
    refine guardM_y' hb_143 ?_
    have H := H b_20 h_150 (Nat.le_trans (Fr.size (Fr.r (In []) _)) hb_142) (Fr.new (Fr.no' (Fr.r (In []) _) hf_39) (Nat.le_trans (Fr.size (Fr.r (In []) _)) hb_142) hf_40) hL_150
    refine H.mono fun rv_75 h_151 H => ?_
    obtain ⟨t285_4, rfl, hL_151, H⟩ := H
    refine guardM_y' hb_143 ?_
    refine pop_not t285_4 ?_
    refine pop_pickf' hb_143 ?_
    refine condM_b (fun hb_144 => ?_) (fun hb_144 => ?_)
    ·have H := H.1 hb_144
     exact H
    have H := H.2 hb_144
    obtain ⟨J_37, H, HB_39⟩ := H
    refine ⟨fun (vs : List Value) (h' : Heap) => vs = [] ∧ J_37  h' ∧ Vars h' [(b_20, [(Sl.v t276_7)]), (b_19, [(Sl.v t270_7)]), (b_18, [(Sl.v t264_7)]), (b_17, [(Sl.v t154_4)]), (b_1, [(Sl.v t61_1)])], ?_, ?_⟩
    ·refine condM_b (fun hb_145 => ?_) (fun hb_145 => ?_)
     rotate_left
     ·have H := H.2 hb_145
      exact ⟨rfl, H, hL_151⟩
     have H := H.1 hb_145
     refine pop_field 0 fld32_0 b_18 0 ?_
     refine rop_loc one22 hL_151 2 rfl 0 (v := (Sl.v t264_7)) rfl ?_
     refine pop_len t264_7 _ _ sli22 ?_
     obtain ⟨J_38, ⟨n_62, h0_31⟩, HB_37⟩ := H
     refine loop_intro (J := fun (n : Nat) (vs : List Value) (h' : Heap) => ∃ t292_4 : Int, vs = [(VI t292_4)] ∧ J_38 n t292_4 h' ∧ Vars h' [(b_20, [(Sl.v t276_7)]), (b_19, [(Sl.v t270_7)]), (b_18, [(Sl.v t264_7)]), (b_17, [(Sl.v t154_4)]), (b_1, [(Sl.v t61_1)])]) n_62 ⟨0, rfl, h0_31, hL_151⟩ ?_
     intro I_31 mu_31 hI_31 junk_37 tv_38 h_152 hi_68
     obtain ⟨n_59, ⟨t292_4, hv, hJ_37, hL_152⟩, hn_30⟩ := hI_31 _ _ hi_68
     cases hv
     have H := HB_37 n_59 t292_4 h_152 hJ_37 hL_152
     refine pop_lss .i64 t292_4 (t264_7.n : Int) ?_
     refine condM_b (fun hb_146 => ?_) (fun hb_146 => ?_)
     rotate_left
     ·have H := H.2 hb_146
      exact ⟨rfl, H, hL_152⟩
     have H := H.1 hb_146
     refine pop_field 0 fld32_0 b_18 0 ?_
     refine rop_loc one22 hL_152 2 rfl 0 (v := (Sl.v t264_7)) rfl ?_
     refine pop_len t264_7 _ _ sli22 ?_
     obtain ⟨J_39, ⟨n_61, h0_30⟩, HB_36⟩ := H
     refine loop_intro (J := fun (n : Nat) (vs : List Value) (h' : Heap) => ∃ t298_4 : Int, vs = [(VI t298_4)] ∧ J_39 n t298_4 h' ∧ Vars h' [(b_20, [(Sl.v t276_7)]), (b_19, [(Sl.v t270_7)]), (b_18, [(Sl.v t264_7)]), (b_17, [(Sl.v t154_4)]), (b_1, [(Sl.v t61_1)])]) n_61 ⟨0, rfl, h0_30, hL_152⟩ ?_
     intro I_30 mu_30 hI_30 junk_38 tv_37 h_153 hi_69
     obtain ⟨n_60, ⟨t298_4, hv, hJ_38, hL_153⟩, hn_31⟩ := hI_30 _ _ hi_69
     cases hv
     have H := HB_36 n_60 t298_4 h_153 hJ_38 hL_153
     refine pop_lss .i64 t298_4 (t264_7.n : Int) ?_
     refine condM_b (fun hb_147 => ?_) (fun hb_147 => ?_)
     rotate_left
     ·have H := H.2 hb_147
      refine pop_add .i64 t292_4 1 ?_
      obtain ⟨m_38, hm_38, H⟩ := H
      exact hn_30 _ _ ⟨m_38, hm_38, (w64 (t292_4 + 1)), rfl, H, hL_153⟩
     have H := H.1 hb_147
     refine rop_locA agg32 hL_153 2 rfl 0 (vs := [(Sl.v t264_7)]) rfl rfl ?_
     refine H.mono fun rv_76 h_154 H => ?_
     obtain ⟨t305_7, t305_8, rfl, hL_154, H⟩ := H
     refine pop_ext (v := (VI t305_7)) rfl ?_
     refine pop_ext (v := (VB t305_8)) rfl ?_
     refine rop_locA agg32 hL_154 1 rfl 0 (vs := [(Sl.v t270_7)]) rfl rfl ?_
     obtain ⟨hi_70, H⟩ := H
     refine pop_index sli27 siz3 .i64 t264_8 t292_4 hi_70 ?_
     obtain ⟨t313_4, hc_40, H⟩ := H
     refine rop_one one3 (VI t313_4) hc_40 ?_
     obtain ⟨hi_71, H⟩ := H
     refine pop_index sli27 siz3 .i64 t264_8 t298_4 hi_71 ?_
     obtain ⟨t317_4, hc_39, H⟩ := H
     refine rop_one one3 (VI t317_4) hc_39 ?_
     refine H.mono fun rv_77 h_155 H => ?_
     obtain ⟨t318_7, t318_8, rfl, hL_155, H⟩ := H
     refine pop_ext (v := (VI t318_7)) rfl ?_
     refine pop_ext (v := (VB t318_8)) rfl ?_
     refine pop_bne boo4 _ _ t305_8 t318_8 ?_
     refine guardM_sf (fun hb_148 => ?_) (fun hb_148 => ?_)
     rotate_left
     ·have H := H.1 hb_148
      refine guardM_n' hb_148 (by decide) ?_
      refine guardM_n' hb_148 (by decide) ?_
      refine pop_pickt' hb_148 ?_
      refine condM_t ?_
      exact H
     have H := H.2 hb_148
     refine guardM_y' hb_148 ?_
     refine guardM_y' hb_148 ?_
     refine pop_ine .i64 _ _ t305_7 t318_7 ?_
     refine pop_pickf' hb_148 ?_
     refine condM_b (fun hb_149 => ?_) (fun hb_149 => ?_)
     ·have H := H.1 hb_149
      exact H
     have H := H.2 hb_149
     refine pop_add .i64 t298_4 1 ?_
     obtain ⟨m_37, hm_37, H⟩ := H
     exact hn_31 _ _ ⟨m_37, hm_37, (w64 (t298_4 + 1)), rfl, H, hL_155⟩
    intro junk_39  h_156
    rintro ⟨hv, hJ_39, hL_156⟩
    have H := HB_39  h_156 hJ_39 hL_156
    refine H.mono fun rv_78 h_157 H => ?_
    obtain ⟨t333_7, t333_8, rfl, hL_157, H⟩ := H
    refine pop_ext (v := (Value.agg #[(Sl.v t333_7)])) rfl ?_
    refine pop_ext (v := (VI t333_8)) rfl ?_
    refine eop_alloc 32 zer32 rfl hL_157 (fun b_21 h_158 hb_150 hf_41 hL_158 => ?_)
    refine uop_loc siz32 hL_158 0 rfl 0 [(Sl.v t333_7)] rfl rfl rfl (Nat.le_of_ble_eq_true rfl) (L' := [(b_21, [(Sl.v t333_7)]), (b_20, [(Sl.v t276_7)]), (b_19, [(Sl.v t270_7)]), (b_18, [(Sl.v t264_7)]), (b_17, [(Sl.v t154_4)]), (b_1, [(Sl.v t61_1)])]) rfl (fun h_159 hf_42 hL_159 => ?_)
    refine rop_locA agg32 hL_159 0 rfl 0 (vs := [(Sl.v t333_7)]) rfl rfl ?_
    have H := H b_21 h_159 (Nat.le_trans (Fr.size (Fr.r (In []) _)) hb_150) (Fr.new (Fr.no' (Fr.r (In []) _) hf_41) (Nat.le_trans (Fr.size (Fr.r (In []) _)) hb_150) hf_42) hL_159
    refine H.mono fun rv_79 h_160 H => ?_
    obtain ⟨t339_7, t339_8, rfl, hL_160, H⟩ := H
    refine pop_ext (v := (VB t339_7)) rfl ?_
    refine pop_ext (v := (VB t339_8)) rfl ?_
    refine rop_locA agg32 hL_160 0 rfl 0 (vs := [(Sl.v t333_7)]) rfl rfl ?_
    refine H.mono fun rv_80 h_161 H => ?_
    obtain ⟨t345_7, t345_8, rfl, hL_161, H⟩ := H
    refine pop_ext (v := (VB t345_7)) rfl ?_
    refine pop_ext (v := (VB t345_8)) rfl ?_
    refine pop_bne boo4 _ _ t339_8 t345_8 ?_
    refine guardM_sf (fun hb_151 => ?_) (fun hb_151 => ?_)
    rotate_left
    ·have H := H.1 hb_151
     refine guardM_n' hb_151 (by decide) ?_
     refine guardM_n' hb_151 (by decide) ?_
     refine pop_pickt' hb_151 ?_
     refine condM_t ?_
     exact H
    have H := H.2 hb_151
    refine guardM_y' hb_151 ?_
    refine guardM_y' hb_151 ?_
    refine pop_bne boo4 _ _ t339_7 t345_7 ?_
    refine pop_pickf' hb_151 ?_
    refine condM_b (fun hb_152 => ?_) (fun hb_152 => ?_)
    ·have H := H.1 hb_152
     exact H
    have H := H.2 hb_152
    refine condM_b (fun hb_153 => ?_) (fun hb_153 => ?_)
    rotate_left
    ·have H := H.2 hb_153
     exact H
    have H := H.1 hb_153
    refine pop_field 0 fld32_0 b_21 0 ?_
    refine rop_loc one22 hL_161 0 rfl 0 (v := (Sl.v t333_7)) rfl ?_
    refine pop_len t333_7 _ _ sli22 ?_
    obtain ⟨J_40, ⟨n_64, h0_32⟩, HB_38⟩ := H
    refine loop_intro (J := fun (n : Nat) (vs : List Value) (h' : Heap) => ∃ all52_4 : Bool, ∃ t360_4 : Int, vs = [(VB all52_4), (VI t360_4)] ∧ J_40 n all52_4 t360_4 h' ∧ Vars h' [(b_21, [(Sl.v t333_7)]), (b_20, [(Sl.v t276_7)]), (b_19, [(Sl.v t270_7)]), (b_18, [(Sl.v t264_7)]), (b_17, [(Sl.v t154_4)]), (b_1, [(Sl.v t61_1)])]) n_64 ⟨true, 0, rfl, h0_32, hL_161⟩ ?_
    intro I_32 mu_32 hI_32 junk_40 tv_39 tv_40 h_162 hi_72
    obtain ⟨n_63, ⟨all52_4, t360_4, hv, hJ_40, hL_162⟩, hn_32⟩ := hI_32 _ _ hi_72
    cases hv
    have H := HB_38 n_63 all52_4 t360_4 h_162 hJ_40 hL_162
    refine pop_lss .i64 t360_4 (t333_7.n : Int) ?_
    refine condM_b (fun hb_154 => ?_) (fun hb_154 => ?_)
    rotate_left
    ·have H := H.2 hb_154
     refine pop_beq boo4 _ _ all52_4 t339_7 ?_
     exact H
    have H := H.1 hb_154
    refine rop_locA agg32 hL_162 0 rfl 0 (vs := [(Sl.v t333_7)]) rfl rfl ?_
    refine H.mono fun rv_81 h_163 H => ?_
    obtain ⟨t367_7, t367_8, rfl, hL_163, H⟩ := H
    refine pop_ext (v := (VI t367_7)) rfl ?_
    refine pop_ext (v := (VB t367_8)) rfl ?_
    refine guardM_st (fun hb_155 => ?_) (fun hb_155 => ?_)
    ·have H := H.1 hb_155
     refine pop_pickt' hb_155 ?_
     refine pop_add .i64 t360_4 1 ?_
     obtain ⟨m_39, hm_39, H⟩ := H
     exact hn_32 _ _ ⟨m_39, hm_39, t367_8, (w64 (t360_4 + 1)), rfl, H, hL_163⟩
    have H := H.2 hb_155
    refine pop_pickf' hb_155 ?_
    refine pop_add .i64 t360_4 1 ?_
    obtain ⟨m_40, hm_40, H⟩ := H
    exact hn_32 _ _ ⟨m_40, hm_40, false, (w64 (t360_4 + 1)), rfl, H, hL_163⟩
   have H := H.1 hb_84
   refine guardM_y' hb_84 ?_
   refine pop_lss .i64 t69_1 0 ?_
   refine guardM_y' hb_84 ?_
   refine guardM_sf (fun hb_85 => ?_) (fun hb_85 => ?_)
   rotate_left
   ·have H := H.1 hb_85
    refine guardM_n' hb_85 (by decide) ?_
    refine guardM_n' hb_85 (by decide) ?_
    refine guardM_n' hb_85 (by decide) ?_
    refine guardM_n' hb_85 (by decide) ?_
    refine guardM_y' hb_84 ?_
    refine pop_pickt' hb_85 ?_
    refine guardM_y' hb_84 ?_
    refine guardM_n (by decide) ?_
    refine guardM_n (by decide) ?_
    refine guardM_n (by decide) ?_
    refine guardM_n (by decide) ?_
    refine guardM_n (by decide) ?_
    refine guardM_n (by decide) ?_
    refine guardM_y' hb_84 ?_
    refine pop_pickt _ _ ?_
    refine pop_pickt' hb_84 ?_
    refine condM_t ?_
    exact H
   have H := H.2 hb_85
   refine guardM_y' hb_85 ?_
   refine pop_field 0 fld32_0 b_1 0 ?_
   refine guardM_y' hb_85 ?_
   refine rop_loc one22 hL_10 0 rfl 0 (v := (Sl.v t61_1)) rfl ?_
   refine guardM_y' hb_85 ?_
   refine pop_len t61_1 _ _ sli22 ?_
   refine guardM_y' hb_85 ?_
   refine pop_geq .i64 t69_1 (t61_1.n : Int) ?_
   refine guardM_y' hb_84 ?_
   refine pop_pickf' hb_85 ?_
   refine guardM_y' hb_84 ?_
   refine guardM_sf (fun hb_86 => ?_) (fun hb_86 => ?_)
   rotate_left
   ·have H := H.1 hb_86
    refine guardM_n' hb_86 (by decide) ?_
    refine guardM_n' hb_86 (by decide) ?_
    refine guardM_n' hb_86 (by decide) ?_
    refine guardM_n' hb_86 (by decide) ?_
    refine guardM_n' hb_86 (by decide) ?_
    refine guardM_y' hb_84 ?_
    refine pop_pickt' hb_86 ?_
    refine pop_pickt' hb_84 ?_
    refine condM_t ?_
    exact H
   have H := H.2 hb_86
   refine guardM_y' hb_86 ?_
   refine pop_ieq .i64 _ _ t69_1 0 ?_
   refine guardM_y' hb_86 ?_
   refine guardM_y' hb_86 ?_
   refine guardM_y' hb_86 ?_
   refine pop_ieq .i64 _ _ t61_2 t61_3 ?_
   refine guardM_y' hb_86 ?_
   refine pop_bne boo4 _ _ (decide (t69_1 = 0)) (decide (t61_2 = t61_3)) ?_
   refine guardM_y' hb_84 ?_
   refine pop_pickf' hb_86 ?_
   refine pop_pickt' hb_84 ?_
   refine condM_b (fun hb_87 => ?_) (fun hb_87 => ?_)
   ·have H := H.1 hb_87
    exact H
   have H := H.2 hb_87
   refine H.mono fun rv_46 h_88 H => ?_
   obtain ⟨t154_3, rfl, hL_88, H⟩ := H
   refine eop_alloc 32 zer32 rfl hL_88 (fun b_12 h_89 hb_88 hf_23 hL_89 => ?_)
   refine uop_loc siz32 hL_89 0 rfl 0 [(Sl.v t154_3)] rfl rfl rfl (Nat.le_of_ble_eq_true rfl) (L' := [(b_12, [(Sl.v t154_3)]), (b_1, [(Sl.v t61_1)])]) rfl (fun h_90 hf_24 hL_90 => ?_)
   refine rop_locA agg32 hL_90 0 rfl 0 (vs := [(Sl.v t154_3)]) rfl rfl ?_
   have H := H b_12 h_90 (Nat.le_trans (Fr.size (Fr.r (In []) _)) hb_88) (Fr.new (Fr.no' (Fr.r (In []) _) hf_23) (Nat.le_trans (Fr.size (Fr.r (In []) _)) hb_88) hf_24) hL_90
   refine H.mono fun rv_47 h_91 H => ?_
   obtain ⟨t157_5, t157_6, rfl, hL_91, H⟩ := H
   refine pop_ext (v := (Sl.v t157_5)) rfl ?_
   refine pop_ext (v := (VB t157_6)) rfl ?_
   refine rop_locA agg32 hL_91 0 rfl 0 (vs := [(Sl.v t154_3)]) rfl rfl ?_
   refine H.mono fun rv_48 h_92 H => ?_
   obtain ⟨t162_5, t162_6, rfl, hL_92, H⟩ := H
   refine pop_ext (v := (Sl.v t162_5)) rfl ?_
   refine pop_ext (v := (VB t162_6)) rfl ?_
   refine rop_locA agg32 hL_92 0 rfl 0 (vs := [(Sl.v t154_3)]) rfl rfl ?_
   refine H.mono fun rv_49 h_93 H => ?_
   obtain ⟨t167_5, t167_6, rfl, hL_93, H⟩ := H
   refine pop_ext (v := (VB t167_5)) rfl ?_
   refine pop_ext (v := (VB t167_6)) rfl ?_
   refine rop_locA agg32 hL_93 0 rfl 0 (vs := [(Sl.v t154_3)]) rfl rfl ?_
   refine H.mono fun rv_50 h_94 H => ?_
   obtain ⟨t172_5, t172_6, rfl, hL_94, H⟩ := H
   refine pop_ext (v := (VB t172_5)) rfl ?_
   refine pop_ext (v := (VB t172_6)) rfl ?_
   refine pop_bne boo4 _ _ t157_6 t162_6 ?_
   refine guardM_sf (fun hb_89 => ?_) (fun hb_89 => ?_)
   rotate_left
   ·have H := H.1 hb_89
    refine guardM_n' hb_89 (by decide) ?_
    refine guardM_n' hb_89 (by decide) ?_
    refine guardM_n' hb_89 (by decide) ?_
    refine pop_pickt' hb_89 ?_
    refine guardM_n (by decide) ?_
    refine guardM_n (by decide) ?_
    refine guardM_n (by decide) ?_
    refine pop_pickt _ _ ?_
    refine guardM_n (by decide) ?_
    refine guardM_n (by decide) ?_
    refine guardM_n (by decide) ?_
    refine pop_pickt _ _ ?_
    refine guardM_n (by decide) ?_
    refine guardM_n (by decide) ?_
    refine guardM_n (by decide) ?_
    refine pop_pickt _ _ ?_
    refine condM_t ?_
    exact H
   have H := H.2 hb_89
   refine guardM_y' hb_89 ?_
   refine guardM_y' hb_89 ?_
   refine H.mono fun rv_51 h_95 H => ?_
   obtain ⟨t181_3, rfl, hL_95, H⟩ := H
   refine guardM_y' hb_89 ?_
   refine pop_not t181_3 ?_
   refine pop_pickf' hb_89 ?_
   refine guardM_sf (fun hb_90 => ?_) (fun hb_90 => ?_)
   rotate_left
   ·have H := H.1 hb_90
    refine guardM_n' hb_90 (by decide) ?_
    refine guardM_n' hb_90 (by decide) ?_
    refine pop_pickt' hb_90 ?_
    refine guardM_n (by decide) ?_
    refine guardM_n (by decide) ?_
    refine guardM_n (by decide) ?_
    refine pop_pickt _ _ ?_
    refine guardM_n (by decide) ?_
    refine guardM_n (by decide) ?_
    refine guardM_n (by decide) ?_
    refine pop_pickt _ _ ?_
    refine condM_t ?_
    exact H
   have H := H.2 hb_90
   refine guardM_y' hb_90 ?_
   refine guardM_y' hb_90 ?_
   refine pop_bne boo4 _ _ t167_6 t172_6 ?_
   refine pop_pickf' hb_90 ?_
   refine guardM_sf (fun hb_91 => ?_) (fun hb_91 => ?_)
   rotate_left
   ·have H := H.1 hb_91
    refine guardM_n' hb_91 (by decide) ?_
    refine guardM_n' hb_91 (by decide) ?_
    refine pop_pickt' hb_91 ?_
    refine guardM_n (by decide) ?_
    refine guardM_n (by decide) ?_
    refine guardM_n (by decide) ?_
    refine pop_pickt _ _ ?_
    refine condM_t ?_
    exact H
   have H := H.2 hb_91
   refine guardM_y' hb_91 ?_
   refine guardM_y' hb_91 ?_
   refine pop_bne boo4 _ _ t167_5 t172_5 ?_
   refine pop_pickf' hb_91 ?_
   refine guardM_sf (fun hb_92 => ?_) (fun hb_92 => ?_)
   rotate_left
   ·have H := H.1 hb_92
    refine guardM_n' hb_92 (by decide) ?_
    refine guardM_n' hb_92 (by decide) ?_
    refine pop_pickt' hb_92 ?_
    refine condM_t ?_
    exact H
   have H := H.2 hb_92
   refine guardM_y' hb_92 ?_
   refine guardM_y' hb_92 ?_
   refine pop_bne boo4 _ _ t167_6 t157_6 ?_
   refine pop_pickf' hb_92 ?_
   refine condM_b (fun hb_93 => ?_) (fun hb_93 => ?_)
   ·have H := H.1 hb_93
    exact H
   have H := H.2 hb_93
   obtain ⟨J_21, H, HB_30⟩ := H
   refine ⟨fun (vs : List Value) (h' : Heap) => vs = [] ∧ J_21  h' ∧ Vars h' [(b_12, [(Sl.v t154_3)]), (b_1, [(Sl.v t61_1)])], ?_, ?_⟩
   ·refine condM_b (fun hb_94 => ?_) (fun hb_94 => ?_)
    rotate_left
    ·have H := H.2 hb_94
     exact ⟨rfl, H, hL_95⟩
    have H := H.1 hb_94
    refine pop_len t157_5 _ _ sli22 ?_
    obtain ⟨J_22, ⟨n_42, h0_21⟩, HB_25⟩ := H
    refine loop_intro (J := fun (n : Nat) (vs : List Value) (h' : Heap) => ∃ count25_3 : Int, ∃ t202_3 : Int, vs = [(VI count25_3), (VI t202_3)] ∧ J_22 n count25_3 t202_3 h' ∧ Vars h' [(b_12, [(Sl.v t154_3)]), (b_1, [(Sl.v t61_1)])]) n_42 ⟨0, 0, rfl, h0_21, hL_95⟩ ?_
    intro I_21 mu_21 hI_21 junk_21 tv_25 tv_26 h_96 hi_37
    obtain ⟨n_33, ⟨count25_3, t202_3, hv, hJ_21, hL_96⟩, hn_17⟩ := hI_21 _ _ hi_37
    cases hv
    have H := HB_25 n_33 count25_3 t202_3 h_96 hJ_21 hL_96
    refine pop_lss .i64 t202_3 (t157_5.n : Int) ?_
    refine condM_b (fun hb_95 => ?_) (fun hb_95 => ?_)
    rotate_left
    ·have H := H.2 hb_95
     refine pop_field 0 fld32_0 b_12 0 ?_
     refine rop_loc one22 hL_96 0 rfl 0 (v := (Sl.v t154_3)) rfl ?_
     refine pop_len t154_3 _ _ sli22 ?_
     refine pop_ine .i64 _ _ count25_3 (t154_3.n : Int) ?_
     refine guardM_sf (fun hb_104 => ?_) (fun hb_104 => ?_)
     rotate_left
     ·have H := H.1 hb_104
      refine guardM_n' hb_104 (by decide) ?_
      refine guardM_n' hb_104 (by decide) ?_
      refine guardM_n' hb_104 (by decide) ?_
      refine guardM_n' hb_104 (by decide) ?_
      refine pop_pickt' hb_104 ?_
      refine condM_t ?_
      exact H
     have H := H.2 hb_104
     refine guardM_y' hb_104 ?_
     refine guardM_y' hb_104 ?_
     refine pop_len t157_5 _ _ sli22 ?_
     refine guardM_y' hb_104 ?_
     refine pop_ieq .i64 _ _ (t157_5.n : Int) 1 ?_
     refine guardM_y' hb_104 ?_
     refine pop_bne boo4 _ _ t167_5 (decide ((t157_5.n : Int) = 1)) ?_
     refine pop_pickf' hb_104 ?_
     refine condM_b (fun hb_105 => ?_) (fun hb_105 => ?_)
     ·have H := H.1 hb_105
      exact H
     have H := H.2 hb_105
     exact ⟨rfl, H, hL_96⟩
    have H := H.1 hb_95
    obtain ⟨hi_38, H⟩ := H
    refine pop_index sli22 siz27 .i64 t157_5 t202_3 hi_38 ?_
    obtain ⟨t206_3, hc_28, H⟩ := H
    refine rop_one one27 (Sl.v t206_3) hc_28 ?_
    refine pop_len t206_3 _ _ sli27 ?_
    refine pop_add .i64 count25_3 (t206_3.n : Int) ?_
    refine pop_gtr .i64 t202_3 0 ?_
    refine guardM_st (fun hb_96 => ?_) (fun hb_96 => ?_)
    rotate_left
    ·have H := H.2 hb_96
     refine guardM_n' hb_96 (by decide) ?_
     refine guardM_n' hb_96 (by decide) ?_
     refine guardM_n' hb_96 (by decide) ?_
     refine guardM_n' hb_96 (by decide) ?_
     refine guardM_n' hb_96 (by decide) ?_
     refine guardM_n' hb_96 (by decide) ?_
     refine guardM_n' hb_96 (by decide) ?_
     refine guardM_n' hb_96 (by decide) ?_
     refine guardM_n' hb_96 (by decide) ?_
     refine guardM_n' hb_96 (by decide) ?_
     refine pop_pickf' hb_96 ?_
     refine condM_f ?_
     refine pop_len t206_3 _ _ sli27 ?_
     obtain ⟨J_25, ⟨n_41, h0_20⟩, HB_24⟩ := H
     refine loop_intro (J := fun (n : Nat) (vs : List Value) (h' : Heap) => ∃ t228_6 : Int, vs = [(VI t228_6)] ∧ J_25 n t228_6 h' ∧ Vars h' [(b_12, [(Sl.v t154_3)]), (b_1, [(Sl.v t61_1)])]) n_41 ⟨0, rfl, h0_20, hL_96⟩ ?_
     intro I_20 mu_20 hI_20 junk_24 tv_24 h_100 hi_46
     obtain ⟨n_38, ⟨t228_6, hv, hJ_24, hL_100⟩, hn_20⟩ := hI_20 _ _ hi_46
     cases hv
     have H := HB_24 n_38 t228_6 h_100 hJ_24 hL_100
     refine pop_lss .i64 t228_6 (t206_3.n : Int) ?_
     refine condM_b (fun hb_101 => ?_) (fun hb_101 => ?_)
     rotate_left
     ·have H := H.2 hb_101
      refine pop_add .i64 t202_3 1 ?_
      obtain ⟨m_26, hm_26, H⟩ := H
      exact hn_17 _ _ ⟨m_26, hm_26, (w64 (count25_3 + (t206_3.n : Int))), (w64 (t202_3 + 1)), rfl, H, hL_100⟩
     have H := H.1 hb_101
     obtain ⟨hi_47, H⟩ := H
     refine pop_index sli27 siz3 .i64 t206_3 t228_6 hi_47 ?_
     obtain ⟨t231_6, hc_27, H⟩ := H
     refine rop_one one3 (VI t231_6) hc_27 ?_
     refine pop_len t206_3 _ _ sli27 ?_
     obtain ⟨J_26, ⟨n_40, h0_19⟩, HB_23⟩ := H
     refine loop_intro (J := fun (n : Nat) (vs : List Value) (h' : Heap) => ∃ t234_6 : Int, vs = [(VI t234_6)] ∧ J_26 n t234_6 h' ∧ Vars h' [(b_12, [(Sl.v t154_3)]), (b_1, [(Sl.v t61_1)])]) n_40 ⟨0, rfl, h0_19, hL_100⟩ ?_
     intro I_19 mu_19 hI_19 junk_25 tv_23 h_101 hi_48
     obtain ⟨n_39, ⟨t234_6, hv, hJ_25, hL_101⟩, hn_21⟩ := hI_19 _ _ hi_48
     cases hv
     have H := HB_23 n_39 t234_6 h_101 hJ_25 hL_101
     refine pop_lss .i64 t234_6 (t206_3.n : Int) ?_
     refine condM_b (fun hb_102 => ?_) (fun hb_102 => ?_)
     rotate_left
     ·have H := H.2 hb_102
      refine pop_add .i64 t228_6 1 ?_
      obtain ⟨m_25, hm_25, H⟩ := H
      exact hn_20 _ _ ⟨m_25, hm_25, (w64 (t228_6 + 1)), rfl, H, hL_101⟩
     have H := H.1 hb_102
     obtain ⟨hi_49, H⟩ := H
     refine pop_index sli27 siz3 .i64 t206_3 t234_6 hi_49 ?_
     obtain ⟨t237_6, hc_26, H⟩ := H
     refine rop_one one3 (VI t237_6) hc_26 ?_
     refine rop_locA agg32 hL_101 0 rfl 0 (vs := [(Sl.v t154_3)]) rfl rfl ?_
     refine H.mono fun rv_53 h_102 H => ?_
     obtain ⟨t242_11, t242_12, rfl, hL_102, H⟩ := H
     refine pop_ext (v := (VI t242_11)) rfl ?_
     refine pop_ext (v := (VB t242_12)) rfl ?_
     refine pop_not t242_12 ?_
     refine condM_b (fun hb_103 => ?_) (fun hb_103 => ?_)
     ·have H := H.1 hb_103
      exact H
     have H := H.2 hb_103
     refine pop_add .i64 t234_6 1 ?_
     obtain ⟨m_24, hm_24, H⟩ := H
     exact hn_21 _ _ ⟨m_24, hm_24, (w64 (t234_6 + 1)), rfl, H, hL_102⟩
    have H := H.1 hb_96
    refine guardM_y' hb_96 ?_
    refine guardM_y' hb_96 ?_
    refine pop_sub .i64 t202_3 1 ?_
    refine guardM_y' hb_96 ?_
    obtain ⟨hi_39, H⟩ := H
    refine pop_index sli22 siz27 .i64 t157_5 (w64 (t202_3 - 1)) hi_39 ?_
    refine guardM_y' hb_96 ?_
    obtain ⟨t218_3, hc_25, H⟩ := H
    refine rop_one one27 (Sl.v t218_3) hc_25 ?_
    refine guardM_y' hb_96 ?_
    obtain ⟨hi_40, H⟩ := H
    refine pop_index sli27 siz3 .i64 t218_3 0 hi_40 ?_
    refine guardM_y' hb_96 ?_
    obtain ⟨t220_3, hc_24, H⟩ := H
    refine rop_one one3 (VI t220_3) hc_24 ?_
    refine guardM_y' hb_96 ?_
    refine guardM_y' hb_96 ?_
    obtain ⟨hi_41, H⟩ := H
    refine pop_index sli27 siz3 .i64 t206_3 0 hi_41 ?_
    refine guardM_y' hb_96 ?_
    obtain ⟨t223_3, hc_23, H⟩ := H
    refine rop_one one3 (VI t223_3) hc_23 ?_
    refine guardM_y' hb_96 ?_
    refine pop_geq .i64 t220_3 t223_3 ?_
    refine pop_pickt' hb_96 ?_
    refine condM_b (fun hb_97 => ?_) (fun hb_97 => ?_)
    ·have H := H.1 hb_97
     exact H
    have H := H.2 hb_97
    refine pop_len t206_3 _ _ sli27 ?_
    obtain ⟨J_23, ⟨n_37, h0_18⟩, HB_22⟩ := H
    refine loop_intro (J := fun (n : Nat) (vs : List Value) (h' : Heap) => ∃ t228_5 : Int, vs = [(VI t228_5)] ∧ J_23 n t228_5 h' ∧ Vars h' [(b_12, [(Sl.v t154_3)]), (b_1, [(Sl.v t61_1)])]) n_37 ⟨0, rfl, h0_18, hL_96⟩ ?_
    intro I_18 mu_18 hI_18 junk_22 tv_22 h_97 hi_42
    obtain ⟨n_34, ⟨t228_5, hv, hJ_22, hL_97⟩, hn_18⟩ := hI_18 _ _ hi_42
    cases hv
    have H := HB_22 n_34 t228_5 h_97 hJ_22 hL_97
    refine pop_lss .i64 t228_5 (t206_3.n : Int) ?_
    refine condM_b (fun hb_98 => ?_) (fun hb_98 => ?_)
    rotate_left
    ·have H := H.2 hb_98
     refine pop_add .i64 t202_3 1 ?_
     obtain ⟨m_23, hm_23, H⟩ := H
     exact hn_17 _ _ ⟨m_23, hm_23, (w64 (count25_3 + (t206_3.n : Int))), (w64 (t202_3 + 1)), rfl, H, hL_97⟩
    have H := H.1 hb_98
    obtain ⟨hi_43, H⟩ := H
    refine pop_index sli27 siz3 .i64 t206_3 t228_5 hi_43 ?_
    obtain ⟨t231_5, hc_22, H⟩ := H
    refine rop_one one3 (VI t231_5) hc_22 ?_
    refine pop_len t206_3 _ _ sli27 ?_
    obtain ⟨J_24, ⟨n_36, h0_17⟩, HB_21⟩ := H
    refine loop_intro (J := fun (n : Nat) (vs : List Value) (h' : Heap) => ∃ t234_5 : Int, vs = [(VI t234_5)] ∧ J_24 n t234_5 h' ∧ Vars h' [(b_12, [(Sl.v t154_3)]), (b_1, [(Sl.v t61_1)])]) n_36 ⟨0, rfl, h0_17, hL_97⟩ ?_
    intro I_17 mu_17 hI_17 junk_23 tv_21 h_98 hi_44
    obtain ⟨n_35, ⟨t234_5, hv, hJ_23, hL_98⟩, hn_19⟩ := hI_17 _ _ hi_44
    cases hv
    have H := HB_21 n_35 t234_5 h_98 hJ_23 hL_98
    refine pop_lss .i64 t234_5 (t206_3.n : Int) ?_
    refine condM_b (fun hb_99 => ?_) (fun hb_99 => ?_)
    rotate_left
    ·have H := H.2 hb_99
     refine pop_add .i64 t228_5 1 ?_
     obtain ⟨m_22, hm_22, H⟩ := H
     exact hn_18 _ _ ⟨m_22, hm_22, (w64 (t228_5 + 1)), rfl, H, hL_98⟩
    have H := H.1 hb_99
    obtain ⟨hi_45, H⟩ := H
    refine pop_index sli27 siz3 .i64 t206_3 t234_5 hi_45 ?_
    obtain ⟨t237_5, hc_21, H⟩ := H
    refine rop_one one3 (VI t237_5) hc_21 ?_
    refine rop_locA agg32 hL_98 0 rfl 0 (vs := [(Sl.v t154_3)]) rfl rfl ?_
    refine H.mono fun rv_52 h_99 H => ?_
    obtain ⟨t242_9, t242_10, rfl, hL_99, H⟩ := H
    refine pop_ext (v := (VI t242_9)) rfl ?_
    refine pop_ext (v := (VB t242_10)) rfl ?_
    refine pop_not t242_10 ?_
    refine condM_b (fun hb_100 => ?_) (fun hb_100 => ?_)
    ·have H := H.1 hb_100
     exact H
    have H := H.2 hb_100
    refine pop_add .i64 t234_5 1 ?_
    obtain ⟨m_21, hm_21, H⟩ := H
    exact hn_19 _ _ ⟨m_21, hm_21, (w64 (t234_5 + 1)), rfl, H, hL_99⟩
   intro junk_26  h_103
   rintro ⟨hv, hJ_26, hL_103⟩
   have H := HB_30  h_103 hJ_26 hL_103
   refine H.mono fun rv_54 h_104 H => ?_
   obtain ⟨t264_5, t264_6, rfl, hL_104, H⟩ := H
   refine pop_ext (v := (Value.agg #[(Sl.v t264_5)])) rfl ?_
   refine pop_ext (v := (Sl.v t264_6)) rfl ?_
   refine eop_alloc 32 zer32 rfl hL_104 (fun b_13 h_105 hb_106 hf_25 hL_105 => ?_)
   refine uop_loc siz32 hL_105 0 rfl 0 [(Sl.v t264_5)] rfl rfl rfl (Nat.le_of_ble_eq_true rfl) (L' := [(b_13, [(Sl.v t264_5)]), (b_12, [(Sl.v t154_3)]), (b_1, [(Sl.v t61_1)])]) rfl (fun h_106 hf_26 hL_106 => ?_)
   refine rop_locA agg32 hL_106 0 rfl 0 (vs := [(Sl.v t264_5)]) rfl rfl ?_
   have H := H b_13 h_106 (Nat.le_trans (Fr.size (Fr.r (In []) _)) hb_106) (Fr.new (Fr.no' (Fr.r (In []) _) hf_25) (Nat.le_trans (Fr.size (Fr.r (In []) _)) hb_106) hf_26) hL_106
   refine H.mono fun rv_55 h_107 H => ?_
   obtain ⟨t270_5, t270_6, rfl, hL_107, H⟩ := H
   refine pop_ext (v := (Value.agg #[(Sl.v t270_5)])) rfl ?_
   refine pop_ext (v := (VB t270_6)) rfl ?_
   refine eop_alloc 32 zer32 rfl hL_107 (fun b_14 h_108 hb_107 hf_27 hL_108 => ?_)
   refine uop_loc siz32 hL_108 0 rfl 0 [(Sl.v t270_5)] rfl rfl rfl (Nat.le_of_ble_eq_true rfl) (L' := [(b_14, [(Sl.v t270_5)]), (b_13, [(Sl.v t264_5)]), (b_12, [(Sl.v t154_3)]), (b_1, [(Sl.v t61_1)])]) rfl (fun h_109 hf_28 hL_109 => ?_)
   refine rop_locA agg32 hL_109 1 rfl 0 (vs := [(Sl.v t264_5)]) rfl rfl ?_
   have H := H b_14 h_109 (Nat.le_trans (Fr.size (Fr.r (In []) _)) hb_107) (Fr.new (Fr.no' (Fr.r (In []) _) hf_27) (Nat.le_trans (Fr.size (Fr.r (In []) _)) hb_107) hf_28) hL_109
   refine H.mono fun rv_56 h_110 H => ?_
   obtain ⟨t276_5, t276_6, rfl, hL_110, H⟩ := H
   refine pop_ext (v := (Value.agg #[(Sl.v t276_5)])) rfl ?_
   refine pop_ext (v := (VB t276_6)) rfl ?_
   refine eop_alloc 32 zer32 rfl hL_110 (fun b_15 h_111 hb_108 hf_29 hL_111 => ?_)
   refine uop_loc siz32 hL_111 0 rfl 0 [(Sl.v t276_5)] rfl rfl rfl (Nat.le_of_ble_eq_true rfl) (L' := [(b_15, [(Sl.v t276_5)]), (b_14, [(Sl.v t270_5)]), (b_13, [(Sl.v t264_5)]), (b_12, [(Sl.v t154_3)]), (b_1, [(Sl.v t61_1)])]) rfl (fun h_112 hf_30 hL_112 => ?_)
   refine pop_bne boo4 _ _ t270_6 t276_6 ?_
   refine guardM_sf (fun hb_109 => ?_) (fun hb_109 => ?_)
   rotate_left
   ·have H := H.1 hb_109
    refine guardM_n' hb_109 (by decide) ?_
    refine guardM_n' hb_109 (by decide) ?_
    refine guardM_n' hb_109 (by decide) ?_
    refine pop_pickt' hb_109 ?_
    refine condM_t ?_
    have H := H b_15 h_112 (Nat.le_trans (Fr.size (Fr.r (In []) _)) hb_108) (Fr.new (Fr.no' (Fr.r (In []) _) hf_29) (Nat.le_trans (Fr.size (Fr.r (In []) _)) hb_108) hf_30) hL_112
    exact H
   have H := H.2 hb_109
   refine rop_locA agg32 hL_112 1 rfl 0 (vs := [(Sl.v t270_5)]) rfl rfl ?_
   refine guardM_y' hb_109 ?_
   refine rop_locA agg32 hL_112 0 rfl 0 (vs := [(Sl.v t276_5)]) rfl rfl ?_
   refine guardM_y' hb_109 ?_
   have H := H b_15 h_112 (Nat.le_trans (Fr.size (Fr.r (In []) _)) hb_108) (Fr.new (Fr.no' (Fr.r (In []) _) hf_29) (Nat.le_trans (Fr.size (Fr.r (In []) _)) hb_108) hf_30) hL_112
   refine H.mono fun rv_57 h_113 H => ?_
   obtain ⟨t285_3, rfl, hL_113, H⟩ := H
   refine guardM_y' hb_109 ?_
   refine pop_not t285_3 ?_
   refine pop_pickf' hb_109 ?_
   refine condM_b (fun hb_110 => ?_) (fun hb_110 => ?_)
   ·have H := H.1 hb_110
    exact H
   have H := H.2 hb_110
   obtain ⟨J_27, H, HB_29⟩ := H
   refine ⟨fun (vs : List Value) (h' : Heap) => vs = [] ∧ J_27  h' ∧ Vars h' [(b_15, [(Sl.v t276_5)]), (b_14, [(Sl.v t270_5)]), (b_13, [(Sl.v t264_5)]), (b_12, [(Sl.v t154_3)]), (b_1, [(Sl.v t61_1)])], ?_, ?_⟩
   ·refine condM_b (fun hb_111 => ?_) (fun hb_111 => ?_)
    rotate_left
    ·have H := H.2 hb_111
     exact ⟨rfl, H, hL_113⟩
    have H := H.1 hb_111
    refine pop_field 0 fld32_0 b_13 0 ?_
    refine rop_loc one22 hL_113 2 rfl 0 (v := (Sl.v t264_5)) rfl ?_
    refine pop_len t264_5 _ _ sli22 ?_
    obtain ⟨J_28, ⟨n_46, h0_23⟩, HB_27⟩ := H
    refine loop_intro (J := fun (n : Nat) (vs : List Value) (h' : Heap) => ∃ t292_3 : Int, vs = [(VI t292_3)] ∧ J_28 n t292_3 h' ∧ Vars h' [(b_15, [(Sl.v t276_5)]), (b_14, [(Sl.v t270_5)]), (b_13, [(Sl.v t264_5)]), (b_12, [(Sl.v t154_3)]), (b_1, [(Sl.v t61_1)])]) n_46 ⟨0, rfl, h0_23, hL_113⟩ ?_
    intro I_23 mu_23 hI_23 junk_27 tv_28 h_114 hi_50
    obtain ⟨n_43, ⟨t292_3, hv, hJ_27, hL_114⟩, hn_22⟩ := hI_23 _ _ hi_50
    cases hv
    have H := HB_27 n_43 t292_3 h_114 hJ_27 hL_114
    refine pop_lss .i64 t292_3 (t264_5.n : Int) ?_
    refine condM_b (fun hb_112 => ?_) (fun hb_112 => ?_)
    rotate_left
    ·have H := H.2 hb_112
     exact ⟨rfl, H, hL_114⟩
    have H := H.1 hb_112
    refine pop_field 0 fld32_0 b_13 0 ?_
    refine rop_loc one22 hL_114 2 rfl 0 (v := (Sl.v t264_5)) rfl ?_
    refine pop_len t264_5 _ _ sli22 ?_
    obtain ⟨J_29, ⟨n_45, h0_22⟩, HB_26⟩ := H
    refine loop_intro (J := fun (n : Nat) (vs : List Value) (h' : Heap) => ∃ t298_3 : Int, vs = [(VI t298_3)] ∧ J_29 n t298_3 h' ∧ Vars h' [(b_15, [(Sl.v t276_5)]), (b_14, [(Sl.v t270_5)]), (b_13, [(Sl.v t264_5)]), (b_12, [(Sl.v t154_3)]), (b_1, [(Sl.v t61_1)])]) n_45 ⟨0, rfl, h0_22, hL_114⟩ ?_
    intro I_22 mu_22 hI_22 junk_28 tv_27 h_115 hi_51
    obtain ⟨n_44, ⟨t298_3, hv, hJ_28, hL_115⟩, hn_23⟩ := hI_22 _ _ hi_51
    cases hv
    have H := HB_26 n_44 t298_3 h_115 hJ_28 hL_115
    refine pop_lss .i64 t298_3 (t264_5.n : Int) ?_
    refine condM_b (fun hb_113 => ?_) (fun hb_113 => ?_)
    rotate_left
    ·have H := H.2 hb_113
     refine pop_add .i64 t292_3 1 ?_
     obtain ⟨m_28, hm_28, H⟩ := H
     exact hn_22 _ _ ⟨m_28, hm_28, (w64 (t292_3 + 1)), rfl, H, hL_115⟩
    have H := H.1 hb_113
    refine rop_locA agg32 hL_115 2 rfl 0 (vs := [(Sl.v t264_5)]) rfl rfl ?_
    refine H.mono fun rv_58 h_116 H => ?_
    obtain ⟨t305_5, t305_6, rfl, hL_116, H⟩ := H
    refine pop_ext (v := (VI t305_5)) rfl ?_
    refine pop_ext (v := (VB t305_6)) rfl ?_
    refine rop_locA agg32 hL_116 1 rfl 0 (vs := [(Sl.v t270_5)]) rfl rfl ?_
    obtain ⟨hi_52, H⟩ := H
    refine pop_index sli27 siz3 .i64 t264_6 t292_3 hi_52 ?_
    obtain ⟨t313_3, hc_30, H⟩ := H
    refine rop_one one3 (VI t313_3) hc_30 ?_
    obtain ⟨hi_53, H⟩ := H
    refine pop_index sli27 siz3 .i64 t264_6 t298_3 hi_53 ?_
    obtain ⟨t317_3, hc_29, H⟩ := H
    refine rop_one one3 (VI t317_3) hc_29 ?_
    refine H.mono fun rv_59 h_117 H => ?_
    obtain ⟨t318_5, t318_6, rfl, hL_117, H⟩ := H
    refine pop_ext (v := (VI t318_5)) rfl ?_
    refine pop_ext (v := (VB t318_6)) rfl ?_
    refine pop_bne boo4 _ _ t305_6 t318_6 ?_
    refine guardM_sf (fun hb_114 => ?_) (fun hb_114 => ?_)
    rotate_left
    ·have H := H.1 hb_114
     refine guardM_n' hb_114 (by decide) ?_
     refine guardM_n' hb_114 (by decide) ?_
     refine pop_pickt' hb_114 ?_
     refine condM_t ?_
     exact H
    have H := H.2 hb_114
    refine guardM_y' hb_114 ?_
    refine guardM_y' hb_114 ?_
    refine pop_ine .i64 _ _ t305_5 t318_5 ?_
    refine pop_pickf' hb_114 ?_
    refine condM_b (fun hb_115 => ?_) (fun hb_115 => ?_)
    ·have H := H.1 hb_115
     exact H
    have H := H.2 hb_115
    refine pop_add .i64 t298_3 1 ?_
    obtain ⟨m_27, hm_27, H⟩ := H
    exact hn_23 _ _ ⟨m_27, hm_27, (w64 (t298_3 + 1)), rfl, H, hL_117⟩
   intro junk_29  h_118
   rintro ⟨hv, hJ_29, hL_118⟩
   have H := HB_29  h_118 hJ_29 hL_118
   refine H.mono fun rv_60 h_119 H => ?_
   obtain ⟨t333_5, t333_6, rfl, hL_119, H⟩ := H
   refine pop_ext (v := (Value.agg #[(Sl.v t333_5)])) rfl ?_
   refine pop_ext (v := (VI t333_6)) rfl ?_
   refine eop_alloc 32 zer32 rfl hL_119 (fun b_16 h_120 hb_116 hf_31 hL_120 => ?_)
   refine uop_loc siz32 hL_120 0 rfl 0 [(Sl.v t333_5)] rfl rfl rfl (Nat.le_of_ble_eq_true rfl) (L' := [(b_16, [(Sl.v t333_5)]), (b_15, [(Sl.v t276_5)]), (b_14, [(Sl.v t270_5)]), (b_13, [(Sl.v t264_5)]), (b_12, [(Sl.v t154_3)]), (b_1, [(Sl.v t61_1)])]) rfl (fun h_121 hf_32 hL_121 => ?_)
   refine rop_locA agg32 hL_121 0 rfl 0 (vs := [(Sl.v t333_5)]) rfl rfl ?_
   have H := H b_16 h_121 (Nat.le_trans (Fr.size (Fr.r (In []) _)) hb_116) (Fr.new (Fr.no' (Fr.r (In []) _) hf_31) (Nat.le_trans (Fr.size (Fr.r (In []) _)) hb_116) hf_32) hL_121
   refine H.mono fun rv_61 h_122 H => ?_
   obtain ⟨t339_5, t339_6, rfl, hL_122, H⟩ := H
   refine pop_ext (v := (VB t339_5)) rfl ?_
   refine pop_ext (v := (VB t339_6)) rfl ?_
   refine rop_locA agg32 hL_122 0 rfl 0 (vs := [(Sl.v t333_5)]) rfl rfl ?_
   refine H.mono fun rv_62 h_123 H => ?_
   obtain ⟨t345_5, t345_6, rfl, hL_123, H⟩ := H
   refine pop_ext (v := (VB t345_5)) rfl ?_
   refine pop_ext (v := (VB t345_6)) rfl ?_
   refine pop_bne boo4 _ _ t339_6 t345_6 ?_
   refine guardM_sf (fun hb_117 => ?_) (fun hb_117 => ?_)
   rotate_left
   ·have H := H.1 hb_117
    refine guardM_n' hb_117 (by decide) ?_
    refine guardM_n' hb_117 (by decide) ?_
    refine pop_pickt' hb_117 ?_
    refine condM_t ?_
    exact H
   have H := H.2 hb_117
   refine guardM_y' hb_117 ?_
   refine guardM_y' hb_117 ?_
   refine pop_bne boo4 _ _ t339_5 t345_5 ?_
   refine pop_pickf' hb_117 ?_
   refine condM_b (fun hb_118 => ?_) (fun hb_118 => ?_)
   ·have H := H.1 hb_118
    exact H
   have H := H.2 hb_118
   refine condM_b (fun hb_119 => ?_) (fun hb_119 => ?_)
   rotate_left
   ·have H := H.2 hb_119
    exact H
   have H := H.1 hb_119
   refine pop_field 0 fld32_0 b_16 0 ?_
   refine rop_loc one22 hL_123 0 rfl 0 (v := (Sl.v t333_5)) rfl ?_
   refine pop_len t333_5 _ _ sli22 ?_
   obtain ⟨J_30, ⟨n_48, h0_24⟩, HB_28⟩ := H
   refine loop_intro (J := fun (n : Nat) (vs : List Value) (h' : Heap) => ∃ all52_3 : Bool, ∃ t360_3 : Int, vs = [(VB all52_3), (VI t360_3)] ∧ J_30 n all52_3 t360_3 h' ∧ Vars h' [(b_16, [(Sl.v t333_5)]), (b_15, [(Sl.v t276_5)]), (b_14, [(Sl.v t270_5)]), (b_13, [(Sl.v t264_5)]), (b_12, [(Sl.v t154_3)]), (b_1, [(Sl.v t61_1)])]) n_48 ⟨true, 0, rfl, h0_24, hL_123⟩ ?_
   intro I_24 mu_24 hI_24 junk_30 tv_29 tv_30 h_124 hi_54
   obtain ⟨n_47, ⟨all52_3, t360_3, hv, hJ_30, hL_124⟩, hn_24⟩ := hI_24 _ _ hi_54
   cases hv
   have H := HB_28 n_47 all52_3 t360_3 h_124 hJ_30 hL_124
   refine pop_lss .i64 t360_3 (t333_5.n : Int) ?_
   refine condM_b (fun hb_120 => ?_) (fun hb_120 => ?_)
   rotate_left
   ·have H := H.2 hb_120
    refine pop_beq boo4 _ _ all52_3 t339_5 ?_
    exact H
   have H := H.1 hb_120
   refine rop_locA agg32 hL_124 0 rfl 0 (vs := [(Sl.v t333_5)]) rfl rfl ?_
   refine H.mono fun rv_63 h_125 H => ?_
   obtain ⟨t367_5, t367_6, rfl, hL_125, H⟩ := H
   refine pop_ext (v := (VI t367_5)) rfl ?_
   refine pop_ext (v := (VB t367_6)) rfl ?_
   refine guardM_st (fun hb_121 => ?_) (fun hb_121 => ?_)
   ·have H := H.1 hb_121
    refine pop_pickt' hb_121 ?_
    refine pop_add .i64 t360_3 1 ?_
    obtain ⟨m_29, hm_29, H⟩ := H
    exact hn_24 _ _ ⟨m_29, hm_29, t367_6, (w64 (t360_3 + 1)), rfl, H, hL_125⟩
   have H := H.2 hb_121
   refine pop_pickf' hb_121 ?_
   refine pop_add .i64 t360_3 1 ?_
   obtain ⟨m_30, hm_30, H⟩ := H
   exact hn_24 _ _ ⟨m_30, hm_30, false, (w64 (t360_3 + 1)), rfl, H, hL_125⟩
  have H := H.1 hb_10
  refine guardM_y' hb_10 ?_
  refine guardM_y' hb_10 ?_
  refine guardM_y' hb_10 ?_
  refine H.mono fun rv_9 h_11 H => ?_
  obtain ⟨t130_1, rfl, hL_11, H⟩ := H
  refine guardM_y' hb_10 ?_
  refine pop_bne boo4 _ _ t69_2 t130_1 ?_
  refine pop_pickt' hb_10 ?_
  refine condM_b (fun hb_11 => ?_) (fun hb_11 => ?_)
  ·have H := H.1 hb_11
   exact H
  have H := H.2 hb_11
  refine guardM_st (fun hb_12 => ?_) (fun hb_12 => ?_)
  rotate_left
  ·have H := H.2 hb_12
   refine guardM_n' hb_12 (by decide) ?_
   refine guardM_n' hb_12 (by decide) ?_
   refine guardM_n (by decide) ?_
   refine guardM_n (by decide) ?_
   refine guardM_n (by decide) ?_
   refine guardM_n (by decide) ?_
   refine guardM_n (by decide) ?_
   refine guardM_n' hb_12 (by decide) ?_
   refine guardM_n' hb_12 (by decide) ?_
   refine guardM_n (by decide) ?_
   refine guardM_n (by decide) ?_
   refine guardM_n (by decide) ?_
   refine guardM_n (by decide) ?_
   refine guardM_n (by decide) ?_
   refine guardM_n (by decide) ?_
   refine guardM_n' hb_12 (by decide) ?_
   refine pop_pickf' hb_12 ?_
   refine condM_f ?_
   refine H.mono fun rv_28 h_50 H => ?_
   obtain ⟨t154_2, rfl, hL_50, H⟩ := H
   refine eop_alloc 32 zer32 rfl hL_50 (fun b_7 h_51 hb_50 hf_13 hL_51 => ?_)
   refine uop_loc siz32 hL_51 0 rfl 0 [(Sl.v t154_2)] rfl rfl rfl (Nat.le_of_ble_eq_true rfl) (L' := [(b_7, [(Sl.v t154_2)]), (b_1, [(Sl.v t61_1)])]) rfl (fun h_52 hf_14 hL_52 => ?_)
   refine rop_locA agg32 hL_52 0 rfl 0 (vs := [(Sl.v t154_2)]) rfl rfl ?_
   have H := H b_7 h_52 (Nat.le_trans (Fr.size (Fr.r (In []) _)) hb_50) (Fr.new (Fr.no' (Fr.r (In []) _) hf_13) (Nat.le_trans (Fr.size (Fr.r (In []) _)) hb_50) hf_14) hL_52
   refine H.mono fun rv_29 h_53 H => ?_
   obtain ⟨t157_3, t157_4, rfl, hL_53, H⟩ := H
   refine pop_ext (v := (Sl.v t157_3)) rfl ?_
   refine pop_ext (v := (VB t157_4)) rfl ?_
   refine rop_locA agg32 hL_53 0 rfl 0 (vs := [(Sl.v t154_2)]) rfl rfl ?_
   refine H.mono fun rv_30 h_54 H => ?_
   obtain ⟨t162_3, t162_4, rfl, hL_54, H⟩ := H
   refine pop_ext (v := (Sl.v t162_3)) rfl ?_
   refine pop_ext (v := (VB t162_4)) rfl ?_
   refine rop_locA agg32 hL_54 0 rfl 0 (vs := [(Sl.v t154_2)]) rfl rfl ?_
   refine H.mono fun rv_31 h_55 H => ?_
   obtain ⟨t167_3, t167_4, rfl, hL_55, H⟩ := H
   refine pop_ext (v := (VB t167_3)) rfl ?_
   refine pop_ext (v := (VB t167_4)) rfl ?_
   refine rop_locA agg32 hL_55 0 rfl 0 (vs := [(Sl.v t154_2)]) rfl rfl ?_
   refine H.mono fun rv_32 h_56 H => ?_
   obtain ⟨t172_3, t172_4, rfl, hL_56, H⟩ := H
   refine pop_ext (v := (VB t172_3)) rfl ?_
   refine pop_ext (v := (VB t172_4)) rfl ?_
   refine pop_bne boo4 _ _ t157_4 t162_4 ?_
   refine guardM_sf (fun hb_51 => ?_) (fun hb_51 => ?_)
   rotate_left
   ·have H := H.1 hb_51
    refine guardM_n' hb_51 (by decide) ?_
    refine guardM_n' hb_51 (by decide) ?_
    refine guardM_n' hb_51 (by decide) ?_
    refine pop_pickt' hb_51 ?_
    refine guardM_n (by decide) ?_
    refine guardM_n (by decide) ?_
    refine guardM_n (by decide) ?_
    refine pop_pickt _ _ ?_
    refine guardM_n (by decide) ?_
    refine guardM_n (by decide) ?_
    refine guardM_n (by decide) ?_
    refine pop_pickt _ _ ?_
    refine guardM_n (by decide) ?_
    refine guardM_n (by decide) ?_
    refine guardM_n (by decide) ?_
    refine pop_pickt _ _ ?_
    refine condM_t ?_
    exact H
   have H := H.2 hb_51
   refine guardM_y' hb_51 ?_
   refine guardM_y' hb_51 ?_
   refine H.mono fun rv_33 h_57 H => ?_
   obtain ⟨t181_2, rfl, hL_57, H⟩ := H
   refine guardM_y' hb_51 ?_
   refine pop_not t181_2 ?_
   refine pop_pickf' hb_51 ?_
   refine guardM_sf (fun hb_52 => ?_) (fun hb_52 => ?_)
   rotate_left
   ·have H := H.1 hb_52
    refine guardM_n' hb_52 (by decide) ?_
    refine guardM_n' hb_52 (by decide) ?_
    refine pop_pickt' hb_52 ?_
    refine guardM_n (by decide) ?_
    refine guardM_n (by decide) ?_
    refine guardM_n (by decide) ?_
    refine pop_pickt _ _ ?_
    refine guardM_n (by decide) ?_
    refine guardM_n (by decide) ?_
    refine guardM_n (by decide) ?_
    refine pop_pickt _ _ ?_
    refine condM_t ?_
    exact H
   have H := H.2 hb_52
   refine guardM_y' hb_52 ?_
   refine guardM_y' hb_52 ?_
   refine pop_bne boo4 _ _ t167_4 t172_4 ?_
   refine pop_pickf' hb_52 ?_
   refine guardM_sf (fun hb_53 => ?_) (fun hb_53 => ?_)
   rotate_left
   ·have H := H.1 hb_53
    refine guardM_n' hb_53 (by decide) ?_
    refine guardM_n' hb_53 (by decide) ?_
    refine pop_pickt' hb_53 ?_
    refine guardM_n (by decide) ?_
    refine guardM_n (by decide) ?_
    refine guardM_n (by decide) ?_
    refine pop_pickt _ _ ?_
    refine condM_t ?_
    exact H
   have H := H.2 hb_53
   refine guardM_y' hb_53 ?_
   refine guardM_y' hb_53 ?_
   refine pop_bne boo4 _ _ t167_3 t172_3 ?_
   refine pop_pickf' hb_53 ?_
   refine guardM_sf (fun hb_54 => ?_) (fun hb_54 => ?_)
   rotate_left
   ·have H := H.1 hb_54
    refine guardM_n' hb_54 (by decide) ?_
    refine guardM_n' hb_54 (by decide) ?_
    refine pop_pickt' hb_54 ?_
    refine condM_t ?_
    exact H
   have H := H.2 hb_54
   refine guardM_y' hb_54 ?_
   refine guardM_y' hb_54 ?_
   refine pop_bne boo4 _ _ t167_4 t157_4 ?_
   refine pop_pickf' hb_54 ?_
   refine condM_b (fun hb_55 => ?_) (fun hb_55 => ?_)
   ·have H := H.1 hb_55
    exact H
   have H := H.2 hb_55
   obtain ⟨J_11, H, HB_20⟩ := H
   refine ⟨fun (vs : List Value) (h' : Heap) => vs = [] ∧ J_11  h' ∧ Vars h' [(b_7, [(Sl.v t154_2)]), (b_1, [(Sl.v t61_1)])], ?_, ?_⟩
   ·refine condM_b (fun hb_56 => ?_) (fun hb_56 => ?_)
    rotate_left
    ·have H := H.2 hb_56
     exact ⟨rfl, H, hL_57⟩
    have H := H.1 hb_56
    refine pop_len t157_3 _ _ sli22 ?_
    obtain ⟨J_12, ⟨n_26, h0_13⟩, HB_15⟩ := H
    refine loop_intro (J := fun (n : Nat) (vs : List Value) (h' : Heap) => ∃ count25_2 : Int, ∃ t202_2 : Int, vs = [(VI count25_2), (VI t202_2)] ∧ J_12 n count25_2 t202_2 h' ∧ Vars h' [(b_7, [(Sl.v t154_2)]), (b_1, [(Sl.v t61_1)])]) n_26 ⟨0, 0, rfl, h0_13, hL_57⟩ ?_
    intro I_13 mu_13 hI_13 junk_11 tv_15 tv_16 h_58 hi_19
    obtain ⟨n_17, ⟨count25_2, t202_2, hv, hJ_11, hL_58⟩, hn_9⟩ := hI_13 _ _ hi_19
    cases hv
    have H := HB_15 n_17 count25_2 t202_2 h_58 hJ_11 hL_58
    refine pop_lss .i64 t202_2 (t157_3.n : Int) ?_
    refine condM_b (fun hb_57 => ?_) (fun hb_57 => ?_)
    rotate_left
    ·have H := H.2 hb_57
     refine pop_field 0 fld32_0 b_7 0 ?_
     refine rop_loc one22 hL_58 0 rfl 0 (v := (Sl.v t154_2)) rfl ?_
     refine pop_len t154_2 _ _ sli22 ?_
     refine pop_ine .i64 _ _ count25_2 (t154_2.n : Int) ?_
     refine guardM_sf (fun hb_66 => ?_) (fun hb_66 => ?_)
     rotate_left
     ·have H := H.1 hb_66
      refine guardM_n' hb_66 (by decide) ?_
      refine guardM_n' hb_66 (by decide) ?_
      refine guardM_n' hb_66 (by decide) ?_
      refine guardM_n' hb_66 (by decide) ?_
      refine pop_pickt' hb_66 ?_
      refine condM_t ?_
      exact H
     have H := H.2 hb_66
     refine guardM_y' hb_66 ?_
     refine guardM_y' hb_66 ?_
     refine pop_len t157_3 _ _ sli22 ?_
     refine guardM_y' hb_66 ?_
     refine pop_ieq .i64 _ _ (t157_3.n : Int) 1 ?_
     refine guardM_y' hb_66 ?_
     refine pop_bne boo4 _ _ t167_3 (decide ((t157_3.n : Int) = 1)) ?_
     refine pop_pickf' hb_66 ?_
     refine condM_b (fun hb_67 => ?_) (fun hb_67 => ?_)
     ·have H := H.1 hb_67
      exact H
     have H := H.2 hb_67
     exact ⟨rfl, H, hL_58⟩
    have H := H.1 hb_57
    obtain ⟨hi_20, H⟩ := H
    refine pop_index sli22 siz27 .i64 t157_3 t202_2 hi_20 ?_
    obtain ⟨t206_2, hc_18, H⟩ := H
    refine rop_one one27 (Sl.v t206_2) hc_18 ?_
    refine pop_len t206_2 _ _ sli27 ?_
    refine pop_add .i64 count25_2 (t206_2.n : Int) ?_
    refine pop_gtr .i64 t202_2 0 ?_
    refine guardM_st (fun hb_58 => ?_) (fun hb_58 => ?_)
    rotate_left
    ·have H := H.2 hb_58
     refine guardM_n' hb_58 (by decide) ?_
     refine guardM_n' hb_58 (by decide) ?_
     refine guardM_n' hb_58 (by decide) ?_
     refine guardM_n' hb_58 (by decide) ?_
     refine guardM_n' hb_58 (by decide) ?_
     refine guardM_n' hb_58 (by decide) ?_
     refine guardM_n' hb_58 (by decide) ?_
     refine guardM_n' hb_58 (by decide) ?_
     refine guardM_n' hb_58 (by decide) ?_
     refine guardM_n' hb_58 (by decide) ?_
     refine pop_pickf' hb_58 ?_
     refine condM_f ?_
     refine pop_len t206_2 _ _ sli27 ?_
     obtain ⟨J_15, ⟨n_25, h0_12⟩, HB_14⟩ := H
     refine loop_intro (J := fun (n : Nat) (vs : List Value) (h' : Heap) => ∃ t228_4 : Int, vs = [(VI t228_4)] ∧ J_15 n t228_4 h' ∧ Vars h' [(b_7, [(Sl.v t154_2)]), (b_1, [(Sl.v t61_1)])]) n_25 ⟨0, rfl, h0_12, hL_58⟩ ?_
     intro I_12 mu_12 hI_12 junk_14 tv_14 h_62 hi_28
     obtain ⟨n_22, ⟨t228_4, hv, hJ_14, hL_62⟩, hn_12⟩ := hI_12 _ _ hi_28
     cases hv
     have H := HB_14 n_22 t228_4 h_62 hJ_14 hL_62
     refine pop_lss .i64 t228_4 (t206_2.n : Int) ?_
     refine condM_b (fun hb_63 => ?_) (fun hb_63 => ?_)
     rotate_left
     ·have H := H.2 hb_63
      refine pop_add .i64 t202_2 1 ?_
      obtain ⟨m_16, hm_16, H⟩ := H
      exact hn_9 _ _ ⟨m_16, hm_16, (w64 (count25_2 + (t206_2.n : Int))), (w64 (t202_2 + 1)), rfl, H, hL_62⟩
     have H := H.1 hb_63
     obtain ⟨hi_29, H⟩ := H
     refine pop_index sli27 siz3 .i64 t206_2 t228_4 hi_29 ?_
     obtain ⟨t231_4, hc_17, H⟩ := H
     refine rop_one one3 (VI t231_4) hc_17 ?_
     refine pop_len t206_2 _ _ sli27 ?_
     obtain ⟨J_16, ⟨n_24, h0_11⟩, HB_13⟩ := H
     refine loop_intro (J := fun (n : Nat) (vs : List Value) (h' : Heap) => ∃ t234_4 : Int, vs = [(VI t234_4)] ∧ J_16 n t234_4 h' ∧ Vars h' [(b_7, [(Sl.v t154_2)]), (b_1, [(Sl.v t61_1)])]) n_24 ⟨0, rfl, h0_11, hL_62⟩ ?_
     intro I_11 mu_11 hI_11 junk_15 tv_13 h_63 hi_30
     obtain ⟨n_23, ⟨t234_4, hv, hJ_15, hL_63⟩, hn_13⟩ := hI_11 _ _ hi_30
     cases hv
     have H := HB_13 n_23 t234_4 h_63 hJ_15 hL_63
     refine pop_lss .i64 t234_4 (t206_2.n : Int) ?_
     refine condM_b (fun hb_64 => ?_) (fun hb_64 => ?_)
     rotate_left
     ·have H := H.2 hb_64
      refine pop_add .i64 t228_4 1 ?_
      obtain ⟨m_15, hm_15, H⟩ := H
      exact hn_12 _ _ ⟨m_15, hm_15, (w64 (t228_4 + 1)), rfl, H, hL_63⟩
     have H := H.1 hb_64
     obtain ⟨hi_31, H⟩ := H
     refine pop_index sli27 siz3 .i64 t206_2 t234_4 hi_31 ?_
     obtain ⟨t237_4, hc_16, H⟩ := H
     refine rop_one one3 (VI t237_4) hc_16 ?_
     refine rop_locA agg32 hL_63 0 rfl 0 (vs := [(Sl.v t154_2)]) rfl rfl ?_
     refine H.mono fun rv_35 h_64 H => ?_
     obtain ⟨t242_7, t242_8, rfl, hL_64, H⟩ := H
     refine pop_ext (v := (VI t242_7)) rfl ?_
     refine pop_ext (v := (VB t242_8)) rfl ?_
     refine pop_not t242_8 ?_
     refine condM_b (fun hb_65 => ?_) (fun hb_65 => ?_)
     ·have H := H.1 hb_65
      exact H
     have H := H.2 hb_65
     refine pop_add .i64 t234_4 1 ?_
     obtain ⟨m_14, hm_14, H⟩ := H
     exact hn_13 _ _ ⟨m_14, hm_14, (w64 (t234_4 + 1)), rfl, H, hL_64⟩
    have H := H.1 hb_58
    refine guardM_y' hb_58 ?_
    refine guardM_y' hb_58 ?_
    refine pop_sub .i64 t202_2 1 ?_
    refine guardM_y' hb_58 ?_
    obtain ⟨hi_21, H⟩ := H
    refine pop_index sli22 siz27 .i64 t157_3 (w64 (t202_2 - 1)) hi_21 ?_
    refine guardM_y' hb_58 ?_
    obtain ⟨t218_2, hc_15, H⟩ := H
    refine rop_one one27 (Sl.v t218_2) hc_15 ?_
    refine guardM_y' hb_58 ?_
    obtain ⟨hi_22, H⟩ := H
    refine pop_index sli27 siz3 .i64 t218_2 0 hi_22 ?_
    refine guardM_y' hb_58 ?_
    obtain ⟨t220_2, hc_14, H⟩ := H
    refine rop_one one3 (VI t220_2) hc_14 ?_
    refine guardM_y' hb_58 ?_
    refine guardM_y' hb_58 ?_
    obtain ⟨hi_23, H⟩ := H
    refine pop_index sli27 siz3 .i64 t206_2 0 hi_23 ?_
    refine guardM_y' hb_58 ?_
    obtain ⟨t223_2, hc_13, H⟩ := H
    refine rop_one one3 (VI t223_2) hc_13 ?_
    refine guardM_y' hb_58 ?_
    refine pop_geq .i64 t220_2 t223_2 ?_
    refine pop_pickt' hb_58 ?_
    refine condM_b (fun hb_59 => ?_) (fun hb_59 => ?_)
    ·have H := H.1 hb_59
     exact H
    have H := H.2 hb_59
    refine pop_len t206_2 _ _ sli27 ?_
    obtain ⟨J_13, ⟨n_21, h0_10⟩, HB_12⟩ := H
    refine loop_intro (J := fun (n : Nat) (vs : List Value) (h' : Heap) => ∃ t228_3 : Int, vs = [(VI t228_3)] ∧ J_13 n t228_3 h' ∧ Vars h' [(b_7, [(Sl.v t154_2)]), (b_1, [(Sl.v t61_1)])]) n_21 ⟨0, rfl, h0_10, hL_58⟩ ?_
    intro I_10 mu_10 hI_10 junk_12 tv_12 h_59 hi_24
    obtain ⟨n_18, ⟨t228_3, hv, hJ_12, hL_59⟩, hn_10⟩ := hI_10 _ _ hi_24
    cases hv
    have H := HB_12 n_18 t228_3 h_59 hJ_12 hL_59
    refine pop_lss .i64 t228_3 (t206_2.n : Int) ?_
    refine condM_b (fun hb_60 => ?_) (fun hb_60 => ?_)
    rotate_left
    ·have H := H.2 hb_60
     refine pop_add .i64 t202_2 1 ?_
     obtain ⟨m_13, hm_13, H⟩ := H
     exact hn_9 _ _ ⟨m_13, hm_13, (w64 (count25_2 + (t206_2.n : Int))), (w64 (t202_2 + 1)), rfl, H, hL_59⟩
    have H := H.1 hb_60
    obtain ⟨hi_25, H⟩ := H
    refine pop_index sli27 siz3 .i64 t206_2 t228_3 hi_25 ?_
    obtain ⟨t231_3, hc_12, H⟩ := H
    refine rop_one one3 (VI t231_3) hc_12 ?_
    refine pop_len t206_2 _ _ sli27 ?_
    obtain ⟨J_14, ⟨n_20, h0_9⟩, HB_11⟩ := H
    refine loop_intro (J := fun (n : Nat) (vs : List Value) (h' : Heap) => ∃ t234_3 : Int, vs = [(VI t234_3)] ∧ J_14 n t234_3 h' ∧ Vars h' [(b_7, [(Sl.v t154_2)]), (b_1, [(Sl.v t61_1)])]) n_20 ⟨0, rfl, h0_9, hL_59⟩ ?_
    intro I_9 mu_9 hI_9 junk_13 tv_11 h_60 hi_26
    obtain ⟨n_19, ⟨t234_3, hv, hJ_13, hL_60⟩, hn_11⟩ := hI_9 _ _ hi_26
    cases hv
    have H := HB_11 n_19 t234_3 h_60 hJ_13 hL_60
    refine pop_lss .i64 t234_3 (t206_2.n : Int) ?_
    refine condM_b (fun hb_61 => ?_) (fun hb_61 => ?_)
    rotate_left
    ·have H := H.2 hb_61
     refine pop_add .i64 t228_3 1 ?_
     obtain ⟨m_12, hm_12, H⟩ := H
     exact hn_10 _ _ ⟨m_12, hm_12, (w64 (t228_3 + 1)), rfl, H, hL_60⟩
    have H := H.1 hb_61
    obtain ⟨hi_27, H⟩ := H
    refine pop_index sli27 siz3 .i64 t206_2 t234_3 hi_27 ?_
    obtain ⟨t237_3, hc_11, H⟩ := H
    refine rop_one one3 (VI t237_3) hc_11 ?_
    refine rop_locA agg32 hL_60 0 rfl 0 (vs := [(Sl.v t154_2)]) rfl rfl ?_
    refine H.mono fun rv_34 h_61 H => ?_
    obtain ⟨t242_5, t242_6, rfl, hL_61, H⟩ := H
    refine pop_ext (v := (VI t242_5)) rfl ?_
    refine pop_ext (v := (VB t242_6)) rfl ?_
    refine pop_not t242_6 ?_
    refine condM_b (fun hb_62 => ?_) (fun hb_62 => ?_)
    ·have H := H.1 hb_62
     exact H
    have H := H.2 hb_62
    refine pop_add .i64 t234_3 1 ?_
    obtain ⟨m_11, hm_11, H⟩ := H
    exact hn_11 _ _ ⟨m_11, hm_11, (w64 (t234_3 + 1)), rfl, H, hL_61⟩
   intro junk_16  h_65
   rintro ⟨hv, hJ_16, hL_65⟩
   have H := HB_20  h_65 hJ_16 hL_65
   refine H.mono fun rv_36 h_66 H => ?_
   obtain ⟨t264_3, t264_4, rfl, hL_66, H⟩ := H
   refine pop_ext (v := (Value.agg #[(Sl.v t264_3)])) rfl ?_
   refine pop_ext (v := (Sl.v t264_4)) rfl ?_
   refine eop_alloc 32 zer32 rfl hL_66 (fun b_8 h_67 hb_68 hf_15 hL_67 => ?_)
   refine uop_loc siz32 hL_67 0 rfl 0 [(Sl.v t264_3)] rfl rfl rfl (Nat.le_of_ble_eq_true rfl) (L' := [(b_8, [(Sl.v t264_3)]), (b_7, [(Sl.v t154_2)]), (b_1, [(Sl.v t61_1)])]) rfl (fun h_68 hf_16 hL_68 => ?_)
   refine rop_locA agg32 hL_68 0 rfl 0 (vs := [(Sl.v t264_3)]) rfl rfl ?_
   have H := H b_8 h_68 (Nat.le_trans (Fr.size (Fr.r (In []) _)) hb_68) (Fr.new (Fr.no' (Fr.r (In []) _) hf_15) (Nat.le_trans (Fr.size (Fr.r (In []) _)) hb_68) hf_16) hL_68
   refine H.mono fun rv_37 h_69 H => ?_
   obtain ⟨t270_3, t270_4, rfl, hL_69, H⟩ := H
   refine pop_ext (v := (Value.agg #[(Sl.v t270_3)])) rfl ?_
   refine pop_ext (v := (VB t270_4)) rfl ?_
   refine eop_alloc 32 zer32 rfl hL_69 (fun b_9 h_70 hb_69 hf_17 hL_70 => ?_)
   refine uop_loc siz32 hL_70 0 rfl 0 [(Sl.v t270_3)] rfl rfl rfl (Nat.le_of_ble_eq_true rfl) (L' := [(b_9, [(Sl.v t270_3)]), (b_8, [(Sl.v t264_3)]), (b_7, [(Sl.v t154_2)]), (b_1, [(Sl.v t61_1)])]) rfl (fun h_71 hf_18 hL_71 => ?_)
   refine rop_locA agg32 hL_71 1 rfl 0 (vs := [(Sl.v t264_3)]) rfl rfl ?_
   have H := H b_9 h_71 (Nat.le_trans (Fr.size (Fr.r (In []) _)) hb_69) (Fr.new (Fr.no' (Fr.r (In []) _) hf_17) (Nat.le_trans (Fr.size (Fr.r (In []) _)) hb_69) hf_18) hL_71
   refine H.mono fun rv_38 h_72 H => ?_
   obtain ⟨t276_3, t276_4, rfl, hL_72, H⟩ := H
   refine pop_ext (v := (Value.agg #[(Sl.v t276_3)])) rfl ?_
   refine pop_ext (v := (VB t276_4)) rfl ?_
   refine eop_alloc 32 zer32 rfl hL_72 (fun b_10 h_73 hb_70 hf_19 hL_73 => ?_)
   refine uop_loc siz32 hL_73 0 rfl 0 [(Sl.v t276_3)] rfl rfl rfl (Nat.le_of_ble_eq_true rfl) (L' := [(b_10, [(Sl.v t276_3)]), (b_9, [(Sl.v t270_3)]), (b_8, [(Sl.v t264_3)]), (b_7, [(Sl.v t154_2)]), (b_1, [(Sl.v t61_1)])]) rfl (fun h_74 hf_20 hL_74 => ?_)
   refine pop_bne boo4 _ _ t270_4 t276_4 ?_
   refine guardM_sf (fun hb_71 => ?_) (fun hb_71 => ?_)
   rotate_left
   ·have H := H.1 hb_71
    refine guardM_n' hb_71 (by decide) ?_
    refine guardM_n' hb_71 (by decide) ?_
    refine guardM_n' hb_71 (by decide) ?_
    refine pop_pickt' hb_71 ?_
    refine condM_t ?_
    have H := H b_10 h_74 (Nat.le_trans (Fr.size (Fr.r (In []) _)) hb_70) (Fr.new (Fr.no' (Fr.r (In []) _) hf_19) (Nat.le_trans (Fr.size (Fr.r (In []) _)) hb_70) hf_20) hL_74
    exact H
   have H := H.2 hb_71
   refine rop_locA agg32 hL_74 1 rfl 0 (vs := [(Sl.v t270_3)]) rfl rfl ?_
   refine guardM_y' hb_71 ?_
   refine rop_locA agg32 hL_74 0 rfl 0 (vs := [(Sl.v t276_3)]) rfl rfl ?_
   refine guardM_y' hb_71 ?_
   have H := H b_10 h_74 (Nat.le_trans (Fr.size (Fr.r (In []) _)) hb_70) (Fr.new (Fr.no' (Fr.r (In []) _) hf_19) (Nat.le_trans (Fr.size (Fr.r (In []) _)) hb_70) hf_20) hL_74
   refine H.mono fun rv_39 h_75 H => ?_
   obtain ⟨t285_2, rfl, hL_75, H⟩ := H
   refine guardM_y' hb_71 ?_
   refine pop_not t285_2 ?_
   refine pop_pickf' hb_71 ?_
   refine condM_b (fun hb_72 => ?_) (fun hb_72 => ?_)
   ·have H := H.1 hb_72
    exact H
   have H := H.2 hb_72
   obtain ⟨J_17, H, HB_19⟩ := H
   refine ⟨fun (vs : List Value) (h' : Heap) => vs = [] ∧ J_17  h' ∧ Vars h' [(b_10, [(Sl.v t276_3)]), (b_9, [(Sl.v t270_3)]), (b_8, [(Sl.v t264_3)]), (b_7, [(Sl.v t154_2)]), (b_1, [(Sl.v t61_1)])], ?_, ?_⟩
   ·refine condM_b (fun hb_73 => ?_) (fun hb_73 => ?_)
    rotate_left
    ·have H := H.2 hb_73
     exact ⟨rfl, H, hL_75⟩
    have H := H.1 hb_73
    refine pop_field 0 fld32_0 b_8 0 ?_
    refine rop_loc one22 hL_75 2 rfl 0 (v := (Sl.v t264_3)) rfl ?_
    refine pop_len t264_3 _ _ sli22 ?_
    obtain ⟨J_18, ⟨n_30, h0_15⟩, HB_17⟩ := H
    refine loop_intro (J := fun (n : Nat) (vs : List Value) (h' : Heap) => ∃ t292_2 : Int, vs = [(VI t292_2)] ∧ J_18 n t292_2 h' ∧ Vars h' [(b_10, [(Sl.v t276_3)]), (b_9, [(Sl.v t270_3)]), (b_8, [(Sl.v t264_3)]), (b_7, [(Sl.v t154_2)]), (b_1, [(Sl.v t61_1)])]) n_30 ⟨0, rfl, h0_15, hL_75⟩ ?_
    intro I_15 mu_15 hI_15 junk_17 tv_18 h_76 hi_32
    obtain ⟨n_27, ⟨t292_2, hv, hJ_17, hL_76⟩, hn_14⟩ := hI_15 _ _ hi_32
    cases hv
    have H := HB_17 n_27 t292_2 h_76 hJ_17 hL_76
    refine pop_lss .i64 t292_2 (t264_3.n : Int) ?_
    refine condM_b (fun hb_74 => ?_) (fun hb_74 => ?_)
    rotate_left
    ·have H := H.2 hb_74
     exact ⟨rfl, H, hL_76⟩
    have H := H.1 hb_74
    refine pop_field 0 fld32_0 b_8 0 ?_
    refine rop_loc one22 hL_76 2 rfl 0 (v := (Sl.v t264_3)) rfl ?_
    refine pop_len t264_3 _ _ sli22 ?_
    obtain ⟨J_19, ⟨n_29, h0_14⟩, HB_16⟩ := H
    refine loop_intro (J := fun (n : Nat) (vs : List Value) (h' : Heap) => ∃ t298_2 : Int, vs = [(VI t298_2)] ∧ J_19 n t298_2 h' ∧ Vars h' [(b_10, [(Sl.v t276_3)]), (b_9, [(Sl.v t270_3)]), (b_8, [(Sl.v t264_3)]), (b_7, [(Sl.v t154_2)]), (b_1, [(Sl.v t61_1)])]) n_29 ⟨0, rfl, h0_14, hL_76⟩ ?_
    intro I_14 mu_14 hI_14 junk_18 tv_17 h_77 hi_33
    obtain ⟨n_28, ⟨t298_2, hv, hJ_18, hL_77⟩, hn_15⟩ := hI_14 _ _ hi_33
    cases hv
    have H := HB_16 n_28 t298_2 h_77 hJ_18 hL_77
    refine pop_lss .i64 t298_2 (t264_3.n : Int) ?_
    refine condM_b (fun hb_75 => ?_) (fun hb_75 => ?_)
    rotate_left
    ·have H := H.2 hb_75
     refine pop_add .i64 t292_2 1 ?_
     obtain ⟨m_18, hm_18, H⟩ := H
     exact hn_14 _ _ ⟨m_18, hm_18, (w64 (t292_2 + 1)), rfl, H, hL_77⟩
    have H := H.1 hb_75
    refine rop_locA agg32 hL_77 2 rfl 0 (vs := [(Sl.v t264_3)]) rfl rfl ?_
    refine H.mono fun rv_40 h_78 H => ?_
    obtain ⟨t305_3, t305_4, rfl, hL_78, H⟩ := H
    refine pop_ext (v := (VI t305_3)) rfl ?_
    refine pop_ext (v := (VB t305_4)) rfl ?_
    refine rop_locA agg32 hL_78 1 rfl 0 (vs := [(Sl.v t270_3)]) rfl rfl ?_
    obtain ⟨hi_34, H⟩ := H
    refine pop_index sli27 siz3 .i64 t264_4 t292_2 hi_34 ?_
    obtain ⟨t313_2, hc_20, H⟩ := H
    refine rop_one one3 (VI t313_2) hc_20 ?_
    obtain ⟨hi_35, H⟩ := H
    refine pop_index sli27 siz3 .i64 t264_4 t298_2 hi_35 ?_
    obtain ⟨t317_2, hc_19, H⟩ := H
    refine rop_one one3 (VI t317_2) hc_19 ?_
    refine H.mono fun rv_41 h_79 H => ?_
    obtain ⟨t318_3, t318_4, rfl, hL_79, H⟩ := H
    refine pop_ext (v := (VI t318_3)) rfl ?_
    refine pop_ext (v := (VB t318_4)) rfl ?_
    refine pop_bne boo4 _ _ t305_4 t318_4 ?_
    refine guardM_sf (fun hb_76 => ?_) (fun hb_76 => ?_)
    rotate_left
    ·have H := H.1 hb_76
     refine guardM_n' hb_76 (by decide) ?_
     refine guardM_n' hb_76 (by decide) ?_
     refine pop_pickt' hb_76 ?_
     refine condM_t ?_
     exact H
    have H := H.2 hb_76
    refine guardM_y' hb_76 ?_
    refine guardM_y' hb_76 ?_
    refine pop_ine .i64 _ _ t305_3 t318_3 ?_
    refine pop_pickf' hb_76 ?_
    refine condM_b (fun hb_77 => ?_) (fun hb_77 => ?_)
    ·have H := H.1 hb_77
     exact H
    have H := H.2 hb_77
    refine pop_add .i64 t298_2 1 ?_
    obtain ⟨m_17, hm_17, H⟩ := H
    exact hn_15 _ _ ⟨m_17, hm_17, (w64 (t298_2 + 1)), rfl, H, hL_79⟩
   intro junk_19  h_80
   rintro ⟨hv, hJ_19, hL_80⟩
   have H := HB_19  h_80 hJ_19 hL_80
   refine H.mono fun rv_42 h_81 H => ?_
   obtain ⟨t333_3, t333_4, rfl, hL_81, H⟩ := H
   refine pop_ext (v := (Value.agg #[(Sl.v t333_3)])) rfl ?_
   refine pop_ext (v := (VI t333_4)) rfl ?_
   refine eop_alloc 32 zer32 rfl hL_81 (fun b_11 h_82 hb_78 hf_21 hL_82 => ?_)
   refine uop_loc siz32 hL_82 0 rfl 0 [(Sl.v t333_3)] rfl rfl rfl (Nat.le_of_ble_eq_true rfl) (L' := [(b_11, [(Sl.v t333_3)]), (b_10, [(Sl.v t276_3)]), (b_9, [(Sl.v t270_3)]), (b_8, [(Sl.v t264_3)]), (b_7, [(Sl.v t154_2)]), (b_1, [(Sl.v t61_1)])]) rfl (fun h_83 hf_22 hL_83 => ?_)
   refine rop_locA agg32 hL_83 0 rfl 0 (vs := [(Sl.v t333_3)]) rfl rfl ?_
   have H := H b_11 h_83 (Nat.le_trans (Fr.size (Fr.r (In []) _)) hb_78) (Fr.new (Fr.no' (Fr.r (In []) _) hf_21) (Nat.le_trans (Fr.size (Fr.r (In []) _)) hb_78) hf_22) hL_83
   refine H.mono fun rv_43 h_84 H => ?_
   obtain ⟨t339_3, t339_4, rfl, hL_84, H⟩ := H
   refine pop_ext (v := (VB t339_3)) rfl ?_
   refine pop_ext (v := (VB t339_4)) rfl ?_
   refine rop_locA agg32 hL_84 0 rfl 0 (vs := [(Sl.v t333_3)]) rfl rfl ?_
   refine H.mono fun rv_44 h_85 H => ?_
   obtain ⟨t345_3, t345_4, rfl, hL_85, H⟩ := H
   refine pop_ext (v := (VB t345_3)) rfl ?_
   refine pop_ext (v := (VB t345_4)) rfl ?_
   refine pop_bne boo4 _ _ t339_4 t345_4 ?_
   refine guardM_sf (fun hb_79 => ?_) (fun hb_79 => ?_)
   rotate_left
   ·have H := H.1 hb_79
    refine guardM_n' hb_79 (by decide) ?_
    refine guardM_n' hb_79 (by decide) ?_
    refine pop_pickt' hb_79 ?_
    refine condM_t ?_
    exact H
   have H := H.2 hb_79
   refine guardM_y' hb_79 ?_
   refine guardM_y' hb_79 ?_
   refine pop_bne boo4 _ _ t339_3 t345_3 ?_
   refine pop_pickf' hb_79 ?_
   refine condM_b (fun hb_80 => ?_) (fun hb_80 => ?_)
   ·have H := H.1 hb_80
    exact H
   have H := H.2 hb_80
   refine condM_b (fun hb_81 => ?_) (fun hb_81 => ?_)
   rotate_left
   ·have H := H.2 hb_81
    exact H
   have H := H.1 hb_81
   refine pop_field 0 fld32_0 b_11 0 ?_
   refine rop_loc one22 hL_85 0 rfl 0 (v := (Sl.v t333_3)) rfl ?_
   refine pop_len t333_3 _ _ sli22 ?_
   obtain ⟨J_20, ⟨n_32, h0_16⟩, HB_18⟩ := H
   refine loop_intro (J := fun (n : Nat) (vs : List Value) (h' : Heap) => ∃ all52_2 : Bool, ∃ t360_2 : Int, vs = [(VB all52_2), (VI t360_2)] ∧ J_20 n all52_2 t360_2 h' ∧ Vars h' [(b_11, [(Sl.v t333_3)]), (b_10, [(Sl.v t276_3)]), (b_9, [(Sl.v t270_3)]), (b_8, [(Sl.v t264_3)]), (b_7, [(Sl.v t154_2)]), (b_1, [(Sl.v t61_1)])]) n_32 ⟨true, 0, rfl, h0_16, hL_85⟩ ?_
   intro I_16 mu_16 hI_16 junk_20 tv_19 tv_20 h_86 hi_36
   obtain ⟨n_31, ⟨all52_2, t360_2, hv, hJ_20, hL_86⟩, hn_16⟩ := hI_16 _ _ hi_36
   cases hv
   have H := HB_18 n_31 all52_2 t360_2 h_86 hJ_20 hL_86
   refine pop_lss .i64 t360_2 (t333_3.n : Int) ?_
   refine condM_b (fun hb_82 => ?_) (fun hb_82 => ?_)
   rotate_left
   ·have H := H.2 hb_82
    refine pop_beq boo4 _ _ all52_2 t339_3 ?_
    exact H
   have H := H.1 hb_82
   refine rop_locA agg32 hL_86 0 rfl 0 (vs := [(Sl.v t333_3)]) rfl rfl ?_
   refine H.mono fun rv_45 h_87 H => ?_
   obtain ⟨t367_3, t367_4, rfl, hL_87, H⟩ := H
   refine pop_ext (v := (VI t367_3)) rfl ?_
   refine pop_ext (v := (VB t367_4)) rfl ?_
   refine guardM_st (fun hb_83 => ?_) (fun hb_83 => ?_)
   ·have H := H.1 hb_83
    refine pop_pickt' hb_83 ?_
    refine pop_add .i64 t360_2 1 ?_
    obtain ⟨m_19, hm_19, H⟩ := H
    exact hn_16 _ _ ⟨m_19, hm_19, t367_4, (w64 (t360_2 + 1)), rfl, H, hL_87⟩
   have H := H.2 hb_83
   refine pop_pickf' hb_83 ?_
   refine pop_add .i64 t360_2 1 ?_
   obtain ⟨m_20, hm_20, H⟩ := H
   exact hn_16 _ _ ⟨m_20, hm_20, false, (w64 (t360_2 + 1)), rfl, H, hL_87⟩
  have H := H.1 hb_12
  refine guardM_y' hb_12 ?_
  refine pop_lss .i64 t69_1 0 ?_
  refine guardM_y' hb_12 ?_
  refine guardM_sf (fun hb_13 => ?_) (fun hb_13 => ?_)
  rotate_left
  ·have H := H.1 hb_13
   refine guardM_n' hb_13 (by decide) ?_
   refine guardM_n' hb_13 (by decide) ?_
   refine guardM_n' hb_13 (by decide) ?_
   refine guardM_n' hb_13 (by decide) ?_
   refine guardM_y' hb_12 ?_
   refine pop_pickt' hb_13 ?_
   refine guardM_y' hb_12 ?_
   refine guardM_n (by decide) ?_
   refine guardM_n (by decide) ?_
   refine guardM_n (by decide) ?_
   refine guardM_n (by decide) ?_
   refine guardM_n (by decide) ?_
   refine guardM_n (by decide) ?_
   refine guardM_y' hb_12 ?_
   refine pop_pickt _ _ ?_
   refine pop_pickt' hb_12 ?_
   refine condM_t ?_
   exact H
  have H := H.2 hb_13
  refine guardM_y' hb_13 ?_
  refine pop_field 0 fld32_0 b_1 0 ?_
  refine guardM_y' hb_13 ?_
  refine rop_loc one22 hL_11 0 rfl 0 (v := (Sl.v t61_1)) rfl ?_
  refine guardM_y' hb_13 ?_
  refine pop_len t61_1 _ _ sli22 ?_
  refine guardM_y' hb_13 ?_
  refine pop_geq .i64 t69_1 (t61_1.n : Int) ?_
  refine guardM_y' hb_12 ?_
  refine pop_pickf' hb_13 ?_
  refine guardM_y' hb_12 ?_
  refine guardM_sf (fun hb_14 => ?_) (fun hb_14 => ?_)
  rotate_left
  ·have H := H.1 hb_14
   refine guardM_n' hb_14 (by decide) ?_
   refine guardM_n' hb_14 (by decide) ?_
   refine guardM_n' hb_14 (by decide) ?_
   refine guardM_n' hb_14 (by decide) ?_
   refine guardM_n' hb_14 (by decide) ?_
   refine guardM_y' hb_12 ?_
   refine pop_pickt' hb_14 ?_
   refine pop_pickt' hb_12 ?_
   refine condM_t ?_
   exact H
  have H := H.2 hb_14
  refine guardM_y' hb_14 ?_
  refine pop_ieq .i64 _ _ t69_1 0 ?_
  refine guardM_y' hb_14 ?_
  refine guardM_y' hb_14 ?_
  refine guardM_y' hb_14 ?_
  refine pop_ieq .i64 _ _ t61_2 t61_3 ?_
  refine guardM_y' hb_14 ?_
  refine pop_bne boo4 _ _ (decide (t69_1 = 0)) (decide (t61_2 = t61_3)) ?_
  refine guardM_y' hb_12 ?_
  refine pop_pickf' hb_14 ?_
  refine pop_pickt' hb_12 ?_
  refine condM_b (fun hb_15 => ?_) (fun hb_15 => ?_)
  ·have H := H.1 hb_15
   exact H
  have H := H.2 hb_15
  refine H.mono fun rv_10 h_12 H => ?_
  obtain ⟨t154_1, rfl, hL_12, H⟩ := H
  refine eop_alloc 32 zer32 rfl hL_12 (fun b_2 h_13 hb_16 hf_3 hL_13 => ?_)
  refine uop_loc siz32 hL_13 0 rfl 0 [(Sl.v t154_1)] rfl rfl rfl (Nat.le_of_ble_eq_true rfl) (L' := [(b_2, [(Sl.v t154_1)]), (b_1, [(Sl.v t61_1)])]) rfl (fun h_14 hf_4 hL_14 => ?_)
  refine rop_locA agg32 hL_14 0 rfl 0 (vs := [(Sl.v t154_1)]) rfl rfl ?_
  have H := H b_2 h_14 (Nat.le_trans (Fr.size (Fr.r (In []) _)) hb_16) (Fr.new (Fr.no' (Fr.r (In []) _) hf_3) (Nat.le_trans (Fr.size (Fr.r (In []) _)) hb_16) hf_4) hL_14
  refine H.mono fun rv_11 h_15 H => ?_
  obtain ⟨t157_1, t157_2, rfl, hL_15, H⟩ := H
  refine pop_ext (v := (Sl.v t157_1)) rfl ?_
  refine pop_ext (v := (VB t157_2)) rfl ?_
  refine rop_locA agg32 hL_15 0 rfl 0 (vs := [(Sl.v t154_1)]) rfl rfl ?_
  refine H.mono fun rv_12 h_16 H => ?_
  obtain ⟨t162_1, t162_2, rfl, hL_16, H⟩ := H
  refine pop_ext (v := (Sl.v t162_1)) rfl ?_
  refine pop_ext (v := (VB t162_2)) rfl ?_
  refine rop_locA agg32 hL_16 0 rfl 0 (vs := [(Sl.v t154_1)]) rfl rfl ?_
  refine H.mono fun rv_13 h_17 H => ?_
  obtain ⟨t167_1, t167_2, rfl, hL_17, H⟩ := H
  refine pop_ext (v := (VB t167_1)) rfl ?_
  refine pop_ext (v := (VB t167_2)) rfl ?_
  refine rop_locA agg32 hL_17 0 rfl 0 (vs := [(Sl.v t154_1)]) rfl rfl ?_
  refine H.mono fun rv_14 h_18 H => ?_
  obtain ⟨t172_1, t172_2, rfl, hL_18, H⟩ := H
  refine pop_ext (v := (VB t172_1)) rfl ?_
  refine pop_ext (v := (VB t172_2)) rfl ?_
  refine pop_bne boo4 _ _ t157_2 t162_2 ?_
  refine guardM_sf (fun hb_17 => ?_) (fun hb_17 => ?_)
  rotate_left
  ·have H := H.1 hb_17
   refine guardM_n' hb_17 (by decide) ?_
   refine guardM_n' hb_17 (by decide) ?_
   refine guardM_n' hb_17 (by decide) ?_
   refine pop_pickt' hb_17 ?_
   refine guardM_n (by decide) ?_
   refine guardM_n (by decide) ?_
   refine guardM_n (by decide) ?_
   refine pop_pickt _ _ ?_
   refine guardM_n (by decide) ?_
   refine guardM_n (by decide) ?_
   refine guardM_n (by decide) ?_
   refine pop_pickt _ _ ?_
   refine guardM_n (by decide) ?_
   refine guardM_n (by decide) ?_
   refine guardM_n (by decide) ?_
   refine pop_pickt _ _ ?_
   refine condM_t ?_
   exact H
  have H := H.2 hb_17
  refine guardM_y' hb_17 ?_
  refine guardM_y' hb_17 ?_
  refine H.mono fun rv_15 h_19 H => ?_
  obtain ⟨t181_1, rfl, hL_19, H⟩ := H
  refine guardM_y' hb_17 ?_
  refine pop_not t181_1 ?_
  refine pop_pickf' hb_17 ?_
  refine guardM_sf (fun hb_18 => ?_) (fun hb_18 => ?_)
  rotate_left
  ·have H := H.1 hb_18
   refine guardM_n' hb_18 (by decide) ?_
   refine guardM_n' hb_18 (by decide) ?_
   refine pop_pickt' hb_18 ?_
   refine guardM_n (by decide) ?_
   refine guardM_n (by decide) ?_
   refine guardM_n (by decide) ?_
   refine pop_pickt _ _ ?_
   refine guardM_n (by decide) ?_
   refine guardM_n (by decide) ?_
   refine guardM_n (by decide) ?_
   refine pop_pickt _ _ ?_
   refine condM_t ?_
   exact H
  have H := H.2 hb_18
  refine guardM_y' hb_18 ?_
  refine guardM_y' hb_18 ?_
  refine pop_bne boo4 _ _ t167_2 t172_2 ?_
  refine pop_pickf' hb_18 ?_
  refine guardM_sf (fun hb_19 => ?_) (fun hb_19 => ?_)
  rotate_left
  ·have H := H.1 hb_19
   refine guardM_n' hb_19 (by decide) ?_
   refine guardM_n' hb_19 (by decide) ?_
   refine pop_pickt' hb_19 ?_
   refine guardM_n (by decide) ?_
   refine guardM_n (by decide) ?_
   refine guardM_n (by decide) ?_
   refine pop_pickt _ _ ?_
   refine condM_t ?_
   exact H
  have H := H.2 hb_19
  refine guardM_y' hb_19 ?_
  refine guardM_y' hb_19 ?_
  refine pop_bne boo4 _ _ t167_1 t172_1 ?_
  refine pop_pickf' hb_19 ?_
  refine guardM_sf (fun hb_20 => ?_) (fun hb_20 => ?_)
  rotate_left
  ·have H := H.1 hb_20
   refine guardM_n' hb_20 (by decide) ?_
   refine guardM_n' hb_20 (by decide) ?_
   refine pop_pickt' hb_20 ?_
   refine condM_t ?_
   exact H
  have H := H.2 hb_20
  refine guardM_y' hb_20 ?_
  refine guardM_y' hb_20 ?_
  refine pop_bne boo4 _ _ t167_2 t157_2 ?_
  refine pop_pickf' hb_20 ?_
  refine condM_b (fun hb_21 => ?_) (fun hb_21 => ?_)
  ·have H := H.1 hb_21
   exact H
  have H := H.2 hb_21
  obtain ⟨J_1, H, HB_10⟩ := H
  refine ⟨fun (vs : List Value) (h' : Heap) => vs = [] ∧ J_1  h' ∧ Vars h' [(b_2, [(Sl.v t154_1)]), (b_1, [(Sl.v t61_1)])], ?_, ?_⟩
  ·refine condM_b (fun hb_22 => ?_) (fun hb_22 => ?_)
   rotate_left
   ·have H := H.2 hb_22
    exact ⟨rfl, H, hL_19⟩
   have H := H.1 hb_22
   refine pop_len t157_1 _ _ sli22 ?_
   obtain ⟨J_2, ⟨n_10, h0_5⟩, HB_5⟩ := H
   refine loop_intro (J := fun (n : Nat) (vs : List Value) (h' : Heap) => ∃ count25_1 : Int, ∃ t202_1 : Int, vs = [(VI count25_1), (VI t202_1)] ∧ J_2 n count25_1 t202_1 h' ∧ Vars h' [(b_2, [(Sl.v t154_1)]), (b_1, [(Sl.v t61_1)])]) n_10 ⟨0, 0, rfl, h0_5, hL_19⟩ ?_
   intro I_5 mu_5 hI_5 junk_1 tv_5 tv_6 h_20 hi_1
   obtain ⟨n_1, ⟨count25_1, t202_1, hv, hJ_1, hL_20⟩, hn_1⟩ := hI_5 _ _ hi_1
   cases hv
   have H := HB_5 n_1 count25_1 t202_1 h_20 hJ_1 hL_20
   refine pop_lss .i64 t202_1 (t157_1.n : Int) ?_
   refine condM_b (fun hb_23 => ?_) (fun hb_23 => ?_)
   rotate_left
   ·have H := H.2 hb_23
    refine pop_field 0 fld32_0 b_2 0 ?_
    refine rop_loc one22 hL_20 0 rfl 0 (v := (Sl.v t154_1)) rfl ?_
    refine pop_len t154_1 _ _ sli22 ?_
    refine pop_ine .i64 _ _ count25_1 (t154_1.n : Int) ?_
    refine guardM_sf (fun hb_32 => ?_) (fun hb_32 => ?_)
    rotate_left
    ·have H := H.1 hb_32
     refine guardM_n' hb_32 (by decide) ?_
     refine guardM_n' hb_32 (by decide) ?_
     refine guardM_n' hb_32 (by decide) ?_
     refine guardM_n' hb_32 (by decide) ?_
     refine pop_pickt' hb_32 ?_
     refine condM_t ?_
     exact H
    have H := H.2 hb_32
    refine guardM_y' hb_32 ?_
    refine guardM_y' hb_32 ?_
    refine pop_len t157_1 _ _ sli22 ?_
    refine guardM_y' hb_32 ?_
    refine pop_ieq .i64 _ _ (t157_1.n : Int) 1 ?_
    refine guardM_y' hb_32 ?_
    refine pop_bne boo4 _ _ t167_1 (decide ((t157_1.n : Int) = 1)) ?_
    refine pop_pickf' hb_32 ?_
    refine condM_b (fun hb_33 => ?_) (fun hb_33 => ?_)
    ·have H := H.1 hb_33
     exact H
    have H := H.2 hb_33
    exact ⟨rfl, H, hL_20⟩
   have H := H.1 hb_23
   obtain ⟨hi_2, H⟩ := H
   refine pop_index sli22 siz27 .i64 t157_1 t202_1 hi_2 ?_
   obtain ⟨t206_1, hc_8, H⟩ := H
   refine rop_one one27 (Sl.v t206_1) hc_8 ?_
   refine pop_len t206_1 _ _ sli27 ?_
   refine pop_add .i64 count25_1 (t206_1.n : Int) ?_
   refine pop_gtr .i64 t202_1 0 ?_
   refine guardM_st (fun hb_24 => ?_) (fun hb_24 => ?_)
   rotate_left
   ·have H := H.2 hb_24
    refine guardM_n' hb_24 (by decide) ?_
    refine guardM_n' hb_24 (by decide) ?_
    refine guardM_n' hb_24 (by decide) ?_
    refine guardM_n' hb_24 (by decide) ?_
    refine guardM_n' hb_24 (by decide) ?_
    refine guardM_n' hb_24 (by decide) ?_
    refine guardM_n' hb_24 (by decide) ?_
    refine guardM_n' hb_24 (by decide) ?_
    refine guardM_n' hb_24 (by decide) ?_
    refine guardM_n' hb_24 (by decide) ?_
    refine pop_pickf' hb_24 ?_
    refine condM_f ?_
    refine pop_len t206_1 _ _ sli27 ?_
    obtain ⟨J_5, ⟨n_9, h0_4⟩, HB_4⟩ := H
    refine loop_intro (J := fun (n : Nat) (vs : List Value) (h' : Heap) => ∃ t228_2 : Int, vs = [(VI t228_2)] ∧ J_5 n t228_2 h' ∧ Vars h' [(b_2, [(Sl.v t154_1)]), (b_1, [(Sl.v t61_1)])]) n_9 ⟨0, rfl, h0_4, hL_20⟩ ?_
    intro I_4 mu_4 hI_4 junk_4 tv_4 h_24 hi_10
    obtain ⟨n_6, ⟨t228_2, hv, hJ_4, hL_24⟩, hn_4⟩ := hI_4 _ _ hi_10
    cases hv
    have H := HB_4 n_6 t228_2 h_24 hJ_4 hL_24
    refine pop_lss .i64 t228_2 (t206_1.n : Int) ?_
    refine condM_b (fun hb_29 => ?_) (fun hb_29 => ?_)
    rotate_left
    ·have H := H.2 hb_29
     refine pop_add .i64 t202_1 1 ?_
     obtain ⟨m_6, hm_6, H⟩ := H
     exact hn_1 _ _ ⟨m_6, hm_6, (w64 (count25_1 + (t206_1.n : Int))), (w64 (t202_1 + 1)), rfl, H, hL_24⟩
    have H := H.1 hb_29
    obtain ⟨hi_11, H⟩ := H
    refine pop_index sli27 siz3 .i64 t206_1 t228_2 hi_11 ?_
    obtain ⟨t231_2, hc_7, H⟩ := H
    refine rop_one one3 (VI t231_2) hc_7 ?_
    refine pop_len t206_1 _ _ sli27 ?_
    obtain ⟨J_6, ⟨n_8, h0_3⟩, HB_3⟩ := H
    refine loop_intro (J := fun (n : Nat) (vs : List Value) (h' : Heap) => ∃ t234_2 : Int, vs = [(VI t234_2)] ∧ J_6 n t234_2 h' ∧ Vars h' [(b_2, [(Sl.v t154_1)]), (b_1, [(Sl.v t61_1)])]) n_8 ⟨0, rfl, h0_3, hL_24⟩ ?_
    intro I_3 mu_3 hI_3 junk_5 tv_3 h_25 hi_12
    obtain ⟨n_7, ⟨t234_2, hv, hJ_5, hL_25⟩, hn_5⟩ := hI_3 _ _ hi_12
    cases hv
    have H := HB_3 n_7 t234_2 h_25 hJ_5 hL_25
    refine pop_lss .i64 t234_2 (t206_1.n : Int) ?_
    refine condM_b (fun hb_30 => ?_) (fun hb_30 => ?_)
    rotate_left
    ·have H := H.2 hb_30
     refine pop_add .i64 t228_2 1 ?_
     obtain ⟨m_5, hm_5, H⟩ := H
     exact hn_4 _ _ ⟨m_5, hm_5, (w64 (t228_2 + 1)), rfl, H, hL_25⟩
    have H := H.1 hb_30
    obtain ⟨hi_13, H⟩ := H
    refine pop_index sli27 siz3 .i64 t206_1 t234_2 hi_13 ?_
    obtain ⟨t237_2, hc_6, H⟩ := H
    refine rop_one one3 (VI t237_2) hc_6 ?_
    refine rop_locA agg32 hL_25 0 rfl 0 (vs := [(Sl.v t154_1)]) rfl rfl ?_
    refine H.mono fun rv_17 h_26 H => ?_
    obtain ⟨t242_3, t242_4, rfl, hL_26, H⟩ := H
    refine pop_ext (v := (VI t242_3)) rfl ?_
    refine pop_ext (v := (VB t242_4)) rfl ?_
    refine pop_not t242_4 ?_
    refine condM_b (fun hb_31 => ?_) (fun hb_31 => ?_)
    ·have H := H.1 hb_31
     exact H
    have H := H.2 hb_31
    refine pop_add .i64 t234_2 1 ?_
    obtain ⟨m_4, hm_4, H⟩ := H
    exact hn_5 _ _ ⟨m_4, hm_4, (w64 (t234_2 + 1)), rfl, H, hL_26⟩
   have H := H.1 hb_24
   refine guardM_y' hb_24 ?_
   refine guardM_y' hb_24 ?_
   refine pop_sub .i64 t202_1 1 ?_
   refine guardM_y' hb_24 ?_
   obtain ⟨hi_3, H⟩ := H
   refine pop_index sli22 siz27 .i64 t157_1 (w64 (t202_1 - 1)) hi_3 ?_
   refine guardM_y' hb_24 ?_
   obtain ⟨t218_1, hc_5, H⟩ := H
   refine rop_one one27 (Sl.v t218_1) hc_5 ?_
   refine guardM_y' hb_24 ?_
   obtain ⟨hi_4, H⟩ := H
   refine pop_index sli27 siz3 .i64 t218_1 0 hi_4 ?_
   refine guardM_y' hb_24 ?_
   obtain ⟨t220_1, hc_4, H⟩ := H
   refine rop_one one3 (VI t220_1) hc_4 ?_
   refine guardM_y' hb_24 ?_
   refine guardM_y' hb_24 ?_
   obtain ⟨hi_5, H⟩ := H
   refine pop_index sli27 siz3 .i64 t206_1 0 hi_5 ?_
   refine guardM_y' hb_24 ?_
   obtain ⟨t223_1, hc_3, H⟩ := H
   refine rop_one one3 (VI t223_1) hc_3 ?_
   refine guardM_y' hb_24 ?_
   refine pop_geq .i64 t220_1 t223_1 ?_
   refine pop_pickt' hb_24 ?_
   refine condM_b (fun hb_25 => ?_) (fun hb_25 => ?_)
   ·have H := H.1 hb_25
    exact H
   have H := H.2 hb_25
   refine pop_len t206_1 _ _ sli27 ?_
   obtain ⟨J_3, ⟨n_5, h0_2⟩, HB_2⟩ := H
   refine loop_intro (J := fun (n : Nat) (vs : List Value) (h' : Heap) => ∃ t228_1 : Int, vs = [(VI t228_1)] ∧ J_3 n t228_1 h' ∧ Vars h' [(b_2, [(Sl.v t154_1)]), (b_1, [(Sl.v t61_1)])]) n_5 ⟨0, rfl, h0_2, hL_20⟩ ?_
   intro I_2 mu_2 hI_2 junk_2 tv_2 h_21 hi_6
   obtain ⟨n_2, ⟨t228_1, hv, hJ_2, hL_21⟩, hn_2⟩ := hI_2 _ _ hi_6
   cases hv
   have H := HB_2 n_2 t228_1 h_21 hJ_2 hL_21
   refine pop_lss .i64 t228_1 (t206_1.n : Int) ?_
   refine condM_b (fun hb_26 => ?_) (fun hb_26 => ?_)
   rotate_left
   ·have H := H.2 hb_26
    refine pop_add .i64 t202_1 1 ?_
    obtain ⟨m_3, hm_3, H⟩ := H
    exact hn_1 _ _ ⟨m_3, hm_3, (w64 (count25_1 + (t206_1.n : Int))), (w64 (t202_1 + 1)), rfl, H, hL_21⟩
   have H := H.1 hb_26
   obtain ⟨hi_7, H⟩ := H
   refine pop_index sli27 siz3 .i64 t206_1 t228_1 hi_7 ?_
   obtain ⟨t231_1, hc_2, H⟩ := H
   refine rop_one one3 (VI t231_1) hc_2 ?_
   refine pop_len t206_1 _ _ sli27 ?_
   obtain ⟨J_4, ⟨n_4, h0_1⟩, HB_1⟩ := H
   refine loop_intro (J := fun (n : Nat) (vs : List Value) (h' : Heap) => ∃ t234_1 : Int, vs = [(VI t234_1)] ∧ J_4 n t234_1 h' ∧ Vars h' [(b_2, [(Sl.v t154_1)]), (b_1, [(Sl.v t61_1)])]) n_4 ⟨0, rfl, h0_1, hL_21⟩ ?_
   intro I_1 mu_1 hI_1 junk_3 tv_1 h_22 hi_8
   obtain ⟨n_3, ⟨t234_1, hv, hJ_3, hL_22⟩, hn_3⟩ := hI_1 _ _ hi_8
   cases hv
   have H := HB_1 n_3 t234_1 h_22 hJ_3 hL_22
   refine pop_lss .i64 t234_1 (t206_1.n : Int) ?_
   refine condM_b (fun hb_27 => ?_) (fun hb_27 => ?_)
   rotate_left
   ·have H := H.2 hb_27
    refine pop_add .i64 t228_1 1 ?_
    obtain ⟨m_2, hm_2, H⟩ := H
    exact hn_2 _ _ ⟨m_2, hm_2, (w64 (t228_1 + 1)), rfl, H, hL_22⟩
   have H := H.1 hb_27
   obtain ⟨hi_9, H⟩ := H
   refine pop_index sli27 siz3 .i64 t206_1 t234_1 hi_9 ?_
   obtain ⟨t237_1, hc_1, H⟩ := H
   refine rop_one one3 (VI t237_1) hc_1 ?_
   refine rop_locA agg32 hL_22 0 rfl 0 (vs := [(Sl.v t154_1)]) rfl rfl ?_
   refine H.mono fun rv_16 h_23 H => ?_
   obtain ⟨t242_1, t242_2, rfl, hL_23, H⟩ := H
   refine pop_ext (v := (VI t242_1)) rfl ?_
   refine pop_ext (v := (VB t242_2)) rfl ?_
   refine pop_not t242_2 ?_
   refine condM_b (fun hb_28 => ?_) (fun hb_28 => ?_)
   ·have H := H.1 hb_28
    exact H
   have H := H.2 hb_28
   refine pop_add .i64 t234_1 1 ?_
   obtain ⟨m_1, hm_1, H⟩ := H
   exact hn_3 _ _ ⟨m_1, hm_1, (w64 (t234_1 + 1)), rfl, H, hL_23⟩
  intro junk_6  h_27
  rintro ⟨hv, hJ_6, hL_27⟩
  have H := HB_10  h_27 hJ_6 hL_27
  refine H.mono fun rv_18 h_28 H => ?_
  obtain ⟨t264_1, t264_2, rfl, hL_28, H⟩ := H
  refine pop_ext (v := (Value.agg #[(Sl.v t264_1)])) rfl ?_
  refine pop_ext (v := (Sl.v t264_2)) rfl ?_
  refine eop_alloc 32 zer32 rfl hL_28 (fun b_3 h_29 hb_34 hf_5 hL_29 => ?_)
  refine uop_loc siz32 hL_29 0 rfl 0 [(Sl.v t264_1)] rfl rfl rfl (Nat.le_of_ble_eq_true rfl) (L' := [(b_3, [(Sl.v t264_1)]), (b_2, [(Sl.v t154_1)]), (b_1, [(Sl.v t61_1)])]) rfl (fun h_30 hf_6 hL_30 => ?_)
  refine rop_locA agg32 hL_30 0 rfl 0 (vs := [(Sl.v t264_1)]) rfl rfl ?_
  have H := H b_3 h_30 (Nat.le_trans (Fr.size (Fr.r (In []) _)) hb_34) (Fr.new (Fr.no' (Fr.r (In []) _) hf_5) (Nat.le_trans (Fr.size (Fr.r (In []) _)) hb_34) hf_6) hL_30
  refine H.mono fun rv_19 h_31 H => ?_
  obtain ⟨t270_1, t270_2, rfl, hL_31, H⟩ := H
  refine pop_ext (v := (Value.agg #[(Sl.v t270_1)])) rfl ?_
  refine pop_ext (v := (VB t270_2)) rfl ?_
  refine eop_alloc 32 zer32 rfl hL_31 (fun b_4 h_32 hb_35 hf_7 hL_32 => ?_)
  refine uop_loc siz32 hL_32 0 rfl 0 [(Sl.v t270_1)] rfl rfl rfl (Nat.le_of_ble_eq_true rfl) (L' := [(b_4, [(Sl.v t270_1)]), (b_3, [(Sl.v t264_1)]), (b_2, [(Sl.v t154_1)]), (b_1, [(Sl.v t61_1)])]) rfl (fun h_33 hf_8 hL_33 => ?_)
  refine rop_locA agg32 hL_33 1 rfl 0 (vs := [(Sl.v t264_1)]) rfl rfl ?_
  have H := H b_4 h_33 (Nat.le_trans (Fr.size (Fr.r (In []) _)) hb_35) (Fr.new (Fr.no' (Fr.r (In []) _) hf_7) (Nat.le_trans (Fr.size (Fr.r (In []) _)) hb_35) hf_8) hL_33
  refine H.mono fun rv_20 h_34 H => ?_
  obtain ⟨t276_1, t276_2, rfl, hL_34, H⟩ := H
  refine pop_ext (v := (Value.agg #[(Sl.v t276_1)])) rfl ?_
  refine pop_ext (v := (VB t276_2)) rfl ?_
  refine eop_alloc 32 zer32 rfl hL_34 (fun b_5 h_35 hb_36 hf_9 hL_35 => ?_)
  refine uop_loc siz32 hL_35 0 rfl 0 [(Sl.v t276_1)] rfl rfl rfl (Nat.le_of_ble_eq_true rfl) (L' := [(b_5, [(Sl.v t276_1)]), (b_4, [(Sl.v t270_1)]), (b_3, [(Sl.v t264_1)]), (b_2, [(Sl.v t154_1)]), (b_1, [(Sl.v t61_1)])]) rfl (fun h_36 hf_10 hL_36 => ?_)
  refine pop_bne boo4 _ _ t270_2 t276_2 ?_
  refine guardM_sf (fun hb_37 => ?_) (fun hb_37 => ?_)
  rotate_left
  ·have H := H.1 hb_37
   refine guardM_n' hb_37 (by decide) ?_
   refine guardM_n' hb_37 (by decide) ?_
   refine guardM_n' hb_37 (by decide) ?_
   refine pop_pickt' hb_37 ?_
   refine condM_t ?_
   have H := H b_5 h_36 (Nat.le_trans (Fr.size (Fr.r (In []) _)) hb_36) (Fr.new (Fr.no' (Fr.r (In []) _) hf_9) (Nat.le_trans (Fr.size (Fr.r (In []) _)) hb_36) hf_10) hL_36
   exact H
  have H := H.2 hb_37
  refine rop_locA agg32 hL_36 1 rfl 0 (vs := [(Sl.v t270_1)]) rfl rfl ?_
  refine guardM_y' hb_37 ?_
  refine rop_locA agg32 hL_36 0 rfl 0 (vs := [(Sl.v t276_1)]) rfl rfl ?_
  refine guardM_y' hb_37 ?_
  have H := H b_5 h_36 (Nat.le_trans (Fr.size (Fr.r (In []) _)) hb_36) (Fr.new (Fr.no' (Fr.r (In []) _) hf_9) (Nat.le_trans (Fr.size (Fr.r (In []) _)) hb_36) hf_10) hL_36
  refine H.mono fun rv_21 h_37 H => ?_
  obtain ⟨t285_1, rfl, hL_37, H⟩ := H
  refine guardM_y' hb_37 ?_
  refine pop_not t285_1 ?_
  refine pop_pickf' hb_37 ?_
  refine condM_b (fun hb_38 => ?_) (fun hb_38 => ?_)
  ·have H := H.1 hb_38
   exact H
  have H := H.2 hb_38
  obtain ⟨J_7, H, HB_9⟩ := H
  refine ⟨fun (vs : List Value) (h' : Heap) => vs = [] ∧ J_7  h' ∧ Vars h' [(b_5, [(Sl.v t276_1)]), (b_4, [(Sl.v t270_1)]), (b_3, [(Sl.v t264_1)]), (b_2, [(Sl.v t154_1)]), (b_1, [(Sl.v t61_1)])], ?_, ?_⟩
  ·refine condM_b (fun hb_39 => ?_) (fun hb_39 => ?_)
   rotate_left
   ·have H := H.2 hb_39
    exact ⟨rfl, H, hL_37⟩
   have H := H.1 hb_39
   refine pop_field 0 fld32_0 b_3 0 ?_
   refine rop_loc one22 hL_37 2 rfl 0 (v := (Sl.v t264_1)) rfl ?_
   refine pop_len t264_1 _ _ sli22 ?_
   obtain ⟨J_8, ⟨n_14, h0_7⟩, HB_7⟩ := H
   refine loop_intro (J := fun (n : Nat) (vs : List Value) (h' : Heap) => ∃ t292_1 : Int, vs = [(VI t292_1)] ∧ J_8 n t292_1 h' ∧ Vars h' [(b_5, [(Sl.v t276_1)]), (b_4, [(Sl.v t270_1)]), (b_3, [(Sl.v t264_1)]), (b_2, [(Sl.v t154_1)]), (b_1, [(Sl.v t61_1)])]) n_14 ⟨0, rfl, h0_7, hL_37⟩ ?_
   intro I_7 mu_7 hI_7 junk_7 tv_8 h_38 hi_14
   obtain ⟨n_11, ⟨t292_1, hv, hJ_7, hL_38⟩, hn_6⟩ := hI_7 _ _ hi_14
   cases hv
   have H := HB_7 n_11 t292_1 h_38 hJ_7 hL_38
   refine pop_lss .i64 t292_1 (t264_1.n : Int) ?_
   refine condM_b (fun hb_40 => ?_) (fun hb_40 => ?_)
   rotate_left
   ·have H := H.2 hb_40
    exact ⟨rfl, H, hL_38⟩
   have H := H.1 hb_40
   refine pop_field 0 fld32_0 b_3 0 ?_
   refine rop_loc one22 hL_38 2 rfl 0 (v := (Sl.v t264_1)) rfl ?_
   refine pop_len t264_1 _ _ sli22 ?_
   obtain ⟨J_9, ⟨n_13, h0_6⟩, HB_6⟩ := H
   refine loop_intro (J := fun (n : Nat) (vs : List Value) (h' : Heap) => ∃ t298_1 : Int, vs = [(VI t298_1)] ∧ J_9 n t298_1 h' ∧ Vars h' [(b_5, [(Sl.v t276_1)]), (b_4, [(Sl.v t270_1)]), (b_3, [(Sl.v t264_1)]), (b_2, [(Sl.v t154_1)]), (b_1, [(Sl.v t61_1)])]) n_13 ⟨0, rfl, h0_6, hL_38⟩ ?_
   intro I_6 mu_6 hI_6 junk_8 tv_7 h_39 hi_15
   obtain ⟨n_12, ⟨t298_1, hv, hJ_8, hL_39⟩, hn_7⟩ := hI_6 _ _ hi_15
   cases hv
   have H := HB_6 n_12 t298_1 h_39 hJ_8 hL_39
   refine pop_lss .i64 t298_1 (t264_1.n : Int) ?_
   refine condM_b (fun hb_41 => ?_) (fun hb_41 => ?_)
   rotate_left
   ·have H := H.2 hb_41
    refine pop_add .i64 t292_1 1 ?_
    obtain ⟨m_8, hm_8, H⟩ := H
    exact hn_6 _ _ ⟨m_8, hm_8, (w64 (t292_1 + 1)), rfl, H, hL_39⟩
   have H := H.1 hb_41
   refine rop_locA agg32 hL_39 2 rfl 0 (vs := [(Sl.v t264_1)]) rfl rfl ?_
   refine H.mono fun rv_22 h_40 H => ?_
   obtain ⟨t305_1, t305_2, rfl, hL_40, H⟩ := H
   refine pop_ext (v := (VI t305_1)) rfl ?_
   refine pop_ext (v := (VB t305_2)) rfl ?_
   refine rop_locA agg32 hL_40 1 rfl 0 (vs := [(Sl.v t270_1)]) rfl rfl ?_
   obtain ⟨hi_16, H⟩ := H
   refine pop_index sli27 siz3 .i64 t264_2 t292_1 hi_16 ?_
   obtain ⟨t313_1, hc_10, H⟩ := H
   refine rop_one one3 (VI t313_1) hc_10 ?_
   obtain ⟨hi_17, H⟩ := H
   refine pop_index sli27 siz3 .i64 t264_2 t298_1 hi_17 ?_
   obtain ⟨t317_1, hc_9, H⟩ := H
   refine rop_one one3 (VI t317_1) hc_9 ?_
   refine H.mono fun rv_23 h_41 H => ?_
   obtain ⟨t318_1, t318_2, rfl, hL_41, H⟩ := H
   refine pop_ext (v := (VI t318_1)) rfl ?_
   refine pop_ext (v := (VB t318_2)) rfl ?_
   refine pop_bne boo4 _ _ t305_2 t318_2 ?_
   refine guardM_sf (fun hb_42 => ?_) (fun hb_42 => ?_)
   rotate_left
   ·have H := H.1 hb_42
    refine guardM_n' hb_42 (by decide) ?_
    refine guardM_n' hb_42 (by decide) ?_
    refine pop_pickt' hb_42 ?_
    refine condM_t ?_
    exact H
   have H := H.2 hb_42
   refine guardM_y' hb_42 ?_
   refine guardM_y' hb_42 ?_
   refine pop_ine .i64 _ _ t305_1 t318_1 ?_
   refine pop_pickf' hb_42 ?_
   refine condM_b (fun hb_43 => ?_) (fun hb_43 => ?_)
   ·have H := H.1 hb_43
    exact H
   have H := H.2 hb_43
   refine pop_add .i64 t298_1 1 ?_
   obtain ⟨m_7, hm_7, H⟩ := H
   exact hn_7 _ _ ⟨m_7, hm_7, (w64 (t298_1 + 1)), rfl, H, hL_41⟩
  intro junk_9  h_42
  rintro ⟨hv, hJ_9, hL_42⟩
  have H := HB_9  h_42 hJ_9 hL_42
  refine H.mono fun rv_24 h_43 H => ?_
  obtain ⟨t333_1, t333_2, rfl, hL_43, H⟩ := H
  refine pop_ext (v := (Value.agg #[(Sl.v t333_1)])) rfl ?_
  refine pop_ext (v := (VI t333_2)) rfl ?_
  refine eop_alloc 32 zer32 rfl hL_43 (fun b_6 h_44 hb_44 hf_11 hL_44 => ?_)
  refine uop_loc siz32 hL_44 0 rfl 0 [(Sl.v t333_1)] rfl rfl rfl (Nat.le_of_ble_eq_true rfl) (L' := [(b_6, [(Sl.v t333_1)]), (b_5, [(Sl.v t276_1)]), (b_4, [(Sl.v t270_1)]), (b_3, [(Sl.v t264_1)]), (b_2, [(Sl.v t154_1)]), (b_1, [(Sl.v t61_1)])]) rfl (fun h_45 hf_12 hL_45 => ?_)
  refine rop_locA agg32 hL_45 0 rfl 0 (vs := [(Sl.v t333_1)]) rfl rfl ?_
  have H := H b_6 h_45 (Nat.le_trans (Fr.size (Fr.r (In []) _)) hb_44) (Fr.new (Fr.no' (Fr.r (In []) _) hf_11) (Nat.le_trans (Fr.size (Fr.r (In []) _)) hb_44) hf_12) hL_45
  refine H.mono fun rv_25 h_46 H => ?_
  obtain ⟨t339_1, t339_2, rfl, hL_46, H⟩ := H
  refine pop_ext (v := (VB t339_1)) rfl ?_
  refine pop_ext (v := (VB t339_2)) rfl ?_
  refine rop_locA agg32 hL_46 0 rfl 0 (vs := [(Sl.v t333_1)]) rfl rfl ?_
  refine H.mono fun rv_26 h_47 H => ?_
  obtain ⟨t345_1, t345_2, rfl, hL_47, H⟩ := H
  refine pop_ext (v := (VB t345_1)) rfl ?_
  refine pop_ext (v := (VB t345_2)) rfl ?_
  refine pop_bne boo4 _ _ t339_2 t345_2 ?_
  refine guardM_sf (fun hb_45 => ?_) (fun hb_45 => ?_)
  rotate_left
  ·have H := H.1 hb_45
   refine guardM_n' hb_45 (by decide) ?_
   refine guardM_n' hb_45 (by decide) ?_
   refine pop_pickt' hb_45 ?_
   refine condM_t ?_
   exact H
  have H := H.2 hb_45
  refine guardM_y' hb_45 ?_
  refine guardM_y' hb_45 ?_
  refine pop_bne boo4 _ _ t339_1 t345_1 ?_
  refine pop_pickf' hb_45 ?_
  refine condM_b (fun hb_46 => ?_) (fun hb_46 => ?_)
  ·have H := H.1 hb_46
   exact H
  have H := H.2 hb_46
  refine condM_b (fun hb_47 => ?_) (fun hb_47 => ?_)
  rotate_left
  ·have H := H.2 hb_47
   exact H
  have H := H.1 hb_47
  refine pop_field 0 fld32_0 b_6 0 ?_
  refine rop_loc one22 hL_47 0 rfl 0 (v := (Sl.v t333_1)) rfl ?_
  refine pop_len t333_1 _ _ sli22 ?_
  obtain ⟨J_10, ⟨n_16, h0_8⟩, HB_8⟩ := H
  refine loop_intro (J := fun (n : Nat) (vs : List Value) (h' : Heap) => ∃ all52_1 : Bool, ∃ t360_1 : Int, vs = [(VB all52_1), (VI t360_1)] ∧ J_10 n all52_1 t360_1 h' ∧ Vars h' [(b_6, [(Sl.v t333_1)]), (b_5, [(Sl.v t276_1)]), (b_4, [(Sl.v t270_1)]), (b_3, [(Sl.v t264_1)]), (b_2, [(Sl.v t154_1)]), (b_1, [(Sl.v t61_1)])]) n_16 ⟨true, 0, rfl, h0_8, hL_47⟩ ?_
  intro I_8 mu_8 hI_8 junk_10 tv_9 tv_10 h_48 hi_18
  obtain ⟨n_15, ⟨all52_1, t360_1, hv, hJ_10, hL_48⟩, hn_8⟩ := hI_8 _ _ hi_18
  cases hv
  have H := HB_8 n_15 all52_1 t360_1 h_48 hJ_10 hL_48
  refine pop_lss .i64 t360_1 (t333_1.n : Int) ?_
  refine condM_b (fun hb_48 => ?_) (fun hb_48 => ?_)
  rotate_left
  ·have H := H.2 hb_48
   refine pop_beq boo4 _ _ all52_1 t339_1 ?_
   exact H
  have H := H.1 hb_48
  refine rop_locA agg32 hL_48 0 rfl 0 (vs := [(Sl.v t333_1)]) rfl rfl ?_
  refine H.mono fun rv_27 h_49 H => ?_
  obtain ⟨t367_1, t367_2, rfl, hL_49, H⟩ := H
  refine pop_ext (v := (VI t367_1)) rfl ?_
  refine pop_ext (v := (VB t367_2)) rfl ?_
  refine guardM_st (fun hb_49 => ?_) (fun hb_49 => ?_)
  ·have H := H.1 hb_49
   refine pop_pickt' hb_49 ?_
   refine pop_add .i64 t360_1 1 ?_
   obtain ⟨m_9, hm_9, H⟩ := H
   exact hn_8 _ _ ⟨m_9, hm_9, t367_2, (w64 (t360_1 + 1)), rfl, H, hL_49⟩
  have H := H.2 hb_49
  refine pop_pickf' hb_49 ?_
  refine pop_add .i64 t360_1 1 ?_
  obtain ⟨m_10, hm_10, H⟩ := H
  exact hn_8 _ _ ⟨m_10, hm_10, false, (w64 (t360_1 + 1)), rfl, H, hL_49⟩
end Go.Proofs.Ytkjkfjkapbpgiaa
