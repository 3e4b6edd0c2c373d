import Derived.Test.YtkjkfjkapbpgiaaGreatDoorWalksComeAgainU1
import Derived.Test.YtkjkfjkapbpgiaaGreatDoorWalksComeAgainT
import Derived.Test.YtkjkfjkapbpgiaaGreatDoorM2
set_option linter.unusedVariables false
set_option linter.unusedSimpArgs false
set_option maxRecDepth 100000
set_option maxHeartbeats 16000000
namespace Go.Proofs.YtkjkfjkapbpgiaaGreatDoor
open Go Go.Mx
theorem v129 (n0_1 : Int) (both1_1 : Bool) (h : Heap) (K : Value -> Heap -> Prop) (H : u129 Tryz.prog n0_1 both1_1 h K) : callM Tryz.prog 129 #[(VI n0_1), (VB both1_1)] h K := by
  refine c129 (VI n0_1) (VB both1_1) h K ?_
  unfold u129 at H
  unfold t129
  have hL : Vars h [] := .nil
  refine eop_alloc 26 zer26 rfl hL (fun b1 h1 hb1 hf1 hL1 => ?_)
  refine pop.mk' (v := (Value.agg #[nilSl.v])) (fun w => by kernel_rfl) ?_
  refine eop_alloc 26 zer26 rfl hL1 (fun b2 h2 hb2 hf2 hL2 => ?_)
  refine uop_loc siz26 hL2 0 rfl 0 [nilSl.v] rfl rfl rfl (Nat.le_of_ble_eq_true rfl) (L' := [(b2, [nilSl.v]), (b1, [nilSl.v])]) rfl (fun h3 hf3 hL3 => ?_)
  have H := H b1 b2 h3 hb1 (Nat.le_trans (Fr.size (Fr.no' (Fr.r (In []) _) hf1)) hb2) (Fr.new (Fr.no' (Fr.no' (Fr.r (In []) _) hf1) hf2) (Nat.le_trans (Fr.size (Fr.no' (Fr.r (In []) _) hf1)) hb2) hf3) hL3
  obtain ⟨J1, ⟨n2, h0_1⟩, HB2⟩ := H
  refine loop_intro (J := fun (n : Nat) (vs : List Value) (h' : Heap) => ∃ p6_1 : Int, ∃ y1 : Sl, vs = [(VI p6_1)] /\ J1 n p6_1 y1 h' /\ Vars h' [(b2, [y1.v]), (b1, [nilSl.v])]) n2 ⟨0, nilSl, rfl, h0_1, hL3⟩ ?_
  intro I1 mu1 hI1 junk1 tv2 h4 hi1
  obtain ⟨n1, ⟨p6_1, y1, hv, hJ1, hL4⟩, hn1⟩ := hI1 _ _ hi1
  cases hv
  have H := HB2 n1 p6_1 y1 h4 hJ1 hL4
  refine pop_lss .i64 p6_1 n0_1 ?_
  refine condM_b (fun hb3 => ?_) (fun hb3 => ?_)
  rotate_left
  ·have H := H.2 hb3
   refine rop_locA agg26 hL4 0 rfl 0 (vs := [y1.v]) rfl rfl ?_
   refine uop_loc siz26 hL4 1 rfl 0 [y1.v] rfl rfl rfl (Nat.le_of_ble_eq_true rfl) (L' := [(b2, [y1.v]), (b1, [y1.v])]) rfl (fun h12 hf5 hL12 => ?_)
   refine rop_locA agg26 hL12 1 rfl 0 (vs := [y1.v]) rfl rfl ?_
   have H := H  h12  (Fr.old (Fr.r (In []) _) hf5) hL12
   exact H
  have H := H.1 hb3
  refine pop_add .i64 p6_1 1 ?_
  obtain ⟨hz_1, H⟩ := H
  refine pop_rem .i64 (w64 (p6_1 + 1)) n0_1 hz_1 ?_
  refine H.mono fun r1 h5 H => ?_
  obtain ⟨s18, rfl, hL5, H⟩ := H
  obtain ⟨J2, H, HB1⟩ := H
  refine ⟨fun (vs : List Value) (h' : Heap) => ∃ y2 : Sl, vs = [y2.v] /\ J2 y2 h' /\ Vars h' [(b2, [y1.v]), (b1, [nilSl.v])], ?_, ?_⟩
  ·refine condM_b (fun hb4 => ?_) (fun hb4 => ?_)
   rotate_left
   ·have H := H.2 hb4
    exact ⟨s18, rfl, H, hL5⟩
   have H := H.1 hb4
   refine pop_add .i64 p6_1 n0_1 ?_
   refine pop_sub .i64 (w64 (p6_1 + n0_1)) 1 ?_
   obtain ⟨hz_2, H⟩ := H
   refine pop_rem .i64 (w64 ((w64 (p6_1 + n0_1)) - 1)) n0_1 hz_2 ?_
   refine H.mono fun r2 h6 H => ?_
   obtain ⟨s27, rfl, hL6, H⟩ := H
   refine H.mono fun r3 h7 H => ?_
   obtain ⟨s28, rfl, hL7, H⟩ := H
   exact ⟨s28, rfl, H, hL7⟩
  intro junk2 tv1 h8
  rintro ⟨y2, hv, hJ2, hL8⟩
  cases hv
  have H := HB1 y2 h8 hJ2 hL8
  refine pop_field 0 fld26_0 b2 0 ?_
  refine rop_loc one24 hL8 0 rfl 0 (v := y1.v) rfl ?_
  refine H.mono fun r4 h9 H => ?_
  obtain ⟨s32, rfl, hL9, H⟩ := H
  refine H.mono fun r5 h10 H => ?_
  obtain ⟨s33, rfl, hL10, H⟩ := H
  refine pop_field 0 fld26_0 b2 0 ?_
  refine uop_loc siz24 hL10 0 rfl 0 [s33.v] rfl rfl rfl (Nat.le_of_ble_eq_true rfl) (L' := [(b2, [s33.v]), (b1, [nilSl.v])]) rfl (fun h11 hf4 hL11 => ?_)
  refine pop_add .i64 p6_1 1 ?_
  have H := H  h11  (Fr.old (Fr.r (In []) _) hf4) hL11
  obtain ⟨m_1, hm_1, H⟩ := H
  exact hn1 _ _ ⟨m_1, hm_1, (w64 (p6_1 + 1)), s33, rfl, H, hL11⟩
def u130 (P : Program) (b1 : Nat) (c0_1 : Sl) (c0_2 : Int) (c0_3 : Int) (n1_1 : Int) (h : Heap) (K : Value -> Heap -> Prop) : Prop :=
 ∃ J1 : Nat -> Sl -> Int -> Heap -> Prop, (∃ n0 : Nat, J1 n0 nilSl 0 h) /\
 ∀ (n1 : Nat) (out5_1 : Sl) (p6_1 : Int) (h1 : Heap), J1 n1 out5_1 p6_1 h1 -> Vars h1 [(b1, [c0_1.v, (VI c0_2), (Value.int .u64 c0_3)])] ->
 ((decide (p6_1 < n1_1)) = true ->
 eop P (Instr.buildSlice 33 1 #[(0, (VI p6_1))]) h1 fun r1 h2 => ∃ s17 : Sl, r1 = s17.v /\ Vars h2 [(b1, [c0_1.v, (VI c0_2), (Value.int .u64 c0_3)])] /\
 eop P (appS 33 33 33 out5_1.v s17.v) h2 fun r2 h3 => ∃ s18 : Sl, r2 = s18.v /\ Vars h3 [(b1, [c0_1.v, (VI c0_2), (Value.int .u64 c0_3)])] /\
 ∃ m : Nat, m < n1 /\ J1 m s18 (w64 (p6_1 + 1)) h3) /\
 ((decide (p6_1 < n1_1)) = false ->
 ∃ J2 : Nat -> Int -> Sl -> Int -> Int -> Heap -> Prop, (∃ n0 : Nat, J2 n0 0 c0_1 c0_2 c0_3 h1) /\
 ∀ (n2 : Nat) (s21 : Int) (y1 : Sl) (y2 : Int) (y3 : Int) (h4 : Heap), J2 n2 s21 y1 y2 y3 h4 -> Vars h4 [(b1, [y1.v, (VI y2), (Value.int .u64 y3)])] ->
 ((decide (s21 < (out5_1.n : Int))) = true ->
 callM P 70 #[(VP b1 0), (VI n1_1)] h4 fun r3 h5 => ∃ y4 : Sl, ∃ y5 : Int, ∃ y6 : Int, ∃ s26 : Int, r3 = (VI s26) /\ Vars h5 [(b1, [y4.v, (VI y5), (Value.int .u64 y6)])] /\
 InB out5_1 s21 /\
 ∃ s30 : Int, hcell h5 (Sl.at out5_1 s21 1) = some (VI s30) /\
 InB out5_1 s26 /\
 ∃ s36 : Int, hcell h5 (Sl.at out5_1 s26 1) = some (VI s36) /\
 InB out5_1 s21 /\
 Writable h5 (Sl.at out5_1 s21 1) /\ Vars (hset h5 (Sl.at out5_1 s21 1) (VI s36)) [(b1, [y4.v, (VI y5), (Value.int .u64 y6)])] /\
 ∀ h6 : Heap, h6 = hset h5 (Sl.at out5_1 s21 1) (VI s36) -> Vars h6 [(b1, [y4.v, (VI y5), (Value.int .u64 y6)])] ->
 InB out5_1 s26 /\
 Writable h6 (Sl.at out5_1 s26 1) /\ Vars (hset h6 (Sl.at out5_1 s26 1) (VI s30)) [(b1, [y4.v, (VI y5), (Value.int .u64 y6)])] /\
 ∀ h7 : Heap, h7 = hset h6 (Sl.at out5_1 s26 1) (VI s30) -> Vars h7 [(b1, [y4.v, (VI y5), (Value.int .u64 y6)])] ->
 ∃ m : Nat, m < n2 /\ J2 m (w64 (s21 + 1)) y4 y5 y6 h7) /\
 ((decide (s21 < (out5_1.n : Int))) = false ->
 K out5_1.v h4))
theorem v130 (b1 : Nat) (c0_1 : Sl) (c0_2 : Int) (c0_3 : Int) (n1_1 : Int) (h : Heap) (K : Value -> Heap -> Prop) (hL : Vars h [(b1, [c0_1.v, (VI c0_2), (Value.int .u64 c0_3)])]) (H : u130 Tryz.prog b1 c0_1 c0_2 c0_3 n1_1 h K) : callM Tryz.prog 130 #[(VP b1 0), (VI n1_1)] h K := by
  refine c130 (VP b1 0) (VI n1_1) h K ?_
  unfold u130 at H
  unfold t130
  obtain ⟨J1, ⟨n4, h0_2⟩, HB2⟩ := H
  refine loop_intro (J := fun (n : Nat) (vs : List Value) (h' : Heap) => ∃ out5_1 : Sl, ∃ p6_1 : Int, vs = [out5_1.v, (VI p6_1)] /\ J1 n out5_1 p6_1 h' /\ Vars h' [(b1, [c0_1.v, (VI c0_2), (Value.int .u64 c0_3)])]) n4 ⟨nilSl, 0, rfl, h0_2, hL⟩ ?_
  intro I2 mu2 hI2 junk1 tv2 tv3 h1 hi1
  obtain ⟨n1, ⟨out5_1, p6_1, hv, hJ1, hL1⟩, hn1⟩ := hI2 _ _ hi1
  cases hv
  have H := HB2 n1 out5_1 p6_1 h1 hJ1 hL1
  refine pop_lss .i64 p6_1 n1_1 ?_
  refine condM_b (fun hb1 => ?_) (fun hb1 => ?_)
  ·have H := H.1 hb1
   refine H.mono fun r1 h2 H => ?_
   obtain ⟨s17, rfl, hL2, H⟩ := H
   refine H.mono fun r2 h3 H => ?_
   obtain ⟨s18, rfl, hL3, H⟩ := H
   refine pop_add .i64 p6_1 1 ?_
   obtain ⟨m_1, hm_1, H⟩ := H
   exact hn1 _ _ ⟨m_1, hm_1, s18, (w64 (p6_1 + 1)), rfl, H, hL3⟩
  have H := H.2 hb1
  refine pop_len out5_1 _ _ sli33 ?_
  obtain ⟨J2, ⟨n3, h0_1⟩, HB1⟩ := H
  refine loop_intro (J := fun (n : Nat) (vs : List Value) (h' : Heap) => ∃ s21 : Int, ∃ y1 : Sl, ∃ y2 : Int, ∃ y3 : Int, vs = [(VI s21)] /\ J2 n s21 y1 y2 y3 h' /\ Vars h' [(b1, [y1.v, (VI y2), (Value.int .u64 y3)])]) n3 ⟨0, c0_1, c0_2, c0_3, rfl, h0_1, hL1⟩ ?_
  intro I1 mu1 hI1 junk2 tv1 h4 hi2
  obtain ⟨n2, ⟨s21, y1, y2, y3, hv, hJ2, hL4⟩, hn2⟩ := hI1 _ _ hi2
  cases hv
  have H := HB1 n2 s21 y1 y2 y3 h4 hJ2 hL4
  refine pop_lss .i64 s21 (out5_1.n : Int) ?_
  refine condM_b (fun hb2 => ?_) (fun hb2 => ?_)
  rotate_left
  ·exact H.2 hb2
  have H := H.1 hb2
  refine H.mono fun r3 h5 H => ?_
  obtain ⟨y4, y5, y6, s26, rfl, hL5, H⟩ := H
  obtain ⟨hi3, H⟩ := H
  refine pop_index sli33 siz3 .i64 out5_1 s21 hi3 ?_
  obtain ⟨s30, hc2, H⟩ := H
  refine rop_one one3 (VI s30) hc2 ?_
  obtain ⟨hi4, H⟩ := H
  refine pop_index sli33 siz3 .i64 out5_1 s26 hi4 ?_
  obtain ⟨s36, hc1, H⟩ := H
  refine rop_one one3 (VI s36) hc1 ?_
  obtain ⟨hi5, H⟩ := H
  refine pop_index sli33 siz3 .i64 out5_1 s21 hi5 ?_
  obtain ⟨hw_1, hL6, H⟩ := H
  refine uop_cell (v := (VI s36)) siz3 hw_1 rfl (fun h6 he_1 => ?_)
  rw [← he_1] at hL6
  have H := H h6 he_1 hL6
  obtain ⟨hi6, H⟩ := H
  refine pop_index sli33 siz3 .i64 out5_1 s26 hi6 ?_
  obtain ⟨hw_2, hL7, H⟩ := H
  refine uop_cell (v := (VI s30)) siz3 hw_2 rfl (fun h7 he_2 => ?_)
  rw [← he_2] at hL7
  have H := H h7 he_2 hL7
  refine pop_add .i64 s21 1 ?_
  obtain ⟨m_2, hm_2, H⟩ := H
  exact hn2 _ _ ⟨m_2, hm_2, (w64 (s21 + 1)), y4, y5, y6, rfl, H, hL7⟩
def u131 (P : Program) (w0_1 : Sl) (w0_2 : Int) (h : Heap) (K : Value -> Heap -> Prop) : Prop :=
 ∀ (b1 : Nat) (h1 : Heap), h.size ≤ b1 -> Fr (In []) h h1 -> Vars h1 [(b1, [w0_1.v, (VI w0_2)])] ->
 callM P 125 #[(VI w0_2)] h1 fun r1 h2 => ∃ s5 : ByteArray, r1 = (VS s5) /\ Vars h2 [(b1, [w0_1.v, (VI w0_2)])] /\
 ByteArray.size s5 + ByteArray.size ({ data := #[58] }) ≤ 9223372036854775807 /\
 callM P 77 #[w0_1.v] h2 fun r2 h3 => ∃ s9 : ByteArray, r2 = (VS s9) /\ Vars h3 [(b1, [w0_1.v, (VI w0_2)])] /\
 ByteArray.size (s5 ++ ({ data := #[58] })) + ByteArray.size s9 ≤ 9223372036854775807 /\
 K (VS ((s5 ++ ({ data := #[58] })) ++ s9)) h3
theorem v131 (w0_1 : Sl) (w0_2 : Int) (h : Heap) (K : Value -> Heap -> Prop) (H : u131 Tryz.prog w0_1 w0_2 h K) : callM Tryz.prog 131 #[(Value.agg #[w0_1.v, (VI w0_2)])] h K := by
  refine c131 (Value.agg #[w0_1.v, (VI w0_2)]) h K ?_
  unfold u131 at H
  unfold t131
  have hL : Vars h [] := .nil
  refine eop_box 54 (Value.agg #[w0_1.v, (VI w0_2)]) rfl hL (fun b1 h1 hb1 hf1 hL1 => ?_)
  refine pop_field 1 fld54_1 b1 0 ?_
  refine rop_loc one3 hL1 0 rfl 1 (v := (VI w0_2)) rfl ?_
  refine pop_field 0 fld54_0 b1 0 ?_
  refine rop_loc one33 hL1 0 rfl 0 (v := w0_1.v) rfl ?_
  have H := H b1 h1 hb1 (Fr.no' (Fr.r (In []) _) hf1) hL1
  refine H.mono fun r1 h2 H => ?_
  obtain ⟨s5, rfl, hL2, H⟩ := H
  refine ⟨?_, ?_⟩
  ·exact still_loc one33 hL2 0 rfl 0 (v := w0_1.v) rfl
  obtain ⟨hz_1, H⟩ := H
  refine pop_sadd s5 ({ data := #[58] }) hz_1 ?_
  refine H.mono fun r2 h3 H => ?_
  obtain ⟨s9, rfl, hL3, H⟩ := H
  obtain ⟨hz_2, H⟩ := H
  refine pop_sadd (s5 ++ ({ data := #[58] })) s9 hz_2 ?_
  exact H
def u132 (P : Program) (v0_1 : Sl) (v0_2 : Int) (w1_1 : Sl) (w1_2 : Int) (h : Heap) (K : Value -> Heap -> Prop) : Prop :=
 ((!decide (v0_2 = w1_2)) = true ->
 ∀ (b1 : Nat) (b2 : Nat) (h2 : Heap), h.size ≤ b1 -> h.size ≤ b2 -> Fr (In []) h h2 -> Vars h2 [(b2, [w1_1.v, (VI w1_2)]), (b1, [v0_1.v, (VI v0_2)])] ->
 K (VB false) h2) /\
 ((!decide (v0_2 = w1_2)) = false ->
 ((!decide ((v0_1.n : Int) = (w1_1.n : Int))) = true ->
 ∀ (b1 : Nat) (b2 : Nat) (h2 : Heap), h.size ≤ b1 -> h.size ≤ b2 -> Fr (In []) h h2 -> Vars h2 [(b2, [w1_1.v, (VI w1_2)]), (b1, [v0_1.v, (VI v0_2)])] ->
 K (VB false) h2) /\
 ((!decide ((v0_1.n : Int) = (w1_1.n : Int))) = false ->
 ∀ (b1 : Nat) (b2 : Nat) (h2 : Heap), h.size ≤ b1 -> h.size ≤ b2 -> Fr (In []) h h2 -> Vars h2 [(b2, [w1_1.v, (VI w1_2)]), (b1, [v0_1.v, (VI v0_2)])] ->
 ∃ J1 : Nat -> Int -> Heap -> Prop, (∃ n0 : Nat, J1 n0 0 h2) /\
 ∀ (n1 : Nat) (s24 : Int) (h3 : Heap), J1 n1 s24 h3 -> Vars h3 [(b2, [w1_1.v, (VI w1_2)]), (b1, [v0_1.v, (VI v0_2)])] ->
 ((decide (s24 < (v0_1.n : Int))) = true ->
 InB v0_1 s24 /\
 ∃ s28 : Int, hcell h3 (Sl.at v0_1 s24 1) = some (VI s28) /\
 InB w1_1 s24 /\
 ∃ s34 : Int, hcell h3 (Sl.at w1_1 s24 1) = some (VI s34) /\
 ((!decide (s28 = s34)) = true ->
 K (VB false) h3) /\
 ((!decide (s28 = s34)) = false ->
 ∃ m : Nat, m < n1 /\ J1 m (w64 (s24 + 1)) h3)) /\
 ((decide (s24 < (v0_1.n : Int))) = false ->
 K (VB true) h3)))
theorem v132 (v0_1 : Sl) (v0_2 : Int) (w1_1 : Sl) (w1_2 : Int) (h : Heap) (K : Value -> Heap -> Prop) (H : u132 Tryz.prog v0_1 v0_2 w1_1 w1_2 h K) : callM Tryz.prog 132 #[(Value.agg #[v0_1.v, (VI v0_2)]), (Value.agg #[w1_1.v, (VI w1_2)])] h K := by
  refine c132 (Value.agg #[v0_1.v, (VI v0_2)]) (Value.agg #[w1_1.v, (VI w1_2)]) h K ?_
  unfold u132 at H
  unfold t132
  have hL : Vars h [] := .nil
  refine eop_box 54 (Value.agg #[v0_1.v, (VI v0_2)]) rfl hL (fun b1 h1 hb1 hf1 hL1 => ?_)
  refine eop_box 54 (Value.agg #[w1_1.v, (VI w1_2)]) rfl hL1 (fun b2 h2 hb2 hf2 hL2 => ?_)
  refine pop_field 1 fld54_1 b1 0 ?_
  refine rop_loc one3 hL2 1 rfl 1 (v := (VI v0_2)) rfl ?_
  refine pop_field 1 fld54_1 b2 0 ?_
  refine rop_loc one3 hL2 0 rfl 1 (v := (VI w1_2)) rfl ?_
  refine pop_ine .i64 _ _ v0_2 w1_2 ?_
  refine guardM_sf (fun hb3 => ?_) (fun hb3 => ?_)
  rotate_left
  ·have H := H.1 hb3
   refine guardM_n' hb3 (by decide) ?_
   refine guardM_n' hb3 (by decide) ?_
   refine guardM_n' hb3 (by decide) ?_
   refine guardM_n' hb3 (by decide) ?_
   refine guardM_n' hb3 (by decide) ?_
   refine guardM_n' hb3 (by decide) ?_
   refine pop_pickt' hb3 ?_
   refine condM_t ?_
   have H := H b1 b2 h2 hb1 (Nat.le_trans (Fr.size (Fr.no' (Fr.r (In []) _) hf1)) hb2) (Fr.no' (Fr.no' (Fr.r (In []) _) hf1) hf2) hL2
   exact H
  have H := H.2 hb3
  refine pop_field 0 fld54_0 b1 0 ?_
  refine guardM_y' hb3 ?_
  refine rop_loc one33 hL2 1 rfl 0 (v := v0_1.v) rfl ?_
  refine guardM_y' hb3 ?_
  refine pop_len v0_1 _ _ sli33 ?_
  refine guardM_y' hb3 ?_
  refine pop_field 0 fld54_0 b2 0 ?_
  refine guardM_y' hb3 ?_
  refine rop_loc one33 hL2 0 rfl 0 (v := w1_1.v) rfl ?_
  refine guardM_y' hb3 ?_
  refine pop_len w1_1 _ _ sli33 ?_
  refine guardM_y' hb3 ?_
  refine pop_ine .i64 _ _ (v0_1.n : Int) (w1_1.n : Int) ?_
  refine pop_pickf' hb3 ?_
  refine condM_b (fun hb4 => ?_) (fun hb4 => ?_)
  ·have H := H.1 hb4
   have H := H b1 b2 h2 hb1 (Nat.le_trans (Fr.size (Fr.no' (Fr.r (In []) _) hf1)) hb2) (Fr.no' (Fr.no' (Fr.r (In []) _) hf1) hf2) hL2
   exact H
  have H := H.2 hb4
  refine pop_field 0 fld54_0 b1 0 ?_
  refine rop_loc one33 hL2 1 rfl 0 (v := v0_1.v) rfl ?_
  refine pop_len v0_1 _ _ sli33 ?_
  have H := H b1 b2 h2 hb1 (Nat.le_trans (Fr.size (Fr.no' (Fr.r (In []) _) hf1)) hb2) (Fr.no' (Fr.no' (Fr.r (In []) _) hf1) hf2) hL2
  obtain ⟨J1, ⟨n2, h0_1⟩, HB1⟩ := H
  refine loop_intro (J := fun (n : Nat) (vs : List Value) (h' : Heap) => ∃ s24 : Int, vs = [(VI s24)] /\ J1 n s24 h' /\ Vars h' [(b2, [w1_1.v, (VI w1_2)]), (b1, [v0_1.v, (VI v0_2)])]) n2 ⟨0, rfl, h0_1, hL2⟩ ?_
  intro I1 mu1 hI1 junk1 tv1 h3 hi1
  obtain ⟨n1, ⟨s24, hv, hJ1, hL3⟩, hn1⟩ := hI1 _ _ hi1
  cases hv
  have H := HB1 n1 s24 h3 hJ1 hL3
  refine pop_lss .i64 s24 (v0_1.n : Int) ?_
  refine condM_b (fun hb5 => ?_) (fun hb5 => ?_)
  rotate_left
  ·exact H.2 hb5
  have H := H.1 hb5
  obtain ⟨hi2, H⟩ := H
  refine pop_index sli33 siz3 .i64 v0_1 s24 hi2 ?_
  obtain ⟨s28, hc2, H⟩ := H
  refine rop_one one3 (VI s28) hc2 ?_
  refine pop_field 0 fld54_0 b2 0 ?_
  refine rop_loc one33 hL3 0 rfl 0 (v := w1_1.v) rfl ?_
  obtain ⟨hi3, H⟩ := H
  refine pop_index sli33 siz3 .i64 w1_1 s24 hi3 ?_
  obtain ⟨s34, hc1, H⟩ := H
  refine rop_one one3 (VI s34) hc1 ?_
  refine pop_ine .i64 _ _ s28 s34 ?_
  refine condM_b (fun hb6 => ?_) (fun hb6 => ?_)
  ·exact H.1 hb6
  have H := H.2 hb6
  refine pop_add .i64 s24 1 ?_
  obtain ⟨m_1, hm_1, H⟩ := H
  exact hn1 _ _ ⟨m_1, hm_1, (w64 (s24 + 1)), rfl, H, hL3⟩
def u133 (P : Program) (s10_1 : Sl) (s21_1 : Sl) (h : Heap) (K : Value -> Heap -> Prop) : Prop :=
 ((!decide ((s10_1.n : Int) = (s21_1.n : Int))) = true ->
 K (VB false) h) /\
 ((!decide ((s10_1.n : Int) = (s21_1.n : Int))) = false ->
 ∃ J1 : Nat -> Int -> Heap -> Prop, (∃ n0 : Nat, J1 n0 0 h) /\
 ∀ (n1 : Nat) (s13 : Int) (h1 : Heap), J1 n1 s13 h1 -> Vars h1 [] ->
 ((decide (s13 < (s10_1.n : Int))) = true ->
 InB s10_1 s13 /\
 ∃ s19 : Int, hcell h1 (Sl.at s10_1 s13 1) = some (VI s19) /\
 InB s21_1 s13 /\
 ∃ s23 : Int, hcell h1 (Sl.at s21_1 s13 1) = some (VI s23) /\
 ((!decide (s19 = s23)) = true ->
 K (VB false) h1) /\
 ((!decide (s19 = s23)) = false ->
 ∃ m : Nat, m < n1 /\ J1 m (w64 (s13 + 1)) h1)) /\
 ((decide (s13 < (s10_1.n : Int))) = false ->
 K (VB true) h1))
theorem v133 (s10_1 : Sl) (s21_1 : Sl) (h : Heap) (K : Value -> Heap -> Prop) (H : u133 Tryz.prog s10_1 s21_1 h K) : callM Tryz.prog 133 #[s10_1.v, s21_1.v] h K := by
  refine c133 s10_1.v s21_1.v h K ?_
  unfold u133 at H
  unfold t133
  have hL : Vars h [] := .nil
  refine pop_len s10_1 _ _ sli33 ?_
  refine pop_len s21_1 _ _ sli33 ?_
  refine pop_ine .i64 _ _ (s10_1.n : Int) (s21_1.n : Int) ?_
  refine condM_b (fun hb1 => ?_) (fun hb1 => ?_)
  ·exact H.1 hb1
  have H := H.2 hb1
  refine pop_len s10_1 _ _ sli33 ?_
  obtain ⟨J1, ⟨n2, h0_1⟩, HB1⟩ := H
  refine loop_intro (J := fun (n : Nat) (vs : List Value) (h' : Heap) => ∃ s13 : Int, vs = [(VI s13)] /\ J1 n s13 h' /\ Vars h' []) n2 ⟨0, rfl, h0_1, hL⟩ ?_
  intro I1 mu1 hI1 junk1 tv1 h1 hi1
  obtain ⟨n1, ⟨s13, hv, hJ1, hL1⟩, hn1⟩ := hI1 _ _ hi1
  cases hv
  have H := HB1 n1 s13 h1 hJ1 hL1
  refine pop_lss .i64 s13 (s10_1.n : Int) ?_
  refine condM_b (fun hb2 => ?_) (fun hb2 => ?_)
  rotate_left
  ·exact H.2 hb2
  have H := H.1 hb2
  obtain ⟨hi2, H⟩ := H
  refine pop_index sli33 siz3 .i64 s10_1 s13 hi2 ?_
  obtain ⟨s19, hc2, H⟩ := H
  refine rop_one one3 (VI s19) hc2 ?_
  obtain ⟨hi3, H⟩ := H
  refine pop_index sli33 siz3 .i64 s21_1 s13 hi3 ?_
  obtain ⟨s23, hc1, H⟩ := H
  refine rop_one one3 (VI s23) hc1 ?_
  refine pop_ine .i64 _ _ s19 s23 ?_
  refine condM_b (fun hb3 => ?_) (fun hb3 => ?_)
  ·exact H.1 hb3
  have H := H.2 hb3
  refine pop_add .i64 s13 1 ?_
  obtain ⟨m_1, hm_1, H⟩ := H
  exact hn1 _ _ ⟨m_1, hm_1, (w64 (s13 + 1)), rfl, H, hL1⟩
def u134 (P : Program) (q0_1 : Int) (b1 : Nat) (s1 : Int) (h : Heap) (K : Value -> Heap -> Prop) : Prop :=
 callM P 72 #[(VI q0_1), (VI 0), (VI (w64 (s1 - 1)))] h fun r1 h1 => ∃ s7 : Bool, r1 = (VB s7) /\ Vars h1 [(b1, [(VI s1)])] /\
 K (VB (!s7)) h1
theorem v134 (q0_1 : Int) (b1 : Nat) (s1 : Int) (h : Heap) (K : Value -> Heap -> Prop) (hL : Vars h [(b1, [(VI s1)])]) (H : u134 Tryz.prog q0_1 b1 s1 h K) : callM Tryz.prog 134 #[(VI q0_1), (VP b1 0)] h K := by
  refine c134 (VI q0_1) (VP b1 0) h K ?_
  unfold u134 at H
  unfold t134
  refine rop_loc one3 hL 0 rfl 0 (v := (VI s1)) rfl ?_
  refine pop_sub .i64 s1 1 ?_
  refine H.mono fun r1 h1 H => ?_
  obtain ⟨s7, rfl, hL1, H⟩ := H
  refine pop_not s7 ?_
  exact H
def u135 (P : Program) (g0_1 : Sl) (p1_1 : Int) (h : Heap) (K : Value -> Heap -> Prop) : Prop :=
 ∀ (b1 : Nat) (h1 : Heap), h.size ≤ b1 -> Fr (In []) h h1 -> Vars h1 [(b1, [g0_1.v])] ->
 eop P (Instr.buildSlice 33 0 #[]) h1 fun r1 h2 => ∃ s8 : Sl, r1 = s8.v /\ Vars h2 [(b1, [g0_1.v])] /\
 callM P 148 #[(.agg #[g0_1.v]), (VI p1_1)] h2 fun r2 h3 => ∃ s11 : Sl, r2 = s11.v /\ Vars h3 [(b1, [g0_1.v])] /\
 ∃ J1 : Nat -> Sl -> Int -> Heap -> Prop, (∃ n0 : Nat, J1 n0 s8 0 h3) /\
 ∀ (n1 : Nat) (out5_1 : Sl) (s13 : Int) (h4 : Heap), J1 n1 out5_1 s13 h4 -> Vars h4 [(b1, [g0_1.v])] ->
 ((decide (s13 < (s11.n : Int))) = true ->
 InB s11 s13 /\
 ∃ s17 : Int, hcell h4 (Sl.at s11 s13 1) = some (VI s17) /\
 ((decide (0 ≤ s17)) = true ->
 eop P (Instr.buildSlice 33 1 #[(0, (VI s13))]) h4 fun r3 h5 => ∃ s22 : Sl, r3 = s22.v /\ Vars h5 [(b1, [g0_1.v])] /\
 eop P (appS 33 33 33 out5_1.v s22.v) h5 fun r4 h6 => ∃ s23 : Sl, r4 = s23.v /\ Vars h6 [(b1, [g0_1.v])] /\
 ∃ m : Nat, m < n1 /\ J1 m s23 (w64 (s13 + 1)) h6) /\
 ((decide (0 ≤ s17)) = false ->
 ∃ m : Nat, m < n1 /\ J1 m out5_1 (w64 (s13 + 1)) h4)) /\
 ((decide (s13 < (s11.n : Int))) = false ->
 K out5_1.v h4)
theorem v135 (g0_1 : Sl) (p1_1 : Int) (h : Heap) (K : Value -> Heap -> Prop) (H : u135 Tryz.prog g0_1 p1_1 h K) : callM Tryz.prog 135 #[(Value.agg #[g0_1.v]), (VI p1_1)] h K := by
  refine c135 (Value.agg #[g0_1.v]) (VI p1_1) h K ?_
  unfold u135 at H
  unfold t135
  have hL : Vars h [] := .nil
  refine eop_box 26 (Value.agg #[g0_1.v]) rfl hL (fun b1 h1 hb1 hf1 hL1 => ?_)
  have H := H b1 h1 hb1 (Fr.no' (Fr.r (In []) _) hf1) hL1
  refine H.mono fun r1 h2 H => ?_
  obtain ⟨s8, rfl, hL2, H⟩ := H
  refine rop_locA agg26 hL2 0 rfl 0 (vs := [g0_1.v]) rfl rfl ?_
  refine H.mono fun r2 h3 H => ?_
  obtain ⟨s11, rfl, hL3, H⟩ := H
  refine pop_len s11 _ _ sli33 ?_
  obtain ⟨J1, ⟨n2, h0_1⟩, HB1⟩ := H
  refine loop_intro (J := fun (n : Nat) (vs : List Value) (h' : Heap) => ∃ out5_1 : Sl, ∃ s13 : Int, vs = [out5_1.v, (VI s13)] /\ J1 n out5_1 s13 h' /\ Vars h' [(b1, [g0_1.v])]) n2 ⟨s8, 0, rfl, h0_1, hL3⟩ ?_
  intro I1 mu1 hI1 junk1 tv1 tv2 h4 hi1
  obtain ⟨n1, ⟨out5_1, s13, hv, hJ1, hL4⟩, hn1⟩ := hI1 _ _ hi1
  cases hv
  have H := HB1 n1 out5_1 s13 h4 hJ1 hL4
  refine pop_lss .i64 s13 (s11.n : Int) ?_
  refine condM_b (fun hb2 => ?_) (fun hb2 => ?_)
  rotate_left
  ·exact H.2 hb2
  have H := H.1 hb2
  obtain ⟨hi2, H⟩ := H
  refine pop_index sli33 siz3 .i64 s11 s13 hi2 ?_
  obtain ⟨s17, hc1, H⟩ := H
  refine rop_one one3 (VI s17) hc1 ?_
  refine pop_geq .i64 s17 0 ?_
  refine condM_b (fun hb3 => ?_) (fun hb3 => ?_)
  rotate_left
  ·have H := H.2 hb3
   refine pop_add .i64 s13 1 ?_
   obtain ⟨m_2, hm_2, H⟩ := H
   exact hn1 _ _ ⟨m_2, hm_2, out5_1, (w64 (s13 + 1)), rfl, H, hL4⟩
  have H := H.1 hb3
  refine H.mono fun r3 h5 H => ?_
  obtain ⟨s22, rfl, hL5, H⟩ := H
  refine H.mono fun r4 h6 H => ?_
  obtain ⟨s23, rfl, hL6, H⟩ := H
  refine pop_add .i64 s13 1 ?_
  obtain ⟨m_1, hm_1, H⟩ := H
  exact hn1 _ _ ⟨m_1, hm_1, s23, (w64 (s13 + 1)), rfl, H, hL6⟩
def u136 (P : Program) (g0_1 : Sl) (p1_1 : Int) (h : Heap) (K : Value -> Heap -> Prop) : Prop :=
 ∀ (b1 : Nat) (h1 : Heap), h.size ≤ b1 -> Fr (In []) h h1 -> Vars h1 [(b1, [g0_1.v])] ->
 callM P 97 #[g0_1.v] h1 fun r1 h2 => ∃ s10 : Sl, r1 = s10.v /\ Vars h2 [(b1, [g0_1.v])] /\
 ∃ J1 : Nat -> Int -> Int -> Heap -> Prop, (∃ n0 : Nat, J1 n0 0 0 h2) /\
 ∀ (n1 : Nat) (many5_1 : Int) (s12 : Int) (h3 : Heap), J1 n1 many5_1 s12 h3 -> Vars h3 [(b1, [g0_1.v])] ->
 ((decide (s12 < (s10.n : Int))) = true ->
 InB s10 s12 /\
 ∃ s15 : Int, hcell h3 (Sl.at s10 s12 1) = some (VI s15) /\
 ((decide (s15 = p1_1)) = true ->
 ∃ m : Nat, m < n1 /\ J1 m (w64 (many5_1 + 1)) (w64 (s12 + 1)) h3) /\
 ((decide (s15 = p1_1)) = false ->
 ∃ m : Nat, m < n1 /\ J1 m many5_1 (w64 (s12 + 1)) h3)) /\
 ((decide (s12 < (s10.n : Int))) = false ->
 K (VI many5_1) h3)
theorem v136 (g0_1 : Sl) (p1_1 : Int) (h : Heap) (K : Value -> Heap -> Prop) (H : u136 Tryz.prog g0_1 p1_1 h K) : callM Tryz.prog 136 #[(Value.agg #[g0_1.v]), (VI p1_1)] h K := by
  refine c136 (Value.agg #[g0_1.v]) (VI p1_1) h K ?_
  unfold u136 at H
  unfold t136
  have hL : Vars h [] := .nil
  refine eop_box 26 (Value.agg #[g0_1.v]) rfl hL (fun b1 h1 hb1 hf1 hL1 => ?_)
  refine pop_field 0 fld26_0 b1 0 ?_
  refine rop_loc one24 hL1 0 rfl 0 (v := g0_1.v) rfl ?_
  have H := H b1 h1 hb1 (Fr.no' (Fr.r (In []) _) hf1) hL1
  refine H.mono fun r1 h2 H => ?_
  obtain ⟨s10, rfl, hL2, H⟩ := H
  refine pop_len s10 _ _ sli33 ?_
  obtain ⟨J1, ⟨n2, h0_1⟩, HB1⟩ := H
  refine loop_intro (J := fun (n : Nat) (vs : List Value) (h' : Heap) => ∃ many5_1 : Int, ∃ s12 : Int, vs = [(VI many5_1), (VI s12)] /\ J1 n many5_1 s12 h' /\ Vars h' [(b1, [g0_1.v])]) n2 ⟨0, 0, rfl, h0_1, hL2⟩ ?_
  intro I1 mu1 hI1 junk1 tv1 tv2 h3 hi1
  obtain ⟨n1, ⟨many5_1, s12, hv, hJ1, hL3⟩, hn1⟩ := hI1 _ _ hi1
  cases hv
  have H := HB1 n1 many5_1 s12 h3 hJ1 hL3
  refine pop_lss .i64 s12 (s10.n : Int) ?_
  refine condM_b (fun hb2 => ?_) (fun hb2 => ?_)
  rotate_left
  ·exact H.2 hb2
  have H := H.1 hb2
  obtain ⟨hi2, H⟩ := H
  refine pop_index sli33 siz3 .i64 s10 s12 hi2 ?_
  obtain ⟨s15, hc1, H⟩ := H
  refine rop_one one3 (VI s15) hc1 ?_
  refine pop_ieq .i64 _ _ s15 p1_1 ?_
  refine condM_b (fun hb3 => ?_) (fun hb3 => ?_)
  rotate_left
  ·have H := H.2 hb3
   refine pop_add .i64 s12 1 ?_
   obtain ⟨m_2, hm_2, H⟩ := H
   exact hn1 _ _ ⟨m_2, hm_2, many5_1, (w64 (s12 + 1)), rfl, H, hL3⟩
  have H := H.1 hb3
  refine pop_add .i64 many5_1 1 ?_
  refine pop_add .i64 s12 1 ?_
  obtain ⟨m_1, hm_1, H⟩ := H
  exact hn1 _ _ ⟨m_1, hm_1, (w64 (many5_1 + 1)), (w64 (s12 + 1)), rfl, H, hL3⟩
def u137 (P : Program) (s0_1 : Sl) (n1_1 : Int) (h : Heap) (K : Value -> Heap -> Prop) : Prop :=
 ∃ J1 : Heap -> Prop, (((decide (n1_1 < 0)) = true ->
 pop P (Instr.makeInterface 9 (Value.string { data := #[99, 97, 110, 110, 111, 116, 32, 98, 101, 32, 110, 101, 103, 97, 116, 105, 118, 101] })) fun r1 => ∃ s7 : Value, r1 = s7 /\ 
 False) /\
 ((decide (n1_1 < 0)) = false ->
 J1  h)) /\
 ∀ (h1 : Heap), J1  h1 -> Vars h1 [] ->
 pop P (Builtin.cap_ #[33] 3 #[s0_1.v]) fun r2 => ∃ s10 : Int, r2 = (VI s10) /\ 
 ((decide (0 < (w64 (n1_1 - (w64 (s10 - (s0_1.n : Int))))))) = true ->
 pop P (Builtin.cap_ #[33] 3 #[s0_1.v]) fun r3 => ∃ s19 : Int, r3 = (VI s19) /\ 
 pop P (Instr.sliceAt 33 s0_1.v none (some (VI s19)) none) fun r4 => ∃ s20 : Sl, r4 = s20.v /\ 
 eop P (appS 33 3 33 s20.v (VI (w64 (n1_1 - (w64 (s10 - (s0_1.n : Int))))))) h1 fun r5 h2 => ∃ s22 : Sl, r5 = s22.v /\ Vars h2 [] /\
 pop P (Instr.sliceAt 33 s22.v none (some (VI (s0_1.n : Int))) none) fun r6 => ∃ s25 : Sl, r6 = s25.v /\ 
 K s25.v h2) /\
 ((decide (0 < (w64 (n1_1 - (w64 (s10 - (s0_1.n : Int))))))) = false ->
 K s0_1.v h1)
theorem v137 (s0_1 : Sl) (n1_1 : Int) (h : Heap) (K : Value -> Heap -> Prop) (H : u137 Tryz.prog s0_1 n1_1 h K) : callM Tryz.prog 137 #[s0_1.v, (VI n1_1)] h K := by
  refine c137 s0_1.v (VI n1_1) h K ?_
  unfold u137 at H
  unfold t137
  have hL : Vars h [] := .nil
  obtain ⟨J1, H, HB1⟩ := H
  refine ⟨fun (vs : List Value) (h' : Heap) => vs = [] /\ J1  h' /\ Vars h' [], ?_, ?_⟩
  ·refine pop_lss .i64 n1_1 0 ?_
   refine condM_b (fun hb1 => ?_) (fun hb1 => ?_)
   rotate_left
   ·have H := H.2 hb1
    exact ⟨rfl, H, hL⟩
   have H := H.1 hb1
   refine H.mono fun r1 H => ?_
   obtain ⟨s7, rfl, H⟩ := H
   exact H.elim
  intro junk1  h1
  rintro ⟨hv, hJ1, hL1⟩
  have H := HB1  h1 hJ1 hL1
  refine H.mono fun r2 H => ?_
  obtain ⟨s10, rfl, H⟩ := H
  refine pop_len s0_1 _ _ sli33 ?_
  refine pop_sub .i64 s10 (s0_1.n : Int) ?_
  refine pop_sub .i64 n1_1 (w64 (s10 - (s0_1.n : Int))) ?_
  refine pop_gtr .i64 (w64 (n1_1 - (w64 (s10 - (s0_1.n : Int))))) 0 ?_
  refine condM_b (fun hb2 => ?_) (fun hb2 => ?_)
  rotate_left
  ·exact H.2 hb2
  have H := H.1 hb2
  refine H.mono fun r3 H => ?_
  obtain ⟨s19, rfl, H⟩ := H
  refine H.mono fun r4 H => ?_
  obtain ⟨s20, rfl, H⟩ := H
  refine H.mono fun r5 h2 H => ?_
  obtain ⟨s22, rfl, hL2, H⟩ := H
  refine pop_len s0_1 _ _ sli33 ?_
  refine H.mono fun r6 H => ?_
  obtain ⟨s25, rfl, H⟩ := H
  exact H
def u138 (P : Program) (g0_1 : Sl) (rotors1_1 : Sl) (p2_1 : Int) (h : Heap) (K : Value -> Heap -> Prop) : Prop :=
 ∀ (b1 : Nat) (h1 : Heap), h.size ≤ b1 -> Fr (In []) h h1 -> Vars h1 [(b1, [g0_1.v])] ->
 eop P (Instr.buildSlice 33 0 #[]) h1 fun r1 h2 => ∃ s9 : Sl, r1 = s9.v /\ Vars h2 [(b1, [g0_1.v])] /\
 ∃ J1 : Nat -> Int -> Sl -> Heap -> Prop, (∃ n0 : Nat, J1 n0 p2_1 s9 h2) /\
 ∀ (n1 : Nat) (p2_2 : Int) (met8_1 : Sl) (h3 : Heap), J1 n1 p2_2 met8_1 h3 -> Vars h3 [(b1, [g0_1.v])] ->
 callM P 139 #[met8_1.v, (VI p2_2)] h3 fun r2 h4 => ∃ s12 : Bool, r2 = (VB s12) /\ Vars h4 [(b1, [g0_1.v])] /\
 ((!s12) = true ->
 eop P (Instr.buildSlice 33 1 #[(0, (VI p2_2))]) h4 fun r3 h5 => ∃ s16 : Sl, r3 = s16.v /\ Vars h5 [(b1, [g0_1.v])] /\
 eop P (appS 33 33 33 met8_1.v s16.v) h5 fun r4 h6 => ∃ s17 : Sl, r4 = s17.v /\ Vars h6 [(b1, [g0_1.v])] /\
 callM P 143 #[(.agg #[g0_1.v]), rotors1_1.v, (VI p2_2)] h6 fun r5 h7 => ∃ s21 : Int, r5 = (VI s21) /\ Vars h7 [(b1, [g0_1.v])] /\
 ((decide (s21 < 0)) = true ->
 K (.tuple #[nilSl.v, (VB false)]) h7) /\
 ((decide (s21 < 0)) = false ->
 ∃ m : Nat, m < n1 /\ J1 m s21 s17 h7)) /\
 ((!s12) = false ->
 callM P 115 #[met8_1.v, (VI p2_2)] h4 fun r6 h8 => ∃ s27 : Int, r6 = (VI s27) /\ Vars h8 [(b1, [g0_1.v])] /\
 pop P (Instr.sliceAt 33 met8_1.v (some (VI s27)) none none) fun r7 => ∃ s28 : Sl, r7 = s28.v /\ 
 K (.tuple #[s28.v, (VB true)]) h8)
theorem v138 (g0_1 : Sl) (rotors1_1 : Sl) (p2_1 : Int) (h : Heap) (K : Value -> Heap -> Prop) (H : u138 Tryz.prog g0_1 rotors1_1 p2_1 h K) : callM Tryz.prog 138 #[(Value.agg #[g0_1.v]), rotors1_1.v, (VI p2_1)] h K := by
  refine c138 (Value.agg #[g0_1.v]) rotors1_1.v (VI p2_1) h K ?_
  unfold u138 at H
  unfold t138
  have hL : Vars h [] := .nil
  refine eop_box 26 (Value.agg #[g0_1.v]) rfl hL (fun b1 h1 hb1 hf1 hL1 => ?_)
  have H := H b1 h1 hb1 (Fr.no' (Fr.r (In []) _) hf1) hL1
  refine H.mono fun r1 h2 H => ?_
  obtain ⟨s9, rfl, hL2, H⟩ := H
  obtain ⟨J1, ⟨n2, h0_1⟩, HB1⟩ := H
  refine loop_intro (J := fun (n : Nat) (vs : List Value) (h' : Heap) => ∃ p2_2 : Int, ∃ met8_1 : Sl, vs = [(VI p2_2), met8_1.v] /\ J1 n p2_2 met8_1 h' /\ Vars h' [(b1, [g0_1.v])]) n2 ⟨p2_1, s9, rfl, h0_1, hL2⟩ ?_
  intro I1 mu1 hI1 junk1 tv1 tv2 h3 hi1
  obtain ⟨n1, ⟨p2_2, met8_1, hv, hJ1, hL3⟩, hn1⟩ := hI1 _ _ hi1
  cases hv
  have H := HB1 n1 p2_2 met8_1 h3 hJ1 hL3
  refine H.mono fun r2 h4 H => ?_
  obtain ⟨s12, rfl, hL4, H⟩ := H
  refine pop_not s12 ?_
  refine condM_b (fun hb2 => ?_) (fun hb2 => ?_)
  rotate_left
  ·have H := H.2 hb2
   refine H.mono fun r6 h8 H => ?_
   obtain ⟨s27, rfl, hL8, H⟩ := H
   refine H.mono fun r7 H => ?_
   obtain ⟨s28, rfl, H⟩ := H
   exact H
  have H := H.1 hb2
  refine H.mono fun r3 h5 H => ?_
  obtain ⟨s16, rfl, hL5, H⟩ := H
  refine H.mono fun r4 h6 H => ?_
  obtain ⟨s17, rfl, hL6, H⟩ := H
  refine rop_locA agg26 hL6 0 rfl 0 (vs := [g0_1.v]) rfl rfl ?_
  refine H.mono fun r5 h7 H => ?_
  obtain ⟨s21, rfl, hL7, H⟩ := H
  refine pop_lss .i64 s21 0 ?_
  refine condM_b (fun hb3 => ?_) (fun hb3 => ?_)
  ·exact H.1 hb3
  have H := H.2 hb3
  obtain ⟨m_1, hm_1, H⟩ := H
  exact hn1 _ _ ⟨m_1, hm_1, s21, s17, rfl, H, hL7⟩
def u139 (P : Program) (s0_1 : Sl) (v1_1 : Int) (h : Heap) (K : Value -> Heap -> Prop) : Prop :=
 callM P 115 #[s0_1.v, (VI v1_1)] h fun r1 h1 => ∃ s7 : Int, r1 = (VI s7) /\ Vars h1 [] /\
 K (VB (decide (0 ≤ s7))) h1
theorem v139 (s0_1 : Sl) (v1_1 : Int) (h : Heap) (K : Value -> Heap -> Prop) (H : u139 Tryz.prog s0_1 v1_1 h K) : callM Tryz.prog 139 #[s0_1.v, (VI v1_1)] h K := by
  refine c139 s0_1.v (VI v1_1) h K ?_
  unfold u139 at H
  unfold t139
  have hL : Vars h [] := .nil
  refine H.mono fun r1 h1 H => ?_
  obtain ⟨s7, rfl, hL1, H⟩ := H
  refine pop_geq .i64 s7 0 ?_
  exact H
def u140 (P : Program) (g0_1 : Sl) (p1_1 : Int) (h : Heap) (K : Value -> Heap -> Prop) : Prop :=
 ∀ (b1 : Nat) (h1 : Heap), h.size ≤ b1 -> Fr (In []) h h1 -> Vars h1 [(b1, [g0_1.v])] ->
 callM P 149 #[(.agg #[g0_1.v]), (VI p1_1)] h1 fun r1 h2 => ∃ s10 : Sl, r1 = s10.v /\ Vars h2 [(b1, [g0_1.v])] /\
 ∃ J1 : Nat -> Sl -> Int -> Heap -> Prop, (∃ n0 : Nat, J1 n0 nilSl 0 h2) /\
 ∀ (n1 : Nat) (out5_1 : Sl) (s12 : Int) (h3 : Heap), J1 n1 out5_1 s12 h3 -> Vars h3 [(b1, [g0_1.v])] ->
 ((decide (s12 < (s10.n : Int))) = true ->
 InB s10 s12 /\
 ∃ s16 : Int, hcell h3 (Sl.at s10 s12 1) = some (VI s16) /\
 ((decide (0 ≤ s16)) = true ->
 eop P (Instr.buildSlice 33 1 #[(0, (VI s12))]) h3 fun r2 h4 => ∃ s21 : Sl, r2 = s21.v /\ Vars h4 [(b1, [g0_1.v])] /\
 eop P (appS 33 33 33 out5_1.v s21.v) h4 fun r3 h5 => ∃ s22 : Sl, r3 = s22.v /\ Vars h5 [(b1, [g0_1.v])] /\
 ∃ m : Nat, m < n1 /\ J1 m s22 (w64 (s12 + 1)) h5) /\
 ((decide (0 ≤ s16)) = false ->
 ∃ m : Nat, m < n1 /\ J1 m out5_1 (w64 (s12 + 1)) h3)) /\
 ((decide (s12 < (s10.n : Int))) = false ->
 K out5_1.v h3)
theorem v140 (g0_1 : Sl) (p1_1 : Int) (h : Heap) (K : Value -> Heap -> Prop) (H : u140 Tryz.prog g0_1 p1_1 h K) : callM Tryz.prog 140 #[(Value.agg #[g0_1.v]), (VI p1_1)] h K := by
  refine c140 (Value.agg #[g0_1.v]) (VI p1_1) h K ?_
  unfold u140 at H
  unfold t140
  have hL : Vars h [] := .nil
  refine eop_box 26 (Value.agg #[g0_1.v]) rfl hL (fun b1 h1 hb1 hf1 hL1 => ?_)
  refine rop_locA agg26 hL1 0 rfl 0 (vs := [g0_1.v]) rfl rfl ?_
  have H := H b1 h1 hb1 (Fr.no' (Fr.r (In []) _) hf1) hL1
  refine H.mono fun r1 h2 H => ?_
  obtain ⟨s10, rfl, hL2, H⟩ := H
  refine pop_len s10 _ _ sli33 ?_
  obtain ⟨J1, ⟨n2, h0_1⟩, HB1⟩ := H
  refine loop_intro (J := fun (n : Nat) (vs : List Value) (h' : Heap) => ∃ out5_1 : Sl, ∃ s12 : Int, vs = [out5_1.v, (VI s12)] /\ J1 n out5_1 s12 h' /\ Vars h' [(b1, [g0_1.v])]) n2 ⟨nilSl, 0, rfl, h0_1, hL2⟩ ?_
  intro I1 mu1 hI1 junk1 tv1 tv2 h3 hi1
  obtain ⟨n1, ⟨out5_1, s12, hv, hJ1, hL3⟩, hn1⟩ := hI1 _ _ hi1
  cases hv
  have H := HB1 n1 out5_1 s12 h3 hJ1 hL3
  refine pop_lss .i64 s12 (s10.n : Int) ?_
  refine condM_b (fun hb2 => ?_) (fun hb2 => ?_)
  rotate_left
  ·exact H.2 hb2
  have H := H.1 hb2
  obtain ⟨hi2, H⟩ := H
  refine pop_index sli33 siz3 .i64 s10 s12 hi2 ?_
  obtain ⟨s16, hc1, H⟩ := H
  refine rop_one one3 (VI s16) hc1 ?_
  refine pop_geq .i64 s16 0 ?_
  refine condM_b (fun hb3 => ?_) (fun hb3 => ?_)
  rotate_left
  ·have H := H.2 hb3
   refine pop_add .i64 s12 1 ?_
   obtain ⟨m_2, hm_2, H⟩ := H
   exact hn1 _ _ ⟨m_2, hm_2, out5_1, (w64 (s12 + 1)), rfl, H, hL3⟩
  have H := H.1 hb3
  refine H.mono fun r2 h4 H => ?_
  obtain ⟨s21, rfl, hL4, H⟩ := H
  refine H.mono fun r3 h5 H => ?_
  obtain ⟨s22, rfl, hL5, H⟩ := H
  refine pop_add .i64 s12 1 ?_
  obtain ⟨m_1, hm_1, H⟩ := H
  exact hn1 _ _ ⟨m_1, hm_1, s22, (w64 (s12 + 1)), rfl, H, hL5⟩
def u141 (P : Program) (g0_1 : Sl) (p1_1 : Int) (h : Heap) (K : Value -> Heap -> Prop) : Prop :=
 ∀ (b1 : Nat) (h1 : Heap), h.size ≤ b1 -> Fr (In []) h h1 -> Vars h1 [(b1, [g0_1.v])] ->
 ∃ J1 : Nat -> Int -> Int -> Heap -> Prop, (∃ n0 : Nat, J1 n0 0 0 h1) /\
 ∀ (n1 : Nat) (n5_1 : Int) (s13 : Int) (h2 : Heap), J1 n1 n5_1 s13 h2 -> Vars h2 [(b1, [g0_1.v])] ->
 ((decide (s13 < (g0_1.n : Int))) = true ->
 InB g0_1 s13 /\
 ∃ s16 : Sl, hcell h2 (Sl.at g0_1 s13 1) = some s16.v /\
 ∃ J2 : Nat -> Int -> Int -> Heap -> Prop, (∃ n0 : Nat, J2 n0 n5_1 0 h2) /\
 ∀ (n2 : Nat) (n5_2 : Int) (s19 : Int) (h3 : Heap), J2 n2 n5_2 s19 h3 -> Vars h3 [(b1, [g0_1.v])] ->
 ((decide (s19 < (s16.n : Int))) = true ->
 InB s16 s19 /\
 ∃ s22 : Int, hcell h3 (Sl.at s16 s19 1) = some (VI s22) /\
 ((decide (s22 = p1_1)) = true ->
 ∃ m : Nat, m < n2 /\ J2 m (w64 (n5_2 + 1)) (w64 (s19 + 1)) h3) /\
 ((decide (s22 = p1_1)) = false ->
 ∃ m : Nat, m < n2 /\ J2 m n5_2 (w64 (s19 + 1)) h3)) /\
 ((decide (s19 < (s16.n : Int))) = false ->
 ∃ m : Nat, m < n1 /\ J1 m n5_2 (w64 (s13 + 1)) h3)) /\
 ((decide (s13 < (g0_1.n : Int))) = false ->
 K (VI n5_1) h2)
theorem v141 (g0_1 : Sl) (p1_1 : Int) (h : Heap) (K : Value -> Heap -> Prop) (H : u141 Tryz.prog g0_1 p1_1 h K) : callM Tryz.prog 141 #[(Value.agg #[g0_1.v]), (VI p1_1)] h K := by
  refine c141 (Value.agg #[g0_1.v]) (VI p1_1) h K ?_
  unfold u141 at H
  unfold t141
  have hL : Vars h [] := .nil
  refine eop_box 26 (Value.agg #[g0_1.v]) rfl hL (fun b1 h1 hb1 hf1 hL1 => ?_)
  refine pop_field 0 fld26_0 b1 0 ?_
  refine rop_loc one24 hL1 0 rfl 0 (v := g0_1.v) rfl ?_
  refine pop_len g0_1 _ _ sli24 ?_
  have H := H b1 h1 hb1 (Fr.no' (Fr.r (In []) _) hf1) hL1
  obtain ⟨J1, ⟨n4, h0_2⟩, HB2⟩ := H
  refine loop_intro (J := fun (n : Nat) (vs : List Value) (h' : Heap) => ∃ n5_1 : Int, ∃ s13 : Int, vs = [(VI n5_1), (VI s13)] /\ J1 n n5_1 s13 h' /\ Vars h' [(b1, [g0_1.v])]) n4 ⟨0, 0, rfl, h0_2, hL1⟩ ?_
  intro I2 mu2 hI2 junk1 tv3 tv4 h2 hi1
  obtain ⟨n1, ⟨n5_1, s13, hv, hJ1, hL2⟩, hn1⟩ := hI2 _ _ hi1
  cases hv
  have H := HB2 n1 n5_1 s13 h2 hJ1 hL2
  refine pop_lss .i64 s13 (g0_1.n : Int) ?_
  refine condM_b (fun hb2 => ?_) (fun hb2 => ?_)
  rotate_left
  ·exact H.2 hb2
  have H := H.1 hb2
  obtain ⟨hi2, H⟩ := H
  refine pop_index sli24 siz33 .i64 g0_1 s13 hi2 ?_
  obtain ⟨s16, hc2, H⟩ := H
  refine rop_one one33 s16.v hc2 ?_
  refine pop_len s16 _ _ sli33 ?_
  obtain ⟨J2, ⟨n3, h0_1⟩, HB1⟩ := H
  refine loop_intro (J := fun (n : Nat) (vs : List Value) (h' : Heap) => ∃ n5_2 : Int, ∃ s19 : Int, vs = [(VI n5_2), (VI s19)] /\ J2 n n5_2 s19 h' /\ Vars h' [(b1, [g0_1.v])]) n3 ⟨n5_1, 0, rfl, h0_1, hL2⟩ ?_
  intro I1 mu1 hI1 junk2 tv1 tv2 h3 hi3
  obtain ⟨n2, ⟨n5_2, s19, hv, hJ2, hL3⟩, hn2⟩ := hI1 _ _ hi3
  cases hv
  have H := HB1 n2 n5_2 s19 h3 hJ2 hL3
  refine pop_lss .i64 s19 (s16.n : Int) ?_
  refine condM_b (fun hb3 => ?_) (fun hb3 => ?_)
  rotate_left
  ·have H := H.2 hb3
   refine pop_add .i64 s13 1 ?_
   obtain ⟨m_3, hm_3, H⟩ := H
   exact hn1 _ _ ⟨m_3, hm_3, n5_2, (w64 (s13 + 1)), rfl, H, hL3⟩
  have H := H.1 hb3
  obtain ⟨hi4, H⟩ := H
  refine pop_index sli33 siz3 .i64 s16 s19 hi4 ?_
  obtain ⟨s22, hc1, H⟩ := H
  refine rop_one one3 (VI s22) hc1 ?_
  refine pop_ieq .i64 _ _ s22 p1_1 ?_
  refine condM_b (fun hb4 => ?_) (fun hb4 => ?_)
  rotate_left
  ·have H := H.2 hb4
   refine pop_add .i64 s19 1 ?_
   obtain ⟨m_2, hm_2, H⟩ := H
   exact hn2 _ _ ⟨m_2, hm_2, n5_2, (w64 (s19 + 1)), rfl, H, hL3⟩
  have H := H.1 hb4
  refine pop_add .i64 n5_2 1 ?_
  refine pop_add .i64 s19 1 ?_
  obtain ⟨m_1, hm_1, H⟩ := H
  exact hn2 _ _ ⟨m_1, hm_1, (w64 (n5_2 + 1)), (w64 (s19 + 1)), rfl, H, hL3⟩
def u142 (P : Program) (s0_1 : Sl) (v1_1 : Bool) (h : Heap) (K : Value -> Heap -> Prop) : Prop :=
 ∃ J1 : Nat -> Int -> Heap -> Prop, (∃ n0 : Nat, J1 n0 0 h) /\
 ∀ (n1 : Nat) (s8 : Int) (h1 : Heap), J1 n1 s8 h1 -> Vars h1 [] ->
 ((decide (s8 < (s0_1.n : Int))) = true ->
 InB s0_1 s8 /\
 ∃ s15 : Bool, hcell h1 (Sl.at s0_1 s8 1) = some (VB s15) /\
 ((v1_1 == s15) = true ->
 K (VI s8) h1) /\
 ((v1_1 == s15) = false ->
 ∃ m : Nat, m < n1 /\ J1 m (w64 (s8 + 1)) h1)) /\
 ((decide (s8 < (s0_1.n : Int))) = false ->
 K (VI (-1)) h1)
theorem v142 (s0_1 : Sl) (v1_1 : Bool) (h : Heap) (K : Value -> Heap -> Prop) (H : u142 Tryz.prog s0_1 v1_1 h K) : callM Tryz.prog 142 #[s0_1.v, (VB v1_1)] h K := by
  refine c142 s0_1.v (VB v1_1) h K ?_
  unfold u142 at H
  unfold t142
  have hL : Vars h [] := .nil
  refine pop_len s0_1 _ _ sli127 ?_
  obtain ⟨J1, ⟨n2, h0_1⟩, HB1⟩ := H
  refine loop_intro (J := fun (n : Nat) (vs : List Value) (h' : Heap) => ∃ s8 : Int, vs = [(VI s8)] /\ J1 n s8 h' /\ Vars h' []) n2 ⟨0, rfl, h0_1, hL⟩ ?_
  intro I1 mu1 hI1 junk1 tv1 h1 hi1
  obtain ⟨n1, ⟨s8, hv, hJ1, hL1⟩, hn1⟩ := hI1 _ _ hi1
  cases hv
  have H := HB1 n1 s8 h1 hJ1 hL1
  refine pop_lss .i64 s8 (s0_1.n : Int) ?_
  refine condM_b (fun hb1 => ?_) (fun hb1 => ?_)
  rotate_left
  ·exact H.2 hb1
  have H := H.1 hb1
  obtain ⟨hi2, H⟩ := H
  refine pop_index sli127 siz4 .i64 s0_1 s8 hi2 ?_
  obtain ⟨s15, hc1, H⟩ := H
  refine rop_one one4 (VB s15) hc1 ?_
  refine pop_beq boo4 _ _ v1_1 s15 ?_
  refine condM_b (fun hb2 => ?_) (fun hb2 => ?_)
  ·exact H.1 hb2
  have H := H.2 hb2
  refine pop_add .i64 s8 1 ?_
  obtain ⟨m_1, hm_1, H⟩ := H
  exact hn1 _ _ ⟨m_1, hm_1, (w64 (s8 + 1)), rfl, H, hL1⟩
def u143 (P : Program) (g0_1 : Sl) (rotors1_1 : Sl) (p2_1 : Int) (h : Heap) (K : Value -> Heap -> Prop) : Prop :=
 InB g0_1 p2_1 /\
 ∀ (b1 : Nat) (h1 : Heap), h.size ≤ b1 -> Fr (In []) h h1 -> Vars h1 [(b1, [g0_1.v])] ->
 ∃ s11 : Sl, hcell h1 (Sl.at g0_1 p2_1 1) = some s11.v /\
 ((decide ((s11.n : Int) = 0)) = true ->
 K (VI (-1)) h1) /\
 ((decide ((s11.n : Int) = 0)) = false ->
 InB g0_1 p2_1 /\
 ∃ s18 : Sl, hcell h1 (Sl.at g0_1 p2_1 1) = some s18.v /\
 InB rotors1_1 p2_1 /\
 ∃ s22 : Int, hcell h1 (Sl.at rotors1_1 p2_1 1) = some (VI s22) /\
 InB s18 s22 /\
 ∃ s24 : Int, hcell h1 (Sl.at s18 s22 1) = some (VI s24) /\
 K (VI s24) h1)
theorem v143 (g0_1 : Sl) (rotors1_1 : Sl) (p2_1 : Int) (h : Heap) (K : Value -> Heap -> Prop) (H : u143 Tryz.prog g0_1 rotors1_1 p2_1 h K) : callM Tryz.prog 143 #[(Value.agg #[g0_1.v]), rotors1_1.v, (VI p2_1)] h K := by
  refine c143 (Value.agg #[g0_1.v]) rotors1_1.v (VI p2_1) h K ?_
  unfold u143 at H
  unfold t143
  have hL : Vars h [] := .nil
  refine eop_box 26 (Value.agg #[g0_1.v]) rfl hL (fun b1 h1 hb1 hf1 hL1 => ?_)
  refine pop_field 0 fld26_0 b1 0 ?_
  refine rop_loc one24 hL1 0 rfl 0 (v := g0_1.v) rfl ?_
  obtain ⟨hi1, H⟩ := H
  refine pop_index sli24 siz33 .i64 g0_1 p2_1 hi1 ?_
  have H := H b1 h1 hb1 (Fr.no' (Fr.r (In []) _) hf1) hL1
  obtain ⟨s11, hc4, H⟩ := H
  refine rop_one one33 s11.v hc4 ?_
  refine pop_len s11 _ _ sli33 ?_
  refine pop_ieq .i64 _ _ (s11.n : Int) 0 ?_
  refine condM_b (fun hb2 => ?_) (fun hb2 => ?_)
  ·exact H.1 hb2
  have H := H.2 hb2
  refine pop_field 0 fld26_0 b1 0 ?_
  refine rop_loc one24 hL1 0 rfl 0 (v := g0_1.v) rfl ?_
  obtain ⟨hi2, H⟩ := H
  refine pop_index sli24 siz33 .i64 g0_1 p2_1 hi2 ?_
  obtain ⟨s18, hc3, H⟩ := H
  refine rop_one one33 s18.v hc3 ?_
  obtain ⟨hi3, H⟩ := H
  refine pop_index sli33 siz3 .i64 rotors1_1 p2_1 hi3 ?_
  obtain ⟨s22, hc2, H⟩ := H
  refine rop_one one3 (VI s22) hc2 ?_
  obtain ⟨hi4, H⟩ := H
  refine pop_index sli33 siz3 .i64 s18 s22 hi4 ?_
  obtain ⟨s24, hc1, H⟩ := H
  refine rop_one one3 (VI s24) hc1 ?_
  exact H
def u144 (P : Program) (b1 : Nat) (c0_1 : Sl) (c0_2 : Int) (c0_3 : Int) (most1_1 : Int) (h : Heap) (K : Value -> Heap -> Prop) : Prop :=
 ∀ (b2 : Nat) (h1 : Heap), h.size ≤ b2 -> Fr (In []) h h1 -> Vars h1 [(b2, [nilSl.v]), (b1, [c0_1.v, (VI c0_2), (Value.int .u64 c0_3)])] ->
 callM P 70 #[(VP b1 0), (VI most1_1)] h1 fun r1 h2 => ∃ y1 : Sl, ∃ y2 : Int, ∃ y3 : Int, ∃ s13 : Int, r1 = (VI s13) /\ Vars h2 [(b2, [nilSl.v]), (b1, [y1.v, (VI y2), (Value.int .u64 y3)])] /\
 callM P 68 #[(VP b1 0), (VI 4)] h2 fun r2 h3 => ∃ y4 : Sl, ∃ y5 : Int, ∃ y6 : Int, ∃ s16 : Bool, r2 = (VB s16) /\ Vars h3 [(b2, [nilSl.v]), (b1, [y4.v, (VI y5), (Value.int .u64 y6)])] /\
 (s16 = true ->
 callM P 68 #[(VP b1 0), (VI 2)] h3 fun r3 h4 => ∃ y7 : Sl, ∃ y8 : Int, ∃ y9 : Int, ∃ s19 : Bool, r3 = (VB s19) /\ Vars h4 [(b2, [nilSl.v]), (b1, [y7.v, (VI y8), (Value.int .u64 y9)])] /\
 callM P 129 #[(VI (w64 (1 + s13))), (VB s19)] h4 fun r4 h5 => ∃ s20 : Sl, r4 = (.agg #[s20.v]) /\ Vars h5 [(b2, [nilSl.v]), (b1, [y7.v, (VI y8), (Value.int .u64 y9)])] /\
 ∀ (h6 : Heap), Fr (In [b2]) h5 h6 -> Vars h6 [(b2, [s20.v]), (b1, [y7.v, (VI y8), (Value.int .u64 y9)])] ->
 K (.agg #[s20.v]) h6) /\
 (s16 = false ->
 ∀ (b3 : Nat) (h8 : Heap), h3.size ≤ b3 -> Fr (In []) h3 h8 -> Vars h8 [(b3, [nilSl.v]), (b2, [nilSl.v]), (b1, [y4.v, (VI y5), (Value.int .u64 y6)])] ->
 ∃ J1 : Nat -> Int -> Sl -> Sl -> Int -> Int -> Heap -> Prop, (∃ n0 : Nat, J1 n0 0 nilSl y4 y5 y6 h8) /\
 ∀ (n1 : Nat) (p7_1 : Int) (y10 : Sl) (y11 : Sl) (y12 : Int) (y13 : Int) (h9 : Heap), J1 n1 p7_1 y10 y11 y12 y13 h9 -> Vars h9 [(b3, [y10.v]), (b2, [nilSl.v]), (b1, [y11.v, (VI y12), (Value.int .u64 y13)])] ->
 ((decide (p7_1 < (w64 (1 + s13)))) = true ->
 callM P 70 #[(VP b1 0), (VI 3)] h9 fun r5 h10 => ∃ y14 : Sl, ∃ y15 : Int, ∃ y16 : Int, ∃ s28 : Int, r5 = (VI s28) /\ Vars h10 [(b3, [y10.v]), (b2, [nilSl.v]), (b1, [y14.v, (VI y15), (Value.int .u64 y16)])] /\
 ∃ J2 : Nat -> Sl -> Int -> Sl -> Int -> Int -> Heap -> Prop, (∃ n0 : Nat, J2 n0 nilSl (w64 (1 + s28)) y14 y15 y16 h10) /\
 ∀ (n2 : Nat) (list8_1 : Sl) (k9_1 : Int) (y17 : Sl) (y18 : Int) (y19 : Int) (h11 : Heap), J2 n2 list8_1 k9_1 y17 y18 y19 h11 -> Vars h11 [(b3, [y10.v]), (b2, [nilSl.v]), (b1, [y17.v, (VI y18), (Value.int .u64 y19)])] ->
 ((decide (0 < k9_1)) = true ->
 callM P 70 #[(VP b1 0), (VI (w64 (1 + s13)))] h11 fun r6 h12 => ∃ y20 : Sl, ∃ y21 : Int, ∃ y22 : Int, ∃ s37 : Int, r6 = (VI s37) /\ Vars h12 [(b3, [y10.v]), (b2, [nilSl.v]), (b1, [y20.v, (VI y21), (Value.int .u64 y22)])] /\
 eop P (Instr.buildSlice 33 1 #[(0, (VI s37))]) h12 fun r7 h13 => ∃ s38 : Sl, r7 = s38.v /\ Vars h13 [(b3, [y10.v]), (b2, [nilSl.v]), (b1, [y20.v, (VI y21), (Value.int .u64 y22)])] /\
 eop P (appS 33 33 33 list8_1.v s38.v) h13 fun r8 h14 => ∃ s39 : Sl, r8 = s39.v /\ Vars h14 [(b3, [y10.v]), (b2, [nilSl.v]), (b1, [y20.v, (VI y21), (Value.int .u64 y22)])] /\
 ∃ m : Nat, m < n2 /\ J2 m s39 (w64 (k9_1 - 1)) y20 y21 y22 h14) /\
 ((decide (0 < k9_1)) = false ->
 ∃ J3 : Sl -> Sl -> Int -> Int -> Heap -> Prop, (callM P 68 #[(VP b1 0), (VI 8)] h11 fun r9 h15 => ∃ y27 : Sl, ∃ y28 : Int, ∃ y29 : Int, ∃ s41 : Bool, r9 = (VB s41) /\ Vars h15 [(b3, [y10.v]), (b2, [nilSl.v]), (b1, [y27.v, (VI y28), (Value.int .u64 y29)])] /\
 (s41 = true ->
 J3 nilSl y27 y28 y29 h15) /\
 (s41 = false ->
 J3 list8_1 y27 y28 y29 h15)) /\
 ∀ (y23 : Sl) (y24 : Sl) (y25 : Int) (y26 : Int) (h16 : Heap), J3 y23 y24 y25 y26 h16 -> Vars h16 [(b3, [y10.v]), (b2, [nilSl.v]), (b1, [y24.v, (VI y25), (Value.int .u64 y26)])] ->
 eop P (Instr.buildSlice 24 1 #[(0, y23.v)]) h16 fun r10 h17 => ∃ s45 : Sl, r10 = s45.v /\ Vars h17 [(b3, [y10.v]), (b2, [nilSl.v]), (b1, [y24.v, (VI y25), (Value.int .u64 y26)])] /\
 eop P (appS 24 24 24 y10.v s45.v) h17 fun r11 h18 => ∃ s46 : Sl, r11 = s46.v /\ Vars h18 [(b3, [y10.v]), (b2, [nilSl.v]), (b1, [y24.v, (VI y25), (Value.int .u64 y26)])] /\
 ∀ (h19 : Heap), Fr (In [b3]) h18 h19 -> Vars h19 [(b3, [s46.v]), (b2, [nilSl.v]), (b1, [y24.v, (VI y25), (Value.int .u64 y26)])] ->
 ∃ m : Nat, m < n1 /\ J1 m (w64 (p7_1 + 1)) s46 y24 y25 y26 h19)) /\
 ((decide (p7_1 < (w64 (1 + s13)))) = false ->
 callM P 68 #[(VP b1 0), (VI 2)] h9 fun r12 h20 => ∃ y30 : Sl, ∃ y31 : Int, ∃ y32 : Int, ∃ s49 : Bool, r12 = (VB s49) /\ Vars h20 [(b3, [y10.v]), (b2, [nilSl.v]), (b1, [y30.v, (VI y31), (Value.int .u64 y32)])] /\
 (s49 = true ->
 ∃ J4 : Nat -> Int -> Heap -> Prop, (∃ n0 : Nat, J4 n0 0 h20) /\
 ∀ (n4 : Nat) (s53 : Int) (h21 : Heap), J4 n4 s53 h21 -> Vars h21 [(b3, [y10.v]), (b2, [nilSl.v]), (b1, [y30.v, (VI y31), (Value.int .u64 y32)])] ->
 ((decide (s53 < (y10.n : Int))) = true ->
 InB y10 s53 /\
 ∃ s63 : Sl, hcell h21 (Sl.at y10 s53 1) = some s63.v /\
 (w64 (1 + s13)) ≠ 0 /\
 eop P (Instr.buildSlice 33 1 #[(0, (VI (Int.tmod (w64 (s53 + 1)) (w64 (1 + s13)))))]) h21 fun r13 h22 => ∃ s68 : Sl, r13 = s68.v /\ Vars h22 [(b3, [y10.v]), (b2, [nilSl.v]), (b1, [y30.v, (VI y31), (Value.int .u64 y32)])] /\
 hcell h22 (Sl.at y10 s53 1) = some s63.v /\
 eop P (appS 33 33 33 s63.v s68.v) h22 fun r14 h23 => ∃ s69 : Sl, r14 = s69.v /\ Vars h23 [(b3, [y10.v]), (b2, [nilSl.v]), (b1, [y30.v, (VI y31), (Value.int .u64 y32)])] /\
 InB y10 s53 /\
 Writable h23 (Sl.at y10 s53 1) /\ Vars (hset h23 (Sl.at y10 s53 1) s69.v) [(b3, [y10.v]), (b2, [nilSl.v]), (b1, [y30.v, (VI y31), (Value.int .u64 y32)])] /\
 ∀ h24 : Heap, h24 = hset h23 (Sl.at y10 s53 1) s69.v -> Vars h24 [(b3, [y10.v]), (b2, [nilSl.v]), (b1, [y30.v, (VI y31), (Value.int .u64 y32)])] ->
 ∃ m : Nat, m < n4 /\ J4 m (w64 (s53 + 1)) h24) /\
 ((decide (s53 < (y10.n : Int))) = false ->
 ∀ (h25 : Heap), Fr (In [b2]) h21 h25 -> Vars h25 [(b3, [y10.v]), (b2, [y10.v]), (b1, [y30.v, (VI y31), (Value.int .u64 y32)])] ->
 K (.agg #[y10.v]) h25)) /\
 (s49 = false ->
 ∀ (h26 : Heap), Fr (In [b2]) h20 h26 -> Vars h26 [(b3, [y10.v]), (b2, [y10.v]), (b1, [y30.v, (VI y31), (Value.int .u64 y32)])] ->
 K (.agg #[y10.v]) h26)))
theorem v144 (b1 : Nat) (c0_1 : Sl) (c0_2 : Int) (c0_3 : Int) (most1_1 : Int) (h : Heap) (K : Value -> Heap -> Prop) (hL : Vars h [(b1, [c0_1.v, (VI c0_2), (Value.int .u64 c0_3)])]) (H : u144 Tryz.prog b1 c0_1 c0_2 c0_3 most1_1 h K) : callM Tryz.prog 144 #[(VP b1 0), (VI most1_1)] h K := by
  refine c144 (VP b1 0) (VI most1_1) h K ?_
  unfold u144 at H
  unfold t144
  refine eop_alloc 26 zer26 rfl hL (fun b2 h1 hb1 hf1 hL1 => ?_)
  have H := H b2 h1 hb1 (Fr.no' (Fr.r (In []) _) hf1) hL1
  refine H.mono fun r1 h2 H => ?_
  obtain ⟨y1, y2, y3, s13, rfl, hL2, H⟩ := H
  refine pop_add .i64 1 s13 ?_
  refine H.mono fun r2 h3 H => ?_
  obtain ⟨y4, y5, y6, s16, rfl, hL3, H⟩ := H
  refine condM_b (fun hb2 => ?_) (fun hb2 => ?_)
  ·have H := H.1 hb2
   refine H.mono fun r3 h4 H => ?_
   obtain ⟨y7, y8, y9, s19, rfl, hL4, H⟩ := H
   refine H.mono fun r4 h5 H => ?_
   obtain ⟨s20, rfl, hL5, H⟩ := H
   refine uop_loc siz26 hL5 0 rfl 0 [s20.v] rfl rfl rfl (Nat.le_of_ble_eq_true rfl) (L' := [(b2, [s20.v]), (b1, [y7.v, (VI y8), (Value.int .u64 y9)])]) rfl (fun h6 hf2 hL6 => ?_)
   refine rop_locA agg26 hL6 0 rfl 0 (vs := [s20.v]) rfl rfl ?_
   have H := H  h6  (Fr.old (Fr.r (In []) _) hf2) hL6
   exact H
  have H := H.2 hb2
  refine pop.mk' (v := (Value.agg #[nilSl.v])) (fun w => by kernel_rfl) ?_
  refine eop_alloc 26 zer26 rfl hL3 (fun b3 h7 hb3 hf3 hL7 => ?_)
  refine uop_loc siz26 hL7 0 rfl 0 [nilSl.v] rfl rfl rfl (Nat.le_of_ble_eq_true rfl) (L' := [(b3, [nilSl.v]), (b2, [nilSl.v]), (b1, [y4.v, (VI y5), (Value.int .u64 y6)])]) rfl (fun h8 hf4 hL8 => ?_)
  have H := H b3 h8 hb3 (Fr.new (Fr.no' (Fr.r (In []) _) hf3) hb3 hf4) hL8
  obtain ⟨J1, ⟨n6, h0_3⟩, HB4⟩ := H
  refine loop_intro (J := fun (n : Nat) (vs : List Value) (h' : Heap) => ∃ p7_1 : Int, ∃ y10 : Sl, ∃ y11 : Sl, ∃ y12 : Int, ∃ y13 : Int, vs = [(VI p7_1)] /\ J1 n p7_1 y10 y11 y12 y13 h' /\ Vars h' [(b3, [y10.v]), (b2, [nilSl.v]), (b1, [y11.v, (VI y12), (Value.int .u64 y13)])]) n6 ⟨0, nilSl, y4, y5, y6, rfl, h0_3, hL8⟩ ?_
  intro I3 mu3 hI3 junk1 tv5 h9 hi1
  obtain ⟨n1, ⟨p7_1, y10, y11, y12, y13, hv, hJ1, hL9⟩, hn1⟩ := hI3 _ _ hi1
  cases hv
  have H := HB4 n1 p7_1 y10 y11 y12 y13 h9 hJ1 hL9
  refine pop_lss .i64 p7_1 (w64 (1 + s13)) ?_
  refine condM_b (fun hb4 => ?_) (fun hb4 => ?_)
  ·have H := H.1 hb4
   refine H.mono fun r5 h10 H => ?_
   obtain ⟨y14, y15, y16, s28, rfl, hL10, H⟩ := H
   refine pop_add .i64 1 s28 ?_
   obtain ⟨J2, ⟨n3, h0_1⟩, HB2⟩ := H
   refine loop_intro (J := fun (n : Nat) (vs : List Value) (h' : Heap) => ∃ list8_1 : Sl, ∃ k9_1 : Int, ∃ y17 : Sl, ∃ y18 : Int, ∃ y19 : Int, vs = [list8_1.v, (VI k9_1)] /\ J2 n list8_1 k9_1 y17 y18 y19 h' /\ Vars h' [(b3, [y10.v]), (b2, [nilSl.v]), (b1, [y17.v, (VI y18), (Value.int .u64 y19)])]) n3 ⟨nilSl, (w64 (1 + s28)), y14, y15, y16, rfl, h0_1, hL10⟩ ?_
   intro I1 mu1 hI1 junk2 tv2 tv3 h11 hi2
   obtain ⟨n2, ⟨list8_1, k9_1, y17, y18, y19, hv, hJ2, hL11⟩, hn2⟩ := hI1 _ _ hi2
   cases hv
   have H := HB2 n2 list8_1 k9_1 y17 y18 y19 h11 hJ2 hL11
   refine pop_gtr .i64 k9_1 0 ?_
   refine condM_b (fun hb5 => ?_) (fun hb5 => ?_)
   ·have H := H.1 hb5
    refine H.mono fun r6 h12 H => ?_
    obtain ⟨y20, y21, y22, s37, rfl, hL12, H⟩ := H
    refine H.mono fun r7 h13 H => ?_
    obtain ⟨s38, rfl, hL13, H⟩ := H
    refine H.mono fun r8 h14 H => ?_
    obtain ⟨s39, rfl, hL14, H⟩ := H
    refine pop_sub .i64 k9_1 1 ?_
    obtain ⟨m_1, hm_1, H⟩ := H
    exact hn2 _ _ ⟨m_1, hm_1, s39, (w64 (k9_1 - 1)), y20, y21, y22, rfl, H, hL14⟩
   have H := H.2 hb5
   obtain ⟨J3, H, HB1⟩ := H
   refine ⟨fun (vs : List Value) (h' : Heap) => ∃ y23 : Sl, ∃ y24 : Sl, ∃ y25 : Int, ∃ y26 : Int, vs = [y23.v] /\ J3 y23 y24 y25 y26 h' /\ Vars h' [(b3, [y10.v]), (b2, [nilSl.v]), (b1, [y24.v, (VI y25), (Value.int .u64 y26)])], ?_, ?_⟩
   ·refine H.mono fun r9 h15 H => ?_
    obtain ⟨y27, y28, y29, s41, rfl, hL15, H⟩ := H
    refine condM_b (fun hb6 => ?_) (fun hb6 => ?_)
    ·have H := H.1 hb6
     exact ⟨nilSl, y27, y28, y29, rfl, H, hL15⟩
    have H := H.2 hb6
    exact ⟨list8_1, y27, y28, y29, rfl, H, hL15⟩
   intro junk3 tv1 h16
   rintro ⟨y23, y24, y25, y26, hv, hJ3, hL16⟩
   cases hv
   have H := HB1 y23 y24 y25 y26 h16 hJ3 hL16
   refine pop_field 0 fld26_0 b3 0 ?_
   refine rop_loc one24 hL16 0 rfl 0 (v := y10.v) rfl ?_
   refine H.mono fun r10 h17 H => ?_
   obtain ⟨s45, rfl, hL17, H⟩ := H
   refine H.mono fun r11 h18 H => ?_
   obtain ⟨s46, rfl, hL18, H⟩ := H
   refine pop_field 0 fld26_0 b3 0 ?_
   refine uop_loc siz24 hL18 0 rfl 0 [s46.v] rfl rfl rfl (Nat.le_of_ble_eq_true rfl) (L' := [(b3, [s46.v]), (b2, [nilSl.v]), (b1, [y24.v, (VI y25), (Value.int .u64 y26)])]) rfl (fun h19 hf5 hL19 => ?_)
   refine pop_add .i64 p7_1 1 ?_
   have H := H  h19  (Fr.old (Fr.r (In []) _) hf5) hL19
   obtain ⟨m_2, hm_2, H⟩ := H
   exact hn1 _ _ ⟨m_2, hm_2, (w64 (p7_1 + 1)), s46, y24, y25, y26, rfl, H, hL19⟩
  have H := H.2 hb4
  refine H.mono fun r12 h20 H => ?_
  obtain ⟨y30, y31, y32, s49, rfl, hL20, H⟩ := H
  refine condM_b (fun hb7 => ?_) (fun hb7 => ?_)
  rotate_left
  ·have H := H.2 hb7
   refine rop_locA agg26 hL20 0 rfl 0 (vs := [y10.v]) rfl rfl ?_
   refine uop_loc siz26 hL20 1 rfl 0 [y10.v] rfl rfl rfl (Nat.le_of_ble_eq_true rfl) (L' := [(b3, [y10.v]), (b2, [y10.v]), (b1, [y30.v, (VI y31), (Value.int .u64 y32)])]) rfl (fun h26 hf7 hL26 => ?_)
   refine rop_locA agg26 hL26 1 rfl 0 (vs := [y10.v]) rfl rfl ?_
   have H := H  h26  (Fr.old (Fr.r (In []) _) hf7) hL26
   exact H
  have H := H.1 hb7
  refine pop_field 0 fld26_0 b3 0 ?_
  refine rop_loc one24 hL20 0 rfl 0 (v := y10.v) rfl ?_
  refine pop_len y10 _ _ sli24 ?_
  obtain ⟨J4, ⟨n5, h0_2⟩, HB3⟩ := H
  refine loop_intro (J := fun (n : Nat) (vs : List Value) (h' : Heap) => ∃ s53 : Int, vs = [(VI s53)] /\ J4 n s53 h' /\ Vars h' [(b3, [y10.v]), (b2, [nilSl.v]), (b1, [y30.v, (VI y31), (Value.int .u64 y32)])]) n5 ⟨0, rfl, h0_2, hL20⟩ ?_
  intro I2 mu2 hI2 junk4 tv4 h21 hi3
  obtain ⟨n4, ⟨s53, hv, hJ4, hL21⟩, hn3⟩ := hI2 _ _ hi3
  cases hv
  have H := HB3 n4 s53 h21 hJ4 hL21
  refine pop_lss .i64 s53 (y10.n : Int) ?_
  refine condM_b (fun hb8 => ?_) (fun hb8 => ?_)
  rotate_left
  ·have H := H.2 hb8
   refine rop_locA agg26 hL21 0 rfl 0 (vs := [y10.v]) rfl rfl ?_
   refine uop_loc siz26 hL21 1 rfl 0 [y10.v] rfl rfl rfl (Nat.le_of_ble_eq_true rfl) (L' := [(b3, [y10.v]), (b2, [y10.v]), (b1, [y30.v, (VI y31), (Value.int .u64 y32)])]) rfl (fun h25 hf6 hL25 => ?_)
   refine rop_locA agg26 hL25 1 rfl 0 (vs := [y10.v]) rfl rfl ?_
   have H := H  h25  (Fr.old (Fr.r (In []) _) hf6) hL25
   exact H
  have H := H.1 hb8
  refine pop_field 0 fld26_0 b3 0 ?_
  refine rop_loc one24 hL21 0 rfl 0 (v := y10.v) rfl ?_
  refine pop_field 0 fld26_0 b3 0 ?_
  refine rop_loc one24 hL21 0 rfl 0 (v := y10.v) rfl ?_
  obtain ⟨hi4, H⟩ := H
  refine pop_index sli24 siz33 .i64 y10 s53 hi4 ?_
  obtain ⟨s63, hc2, H⟩ := H
  refine rop_one one33 s63.v hc2 ?_
  refine pop_add .i64 s53 1 ?_
  obtain ⟨hz_1, H⟩ := H
  refine pop_rem .i64 (w64 (s53 + 1)) (w64 (1 + s13)) hz_1 ?_
  refine H.mono fun r13 h22 H => ?_
  obtain ⟨s68, rfl, hL22, H⟩ := H
  refine ⟨?_, ?_⟩
  ·exact still_one one33 H.1
  obtain ⟨hc1, H⟩ := H
  refine ⟨?_, ?_⟩
  ·exact still_loc one24 hL22 0 rfl 0 (v := y10.v) rfl
  refine ⟨?_, ?_⟩
  ·exact still_loc one24 hL22 0 rfl 0 (v := y10.v) rfl
  refine H.mono fun r14 h23 H => ?_
  obtain ⟨s69, rfl, hL23, H⟩ := H
  refine ⟨?_, ?_⟩
  ·exact still_loc one24 hL23 0 rfl 0 (v := y10.v) rfl
  refine ⟨?_, ?_⟩
  ·exact still_loc one24 hL23 0 rfl 0 (v := y10.v) rfl
  obtain ⟨hi5, H⟩ := H
  refine pop_index sli24 siz33 .i64 y10 s53 hi5 ?_
  obtain ⟨hw_1, hL24, H⟩ := H
  refine uop_cell (v := s69.v) siz33 hw_1 rfl (fun h24 he_1 => ?_)
  rw [← he_1] at hL24
  have H := H h24 he_1 hL24
  refine pop_add .i64 s53 1 ?_
  obtain ⟨m_3, hm_3, H⟩ := H
  exact hn3 _ _ ⟨m_3, hm_3, (w64 (s53 + 1)), rfl, H, hL24⟩
def u148 (P : Program) (g0_1 : Sl) (p1_1 : Int) (h : Heap) (K : Value -> Heap -> Prop) : Prop :=
 ∀ (b1 : Nat) (h1 : Heap), h.size ≤ b1 -> Fr (In []) h h1 -> Vars h1 [(b1, [g0_1.v])] ->
 eop P (Instr.buildSlice 33 1 #[(0, (.int .i64 (-1)))]) h1 fun r1 h2 => ∃ s9 : Sl, r1 = s9.v /\ Vars h2 [(b1, [g0_1.v])] /\
 callM P 153 #[s9.v, (VI (g0_1.n : Int))] h2 fun r2 h3 => ∃ s13 : Sl, r2 = s13.v /\ Vars h3 [(b1, [g0_1.v])] /\
 InB s13 p1_1 /\
 Writable h3 (Sl.at s13 p1_1 1) /\ Vars (hset h3 (Sl.at s13 p1_1 1) (VI 0)) [(b1, [g0_1.v])] /\
 ∀ h4 : Heap, h4 = hset h3 (Sl.at s13 p1_1 1) (VI 0) -> Vars h4 [(b1, [g0_1.v])] ->
 eop P (Instr.buildSlice 33 1 #[(0, (VI p1_1))]) h4 fun r3 h5 => ∃ s18 : Sl, r3 = s18.v /\ Vars h5 [(b1, [g0_1.v])] /\
 ∃ J1 : Nat -> Sl -> Heap -> Prop, (∃ n0 : Nat, J1 n0 s18 h5) /\
 ∀ (n1 : Nat) (list6_1 : Sl) (h6 : Heap), J1 n1 list6_1 h6 -> Vars h6 [(b1, [g0_1.v])] ->
 ((decide (0 < (list6_1.n : Int))) = true ->
 InB list6_1 0 /\
 ∃ s28 : Int, hcell h6 (Sl.at list6_1 0 1) = some (VI s28) /\
 InB g0_1 s28 /\
 ∃ s30 : Sl, hcell h6 (Sl.at g0_1 s28 1) = some s30.v /\
 ∃ J2 : Nat -> Sl -> Int -> Heap -> Prop, (∃ n0 : Nat, J2 n0 list6_1 0 h6) /\
 ∀ (n2 : Nat) (list6_2 : Sl) (s32 : Int) (h7 : Heap), J2 n2 list6_2 s32 h7 -> Vars h7 [(b1, [g0_1.v])] ->
 ((decide (s32 < (s30.n : Int))) = true ->
 InB s30 s32 /\
 ∃ s35 : Int, hcell h7 (Sl.at s30 s32 1) = some (VI s35) /\
 InB s13 s35 /\
 ∃ s39 : Int, hcell h7 (Sl.at s13 s35 1) = some (VI s39) /\
 ((decide (s39 < 0)) = true ->
 InB list6_2 0 /\
 ∃ s46 : Int, hcell h7 (Sl.at list6_2 0 1) = some (VI s46) /\
 InB s13 s46 /\
 ∃ s48 : Int, hcell h7 (Sl.at s13 s46 1) = some (VI s48) /\
 InB s13 s35 /\
 Writable h7 (Sl.at s13 s35 1) /\ Vars (hset h7 (Sl.at s13 s35 1) (VI (w64 (s48 + 1)))) [(b1, [g0_1.v])] /\
 ∀ h8 : Heap, h8 = hset h7 (Sl.at s13 s35 1) (VI (w64 (s48 + 1))) -> Vars h8 [(b1, [g0_1.v])] ->
 eop P (Instr.buildSlice 33 1 #[(0, (VI s35))]) h8 fun r4 h9 => ∃ s53 : Sl, r4 = s53.v /\ Vars h9 [(b1, [g0_1.v])] /\
 eop P (appS 33 33 33 list6_2.v s53.v) h9 fun r5 h10 => ∃ s54 : Sl, r5 = s54.v /\ Vars h10 [(b1, [g0_1.v])] /\
 ∃ m : Nat, m < n2 /\ J2 m s54 (w64 (s32 + 1)) h10) /\
 ((decide (s39 < 0)) = false ->
 ∃ m : Nat, m < n2 /\ J2 m list6_2 (w64 (s32 + 1)) h7)) /\
 ((decide (s32 < (s30.n : Int))) = false ->
 pop P (Instr.sliceAt 33 list6_2.v (some (.int .i64 1)) none none) fun r6 => ∃ s23 : Sl, r6 = s23.v /\ 
 ∃ m : Nat, m < n1 /\ J1 m s23 h7)) /\
 ((decide (0 < (list6_1.n : Int))) = false ->
 K s13.v h6)
theorem v148 (g0_1 : Sl) (p1_1 : Int) (h : Heap) (K : Value -> Heap -> Prop) (H : u148 Tryz.prog g0_1 p1_1 h K) : callM Tryz.prog 148 #[(Value.agg #[g0_1.v]), (VI p1_1)] h K := by
  refine c148 (Value.agg #[g0_1.v]) (VI p1_1) h K ?_
  unfold u148 at H
  unfold t148
  have hL : Vars h [] := .nil
  refine eop_box 26 (Value.agg #[g0_1.v]) rfl hL (fun b1 h1 hb1 hf1 hL1 => ?_)
  have H := H b1 h1 hb1 (Fr.no' (Fr.r (In []) _) hf1) hL1
  refine H.mono fun r1 h2 H => ?_
  obtain ⟨s9, rfl, hL2, H⟩ := H
  refine pop_field 0 fld26_0 b1 0 ?_
  refine rop_loc one24 hL2 0 rfl 0 (v := g0_1.v) rfl ?_
  refine pop_len g0_1 _ _ sli24 ?_
  refine H.mono fun r2 h3 H => ?_
  obtain ⟨s13, rfl, hL3, H⟩ := H
  obtain ⟨hi1, H⟩ := H
  refine pop_index sli33 siz3 .i64 s13 p1_1 hi1 ?_
  obtain ⟨hw_1, hL4, H⟩ := H
  refine uop_cell (v := (VI 0)) siz3 hw_1 rfl (fun h4 he_1 => ?_)
  rw [← he_1] at hL4
  have H := H h4 he_1 hL4
  refine H.mono fun r3 h5 H => ?_
  obtain ⟨s18, rfl, hL5, H⟩ := H
  obtain ⟨J1, ⟨n4, h0_2⟩, HB2⟩ := H
  refine loop_intro (J := fun (n : Nat) (vs : List Value) (h' : Heap) => ∃ list6_1 : Sl, vs = [list6_1.v] /\ J1 n list6_1 h' /\ Vars h' [(b1, [g0_1.v])]) n4 ⟨s18, rfl, h0_2, hL5⟩ ?_
  intro I2 mu2 hI2 junk1 tv3 h6 hi2
  obtain ⟨n1, ⟨list6_1, hv, hJ1, hL6⟩, hn1⟩ := hI2 _ _ hi2
  cases hv
  have H := HB2 n1 list6_1 h6 hJ1 hL6
  refine pop_len list6_1 _ _ sli33 ?_
  refine pop_gtr .i64 (list6_1.n : Int) 0 ?_
  refine condM_b (fun hb2 => ?_) (fun hb2 => ?_)
  rotate_left
  ·exact H.2 hb2
  have H := H.1 hb2
  refine pop_field 0 fld26_0 b1 0 ?_
  refine rop_loc one24 hL6 0 rfl 0 (v := g0_1.v) rfl ?_
  obtain ⟨hi3, H⟩ := H
  refine pop_index sli33 siz3 .i64 list6_1 0 hi3 ?_
  obtain ⟨s28, hc6, H⟩ := H
  refine rop_one one3 (VI s28) hc6 ?_
  obtain ⟨hi4, H⟩ := H
  refine pop_index sli24 siz33 .i64 g0_1 s28 hi4 ?_
  obtain ⟨s30, hc5, H⟩ := H
  refine rop_one one33 s30.v hc5 ?_
  refine pop_len s30 _ _ sli33 ?_
  obtain ⟨J2, ⟨n3, h0_1⟩, HB1⟩ := H
  refine loop_intro (J := fun (n : Nat) (vs : List Value) (h' : Heap) => ∃ list6_2 : Sl, ∃ s32 : Int, vs = [list6_2.v, (VI s32)] /\ J2 n list6_2 s32 h' /\ Vars h' [(b1, [g0_1.v])]) n3 ⟨list6_1, 0, rfl, h0_1, hL6⟩ ?_
  intro I1 mu1 hI1 junk2 tv1 tv2 h7 hi5
  obtain ⟨n2, ⟨list6_2, s32, hv, hJ2, hL7⟩, hn2⟩ := hI1 _ _ hi5
  cases hv
  have H := HB1 n2 list6_2 s32 h7 hJ2 hL7
  refine pop_lss .i64 s32 (s30.n : Int) ?_
  refine condM_b (fun hb3 => ?_) (fun hb3 => ?_)
  rotate_left
  ·have H := H.2 hb3
   refine H.mono fun r6 H => ?_
   obtain ⟨s23, rfl, H⟩ := H
   obtain ⟨m_3, hm_3, H⟩ := H
   exact hn1 _ _ ⟨m_3, hm_3, s23, rfl, H, hL7⟩
  have H := H.1 hb3
  obtain ⟨hi6, H⟩ := H
  refine pop_index sli33 siz3 .i64 s30 s32 hi6 ?_
  obtain ⟨s35, hc4, H⟩ := H
  refine rop_one one3 (VI s35) hc4 ?_
  obtain ⟨hi7, H⟩ := H
  refine pop_index sli33 siz3 .i64 s13 s35 hi7 ?_
  obtain ⟨s39, hc3, H⟩ := H
  refine rop_one one3 (VI s39) hc3 ?_
  refine pop_lss .i64 s39 0 ?_
  refine condM_b (fun hb4 => ?_) (fun hb4 => ?_)
  rotate_left
  ·have H := H.2 hb4
   refine pop_add .i64 s32 1 ?_
   obtain ⟨m_2, hm_2, H⟩ := H
   exact hn2 _ _ ⟨m_2, hm_2, list6_2, (w64 (s32 + 1)), rfl, H, hL7⟩
  have H := H.1 hb4
  obtain ⟨hi8, H⟩ := H
  refine pop_index sli33 siz3 .i64 list6_2 0 hi8 ?_
  obtain ⟨s46, hc2, H⟩ := H
  refine rop_one one3 (VI s46) hc2 ?_
  obtain ⟨hi9, H⟩ := H
  refine pop_index sli33 siz3 .i64 s13 s46 hi9 ?_
  obtain ⟨s48, hc1, H⟩ := H
  refine rop_one one3 (VI s48) hc1 ?_
  refine pop_add .i64 s48 1 ?_
  obtain ⟨hi10, H⟩ := H
  refine pop_index sli33 siz3 .i64 s13 s35 hi10 ?_
  obtain ⟨hw_2, hL8, H⟩ := H
  refine uop_cell (v := (VI (w64 (s48 + 1)))) siz3 hw_2 rfl (fun h8 he_2 => ?_)
  rw [← he_2] at hL8
  have H := H h8 he_2 hL8
  refine H.mono fun r4 h9 H => ?_
  obtain ⟨s53, rfl, hL9, H⟩ := H
  refine H.mono fun r5 h10 H => ?_
  obtain ⟨s54, rfl, hL10, H⟩ := H
  refine pop_add .i64 s32 1 ?_
  obtain ⟨m_1, hm_1, H⟩ := H
  exact hn2 _ _ ⟨m_1, hm_1, s54, (w64 (s32 + 1)), rfl, H, hL10⟩
def u149 (P : Program) (g0_1 : Sl) (p1_1 : Int) (h : Heap) (K : Value -> Heap -> Prop) : Prop :=
 ∀ (b1 : Nat) (h1 : Heap), h.size ≤ b1 -> Fr (In []) h h1 -> Vars h1 [(b1, [g0_1.v])] ->
 eop P (Instr.makeSlice 33 (VI (g0_1.n : Int)) (VI (g0_1.n : Int))) h1 fun r1 h2 => ∃ s14 : Sl, r1 = s14.v /\ Vars h2 [(b1, [g0_1.v])] /\
 ∃ J1 : Nat -> Int -> Heap -> Prop, (∃ n0 : Nat, J1 n0 0 h2) /\
 ∀ (n1 : Nat) (s17 : Int) (h3 : Heap), J1 n1 s17 h3 -> Vars h3 [(b1, [g0_1.v])] ->
 ((decide (s17 < (s14.n : Int))) = true ->
 InB s14 s17 /\
 Writable h3 (Sl.at s14 s17 1) /\ Vars (hset h3 (Sl.at s14 s17 1) (VI (-1))) [(b1, [g0_1.v])] /\
 ∀ h4 : Heap, h4 = hset h3 (Sl.at s14 s17 1) (VI (-1)) -> Vars h4 [(b1, [g0_1.v])] ->
 ∃ m : Nat, m < n1 /\ J1 m (w64 (s17 + 1)) h4) /\
 ((decide (s17 < (s14.n : Int))) = false ->
 InB s14 p1_1 /\
 Writable h3 (Sl.at s14 p1_1 1) /\ Vars (hset h3 (Sl.at s14 p1_1 1) (VI 0)) [(b1, [g0_1.v])] /\
 ∀ h5 : Heap, h5 = hset h3 (Sl.at s14 p1_1 1) (VI 0) -> Vars h5 [(b1, [g0_1.v])] ->
 eop P (Instr.buildSlice 33 1 #[(0, (VI p1_1))]) h5 fun r2 h6 => ∃ s28 : Sl, r2 = s28.v /\ Vars h6 [(b1, [g0_1.v])] /\
 ∃ J2 : Nat -> Sl -> Int -> Heap -> Prop, (∃ n0 : Nat, J2 n0 s28 0 h6) /\
 ∀ (n2 : Nat) (queue7_1 : Sl) (k8_1 : Int) (h7 : Heap), J2 n2 queue7_1 k8_1 h7 -> Vars h7 [(b1, [g0_1.v])] ->
 ((decide (k8_1 < (queue7_1.n : Int))) = true ->
 InB queue7_1 k8_1 /\
 ∃ s40 : Int, hcell h7 (Sl.at queue7_1 k8_1 1) = some (VI s40) /\
 InB g0_1 s40 /\
 ∃ s42 : Sl, hcell h7 (Sl.at g0_1 s40 1) = some s42.v /\
 ∃ J3 : Nat -> Sl -> Int -> Heap -> Prop, (∃ n0 : Nat, J3 n0 queue7_1 0 h7) /\
 ∀ (n3 : Nat) (queue7_2 : Sl) (s44 : Int) (h8 : Heap), J3 n3 queue7_2 s44 h8 -> Vars h8 [(b1, [g0_1.v])] ->
 ((decide (s44 < (s42.n : Int))) = true ->
 InB s42 s44 /\
 ∃ s47 : Int, hcell h8 (Sl.at s42 s44 1) = some (VI s47) /\
 InB s14 s47 /\
 ∃ s51 : Int, hcell h8 (Sl.at s14 s47 1) = some (VI s51) /\
 ((decide (s51 < 0)) = true ->
 InB queue7_2 k8_1 /\
 ∃ s59 : Int, hcell h8 (Sl.at queue7_2 k8_1 1) = some (VI s59) /\
 InB s14 s59 /\
 ∃ s61 : Int, hcell h8 (Sl.at s14 s59 1) = some (VI s61) /\
 InB s14 s47 /\
 Writable h8 (Sl.at s14 s47 1) /\ Vars (hset h8 (Sl.at s14 s47 1) (VI (w64 (s61 + 1)))) [(b1, [g0_1.v])] /\
 ∀ h9 : Heap, h9 = hset h8 (Sl.at s14 s47 1) (VI (w64 (s61 + 1))) -> Vars h9 [(b1, [g0_1.v])] ->
 eop P (Instr.buildSlice 33 1 #[(0, (VI s47))]) h9 fun r3 h10 => ∃ s66 : Sl, r3 = s66.v /\ Vars h10 [(b1, [g0_1.v])] /\
 eop P (appS 33 33 33 queue7_2.v s66.v) h10 fun r4 h11 => ∃ s67 : Sl, r4 = s67.v /\ Vars h11 [(b1, [g0_1.v])] /\
 ∃ m : Nat, m < n3 /\ J3 m s67 (w64 (s44 + 1)) h11) /\
 ((decide (s51 < 0)) = false ->
 ∃ m : Nat, m < n3 /\ J3 m queue7_2 (w64 (s44 + 1)) h8)) /\
 ((decide (s44 < (s42.n : Int))) = false ->
 ∃ m : Nat, m < n2 /\ J2 m queue7_2 (w64 (k8_1 + 1)) h8)) /\
 ((decide (k8_1 < (queue7_1.n : Int))) = false ->
 K s14.v h7))
theorem v149 (g0_1 : Sl) (p1_1 : Int) (h : Heap) (K : Value -> Heap -> Prop) (H : u149 Tryz.prog g0_1 p1_1 h K) : callM Tryz.prog 149 #[(Value.agg #[g0_1.v]), (VI p1_1)] h K := by
  refine c149 (Value.agg #[g0_1.v]) (VI p1_1) h K ?_
  unfold u149 at H
  unfold t149
  have hL : Vars h [] := .nil
  refine eop_box 26 (Value.agg #[g0_1.v]) rfl hL (fun b1 h1 hb1 hf1 hL1 => ?_)
  refine pop_field 0 fld26_0 b1 0 ?_
  refine rop_loc one24 hL1 0 rfl 0 (v := g0_1.v) rfl ?_
  refine pop_len g0_1 _ _ sli24 ?_
  have H := H b1 h1 hb1 (Fr.no' (Fr.r (In []) _) hf1) hL1
  refine H.mono fun r1 h2 H => ?_
  obtain ⟨s14, rfl, hL2, H⟩ := H
  refine pop_len s14 _ _ sli33 ?_
  obtain ⟨J1, ⟨n6, h0_3⟩, HB3⟩ := H
  refine loop_intro (J := fun (n : Nat) (vs : List Value) (h' : Heap) => ∃ s17 : Int, vs = [(VI s17)] /\ J1 n s17 h' /\ Vars h' [(b1, [g0_1.v])]) n6 ⟨0, rfl, h0_3, hL2⟩ ?_
  intro I3 mu3 hI3 junk1 tv5 h3 hi1
  obtain ⟨n1, ⟨s17, hv, hJ1, hL3⟩, hn1⟩ := hI3 _ _ hi1
  cases hv
  have H := HB3 n1 s17 h3 hJ1 hL3
  refine pop_lss .i64 s17 (s14.n : Int) ?_
  refine condM_b (fun hb2 => ?_) (fun hb2 => ?_)
  ·have H := H.1 hb2
   obtain ⟨hi2, H⟩ := H
   refine pop_index sli33 siz3 .i64 s14 s17 hi2 ?_
   obtain ⟨hw_1, hL4, H⟩ := H
   refine uop_cell (v := (VI (-1))) siz3 hw_1 rfl (fun h4 he_1 => ?_)
   rw [← he_1] at hL4
   have H := H h4 he_1 hL4
   refine pop_add .i64 s17 1 ?_
   obtain ⟨m_1, hm_1, H⟩ := H
   exact hn1 _ _ ⟨m_1, hm_1, (w64 (s17 + 1)), rfl, H, hL4⟩
  have H := H.2 hb2
  obtain ⟨hi3, H⟩ := H
  refine pop_index sli33 siz3 .i64 s14 p1_1 hi3 ?_
  obtain ⟨hw_2, hL5, H⟩ := H
  refine uop_cell (v := (VI 0)) siz3 hw_2 rfl (fun h5 he_2 => ?_)
  rw [← he_2] at hL5
  have H := H h5 he_2 hL5
  refine H.mono fun r2 h6 H => ?_
  obtain ⟨s28, rfl, hL6, H⟩ := H
  obtain ⟨J2, ⟨n5, h0_2⟩, HB2⟩ := H
  refine loop_intro (J := fun (n : Nat) (vs : List Value) (h' : Heap) => ∃ queue7_1 : Sl, ∃ k8_1 : Int, vs = [queue7_1.v, (VI k8_1)] /\ J2 n queue7_1 k8_1 h' /\ Vars h' [(b1, [g0_1.v])]) n5 ⟨s28, 0, rfl, h0_2, hL6⟩ ?_
  intro I2 mu2 hI2 junk2 tv3 tv4 h7 hi4
  obtain ⟨n2, ⟨queue7_1, k8_1, hv, hJ2, hL7⟩, hn2⟩ := hI2 _ _ hi4
  cases hv
  have H := HB2 n2 queue7_1 k8_1 h7 hJ2 hL7
  refine pop_len queue7_1 _ _ sli33 ?_
  refine pop_lss .i64 k8_1 (queue7_1.n : Int) ?_
  refine condM_b (fun hb3 => ?_) (fun hb3 => ?_)
  rotate_left
  ·exact H.2 hb3
  have H := H.1 hb3
  refine pop_field 0 fld26_0 b1 0 ?_
  refine rop_loc one24 hL7 0 rfl 0 (v := g0_1.v) rfl ?_
  obtain ⟨hi5, H⟩ := H
  refine pop_index sli33 siz3 .i64 queue7_1 k8_1 hi5 ?_
  obtain ⟨s40, hc6, H⟩ := H
  refine rop_one one3 (VI s40) hc6 ?_
  obtain ⟨hi6, H⟩ := H
  refine pop_index sli24 siz33 .i64 g0_1 s40 hi6 ?_
  obtain ⟨s42, hc5, H⟩ := H
  refine rop_one one33 s42.v hc5 ?_
  refine pop_len s42 _ _ sli33 ?_
  obtain ⟨J3, ⟨n4, h0_1⟩, HB1⟩ := H
  refine loop_intro (J := fun (n : Nat) (vs : List Value) (h' : Heap) => ∃ queue7_2 : Sl, ∃ s44 : Int, vs = [queue7_2.v, (VI s44)] /\ J3 n queue7_2 s44 h' /\ Vars h' [(b1, [g0_1.v])]) n4 ⟨queue7_1, 0, rfl, h0_1, hL7⟩ ?_
  intro I1 mu1 hI1 junk3 tv1 tv2 h8 hi7
  obtain ⟨n3, ⟨queue7_2, s44, hv, hJ3, hL8⟩, hn3⟩ := hI1 _ _ hi7
  cases hv
  have H := HB1 n3 queue7_2 s44 h8 hJ3 hL8
  refine pop_lss .i64 s44 (s42.n : Int) ?_
  refine condM_b (fun hb4 => ?_) (fun hb4 => ?_)
  rotate_left
  ·have H := H.2 hb4
   refine pop_add .i64 k8_1 1 ?_
   obtain ⟨m_4, hm_4, H⟩ := H
   exact hn2 _ _ ⟨m_4, hm_4, queue7_2, (w64 (k8_1 + 1)), rfl, H, hL8⟩
  have H := H.1 hb4
  obtain ⟨hi8, H⟩ := H
  refine pop_index sli33 siz3 .i64 s42 s44 hi8 ?_
  obtain ⟨s47, hc4, H⟩ := H
  refine rop_one one3 (VI s47) hc4 ?_
  obtain ⟨hi9, H⟩ := H
  refine pop_index sli33 siz3 .i64 s14 s47 hi9 ?_
  obtain ⟨s51, hc3, H⟩ := H
  refine rop_one one3 (VI s51) hc3 ?_
  refine pop_lss .i64 s51 0 ?_
  refine condM_b (fun hb5 => ?_) (fun hb5 => ?_)
  rotate_left
  ·have H := H.2 hb5
   refine pop_add .i64 s44 1 ?_
   obtain ⟨m_3, hm_3, H⟩ := H
   exact hn3 _ _ ⟨m_3, hm_3, queue7_2, (w64 (s44 + 1)), rfl, H, hL8⟩
  have H := H.1 hb5
  obtain ⟨hi10, H⟩ := H
  refine pop_index sli33 siz3 .i64 queue7_2 k8_1 hi10 ?_
  obtain ⟨s59, hc2, H⟩ := H
  refine rop_one one3 (VI s59) hc2 ?_
  obtain ⟨hi11, H⟩ := H
  refine pop_index sli33 siz3 .i64 s14 s59 hi11 ?_
  obtain ⟨s61, hc1, H⟩ := H
  refine rop_one one3 (VI s61) hc1 ?_
  refine pop_add .i64 s61 1 ?_
  obtain ⟨hi12, H⟩ := H
  refine pop_index sli33 siz3 .i64 s14 s47 hi12 ?_
  obtain ⟨hw_3, hL9, H⟩ := H
  refine uop_cell (v := (VI (w64 (s61 + 1)))) siz3 hw_3 rfl (fun h9 he_3 => ?_)
  rw [← he_3] at hL9
  have H := H h9 he_3 hL9
  refine H.mono fun r3 h10 H => ?_
  obtain ⟨s66, rfl, hL10, H⟩ := H
  refine H.mono fun r4 h11 H => ?_
  obtain ⟨s67, rfl, hL11, H⟩ := H
  refine pop_add .i64 s44 1 ?_
  obtain ⟨m_2, hm_2, H⟩ := H
  exact hn3 _ _ ⟨m_2, hm_2, s67, (w64 (s44 + 1)), rfl, H, hL11⟩
def u153 (P : Program) (x0_1 : Sl) (count1_1 : Int) (h : Heap) (K : Value -> Heap -> Prop) : Prop :=
 ∃ J1 : Heap -> Prop, (((decide (count1_1 < 0)) = true ->
 pop P (Instr.makeInterface 9 (Value.string { data := #[99, 97, 110, 110, 111, 116, 32, 98, 101, 32, 110, 101, 103, 97, 116, 105, 118, 101] })) fun r1 => ∃ s11 : Value, r1 = s11 /\ 
 False) /\
 ((decide (count1_1 < 0)) = false ->
 J1  h)) /\
 ∀ (h1 : Heap), J1  h1 -> Vars h1 [] ->
 rop P (convert 3 154 (VI (x0_1.n : Int))) h1 fun r2 => ∃ s15 : Int, r2 = (Value.int .u64 s15) /\ 
 rop P (convert 3 154 (VI count1_1)) h1 fun r3 => ∃ s17 : Int, r3 = (Value.int .u64 s17) /\ 
 callM P 158 #[(Value.int .u64 s15), (Value.int .u64 s17)] h1 fun r4 h2 => ∃ s18 : Int, ∃ s18b : Int, r4 = (.tuple #[(Value.int .u64 s18), (Value.int .u64 s18b)]) /\ Vars h2 [] /\
 ∃ J2 : Heap -> Prop, (((decide (0 < s18)) = true ->
 pop P (Instr.makeInterface 9 (Value.string { data := #[116, 104, 101, 32, 114, 101, 115, 117, 108, 116, 32, 111, 102, 32, 40, 108, 101, 110, 40, 120, 41, 32, 42, 32, 99, 111, 117, 110, 116, 41, 32, 111, 118, 101, 114, 102, 108, 111, 119, 115] })) fun r6 => ∃ s27b : Value, r6 = s27b /\ 
 False) /\
 ((decide (0 < s18)) = false ->
 ((decide (9223372036854775807 < s18b)) = true ->
 pop P (Instr.makeInterface 9 (Value.string { data := #[116, 104, 101, 32, 114, 101, 115, 117, 108, 116, 32, 111, 102, 32, 40, 108, 101, 110, 40, 120, 41, 32, 42, 32, 99, 111, 117, 110, 116, 41, 32, 111, 118, 101, 114, 102, 108, 111, 119, 115] })) fun r5 => ∃ s27 : Value, r5 = s27 /\ 
 False) /\
 ((decide (9223372036854775807 < s18b)) = false ->
 J2  h2))) /\
 ∀ (h3 : Heap), J2  h3 -> Vars h3 [] ->
 rop P (convert 154 3 (Value.int .u64 s18b)) h3 fun r7 => ∃ s29 : Int, r7 = (VI s29) /\ 
 eop P (Instr.makeSlice 33 (VI s29) (VI s29)) h3 fun r8 h4 => ∃ s30 : Sl, r8 = s30.v /\ Vars h4 [] /\
 eop P (Builtin.copy_ #[33, 33] 3 #[s30.v, x0_1.v]) h4 fun r9 h5 => ∃ s33 : Int, r9 = (VI s33) /\ Vars h5 [] /\
 ∃ J3 : Nat -> Int -> Heap -> Prop, (∃ n0 : Nat, J3 n0 s33 h5) /\
 ∀ (n1 : Nat) (n8_1 : Int) (h6 : Heap), J3 n1 n8_1 h6 -> Vars h6 [] ->
 ((decide (n8_1 < (s30.n : Int))) = true ->
 pop P (Instr.sliceAt 33 s30.v (some (VI n8_1)) none none) fun r10 => ∃ s41 : Sl, r10 = s41.v /\ 
 pop P (Instr.sliceAt 33 s30.v none (some (VI n8_1)) none) fun r11 => ∃ s44 : Sl, r11 = s44.v /\ 
 eop P (Builtin.copy_ #[33, 33] 3 #[s41.v, s44.v]) h6 fun r12 h7 => ∃ s45 : Int, r12 = (VI s45) /\ Vars h7 [] /\
 ∃ m : Nat, m < n1 /\ J3 m (w64 (n8_1 + s45)) h7) /\
 ((decide (n8_1 < (s30.n : Int))) = false ->
 K s30.v h6)
theorem v153 (x0_1 : Sl) (count1_1 : Int) (h : Heap) (K : Value -> Heap -> Prop) (H : u153 Tryz.prog x0_1 count1_1 h K) : callM Tryz.prog 153 #[x0_1.v, (VI count1_1)] h K := by
  refine c153 x0_1.v (VI count1_1) h K ?_
  unfold u153 at H
  unfold t153
  have hL : Vars h [] := .nil
  obtain ⟨J1, H, HB3⟩ := H
  refine ⟨fun (vs : List Value) (h' : Heap) => vs = [] /\ J1  h' /\ Vars h' [], ?_, ?_⟩
  ·refine pop_lss .i64 count1_1 0 ?_
   refine condM_b (fun hb1 => ?_) (fun hb1 => ?_)
   rotate_left
   ·have H := H.2 hb1
    exact ⟨rfl, H, hL⟩
   have H := H.1 hb1
   refine H.mono fun r1 H => ?_
   obtain ⟨s11, rfl, H⟩ := H
   exact H.elim
  intro junk1  h1
  rintro ⟨hv, hJ1, hL1⟩
  have H := HB3  h1 hJ1 hL1
  refine pop_len x0_1 _ _ sli33 ?_
  refine H.mono fun r2 H => ?_
  obtain ⟨s15, rfl, H⟩ := H
  refine H.mono fun r3 H => ?_
  obtain ⟨s17, rfl, H⟩ := H
  refine H.mono fun r4 h2 H => ?_
  obtain ⟨s18, s18b, rfl, hL2, H⟩ := H
  refine pop_ext (v := (Value.int .u64 s18)) rfl ?_
  refine pop_ext (v := (Value.int .u64 s18b)) rfl ?_
  obtain ⟨J2, H, HB2⟩ := H
  refine ⟨fun (vs : List Value) (h' : Heap) => vs = [] /\ J2  h' /\ Vars h' [], ?_, ?_⟩
  ·refine pop_gtr .u64 s18 0 ?_
   refine guardM_sf (fun hb2 => ?_) (fun hb2 => ?_)
   rotate_left
   ·have H := H.1 hb2
    refine guardM_n' hb2 (by decide) ?_
    refine pop_pickt' hb2 ?_
    refine condM_t ?_
    refine H.mono fun r6 H => ?_
    obtain ⟨s27b, rfl, H⟩ := H
    exact H.elim
   have H := H.2 hb2
   refine guardM_y' hb2 ?_
   refine pop_gtr .u64 s18b 9223372036854775807 ?_
   refine pop_pickf' hb2 ?_
   refine condM_b (fun hb3 => ?_) (fun hb3 => ?_)
   rotate_left
   ·have H := H.2 hb3
    exact ⟨rfl, H, hL2⟩
   have H := H.1 hb3
   refine H.mono fun r5 H => ?_
   obtain ⟨s27, rfl, H⟩ := H
   exact H.elim
  intro junk2  h3
  rintro ⟨hv, hJ2, hL3⟩
  have H := HB2  h3 hJ2 hL3
  refine H.mono fun r7 H => ?_
  obtain ⟨s29, rfl, H⟩ := H
  refine H.mono fun r8 h4 H => ?_
  obtain ⟨s30, rfl, hL4, H⟩ := H
  refine H.mono fun r9 h5 H => ?_
  obtain ⟨s33, rfl, hL5, H⟩ := H
  obtain ⟨J3, ⟨n2, h0_1⟩, HB1⟩ := H
  refine loop_intro (J := fun (n : Nat) (vs : List Value) (h' : Heap) => ∃ n8_1 : Int, vs = [(VI n8_1)] /\ J3 n n8_1 h' /\ Vars h' []) n2 ⟨s33, rfl, h0_1, hL5⟩ ?_
  intro I1 mu1 hI1 junk3 tv1 h6 hi1
  obtain ⟨n1, ⟨n8_1, hv, hJ3, hL6⟩, hn1⟩ := hI1 _ _ hi1
  cases hv
  have H := HB1 n1 n8_1 h6 hJ3 hL6
  refine pop_len s30 _ _ sli33 ?_
  refine pop_lss .i64 n8_1 (s30.n : Int) ?_
  refine condM_b (fun hb4 => ?_) (fun hb4 => ?_)
  rotate_left
  ·exact H.2 hb4
  have H := H.1 hb4
  refine H.mono fun r10 H => ?_
  obtain ⟨s41, rfl, H⟩ := H
  refine H.mono fun r11 H => ?_
  obtain ⟨s44, rfl, H⟩ := H
  refine H.mono fun r12 h7 H => ?_
  obtain ⟨s45, rfl, hL7, H⟩ := H
  refine pop_add .i64 n8_1 s45 ?_
  obtain ⟨m_1, hm_1, H⟩ := H
  exact hn1 _ _ ⟨m_1, hm_1, (w64 (n8_1 + s45)), rfl, H, hL7⟩
def u158 (P : Program) (x0_1 : Int) (y1_1 : Int) (h : Heap) (K : Value -> Heap -> Prop) : Prop :=
 callM P 165 #[(Value.int .u64 x0_1), (Value.int .u64 y1_1)] h fun r1 h1 => ∃ s25 : Int, ∃ s25b : Int, r1 = (.tuple #[(Value.int .u64 s25), (Value.int .u64 s25b)]) /\ Vars h1 [] /\
 K (.tuple #[(Value.int .u64 s25), (Value.int .u64 s25b)]) h1
theorem v158 (x0_1 : Int) (y1_1 : Int) (h : Heap) (K : Value -> Heap -> Prop) (H : u158 Tryz.prog x0_1 y1_1 h K) : callM Tryz.prog 158 #[(Value.int .u64 x0_1), (Value.int .u64 y1_1)] h K := by
  refine c158 (Value.int .u64 x0_1) (Value.int .u64 y1_1) h K ?_
  unfold u158 at H
  unfold t158
  have hL : Vars h [] := .nil
  refine condM_f ?_
  refine H.mono fun r1 h1 H => ?_
  obtain ⟨s25, s25b, rfl, hL1, H⟩ := H
  refine pop_ext (v := (Value.int .u64 s25)) rfl ?_
  refine pop_ext (v := (Value.int .u64 s25b)) rfl ?_
  exact H
def u164 (P : Program) (x0_1 : Int) (y1_1 : Int) (h : Heap) (K : Value -> Heap -> Prop) : Prop :=
 rop P (convert 169 82 (Value.int .u32 x0_1)) h fun r1 => ∃ s8 : Int, r1 = (Value.int .u64 s8) /\ 
 rop P (convert 169 82 (Value.int .u32 y1_1)) h fun r2 => ∃ s10 : Int, r2 = (Value.int .u64 s10) /\ 
 pop P (binA .shr 82 (Value.int .u64 (IntKind.wrap .u64 (s8 * s10))) (Value.int IntKind.u64 32)) fun r3 => ∃ s13 : Int, r3 = (Value.int .u64 s13) /\ 
 rop P (convert 82 169 (Value.int .u64 s13)) h fun r4 => ∃ s14 : Int, r4 = (Value.int .u32 s14) /\ 
 rop P (convert 82 169 (Value.int .u64 (IntKind.wrap .u64 (s8 * s10)))) h fun r5 => ∃ s16 : Int, r5 = (Value.int .u32 s16) /\ 
 K (.tuple #[(Value.int .u32 s14), (Value.int .u32 s16)]) h
theorem v164 (x0_1 : Int) (y1_1 : Int) (h : Heap) (K : Value -> Heap -> Prop) (H : u164 Tryz.prog x0_1 y1_1 h K) : callM Tryz.prog 164 #[(Value.int .u32 x0_1), (Value.int .u32 y1_1)] h K := by
  refine c164 (Value.int .u32 x0_1) (Value.int .u32 y1_1) h K ?_
  unfold u164 at H
  unfold t164
  have hL : Vars h [] := .nil
  refine H.mono fun r1 H => ?_
  obtain ⟨s8, rfl, H⟩ := H
  refine H.mono fun r2 H => ?_
  obtain ⟨s10, rfl, H⟩ := H
  refine pop_mul .u64 s8 s10 ?_
  refine H.mono fun r3 H => ?_
  obtain ⟨s13, rfl, H⟩ := H
  refine H.mono fun r4 H => ?_
  obtain ⟨s14, rfl, H⟩ := H
  refine H.mono fun r5 H => ?_
  obtain ⟨s16, rfl, H⟩ := H
  exact H
def u165 (P : Program) (x0_1 : Int) (y1_1 : Int) (h : Heap) (K : Value -> Heap -> Prop) : Prop :=
 pop P (binA .and 82 (Value.int .u64 x0_1) (Value.int IntKind.u64 4294967295)) fun r1 => ∃ s15 : Int, r1 = (Value.int .u64 s15) /\ 
 pop P (binA .shr 82 (Value.int .u64 x0_1) (Value.int IntKind.u64 32)) fun r2 => ∃ s17 : Int, r2 = (Value.int .u64 s17) /\ 
 pop P (binA .and 82 (Value.int .u64 y1_1) (Value.int IntKind.u64 4294967295)) fun r3 => ∃ s19 : Int, r3 = (Value.int .u64 s19) /\ 
 pop P (binA .shr 82 (Value.int .u64 y1_1) (Value.int IntKind.u64 32)) fun r4 => ∃ s21 : Int, r4 = (Value.int .u64 s21) /\ 
 pop P (binA .shr 82 (Value.int .u64 (IntKind.wrap .u64 (s15 * s19))) (Value.int IntKind.u64 32)) fun r5 => ∃ s29 : Int, r5 = (Value.int .u64 s29) /\ 
 pop P (binA .and 82 (Value.int .u64 (IntKind.wrap .u64 ((IntKind.wrap .u64 (s17 * s19)) + s29))) (Value.int IntKind.u64 4294967295)) fun r6 => ∃ s32 : Int, r6 = (Value.int .u64 s32) /\ 
 pop P (binA .shr 82 (Value.int .u64 (IntKind.wrap .u64 ((IntKind.wrap .u64 (s17 * s19)) + s29))) (Value.int IntKind.u64 32)) fun r7 => ∃ s34 : Int, r7 = (Value.int .u64 s34) /\ 
 pop P (binA .shr 82 (Value.int .u64 (IntKind.wrap .u64 (s32 + (IntKind.wrap .u64 (s15 * s21))))) (Value.int IntKind.u64 32)) fun r8 => ∃ s46 : Int, r8 = (Value.int .u64 s46) /\ 
 K (.tuple #[(Value.int .u64 (IntKind.wrap .u64 ((IntKind.wrap .u64 ((IntKind.wrap .u64 (s17 * s21)) + s34)) + s46))), (Value.int .u64 (IntKind.wrap .u64 (x0_1 * y1_1)))]) h
theorem v165 (x0_1 : Int) (y1_1 : Int) (h : Heap) (K : Value -> Heap -> Prop) (H : u165 Tryz.prog x0_1 y1_1 h K) : callM Tryz.prog 165 #[(Value.int .u64 x0_1), (Value.int .u64 y1_1)] h K := by
  refine c165 (Value.int .u64 x0_1) (Value.int .u64 y1_1) h K ?_
  unfold u165 at H
  unfold t165
  have hL : Vars h [] := .nil
  refine H.mono fun r1 H => ?_
  obtain ⟨s15, rfl, H⟩ := H
  refine H.mono fun r2 H => ?_
  obtain ⟨s17, rfl, H⟩ := H
  refine H.mono fun r3 H => ?_
  obtain ⟨s19, rfl, H⟩ := H
  refine H.mono fun r4 H => ?_
  obtain ⟨s21, rfl, H⟩ := H
  refine pop_mul .u64 s15 s19 ?_
  refine pop_mul .u64 s17 s19 ?_
  refine H.mono fun r5 H => ?_
  obtain ⟨s29, rfl, H⟩ := H
  refine pop_add .u64 (IntKind.wrap .u64 (s17 * s19)) s29 ?_
  refine H.mono fun r6 H => ?_
  obtain ⟨s32, rfl, H⟩ := H
  refine H.mono fun r7 H => ?_
  obtain ⟨s34, rfl, H⟩ := H
  refine pop_mul .u64 s15 s21 ?_
  refine pop_add .u64 s32 (IntKind.wrap .u64 (s15 * s21)) ?_
  refine pop_mul .u64 s17 s21 ?_
  refine pop_add .u64 (IntKind.wrap .u64 (s17 * s21)) s34 ?_
  refine H.mono fun r8 H => ?_
  obtain ⟨s46, rfl, H⟩ := H
  refine pop_add .u64 (IntKind.wrap .u64 ((IntKind.wrap .u64 (s17 * s21)) + s34)) s46 ?_
  refine pop_mul .u64 x0_1 y1_1 ?_
  exact H
end Go.Proofs.YtkjkfjkapbpgiaaGreatDoor
