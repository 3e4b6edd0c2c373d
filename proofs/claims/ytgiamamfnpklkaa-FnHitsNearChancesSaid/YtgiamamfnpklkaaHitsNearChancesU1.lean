import Derived.Test.YtgiamamfnpklkaaHitsNearChancesU
import Derived.Test.YtgiamamfnpklkaaHitsNearChancesT
import Derived.Test.YtgiamamfnpklkaaM2
set_option linter.unusedVariables false
set_option linter.unusedSimpArgs false
set_option maxRecDepth 100000
set_option maxHeartbeats 16000000
namespace Go.Proofs.Ytgiamamfnpklkaa
open Go Go.Mx
def u79 (P : Program) (g0_1 : Sl) (rotors1_1 : Sl) (p2_1 : Int) (a3_1 : Int) (b4_1 : Int) (n5_1 : Int) (h : Heap) (K : Value -> Heap -> Prop) : Prop :=
 ∀ (b1 : Nat) (h1 : Heap), h.size ≤ b1 -> Fr (In []) h h1 -> Vars h1 [(b1, [g0_1.v])] ->
 callM P 58 #[(.agg #[g0_1.v]), (VI a3_1), (VI b4_1)] h1 fun r1 h2 => ∃ s22 : Bool, r1 = (VB s22) /\ Vars h2 [(b1, [g0_1.v])] /\
 ((!s22) = true ->
 K (.tuple #[nilSl.v, nilSl.v, (VI 0), (VB false)]) h2) /\
 ((!s22) = false ->
 eop P (Instr.buildSlice 37 1 #[(0, (VI p2_1))]) h2 fun r2 h3 => ∃ s27 : Sl, r2 = s27.v /\ Vars h3 [(b1, [g0_1.v])] /\
 callM P 63 #[(.agg #[g0_1.v]), s27.v] h3 fun r3 h4 => ∃ s28 : Bool, r3 = (VB s28) /\ Vars h4 [(b1, [g0_1.v])] /\
 ((!s28) = true ->
 K (.tuple #[nilSl.v, nilSl.v, (VI 0), (VB false)]) h4) /\
 ((!s28) = false ->
 callM P 123 #[(.agg #[g0_1.v]), rotors1_1.v] h4 fun r4 h5 => ∃ s34 : Bool, r4 = (VB s34) /\ Vars h5 [(b1, [g0_1.v])] /\
 ((!s34) = true ->
 K (.tuple #[nilSl.v, nilSl.v, (VI 0), (VB false)]) h5) /\
 ((!s34) = false ->
 callM P 71 #[(VI n5_1), (VI 0), (VI 100)] h5 fun r5 h6 => ∃ s39 : Bool, r5 = (VB s39) /\ Vars h6 [(b1, [g0_1.v])] /\
 ((!s39) = true ->
 K (.tuple #[nilSl.v, nilSl.v, (VI 0), (VB false)]) h6) /\
 ((!s39) = false ->
 callM P 117 #[rotors1_1.v] h6 fun r6 h7 => ∃ s43 : Sl, r6 = s43.v /\ Vars h7 [(b1, [g0_1.v])] /\
 eop P (Instr.buildSlice 37 0 #[]) h7 fun r7 h8 => ∃ s46 : Sl, r7 = s46.v /\ Vars h8 [(b1, [g0_1.v])] /\
 ∀ (b2 : Nat) (h10 : Heap), h8.size ≤ b2 -> Fr (In []) h8 h10 -> Vars h10 [(b2, [s43.v, (VI p2_1)]), (b1, [g0_1.v])] ->
 ∃ J1 : Nat -> Sl -> Int -> Int -> Sl -> Int -> Heap -> Prop, (∃ n0 : Nat, J1 n0 s46 0 0 s43 p2_1 h10) /\
 ∀ (n1 : Nat) (list17_1 : Sl) (steps18_1 : Int) (s48 : Int) (y1 : Sl) (y2 : Int) (h11 : Heap), J1 n1 list17_1 steps18_1 s48 y1 y2 h11 -> Vars h11 [(b2, [y1.v, (VI y2)]), (b1, [g0_1.v])] ->
 ((decide (s48 < n5_1)) = true ->
 ∀ (h12 : Heap), Fr (In [b2]) h11 h12 -> Vars h12 [(b2, [y1.v, (VI p2_1)]), (b1, [g0_1.v])] ->
 ∃ J2 : Nat -> Int -> Sl -> Int -> Heap -> Prop, (∃ n0 : Nat, J2 n0 steps18_1 y1 p2_1 h12) /\
 ∀ (n2 : Nat) (steps18_2 : Int) (y3 : Sl) (y4 : Int) (h13 : Heap), J2 n2 steps18_2 y3 y4 h13 -> Vars h13 [(b2, [y3.v, (VI y4)]), (b1, [g0_1.v])] ->
 ((!decide (y4 = a3_1)) = true ->
 ((!decide (y4 = b4_1)) = true ->
 callM P 124 #[(.agg #[g0_1.v]), (VP b2 0)] h13 fun r8 h14 => ∃ y5 : Sl, ∃ y6 : Int, ∃ s63 : Bool, r8 = (VB s63) /\ Vars h14 [(b2, [y5.v, (VI y6)]), (b1, [g0_1.v])] /\
 ∃ m : Nat, m < n2 /\ J2 m (w64 (steps18_2 + 1)) y5 y6 h14) /\
 ((!decide (y4 = b4_1)) = false ->
 ((decide (y4 = a3_1)) = true ->
 eop P (Instr.buildSlice 37 1 #[(0, (.int .i64 1))]) h13 fun r9 h15 => ∃ s71 : Sl, r9 = s71.v /\ Vars h15 [(b2, [y3.v, (VI y4)]), (b1, [g0_1.v])] /\
 eop P (appS 37 37 37 list17_1.v s71.v) h15 fun r10 h16 => ∃ s72 : Sl, r10 = s72.v /\ Vars h16 [(b2, [y3.v, (VI y4)]), (b1, [g0_1.v])] /\
 ∃ m : Nat, m < n1 /\ J1 m s72 steps18_2 (w64 (s48 + 1)) y3 y4 h16) /\
 ((decide (y4 = a3_1)) = false ->
 eop P (Instr.buildSlice 37 1 #[(0, (.int .i64 0))]) h13 fun r11 h17 => ∃ s74 : Sl, r11 = s74.v /\ Vars h17 [(b2, [y3.v, (VI y4)]), (b1, [g0_1.v])] /\
 eop P (appS 37 37 37 list17_1.v s74.v) h17 fun r12 h18 => ∃ s75 : Sl, r12 = s75.v /\ Vars h18 [(b2, [y3.v, (VI y4)]), (b1, [g0_1.v])] /\
 ∃ m : Nat, m < n1 /\ J1 m s75 steps18_2 (w64 (s48 + 1)) y3 y4 h18))) /\
 ((!decide (y4 = a3_1)) = false ->
 ((decide (y4 = a3_1)) = true ->
 eop P (Instr.buildSlice 37 1 #[(0, (.int .i64 1))]) h13 fun r13 h19 => ∃ s71b : Sl, r13 = s71b.v /\ Vars h19 [(b2, [y3.v, (VI y4)]), (b1, [g0_1.v])] /\
 eop P (appS 37 37 37 list17_1.v s71b.v) h19 fun r14 h20 => ∃ s72b : Sl, r14 = s72b.v /\ Vars h20 [(b2, [y3.v, (VI y4)]), (b1, [g0_1.v])] /\
 ∃ m : Nat, m < n1 /\ J1 m s72b steps18_2 (w64 (s48 + 1)) y3 y4 h20) /\
 ((decide (y4 = a3_1)) = false ->
 eop P (Instr.buildSlice 37 1 #[(0, (.int .i64 0))]) h13 fun r15 h21 => ∃ s74b : Sl, r15 = s74b.v /\ Vars h21 [(b2, [y3.v, (VI y4)]), (b1, [g0_1.v])] /\
 eop P (appS 37 37 37 list17_1.v s74b.v) h21 fun r16 h22 => ∃ s75b : Sl, r16 = s75b.v /\ Vars h22 [(b2, [y3.v, (VI y4)]), (b1, [g0_1.v])] /\
 ∃ m : Nat, m < n1 /\ J1 m s75b steps18_2 (w64 (s48 + 1)) y3 y4 h22))) /\
 ((decide (s48 < n5_1)) = false ->
 K (.tuple #[list17_1.v, y1.v, (VI steps18_1), (VB true)]) h11)))))
theorem v79 (g0_1 : Sl) (rotors1_1 : Sl) (p2_1 : Int) (a3_1 : Int) (b4_1 : Int) (n5_1 : Int) (h : Heap) (K : Value -> Heap -> Prop) (H : u79 Try.prog g0_1 rotors1_1 p2_1 a3_1 b4_1 n5_1 h K) : callM Try.prog 79 #[(Value.agg #[g0_1.v]), rotors1_1.v, (VI p2_1), (VI a3_1), (VI b4_1), (VI n5_1)] h K := by
  refine c79 (Value.agg #[g0_1.v]) rotors1_1.v (VI p2_1) (VI a3_1) (VI b4_1) (VI n5_1) h K ?_
  unfold u79 at H
  unfold t79
  have hL : Vars h [] := .nil
  refine eop_box 26 (Value.agg #[g0_1.v]) rfl hL (fun b1 h1 hb1 hf1 hL1 => ?_)
  refine ra agg26 hL1 0 0 [g0_1.v] ?_
  have H := H b1 h1 hb1 (Fr.no' (Fr.r (In []) _) hf1) hL1
  refine H.mono fun r1 h2 H => ?_
  obtain ⟨s22, rfl, hL2, H⟩ := H
  refine pop_not s22 ?_
  refine guardM_sf (fun hb2 => ?_) (fun hb2 => ?_)
  rotate_left
  ·have H := H.1 hb2
   refine gm hb2 ?_
   refine gm hb2 ?_
   refine gm hb2 ?_
   refine gm hb2 ?_
   refine pop_pickt' hb2 ?_
   refine gn ?_
   refine gn ?_
   refine gn ?_
   refine gn ?_
   refine pop_pickt _ _ ?_
   refine gn ?_
   refine gn ?_
   refine gn ?_
   refine pop_pickt _ _ ?_
   refine condM_t ?_
   exact H
  have H := H.2 hb2
  refine ra agg26 hL2 0 0 [g0_1.v] ?_
  refine gy hb2 ?_
  refine gy hb2 ?_
  refine H.mono fun r2 h3 H => ?_
  obtain ⟨s27, rfl, hL3, H⟩ := H
  refine gy hb2 ?_
  refine H.mono fun r3 h4 H => ?_
  obtain ⟨s28, rfl, hL4, H⟩ := H
  refine gy hb2 ?_
  refine pop_not s28 ?_
  refine pop_pickf' hb2 ?_
  refine guardM_sf (fun hb3 => ?_) (fun hb3 => ?_)
  rotate_left
  ·have H := H.1 hb3
   refine gm hb3 ?_
   refine gm hb3 ?_
   refine gm hb3 ?_
   refine pop_pickt' hb3 ?_
   refine gn ?_
   refine gn ?_
   refine gn ?_
   refine pop_pickt _ _ ?_
   refine condM_t ?_
   exact H
  have H := H.2 hb3
  refine ra agg26 hL4 0 0 [g0_1.v] ?_
  refine gy hb3 ?_
  refine gy hb3 ?_
  refine H.mono fun r4 h5 H => ?_
  obtain ⟨s34, rfl, hL5, H⟩ := H
  refine gy hb3 ?_
  refine pop_not s34 ?_
  refine pop_pickf' hb3 ?_
  refine guardM_sf (fun hb4 => ?_) (fun hb4 => ?_)
  rotate_left
  ·have H := H.1 hb4
   refine gm hb4 ?_
   refine gm hb4 ?_
   refine pop_pickt' hb4 ?_
   refine condM_t ?_
   exact H
  have H := H.2 hb4
  refine gy hb4 ?_
  refine H.mono fun r5 h6 H => ?_
  obtain ⟨s39, rfl, hL6, H⟩ := H
  refine gy hb4 ?_
  refine pop_not s39 ?_
  refine pop_pickf' hb4 ?_
  refine condM_b (fun hb5 => ?_) (fun hb5 => ?_)
  ·exact H.1 hb5
  have H := H.2 hb5
  refine H.mono fun r6 h7 H => ?_
  obtain ⟨s43, rfl, hL7, H⟩ := H
  refine pop.mk' (v := (Value.agg #[s43.v, (VI p2_1)])) (fun w => by kernel_rfl) ?_
  refine H.mono fun r7 h8 H => ?_
  obtain ⟨s46, rfl, hL8, H⟩ := H
  refine eop_alloc 114 zer114 rfl hL8 (fun b2 h9 hb6 hf2 hL9 => ?_)
  refine ul siz114 hL9 0 0 [s43.v, (VI p2_1)] [(b2, [s43.v, (VI p2_1)]), (b1, [g0_1.v])] (fun h10 hf3 hL10 => ?_)
  have H := H b2 h10 hb6 (Fr.new (Fr.no' (Fr.r (In []) _) hf2) hb6 hf3) hL10
  obtain ⟨J1, ⟨n4, h0_2⟩, HB2⟩ := H
  refine loop_intro (J := fun (n : Nat) (vs : List Value) (h' : Heap) => ∃ list17_1 : Sl, ∃ steps18_1 : Int, ∃ s48 : Int, ∃ y1 : Sl, ∃ y2 : Int, vs = [list17_1.v, (VI steps18_1), (VI s48)] /\ J1 n list17_1 steps18_1 s48 y1 y2 h' /\ Vars h' [(b2, [y1.v, (VI y2)]), (b1, [g0_1.v])]) n4 ⟨s46, 0, 0, s43, p2_1, rfl, h0_2, hL10⟩ ?_
  intro I2 mu2 hI2 junk1 tv2 tv3 tv4 h11 hi1
  obtain ⟨n1, ⟨list17_1, steps18_1, s48, y1, y2, hv, hJ1, hL11⟩, hn1⟩ := hI2 _ _ hi1
  cases hv
  have H := HB2 n1 list17_1 steps18_1 s48 y1 y2 h11 hJ1 hL11
  refine pop_lss .i64 s48 n5_1 ?_
  refine condM_b (fun hb7 => ?_) (fun hb7 => ?_)
  rotate_left
  ·have H := H.2 hb7
   refine pop_field 0 fld114_0 b2 0 ?_
   refine rl one37 hL11 0 0 y1.v ?_
   exact H
  have H := H.1 hb7
  refine pop_field 1 fld114_1 b2 0 ?_
  refine ul siz3 hL11 0 1 [(VI p2_1)] [(b2, [y1.v, (VI p2_1)]), (b1, [g0_1.v])] (fun h12 hf4 hL12 => ?_)
  have H := H  h12  (Fr.old (Fr.r (In []) _) hf4) hL12
  obtain ⟨J2, ⟨n3, h0_1⟩, HB1⟩ := H
  refine loop_intro (J := fun (n : Nat) (vs : List Value) (h' : Heap) => ∃ steps18_2 : Int, ∃ y3 : Sl, ∃ y4 : Int, vs = [(VI steps18_2)] /\ J2 n steps18_2 y3 y4 h' /\ Vars h' [(b2, [y3.v, (VI y4)]), (b1, [g0_1.v])]) n3 ⟨steps18_1, y1, p2_1, rfl, h0_1, hL12⟩ ?_
  intro I1 mu1 hI1 junk2 tv1 h13 hi2
  obtain ⟨n2, ⟨steps18_2, y3, y4, hv, hJ2, hL13⟩, hn2⟩ := hI1 _ _ hi2
  cases hv
  have H := HB1 n2 steps18_2 y3 y4 h13 hJ2 hL13
  refine pop_field 1 fld114_1 b2 0 ?_
  refine rl one3 hL13 0 1 (VI y4) ?_
  refine pop_ine .i64 _ _ y4 a3_1 ?_
  refine guardM_st (fun hb8 => ?_) (fun hb8 => ?_)
  rotate_left
  ·have H := H.2 hb8
   refine gm hb8 ?_
   refine gm hb8 ?_
   refine gm hb8 ?_
   refine pop_pickf' hb8 ?_
   refine condM_f ?_
   refine pop_field 1 fld114_1 b2 0 ?_
   refine rl one3 hL13 0 1 (VI y4) ?_
   refine pop_ieq .i64 _ _ y4 a3_1 ?_
   refine condM_b (fun hb11 => ?_) (fun hb11 => ?_)
   ·have H := H.1 hb11
    refine H.mono fun r13 h19 H => ?_
    obtain ⟨s71b, rfl, hL19, H⟩ := H
    refine H.mono fun r14 h20 H => ?_
    obtain ⟨s72b, rfl, hL20, H⟩ := H
    refine pop_add .i64 s48 1 ?_
    obtain ⟨m_4, hm_4, H⟩ := H
    exact hn1 _ _ ⟨m_4, hm_4, s72b, steps18_2, (w64 (s48 + 1)), y3, y4, rfl, H, hL20⟩
   have H := H.2 hb11
   refine H.mono fun r15 h21 H => ?_
   obtain ⟨s74b, rfl, hL21, H⟩ := H
   refine H.mono fun r16 h22 H => ?_
   obtain ⟨s75b, rfl, hL22, H⟩ := H
   refine pop_add .i64 s48 1 ?_
   obtain ⟨m_5, hm_5, H⟩ := H
   exact hn1 _ _ ⟨m_5, hm_5, s75b, steps18_2, (w64 (s48 + 1)), y3, y4, rfl, H, hL22⟩
  have H := H.1 hb8
  refine pop_field 1 fld114_1 b2 0 ?_
  refine gy hb8 ?_
  refine rl one3 hL13 0 1 (VI y4) ?_
  refine gy hb8 ?_
  refine gy hb8 ?_
  refine pop_ine .i64 _ _ y4 b4_1 ?_
  refine pop_pickt' hb8 ?_
  refine condM_b (fun hb9 => ?_) (fun hb9 => ?_)
  ·have H := H.1 hb9
   refine ra agg26 hL13 1 0 [g0_1.v] ?_
   refine H.mono fun r8 h14 H => ?_
   obtain ⟨y5, y6, s63, rfl, hL14, H⟩ := H
   refine pop_add .i64 steps18_2 1 ?_
   obtain ⟨m_1, hm_1, H⟩ := H
   exact hn2 _ _ ⟨m_1, hm_1, (w64 (steps18_2 + 1)), y5, y6, rfl, H, hL14⟩
  have H := H.2 hb9
  refine pop_field 1 fld114_1 b2 0 ?_
  refine rl one3 hL13 0 1 (VI y4) ?_
  refine pop_ieq .i64 _ _ y4 a3_1 ?_
  refine condM_b (fun hb10 => ?_) (fun hb10 => ?_)
  ·have H := H.1 hb10
   refine H.mono fun r9 h15 H => ?_
   obtain ⟨s71, rfl, hL15, H⟩ := H
   refine H.mono fun r10 h16 H => ?_
   obtain ⟨s72, rfl, hL16, H⟩ := H
   refine pop_add .i64 s48 1 ?_
   obtain ⟨m_2, hm_2, H⟩ := H
   exact hn1 _ _ ⟨m_2, hm_2, s72, steps18_2, (w64 (s48 + 1)), y3, y4, rfl, H, hL16⟩
  have H := H.2 hb10
  refine H.mono fun r11 h17 H => ?_
  obtain ⟨s74, rfl, hL17, H⟩ := H
  refine H.mono fun r12 h18 H => ?_
  obtain ⟨s75, rfl, hL18, H⟩ := H
  refine pop_add .i64 s48 1 ?_
  obtain ⟨m_3, hm_3, H⟩ := H
  exact hn1 _ _ ⟨m_3, hm_3, s75, steps18_2, (w64 (s48 + 1)), y3, y4, rfl, H, hL18⟩
def u80 (P : Program) (list0_1 : Sl) (h : Heap) (K : Value -> Heap -> Prop) : Prop :=
 ∃ J1 : Nat -> Int -> Int -> Heap -> Prop, (∃ n0 : Nat, J1 n0 0 0 h) /\
 ∀ (n1 : Nat) (out3_1 : Int) (s8 : Int) (h1 : Heap), J1 n1 out3_1 s8 h1 -> Vars h1 [] ->
 ((decide (s8 < (list0_1.n : Int))) = true ->
 InB list0_1 s8 /\
 ∃ s11 : Int, hcell h1 (Sl.at list0_1 s8 1) = some (VI s11) /\
 ∃ m : Nat, m < n1 /\ J1 m (w64 (out3_1 + s11)) (w64 (s8 + 1)) h1) /\
 ((decide (s8 < (list0_1.n : Int))) = false ->
 K (VI out3_1) h1)
theorem v80 (list0_1 : Sl) (h : Heap) (K : Value -> Heap -> Prop) (H : u80 Try.prog list0_1 h K) : callM Try.prog 80 #[list0_1.v] h K := by
  refine c80 list0_1.v h K ?_
  unfold u80 at H
  unfold t80
  have hL : Vars h [] := .nil
  refine pop_len list0_1 _ _ sli37 ?_
  obtain ⟨J1, ⟨n2, h0_1⟩, HB1⟩ := H
  refine loop_intro (J := fun (n : Nat) (vs : List Value) (h' : Heap) => ∃ out3_1 : Int, ∃ s8 : Int, vs = [(VI out3_1), (VI s8)] /\ J1 n out3_1 s8 h' /\ Vars h' []) n2 ⟨0, 0, rfl, h0_1, hL⟩ ?_
  intro I1 mu1 hI1 junk1 tv1 tv2 h1 hi1
  obtain ⟨n1, ⟨out3_1, s8, hv, hJ1, hL1⟩, hn1⟩ := hI1 _ _ hi1
  cases hv
  have H := HB1 n1 out3_1 s8 h1 hJ1 hL1
  refine pop_lss .i64 s8 (list0_1.n : Int) ?_
  refine condM_b (fun hb1 => ?_) (fun hb1 => ?_)
  rotate_left
  ·exact H.2 hb1
  have H := H.1 hb1
  obtain ⟨hi2, H⟩ := H
  refine pop_index sli37 siz3 .i64 list0_1 s8 hi2 ?_
  obtain ⟨s11, hc1, H⟩ := H
  refine rop_one one3 (VI s11) hc1 ?_
  refine pop_add .i64 out3_1 s11 ?_
  refine pop_add .i64 s8 1 ?_
  obtain ⟨m_1, hm_1, H⟩ := H
  exact hn1 _ _ ⟨m_1, hm_1, (w64 (out3_1 + s11)), (w64 (s8 + 1)), rfl, H, hL1⟩
def u81 (P : Program) (g0_1 : Sl) (rotors1_1 : Sl) (p2_1 : Int) (a3_1 : Int) (b4_1 : Int) (n5_1 : Int) (h : Heap) (K : Value -> Heap -> Prop) : Prop :=
 ∀ (b1 : Nat) (h1 : Heap), h.size ≤ b1 -> Fr (In []) h h1 -> Vars h1 [(b1, [g0_1.v])] ->
 callM P 61 #[(.agg #[g0_1.v]), (VI a3_1), (VI b4_1)] h1 fun r1 h2 => ∃ s16 : Bool, r1 = (VB s16) /\ Vars h2 [(b1, [g0_1.v])] /\
 (s16 = true ->
 callM P 125 #[(.agg #[g0_1.v]), (.agg #[rotors1_1.v, (VI p2_1)])] h2 fun r2 h3 => ∃ s22 : Bool, r2 = (VB s22) /\ Vars h3 [(b1, [g0_1.v])] /\
 (s22 = true ->
 callM P 73 #[(VI n5_1), (VI 0), (VI 100)] h3 fun r3 h4 => ∃ s26 : Bool, r3 = (VB s26) /\ Vars h4 [(b1, [g0_1.v])] /\
 K (VB s26) h4) /\
 (s22 = false ->
 K (VB false) h3)) /\
 (s16 = false ->
 K (VB false) h2)
theorem v81 (g0_1 : Sl) (rotors1_1 : Sl) (p2_1 : Int) (a3_1 : Int) (b4_1 : Int) (n5_1 : Int) (h : Heap) (K : Value -> Heap -> Prop) (H : u81 Try.prog g0_1 rotors1_1 p2_1 a3_1 b4_1 n5_1 h K) : callM Try.prog 81 #[(Value.agg #[g0_1.v]), rotors1_1.v, (VI p2_1), (VI a3_1), (VI b4_1), (VI n5_1)] h K := by
  refine c81 (Value.agg #[g0_1.v]) rotors1_1.v (VI p2_1) (VI a3_1) (VI b4_1) (VI n5_1) h K ?_
  unfold u81 at H
  unfold t81
  have hL : Vars h [] := .nil
  refine eop_box 26 (Value.agg #[g0_1.v]) rfl hL (fun b1 h1 hb1 hf1 hL1 => ?_)
  refine ra agg26 hL1 0 0 [g0_1.v] ?_
  have H := H b1 h1 hb1 (Fr.no' (Fr.r (In []) _) hf1) hL1
  refine H.mono fun r1 h2 H => ?_
  obtain ⟨s16, rfl, hL2, H⟩ := H
  refine guardM_st (fun hb2 => ?_) (fun hb2 => ?_)
  rotate_left
  ·have H := H.2 hb2
   refine gm hb2 ?_
   refine gm hb2 ?_
   refine gm hb2 ?_
   refine gm hb2 ?_
   refine pop_pickf' hb2 ?_
   refine gn ?_
   refine gn ?_
   refine pop_pickf _ _ ?_
   exact H
  have H := H.1 hb2
  refine ra agg26 hL2 0 0 [g0_1.v] ?_
  refine gy hb2 ?_
  refine gy hb2 ?_
  refine gy hb2 ?_
  refine pop.mk' (v := (Value.agg #[rotors1_1.v, (VI p2_1)])) (fun w => by kernel_rfl) ?_
  refine gy hb2 ?_
  refine H.mono fun r2 h3 H => ?_
  obtain ⟨s22, rfl, hL3, H⟩ := H
  refine pop_pickt' hb2 ?_
  refine guardM_st (fun hb3 => ?_) (fun hb3 => ?_)
  rotate_left
  ·have H := H.2 hb3
   refine gm hb3 ?_
   refine pop_pickf' hb3 ?_
   exact H
  have H := H.1 hb3
  refine gy hb3 ?_
  refine H.mono fun r3 h4 H => ?_
  obtain ⟨s26, rfl, hL4, H⟩ := H
  refine pop_pickt' hb3 ?_
  exact H
def u82 (P : Program) (list0_1 : Sl) (h : Heap) (K : Value -> Heap -> Prop) : Prop :=
 ∃ J1 : Nat -> Int -> Int -> Heap -> Prop, (∃ n0 : Nat, J1 n0 0 0 h) /\
 ∀ (n1 : Nat) (sum3_1 : Int) (s8 : Int) (h1 : Heap), J1 n1 sum3_1 s8 h1 -> Vars h1 [] ->
 ((decide (s8 < (list0_1.n : Int))) = true ->
 InB list0_1 s8 /\
 ∃ s11 : Int, hcell h1 (Sl.at list0_1 s8 1) = some (VI s11) /\
 ∃ m : Nat, m < n1 /\ J1 m (w64 (sum3_1 + s11)) (w64 (s8 + 1)) h1) /\
 ((decide (s8 < (list0_1.n : Int))) = false ->
 K (VI sum3_1) h1)
theorem v82 (list0_1 : Sl) (h : Heap) (K : Value -> Heap -> Prop) (H : u82 Try.prog list0_1 h K) : callM Try.prog 82 #[list0_1.v] h K := by
  refine c82 list0_1.v h K ?_
  unfold u82 at H
  unfold t82
  have hL : Vars h [] := .nil
  refine pop_len list0_1 _ _ sli37 ?_
  obtain ⟨J1, ⟨n2, h0_1⟩, HB1⟩ := H
  refine loop_intro (J := fun (n : Nat) (vs : List Value) (h' : Heap) => ∃ sum3_1 : Int, ∃ s8 : Int, vs = [(VI sum3_1), (VI s8)] /\ J1 n sum3_1 s8 h' /\ Vars h' []) n2 ⟨0, 0, rfl, h0_1, hL⟩ ?_
  intro I1 mu1 hI1 junk1 tv1 tv2 h1 hi1
  obtain ⟨n1, ⟨sum3_1, s8, hv, hJ1, hL1⟩, hn1⟩ := hI1 _ _ hi1
  cases hv
  have H := HB1 n1 sum3_1 s8 h1 hJ1 hL1
  refine pop_lss .i64 s8 (list0_1.n : Int) ?_
  refine condM_b (fun hb1 => ?_) (fun hb1 => ?_)
  rotate_left
  ·exact H.2 hb1
  have H := H.1 hb1
  obtain ⟨hi2, H⟩ := H
  refine pop_index sli37 siz3 .i64 list0_1 s8 hi2 ?_
  obtain ⟨s11, hc1, H⟩ := H
  refine rop_one one3 (VI s11) hc1 ?_
  refine pop_add .i64 sum3_1 s11 ?_
  refine pop_add .i64 s8 1 ?_
  obtain ⟨m_1, hm_1, H⟩ := H
  exact hn1 _ _ ⟨m_1, hm_1, (w64 (sum3_1 + s11)), (w64 (s8 + 1)), rfl, H, hL1⟩
def u83 (P : Program) (g0_1 : Sl) (rotors1_1 : Sl) (p2_1 : Int) (a3_1 : Int) (b4_1 : Int) (n5_1 : Int) (h : Heap) (K : Value -> Heap -> Prop) : Prop :=
 ∀ (b1 : Nat) (b2 : Nat) (h2 : Heap), h.size ≤ b1 -> h.size ≤ b2 -> Fr (In []) h h2 -> Vars h2 [(b2, [nilSl.v, nilSl.v, (VI 0)]), (b1, [g0_1.v])] ->
 callM P 121 #[rotors1_1.v] h2 fun r1 h3 => ∃ s19 : Sl, r1 = s19.v /\ Vars h3 [(b2, [nilSl.v, nilSl.v, (VI 0)]), (b1, [g0_1.v])] /\
 ∀ (b3 : Nat) (h5 : Heap), h3.size ≤ b3 -> Fr (In []) h3 h5 -> Vars h5 [(b3, [nilSl.v, s19.v, (VI 0)]), (b2, [nilSl.v, nilSl.v, (VI 0)]), (b1, [g0_1.v])] ->
 ∃ J1 : Nat -> Int -> Sl -> Sl -> Int -> Heap -> Prop, (∃ n0 : Nat, J1 n0 n5_1 nilSl s19 0 h5) /\
 ∀ (n1 : Nat) (n5_2 : Int) (y1 : Sl) (y2 : Sl) (y3 : Int) (h6 : Heap), J1 n1 n5_2 y1 y2 y3 h6 -> Vars h6 [(b3, [y1.v, y2.v, (VI y3)]), (b2, [nilSl.v, nilSl.v, (VI 0)]), (b1, [g0_1.v])] ->
 ((decide (0 < n5_2)) = true ->
 ∃ J2 : Nat -> Int -> Sl -> Sl -> Int -> Heap -> Prop, (∃ n0 : Nat, J2 n0 p2_1 y1 y2 y3 h6) /\
 ∀ (n2 : Nat) (at14_1 : Int) (y4 : Sl) (y5 : Sl) (y6 : Int) (h7 : Heap), J2 n2 at14_1 y4 y5 y6 h7 -> Vars h7 [(b3, [y4.v, y5.v, (VI y6)]), (b2, [nilSl.v, nilSl.v, (VI 0)]), (b1, [g0_1.v])] ->
 ((!decide (at14_1 = a3_1)) = true ->
 ((!decide (at14_1 = b4_1)) = true ->
 InB g0_1 at14_1 /\
 ∃ s38 : Sl, hcell h7 (Sl.at g0_1 at14_1 1) = some s38.v /\
 InB y5 at14_1 /\
 ∃ s43 : Int, hcell h7 (Sl.at y5 at14_1 1) = some (VI s43) /\
 (s38.n : Int) ≠ 0 /\
 InB y5 at14_1 /\
 Writable h7 (Sl.at y5 at14_1 1) /\ Vars (hset h7 (Sl.at y5 at14_1 1) (VI (Int.tmod (w64 (s43 + 1)) (s38.n : Int)))) [(b3, [y4.v, y5.v, (VI y6)]), (b2, [nilSl.v, nilSl.v, (VI 0)]), (b1, [g0_1.v])] /\
 ∀ h8 : Heap, h8 = hset h7 (Sl.at y5 at14_1 1) (VI (Int.tmod (w64 (s43 + 1)) (s38.n : Int))) -> Vars h8 [(b3, [y4.v, y5.v, (VI y6)]), (b2, [nilSl.v, nilSl.v, (VI 0)]), (b1, [g0_1.v])] ->
 InB s38 (Int.tmod (w64 (s43 + 1)) (s38.n : Int)) /\
 ∃ s56 : Int, hcell h8 (Sl.at s38 (Int.tmod (w64 (s43 + 1)) (s38.n : Int)) 1) = some (VI s56) /\
 ∀ (h9 : Heap), Fr (In [b3]) h8 h9 -> Vars h9 [(b3, [y4.v, y5.v, (VI (w64 (y6 + 1)))]), (b2, [nilSl.v, nilSl.v, (VI 0)]), (b1, [g0_1.v])] ->
 ∃ m : Nat, m < n2 /\ J2 m s56 y4 y5 (w64 (y6 + 1)) h9) /\
 ((!decide (at14_1 = b4_1)) = false ->
 ∃ J3 : Int -> Heap -> Prop, (((decide (at14_1 = a3_1)) = true ->
 J3 1 h7) /\
 ((decide (at14_1 = a3_1)) = false ->
 J3 0 h7)) /\
 ∀ (y7 : Int) (h10 : Heap), J3 y7 h10 -> Vars h10 [(b3, [y4.v, y5.v, (VI y6)]), (b2, [nilSl.v, nilSl.v, (VI 0)]), (b1, [g0_1.v])] ->
 eop P (Instr.buildSlice 37 1 #[(0, (VI y7))]) h10 fun r2 h11 => ∃ s67 : Sl, r2 = s67.v /\ Vars h11 [(b3, [y4.v, y5.v, (VI y6)]), (b2, [nilSl.v, nilSl.v, (VI 0)]), (b1, [g0_1.v])] /\
 eop P (appS 37 37 37 y4.v s67.v) h11 fun r3 h12 => ∃ s68 : Sl, r3 = s68.v /\ Vars h12 [(b3, [y4.v, y5.v, (VI y6)]), (b2, [nilSl.v, nilSl.v, (VI 0)]), (b1, [g0_1.v])] /\
 ∀ (h13 : Heap), Fr (In [b3]) h12 h13 -> Vars h13 [(b3, [s68.v, y5.v, (VI y6)]), (b2, [nilSl.v, nilSl.v, (VI 0)]), (b1, [g0_1.v])] ->
 ∃ m : Nat, m < n1 /\ J1 m (w64 (n5_2 - 1)) s68 y5 y6 h13)) /\
 ((!decide (at14_1 = a3_1)) = false ->
 ∃ J4 : Int -> Heap -> Prop, (((decide (at14_1 = a3_1)) = true ->
 J4 1 h7) /\
 ((decide (at14_1 = a3_1)) = false ->
 J4 0 h7)) /\
 ∀ (y8 : Int) (h14 : Heap), J4 y8 h14 -> Vars h14 [(b3, [y4.v, y5.v, (VI y6)]), (b2, [nilSl.v, nilSl.v, (VI 0)]), (b1, [g0_1.v])] ->
 eop P (Instr.buildSlice 37 1 #[(0, (VI y8))]) h14 fun r4 h15 => ∃ s67b : Sl, r4 = s67b.v /\ Vars h15 [(b3, [y4.v, y5.v, (VI y6)]), (b2, [nilSl.v, nilSl.v, (VI 0)]), (b1, [g0_1.v])] /\
 eop P (appS 37 37 37 y4.v s67b.v) h15 fun r5 h16 => ∃ s68b : Sl, r5 = s68b.v /\ Vars h16 [(b3, [y4.v, y5.v, (VI y6)]), (b2, [nilSl.v, nilSl.v, (VI 0)]), (b1, [g0_1.v])] /\
 ∀ (h17 : Heap), Fr (In [b3]) h16 h17 -> Vars h17 [(b3, [s68b.v, y5.v, (VI y6)]), (b2, [nilSl.v, nilSl.v, (VI 0)]), (b1, [g0_1.v])] ->
 ∃ m : Nat, m < n1 /\ J1 m (w64 (n5_2 - 1)) s68b y5 y6 h17)) /\
 ((decide (0 < n5_2)) = false ->
 ∀ (h18 : Heap), Fr (In [b2]) h6 h18 -> Vars h18 [(b3, [y1.v, y2.v, (VI y3)]), (b2, [y1.v, y2.v, (VI y3)]), (b1, [g0_1.v])] ->
 K (.agg #[y1.v, y2.v, (VI y3)]) h18)
theorem v83 (g0_1 : Sl) (rotors1_1 : Sl) (p2_1 : Int) (a3_1 : Int) (b4_1 : Int) (n5_1 : Int) (h : Heap) (K : Value -> Heap -> Prop) (H : u83 Try.prog g0_1 rotors1_1 p2_1 a3_1 b4_1 n5_1 h K) : callM Try.prog 83 #[(Value.agg #[g0_1.v]), rotors1_1.v, (VI p2_1), (VI a3_1), (VI b4_1), (VI n5_1)] h K := by
  refine c83 (Value.agg #[g0_1.v]) rotors1_1.v (VI p2_1) (VI a3_1) (VI b4_1) (VI n5_1) h K ?_
  unfold u83 at H
  unfold t83
  have hL : Vars h [] := .nil
  refine eop_box 26 (Value.agg #[g0_1.v]) rfl hL (fun b1 h1 hb1 hf1 hL1 => ?_)
  refine eop_alloc 91 zer91 rfl hL1 (fun b2 h2 hb2 hf2 hL2 => ?_)
  have H := H b1 b2 h2 hb1 (Nat.le_trans (Fr.size (Fr.no' (Fr.r (In []) _) hf1)) hb2) (Fr.no' (Fr.no' (Fr.r (In []) _) hf1) hf2) hL2
  refine H.mono fun r1 h3 H => ?_
  obtain ⟨s19, rfl, hL3, H⟩ := H
  refine pop.mk' (v := (Value.agg #[nilSl.v, s19.v, (VI 0)])) (fun w => by kernel_rfl) ?_
  refine eop_alloc 91 zer91 rfl hL3 (fun b3 h4 hb3 hf3 hL4 => ?_)
  refine ul siz91 hL4 0 0 [nilSl.v, s19.v, (VI 0)] [(b3, [nilSl.v, s19.v, (VI 0)]), (b2, [nilSl.v, nilSl.v, (VI 0)]), (b1, [g0_1.v])] (fun h5 hf4 hL5 => ?_)
  have H := H b3 h5 hb3 (Fr.new (Fr.no' (Fr.r (In []) _) hf3) hb3 hf4) hL5
  obtain ⟨J1, ⟨n4, h0_2⟩, HB4⟩ := H
  refine loop_intro (J := fun (n : Nat) (vs : List Value) (h' : Heap) => ∃ n5_2 : Int, ∃ y1 : Sl, ∃ y2 : Sl, ∃ y3 : Int, vs = [(VI n5_2)] /\ J1 n n5_2 y1 y2 y3 h' /\ Vars h' [(b3, [y1.v, y2.v, (VI y3)]), (b2, [nilSl.v, nilSl.v, (VI 0)]), (b1, [g0_1.v])]) n4 ⟨n5_1, nilSl, s19, 0, rfl, h0_2, hL5⟩ ?_
  intro I2 mu2 hI2 junk1 tv4 h6 hi1
  obtain ⟨n1, ⟨n5_2, y1, y2, y3, hv, hJ1, hL6⟩, hn1⟩ := hI2 _ _ hi1
  cases hv
  have H := HB4 n1 n5_2 y1 y2 y3 h6 hJ1 hL6
  refine pop_gtr .i64 n5_2 0 ?_
  refine condM_b (fun hb4 => ?_) (fun hb4 => ?_)
  rotate_left
  ·have H := H.2 hb4
   refine ra agg91 hL6 0 0 [y1.v, y2.v, (VI y3)] ?_
   refine ul siz91 hL6 1 0 [y1.v, y2.v, (VI y3)] [(b3, [y1.v, y2.v, (VI y3)]), (b2, [y1.v, y2.v, (VI y3)]), (b1, [g0_1.v])] (fun h18 hf8 hL18 => ?_)
   refine ra agg91 hL18 1 0 [y1.v, y2.v, (VI y3)] ?_
   have H := H  h18  (Fr.old (Fr.r (In []) _) hf8) hL18
   exact H
  have H := H.1 hb4
  obtain ⟨J2, ⟨n3, h0_1⟩, HB3⟩ := H
  refine loop_intro (J := fun (n : Nat) (vs : List Value) (h' : Heap) => ∃ at14_1 : Int, ∃ y4 : Sl, ∃ y5 : Sl, ∃ y6 : Int, vs = [(VI at14_1)] /\ J2 n at14_1 y4 y5 y6 h' /\ Vars h' [(b3, [y4.v, y5.v, (VI y6)]), (b2, [nilSl.v, nilSl.v, (VI 0)]), (b1, [g0_1.v])]) n3 ⟨p2_1, y1, y2, y3, rfl, h0_1, hL6⟩ ?_
  intro I1 mu1 hI1 junk2 tv3 h7 hi2
  obtain ⟨n2, ⟨at14_1, y4, y5, y6, hv, hJ2, hL7⟩, hn2⟩ := hI1 _ _ hi2
  cases hv
  have H := HB3 n2 at14_1 y4 y5 y6 h7 hJ2 hL7
  refine pop_ine .i64 _ _ at14_1 a3_1 ?_
  refine guardM_st (fun hb5 => ?_) (fun hb5 => ?_)
  rotate_left
  ·have H := H.2 hb5
   refine gm hb5 ?_
   refine gm hb5 ?_
   refine pop_pickf' hb5 ?_
   refine condM_f ?_
   obtain ⟨J4, H, HB2⟩ := H
   refine ⟨fun (vs : List Value) (h' : Heap) => ∃ y8 : Int, vs = [(VI y8)] /\ J4 y8 h' /\ Vars h' [(b3, [y4.v, y5.v, (VI y6)]), (b2, [nilSl.v, nilSl.v, (VI 0)]), (b1, [g0_1.v])], ?_, ?_⟩
   ·refine pop_ieq .i64 _ _ at14_1 a3_1 ?_
    refine condM_b (fun hb8 => ?_) (fun hb8 => ?_)
    ·have H := H.1 hb8
     exact ⟨1, rfl, H, hL7⟩
    have H := H.2 hb8
    exact ⟨0, rfl, H, hL7⟩
   intro junk4 tv2 h14
   rintro ⟨y8, hv, hJ4, hL14⟩
   cases hv
   have H := HB2 y8 h14 hJ4 hL14
   refine pop_field 0 fld91_0 b3 0 ?_
   refine rl one37 hL14 0 0 y4.v ?_
   refine H.mono fun r4 h15 H => ?_
   obtain ⟨s67b, rfl, hL15, H⟩ := H
   refine H.mono fun r5 h16 H => ?_
   obtain ⟨s68b, rfl, hL16, H⟩ := H
   refine pop_field 0 fld91_0 b3 0 ?_
   refine ul siz37 hL16 0 0 [s68b.v] [(b3, [s68b.v, y5.v, (VI y6)]), (b2, [nilSl.v, nilSl.v, (VI 0)]), (b1, [g0_1.v])] (fun h17 hf7 hL17 => ?_)
   refine pop_sub .i64 n5_2 1 ?_
   have H := H  h17  (Fr.old (Fr.r (In []) _) hf7) hL17
   obtain ⟨m_3, hm_3, H⟩ := H
   exact hn1 _ _ ⟨m_3, hm_3, (w64 (n5_2 - 1)), s68b, y5, y6, rfl, H, hL17⟩
  have H := H.1 hb5
  refine gy hb5 ?_
  refine gy hb5 ?_
  refine pop_ine .i64 _ _ at14_1 b4_1 ?_
  refine pop_pickt' hb5 ?_
  refine condM_b (fun hb6 => ?_) (fun hb6 => ?_)
  rotate_left
  ·have H := H.2 hb6
   obtain ⟨J3, H, HB1⟩ := H
   refine ⟨fun (vs : List Value) (h' : Heap) => ∃ y7 : Int, vs = [(VI y7)] /\ J3 y7 h' /\ Vars h' [(b3, [y4.v, y5.v, (VI y6)]), (b2, [nilSl.v, nilSl.v, (VI 0)]), (b1, [g0_1.v])], ?_, ?_⟩
   ·refine pop_ieq .i64 _ _ at14_1 a3_1 ?_
    refine condM_b (fun hb7 => ?_) (fun hb7 => ?_)
    ·have H := H.1 hb7
     exact ⟨1, rfl, H, hL7⟩
    have H := H.2 hb7
    exact ⟨0, rfl, H, hL7⟩
   intro junk3 tv1 h10
   rintro ⟨y7, hv, hJ3, hL10⟩
   cases hv
   have H := HB1 y7 h10 hJ3 hL10
   refine pop_field 0 fld91_0 b3 0 ?_
   refine rl one37 hL10 0 0 y4.v ?_
   refine H.mono fun r2 h11 H => ?_
   obtain ⟨s67, rfl, hL11, H⟩ := H
   refine H.mono fun r3 h12 H => ?_
   obtain ⟨s68, rfl, hL12, H⟩ := H
   refine pop_field 0 fld91_0 b3 0 ?_
   refine ul siz37 hL12 0 0 [s68.v] [(b3, [s68.v, y5.v, (VI y6)]), (b2, [nilSl.v, nilSl.v, (VI 0)]), (b1, [g0_1.v])] (fun h13 hf6 hL13 => ?_)
   refine pop_sub .i64 n5_2 1 ?_
   have H := H  h13  (Fr.old (Fr.r (In []) _) hf6) hL13
   obtain ⟨m_2, hm_2, H⟩ := H
   exact hn1 _ _ ⟨m_2, hm_2, (w64 (n5_2 - 1)), s68, y5, y6, rfl, H, hL13⟩
  have H := H.1 hb6
  refine pop_field 0 fld26_0 b1 0 ?_
  refine rl one24 hL7 2 0 g0_1.v ?_
  obtain ⟨hi3, H⟩ := H
  refine pop_index sli24 siz37 .i64 g0_1 at14_1 hi3 ?_
  obtain ⟨s38, hc3, H⟩ := H
  refine rop_one one37 s38.v hc3 ?_
  refine pop_field 1 fld91_1 b3 0 ?_
  refine rl one37 hL7 0 1 y5.v ?_
  obtain ⟨hi4, H⟩ := H
  refine pop_index sli37 siz3 .i64 y5 at14_1 hi4 ?_
  obtain ⟨s43, hc2, H⟩ := H
  refine rop_one one3 (VI s43) hc2 ?_
  refine pop_add .i64 s43 1 ?_
  refine pop_len s38 _ _ sli37 ?_
  obtain ⟨hz_1, H⟩ := H
  refine pop_rem .i64 (w64 (s43 + 1)) (s38.n : Int) hz_1 ?_
  refine pop_field 1 fld91_1 b3 0 ?_
  refine rl one37 hL7 0 1 y5.v ?_
  obtain ⟨hi5, H⟩ := H
  refine pop_index sli37 siz3 .i64 y5 at14_1 hi5 ?_
  obtain ⟨hw_1, hL8, H⟩ := H
  refine uop_cell (v := (VI (Int.tmod (w64 (s43 + 1)) (s38.n : Int)))) siz3 hw_1 rfl (fun h8 he_1 => ?_)
  rw [← he_1] at hL8
  have H := H h8 he_1 hL8
  obtain ⟨hi6, H⟩ := H
  refine pop_index sli37 siz3 .i64 s38 (Int.tmod (w64 (s43 + 1)) (s38.n : Int)) hi6 ?_
  obtain ⟨s56, hc1, H⟩ := H
  refine rop_one one3 (VI s56) hc1 ?_
  refine pop_field 2 fld91_2 b3 0 ?_
  refine rl one3 hL8 0 2 (VI y6) ?_
  refine pop_add .i64 y6 1 ?_
  refine pop_field 2 fld91_2 b3 0 ?_
  refine ul siz3 hL8 0 2 [(VI (w64 (y6 + 1)))] [(b3, [y4.v, y5.v, (VI (w64 (y6 + 1)))]), (b2, [nilSl.v, nilSl.v, (VI 0)]), (b1, [g0_1.v])] (fun h9 hf5 hL9 => ?_)
  have H := H  h9  (Fr.old (Fr.r (In []) _) hf5) hL9
  obtain ⟨m_1, hm_1, H⟩ := H
  exact hn2 _ _ ⟨m_1, hm_1, s56, y4, y5, (w64 (y6 + 1)), rfl, H, hL9⟩
def u84 (P : Program) (x0_1 : Int) (h : Heap) (K : Value -> Heap -> Prop) : Prop :=
 pop P (Builtin.max_ #[3, 3] 3 #[(VI x0_1), (VI (w64 (0 - x0_1)))]) fun r1 => ∃ s6 : Int, r1 = (VI s6) /\ 
 K (VI s6) h
theorem v84 (x0_1 : Int) (h : Heap) (K : Value -> Heap -> Prop) (H : u84 Try.prog x0_1 h K) : callM Try.prog 84 #[(VI x0_1)] h K := by
  refine c84 (VI x0_1) h K ?_
  unfold u84 at H
  unfold t84
  have hL : Vars h [] := .nil
  refine pop_neg .i64 x0_1 ?_
  refine H.mono fun r1 H => ?_
  obtain ⟨s6, rfl, H⟩ := H
  exact H
def u85 (P : Program) (n0_1 : Int) (h : Heap) (K : Value -> Heap -> Prop) : Prop :=
 callM P 126 #[(VI n0_1), (VI (w64 (0 - n0_1)))] h fun r1 h1 => ∃ s6 : Int, r1 = (VI s6) /\ Vars h1 [] /\
 K (VI s6) h1
theorem v85 (n0_1 : Int) (h : Heap) (K : Value -> Heap -> Prop) (H : u85 Try.prog n0_1 h K) : callM Try.prog 85 #[(VI n0_1)] h K := by
  refine c85 (VI n0_1) h K ?_
  unfold u85 at H
  unfold t85
  have hL : Vars h [] := .nil
  refine pop_neg .i64 n0_1 ?_
  refine H.mono fun r1 h1 H => ?_
  obtain ⟨s6, rfl, hL1, H⟩ := H
  exact H
def u86 (P : Program) (g0_1 : Sl) (a1_1 : Int) (b2_1 : Int) (h : Heap) (K : Value -> Heap -> Prop) : Prop :=
 ∀ (b1 : Nat) (b2 : Nat) (h2 : Heap), h.size ≤ b1 -> h.size ≤ b2 -> Fr (In []) h h2 -> Vars h2 [(b2, [(VI 0), (VI 0)]), (b1, [g0_1.v])] ->
 callM P 76 #[(.agg #[g0_1.v]), (VI a1_1), (VI b2_1)] h2 fun r1 h3 => ∃ s21 : Sl, ∃ s21b : Sl, r1 = (.tuple #[s21.v, s21b.v]) /\ Vars h3 [(b2, [(VI 0), (VI 0)]), (b1, [g0_1.v])] /\
 callM P 91 #[s21b.v] h3 fun r2 h4 => ∃ s25 : Int, r2 = (VI s25) /\ Vars h4 [(b2, [(VI 0), (VI 0)]), (b1, [g0_1.v])] /\
 callM P 85 #[(VI s25)] h4 fun r3 h5 => ∃ s26 : Int, r3 = (VI s26) /\ Vars h5 [(b2, [(VI 0), (VI 0)]), (b1, [g0_1.v])] /\
 callM P 62 #[(.agg #[g0_1.v]), (VI a1_1), (VI b2_1)] h5 fun r4 h6 => ∃ s30 : Sl, r4 = s30.v /\ Vars h6 [(b2, [(VI 0), (VI 0)]), (b1, [g0_1.v])] /\
 ∃ J1 : Nat -> Int -> Int -> Heap -> Prop, (∃ n0 : Nat, J1 n0 s26 0 h6) /\
 ∀ (n1 : Nat) (sum11_1 : Int) (s34 : Int) (h7 : Heap), J1 n1 sum11_1 s34 h7 -> Vars h7 [(b2, [(VI 0), (VI 0)]), (b1, [g0_1.v])] ->
 ((decide (s34 < (s21.n : Int))) = true ->
 InB s21 s34 /\
 ∃ s37 : Int, hcell h7 (Sl.at s21 s34 1) = some (VI s37) /\
 InB g0_1 s37 /\
 ∃ s42 : Sl, hcell h7 (Sl.at g0_1 s37 1) = some s42.v /\
 ∃ J2 : Nat -> Int -> Int -> Heap -> Prop, (∃ n0 : Nat, J2 n0 sum11_1 0 h7) /\
 ∀ (n2 : Nat) (sum11_2 : Int) (s44 : Int) (h8 : Heap), J2 n2 sum11_2 s44 h8 -> Vars h8 [(b2, [(VI 0), (VI 0)]), (b1, [g0_1.v])] ->
 ((decide (s44 < (s42.n : Int))) = true ->
 InB s42 s44 /\
 ∃ s47 : Int, hcell h8 (Sl.at s42 s44 1) = some (VI s47) /\
 InB s30 s37 /\
 ∃ s52 : Int, hcell h8 (Addr.add (Sl.at s30 s37 2) 0) = some (VI s52) /\
 InB s30 s37 /\
 ∃ s58 : Int, hcell h8 (Addr.add (Sl.at s30 s37 2) 1) = some (VI s58) /\
 s58 ≠ 0 /\
 InB s30 s47 /\
 ∃ s65 : Int, hcell h8 (Addr.add (Sl.at s30 s47 2) 0) = some (VI s65) /\
 InB s30 s47 /\
 ∃ s71 : Int, hcell h8 (Addr.add (Sl.at s30 s47 2) 1) = some (VI s71) /\
 s71 ≠ 0 /\
 callM P 85 #[(VI (w64 ((w64 (s52 * (w64 (Int.tdiv s26 s58)))) - (w64 (s65 * (w64 (Int.tdiv s26 s71)))))))] h8 fun r5 h9 => ∃ s77 : Int, r5 = (VI s77) /\ Vars h9 [(b2, [(VI 0), (VI 0)]), (b1, [g0_1.v])] /\
 ∃ m : Nat, m < n2 /\ J2 m (w64 (sum11_2 + s77)) (w64 (s44 + 1)) h9) /\
 ((decide (s44 < (s42.n : Int))) = false ->
 ∃ m : Nat, m < n1 /\ J1 m sum11_2 (w64 (s34 + 1)) h8)) /\
 ((decide (s34 < (s21.n : Int))) = false ->
 callM P 74 #[(VI sum11_1), (VI s26)] h7 fun r6 h10 => ∃ s83 : Int, ∃ s83b : Int, r6 = (.agg #[(VI s83), (VI s83b)]) /\ Vars h10 [(b2, [(VI 0), (VI 0)]), (b1, [g0_1.v])] /\
 ∀ (h11 : Heap), Fr (In [b2]) h10 h11 -> Vars h11 [(b2, [(VI s83), (VI s83b)]), (b1, [g0_1.v])] ->
 K (.agg #[(VI s83), (VI s83b)]) h11)
theorem v86 (g0_1 : Sl) (a1_1 : Int) (b2_1 : Int) (h : Heap) (K : Value -> Heap -> Prop) (H : u86 Try.prog g0_1 a1_1 b2_1 h K) : callM Try.prog 86 #[(Value.agg #[g0_1.v]), (VI a1_1), (VI b2_1)] h K := by
  refine c86 (Value.agg #[g0_1.v]) (VI a1_1) (VI b2_1) h K ?_
  unfold u86 at H
  unfold t86
  have hL : Vars h [] := .nil
  refine eop_box 26 (Value.agg #[g0_1.v]) rfl hL (fun b1 h1 hb1 hf1 hL1 => ?_)
  refine eop_alloc 36 zer36 rfl hL1 (fun b2 h2 hb2 hf2 hL2 => ?_)
  refine ra agg26 hL2 1 0 [g0_1.v] ?_
  have H := H b1 b2 h2 hb1 (Nat.le_trans (Fr.size (Fr.no' (Fr.r (In []) _) hf1)) hb2) (Fr.no' (Fr.no' (Fr.r (In []) _) hf1) hf2) hL2
  refine H.mono fun r1 h3 H => ?_
  obtain ⟨s21, s21b, rfl, hL3, H⟩ := H
  refine pop_ext (v := s21.v) rfl ?_
  refine pop_ext (v := s21b.v) rfl ?_
  refine H.mono fun r2 h4 H => ?_
  obtain ⟨s25, rfl, hL4, H⟩ := H
  refine H.mono fun r3 h5 H => ?_
  obtain ⟨s26, rfl, hL5, H⟩ := H
  refine ra agg26 hL5 1 0 [g0_1.v] ?_
  refine H.mono fun r4 h6 H => ?_
  obtain ⟨s30, rfl, hL6, H⟩ := H
  refine pop_len s21 _ _ sli37 ?_
  obtain ⟨J1, ⟨n4, h0_2⟩, HB2⟩ := H
  refine loop_intro (J := fun (n : Nat) (vs : List Value) (h' : Heap) => ∃ sum11_1 : Int, ∃ s34 : Int, vs = [(VI sum11_1), (VI s34)] /\ J1 n sum11_1 s34 h' /\ Vars h' [(b2, [(VI 0), (VI 0)]), (b1, [g0_1.v])]) n4 ⟨s26, 0, rfl, h0_2, hL6⟩ ?_
  intro I2 mu2 hI2 junk1 tv3 tv4 h7 hi1
  obtain ⟨n1, ⟨sum11_1, s34, hv, hJ1, hL7⟩, hn1⟩ := hI2 _ _ hi1
  cases hv
  have H := HB2 n1 sum11_1 s34 h7 hJ1 hL7
  refine pop_lss .i64 s34 (s21.n : Int) ?_
  refine condM_b (fun hb3 => ?_) (fun hb3 => ?_)
  rotate_left
  ·have H := H.2 hb3
   refine H.mono fun r6 h10 H => ?_
   obtain ⟨s83, s83b, rfl, hL10, H⟩ := H
   refine ul siz36 hL10 0 0 [(VI s83), (VI s83b)] [(b2, [(VI s83), (VI s83b)]), (b1, [g0_1.v])] (fun h11 hf3 hL11 => ?_)
   refine ra agg36 hL11 0 0 [(VI s83), (VI s83b)] ?_
   have H := H  h11  (Fr.old (Fr.r (In []) _) hf3) hL11
   exact H
  have H := H.1 hb3
  obtain ⟨hi2, H⟩ := H
  refine pop_index sli37 siz3 .i64 s21 s34 hi2 ?_
  obtain ⟨s37, hc7, H⟩ := H
  refine rop_one one3 (VI s37) hc7 ?_
  refine pop_field 0 fld26_0 b1 0 ?_
  refine rl one24 hL7 1 0 g0_1.v ?_
  obtain ⟨hi3, H⟩ := H
  refine pop_index sli24 siz37 .i64 g0_1 s37 hi3 ?_
  obtain ⟨s42, hc6, H⟩ := H
  refine rop_one one37 s42.v hc6 ?_
  refine pop_len s42 _ _ sli37 ?_
  obtain ⟨J2, ⟨n3, h0_1⟩, HB1⟩ := H
  refine loop_intro (J := fun (n : Nat) (vs : List Value) (h' : Heap) => ∃ sum11_2 : Int, ∃ s44 : Int, vs = [(VI sum11_2), (VI s44)] /\ J2 n sum11_2 s44 h' /\ Vars h' [(b2, [(VI 0), (VI 0)]), (b1, [g0_1.v])]) n3 ⟨sum11_1, 0, rfl, h0_1, hL7⟩ ?_
  intro I1 mu1 hI1 junk2 tv1 tv2 h8 hi4
  obtain ⟨n2, ⟨sum11_2, s44, hv, hJ2, hL8⟩, hn2⟩ := hI1 _ _ hi4
  cases hv
  have H := HB1 n2 sum11_2 s44 h8 hJ2 hL8
  refine pop_lss .i64 s44 (s42.n : Int) ?_
  refine condM_b (fun hb4 => ?_) (fun hb4 => ?_)
  rotate_left
  ·have H := H.2 hb4
   refine pop_add .i64 s34 1 ?_
   obtain ⟨m_2, hm_2, H⟩ := H
   exact hn1 _ _ ⟨m_2, hm_2, sum11_2, (w64 (s34 + 1)), rfl, H, hL8⟩
  have H := H.1 hb4
  obtain ⟨hi5, H⟩ := H
  refine pop_index sli37 siz3 .i64 s42 s44 hi5 ?_
  obtain ⟨s47, hc5, H⟩ := H
  refine rop_one one3 (VI s47) hc5 ?_
  obtain ⟨hi6, H⟩ := H
  refine pop_index sli29 siz36 .i64 s30 s37 hi6 ?_
  refine pop_fieldA 0 fld36_0 (Sl.at s30 s37 2) ?_
  obtain ⟨s52, hc4, H⟩ := H
  refine rop_one one3 (VI s52) hc4 ?_
  obtain ⟨hi7, H⟩ := H
  refine pop_index sli29 siz36 .i64 s30 s37 hi7 ?_
  refine pop_fieldA 1 fld36_1 (Sl.at s30 s37 2) ?_
  obtain ⟨s58, hc3, H⟩ := H
  refine rop_one one3 (VI s58) hc3 ?_
  obtain ⟨hz_1, H⟩ := H
  refine pop_quo .i64 s26 s58 hz_1 ?_
  refine pop_mul .i64 s52 (w64 (Int.tdiv s26 s58)) ?_
  obtain ⟨hi8, H⟩ := H
  refine pop_index sli29 siz36 .i64 s30 s47 hi8 ?_
  refine pop_fieldA 0 fld36_0 (Sl.at s30 s47 2) ?_
  obtain ⟨s65, hc2, H⟩ := H
  refine rop_one one3 (VI s65) hc2 ?_
  obtain ⟨hi9, H⟩ := H
  refine pop_index sli29 siz36 .i64 s30 s47 hi9 ?_
  refine pop_fieldA 1 fld36_1 (Sl.at s30 s47 2) ?_
  obtain ⟨s71, hc1, H⟩ := H
  refine rop_one one3 (VI s71) hc1 ?_
  obtain ⟨hz_2, H⟩ := H
  refine pop_quo .i64 s26 s71 hz_2 ?_
  refine pop_mul .i64 s65 (w64 (Int.tdiv s26 s71)) ?_
  refine pop_sub .i64 (w64 (s52 * (w64 (Int.tdiv s26 s58)))) (w64 (s65 * (w64 (Int.tdiv s26 s71)))) ?_
  refine H.mono fun r5 h9 H => ?_
  obtain ⟨s77, rfl, hL9, H⟩ := H
  refine pop_add .i64 sum11_2 s77 ?_
  refine pop_add .i64 s44 1 ?_
  obtain ⟨m_1, hm_1, H⟩ := H
  exact hn2 _ _ ⟨m_1, hm_1, (w64 (sum11_2 + s77)), (w64 (s44 + 1)), rfl, H, hL9⟩
def u88 (P : Program) (m0_1 : Sl) (h : Heap) (K : Value -> Heap -> Prop) : Prop :=
 eop P (Instr.buildSlice 24 0 #[]) h fun r1 h1 => ∃ s15 : Sl, r1 = s15.v /\ Vars h1 [] /\
 ∃ J1 : Nat -> Sl -> Int -> Heap -> Prop, (∃ n0 : Nat, J1 n0 s15 0 h1) /\
 ∀ (n1 : Nat) (a6_1 : Sl) (s18 : Int) (h2 : Heap), J1 n1 a6_1 s18 h2 -> Vars h2 [] ->
 ((decide (s18 < (m0_1.n : Int))) = true ->
 InB m0_1 s18 /\
 ∃ s21 : Sl, hcell h2 (Sl.at m0_1 s18 1) = some s21.v /\
 callM P 117 #[s21.v] h2 fun r2 h3 => ∃ s24 : Sl, r2 = s24.v /\ Vars h3 [] /\
 eop P (Instr.buildSlice 24 1 #[(0, s24.v)]) h3 fun r3 h4 => ∃ s25 : Sl, r3 = s25.v /\ Vars h4 [] /\
 eop P (appS 24 24 24 a6_1.v s25.v) h4 fun r4 h5 => ∃ s26 : Sl, r4 = s26.v /\ Vars h5 [] /\
 ∃ m : Nat, m < n1 /\ J1 m s26 (w64 (s18 + 1)) h5) /\
 ((decide (s18 < (m0_1.n : Int))) = false ->
 ∃ J2 : Nat -> Int -> Int -> Int -> Heap -> Prop, (∃ n0 : Nat, J2 n0 1 1 0 h2) /\
 ∀ (n2 : Nat) (sign4_1 : Int) (last5_1 : Int) (s29 : Int) (h6 : Heap), J2 n2 sign4_1 last5_1 s29 h6 -> Vars h6 [] ->
 ((decide (s29 < (m0_1.n : Int))) = true ->
 ∃ J3 : Nat -> Int -> Heap -> Prop, (∃ n0 : Nat, J3 n0 s29 h6) /\
 ∀ (n3 : Nat) (pivot10_1 : Int) (h7 : Heap), J3 n3 pivot10_1 h7 -> Vars h7 [] ->
 ((decide (pivot10_1 < (m0_1.n : Int))) = true ->
 InB a6_1 pivot10_1 /\
 ∃ s40 : Sl, hcell h7 (Sl.at a6_1 pivot10_1 1) = some s40.v /\
 InB s40 s29 /\
 ∃ s43 : Int, hcell h7 (Sl.at s40 s29 1) = some (VI s43) /\
 ((decide (s43 = 0)) = true ->
 ∃ m : Nat, m < n3 /\ J3 m (w64 (pivot10_1 + 1)) h7) /\
 ((decide (s43 = 0)) = false ->
 ((decide (pivot10_1 = (m0_1.n : Int))) = true ->
 K (VI 0) h7) /\
 ((decide (pivot10_1 = (m0_1.n : Int))) = false ->
 ∃ J4 : Int -> Heap -> Prop, (((!decide (pivot10_1 = s29)) = true ->
 InB a6_1 s29 /\
 ∃ s61 : Sl, hcell h7 (Sl.at a6_1 s29 1) = some s61.v /\
 InB a6_1 pivot10_1 /\
 ∃ s65 : Sl, hcell h7 (Sl.at a6_1 pivot10_1 1) = some s65.v /\
 InB a6_1 pivot10_1 /\
 Writable h7 (Sl.at a6_1 pivot10_1 1) /\ Vars (hset h7 (Sl.at a6_1 pivot10_1 1) s61.v) [] /\
 ∀ h8 : Heap, h8 = hset h7 (Sl.at a6_1 pivot10_1 1) s61.v -> Vars h8 [] ->
 InB a6_1 s29 /\
 Writable h8 (Sl.at a6_1 s29 1) /\ Vars (hset h8 (Sl.at a6_1 s29 1) s65.v) [] /\
 ∀ h9 : Heap, h9 = hset h8 (Sl.at a6_1 s29 1) s65.v -> Vars h9 [] ->
 J4 (w64 (0 - sign4_1)) h9) /\
 ((!decide (pivot10_1 = s29)) = false ->
 J4 sign4_1 h7)) /\
 ∀ (y1 : Int) (h10 : Heap), J4 y1 h10 -> Vars h10 [] ->
 ∃ J5 : Nat -> Int -> Heap -> Prop, (∃ n0 : Nat, J5 n0 (w64 (s29 + 1)) h10) /\
 ∀ (n4 : Nat) (i11_1 : Int) (h11 : Heap), J5 n4 i11_1 h11 -> Vars h11 [] ->
 ((decide (i11_1 < (m0_1.n : Int))) = true ->
 ∃ J6 : Nat -> Int -> Heap -> Prop, (∃ n0 : Nat, J6 n0 (w64 (s29 + 1)) h11) /\
 ∀ (n5 : Nat) (j12_1 : Int) (h12 : Heap), J6 n5 j12_1 h12 -> Vars h12 [] ->
 ((decide (j12_1 < (m0_1.n : Int))) = true ->
 InB a6_1 i11_1 /\
 ∃ s87 : Sl, hcell h12 (Sl.at a6_1 i11_1 1) = some s87.v /\
 InB a6_1 i11_1 /\
 ∃ s92 : Sl, hcell h12 (Sl.at a6_1 i11_1 1) = some s92.v /\
 InB s92 j12_1 /\
 ∃ s95 : Int, hcell h12 (Sl.at s92 j12_1 1) = some (VI s95) /\
 InB a6_1 s29 /\
 ∃ s99 : Sl, hcell h12 (Sl.at a6_1 s29 1) = some s99.v /\
 InB s99 s29 /\
 ∃ s102 : Int, hcell h12 (Sl.at s99 s29 1) = some (VI s102) /\
 InB a6_1 i11_1 /\
 ∃ s107 : Sl, hcell h12 (Sl.at a6_1 i11_1 1) = some s107.v /\
 InB s107 s29 /\
 ∃ s110 : Int, hcell h12 (Sl.at s107 s29 1) = some (VI s110) /\
 InB a6_1 s29 /\
 ∃ s114 : Sl, hcell h12 (Sl.at a6_1 s29 1) = some s114.v /\
 InB s114 j12_1 /\
 ∃ s117 : Int, hcell h12 (Sl.at s114 j12_1 1) = some (VI s117) /\
 last5_1 ≠ 0 /\
 InB s87 j12_1 /\
 Writable h12 (Sl.at s87 j12_1 1) /\ Vars (hset h12 (Sl.at s87 j12_1 1) (VI (w64 (Int.tdiv (w64 ((w64 (s95 * s102)) - (w64 (s110 * s117)))) last5_1)))) [] /\
 ∀ h13 : Heap, h13 = hset h12 (Sl.at s87 j12_1 1) (VI (w64 (Int.tdiv (w64 ((w64 (s95 * s102)) - (w64 (s110 * s117)))) last5_1))) -> Vars h13 [] ->
 ∃ m : Nat, m < n5 /\ J6 m (w64 (j12_1 + 1)) h13) /\
 ((decide (j12_1 < (m0_1.n : Int))) = false ->
 ∃ m : Nat, m < n4 /\ J5 m (w64 (i11_1 + 1)) h12)) /\
 ((decide (i11_1 < (m0_1.n : Int))) = false ->
 InB a6_1 s29 /\
 ∃ s126 : Sl, hcell h11 (Sl.at a6_1 s29 1) = some s126.v /\
 InB s126 s29 /\
 ∃ s129 : Int, hcell h11 (Sl.at s126 s29 1) = some (VI s129) /\
 ∃ m : Nat, m < n2 /\ J2 m y1 s129 (w64 (s29 + 1)) h11)))) /\
 ((decide (pivot10_1 < (m0_1.n : Int))) = false ->
 ((decide (pivot10_1 = (m0_1.n : Int))) = true ->
 K (VI 0) h7) /\
 ((decide (pivot10_1 = (m0_1.n : Int))) = false ->
 ∃ J7 : Int -> Heap -> Prop, (((!decide (pivot10_1 = s29)) = true ->
 InB a6_1 s29 /\
 ∃ s61b : Sl, hcell h7 (Sl.at a6_1 s29 1) = some s61b.v /\
 InB a6_1 pivot10_1 /\
 ∃ s65b : Sl, hcell h7 (Sl.at a6_1 pivot10_1 1) = some s65b.v /\
 InB a6_1 pivot10_1 /\
 Writable h7 (Sl.at a6_1 pivot10_1 1) /\ Vars (hset h7 (Sl.at a6_1 pivot10_1 1) s61b.v) [] /\
 ∀ h14 : Heap, h14 = hset h7 (Sl.at a6_1 pivot10_1 1) s61b.v -> Vars h14 [] ->
 InB a6_1 s29 /\
 Writable h14 (Sl.at a6_1 s29 1) /\ Vars (hset h14 (Sl.at a6_1 s29 1) s65b.v) [] /\
 ∀ h15 : Heap, h15 = hset h14 (Sl.at a6_1 s29 1) s65b.v -> Vars h15 [] ->
 J7 (w64 (0 - sign4_1)) h15) /\
 ((!decide (pivot10_1 = s29)) = false ->
 J7 sign4_1 h7)) /\
 ∀ (y2 : Int) (h16 : Heap), J7 y2 h16 -> Vars h16 [] ->
 ∃ J8 : Nat -> Int -> Heap -> Prop, (∃ n0 : Nat, J8 n0 (w64 (s29 + 1)) h16) /\
 ∀ (n8 : Nat) (i11_2 : Int) (h17 : Heap), J8 n8 i11_2 h17 -> Vars h17 [] ->
 ((decide (i11_2 < (m0_1.n : Int))) = true ->
 ∃ J9 : Nat -> Int -> Heap -> Prop, (∃ n0 : Nat, J9 n0 (w64 (s29 + 1)) h17) /\
 ∀ (n9 : Nat) (j12_2 : Int) (h18 : Heap), J9 n9 j12_2 h18 -> Vars h18 [] ->
 ((decide (j12_2 < (m0_1.n : Int))) = true ->
 InB a6_1 i11_2 /\
 ∃ s87b : Sl, hcell h18 (Sl.at a6_1 i11_2 1) = some s87b.v /\
 InB a6_1 i11_2 /\
 ∃ s92b : Sl, hcell h18 (Sl.at a6_1 i11_2 1) = some s92b.v /\
 InB s92b j12_2 /\
 ∃ s95b : Int, hcell h18 (Sl.at s92b j12_2 1) = some (VI s95b) /\
 InB a6_1 s29 /\
 ∃ s99b : Sl, hcell h18 (Sl.at a6_1 s29 1) = some s99b.v /\
 InB s99b s29 /\
 ∃ s102b : Int, hcell h18 (Sl.at s99b s29 1) = some (VI s102b) /\
 InB a6_1 i11_2 /\
 ∃ s107b : Sl, hcell h18 (Sl.at a6_1 i11_2 1) = some s107b.v /\
 InB s107b s29 /\
 ∃ s110b : Int, hcell h18 (Sl.at s107b s29 1) = some (VI s110b) /\
 InB a6_1 s29 /\
 ∃ s114b : Sl, hcell h18 (Sl.at a6_1 s29 1) = some s114b.v /\
 InB s114b j12_2 /\
 ∃ s117b : Int, hcell h18 (Sl.at s114b j12_2 1) = some (VI s117b) /\
 last5_1 ≠ 0 /\
 InB s87b j12_2 /\
 Writable h18 (Sl.at s87b j12_2 1) /\ Vars (hset h18 (Sl.at s87b j12_2 1) (VI (w64 (Int.tdiv (w64 ((w64 (s95b * s102b)) - (w64 (s110b * s117b)))) last5_1)))) [] /\
 ∀ h19 : Heap, h19 = hset h18 (Sl.at s87b j12_2 1) (VI (w64 (Int.tdiv (w64 ((w64 (s95b * s102b)) - (w64 (s110b * s117b)))) last5_1))) -> Vars h19 [] ->
 ∃ m : Nat, m < n9 /\ J9 m (w64 (j12_2 + 1)) h19) /\
 ((decide (j12_2 < (m0_1.n : Int))) = false ->
 ∃ m : Nat, m < n8 /\ J8 m (w64 (i11_2 + 1)) h18)) /\
 ((decide (i11_2 < (m0_1.n : Int))) = false ->
 InB a6_1 s29 /\
 ∃ s126b : Sl, hcell h17 (Sl.at a6_1 s29 1) = some s126b.v /\
 InB s126b s29 /\
 ∃ s129b : Int, hcell h17 (Sl.at s126b s29 1) = some (VI s129b) /\
 ∃ m : Nat, m < n2 /\ J2 m y2 s129b (w64 (s29 + 1)) h17)))) /\
 ((decide (s29 < (m0_1.n : Int))) = false ->
 K (VI (w64 (sign4_1 * last5_1))) h6))
theorem v88 (m0_1 : Sl) (h : Heap) (K : Value -> Heap -> Prop) (H : u88 Try.prog m0_1 h K) : callM Try.prog 88 #[m0_1.v] h K := by
  refine c88 m0_1.v h K ?_
  unfold u88 at H
  unfold t88
  have hL : Vars h [] := .nil
  refine pop_len m0_1 _ _ sli24 ?_
  refine H.mono fun r1 h1 H => ?_
  obtain ⟨s15, rfl, hL1, H⟩ := H
  refine pop_len m0_1 _ _ sli24 ?_
  obtain ⟨J1, ⟨n14, h0_7⟩, HB9⟩ := H
  refine loop_intro (J := fun (n : Nat) (vs : List Value) (h' : Heap) => ∃ a6_1 : Sl, ∃ s18 : Int, vs = [a6_1.v, (VI s18)] /\ J1 n a6_1 s18 h' /\ Vars h' []) n14 ⟨s15, 0, rfl, h0_7, hL1⟩ ?_
  intro I7 mu7 hI7 junk1 tv11 tv12 h2 hi1
  obtain ⟨n1, ⟨a6_1, s18, hv, hJ1, hL2⟩, hn1⟩ := hI7 _ _ hi1
  cases hv
  have H := HB9 n1 a6_1 s18 h2 hJ1 hL2
  refine pop_lss .i64 s18 (m0_1.n : Int) ?_
  refine condM_b (fun hb1 => ?_) (fun hb1 => ?_)
  ·have H := H.1 hb1
   obtain ⟨hi2, H⟩ := H
   refine pop_index sli24 siz37 .i64 m0_1 s18 hi2 ?_
   obtain ⟨s21, hc1, H⟩ := H
   refine rop_one one37 s21.v hc1 ?_
   refine H.mono fun r2 h3 H => ?_
   obtain ⟨s24, rfl, hL3, H⟩ := H
   refine H.mono fun r3 h4 H => ?_
   obtain ⟨s25, rfl, hL4, H⟩ := H
   refine H.mono fun r4 h5 H => ?_
   obtain ⟨s26, rfl, hL5, H⟩ := H
   refine pop_add .i64 s18 1 ?_
   obtain ⟨m_1, hm_1, H⟩ := H
   exact hn1 _ _ ⟨m_1, hm_1, s26, (w64 (s18 + 1)), rfl, H, hL5⟩
  have H := H.2 hb1
  obtain ⟨J2, ⟨n13, h0_6⟩, HB8⟩ := H
  refine loop_intro (J := fun (n : Nat) (vs : List Value) (h' : Heap) => ∃ sign4_1 : Int, ∃ last5_1 : Int, ∃ s29 : Int, vs = [(VI sign4_1), (VI last5_1), (VI s29)] /\ J2 n sign4_1 last5_1 s29 h' /\ Vars h' []) n13 ⟨1, 1, 0, rfl, h0_6, hL2⟩ ?_
  intro I6 mu6 hI6 junk2 tv8 tv9 tv10 h6 hi3
  obtain ⟨n2, ⟨sign4_1, last5_1, s29, hv, hJ2, hL6⟩, hn2⟩ := hI6 _ _ hi3
  cases hv
  have H := HB8 n2 sign4_1 last5_1 s29 h6 hJ2 hL6
  refine pop_lss .i64 s29 (m0_1.n : Int) ?_
  refine condM_b (fun hb2 => ?_) (fun hb2 => ?_)
  rotate_left
  ·have H := H.2 hb2
   refine pop_mul .i64 sign4_1 last5_1 ?_
   exact H
  have H := H.1 hb2
  obtain ⟨J3, ⟨n12, h0_5⟩, HB7⟩ := H
  refine loop_intro (J := fun (n : Nat) (vs : List Value) (h' : Heap) => ∃ pivot10_1 : Int, vs = [(VI pivot10_1)] /\ J3 n pivot10_1 h' /\ Vars h' []) n12 ⟨s29, rfl, h0_5, hL6⟩ ?_
  intro I5 mu5 hI5 junk3 tv7 h7 hi4
  obtain ⟨n3, ⟨pivot10_1, hv, hJ3, hL7⟩, hn3⟩ := hI5 _ _ hi4
  cases hv
  have H := HB7 n3 pivot10_1 h7 hJ3 hL7
  refine pop_lss .i64 pivot10_1 (m0_1.n : Int) ?_
  refine guardM_st (fun hb3 => ?_) (fun hb3 => ?_)
  rotate_left
  ·have H := H.2 hb3
   refine gm hb3 ?_
   refine gm hb3 ?_
   refine gm hb3 ?_
   refine gm hb3 ?_
   refine gm hb3 ?_
   refine gm hb3 ?_
   refine gm hb3 ?_
   refine pop_pickf' hb3 ?_
   refine condM_f ?_
   refine pop_ieq .i64 _ _ pivot10_1 (m0_1.n : Int) ?_
   refine condM_b (fun hb9 => ?_) (fun hb9 => ?_)
   ·exact H.1 hb9
   have H := H.2 hb9
   obtain ⟨J7, H, HB6⟩ := H
   refine ⟨fun (vs : List Value) (h' : Heap) => ∃ y2 : Int, vs = [(VI y2)] /\ J7 y2 h' /\ Vars h' [], ?_, ?_⟩
   ·refine pop_ine .i64 _ _ pivot10_1 s29 ?_
    refine condM_b (fun hb10 => ?_) (fun hb10 => ?_)
    rotate_left
    ·have H := H.2 hb10
     exact ⟨sign4_1, rfl, H, hL7⟩
    have H := H.1 hb10
    obtain ⟨hi25, H⟩ := H
    refine pop_index sli24 siz37 .i64 a6_1 s29 hi25 ?_
    obtain ⟨s61b, hc18, H⟩ := H
    refine rop_one one37 s61b.v hc18 ?_
    obtain ⟨hi26, H⟩ := H
    refine pop_index sli24 siz37 .i64 a6_1 pivot10_1 hi26 ?_
    obtain ⟨s65b, hc17, H⟩ := H
    refine rop_one one37 s65b.v hc17 ?_
    obtain ⟨hi27, H⟩ := H
    refine pop_index sli24 siz37 .i64 a6_1 pivot10_1 hi27 ?_
    obtain ⟨hw_4, hL14, H⟩ := H
    refine uop_cell (v := s61b.v) siz37 hw_4 rfl (fun h14 he_4 => ?_)
    rw [← he_4] at hL14
    have H := H h14 he_4 hL14
    obtain ⟨hi28, H⟩ := H
    refine pop_index sli24 siz37 .i64 a6_1 s29 hi28 ?_
    obtain ⟨hw_5, hL15, H⟩ := H
    refine uop_cell (v := s65b.v) siz37 hw_5 rfl (fun h15 he_5 => ?_)
    rw [← he_5] at hL15
    have H := H h15 he_5 hL15
    refine pop_neg .i64 sign4_1 ?_
    exact ⟨(w64 (0 - sign4_1)), rfl, H, hL15⟩
   intro junk7 tv4 h16
   rintro ⟨y2, hv, hJ7, hL16⟩
   cases hv
   have H := HB6 y2 h16 hJ7 hL16
   refine pop_add .i64 s29 1 ?_
   obtain ⟨J8, ⟨n11, h0_4⟩, HB5⟩ := H
   refine loop_intro (J := fun (n : Nat) (vs : List Value) (h' : Heap) => ∃ i11_2 : Int, vs = [(VI i11_2)] /\ J8 n i11_2 h' /\ Vars h' []) n11 ⟨(w64 (s29 + 1)), rfl, h0_4, hL16⟩ ?_
   intro I4 mu4 hI4 junk8 tv6 h17 hi29
   obtain ⟨n8, ⟨i11_2, hv, hJ8, hL17⟩, hn6⟩ := hI4 _ _ hi29
   cases hv
   have H := HB5 n8 i11_2 h17 hJ8 hL17
   refine pop_lss .i64 i11_2 (m0_1.n : Int) ?_
   refine condM_b (fun hb11 => ?_) (fun hb11 => ?_)
   rotate_left
   ·have H := H.2 hb11
    obtain ⟨hi41, H⟩ := H
    refine pop_index sli24 siz37 .i64 a6_1 s29 hi41 ?_
    obtain ⟨s126b, hc29, H⟩ := H
    refine rop_one one37 s126b.v hc29 ?_
    obtain ⟨hi42, H⟩ := H
    refine pop_index sli37 siz3 .i64 s126b s29 hi42 ?_
    obtain ⟨s129b, hc28, H⟩ := H
    refine rop_one one3 (VI s129b) hc28 ?_
    refine pop_add .i64 s29 1 ?_
    obtain ⟨m_8, hm_8, H⟩ := H
    exact hn2 _ _ ⟨m_8, hm_8, y2, s129b, (w64 (s29 + 1)), rfl, H, hL17⟩
   have H := H.1 hb11
   refine pop_add .i64 s29 1 ?_
   obtain ⟨J9, ⟨n10, h0_3⟩, HB4⟩ := H
   refine loop_intro (J := fun (n : Nat) (vs : List Value) (h' : Heap) => ∃ j12_2 : Int, vs = [(VI j12_2)] /\ J9 n j12_2 h' /\ Vars h' []) n10 ⟨(w64 (s29 + 1)), rfl, h0_3, hL17⟩ ?_
   intro I3 mu3 hI3 junk9 tv5 h18 hi30
   obtain ⟨n9, ⟨j12_2, hv, hJ9, hL18⟩, hn7⟩ := hI3 _ _ hi30
   cases hv
   have H := HB4 n9 j12_2 h18 hJ9 hL18
   refine pop_lss .i64 j12_2 (m0_1.n : Int) ?_
   refine condM_b (fun hb12 => ?_) (fun hb12 => ?_)
   rotate_left
   ·have H := H.2 hb12
    refine pop_add .i64 i11_2 1 ?_
    obtain ⟨m_7, hm_7, H⟩ := H
    exact hn6 _ _ ⟨m_7, hm_7, (w64 (i11_2 + 1)), rfl, H, hL18⟩
   have H := H.1 hb12
   obtain ⟨hi31, H⟩ := H
   refine pop_index sli24 siz37 .i64 a6_1 i11_2 hi31 ?_
   obtain ⟨s87b, hc27, H⟩ := H
   refine rop_one one37 s87b.v hc27 ?_
   obtain ⟨hi32, H⟩ := H
   refine pop_index sli24 siz37 .i64 a6_1 i11_2 hi32 ?_
   obtain ⟨s92b, hc26, H⟩ := H
   refine rop_one one37 s92b.v hc26 ?_
   obtain ⟨hi33, H⟩ := H
   refine pop_index sli37 siz3 .i64 s92b j12_2 hi33 ?_
   obtain ⟨s95b, hc25, H⟩ := H
   refine rop_one one3 (VI s95b) hc25 ?_
   obtain ⟨hi34, H⟩ := H
   refine pop_index sli24 siz37 .i64 a6_1 s29 hi34 ?_
   obtain ⟨s99b, hc24, H⟩ := H
   refine rop_one one37 s99b.v hc24 ?_
   obtain ⟨hi35, H⟩ := H
   refine pop_index sli37 siz3 .i64 s99b s29 hi35 ?_
   obtain ⟨s102b, hc23, H⟩ := H
   refine rop_one one3 (VI s102b) hc23 ?_
   refine pop_mul .i64 s95b s102b ?_
   obtain ⟨hi36, H⟩ := H
   refine pop_index sli24 siz37 .i64 a6_1 i11_2 hi36 ?_
   obtain ⟨s107b, hc22, H⟩ := H
   refine rop_one one37 s107b.v hc22 ?_
   obtain ⟨hi37, H⟩ := H
   refine pop_index sli37 siz3 .i64 s107b s29 hi37 ?_
   obtain ⟨s110b, hc21, H⟩ := H
   refine rop_one one3 (VI s110b) hc21 ?_
   obtain ⟨hi38, H⟩ := H
   refine pop_index sli24 siz37 .i64 a6_1 s29 hi38 ?_
   obtain ⟨s114b, hc20, H⟩ := H
   refine rop_one one37 s114b.v hc20 ?_
   obtain ⟨hi39, H⟩ := H
   refine pop_index sli37 siz3 .i64 s114b j12_2 hi39 ?_
   obtain ⟨s117b, hc19, H⟩ := H
   refine rop_one one3 (VI s117b) hc19 ?_
   refine pop_mul .i64 s110b s117b ?_
   refine pop_sub .i64 (w64 (s95b * s102b)) (w64 (s110b * s117b)) ?_
   obtain ⟨hz_2, H⟩ := H
   refine pop_quo .i64 (w64 ((w64 (s95b * s102b)) - (w64 (s110b * s117b)))) last5_1 hz_2 ?_
   obtain ⟨hi40, H⟩ := H
   refine pop_index sli37 siz3 .i64 s87b j12_2 hi40 ?_
   obtain ⟨hw_6, hL19, H⟩ := H
   refine uop_cell (v := (VI (w64 (Int.tdiv (w64 ((w64 (s95b * s102b)) - (w64 (s110b * s117b)))) last5_1)))) siz3 hw_6 rfl (fun h19 he_6 => ?_)
   rw [← he_6] at hL19
   have H := H h19 he_6 hL19
   refine pop_add .i64 j12_2 1 ?_
   obtain ⟨m_6, hm_6, H⟩ := H
   exact hn7 _ _ ⟨m_6, hm_6, (w64 (j12_2 + 1)), rfl, H, hL19⟩
  have H := H.1 hb3
  refine gy hb3 ?_
  refine gy hb3 ?_
  obtain ⟨hi5, H⟩ := H
  refine pop_index sli24 siz37 .i64 a6_1 pivot10_1 hi5 ?_
  refine gy hb3 ?_
  obtain ⟨s40, hc16, H⟩ := H
  refine rop_one one37 s40.v hc16 ?_
  refine gy hb3 ?_
  refine gy hb3 ?_
  obtain ⟨hi6, H⟩ := H
  refine pop_index sli37 siz3 .i64 s40 s29 hi6 ?_
  refine gy hb3 ?_
  obtain ⟨s43, hc15, H⟩ := H
  refine rop_one one3 (VI s43) hc15 ?_
  refine gy hb3 ?_
  refine pop_ieq .i64 _ _ s43 0 ?_
  refine pop_pickt' hb3 ?_
  refine condM_b (fun hb4 => ?_) (fun hb4 => ?_)
  ·have H := H.1 hb4
   refine pop_add .i64 pivot10_1 1 ?_
   obtain ⟨m_2, hm_2, H⟩ := H
   exact hn3 _ _ ⟨m_2, hm_2, (w64 (pivot10_1 + 1)), rfl, H, hL7⟩
  have H := H.2 hb4
  refine pop_ieq .i64 _ _ pivot10_1 (m0_1.n : Int) ?_
  refine condM_b (fun hb5 => ?_) (fun hb5 => ?_)
  ·exact H.1 hb5
  have H := H.2 hb5
  obtain ⟨J4, H, HB3⟩ := H
  refine ⟨fun (vs : List Value) (h' : Heap) => ∃ y1 : Int, vs = [(VI y1)] /\ J4 y1 h' /\ Vars h' [], ?_, ?_⟩
  ·refine pop_ine .i64 _ _ pivot10_1 s29 ?_
   refine condM_b (fun hb6 => ?_) (fun hb6 => ?_)
   rotate_left
   ·have H := H.2 hb6
    exact ⟨sign4_1, rfl, H, hL7⟩
   have H := H.1 hb6
   obtain ⟨hi7, H⟩ := H
   refine pop_index sli24 siz37 .i64 a6_1 s29 hi7 ?_
   obtain ⟨s61, hc3, H⟩ := H
   refine rop_one one37 s61.v hc3 ?_
   obtain ⟨hi8, H⟩ := H
   refine pop_index sli24 siz37 .i64 a6_1 pivot10_1 hi8 ?_
   obtain ⟨s65, hc2, H⟩ := H
   refine rop_one one37 s65.v hc2 ?_
   obtain ⟨hi9, H⟩ := H
   refine pop_index sli24 siz37 .i64 a6_1 pivot10_1 hi9 ?_
   obtain ⟨hw_1, hL8, H⟩ := H
   refine uop_cell (v := s61.v) siz37 hw_1 rfl (fun h8 he_1 => ?_)
   rw [← he_1] at hL8
   have H := H h8 he_1 hL8
   obtain ⟨hi10, H⟩ := H
   refine pop_index sli24 siz37 .i64 a6_1 s29 hi10 ?_
   obtain ⟨hw_2, hL9, H⟩ := H
   refine uop_cell (v := s65.v) siz37 hw_2 rfl (fun h9 he_2 => ?_)
   rw [← he_2] at hL9
   have H := H h9 he_2 hL9
   refine pop_neg .i64 sign4_1 ?_
   exact ⟨(w64 (0 - sign4_1)), rfl, H, hL9⟩
  intro junk4 tv1 h10
  rintro ⟨y1, hv, hJ4, hL10⟩
  cases hv
  have H := HB3 y1 h10 hJ4 hL10
  refine pop_add .i64 s29 1 ?_
  obtain ⟨J5, ⟨n7, h0_2⟩, HB2⟩ := H
  refine loop_intro (J := fun (n : Nat) (vs : List Value) (h' : Heap) => ∃ i11_1 : Int, vs = [(VI i11_1)] /\ J5 n i11_1 h' /\ Vars h' []) n7 ⟨(w64 (s29 + 1)), rfl, h0_2, hL10⟩ ?_
  intro I2 mu2 hI2 junk5 tv3 h11 hi11
  obtain ⟨n4, ⟨i11_1, hv, hJ5, hL11⟩, hn4⟩ := hI2 _ _ hi11
  cases hv
  have H := HB2 n4 i11_1 h11 hJ5 hL11
  refine pop_lss .i64 i11_1 (m0_1.n : Int) ?_
  refine condM_b (fun hb7 => ?_) (fun hb7 => ?_)
  rotate_left
  ·have H := H.2 hb7
   obtain ⟨hi23, H⟩ := H
   refine pop_index sli24 siz37 .i64 a6_1 s29 hi23 ?_
   obtain ⟨s126, hc14, H⟩ := H
   refine rop_one one37 s126.v hc14 ?_
   obtain ⟨hi24, H⟩ := H
   refine pop_index sli37 siz3 .i64 s126 s29 hi24 ?_
   obtain ⟨s129, hc13, H⟩ := H
   refine rop_one one3 (VI s129) hc13 ?_
   refine pop_add .i64 s29 1 ?_
   obtain ⟨m_5, hm_5, H⟩ := H
   exact hn2 _ _ ⟨m_5, hm_5, y1, s129, (w64 (s29 + 1)), rfl, H, hL11⟩
  have H := H.1 hb7
  refine pop_add .i64 s29 1 ?_
  obtain ⟨J6, ⟨n6, h0_1⟩, HB1⟩ := H
  refine loop_intro (J := fun (n : Nat) (vs : List Value) (h' : Heap) => ∃ j12_1 : Int, vs = [(VI j12_1)] /\ J6 n j12_1 h' /\ Vars h' []) n6 ⟨(w64 (s29 + 1)), rfl, h0_1, hL11⟩ ?_
  intro I1 mu1 hI1 junk6 tv2 h12 hi12
  obtain ⟨n5, ⟨j12_1, hv, hJ6, hL12⟩, hn5⟩ := hI1 _ _ hi12
  cases hv
  have H := HB1 n5 j12_1 h12 hJ6 hL12
  refine pop_lss .i64 j12_1 (m0_1.n : Int) ?_
  refine condM_b (fun hb8 => ?_) (fun hb8 => ?_)
  rotate_left
  ·have H := H.2 hb8
   refine pop_add .i64 i11_1 1 ?_
   obtain ⟨m_4, hm_4, H⟩ := H
   exact hn4 _ _ ⟨m_4, hm_4, (w64 (i11_1 + 1)), rfl, H, hL12⟩
  have H := H.1 hb8
  obtain ⟨hi13, H⟩ := H
  refine pop_index sli24 siz37 .i64 a6_1 i11_1 hi13 ?_
  obtain ⟨s87, hc12, H⟩ := H
  refine rop_one one37 s87.v hc12 ?_
  obtain ⟨hi14, H⟩ := H
  refine pop_index sli24 siz37 .i64 a6_1 i11_1 hi14 ?_
  obtain ⟨s92, hc11, H⟩ := H
  refine rop_one one37 s92.v hc11 ?_
  obtain ⟨hi15, H⟩ := H
  refine pop_index sli37 siz3 .i64 s92 j12_1 hi15 ?_
  obtain ⟨s95, hc10, H⟩ := H
  refine rop_one one3 (VI s95) hc10 ?_
  obtain ⟨hi16, H⟩ := H
  refine pop_index sli24 siz37 .i64 a6_1 s29 hi16 ?_
  obtain ⟨s99, hc9, H⟩ := H
  refine rop_one one37 s99.v hc9 ?_
  obtain ⟨hi17, H⟩ := H
  refine pop_index sli37 siz3 .i64 s99 s29 hi17 ?_
  obtain ⟨s102, hc8, H⟩ := H
  refine rop_one one3 (VI s102) hc8 ?_
  refine pop_mul .i64 s95 s102 ?_
  obtain ⟨hi18, H⟩ := H
  refine pop_index sli24 siz37 .i64 a6_1 i11_1 hi18 ?_
  obtain ⟨s107, hc7, H⟩ := H
  refine rop_one one37 s107.v hc7 ?_
  obtain ⟨hi19, H⟩ := H
  refine pop_index sli37 siz3 .i64 s107 s29 hi19 ?_
  obtain ⟨s110, hc6, H⟩ := H
  refine rop_one one3 (VI s110) hc6 ?_
  obtain ⟨hi20, H⟩ := H
  refine pop_index sli24 siz37 .i64 a6_1 s29 hi20 ?_
  obtain ⟨s114, hc5, H⟩ := H
  refine rop_one one37 s114.v hc5 ?_
  obtain ⟨hi21, H⟩ := H
  refine pop_index sli37 siz3 .i64 s114 j12_1 hi21 ?_
  obtain ⟨s117, hc4, H⟩ := H
  refine rop_one one3 (VI s117) hc4 ?_
  refine pop_mul .i64 s110 s117 ?_
  refine pop_sub .i64 (w64 (s95 * s102)) (w64 (s110 * s117)) ?_
  obtain ⟨hz_1, H⟩ := H
  refine pop_quo .i64 (w64 ((w64 (s95 * s102)) - (w64 (s110 * s117)))) last5_1 hz_1 ?_
  obtain ⟨hi22, H⟩ := H
  refine pop_index sli37 siz3 .i64 s87 j12_1 hi22 ?_
  obtain ⟨hw_3, hL13, H⟩ := H
  refine uop_cell (v := (VI (w64 (Int.tdiv (w64 ((w64 (s95 * s102)) - (w64 (s110 * s117)))) last5_1)))) siz3 hw_3 rfl (fun h13 he_3 => ?_)
  rw [← he_3] at hL13
  have H := H h13 he_3 hL13
  refine pop_add .i64 j12_1 1 ?_
  obtain ⟨m_3, hm_3, H⟩ := H
  exact hn5 _ _ ⟨m_3, hm_3, (w64 (j12_1 + 1)), rfl, H, hL13⟩
def u91 (P : Program) (m0_1 : Sl) (h : Heap) (K : Value -> Heap -> Prop) : Prop :=
 ((decide ((m0_1.n : Int) = 0)) = true ->
 K (VI 1) h) /\
 ((decide ((m0_1.n : Int) = 0)) = false ->
 InB m0_1 0 /\
 ∃ s15 : Sl, hcell h (Sl.at m0_1 0 1) = some s15.v /\
 ∃ J1 : Nat -> Int -> Int -> Int -> Heap -> Prop, (∃ n0 : Nat, J1 n0 0 1 0 h) /\
 ∀ (n1 : Nat) (sum3_1 : Int) (sign4_1 : Int) (s17 : Int) (h1 : Heap), J1 n1 sum3_1 sign4_1 s17 h1 -> Vars h1 [] ->
 ((decide (s17 < (s15.n : Int))) = true ->
 InB s15 s17 /\
 ∃ s21 : Int, hcell h1 (Sl.at s15 s17 1) = some (VI s21) /\
 ∃ J2 : Int -> Heap -> Prop, (((!decide (s21 = 0)) = true ->
 pop P (Instr.sliceAt 24 m0_1.v (some (.int .i64 1)) none none) fun r1 => ∃ s25 : Sl, r1 = s25.v /\ 
 ∃ J3 : Nat -> Sl -> Int -> Heap -> Prop, (∃ n0 : Nat, J3 n0 nilSl 0 h1) /\
 ∀ (n2 : Nat) (rest7_1 : Sl) (s27 : Int) (h2 : Heap), J3 n2 rest7_1 s27 h2 -> Vars h2 [] ->
 ((decide (s27 < (s25.n : Int))) = true ->
 InB s25 s27 /\
 ∃ s30 : Sl, hcell h2 (Sl.at s25 s27 1) = some s30.v /\
 pop P (Instr.sliceAt 37 s30.v none (some (VI s17)) none) fun r2 => ∃ s34 : Sl, r2 = s34.v /\ 
 pop P (Instr.sliceAt 37 s30.v (some (VI (w64 (s17 + 1)))) none none) fun r3 => ∃ s39 : Sl, r3 = s39.v /\ 
 callM P 121 #[s34.v] h2 fun r4 h3 => ∃ s35 : Sl, r4 = s35.v /\ Vars h3 [] /\
 eop P (appS 37 37 37 s35.v s39.v) h3 fun r5 h4 => ∃ s40 : Sl, r5 = s40.v /\ Vars h4 [] /\
 eop P (Instr.buildSlice 24 1 #[(0, s40.v)]) h4 fun r6 h5 => ∃ s41 : Sl, r6 = s41.v /\ Vars h5 [] /\
 eop P (appS 24 24 24 rest7_1.v s41.v) h5 fun r7 h6 => ∃ s42 : Sl, r7 = s42.v /\ Vars h6 [] /\
 ∃ m : Nat, m < n2 /\ J3 m s42 (w64 (s27 + 1)) h6) /\
 ((decide (s27 < (s25.n : Int))) = false ->
 callM P 91 #[rest7_1.v] h2 fun r8 h7 => ∃ s49 : Int, r8 = (VI s49) /\ Vars h7 [] /\
 J2 (w64 (sum3_1 + (w64 ((w64 (sign4_1 * s21)) * s49)))) h7)) /\
 ((!decide (s21 = 0)) = false ->
 J2 sum3_1 h1)) /\
 ∀ (y1 : Int) (h8 : Heap), J2 y1 h8 -> Vars h8 [] ->
 ∃ m : Nat, m < n1 /\ J1 m y1 (w64 (0 - sign4_1)) (w64 (s17 + 1)) h8) /\
 ((decide (s17 < (s15.n : Int))) = false ->
 K (VI sum3_1) h1))
theorem v91 (m0_1 : Sl) (h : Heap) (K : Value -> Heap -> Prop) (H : u91 Try.prog m0_1 h K) : callM Try.prog 91 #[m0_1.v] h K := by
  refine c91 m0_1.v h K ?_
  unfold u91 at H
  unfold t91
  have hL : Vars h [] := .nil
  refine pop_len m0_1 _ _ sli24 ?_
  refine pop_ieq .i64 _ _ (m0_1.n : Int) 0 ?_
  refine condM_b (fun hb1 => ?_) (fun hb1 => ?_)
  ·exact H.1 hb1
  have H := H.2 hb1
  obtain ⟨hi1, H⟩ := H
  refine pop_index sli24 siz37 .i64 m0_1 0 hi1 ?_
  obtain ⟨s15, hc3, H⟩ := H
  refine rop_one one37 s15.v hc3 ?_
  refine pop_len s15 _ _ sli37 ?_
  obtain ⟨J1, ⟨n4, h0_2⟩, HB3⟩ := H
  refine loop_intro (J := fun (n : Nat) (vs : List Value) (h' : Heap) => ∃ sum3_1 : Int, ∃ sign4_1 : Int, ∃ s17 : Int, vs = [(VI sum3_1), (VI sign4_1), (VI s17)] /\ J1 n sum3_1 sign4_1 s17 h' /\ Vars h' []) n4 ⟨0, 1, 0, rfl, h0_2, hL⟩ ?_
  intro I2 mu2 hI2 junk1 tv4 tv5 tv6 h1 hi2
  obtain ⟨n1, ⟨sum3_1, sign4_1, s17, hv, hJ1, hL1⟩, hn1⟩ := hI2 _ _ hi2
  cases hv
  have H := HB3 n1 sum3_1 sign4_1 s17 h1 hJ1 hL1
  refine pop_lss .i64 s17 (s15.n : Int) ?_
  refine condM_b (fun hb2 => ?_) (fun hb2 => ?_)
  rotate_left
  ·exact H.2 hb2
  have H := H.1 hb2
  obtain ⟨hi3, H⟩ := H
  refine pop_index sli37 siz3 .i64 s15 s17 hi3 ?_
  obtain ⟨s21, hc2, H⟩ := H
  refine rop_one one3 (VI s21) hc2 ?_
  obtain ⟨J2, H, HB2⟩ := H
  refine ⟨fun (vs : List Value) (h' : Heap) => ∃ y1 : Int, vs = [(VI y1)] /\ J2 y1 h' /\ Vars h' [], ?_, ?_⟩
  ·refine pop_ine .i64 _ _ s21 0 ?_
   refine condM_b (fun hb3 => ?_) (fun hb3 => ?_)
   rotate_left
   ·have H := H.2 hb3
    exact ⟨sum3_1, rfl, H, hL1⟩
   have H := H.1 hb3
   refine H.mono fun r1 H => ?_
   obtain ⟨s25, rfl, H⟩ := H
   refine pop_len s25 _ _ sli24 ?_
   obtain ⟨J3, ⟨n3, h0_1⟩, HB1⟩ := H
   refine loop_intro (J := fun (n : Nat) (vs : List Value) (h' : Heap) => ∃ rest7_1 : Sl, ∃ s27 : Int, vs = [rest7_1.v, (VI s27)] /\ J3 n rest7_1 s27 h' /\ Vars h' []) n3 ⟨nilSl, 0, rfl, h0_1, hL1⟩ ?_
   intro I1 mu1 hI1 junk2 tv1 tv2 h2 hi4
   obtain ⟨n2, ⟨rest7_1, s27, hv, hJ2, hL2⟩, hn2⟩ := hI1 _ _ hi4
   cases hv
   have H := HB1 n2 rest7_1 s27 h2 hJ2 hL2
   refine pop_lss .i64 s27 (s25.n : Int) ?_
   refine condM_b (fun hb4 => ?_) (fun hb4 => ?_)
   rotate_left
   ·have H := H.2 hb4
    refine pop_mul .i64 sign4_1 s21 ?_
    refine H.mono fun r8 h7 H => ?_
    obtain ⟨s49, rfl, hL7, H⟩ := H
    refine pop_mul .i64 (w64 (sign4_1 * s21)) s49 ?_
    refine pop_add .i64 sum3_1 (w64 ((w64 (sign4_1 * s21)) * s49)) ?_
    exact ⟨(w64 (sum3_1 + (w64 ((w64 (sign4_1 * s21)) * s49)))), rfl, H, hL7⟩
   have H := H.1 hb4
   obtain ⟨hi5, H⟩ := H
   refine pop_index sli24 siz37 .i64 s25 s27 hi5 ?_
   obtain ⟨s30, hc1, H⟩ := H
   refine rop_one one37 s30.v hc1 ?_
   refine H.mono fun r2 H => ?_
   obtain ⟨s34, rfl, H⟩ := H
   refine pop_add .i64 s17 1 ?_
   refine H.mono fun r3 H => ?_
   obtain ⟨s39, rfl, H⟩ := H
   refine H.mono fun r4 h3 H => ?_
   obtain ⟨s35, rfl, hL3, H⟩ := H
   refine H.mono fun r5 h4 H => ?_
   obtain ⟨s40, rfl, hL4, H⟩ := H
   refine H.mono fun r6 h5 H => ?_
   obtain ⟨s41, rfl, hL5, H⟩ := H
   refine H.mono fun r7 h6 H => ?_
   obtain ⟨s42, rfl, hL6, H⟩ := H
   refine pop_add .i64 s27 1 ?_
   obtain ⟨m_1, hm_1, H⟩ := H
   exact hn2 _ _ ⟨m_1, hm_1, s42, (w64 (s27 + 1)), rfl, H, hL6⟩
  intro junk3 tv3 h8
  rintro ⟨y1, hv, hJ3, hL8⟩
  cases hv
  have H := HB2 y1 h8 hJ3 hL8
  refine pop_neg .i64 sign4_1 ?_
  refine pop_add .i64 s17 1 ?_
  obtain ⟨m_2, hm_2, H⟩ := H
  exact hn1 _ _ ⟨m_2, hm_2, y1, (w64 (0 - sign4_1)), (w64 (s17 + 1)), rfl, H, hL8⟩
def u96 (P : Program) (s0_1 : Sl) (f1_1 : Value) (h : Heap) (K : Value -> Heap -> Prop) : Prop :=
 callM P 132 #[s0_1.v, f1_1] h fun r1 h1 => ∃ s7 : Int, r1 = (VI s7) /\ Vars h1 [] /\
 K (VB (decide (0 ≤ s7))) h1
theorem v96 (s0_1 : Sl) (f1_1 : Value) (h : Heap) (K : Value -> Heap -> Prop) (H : u96 Try.prog s0_1 f1_1 h K) : callM Try.prog 96 #[s0_1.v, f1_1] h K := by
  refine c96 s0_1.v f1_1 h K ?_
  unfold u96 at H
  unfold t96
  have hL : Vars h [] := .nil
  refine H.mono fun r1 h1 H => ?_
  obtain ⟨s7, rfl, hL1, H⟩ := H
  refine pop_geq .i64 s7 0 ?_
  exact H
def u106 (P : Program) (b1 : Nat) (c0_1 : Sl) (c0_2 : Int) (c0_3 : Int) (n1_1 : Int) (h : Heap) (K : Value -> Heap -> Prop) : Prop :=
 callM P 70 #[(VP b1 0), (VI n1_1)] h fun r1 h1 => ∃ y1 : Sl, ∃ y2 : Int, ∃ y3 : Int, ∃ s7 : Int, r1 = (VI s7) /\ Vars h1 [(b1, [y1.v, (VI y2), (Value.int .u64 y3)])] /\
 K (VB (decide (s7 = 0))) h1
theorem v106 (b1 : Nat) (c0_1 : Sl) (c0_2 : Int) (c0_3 : Int) (n1_1 : Int) (h : Heap) (K : Value -> Heap -> Prop) (hL : Vars h [(b1, [c0_1.v, (VI c0_2), (Value.int .u64 c0_3)])]) (H : u106 Try.prog b1 c0_1 c0_2 c0_3 n1_1 h K) : callM Try.prog 106 #[(VP b1 0), (VI n1_1)] h K := by
  refine c106 (VP b1 0) (VI n1_1) h K ?_
  unfold u106 at H
  unfold t106
  refine H.mono fun r1 h1 H => ?_
  obtain ⟨y1, y2, y3, s7, rfl, hL1, H⟩ := H
  refine pop_ieq .i64 _ _ s7 0 ?_
  exact H
def u107 (P : Program) (b1 : Nat) (c0_1 : Sl) (c0_2 : Int) (c0_3 : Int) (list1_1 : Sl) (h : Heap) (K : Value -> Heap -> Prop) : Prop :=
 callM P 70 #[(VP b1 0), (VI (list1_1.n : Int))] h fun r1 h1 => ∃ y1 : Sl, ∃ y2 : Int, ∃ y3 : Int, ∃ s9 : Int, r1 = (VI s9) /\ Vars h1 [(b1, [y1.v, (VI y2), (Value.int .u64 y3)])] /\
 InB list1_1 s9 /\
 ∃ s11 : Int, hcell h1 (Sl.at list1_1 s9 1) = some (VI s11) /\
 K (VI s11) h1
theorem v107 (b1 : Nat) (c0_1 : Sl) (c0_2 : Int) (c0_3 : Int) (list1_1 : Sl) (h : Heap) (K : Value -> Heap -> Prop) (hL : Vars h [(b1, [c0_1.v, (VI c0_2), (Value.int .u64 c0_3)])]) (H : u107 Try.prog b1 c0_1 c0_2 c0_3 list1_1 h K) : callM Try.prog 107 #[(VP b1 0), list1_1.v] h K := by
  refine c107 (VP b1 0) list1_1.v h K ?_
  unfold u107 at H
  unfold t107
  refine pop_len list1_1 _ _ sli37 ?_
  refine H.mono fun r1 h1 H => ?_
  obtain ⟨y1, y2, y3, s9, rfl, hL1, H⟩ := H
  obtain ⟨hi1, H⟩ := H
  refine pop_index sli37 siz3 .i64 list1_1 s9 hi1 ?_
  obtain ⟨s11, hc1, H⟩ := H
  refine rop_one one3 (VI s11) hc1 ?_
  exact H
def u108 (P : Program) (l0_1 : Sl) (lo1_1 : Int) (hi2_1 : Int) (h : Heap) (K : Value -> Heap -> Prop) : Prop :=
 ∃ J1 : Nat -> Int -> Heap -> Prop, (∃ n0 : Nat, J1 n0 0 h) /\
 ∀ (n1 : Nat) (s11 : Int) (h1 : Heap), J1 n1 s11 h1 -> Vars h1 [] ->
 ((decide (s11 < (l0_1.n : Int))) = true ->
 InB l0_1 s11 /\
 ∃ s14 : Int, hcell h1 (Sl.at l0_1 s11 1) = some (VI s14) /\
 callM P 73 #[(VI s14), (VI lo1_1), (VI hi2_1)] h1 fun r1 h2 => ∃ s18 : Bool, r1 = (VB s18) /\ Vars h2 [] /\
 ((!s18) = true ->
 K (VB false) h2) /\
 ((!s18) = false ->
 ∃ m : Nat, m < n1 /\ J1 m (w64 (s11 + 1)) h2)) /\
 ((decide (s11 < (l0_1.n : Int))) = false ->
 K (VB true) h1)
theorem v108 (l0_1 : Sl) (lo1_1 : Int) (hi2_1 : Int) (h : Heap) (K : Value -> Heap -> Prop) (H : u108 Try.prog l0_1 lo1_1 hi2_1 h K) : callM Try.prog 108 #[l0_1.v, (VI lo1_1), (VI hi2_1)] h K := by
  refine c108 l0_1.v (VI lo1_1) (VI hi2_1) h K ?_
  unfold u108 at H
  unfold t108
  have hL : Vars h [] := .nil
  refine pop_len l0_1 _ _ sli37 ?_
  obtain ⟨J1, ⟨n2, h0_1⟩, HB1⟩ := H
  refine loop_intro (J := fun (n : Nat) (vs : List Value) (h' : Heap) => ∃ s11 : Int, vs = [(VI s11)] /\ J1 n s11 h' /\ Vars h' []) n2 ⟨0, rfl, h0_1, hL⟩ ?_
  intro I1 mu1 hI1 junk1 tv1 h1 hi1
  obtain ⟨n1, ⟨s11, hv, hJ1, hL1⟩, hn1⟩ := hI1 _ _ hi1
  cases hv
  have H := HB1 n1 s11 h1 hJ1 hL1
  refine pop_lss .i64 s11 (l0_1.n : Int) ?_
  refine condM_b (fun hb1 => ?_) (fun hb1 => ?_)
  rotate_left
  ·exact H.2 hb1
  have H := H.1 hb1
  obtain ⟨hi2, H⟩ := H
  refine pop_index sli37 siz3 .i64 l0_1 s11 hi2 ?_
  obtain ⟨s14, hc1, H⟩ := H
  refine rop_one one3 (VI s14) hc1 ?_
  refine H.mono fun r1 h2 H => ?_
  obtain ⟨s18, rfl, hL2, H⟩ := H
  refine pop_not s18 ?_
  refine condM_b (fun hb2 => ?_) (fun hb2 => ?_)
  ·exact H.1 hb2
  have H := H.2 hb2
  refine pop_add .i64 s11 1 ?_
  obtain ⟨m_1, hm_1, H⟩ := H
  exact hn1 _ _ ⟨m_1, hm_1, (w64 (s11 + 1)), rfl, H, hL2⟩
def u109 (P : Program) (b1 : Nat) (c0_1 : Sl) (c0_2 : Int) (c0_3 : Int) (h : Heap) (K : Value -> Heap -> Prop) : Prop :=
 ∀ (b2 : Nat) (h1 : Heap), h.size ≤ b2 -> Fr (In []) h h1 -> Vars h1 [(b2, [nilSl.v]), (b1, [c0_1.v, (VI c0_2), (Value.int .u64 c0_3)])] ->
 callM P 106 #[(VP b1 0), (VI 6)] h1 fun r1 h2 => ∃ y1 : Sl, ∃ y2 : Int, ∃ y3 : Int, ∃ s10 : Bool, r1 = (VB s10) /\ Vars h2 [(b2, [nilSl.v]), (b1, [y1.v, (VI y2), (Value.int .u64 y3)])] /\
 (s10 = true ->
 callM P 68 #[(VP b1 0)] h2 fun r2 h3 => ∃ y4 : Sl, ∃ y5 : Int, ∃ y6 : Int, ∃ s12 : Sl, r2 = (.agg #[s12.v]) /\ Vars h3 [(b2, [nilSl.v]), (b1, [y4.v, (VI y5), (Value.int .u64 y6)])] /\
 ∀ (h4 : Heap), Fr (In [b2]) h3 h4 -> Vars h4 [(b2, [s12.v]), (b1, [y4.v, (VI y5), (Value.int .u64 y6)])] ->
 K (.agg #[s12.v]) h4) /\
 (s10 = false ->
 callM P 70 #[(VP b1 0), (VI 5)] h2 fun r3 h5 => ∃ y7 : Sl, ∃ y8 : Int, ∃ y9 : Int, ∃ s14 : Int, r3 = (VI s14) /\ Vars h5 [(b2, [nilSl.v]), (b1, [y7.v, (VI y8), (Value.int .u64 y9)])] /\
 callM P 106 #[(VP b1 0), (VI 2)] h5 fun r4 h6 => ∃ y10 : Sl, ∃ y11 : Int, ∃ y12 : Int, ∃ s18 : Bool, r4 = (VB s18) /\ Vars h6 [(b2, [nilSl.v]), (b1, [y10.v, (VI y11), (Value.int .u64 y12)])] /\
 callM P 135 #[(VI (w64 (1 + s14))), (VB s18)] h6 fun r5 h7 => ∃ s19 : Sl, r5 = (.agg #[s19.v]) /\ Vars h7 [(b2, [nilSl.v]), (b1, [y10.v, (VI y11), (Value.int .u64 y12)])] /\
 ∀ (b3 : Nat) (h9 : Heap), h7.size ≤ b3 -> Fr (In []) h7 h9 -> Vars h9 [(b3, [s19.v]), (b2, [nilSl.v]), (b1, [y10.v, (VI y11), (Value.int .u64 y12)])] ->
 callM P 70 #[(VP b1 0), (VI 3)] h9 fun r6 h10 => ∃ y13 : Sl, ∃ y14 : Int, ∃ y15 : Int, ∃ s21 : Int, r6 = (VI s21) /\ Vars h10 [(b3, [s19.v]), (b2, [nilSl.v]), (b1, [y13.v, (VI y14), (Value.int .u64 y15)])] /\
 ∃ J1 : Nat -> Int -> Sl -> Int -> Int -> Heap -> Prop, (∃ n0 : Nat, J1 n0 s21 y13 y14 y15 h10) /\
 ∀ (n1 : Nat) (k5_1 : Int) (y16 : Sl) (y17 : Int) (y18 : Int) (h11 : Heap), J1 n1 k5_1 y16 y17 y18 h11 -> Vars h11 [(b3, [s19.v]), (b2, [nilSl.v]), (b1, [y16.v, (VI y17), (Value.int .u64 y18)])] ->
 ((decide (0 < k5_1)) = true ->
 callM P 136 #[(VP b1 0), (VI (w64 (1 + s14)))] h11 fun r7 h12 => ∃ y19 : Sl, ∃ y20 : Int, ∃ y21 : Int, ∃ s28 : Sl, r7 = s28.v /\ Vars h12 [(b3, [s19.v]), (b2, [nilSl.v]), (b1, [y19.v, (VI y20), (Value.int .u64 y21)])] /\
 callM P 70 #[(VP b1 0), (VI (w64 (1 + s14)))] h12 fun r8 h13 => ∃ y22 : Sl, ∃ y23 : Int, ∃ y24 : Int, ∃ s31 : Int, r8 = (VI s31) /\ Vars h13 [(b3, [s19.v]), (b2, [nilSl.v]), (b1, [y22.v, (VI y23), (Value.int .u64 y24)])] /\
 ∃ J2 : Nat -> Int -> Heap -> Prop, (∃ n0 : Nat, J2 n0 0 h13) /\
 ∀ (n2 : Nat) (i8_1 : Int) (h14 : Heap), J2 n2 i8_1 h14 -> Vars h14 [(b3, [s19.v]), (b2, [nilSl.v]), (b1, [y22.v, (VI y23), (Value.int .u64 y24)])] ->
 ((decide (i8_1 < (w64 (1 + s31)))) = true ->
 InB s28 i8_1 /\
 ∃ s43 : Int, hcell h14 (Sl.at s28 i8_1 1) = some (VI s43) /\
 InB s28 i8_1 /\
 ∃ s49 : Int, hcell h14 (Sl.at s28 i8_1 1) = some (VI s49) /\
 InB s19 s49 /\
 ∃ s51 : Sl, hcell h14 (Sl.at s19 s49 1) = some s51.v /\
 (w64 (1 + s31)) ≠ 0 /\
 InB s28 (Int.tmod (w64 (i8_1 + 1)) (w64 (1 + s31))) /\
 ∃ s58 : Int, hcell h14 (Sl.at s28 (Int.tmod (w64 (i8_1 + 1)) (w64 (1 + s31))) 1) = some (VI s58) /\
 eop P (Instr.buildSlice 37 1 #[(0, (VI s58))]) h14 fun r9 h15 => ∃ s59 : Sl, r9 = s59.v /\ Vars h15 [(b3, [s19.v]), (b2, [nilSl.v]), (b1, [y22.v, (VI y23), (Value.int .u64 y24)])] /\
 hcell h15 (Sl.at s19 s49 1) = some s51.v /\
 hcell h15 (Sl.at s28 i8_1 1) = some (VI s49) /\
 hcell h15 (Sl.at s28 i8_1 1) = some (VI s43) /\
 eop P (appS 37 37 37 s51.v s59.v) h15 fun r10 h16 => ∃ s60 : Sl, r10 = s60.v /\ Vars h16 [(b3, [s19.v]), (b2, [nilSl.v]), (b1, [y22.v, (VI y23), (Value.int .u64 y24)])] /\
 hcell h16 (Sl.at s28 i8_1 1) = some (VI s49) /\
 hcell h16 (Sl.at s28 i8_1 1) = some (VI s43) /\
 InB s19 s43 /\
 Writable h16 (Sl.at s19 s43 1) /\ Vars (hset h16 (Sl.at s19 s43 1) s60.v) [(b3, [s19.v]), (b2, [nilSl.v]), (b1, [y22.v, (VI y23), (Value.int .u64 y24)])] /\
 ∀ h17 : Heap, h17 = hset h16 (Sl.at s19 s43 1) s60.v -> Vars h17 [(b3, [s19.v]), (b2, [nilSl.v]), (b1, [y22.v, (VI y23), (Value.int .u64 y24)])] ->
 ∃ m : Nat, m < n2 /\ J2 m (w64 (i8_1 + 1)) h17) /\
 ((decide (i8_1 < (w64 (1 + s31)))) = false ->
 ∃ m : Nat, m < n1 /\ J1 m (w64 (k5_1 - 1)) y22 y23 y24 h14)) /\
 ((decide (0 < k5_1)) = false ->
 ∀ (h18 : Heap), Fr (In [b2]) h11 h18 -> Vars h18 [(b3, [s19.v]), (b2, [s19.v]), (b1, [y16.v, (VI y17), (Value.int .u64 y18)])] ->
 K (.agg #[s19.v]) h18))
theorem v109 (b1 : Nat) (c0_1 : Sl) (c0_2 : Int) (c0_3 : Int) (h : Heap) (K : Value -> Heap -> Prop) (hL : Vars h [(b1, [c0_1.v, (VI c0_2), (Value.int .u64 c0_3)])]) (H : u109 Try.prog b1 c0_1 c0_2 c0_3 h K) : callM Try.prog 109 #[(VP b1 0)] h K := by
  refine c109 (VP b1 0) h K ?_
  unfold u109 at H
  unfold t109
  refine eop_alloc 26 zer26 rfl hL (fun b2 h1 hb1 hf1 hL1 => ?_)
  have H := H b2 h1 hb1 (Fr.no' (Fr.r (In []) _) hf1) hL1
  refine H.mono fun r1 h2 H => ?_
  obtain ⟨y1, y2, y3, s10, rfl, hL2, H⟩ := H
  refine condM_b (fun hb2 => ?_) (fun hb2 => ?_)
  ·have H := H.1 hb2
   refine H.mono fun r2 h3 H => ?_
   obtain ⟨y4, y5, y6, s12, rfl, hL3, H⟩ := H
   refine ul siz26 hL3 0 0 [s12.v] [(b2, [s12.v]), (b1, [y4.v, (VI y5), (Value.int .u64 y6)])] (fun h4 hf2 hL4 => ?_)
   refine ra agg26 hL4 0 0 [s12.v] ?_
   have H := H  h4  (Fr.old (Fr.r (In []) _) hf2) hL4
   exact H
  have H := H.2 hb2
  refine H.mono fun r3 h5 H => ?_
  obtain ⟨y7, y8, y9, s14, rfl, hL5, H⟩ := H
  refine pop_add .i64 1 s14 ?_
  refine H.mono fun r4 h6 H => ?_
  obtain ⟨y10, y11, y12, s18, rfl, hL6, H⟩ := H
  refine H.mono fun r5 h7 H => ?_
  obtain ⟨s19, rfl, hL7, H⟩ := H
  refine eop_alloc 26 zer26 rfl hL7 (fun b3 h8 hb3 hf3 hL8 => ?_)
  refine ul siz26 hL8 0 0 [s19.v] [(b3, [s19.v]), (b2, [nilSl.v]), (b1, [y10.v, (VI y11), (Value.int .u64 y12)])] (fun h9 hf4 hL9 => ?_)
  have H := H b3 h9 hb3 (Fr.new (Fr.no' (Fr.r (In []) _) hf3) hb3 hf4) hL9
  refine H.mono fun r6 h10 H => ?_
  obtain ⟨y13, y14, y15, s21, rfl, hL10, H⟩ := H
  obtain ⟨J1, ⟨n4, h0_2⟩, HB2⟩ := H
  refine loop_intro (J := fun (n : Nat) (vs : List Value) (h' : Heap) => ∃ k5_1 : Int, ∃ y16 : Sl, ∃ y17 : Int, ∃ y18 : Int, vs = [(VI k5_1)] /\ J1 n k5_1 y16 y17 y18 h' /\ Vars h' [(b3, [s19.v]), (b2, [nilSl.v]), (b1, [y16.v, (VI y17), (Value.int .u64 y18)])]) n4 ⟨s21, y13, y14, y15, rfl, h0_2, hL10⟩ ?_
  intro I2 mu2 hI2 junk1 tv2 h11 hi1
  obtain ⟨n1, ⟨k5_1, y16, y17, y18, hv, hJ1, hL11⟩, hn1⟩ := hI2 _ _ hi1
  cases hv
  have H := HB2 n1 k5_1 y16 y17 y18 h11 hJ1 hL11
  refine pop_gtr .i64 k5_1 0 ?_
  refine condM_b (fun hb4 => ?_) (fun hb4 => ?_)
  rotate_left
  ·have H := H.2 hb4
   refine ra agg26 hL11 0 0 [s19.v] ?_
   refine ul siz26 hL11 1 0 [s19.v] [(b3, [s19.v]), (b2, [s19.v]), (b1, [y16.v, (VI y17), (Value.int .u64 y18)])] (fun h18 hf5 hL18 => ?_)
   refine ra agg26 hL18 1 0 [s19.v] ?_
   have H := H  h18  (Fr.old (Fr.r (In []) _) hf5) hL18
   exact H
  have H := H.1 hb4
  refine H.mono fun r7 h12 H => ?_
  obtain ⟨y19, y20, y21, s28, rfl, hL12, H⟩ := H
  refine H.mono fun r8 h13 H => ?_
  obtain ⟨y22, y23, y24, s31, rfl, hL13, H⟩ := H
  refine pop_add .i64 1 s31 ?_
  obtain ⟨J2, ⟨n3, h0_1⟩, HB1⟩ := H
  refine loop_intro (J := fun (n : Nat) (vs : List Value) (h' : Heap) => ∃ i8_1 : Int, vs = [(VI i8_1)] /\ J2 n i8_1 h' /\ Vars h' [(b3, [s19.v]), (b2, [nilSl.v]), (b1, [y22.v, (VI y23), (Value.int .u64 y24)])]) n3 ⟨0, rfl, h0_1, hL13⟩ ?_
  intro I1 mu1 hI1 junk2 tv1 h14 hi2
  obtain ⟨n2, ⟨i8_1, hv, hJ2, hL14⟩, hn2⟩ := hI1 _ _ hi2
  cases hv
  have H := HB1 n2 i8_1 h14 hJ2 hL14
  refine pop_lss .i64 i8_1 (w64 (1 + s31)) ?_
  refine condM_b (fun hb5 => ?_) (fun hb5 => ?_)
  rotate_left
  ·have H := H.2 hb5
   refine pop_sub .i64 k5_1 1 ?_
   obtain ⟨m_2, hm_2, H⟩ := H
   exact hn1 _ _ ⟨m_2, hm_2, (w64 (k5_1 - 1)), y22, y23, y24, rfl, H, hL14⟩
  have H := H.1 hb5
  refine pop_field 0 fld26_0 b3 0 ?_
  refine rl one24 hL14 0 0 s19.v ?_
  obtain ⟨hi3, H⟩ := H
  refine pop_index sli37 siz3 .i64 s28 i8_1 hi3 ?_
  obtain ⟨s43, hc9, H⟩ := H
  refine rop_one one3 (VI s43) hc9 ?_
  refine pop_field 0 fld26_0 b3 0 ?_
  refine rl one24 hL14 0 0 s19.v ?_
  obtain ⟨hi4, H⟩ := H
  refine pop_index sli37 siz3 .i64 s28 i8_1 hi4 ?_
  obtain ⟨s49, hc8, H⟩ := H
  refine rop_one one3 (VI s49) hc8 ?_
  obtain ⟨hi5, H⟩ := H
  refine pop_index sli24 siz37 .i64 s19 s49 hi5 ?_
  obtain ⟨s51, hc7, H⟩ := H
  refine rop_one one37 s51.v hc7 ?_
  refine pop_add .i64 i8_1 1 ?_
  obtain ⟨hz_1, H⟩ := H
  refine pop_rem .i64 (w64 (i8_1 + 1)) (w64 (1 + s31)) hz_1 ?_
  obtain ⟨hi6, H⟩ := H
  refine pop_index sli37 siz3 .i64 s28 (Int.tmod (w64 (i8_1 + 1)) (w64 (1 + s31))) hi6 ?_
  obtain ⟨s58, hc6, H⟩ := H
  refine rop_one one3 (VI s58) hc6 ?_
  refine H.mono fun r9 h15 H => ?_
  obtain ⟨s59, rfl, hL15, H⟩ := H
  refine ⟨?_, ?_⟩
  ·exact still_one one37 H.1
  obtain ⟨hc1, H⟩ := H
  refine ⟨?_, ?_⟩
  ·exact still_one one3 H.1
  obtain ⟨hc2, H⟩ := H
  refine ⟨?_, ?_⟩
  ·exact still_loc one24 hL15 0 rfl 0 (v := s19.v) rfl
  refine ⟨?_, ?_⟩
  ·exact still_one one3 H.1
  obtain ⟨hc3, H⟩ := H
  refine ⟨?_, ?_⟩
  ·exact still_loc one24 hL15 0 rfl 0 (v := s19.v) rfl
  refine H.mono fun r10 h16 H => ?_
  obtain ⟨s60, rfl, hL16, H⟩ := H
  refine ⟨?_, ?_⟩
  ·exact still_one one3 H.1
  obtain ⟨hc4, H⟩ := H
  refine ⟨?_, ?_⟩
  ·exact still_loc one24 hL16 0 rfl 0 (v := s19.v) rfl
  refine ⟨?_, ?_⟩
  ·exact still_one one3 H.1
  obtain ⟨hc5, H⟩ := H
  refine ⟨?_, ?_⟩
  ·exact still_loc one24 hL16 0 rfl 0 (v := s19.v) rfl
  obtain ⟨hi7, H⟩ := H
  refine pop_index sli24 siz37 .i64 s19 s43 hi7 ?_
  obtain ⟨hw_1, hL17, H⟩ := H
  refine uop_cell (v := s60.v) siz37 hw_1 rfl (fun h17 he_1 => ?_)
  rw [← he_1] at hL17
  have H := H h17 he_1 hL17
  refine pop_add .i64 i8_1 1 ?_
  obtain ⟨m_1, hm_1, H⟩ := H
  exact hn2 _ _ ⟨m_1, hm_1, (w64 (i8_1 + 1)), rfl, H, hL17⟩
def u110 (P : Program) (g0_1 : Sl) (p1_1 : Int) (h : Heap) (K : Value -> Heap -> Prop) : Prop :=
 ∀ (b1 : Nat) (h1 : Heap), h.size ≤ b1 -> Fr (In []) h h1 -> Vars h1 [(b1, [g0_1.v])] ->
 eop P (Instr.buildSlice 37 1 #[(0, (.int .i64 (-1)))]) h1 fun r1 h2 => ∃ s9 : Sl, r1 = s9.v /\ Vars h2 [(b1, [g0_1.v])] /\
 callM P 137 #[s9.v, (VI (g0_1.n : Int))] h2 fun r2 h3 => ∃ s13 : Sl, r2 = s13.v /\ Vars h3 [(b1, [g0_1.v])] /\
 InB s13 p1_1 /\
 Writable h3 (Sl.at s13 p1_1 1) /\ Vars (hset h3 (Sl.at s13 p1_1 1) (VI 0)) [(b1, [g0_1.v])] /\
 ∀ h4 : Heap, h4 = hset h3 (Sl.at s13 p1_1 1) (VI 0) -> Vars h4 [(b1, [g0_1.v])] ->
 eop P (Instr.buildSlice 37 1 #[(0, (VI p1_1))]) h4 fun r3 h5 => ∃ s18 : Sl, r3 = s18.v /\ Vars h5 [(b1, [g0_1.v])] /\
 ∃ J1 : Nat -> Sl -> Heap -> Prop, (∃ n0 : Nat, J1 n0 s18 h5) /\
 ∀ (n1 : Nat) (list6_1 : Sl) (h6 : Heap), J1 n1 list6_1 h6 -> Vars h6 [(b1, [g0_1.v])] ->
 ((decide (0 < (list6_1.n : Int))) = true ->
 InB list6_1 0 /\
 ∃ s28 : Int, hcell h6 (Sl.at list6_1 0 1) = some (VI s28) /\
 InB g0_1 s28 /\
 ∃ s30 : Sl, hcell h6 (Sl.at g0_1 s28 1) = some s30.v /\
 ∃ J2 : Nat -> Sl -> Int -> Heap -> Prop, (∃ n0 : Nat, J2 n0 list6_1 0 h6) /\
 ∀ (n2 : Nat) (list6_2 : Sl) (s32 : Int) (h7 : Heap), J2 n2 list6_2 s32 h7 -> Vars h7 [(b1, [g0_1.v])] ->
 ((decide (s32 < (s30.n : Int))) = true ->
 InB s30 s32 /\
 ∃ s35 : Int, hcell h7 (Sl.at s30 s32 1) = some (VI s35) /\
 InB s13 s35 /\
 ∃ s39 : Int, hcell h7 (Sl.at s13 s35 1) = some (VI s39) /\
 ((decide (s39 < 0)) = true ->
 InB list6_2 0 /\
 ∃ s46 : Int, hcell h7 (Sl.at list6_2 0 1) = some (VI s46) /\
 InB s13 s46 /\
 ∃ s48 : Int, hcell h7 (Sl.at s13 s46 1) = some (VI s48) /\
 InB s13 s35 /\
 Writable h7 (Sl.at s13 s35 1) /\ Vars (hset h7 (Sl.at s13 s35 1) (VI (w64 (s48 + 1)))) [(b1, [g0_1.v])] /\
 ∀ h8 : Heap, h8 = hset h7 (Sl.at s13 s35 1) (VI (w64 (s48 + 1))) -> Vars h8 [(b1, [g0_1.v])] ->
 eop P (Instr.buildSlice 37 1 #[(0, (VI s35))]) h8 fun r4 h9 => ∃ s53 : Sl, r4 = s53.v /\ Vars h9 [(b1, [g0_1.v])] /\
 eop P (appS 37 37 37 list6_2.v s53.v) h9 fun r5 h10 => ∃ s54 : Sl, r5 = s54.v /\ Vars h10 [(b1, [g0_1.v])] /\
 ∃ m : Nat, m < n2 /\ J2 m s54 (w64 (s32 + 1)) h10) /\
 ((decide (s39 < 0)) = false ->
 ∃ m : Nat, m < n2 /\ J2 m list6_2 (w64 (s32 + 1)) h7)) /\
 ((decide (s32 < (s30.n : Int))) = false ->
 pop P (Instr.sliceAt 37 list6_2.v (some (.int .i64 1)) none none) fun r6 => ∃ s23 : Sl, r6 = s23.v /\ 
 ∃ m : Nat, m < n1 /\ J1 m s23 h7)) /\
 ((decide (0 < (list6_1.n : Int))) = false ->
 K s13.v h6)
theorem v110 (g0_1 : Sl) (p1_1 : Int) (h : Heap) (K : Value -> Heap -> Prop) (H : u110 Try.prog g0_1 p1_1 h K) : callM Try.prog 110 #[(Value.agg #[g0_1.v]), (VI p1_1)] h K := by
  refine c110 (Value.agg #[g0_1.v]) (VI p1_1) h K ?_
  unfold u110 at H
  unfold t110
  have hL : Vars h [] := .nil
  refine eop_box 26 (Value.agg #[g0_1.v]) rfl hL (fun b1 h1 hb1 hf1 hL1 => ?_)
  have H := H b1 h1 hb1 (Fr.no' (Fr.r (In []) _) hf1) hL1
  refine H.mono fun r1 h2 H => ?_
  obtain ⟨s9, rfl, hL2, H⟩ := H
  refine pop_field 0 fld26_0 b1 0 ?_
  refine rl one24 hL2 0 0 g0_1.v ?_
  refine pop_len g0_1 _ _ sli24 ?_
  refine H.mono fun r2 h3 H => ?_
  obtain ⟨s13, rfl, hL3, H⟩ := H
  obtain ⟨hi1, H⟩ := H
  refine pop_index sli37 siz3 .i64 s13 p1_1 hi1 ?_
  obtain ⟨hw_1, hL4, H⟩ := H
  refine uop_cell (v := (VI 0)) siz3 hw_1 rfl (fun h4 he_1 => ?_)
  rw [← he_1] at hL4
  have H := H h4 he_1 hL4
  refine H.mono fun r3 h5 H => ?_
  obtain ⟨s18, rfl, hL5, H⟩ := H
  obtain ⟨J1, ⟨n4, h0_2⟩, HB2⟩ := H
  refine loop_intro (J := fun (n : Nat) (vs : List Value) (h' : Heap) => ∃ list6_1 : Sl, vs = [list6_1.v] /\ J1 n list6_1 h' /\ Vars h' [(b1, [g0_1.v])]) n4 ⟨s18, rfl, h0_2, hL5⟩ ?_
  intro I2 mu2 hI2 junk1 tv3 h6 hi2
  obtain ⟨n1, ⟨list6_1, hv, hJ1, hL6⟩, hn1⟩ := hI2 _ _ hi2
  cases hv
  have H := HB2 n1 list6_1 h6 hJ1 hL6
  refine pop_len list6_1 _ _ sli37 ?_
  refine pop_gtr .i64 (list6_1.n : Int) 0 ?_
  refine condM_b (fun hb2 => ?_) (fun hb2 => ?_)
  rotate_left
  ·exact H.2 hb2
  have H := H.1 hb2
  refine pop_field 0 fld26_0 b1 0 ?_
  refine rl one24 hL6 0 0 g0_1.v ?_
  obtain ⟨hi3, H⟩ := H
  refine pop_index sli37 siz3 .i64 list6_1 0 hi3 ?_
  obtain ⟨s28, hc6, H⟩ := H
  refine rop_one one3 (VI s28) hc6 ?_
  obtain ⟨hi4, H⟩ := H
  refine pop_index sli24 siz37 .i64 g0_1 s28 hi4 ?_
  obtain ⟨s30, hc5, H⟩ := H
  refine rop_one one37 s30.v hc5 ?_
  refine pop_len s30 _ _ sli37 ?_
  obtain ⟨J2, ⟨n3, h0_1⟩, HB1⟩ := H
  refine loop_intro (J := fun (n : Nat) (vs : List Value) (h' : Heap) => ∃ list6_2 : Sl, ∃ s32 : Int, vs = [list6_2.v, (VI s32)] /\ J2 n list6_2 s32 h' /\ Vars h' [(b1, [g0_1.v])]) n3 ⟨list6_1, 0, rfl, h0_1, hL6⟩ ?_
  intro I1 mu1 hI1 junk2 tv1 tv2 h7 hi5
  obtain ⟨n2, ⟨list6_2, s32, hv, hJ2, hL7⟩, hn2⟩ := hI1 _ _ hi5
  cases hv
  have H := HB1 n2 list6_2 s32 h7 hJ2 hL7
  refine pop_lss .i64 s32 (s30.n : Int) ?_
  refine condM_b (fun hb3 => ?_) (fun hb3 => ?_)
  rotate_left
  ·have H := H.2 hb3
   refine H.mono fun r6 H => ?_
   obtain ⟨s23, rfl, H⟩ := H
   obtain ⟨m_3, hm_3, H⟩ := H
   exact hn1 _ _ ⟨m_3, hm_3, s23, rfl, H, hL7⟩
  have H := H.1 hb3
  obtain ⟨hi6, H⟩ := H
  refine pop_index sli37 siz3 .i64 s30 s32 hi6 ?_
  obtain ⟨s35, hc4, H⟩ := H
  refine rop_one one3 (VI s35) hc4 ?_
  obtain ⟨hi7, H⟩ := H
  refine pop_index sli37 siz3 .i64 s13 s35 hi7 ?_
  obtain ⟨s39, hc3, H⟩ := H
  refine rop_one one3 (VI s39) hc3 ?_
  refine pop_lss .i64 s39 0 ?_
  refine condM_b (fun hb4 => ?_) (fun hb4 => ?_)
  rotate_left
  ·have H := H.2 hb4
   refine pop_add .i64 s32 1 ?_
   obtain ⟨m_2, hm_2, H⟩ := H
   exact hn2 _ _ ⟨m_2, hm_2, list6_2, (w64 (s32 + 1)), rfl, H, hL7⟩
  have H := H.1 hb4
  obtain ⟨hi8, H⟩ := H
  refine pop_index sli37 siz3 .i64 list6_2 0 hi8 ?_
  obtain ⟨s46, hc2, H⟩ := H
  refine rop_one one3 (VI s46) hc2 ?_
  obtain ⟨hi9, H⟩ := H
  refine pop_index sli37 siz3 .i64 s13 s46 hi9 ?_
  obtain ⟨s48, hc1, H⟩ := H
  refine rop_one one3 (VI s48) hc1 ?_
  refine pop_add .i64 s48 1 ?_
  obtain ⟨hi10, H⟩ := H
  refine pop_index sli37 siz3 .i64 s13 s35 hi10 ?_
  obtain ⟨hw_2, hL8, H⟩ := H
  refine uop_cell (v := (VI (w64 (s48 + 1)))) siz3 hw_2 rfl (fun h8 he_2 => ?_)
  rw [← he_2] at hL8
  have H := H h8 he_2 hL8
  refine H.mono fun r4 h9 H => ?_
  obtain ⟨s53, rfl, hL9, H⟩ := H
  refine H.mono fun r5 h10 H => ?_
  obtain ⟨s54, rfl, hL10, H⟩ := H
  refine pop_add .i64 s32 1 ?_
  obtain ⟨m_1, hm_1, H⟩ := H
  exact hn2 _ _ ⟨m_1, hm_1, s54, (w64 (s32 + 1)), rfl, H, hL10⟩
def u111 (P : Program) (s0 : Int) (h : Heap) (K : Value -> Heap -> Prop) : Prop :=
 K (VI 0) h
theorem v111 (s0 : Int) (h : Heap) (K : Value -> Heap -> Prop) (H : u111 Try.prog s0 h K) : callM Try.prog 111 #[(VI s0)] h K := by
  refine c111 (VI s0) h K ?_
  unfold u111 at H
  unfold t111
  have hL : Vars h [] := .nil
  exact H
def u112 (P : Program) (a0_1 : Int) (b1_1 : Int) (h : Heap) (K : Value -> Heap -> Prop) : Prop :=
 pop P (Builtin.max_ #[3, 3] 3 #[(VI a0_1), (VI (w64 (0 - a0_1)))]) fun r1 => ∃ s8 : Int, r1 = (VI s8) /\ 
 pop P (Builtin.max_ #[3, 3] 3 #[(VI b1_1), (VI (w64 (0 - b1_1)))]) fun r2 => ∃ s12 : Int, r2 = (VI s12) /\ 
 ∃ J1 : Nat -> Int -> Int -> Heap -> Prop, (∃ n0 : Nat, J1 n0 s8 s12 h) /\
 ∀ (n1 : Nat) (a0_2 : Int) (b1_2 : Int) (h1 : Heap), J1 n1 a0_2 b1_2 h1 -> Vars h1 [] ->
 ((!decide (b1_2 = 0)) = true ->
 b1_2 ≠ 0 /\
 ∃ m : Nat, m < n1 /\ J1 m b1_2 (Int.tmod a0_2 b1_2) h1) /\
 ((!decide (b1_2 = 0)) = false ->
 K (VI a0_2) h1)
theorem v112 (a0_1 : Int) (b1_1 : Int) (h : Heap) (K : Value -> Heap -> Prop) (H : u112 Try.prog a0_1 b1_1 h K) : callM Try.prog 112 #[(VI a0_1), (VI b1_1)] h K := by
  refine c112 (VI a0_1) (VI b1_1) h K ?_
  unfold u112 at H
  unfold t112
  have hL : Vars h [] := .nil
  refine pop_neg .i64 a0_1 ?_
  refine H.mono fun r1 H => ?_
  obtain ⟨s8, rfl, H⟩ := H
  refine pop_neg .i64 b1_1 ?_
  refine H.mono fun r2 H => ?_
  obtain ⟨s12, rfl, H⟩ := H
  obtain ⟨J1, ⟨n2, h0_1⟩, HB1⟩ := H
  refine loop_intro (J := fun (n : Nat) (vs : List Value) (h' : Heap) => ∃ a0_2 : Int, ∃ b1_2 : Int, vs = [(VI a0_2), (VI b1_2)] /\ J1 n a0_2 b1_2 h' /\ Vars h' []) n2 ⟨s8, s12, rfl, h0_1, hL⟩ ?_
  intro I1 mu1 hI1 junk1 tv1 tv2 h1 hi1
  obtain ⟨n1, ⟨a0_2, b1_2, hv, hJ1, hL1⟩, hn1⟩ := hI1 _ _ hi1
  cases hv
  have H := HB1 n1 a0_2 b1_2 h1 hJ1 hL1
  refine pop_ine .i64 _ _ b1_2 0 ?_
  refine condM_b (fun hb1 => ?_) (fun hb1 => ?_)
  rotate_left
  ·exact H.2 hb1
  have H := H.1 hb1
  obtain ⟨hz_1, H⟩ := H
  refine pop_rem .i64 a0_2 b1_2 hz_1 ?_
  obtain ⟨m_1, hm_1, H⟩ := H
  exact hn1 _ _ ⟨m_1, hm_1, b1_2, (Int.tmod a0_2 b1_2), rfl, H, hL1⟩
def u113 (P : Program) (g0_1 : Sl) (h : Heap) (K : Value -> Heap -> Prop) : Prop :=
 ∀ (b1 : Nat) (b2 : Nat) (h3 : Heap), h.size ≤ b1 -> h.size ≤ b2 -> Fr (In []) h h3 -> Vars h3 [(b2, [(VI (g0_1.n : Int))]), (b1, [g0_1.v])] ->
 callM P 71 #[(VI (g0_1.n : Int)), (VI 1), (VI 8)] h3 fun r1 h4 => ∃ s10 : Bool, r1 = (VB s10) /\ Vars h4 [(b2, [(VI (g0_1.n : Int))]), (b1, [g0_1.v])] /\
 ((!s10) = true ->
 K (VB false) h4) /\
 ((!s10) = false ->
 ∃ J1 : Nat -> Int -> Int -> Heap -> Prop, (∃ n0 : Nat, J1 n0 0 (g0_1.n : Int) h4) /\
 ∀ (n1 : Nat) (s15 : Int) (y1 : Int) (h5 : Heap), J1 n1 s15 y1 h5 -> Vars h5 [(b2, [(VI y1)]), (b1, [g0_1.v])] ->
 ((decide (s15 < (g0_1.n : Int))) = true ->
 InB g0_1 s15 /\
 ∃ s18 : Sl, hcell h5 (Sl.at g0_1 s15 1) = some s18.v /\
 ((decide (5 < (s18.n : Int))) = true ->
 K (VB false) h5) /\
 ((decide (5 < (s18.n : Int))) = false ->
 callM P 96 #[s18.v, (Value.func (Fn.func 138) #[] #[(VP b2 0)])] h5 fun r2 h6 => ∃ y2 : Int, ∃ s25 : Bool, r2 = (VB s25) /\ Vars h6 [(b2, [(VI y2)]), (b1, [g0_1.v])] /\
 (s25 = true ->
 K (VB false) h6) /\
 (s25 = false ->
 ∃ m : Nat, m < n1 /\ J1 m (w64 (s15 + 1)) y2 h6))) /\
 ((decide (s15 < (g0_1.n : Int))) = false ->
 K (VB true) h5))
theorem v113 (g0_1 : Sl) (h : Heap) (K : Value -> Heap -> Prop) (H : u113 Try.prog g0_1 h K) : callM Try.prog 113 #[(Value.agg #[g0_1.v])] h K := by
  refine c113 (Value.agg #[g0_1.v]) h K ?_
  unfold u113 at H
  unfold t113
  have hL : Vars h [] := .nil
  refine eop_box 26 (Value.agg #[g0_1.v]) rfl hL (fun b1 h1 hb1 hf1 hL1 => ?_)
  refine pop_field 0 fld26_0 b1 0 ?_
  refine rl one24 hL1 0 0 g0_1.v ?_
  refine pop_len g0_1 _ _ sli24 ?_
  refine eop_alloc 3 zer3 rfl hL1 (fun b2 h2 hb2 hf2 hL2 => ?_)
  refine ul siz3 hL2 0 0 [(VI (g0_1.n : Int))] [(b2, [(VI (g0_1.n : Int))]), (b1, [g0_1.v])] (fun h3 hf3 hL3 => ?_)
  refine rl one3 hL3 0 0 (VI (g0_1.n : Int)) ?_
  have H := H b1 b2 h3 hb1 (Nat.le_trans (Fr.size (Fr.no' (Fr.r (In []) _) hf1)) hb2) (Fr.new (Fr.no' (Fr.no' (Fr.r (In []) _) hf1) hf2) (Nat.le_trans (Fr.size (Fr.no' (Fr.r (In []) _) hf1)) hb2) hf3) hL3
  refine H.mono fun r1 h4 H => ?_
  obtain ⟨s10, rfl, hL4, H⟩ := H
  refine pop_not s10 ?_
  refine condM_b (fun hb3 => ?_) (fun hb3 => ?_)
  ·exact H.1 hb3
  have H := H.2 hb3
  refine pop_field 0 fld26_0 b1 0 ?_
  refine rl one24 hL4 1 0 g0_1.v ?_
  refine pop_len g0_1 _ _ sli24 ?_
  obtain ⟨J1, ⟨n2, h0_1⟩, HB1⟩ := H
  refine loop_intro (J := fun (n : Nat) (vs : List Value) (h' : Heap) => ∃ s15 : Int, ∃ y1 : Int, vs = [(VI s15)] /\ J1 n s15 y1 h' /\ Vars h' [(b2, [(VI y1)]), (b1, [g0_1.v])]) n2 ⟨0, (g0_1.n : Int), rfl, h0_1, hL4⟩ ?_
  intro I1 mu1 hI1 junk1 tv1 h5 hi1
  obtain ⟨n1, ⟨s15, y1, hv, hJ1, hL5⟩, hn1⟩ := hI1 _ _ hi1
  cases hv
  have H := HB1 n1 s15 y1 h5 hJ1 hL5
  refine pop_lss .i64 s15 (g0_1.n : Int) ?_
  refine condM_b (fun hb4 => ?_) (fun hb4 => ?_)
  rotate_left
  ·exact H.2 hb4
  have H := H.1 hb4
  obtain ⟨hi2, H⟩ := H
  refine pop_index sli24 siz37 .i64 g0_1 s15 hi2 ?_
  obtain ⟨s18, hc1, H⟩ := H
  refine rop_one one37 s18.v hc1 ?_
  refine pop_len s18 _ _ sli37 ?_
  refine pop_gtr .i64 (s18.n : Int) 5 ?_
  refine guardM_sf (fun hb5 => ?_) (fun hb5 => ?_)
  rotate_left
  ·have H := H.1 hb5
   refine gm hb5 ?_
   refine gm hb5 ?_
   refine pop_pickt' hb5 ?_
   refine condM_t ?_
   exact H
  have H := H.2 hb5
  refine gy hb5 ?_
  refine pop_func _ _ _ ?_
  refine gy hb5 ?_
  refine H.mono fun r2 h6 H => ?_
  obtain ⟨y2, s25, rfl, hL6, H⟩ := H
  refine pop_pickf' hb5 ?_
  refine condM_b (fun hb6 => ?_) (fun hb6 => ?_)
  ·exact H.1 hb6
  have H := H.2 hb6
  refine pop_add .i64 s15 1 ?_
  obtain ⟨m_1, hm_1, H⟩ := H
  exact hn1 _ _ ⟨m_1, hm_1, (w64 (s15 + 1)), y2, rfl, H, hL6⟩
def u114 (P : Program) (p0_1 : Int) (b1 : Nat) (s1 : Sl) (h : Heap) (K : Value -> Heap -> Prop) : Prop :=
 callM P 71 #[(VI p0_1), (VI 0), (VI (w64 ((s1.n : Int) - 1)))] h fun r1 h1 => ∃ s9 : Bool, r1 = (VB s9) /\ Vars h1 [(b1, [s1.v])] /\
 K (VB (!s9)) h1
theorem v114 (p0_1 : Int) (b1 : Nat) (s1 : Sl) (h : Heap) (K : Value -> Heap -> Prop) (hL : Vars h [(b1, [s1.v])]) (H : u114 Try.prog p0_1 b1 s1 h K) : callM Try.prog 114 #[(VI p0_1), (VP b1 0)] h K := by
  refine c114 (VI p0_1) (VP b1 0) h K ?_
  unfold u114 at H
  unfold t114
  refine pop_field 0 fld26_0 b1 0 ?_
  refine rl one24 hL 0 0 s1.v ?_
  refine pop_len s1 _ _ sli24 ?_
  refine pop_sub .i64 (s1.n : Int) 1 ?_
  refine H.mono fun r1 h1 H => ?_
  obtain ⟨s9, rfl, hL1, H⟩ := H
  refine pop_not s9 ?_
  exact H
def u115 (P : Program) (g0_1 : Sl) (p1_1 : Int) (h : Heap) (K : Value -> Heap -> Prop) : Prop :=
 ∀ (b1 : Nat) (h1 : Heap), h.size ≤ b1 -> Fr (In []) h h1 -> Vars h1 [(b1, [g0_1.v])] ->
 eop P (Instr.makeSlice 37 (VI (g0_1.n : Int)) (VI (g0_1.n : Int))) h1 fun r1 h2 => ∃ s14 : Sl, r1 = s14.v /\ Vars h2 [(b1, [g0_1.v])] /\
 ∃ J1 : Nat -> Int -> Heap -> Prop, (∃ n0 : Nat, J1 n0 0 h2) /\
 ∀ (n1 : Nat) (s17 : Int) (h3 : Heap), J1 n1 s17 h3 -> Vars h3 [(b1, [g0_1.v])] ->
 ((decide (s17 < (s14.n : Int))) = true ->
 InB s14 s17 /\
 Writable h3 (Sl.at s14 s17 1) /\ Vars (hset h3 (Sl.at s14 s17 1) (VI (-1))) [(b1, [g0_1.v])] /\
 ∀ h4 : Heap, h4 = hset h3 (Sl.at s14 s17 1) (VI (-1)) -> Vars h4 [(b1, [g0_1.v])] ->
 ∃ m : Nat, m < n1 /\ J1 m (w64 (s17 + 1)) h4) /\
 ((decide (s17 < (s14.n : Int))) = false ->
 InB s14 p1_1 /\
 Writable h3 (Sl.at s14 p1_1 1) /\ Vars (hset h3 (Sl.at s14 p1_1 1) (VI 0)) [(b1, [g0_1.v])] /\
 ∀ h5 : Heap, h5 = hset h3 (Sl.at s14 p1_1 1) (VI 0) -> Vars h5 [(b1, [g0_1.v])] ->
 eop P (Instr.buildSlice 37 1 #[(0, (VI p1_1))]) h5 fun r2 h6 => ∃ s28 : Sl, r2 = s28.v /\ Vars h6 [(b1, [g0_1.v])] /\
 ∃ J2 : Nat -> Sl -> Int -> Heap -> Prop, (∃ n0 : Nat, J2 n0 s28 0 h6) /\
 ∀ (n2 : Nat) (queue7_1 : Sl) (k8_1 : Int) (h7 : Heap), J2 n2 queue7_1 k8_1 h7 -> Vars h7 [(b1, [g0_1.v])] ->
 ((decide (k8_1 < (queue7_1.n : Int))) = true ->
 InB queue7_1 k8_1 /\
 ∃ s40 : Int, hcell h7 (Sl.at queue7_1 k8_1 1) = some (VI s40) /\
 InB g0_1 s40 /\
 ∃ s42 : Sl, hcell h7 (Sl.at g0_1 s40 1) = some s42.v /\
 ∃ J3 : Nat -> Sl -> Int -> Heap -> Prop, (∃ n0 : Nat, J3 n0 queue7_1 0 h7) /\
 ∀ (n3 : Nat) (queue7_2 : Sl) (s44 : Int) (h8 : Heap), J3 n3 queue7_2 s44 h8 -> Vars h8 [(b1, [g0_1.v])] ->
 ((decide (s44 < (s42.n : Int))) = true ->
 InB s42 s44 /\
 ∃ s47 : Int, hcell h8 (Sl.at s42 s44 1) = some (VI s47) /\
 InB s14 s47 /\
 ∃ s51 : Int, hcell h8 (Sl.at s14 s47 1) = some (VI s51) /\
 ((decide (s51 < 0)) = true ->
 InB queue7_2 k8_1 /\
 ∃ s59 : Int, hcell h8 (Sl.at queue7_2 k8_1 1) = some (VI s59) /\
 InB s14 s59 /\
 ∃ s61 : Int, hcell h8 (Sl.at s14 s59 1) = some (VI s61) /\
 InB s14 s47 /\
 Writable h8 (Sl.at s14 s47 1) /\ Vars (hset h8 (Sl.at s14 s47 1) (VI (w64 (s61 + 1)))) [(b1, [g0_1.v])] /\
 ∀ h9 : Heap, h9 = hset h8 (Sl.at s14 s47 1) (VI (w64 (s61 + 1))) -> Vars h9 [(b1, [g0_1.v])] ->
 eop P (Instr.buildSlice 37 1 #[(0, (VI s47))]) h9 fun r3 h10 => ∃ s66 : Sl, r3 = s66.v /\ Vars h10 [(b1, [g0_1.v])] /\
 eop P (appS 37 37 37 queue7_2.v s66.v) h10 fun r4 h11 => ∃ s67 : Sl, r4 = s67.v /\ Vars h11 [(b1, [g0_1.v])] /\
 ∃ m : Nat, m < n3 /\ J3 m s67 (w64 (s44 + 1)) h11) /\
 ((decide (s51 < 0)) = false ->
 ∃ m : Nat, m < n3 /\ J3 m queue7_2 (w64 (s44 + 1)) h8)) /\
 ((decide (s44 < (s42.n : Int))) = false ->
 ∃ m : Nat, m < n2 /\ J2 m queue7_2 (w64 (k8_1 + 1)) h8)) /\
 ((decide (k8_1 < (queue7_1.n : Int))) = false ->
 K s14.v h7))
theorem v115 (g0_1 : Sl) (p1_1 : Int) (h : Heap) (K : Value -> Heap -> Prop) (H : u115 Try.prog g0_1 p1_1 h K) : callM Try.prog 115 #[(Value.agg #[g0_1.v]), (VI p1_1)] h K := by
  refine c115 (Value.agg #[g0_1.v]) (VI p1_1) h K ?_
  unfold u115 at H
  unfold t115
  have hL : Vars h [] := .nil
  refine eop_box 26 (Value.agg #[g0_1.v]) rfl hL (fun b1 h1 hb1 hf1 hL1 => ?_)
  refine pop_field 0 fld26_0 b1 0 ?_
  refine rl one24 hL1 0 0 g0_1.v ?_
  refine pop_len g0_1 _ _ sli24 ?_
  have H := H b1 h1 hb1 (Fr.no' (Fr.r (In []) _) hf1) hL1
  refine H.mono fun r1 h2 H => ?_
  obtain ⟨s14, rfl, hL2, H⟩ := H
  refine pop_len s14 _ _ sli37 ?_
  obtain ⟨J1, ⟨n6, h0_3⟩, HB3⟩ := H
  refine loop_intro (J := fun (n : Nat) (vs : List Value) (h' : Heap) => ∃ s17 : Int, vs = [(VI s17)] /\ J1 n s17 h' /\ Vars h' [(b1, [g0_1.v])]) n6 ⟨0, rfl, h0_3, hL2⟩ ?_
  intro I3 mu3 hI3 junk1 tv5 h3 hi1
  obtain ⟨n1, ⟨s17, hv, hJ1, hL3⟩, hn1⟩ := hI3 _ _ hi1
  cases hv
  have H := HB3 n1 s17 h3 hJ1 hL3
  refine pop_lss .i64 s17 (s14.n : Int) ?_
  refine condM_b (fun hb2 => ?_) (fun hb2 => ?_)
  ·have H := H.1 hb2
   obtain ⟨hi2, H⟩ := H
   refine pop_index sli37 siz3 .i64 s14 s17 hi2 ?_
   obtain ⟨hw_1, hL4, H⟩ := H
   refine uop_cell (v := (VI (-1))) siz3 hw_1 rfl (fun h4 he_1 => ?_)
   rw [← he_1] at hL4
   have H := H h4 he_1 hL4
   refine pop_add .i64 s17 1 ?_
   obtain ⟨m_1, hm_1, H⟩ := H
   exact hn1 _ _ ⟨m_1, hm_1, (w64 (s17 + 1)), rfl, H, hL4⟩
  have H := H.2 hb2
  obtain ⟨hi3, H⟩ := H
  refine pop_index sli37 siz3 .i64 s14 p1_1 hi3 ?_
  obtain ⟨hw_2, hL5, H⟩ := H
  refine uop_cell (v := (VI 0)) siz3 hw_2 rfl (fun h5 he_2 => ?_)
  rw [← he_2] at hL5
  have H := H h5 he_2 hL5
  refine H.mono fun r2 h6 H => ?_
  obtain ⟨s28, rfl, hL6, H⟩ := H
  obtain ⟨J2, ⟨n5, h0_2⟩, HB2⟩ := H
  refine loop_intro (J := fun (n : Nat) (vs : List Value) (h' : Heap) => ∃ queue7_1 : Sl, ∃ k8_1 : Int, vs = [queue7_1.v, (VI k8_1)] /\ J2 n queue7_1 k8_1 h' /\ Vars h' [(b1, [g0_1.v])]) n5 ⟨s28, 0, rfl, h0_2, hL6⟩ ?_
  intro I2 mu2 hI2 junk2 tv3 tv4 h7 hi4
  obtain ⟨n2, ⟨queue7_1, k8_1, hv, hJ2, hL7⟩, hn2⟩ := hI2 _ _ hi4
  cases hv
  have H := HB2 n2 queue7_1 k8_1 h7 hJ2 hL7
  refine pop_len queue7_1 _ _ sli37 ?_
  refine pop_lss .i64 k8_1 (queue7_1.n : Int) ?_
  refine condM_b (fun hb3 => ?_) (fun hb3 => ?_)
  rotate_left
  ·exact H.2 hb3
  have H := H.1 hb3
  refine pop_field 0 fld26_0 b1 0 ?_
  refine rl one24 hL7 0 0 g0_1.v ?_
  obtain ⟨hi5, H⟩ := H
  refine pop_index sli37 siz3 .i64 queue7_1 k8_1 hi5 ?_
  obtain ⟨s40, hc6, H⟩ := H
  refine rop_one one3 (VI s40) hc6 ?_
  obtain ⟨hi6, H⟩ := H
  refine pop_index sli24 siz37 .i64 g0_1 s40 hi6 ?_
  obtain ⟨s42, hc5, H⟩ := H
  refine rop_one one37 s42.v hc5 ?_
  refine pop_len s42 _ _ sli37 ?_
  obtain ⟨J3, ⟨n4, h0_1⟩, HB1⟩ := H
  refine loop_intro (J := fun (n : Nat) (vs : List Value) (h' : Heap) => ∃ queue7_2 : Sl, ∃ s44 : Int, vs = [queue7_2.v, (VI s44)] /\ J3 n queue7_2 s44 h' /\ Vars h' [(b1, [g0_1.v])]) n4 ⟨queue7_1, 0, rfl, h0_1, hL7⟩ ?_
  intro I1 mu1 hI1 junk3 tv1 tv2 h8 hi7
  obtain ⟨n3, ⟨queue7_2, s44, hv, hJ3, hL8⟩, hn3⟩ := hI1 _ _ hi7
  cases hv
  have H := HB1 n3 queue7_2 s44 h8 hJ3 hL8
  refine pop_lss .i64 s44 (s42.n : Int) ?_
  refine condM_b (fun hb4 => ?_) (fun hb4 => ?_)
  rotate_left
  ·have H := H.2 hb4
   refine pop_add .i64 k8_1 1 ?_
   obtain ⟨m_4, hm_4, H⟩ := H
   exact hn2 _ _ ⟨m_4, hm_4, queue7_2, (w64 (k8_1 + 1)), rfl, H, hL8⟩
  have H := H.1 hb4
  obtain ⟨hi8, H⟩ := H
  refine pop_index sli37 siz3 .i64 s42 s44 hi8 ?_
  obtain ⟨s47, hc4, H⟩ := H
  refine rop_one one3 (VI s47) hc4 ?_
  obtain ⟨hi9, H⟩ := H
  refine pop_index sli37 siz3 .i64 s14 s47 hi9 ?_
  obtain ⟨s51, hc3, H⟩ := H
  refine rop_one one3 (VI s51) hc3 ?_
  refine pop_lss .i64 s51 0 ?_
  refine condM_b (fun hb5 => ?_) (fun hb5 => ?_)
  rotate_left
  ·have H := H.2 hb5
   refine pop_add .i64 s44 1 ?_
   obtain ⟨m_3, hm_3, H⟩ := H
   exact hn3 _ _ ⟨m_3, hm_3, queue7_2, (w64 (s44 + 1)), rfl, H, hL8⟩
  have H := H.1 hb5
  obtain ⟨hi10, H⟩ := H
  refine pop_index sli37 siz3 .i64 queue7_2 k8_1 hi10 ?_
  obtain ⟨s59, hc2, H⟩ := H
  refine rop_one one3 (VI s59) hc2 ?_
  obtain ⟨hi11, H⟩ := H
  refine pop_index sli37 siz3 .i64 s14 s59 hi11 ?_
  obtain ⟨s61, hc1, H⟩ := H
  refine rop_one one3 (VI s61) hc1 ?_
  refine pop_add .i64 s61 1 ?_
  obtain ⟨hi12, H⟩ := H
  refine pop_index sli37 siz3 .i64 s14 s47 hi12 ?_
  obtain ⟨hw_3, hL9, H⟩ := H
  refine uop_cell (v := (VI (w64 (s61 + 1)))) siz3 hw_3 rfl (fun h9 he_3 => ?_)
  rw [← he_3] at hL9
  have H := H h9 he_3 hL9
  refine H.mono fun r3 h10 H => ?_
  obtain ⟨s66, rfl, hL10, H⟩ := H
  refine H.mono fun r4 h11 H => ?_
  obtain ⟨s67, rfl, hL11, H⟩ := H
  refine pop_add .i64 s44 1 ?_
  obtain ⟨m_2, hm_2, H⟩ := H
  exact hn3 _ _ ⟨m_2, hm_2, s67, (w64 (s44 + 1)), rfl, H, hL11⟩
def u116 (P : Program) (s0_1 : Sl) (v1_1 : Int) (h : Heap) (K : Value -> Heap -> Prop) : Prop :=
 ∃ J1 : Nat -> Int -> Heap -> Prop, (∃ n0 : Nat, J1 n0 0 h) /\
 ∀ (n1 : Nat) (s8 : Int) (h1 : Heap), J1 n1 s8 h1 -> Vars h1 [] ->
 ((decide (s8 < (s0_1.n : Int))) = true ->
 InB s0_1 s8 /\
 ∃ s15 : Int, hcell h1 (Sl.at s0_1 s8 1) = some (VI s15) /\
 ((decide (v1_1 = s15)) = true ->
 K (VI s8) h1) /\
 ((decide (v1_1 = s15)) = false ->
 ∃ m : Nat, m < n1 /\ J1 m (w64 (s8 + 1)) h1)) /\
 ((decide (s8 < (s0_1.n : Int))) = false ->
 K (VI (-1)) h1)
theorem v116 (s0_1 : Sl) (v1_1 : Int) (h : Heap) (K : Value -> Heap -> Prop) (H : u116 Try.prog s0_1 v1_1 h K) : callM Try.prog 116 #[s0_1.v, (VI v1_1)] h K := by
  refine c116 s0_1.v (VI v1_1) h K ?_
  unfold u116 at H
  unfold t116
  have hL : Vars h [] := .nil
  refine pop_len s0_1 _ _ sli37 ?_
  obtain ⟨J1, ⟨n2, h0_1⟩, HB1⟩ := H
  refine loop_intro (J := fun (n : Nat) (vs : List Value) (h' : Heap) => ∃ s8 : Int, vs = [(VI s8)] /\ J1 n s8 h' /\ Vars h' []) n2 ⟨0, rfl, h0_1, hL⟩ ?_
  intro I1 mu1 hI1 junk1 tv1 h1 hi1
  obtain ⟨n1, ⟨s8, hv, hJ1, hL1⟩, hn1⟩ := hI1 _ _ hi1
  cases hv
  have H := HB1 n1 s8 h1 hJ1 hL1
  refine pop_lss .i64 s8 (s0_1.n : Int) ?_
  refine condM_b (fun hb1 => ?_) (fun hb1 => ?_)
  rotate_left
  ·exact H.2 hb1
  have H := H.1 hb1
  obtain ⟨hi2, H⟩ := H
  refine pop_index sli37 siz3 .i64 s0_1 s8 hi2 ?_
  obtain ⟨s15, hc1, H⟩ := H
  refine rop_one one3 (VI s15) hc1 ?_
  refine pop_ieq .i64 _ _ v1_1 s15 ?_
  refine condM_b (fun hb2 => ?_) (fun hb2 => ?_)
  ·exact H.1 hb2
  have H := H.2 hb2
  refine pop_add .i64 s8 1 ?_
  obtain ⟨m_1, hm_1, H⟩ := H
  exact hn1 _ _ ⟨m_1, hm_1, (w64 (s8 + 1)), rfl, H, hL1⟩
def u117 (P : Program) (s0_1 : Sl) (h : Heap) (K : Value -> Heap -> Prop) : Prop :=
 pop P (binE .eql 37 (.tmp 3) (.const (Value.slice none 0 0)) s0_1.v (Value.slice none 0 0)) fun r1 => ∃ s4 : Bool, r1 = (VB s4) /\ 
 (s4 = true ->
 K nilSl.v h) /\
 (s4 = false ->
 eop P (Instr.buildSlice 37 0 #[]) h fun r2 h1 => ∃ s5 : Sl, r2 = s5.v /\ Vars h1 [] /\
 eop P (appS 37 37 37 s5.v s0_1.v) h1 fun r3 h2 => ∃ s7 : Sl, r3 = s7.v /\ Vars h2 [] /\
 K s7.v h2)
theorem v117 (s0_1 : Sl) (h : Heap) (K : Value -> Heap -> Prop) (H : u117 Try.prog s0_1 h K) : callM Try.prog 117 #[s0_1.v] h K := by
  refine c117 s0_1.v h K ?_
  unfold u117 at H
  unfold t117
  have hL : Vars h [] := .nil
  refine H.mono fun r1 H => ?_
  obtain ⟨s4, rfl, H⟩ := H
  refine condM_b (fun hb1 => ?_) (fun hb1 => ?_)
  ·exact H.1 hb1
  have H := H.2 hb1
  refine H.mono fun r2 h1 H => ?_
  obtain ⟨s5, rfl, hL1, H⟩ := H
  refine H.mono fun r3 h2 H => ?_
  obtain ⟨s7, rfl, hL2, H⟩ := H
  exact H
def u118 (P : Program) (b1 : Nat) (c0_1 : Sl) (c0_2 : Int) (c0_3 : Int) (most1_1 : Int) (h : Heap) (K : Value -> Heap -> Prop) : Prop :=
 ∀ (b2 : Nat) (h1 : Heap), h.size ≤ b2 -> Fr (In []) h h1 -> Vars h1 [(b2, [nilSl.v]), (b1, [c0_1.v, (VI c0_2), (Value.int .u64 c0_3)])] ->
 callM P 70 #[(VP b1 0), (VI most1_1)] h1 fun r1 h2 => ∃ y1 : Sl, ∃ y2 : Int, ∃ y3 : Int, ∃ s13 : Int, r1 = (VI s13) /\ Vars h2 [(b2, [nilSl.v]), (b1, [y1.v, (VI y2), (Value.int .u64 y3)])] /\
 callM P 106 #[(VP b1 0), (VI 4)] h2 fun r2 h3 => ∃ y4 : Sl, ∃ y5 : Int, ∃ y6 : Int, ∃ s16 : Bool, r2 = (VB s16) /\ Vars h3 [(b2, [nilSl.v]), (b1, [y4.v, (VI y5), (Value.int .u64 y6)])] /\
 (s16 = true ->
 callM P 106 #[(VP b1 0), (VI 2)] h3 fun r3 h4 => ∃ y7 : Sl, ∃ y8 : Int, ∃ y9 : Int, ∃ s19 : Bool, r3 = (VB s19) /\ Vars h4 [(b2, [nilSl.v]), (b1, [y7.v, (VI y8), (Value.int .u64 y9)])] /\
 callM P 135 #[(VI (w64 (1 + s13))), (VB s19)] h4 fun r4 h5 => ∃ s20 : Sl, r4 = (.agg #[s20.v]) /\ Vars h5 [(b2, [nilSl.v]), (b1, [y7.v, (VI y8), (Value.int .u64 y9)])] /\
 ∀ (h6 : Heap), Fr (In [b2]) h5 h6 -> Vars h6 [(b2, [s20.v]), (b1, [y7.v, (VI y8), (Value.int .u64 y9)])] ->
 K (.agg #[s20.v]) h6) /\
 (s16 = false ->
 ∀ (b3 : Nat) (h8 : Heap), h3.size ≤ b3 -> Fr (In []) h3 h8 -> Vars h8 [(b3, [nilSl.v]), (b2, [nilSl.v]), (b1, [y4.v, (VI y5), (Value.int .u64 y6)])] ->
 ∃ J1 : Nat -> Int -> Sl -> Sl -> Int -> Int -> Heap -> Prop, (∃ n0 : Nat, J1 n0 0 nilSl y4 y5 y6 h8) /\
 ∀ (n1 : Nat) (p7_1 : Int) (y10 : Sl) (y11 : Sl) (y12 : Int) (y13 : Int) (h9 : Heap), J1 n1 p7_1 y10 y11 y12 y13 h9 -> Vars h9 [(b3, [y10.v]), (b2, [nilSl.v]), (b1, [y11.v, (VI y12), (Value.int .u64 y13)])] ->
 ((decide (p7_1 < (w64 (1 + s13)))) = true ->
 callM P 70 #[(VP b1 0), (VI 3)] h9 fun r5 h10 => ∃ y14 : Sl, ∃ y15 : Int, ∃ y16 : Int, ∃ s28 : Int, r5 = (VI s28) /\ Vars h10 [(b3, [y10.v]), (b2, [nilSl.v]), (b1, [y14.v, (VI y15), (Value.int .u64 y16)])] /\
 ∃ J2 : Nat -> Sl -> Int -> Sl -> Int -> Int -> Heap -> Prop, (∃ n0 : Nat, J2 n0 nilSl (w64 (1 + s28)) y14 y15 y16 h10) /\
 ∀ (n2 : Nat) (list8_1 : Sl) (k9_1 : Int) (y17 : Sl) (y18 : Int) (y19 : Int) (h11 : Heap), J2 n2 list8_1 k9_1 y17 y18 y19 h11 -> Vars h11 [(b3, [y10.v]), (b2, [nilSl.v]), (b1, [y17.v, (VI y18), (Value.int .u64 y19)])] ->
 ((decide (0 < k9_1)) = true ->
 callM P 70 #[(VP b1 0), (VI (w64 (1 + s13)))] h11 fun r6 h12 => ∃ y20 : Sl, ∃ y21 : Int, ∃ y22 : Int, ∃ s37 : Int, r6 = (VI s37) /\ Vars h12 [(b3, [y10.v]), (b2, [nilSl.v]), (b1, [y20.v, (VI y21), (Value.int .u64 y22)])] /\
 eop P (Instr.buildSlice 37 1 #[(0, (VI s37))]) h12 fun r7 h13 => ∃ s38 : Sl, r7 = s38.v /\ Vars h13 [(b3, [y10.v]), (b2, [nilSl.v]), (b1, [y20.v, (VI y21), (Value.int .u64 y22)])] /\
 eop P (appS 37 37 37 list8_1.v s38.v) h13 fun r8 h14 => ∃ s39 : Sl, r8 = s39.v /\ Vars h14 [(b3, [y10.v]), (b2, [nilSl.v]), (b1, [y20.v, (VI y21), (Value.int .u64 y22)])] /\
 ∃ m : Nat, m < n2 /\ J2 m s39 (w64 (k9_1 - 1)) y20 y21 y22 h14) /\
 ((decide (0 < k9_1)) = false ->
 ∃ J3 : Sl -> Sl -> Int -> Int -> Heap -> Prop, (callM P 106 #[(VP b1 0), (VI 8)] h11 fun r9 h15 => ∃ y27 : Sl, ∃ y28 : Int, ∃ y29 : Int, ∃ s41 : Bool, r9 = (VB s41) /\ Vars h15 [(b3, [y10.v]), (b2, [nilSl.v]), (b1, [y27.v, (VI y28), (Value.int .u64 y29)])] /\
 (s41 = true ->
 J3 nilSl y27 y28 y29 h15) /\
 (s41 = false ->
 J3 list8_1 y27 y28 y29 h15)) /\
 ∀ (y23 : Sl) (y24 : Sl) (y25 : Int) (y26 : Int) (h16 : Heap), J3 y23 y24 y25 y26 h16 -> Vars h16 [(b3, [y10.v]), (b2, [nilSl.v]), (b1, [y24.v, (VI y25), (Value.int .u64 y26)])] ->
 eop P (Instr.buildSlice 24 1 #[(0, y23.v)]) h16 fun r10 h17 => ∃ s45 : Sl, r10 = s45.v /\ Vars h17 [(b3, [y10.v]), (b2, [nilSl.v]), (b1, [y24.v, (VI y25), (Value.int .u64 y26)])] /\
 eop P (appS 24 24 24 y10.v s45.v) h17 fun r11 h18 => ∃ s46 : Sl, r11 = s46.v /\ Vars h18 [(b3, [y10.v]), (b2, [nilSl.v]), (b1, [y24.v, (VI y25), (Value.int .u64 y26)])] /\
 ∀ (h19 : Heap), Fr (In [b3]) h18 h19 -> Vars h19 [(b3, [s46.v]), (b2, [nilSl.v]), (b1, [y24.v, (VI y25), (Value.int .u64 y26)])] ->
 ∃ m : Nat, m < n1 /\ J1 m (w64 (p7_1 + 1)) s46 y24 y25 y26 h19)) /\
 ((decide (p7_1 < (w64 (1 + s13)))) = false ->
 callM P 106 #[(VP b1 0), (VI 2)] h9 fun r12 h20 => ∃ y30 : Sl, ∃ y31 : Int, ∃ y32 : Int, ∃ s49 : Bool, r12 = (VB s49) /\ Vars h20 [(b3, [y10.v]), (b2, [nilSl.v]), (b1, [y30.v, (VI y31), (Value.int .u64 y32)])] /\
 (s49 = true ->
 ∃ J4 : Nat -> Int -> Heap -> Prop, (∃ n0 : Nat, J4 n0 0 h20) /\
 ∀ (n4 : Nat) (s53 : Int) (h21 : Heap), J4 n4 s53 h21 -> Vars h21 [(b3, [y10.v]), (b2, [nilSl.v]), (b1, [y30.v, (VI y31), (Value.int .u64 y32)])] ->
 ((decide (s53 < (y10.n : Int))) = true ->
 InB y10 s53 /\
 ∃ s63 : Sl, hcell h21 (Sl.at y10 s53 1) = some s63.v /\
 (w64 (1 + s13)) ≠ 0 /\
 eop P (Instr.buildSlice 37 1 #[(0, (VI (Int.tmod (w64 (s53 + 1)) (w64 (1 + s13)))))]) h21 fun r13 h22 => ∃ s68 : Sl, r13 = s68.v /\ Vars h22 [(b3, [y10.v]), (b2, [nilSl.v]), (b1, [y30.v, (VI y31), (Value.int .u64 y32)])] /\
 hcell h22 (Sl.at y10 s53 1) = some s63.v /\
 eop P (appS 37 37 37 s63.v s68.v) h22 fun r14 h23 => ∃ s69 : Sl, r14 = s69.v /\ Vars h23 [(b3, [y10.v]), (b2, [nilSl.v]), (b1, [y30.v, (VI y31), (Value.int .u64 y32)])] /\
 InB y10 s53 /\
 Writable h23 (Sl.at y10 s53 1) /\ Vars (hset h23 (Sl.at y10 s53 1) s69.v) [(b3, [y10.v]), (b2, [nilSl.v]), (b1, [y30.v, (VI y31), (Value.int .u64 y32)])] /\
 ∀ h24 : Heap, h24 = hset h23 (Sl.at y10 s53 1) s69.v -> Vars h24 [(b3, [y10.v]), (b2, [nilSl.v]), (b1, [y30.v, (VI y31), (Value.int .u64 y32)])] ->
 ∃ m : Nat, m < n4 /\ J4 m (w64 (s53 + 1)) h24) /\
 ((decide (s53 < (y10.n : Int))) = false ->
 ∀ (h25 : Heap), Fr (In [b2]) h21 h25 -> Vars h25 [(b3, [y10.v]), (b2, [y10.v]), (b1, [y30.v, (VI y31), (Value.int .u64 y32)])] ->
 K (.agg #[y10.v]) h25)) /\
 (s49 = false ->
 ∀ (h26 : Heap), Fr (In [b2]) h20 h26 -> Vars h26 [(b3, [y10.v]), (b2, [y10.v]), (b1, [y30.v, (VI y31), (Value.int .u64 y32)])] ->
 K (.agg #[y10.v]) h26)))
theorem v118 (b1 : Nat) (c0_1 : Sl) (c0_2 : Int) (c0_3 : Int) (most1_1 : Int) (h : Heap) (K : Value -> Heap -> Prop) (hL : Vars h [(b1, [c0_1.v, (VI c0_2), (Value.int .u64 c0_3)])]) (H : u118 Try.prog b1 c0_1 c0_2 c0_3 most1_1 h K) : callM Try.prog 118 #[(VP b1 0), (VI most1_1)] h K := by
  refine c118 (VP b1 0) (VI most1_1) h K ?_
  unfold u118 at H
  unfold t118
  refine eop_alloc 26 zer26 rfl hL (fun b2 h1 hb1 hf1 hL1 => ?_)
  have H := H b2 h1 hb1 (Fr.no' (Fr.r (In []) _) hf1) hL1
  refine H.mono fun r1 h2 H => ?_
  obtain ⟨y1, y2, y3, s13, rfl, hL2, H⟩ := H
  refine pop_add .i64 1 s13 ?_
  refine H.mono fun r2 h3 H => ?_
  obtain ⟨y4, y5, y6, s16, rfl, hL3, H⟩ := H
  refine condM_b (fun hb2 => ?_) (fun hb2 => ?_)
  ·have H := H.1 hb2
   refine H.mono fun r3 h4 H => ?_
   obtain ⟨y7, y8, y9, s19, rfl, hL4, H⟩ := H
   refine H.mono fun r4 h5 H => ?_
   obtain ⟨s20, rfl, hL5, H⟩ := H
   refine ul siz26 hL5 0 0 [s20.v] [(b2, [s20.v]), (b1, [y7.v, (VI y8), (Value.int .u64 y9)])] (fun h6 hf2 hL6 => ?_)
   refine ra agg26 hL6 0 0 [s20.v] ?_
   have H := H  h6  (Fr.old (Fr.r (In []) _) hf2) hL6
   exact H
  have H := H.2 hb2
  refine pop.mk' (v := (Value.agg #[nilSl.v])) (fun w => by kernel_rfl) ?_
  refine eop_alloc 26 zer26 rfl hL3 (fun b3 h7 hb3 hf3 hL7 => ?_)
  refine ul siz26 hL7 0 0 [nilSl.v] [(b3, [nilSl.v]), (b2, [nilSl.v]), (b1, [y4.v, (VI y5), (Value.int .u64 y6)])] (fun h8 hf4 hL8 => ?_)
  have H := H b3 h8 hb3 (Fr.new (Fr.no' (Fr.r (In []) _) hf3) hb3 hf4) hL8
  obtain ⟨J1, ⟨n6, h0_3⟩, HB4⟩ := H
  refine loop_intro (J := fun (n : Nat) (vs : List Value) (h' : Heap) => ∃ p7_1 : Int, ∃ y10 : Sl, ∃ y11 : Sl, ∃ y12 : Int, ∃ y13 : Int, vs = [(VI p7_1)] /\ J1 n p7_1 y10 y11 y12 y13 h' /\ Vars h' [(b3, [y10.v]), (b2, [nilSl.v]), (b1, [y11.v, (VI y12), (Value.int .u64 y13)])]) n6 ⟨0, nilSl, y4, y5, y6, rfl, h0_3, hL8⟩ ?_
  intro I3 mu3 hI3 junk1 tv5 h9 hi1
  obtain ⟨n1, ⟨p7_1, y10, y11, y12, y13, hv, hJ1, hL9⟩, hn1⟩ := hI3 _ _ hi1
  cases hv
  have H := HB4 n1 p7_1 y10 y11 y12 y13 h9 hJ1 hL9
  refine pop_lss .i64 p7_1 (w64 (1 + s13)) ?_
  refine condM_b (fun hb4 => ?_) (fun hb4 => ?_)
  ·have H := H.1 hb4
   refine H.mono fun r5 h10 H => ?_
   obtain ⟨y14, y15, y16, s28, rfl, hL10, H⟩ := H
   refine pop_add .i64 1 s28 ?_
   obtain ⟨J2, ⟨n3, h0_1⟩, HB2⟩ := H
   refine loop_intro (J := fun (n : Nat) (vs : List Value) (h' : Heap) => ∃ list8_1 : Sl, ∃ k9_1 : Int, ∃ y17 : Sl, ∃ y18 : Int, ∃ y19 : Int, vs = [list8_1.v, (VI k9_1)] /\ J2 n list8_1 k9_1 y17 y18 y19 h' /\ Vars h' [(b3, [y10.v]), (b2, [nilSl.v]), (b1, [y17.v, (VI y18), (Value.int .u64 y19)])]) n3 ⟨nilSl, (w64 (1 + s28)), y14, y15, y16, rfl, h0_1, hL10⟩ ?_
   intro I1 mu1 hI1 junk2 tv2 tv3 h11 hi2
   obtain ⟨n2, ⟨list8_1, k9_1, y17, y18, y19, hv, hJ2, hL11⟩, hn2⟩ := hI1 _ _ hi2
   cases hv
   have H := HB2 n2 list8_1 k9_1 y17 y18 y19 h11 hJ2 hL11
   refine pop_gtr .i64 k9_1 0 ?_
   refine condM_b (fun hb5 => ?_) (fun hb5 => ?_)
   ·have H := H.1 hb5
    refine H.mono fun r6 h12 H => ?_
    obtain ⟨y20, y21, y22, s37, rfl, hL12, H⟩ := H
    refine H.mono fun r7 h13 H => ?_
    obtain ⟨s38, rfl, hL13, H⟩ := H
    refine H.mono fun r8 h14 H => ?_
    obtain ⟨s39, rfl, hL14, H⟩ := H
    refine pop_sub .i64 k9_1 1 ?_
    obtain ⟨m_1, hm_1, H⟩ := H
    exact hn2 _ _ ⟨m_1, hm_1, s39, (w64 (k9_1 - 1)), y20, y21, y22, rfl, H, hL14⟩
   have H := H.2 hb5
   obtain ⟨J3, H, HB1⟩ := H
   refine ⟨fun (vs : List Value) (h' : Heap) => ∃ y23 : Sl, ∃ y24 : Sl, ∃ y25 : Int, ∃ y26 : Int, vs = [y23.v] /\ J3 y23 y24 y25 y26 h' /\ Vars h' [(b3, [y10.v]), (b2, [nilSl.v]), (b1, [y24.v, (VI y25), (Value.int .u64 y26)])], ?_, ?_⟩
   ·refine H.mono fun r9 h15 H => ?_
    obtain ⟨y27, y28, y29, s41, rfl, hL15, H⟩ := H
    refine condM_b (fun hb6 => ?_) (fun hb6 => ?_)
    ·have H := H.1 hb6
     exact ⟨nilSl, y27, y28, y29, rfl, H, hL15⟩
    have H := H.2 hb6
    exact ⟨list8_1, y27, y28, y29, rfl, H, hL15⟩
   intro junk3 tv1 h16
   rintro ⟨y23, y24, y25, y26, hv, hJ3, hL16⟩
   cases hv
   have H := HB1 y23 y24 y25 y26 h16 hJ3 hL16
   refine pop_field 0 fld26_0 b3 0 ?_
   refine rl one24 hL16 0 0 y10.v ?_
   refine H.mono fun r10 h17 H => ?_
   obtain ⟨s45, rfl, hL17, H⟩ := H
   refine H.mono fun r11 h18 H => ?_
   obtain ⟨s46, rfl, hL18, H⟩ := H
   refine pop_field 0 fld26_0 b3 0 ?_
   refine ul siz24 hL18 0 0 [s46.v] [(b3, [s46.v]), (b2, [nilSl.v]), (b1, [y24.v, (VI y25), (Value.int .u64 y26)])] (fun h19 hf5 hL19 => ?_)
   refine pop_add .i64 p7_1 1 ?_
   have H := H  h19  (Fr.old (Fr.r (In []) _) hf5) hL19
   obtain ⟨m_2, hm_2, H⟩ := H
   exact hn1 _ _ ⟨m_2, hm_2, (w64 (p7_1 + 1)), s46, y24, y25, y26, rfl, H, hL19⟩
  have H := H.2 hb4
  refine H.mono fun r12 h20 H => ?_
  obtain ⟨y30, y31, y32, s49, rfl, hL20, H⟩ := H
  refine condM_b (fun hb7 => ?_) (fun hb7 => ?_)
  rotate_left
  ·have H := H.2 hb7
   refine ra agg26 hL20 0 0 [y10.v] ?_
   refine ul siz26 hL20 1 0 [y10.v] [(b3, [y10.v]), (b2, [y10.v]), (b1, [y30.v, (VI y31), (Value.int .u64 y32)])] (fun h26 hf7 hL26 => ?_)
   refine ra agg26 hL26 1 0 [y10.v] ?_
   have H := H  h26  (Fr.old (Fr.r (In []) _) hf7) hL26
   exact H
  have H := H.1 hb7
  refine pop_field 0 fld26_0 b3 0 ?_
  refine rl one24 hL20 0 0 y10.v ?_
  refine pop_len y10 _ _ sli24 ?_
  obtain ⟨J4, ⟨n5, h0_2⟩, HB3⟩ := H
  refine loop_intro (J := fun (n : Nat) (vs : List Value) (h' : Heap) => ∃ s53 : Int, vs = [(VI s53)] /\ J4 n s53 h' /\ Vars h' [(b3, [y10.v]), (b2, [nilSl.v]), (b1, [y30.v, (VI y31), (Value.int .u64 y32)])]) n5 ⟨0, rfl, h0_2, hL20⟩ ?_
  intro I2 mu2 hI2 junk4 tv4 h21 hi3
  obtain ⟨n4, ⟨s53, hv, hJ4, hL21⟩, hn3⟩ := hI2 _ _ hi3
  cases hv
  have H := HB3 n4 s53 h21 hJ4 hL21
  refine pop_lss .i64 s53 (y10.n : Int) ?_
  refine condM_b (fun hb8 => ?_) (fun hb8 => ?_)
  rotate_left
  ·have H := H.2 hb8
   refine ra agg26 hL21 0 0 [y10.v] ?_
   refine ul siz26 hL21 1 0 [y10.v] [(b3, [y10.v]), (b2, [y10.v]), (b1, [y30.v, (VI y31), (Value.int .u64 y32)])] (fun h25 hf6 hL25 => ?_)
   refine ra agg26 hL25 1 0 [y10.v] ?_
   have H := H  h25  (Fr.old (Fr.r (In []) _) hf6) hL25
   exact H
  have H := H.1 hb8
  refine pop_field 0 fld26_0 b3 0 ?_
  refine rl one24 hL21 0 0 y10.v ?_
  refine pop_field 0 fld26_0 b3 0 ?_
  refine rl one24 hL21 0 0 y10.v ?_
  obtain ⟨hi4, H⟩ := H
  refine pop_index sli24 siz37 .i64 y10 s53 hi4 ?_
  obtain ⟨s63, hc2, H⟩ := H
  refine rop_one one37 s63.v hc2 ?_
  refine pop_add .i64 s53 1 ?_
  obtain ⟨hz_1, H⟩ := H
  refine pop_rem .i64 (w64 (s53 + 1)) (w64 (1 + s13)) hz_1 ?_
  refine H.mono fun r13 h22 H => ?_
  obtain ⟨s68, rfl, hL22, H⟩ := H
  refine ⟨?_, ?_⟩
  ·exact still_one one37 H.1
  obtain ⟨hc1, H⟩ := H
  refine ⟨?_, ?_⟩
  ·exact still_loc one24 hL22 0 rfl 0 (v := y10.v) rfl
  refine ⟨?_, ?_⟩
  ·exact still_loc one24 hL22 0 rfl 0 (v := y10.v) rfl
  refine H.mono fun r14 h23 H => ?_
  obtain ⟨s69, rfl, hL23, H⟩ := H
  refine ⟨?_, ?_⟩
  ·exact still_loc one24 hL23 0 rfl 0 (v := y10.v) rfl
  refine ⟨?_, ?_⟩
  ·exact still_loc one24 hL23 0 rfl 0 (v := y10.v) rfl
  obtain ⟨hi5, H⟩ := H
  refine pop_index sli24 siz37 .i64 y10 s53 hi5 ?_
  obtain ⟨hw_1, hL24, H⟩ := H
  refine uop_cell (v := s69.v) siz37 hw_1 rfl (fun h24 he_1 => ?_)
  rw [← he_1] at hL24
  have H := H h24 he_1 hL24
  refine pop_add .i64 s53 1 ?_
  obtain ⟨m_3, hm_3, H⟩ := H
  exact hn3 _ _ ⟨m_3, hm_3, (w64 (s53 + 1)), rfl, H, hL24⟩
def u119 (P : Program) (b1 : Nat) (c0_1 : Sl) (c0_2 : Int) (c0_3 : Int) (h : Heap) (K : Value -> Heap -> Prop) : Prop :=
 ∃ J1 : Int -> Heap -> Prop, (((decide (c0_2 < (c0_1.n : Int))) = true ->
 InB c0_1 c0_2 /\
 ∃ s23 : Int, hcell h (Sl.at c0_1 c0_2 1) = some (Value.int .u8 s23) /\
 rop P (convert 5 3 (Value.int .u8 s23)) h fun r1 => ∃ s24 : Int, r1 = (VI s24) /\ 
 J1 s24 h) /\
 ((decide (c0_2 < (c0_1.n : Int))) = false ->
 J1 0 h)) /\
 ∀ (y1 : Int) (h1 : Heap), J1 y1 h1 -> Vars h1 [(b1, [c0_1.v, (VI c0_2), (Value.int .u64 c0_3)])] ->
 ∀ (h2 : Heap), Fr (In [b1]) h1 h2 -> Vars h2 [(b1, [c0_1.v, (VI (w64 (c0_2 + 1))), (Value.int .u64 c0_3)])] ->
 rop P (convert 3 67 (VI y1)) h2 fun r2 => ∃ s39 : Int, r2 = (Value.int .u64 s39) /\ 
 ((decide ((w64 (c0_2 + 1)) ≤ (c0_1.n : Int))) = true ->
 ∀ (h3 : Heap), Fr (In [b1]) h2 h3 -> Vars h3 [(b1, [c0_1.v, (VI (w64 (c0_2 + 1))), (Value.int .u64 (IntKind.wrap .u64 ((IntKind.wrap .u64 ((IntKind.wrap .u64 (c0_3 * 6364136223846793005)) + s39)) + 1442695040888963407)))])] ->
 K (VI y1) h3) /\
 ((decide ((w64 (c0_2 + 1)) ≤ (c0_1.n : Int))) = false ->
 pop P (binA .shr 67 (Value.int .u64 (IntKind.wrap .u64 ((IntKind.wrap .u64 ((IntKind.wrap .u64 (c0_3 * 6364136223846793005)) + s39)) + 1442695040888963407))) (Value.int IntKind.u64 40)) fun r3 => ∃ s59 : Int, r3 = (Value.int .u64 s59) /\ 
 pop P (binA .and 67 (Value.int .u64 s59) (Value.int IntKind.u64 255)) fun r4 => ∃ s60 : Int, r4 = (Value.int .u64 s60) /\ 
 ∀ (h3 : Heap), Fr (In [b1]) h2 h3 -> Vars h3 [(b1, [c0_1.v, (VI (w64 (c0_2 + 1))), (Value.int .u64 (IntKind.wrap .u64 ((IntKind.wrap .u64 ((IntKind.wrap .u64 (c0_3 * 6364136223846793005)) + s39)) + 1442695040888963407)))])] ->
 rop P (convert 67 3 (Value.int .u64 s60)) h3 fun r5 => ∃ s61 : Int, r5 = (VI s61) /\ 
 K (VI s61) h3)
theorem v119 (b1 : Nat) (c0_1 : Sl) (c0_2 : Int) (c0_3 : Int) (h : Heap) (K : Value -> Heap -> Prop) (hL : Vars h [(b1, [c0_1.v, (VI c0_2), (Value.int .u64 c0_3)])]) (H : u119 Try.prog b1 c0_1 c0_2 c0_3 h K) : callM Try.prog 119 #[(VP b1 0)] h K := by
  refine c119 (VP b1 0) h K ?_
  unfold u119 at H
  unfold t119
  obtain ⟨J1, H, HB1⟩ := H
  refine ⟨fun (vs : List Value) (h' : Heap) => ∃ y1 : Int, vs = [(VI y1)] /\ J1 y1 h' /\ Vars h' [(b1, [c0_1.v, (VI c0_2), (Value.int .u64 c0_3)])], ?_, ?_⟩
  ·refine pop_nil _ ?_
   refine pop_field 1 fld69_1 b1 0 ?_
   refine rl one3 hL 0 1 (VI c0_2) ?_
   refine pop_nil _ ?_
   refine pop_field 0 fld69_0 b1 0 ?_
   refine rl one22 hL 0 0 c0_1.v ?_
   refine pop_len c0_1 _ _ sli22 ?_
   refine pop_lss .i64 c0_2 (c0_1.n : Int) ?_
   refine condM_b (fun hb1 => ?_) (fun hb1 => ?_)
   rotate_left
   ·have H := H.2 hb1
    exact ⟨0, rfl, H, hL⟩
   have H := H.1 hb1
   refine pop_nil _ ?_
   refine pop_field 0 fld69_0 b1 0 ?_
   refine rl one22 hL 0 0 c0_1.v ?_
   refine pop_nil _ ?_
   refine pop_field 1 fld69_1 b1 0 ?_
   refine rl one3 hL 0 1 (VI c0_2) ?_
   obtain ⟨hi1, H⟩ := H
   refine pop_index sli22 siz5 .i64 c0_1 c0_2 hi1 ?_
   obtain ⟨s23, hc1, H⟩ := H
   refine rop_one one5 (Value.int .u8 s23) hc1 ?_
   refine H.mono fun r1 H => ?_
   obtain ⟨s24, rfl, H⟩ := H
   exact ⟨s24, rfl, H, hL⟩
  intro junk1 tv1 h1
  rintro ⟨y1, hv, hJ1, hL1⟩
  cases hv
  have H := HB1 y1 h1 hJ1 hL1
  refine pop_nil _ ?_
  refine pop_field 1 fld69_1 b1 0 ?_
  refine rl one3 hL1 0 1 (VI c0_2) ?_
  refine pop_add .i64 c0_2 1 ?_
  refine pop_nil _ ?_
  refine pop_field 1 fld69_1 b1 0 ?_
  refine ul siz3 hL1 0 1 [(VI (w64 (c0_2 + 1)))] [(b1, [c0_1.v, (VI (w64 (c0_2 + 1))), (Value.int .u64 c0_3)])] (fun h2 hf1 hL2 => ?_)
  refine pop_nil _ ?_
  refine pop_field 2 fld69_2 b1 0 ?_
  refine rl one67 hL2 0 2 (Value.int .u64 c0_3) ?_
  refine pop_mul .u64 c0_3 6364136223846793005 ?_
  have H := H  h2  (Fr.old (Fr.r (In []) _) hf1) hL2
  refine H.mono fun r2 H => ?_
  obtain ⟨s39, rfl, H⟩ := H
  refine pop_add .u64 (IntKind.wrap .u64 (c0_3 * 6364136223846793005)) s39 ?_
  refine pop_add .u64 (IntKind.wrap .u64 ((IntKind.wrap .u64 (c0_3 * 6364136223846793005)) + s39)) 1442695040888963407 ?_
  refine pop_nil _ ?_
  refine pop_field 2 fld69_2 b1 0 ?_
  refine ul siz67 hL2 0 2 [(Value.int .u64 (IntKind.wrap .u64 ((IntKind.wrap .u64 ((IntKind.wrap .u64 (c0_3 * 6364136223846793005)) + s39)) + 1442695040888963407)))] [(b1, [c0_1.v, (VI (w64 (c0_2 + 1))), (Value.int .u64 (IntKind.wrap .u64 ((IntKind.wrap .u64 ((IntKind.wrap .u64 (c0_3 * 6364136223846793005)) + s39)) + 1442695040888963407)))])] (fun h3 hf2 hL3 => ?_)
  refine pop_nil _ ?_
  refine pop_field 1 fld69_1 b1 0 ?_
  refine rl one3 hL3 0 1 (VI (w64 (c0_2 + 1))) ?_
  refine pop_nil _ ?_
  refine pop_field 0 fld69_0 b1 0 ?_
  refine rl one22 hL3 0 0 c0_1.v ?_
  refine pop_len c0_1 _ _ sli22 ?_
  refine pop_leq .i64 (w64 (c0_2 + 1)) (c0_1.n : Int) ?_
  refine condM_b (fun hb2 => ?_) (fun hb2 => ?_)
  ·have H := H.1 hb2
   have H := H  h3  (Fr.old (Fr.r (In []) _) hf2) hL3
   exact H
  have H := H.2 hb2
  refine pop_nil _ ?_
  refine pop_field 2 fld69_2 b1 0 ?_
  refine rl one67 hL3 0 2 (Value.int .u64 (IntKind.wrap .u64 ((IntKind.wrap .u64 ((IntKind.wrap .u64 (c0_3 * 6364136223846793005)) + s39)) + 1442695040888963407))) ?_
  refine H.mono fun r3 H => ?_
  obtain ⟨s59, rfl, H⟩ := H
  refine H.mono fun r4 H => ?_
  obtain ⟨s60, rfl, H⟩ := H
  have H := H  h3  (Fr.old (Fr.r (In []) _) hf2) hL3
  refine H.mono fun r5 H => ?_
  obtain ⟨s61, rfl, H⟩ := H
  exact H
def u120 (P : Program) (g0_1 : Sl) (h : Heap) (K : Value -> Heap -> Prop) : Prop :=
 ∀ (b1 : Nat) (h1 : Heap), h.size ≤ b1 -> Fr (In []) h h1 -> Vars h1 [(b1, [g0_1.v])] ->
 callM P 73 #[(VI (g0_1.n : Int)), (VI 1), (VI 8)] h1 fun r1 h2 => ∃ s10 : Bool, r1 = (VB s10) /\ Vars h2 [(b1, [g0_1.v])] /\
 ((!s10) = true ->
 K (VB false) h2) /\
 ((!s10) = false ->
 ∃ J1 : Nat -> Int -> Heap -> Prop, (∃ n0 : Nat, J1 n0 0 h2) /\
 ∀ (n1 : Nat) (s15 : Int) (h3 : Heap), J1 n1 s15 h3 -> Vars h3 [(b1, [g0_1.v])] ->
 ((decide (s15 < (g0_1.n : Int))) = true ->
 InB g0_1 s15 /\
 ∃ s18 : Sl, hcell h3 (Sl.at g0_1 s15 1) = some s18.v /\
 ((decide (5 < (s18.n : Int))) = true ->
 K (VB false) h3) /\
 ((decide (5 < (s18.n : Int))) = false ->
 callM P 108 #[s18.v, (VI 0), (VI (w64 ((g0_1.n : Int) - 1)))] h3 fun r2 h4 => ∃ s26 : Bool, r2 = (VB s26) /\ Vars h4 [(b1, [g0_1.v])] /\
 ((!s26) = true ->
 K (VB false) h4) /\
 ((!s26) = false ->
 ∃ m : Nat, m < n1 /\ J1 m (w64 (s15 + 1)) h4))) /\
 ((decide (s15 < (g0_1.n : Int))) = false ->
 K (VB true) h3))
theorem v120 (g0_1 : Sl) (h : Heap) (K : Value -> Heap -> Prop) (H : u120 Try.prog g0_1 h K) : callM Try.prog 120 #[(Value.agg #[g0_1.v])] h K := by
  refine c120 (Value.agg #[g0_1.v]) h K ?_
  unfold u120 at H
  unfold t120
  have hL : Vars h [] := .nil
  refine eop_box 26 (Value.agg #[g0_1.v]) rfl hL (fun b1 h1 hb1 hf1 hL1 => ?_)
  refine pop_field 0 fld26_0 b1 0 ?_
  refine rl one24 hL1 0 0 g0_1.v ?_
  refine pop_len g0_1 _ _ sli24 ?_
  have H := H b1 h1 hb1 (Fr.no' (Fr.r (In []) _) hf1) hL1
  refine H.mono fun r1 h2 H => ?_
  obtain ⟨s10, rfl, hL2, H⟩ := H
  refine pop_not s10 ?_
  refine condM_b (fun hb2 => ?_) (fun hb2 => ?_)
  ·exact H.1 hb2
  have H := H.2 hb2
  refine pop_field 0 fld26_0 b1 0 ?_
  refine rl one24 hL2 0 0 g0_1.v ?_
  refine pop_len g0_1 _ _ sli24 ?_
  obtain ⟨J1, ⟨n2, h0_1⟩, HB1⟩ := H
  refine loop_intro (J := fun (n : Nat) (vs : List Value) (h' : Heap) => ∃ s15 : Int, vs = [(VI s15)] /\ J1 n s15 h' /\ Vars h' [(b1, [g0_1.v])]) n2 ⟨0, rfl, h0_1, hL2⟩ ?_
  intro I1 mu1 hI1 junk1 tv1 h3 hi1
  obtain ⟨n1, ⟨s15, hv, hJ1, hL3⟩, hn1⟩ := hI1 _ _ hi1
  cases hv
  have H := HB1 n1 s15 h3 hJ1 hL3
  refine pop_lss .i64 s15 (g0_1.n : Int) ?_
  refine condM_b (fun hb3 => ?_) (fun hb3 => ?_)
  rotate_left
  ·exact H.2 hb3
  have H := H.1 hb3
  obtain ⟨hi2, H⟩ := H
  refine pop_index sli24 siz37 .i64 g0_1 s15 hi2 ?_
  obtain ⟨s18, hc1, H⟩ := H
  refine rop_one one37 s18.v hc1 ?_
  refine pop_len s18 _ _ sli37 ?_
  refine pop_gtr .i64 (s18.n : Int) 5 ?_
  refine guardM_sf (fun hb4 => ?_) (fun hb4 => ?_)
  rotate_left
  ·have H := H.1 hb4
   refine gm hb4 ?_
   refine gm hb4 ?_
   refine gm hb4 ?_
   refine gm hb4 ?_
   refine pop_pickt' hb4 ?_
   refine condM_t ?_
   exact H
  have H := H.2 hb4
  refine gy hb4 ?_
  refine gy hb4 ?_
  refine pop_sub .i64 (g0_1.n : Int) 1 ?_
  refine gy hb4 ?_
  refine H.mono fun r2 h4 H => ?_
  obtain ⟨s26, rfl, hL4, H⟩ := H
  refine gy hb4 ?_
  refine pop_not s26 ?_
  refine pop_pickf' hb4 ?_
  refine condM_b (fun hb5 => ?_) (fun hb5 => ?_)
  ·exact H.1 hb5
  have H := H.2 hb5
  refine pop_add .i64 s15 1 ?_
  obtain ⟨m_1, hm_1, H⟩ := H
  exact hn1 _ _ ⟨m_1, hm_1, (w64 (s15 + 1)), rfl, H, hL4⟩
def u121 (P : Program) (l0_1 : Sl) (h : Heap) (K : Value -> Heap -> Prop) : Prop :=
 eop P (Instr.buildSlice 37 0 #[]) h fun r1 h1 => ∃ s3 : Sl, r1 = s3.v /\ Vars h1 [] /\
 eop P (appS 37 37 37 s3.v l0_1.v) h1 fun r2 h2 => ∃ s5 : Sl, r2 = s5.v /\ Vars h2 [] /\
 K s5.v h2
theorem v121 (l0_1 : Sl) (h : Heap) (K : Value -> Heap -> Prop) (H : u121 Try.prog l0_1 h K) : callM Try.prog 121 #[l0_1.v] h K := by
  refine c121 l0_1.v h K ?_
  unfold u121 at H
  unfold t121
  have hL : Vars h [] := .nil
  refine H.mono fun r1 h1 H => ?_
  obtain ⟨s3, rfl, hL1, H⟩ := H
  refine H.mono fun r2 h2 H => ?_
  obtain ⟨s5, rfl, hL2, H⟩ := H
  exact H
def u122 (P : Program) (b1 : Nat) (c0_1 : Sl) (c0_2 : Int) (c0_3 : Int) (g1_1 : Sl) (h : Heap) (K : Value -> Heap -> Prop) : Prop :=
 ∀ (b2 : Nat) (b3 : Nat) (h2 : Heap), h.size ≤ b2 -> h.size ≤ b3 -> Fr (In []) h h2 -> Vars h2 [(b3, [nilSl.v, (VI 0)]), (b2, [g1_1.v]), (b1, [c0_1.v, (VI c0_2), (Value.int .u64 c0_3)])] ->
 callM P 70 #[(VP b1 0), (VI (g1_1.n : Int))] h2 fun r1 h3 => ∃ y1 : Sl, ∃ y2 : Int, ∃ y3 : Int, ∃ s13 : Int, r1 = (VI s13) /\ Vars h3 [(b3, [nilSl.v, (VI 0)]), (b2, [g1_1.v]), (b1, [y1.v, (VI y2), (Value.int .u64 y3)])] /\
 ∀ (b4 : Nat) (h5 : Heap), h3.size ≤ b4 -> Fr (In []) h3 h5 -> Vars h5 [(b4, [nilSl.v, (VI s13)]), (b3, [nilSl.v, (VI 0)]), (b2, [g1_1.v]), (b1, [y1.v, (VI y2), (Value.int .u64 y3)])] ->
 ∃ J1 : Nat -> Int -> Sl -> Int -> Sl -> Int -> Int -> Heap -> Prop, (∃ n0 : Nat, J1 n0 0 nilSl s13 y1 y2 y3 h5) /\
 ∀ (n1 : Nat) (s18 : Int) (y4 : Sl) (y5 : Int) (y6 : Sl) (y7 : Int) (y8 : Int) (h6 : Heap), J1 n1 s18 y4 y5 y6 y7 y8 h6 -> Vars h6 [(b4, [y4.v, (VI y5)]), (b3, [nilSl.v, (VI 0)]), (b2, [g1_1.v]), (b1, [y6.v, (VI y7), (Value.int .u64 y8)])] ->
 ((decide (s18 < (g1_1.n : Int))) = true ->
 InB g1_1 s18 /\
 ∃ s21 : Sl, hcell h6 (Sl.at g1_1 s18 1) = some s21.v /\
 ∃ J2 : Int -> Sl -> Int -> Int -> Heap -> Prop, (((decide (0 < (s21.n : Int))) = true ->
 callM P 70 #[(VP b1 0), (VI (s21.n : Int))] h6 fun r2 h7 => ∃ y13 : Sl, ∃ y14 : Int, ∃ y15 : Int, ∃ s28 : Int, r2 = (VI s28) /\ Vars h7 [(b4, [y4.v, (VI y5)]), (b3, [nilSl.v, (VI 0)]), (b2, [g1_1.v]), (b1, [y13.v, (VI y14), (Value.int .u64 y15)])] /\
 J2 s28 y13 y14 y15 h7) /\
 ((decide (0 < (s21.n : Int))) = false ->
 J2 0 y6 y7 y8 h6)) /\
 ∀ (y9 : Int) (y10 : Sl) (y11 : Int) (y12 : Int) (h8 : Heap), J2 y9 y10 y11 y12 h8 -> Vars h8 [(b4, [y4.v, (VI y5)]), (b3, [nilSl.v, (VI 0)]), (b2, [g1_1.v]), (b1, [y10.v, (VI y11), (Value.int .u64 y12)])] ->
 eop P (Instr.buildSlice 37 1 #[(0, (VI y9))]) h8 fun r3 h9 => ∃ s32 : Sl, r3 = s32.v /\ Vars h9 [(b4, [y4.v, (VI y5)]), (b3, [nilSl.v, (VI 0)]), (b2, [g1_1.v]), (b1, [y10.v, (VI y11), (Value.int .u64 y12)])] /\
 eop P (appS 37 37 37 y4.v s32.v) h9 fun r4 h10 => ∃ s33 : Sl, r4 = s33.v /\ Vars h10 [(b4, [y4.v, (VI y5)]), (b3, [nilSl.v, (VI 0)]), (b2, [g1_1.v]), (b1, [y10.v, (VI y11), (Value.int .u64 y12)])] /\
 ∀ (h11 : Heap), Fr (In [b4]) h10 h11 -> Vars h11 [(b4, [s33.v, (VI y5)]), (b3, [nilSl.v, (VI 0)]), (b2, [g1_1.v]), (b1, [y10.v, (VI y11), (Value.int .u64 y12)])] ->
 ∃ m : Nat, m < n1 /\ J1 m (w64 (s18 + 1)) s33 y5 y10 y11 y12 h11) /\
 ((decide (s18 < (g1_1.n : Int))) = false ->
 ∀ (h12 : Heap), Fr (In [b3]) h6 h12 -> Vars h12 [(b4, [y4.v, (VI y5)]), (b3, [y4.v, (VI y5)]), (b2, [g1_1.v]), (b1, [y6.v, (VI y7), (Value.int .u64 y8)])] ->
 K (.agg #[y4.v, (VI y5)]) h12)
theorem v122 (b1 : Nat) (c0_1 : Sl) (c0_2 : Int) (c0_3 : Int) (g1_1 : Sl) (h : Heap) (K : Value -> Heap -> Prop) (hL : Vars h [(b1, [c0_1.v, (VI c0_2), (Value.int .u64 c0_3)])]) (H : u122 Try.prog b1 c0_1 c0_2 c0_3 g1_1 h K) : callM Try.prog 122 #[(VP b1 0), (Value.agg #[g1_1.v])] h K := by
  refine c122 (VP b1 0) (Value.agg #[g1_1.v]) h K ?_
  unfold u122 at H
  unfold t122
  refine eop_box 26 (Value.agg #[g1_1.v]) rfl hL (fun b2 h1 hb1 hf1 hL1 => ?_)
  refine eop_alloc 114 zer114 rfl hL1 (fun b3 h2 hb2 hf2 hL2 => ?_)
  refine pop_field 0 fld26_0 b2 0 ?_
  refine rl one24 hL2 1 0 g1_1.v ?_
  refine pop_len g1_1 _ _ sli24 ?_
  have H := H b2 b3 h2 hb1 (Nat.le_trans (Fr.size (Fr.no' (Fr.r (In []) _) hf1)) hb2) (Fr.no' (Fr.no' (Fr.r (In []) _) hf1) hf2) hL2
  refine H.mono fun r1 h3 H => ?_
  obtain ⟨y1, y2, y3, s13, rfl, hL3, H⟩ := H
  refine pop.mk' (v := (Value.agg #[nilSl.v, (VI s13)])) (fun w => by kernel_rfl) ?_
  refine eop_alloc 114 zer114 rfl hL3 (fun b4 h4 hb3 hf3 hL4 => ?_)
  refine ul siz114 hL4 0 0 [nilSl.v, (VI s13)] [(b4, [nilSl.v, (VI s13)]), (b3, [nilSl.v, (VI 0)]), (b2, [g1_1.v]), (b1, [y1.v, (VI y2), (Value.int .u64 y3)])] (fun h5 hf4 hL5 => ?_)
  refine pop_field 0 fld26_0 b2 0 ?_
  refine rl one24 hL5 2 0 g1_1.v ?_
  refine pop_len g1_1 _ _ sli24 ?_
  have H := H b4 h5 hb3 (Fr.new (Fr.no' (Fr.r (In []) _) hf3) hb3 hf4) hL5
  obtain ⟨J1, ⟨n2, h0_1⟩, HB2⟩ := H
  refine loop_intro (J := fun (n : Nat) (vs : List Value) (h' : Heap) => ∃ s18 : Int, ∃ y4 : Sl, ∃ y5 : Int, ∃ y6 : Sl, ∃ y7 : Int, ∃ y8 : Int, vs = [(VI s18)] /\ J1 n s18 y4 y5 y6 y7 y8 h' /\ Vars h' [(b4, [y4.v, (VI y5)]), (b3, [nilSl.v, (VI 0)]), (b2, [g1_1.v]), (b1, [y6.v, (VI y7), (Value.int .u64 y8)])]) n2 ⟨0, nilSl, s13, y1, y2, y3, rfl, h0_1, hL5⟩ ?_
  intro I1 mu1 hI1 junk1 tv2 h6 hi1
  obtain ⟨n1, ⟨s18, y4, y5, y6, y7, y8, hv, hJ1, hL6⟩, hn1⟩ := hI1 _ _ hi1
  cases hv
  have H := HB2 n1 s18 y4 y5 y6 y7 y8 h6 hJ1 hL6
  refine pop_lss .i64 s18 (g1_1.n : Int) ?_
  refine condM_b (fun hb4 => ?_) (fun hb4 => ?_)
  rotate_left
  ·have H := H.2 hb4
   refine ra agg114 hL6 0 0 [y4.v, (VI y5)] ?_
   refine ul siz114 hL6 1 0 [y4.v, (VI y5)] [(b4, [y4.v, (VI y5)]), (b3, [y4.v, (VI y5)]), (b2, [g1_1.v]), (b1, [y6.v, (VI y7), (Value.int .u64 y8)])] (fun h12 hf6 hL12 => ?_)
   refine ra agg114 hL12 1 0 [y4.v, (VI y5)] ?_
   have H := H  h12  (Fr.old (Fr.r (In []) _) hf6) hL12
   exact H
  have H := H.1 hb4
  obtain ⟨hi2, H⟩ := H
  refine pop_index sli24 siz37 .i64 g1_1 s18 hi2 ?_
  obtain ⟨s21, hc1, H⟩ := H
  refine rop_one one37 s21.v hc1 ?_
  obtain ⟨J2, H, HB1⟩ := H
  refine ⟨fun (vs : List Value) (h' : Heap) => ∃ y9 : Int, ∃ y10 : Sl, ∃ y11 : Int, ∃ y12 : Int, vs = [(VI y9)] /\ J2 y9 y10 y11 y12 h' /\ Vars h' [(b4, [y4.v, (VI y5)]), (b3, [nilSl.v, (VI 0)]), (b2, [g1_1.v]), (b1, [y10.v, (VI y11), (Value.int .u64 y12)])], ?_, ?_⟩
  ·refine pop_len s21 _ _ sli37 ?_
   refine pop_gtr .i64 (s21.n : Int) 0 ?_
   refine condM_b (fun hb5 => ?_) (fun hb5 => ?_)
   rotate_left
   ·have H := H.2 hb5
    exact ⟨0, y6, y7, y8, rfl, H, hL6⟩
   have H := H.1 hb5
   refine pop_len s21 _ _ sli37 ?_
   refine H.mono fun r2 h7 H => ?_
   obtain ⟨y13, y14, y15, s28, rfl, hL7, H⟩ := H
   exact ⟨s28, y13, y14, y15, rfl, H, hL7⟩
  intro junk2 tv1 h8
  rintro ⟨y9, y10, y11, y12, hv, hJ2, hL8⟩
  cases hv
  have H := HB1 y9 y10 y11 y12 h8 hJ2 hL8
  refine pop_field 0 fld114_0 b4 0 ?_
  refine rl one37 hL8 0 0 y4.v ?_
  refine H.mono fun r3 h9 H => ?_
  obtain ⟨s32, rfl, hL9, H⟩ := H
  refine H.mono fun r4 h10 H => ?_
  obtain ⟨s33, rfl, hL10, H⟩ := H
  refine pop_field 0 fld114_0 b4 0 ?_
  refine ul siz37 hL10 0 0 [s33.v] [(b4, [s33.v, (VI y5)]), (b3, [nilSl.v, (VI 0)]), (b2, [g1_1.v]), (b1, [y10.v, (VI y11), (Value.int .u64 y12)])] (fun h11 hf5 hL11 => ?_)
  refine pop_add .i64 s18 1 ?_
  have H := H  h11  (Fr.old (Fr.r (In []) _) hf5) hL11
  obtain ⟨m_1, hm_1, H⟩ := H
  exact hn1 _ _ ⟨m_1, hm_1, (w64 (s18 + 1)), s33, y5, y10, y11, y12, rfl, H, hL11⟩
def u123 (P : Program) (g0_1 : Sl) (rotors1_1 : Sl) (h : Heap) (K : Value -> Heap -> Prop) : Prop :=
 ∀ (b1 : Nat) (h1 : Heap), h.size ≤ b1 -> Fr (In []) h h1 -> Vars h1 [(b1, [g0_1.v])] ->
 callM P 139 #[(.agg #[g0_1.v]), (.agg #[rotors1_1.v, (VI 0)])] h1 fun r1 h2 => ∃ s8 : Bool, r1 = (VB s8) /\ Vars h2 [(b1, [g0_1.v])] /\
 K (VB s8) h2
theorem v123 (g0_1 : Sl) (rotors1_1 : Sl) (h : Heap) (K : Value -> Heap -> Prop) (H : u123 Try.prog g0_1 rotors1_1 h K) : callM Try.prog 123 #[(Value.agg #[g0_1.v]), rotors1_1.v] h K := by
  refine c123 (Value.agg #[g0_1.v]) rotors1_1.v h K ?_
  unfold u123 at H
  unfold t123
  have hL : Vars h [] := .nil
  refine eop_box 26 (Value.agg #[g0_1.v]) rfl hL (fun b1 h1 hb1 hf1 hL1 => ?_)
  refine ra agg26 hL1 0 0 [g0_1.v] ?_
  refine pop.mk' (v := (Value.agg #[rotors1_1.v, (VI 0)])) (fun w => by kernel_rfl) ?_
  have H := H b1 h1 hb1 (Fr.no' (Fr.r (In []) _) hf1) hL1
  refine H.mono fun r1 h2 H => ?_
  obtain ⟨s8, rfl, hL2, H⟩ := H
  exact H
def u124 (P : Program) (g0_1 : Sl) (b1 : Nat) (w1_1 : Sl) (w1_2 : Int) (h : Heap) (K : Value -> Heap -> Prop) : Prop :=
 InB g0_1 w1_2 /\
 ∀ (b2 : Nat) (h1 : Heap), h.size ≤ b2 -> Fr (In []) h h1 -> Vars h1 [(b2, [g0_1.v]), (b1, [w1_1.v, (VI w1_2)])] ->
 ∃ s13 : Sl, hcell h1 (Sl.at g0_1 w1_2 1) = some s13.v /\
 ((decide ((s13.n : Int) = 0)) = true ->
 K (VB false) h1) /\
 ((decide ((s13.n : Int) = 0)) = false ->
 InB w1_1 w1_2 /\
 ∃ s34 : Int, hcell h1 (Sl.at w1_1 w1_2 1) = some (VI s34) /\
 (s13.n : Int) ≠ 0 /\
 InB w1_1 w1_2 /\
 Writable h1 (Sl.at w1_1 w1_2 1) /\ Vars (hset h1 (Sl.at w1_1 w1_2 1) (VI (Int.tmod (w64 (s34 + 1)) (s13.n : Int)))) [(b2, [g0_1.v]), (b1, [w1_1.v, (VI w1_2)])] /\
 ∀ h2 : Heap, h2 = hset h1 (Sl.at w1_1 w1_2 1) (VI (Int.tmod (w64 (s34 + 1)) (s13.n : Int))) -> Vars h2 [(b2, [g0_1.v]), (b1, [w1_1.v, (VI w1_2)])] ->
 InB w1_1 w1_2 /\
 ∃ s51 : Int, hcell h2 (Sl.at w1_1 w1_2 1) = some (VI s51) /\
 InB s13 s51 /\
 ∃ s53 : Int, hcell h2 (Sl.at s13 s51 1) = some (VI s53) /\
 ∀ (h3 : Heap), Fr (In [b1]) h2 h3 -> Vars h3 [(b2, [g0_1.v]), (b1, [w1_1.v, (VI s53)])] ->
 K (VB true) h3)
theorem v124 (g0_1 : Sl) (b1 : Nat) (w1_1 : Sl) (w1_2 : Int) (h : Heap) (K : Value -> Heap -> Prop) (hL : Vars h [(b1, [w1_1.v, (VI w1_2)])]) (H : u124 Try.prog g0_1 b1 w1_1 w1_2 h K) : callM Try.prog 124 #[(Value.agg #[g0_1.v]), (VP b1 0)] h K := by
  refine c124 (Value.agg #[g0_1.v]) (VP b1 0) h K ?_
  unfold u124 at H
  unfold t124
  refine eop_box 26 (Value.agg #[g0_1.v]) rfl hL (fun b2 h1 hb1 hf1 hL1 => ?_)
  refine pop_field 0 fld26_0 b2 0 ?_
  refine rl one24 hL1 0 0 g0_1.v ?_
  refine pop_nil _ ?_
  refine pop_field 1 fld114_1 b1 0 ?_
  refine rl one3 hL1 1 1 (VI w1_2) ?_
  obtain ⟨hi1, H⟩ := H
  refine pop_index sli24 siz37 .i64 g0_1 w1_2 hi1 ?_
  have H := H b2 h1 hb1 (Fr.no' (Fr.r (In []) _) hf1) hL1
  obtain ⟨s13, hc4, H⟩ := H
  refine rop_one one37 s13.v hc4 ?_
  refine pop_len s13 _ _ sli37 ?_
  refine pop_ieq .i64 _ _ (s13.n : Int) 0 ?_
  refine condM_b (fun hb2 => ?_) (fun hb2 => ?_)
  ·exact H.1 hb2
  have H := H.2 hb2
  refine pop_nil _ ?_
  refine pop_field 0 fld114_0 b1 0 ?_
  refine rl one37 hL1 1 0 w1_1.v ?_
  refine pop_nil _ ?_
  refine pop_field 1 fld114_1 b1 0 ?_
  refine rl one3 hL1 1 1 (VI w1_2) ?_
  refine pop_nil _ ?_
  refine pop_field 0 fld114_0 b1 0 ?_
  refine rl one37 hL1 1 0 w1_1.v ?_
  refine pop_nil _ ?_
  refine pop_field 1 fld114_1 b1 0 ?_
  refine rl one3 hL1 1 1 (VI w1_2) ?_
  obtain ⟨hi2, H⟩ := H
  refine pop_index sli37 siz3 .i64 w1_1 w1_2 hi2 ?_
  obtain ⟨s34, hc3, H⟩ := H
  refine rop_one one3 (VI s34) hc3 ?_
  refine pop_add .i64 s34 1 ?_
  refine pop_len s13 _ _ sli37 ?_
  obtain ⟨hz_1, H⟩ := H
  refine pop_rem .i64 (w64 (s34 + 1)) (s13.n : Int) hz_1 ?_
  obtain ⟨hi3, H⟩ := H
  refine pop_index sli37 siz3 .i64 w1_1 w1_2 hi3 ?_
  obtain ⟨hw_1, hL2, H⟩ := H
  refine uop_cell (v := (VI (Int.tmod (w64 (s34 + 1)) (s13.n : Int)))) siz3 hw_1 rfl (fun h2 he_1 => ?_)
  rw [← he_1] at hL2
  have H := H h2 he_1 hL2
  refine pop_nil _ ?_
  refine pop_field 0 fld114_0 b1 0 ?_
  refine rl one37 hL2 1 0 w1_1.v ?_
  refine pop_nil _ ?_
  refine pop_field 1 fld114_1 b1 0 ?_
  refine rl one3 hL2 1 1 (VI w1_2) ?_
  obtain ⟨hi4, H⟩ := H
  refine pop_index sli37 siz3 .i64 w1_1 w1_2 hi4 ?_
  obtain ⟨s51, hc2, H⟩ := H
  refine rop_one one3 (VI s51) hc2 ?_
  obtain ⟨hi5, H⟩ := H
  refine pop_index sli37 siz3 .i64 s13 s51 hi5 ?_
  obtain ⟨s53, hc1, H⟩ := H
  refine rop_one one3 (VI s53) hc1 ?_
  refine pop_nil _ ?_
  refine pop_field 1 fld114_1 b1 0 ?_
  refine ul siz3 hL2 1 1 [(VI s53)] [(b2, [g0_1.v]), (b1, [w1_1.v, (VI s53)])] (fun h3 hf2 hL3 => ?_)
  have H := H  h3  (Fr.old (Fr.r (In []) _) hf2) hL3
  exact H
def u125 (P : Program) (g0_1 : Sl) (w1_1 : Sl) (w1_2 : Int) (h : Heap) (K : Value -> Heap -> Prop) : Prop :=
 ∀ (b1 : Nat) (b2 : Nat) (h2 : Heap), h.size ≤ b1 -> h.size ≤ b2 -> Fr (In []) h h2 -> Vars h2 [(b2, [w1_1.v, (VI w1_2)]), (b1, [g0_1.v])] ->
 callM P 72 #[(.agg #[g0_1.v]), (VI w1_2)] h2 fun r1 h3 => ∃ s10 : Bool, r1 = (VB s10) /\ Vars h3 [(b2, [w1_1.v, (VI w1_2)]), (b1, [g0_1.v])] /\
 ((!s10) = true ->
 K (VB false) h3) /\
 ((!s10) = false ->
 ((!decide ((w1_1.n : Int) = (g0_1.n : Int))) = true ->
 K (VB false) h3) /\
 ((!decide ((w1_1.n : Int) = (g0_1.n : Int))) = false ->
 ∃ J1 : Nat -> Int -> Heap -> Prop, (∃ n0 : Nat, J1 n0 0 h3) /\
 ∀ (n1 : Nat) (s24 : Int) (h4 : Heap), J1 n1 s24 h4 -> Vars h4 [(b2, [w1_1.v, (VI w1_2)]), (b1, [g0_1.v])] ->
 ((decide (s24 < (g0_1.n : Int))) = true ->
 InB g0_1 s24 /\
 ∃ s28 : Sl, hcell h4 (Sl.at g0_1 s24 1) = some s28.v /\
 InB w1_1 s24 /\
 ∃ s33 : Int, hcell h4 (Sl.at w1_1 s24 1) = some (VI s33) /\
 callM P 126 #[(VI 0), (VI (w64 ((s28.n : Int) - 1)))] h4 fun r2 h5 => ∃ s37 : Int, r2 = (VI s37) /\ Vars h5 [(b2, [w1_1.v, (VI w1_2)]), (b1, [g0_1.v])] /\
 hcell h5 (Sl.at w1_1 s24 1) = some (VI s33) /\
 callM P 73 #[(VI s33), (VI 0), (VI s37)] h5 fun r3 h6 => ∃ s38 : Bool, r3 = (VB s38) /\ Vars h6 [(b2, [w1_1.v, (VI w1_2)]), (b1, [g0_1.v])] /\
 ((!s38) = true ->
 K (VB false) h6) /\
 ((!s38) = false ->
 ∃ m : Nat, m < n1 /\ J1 m (w64 (s24 + 1)) h6)) /\
 ((decide (s24 < (g0_1.n : Int))) = false ->
 K (VB true) h4)))
theorem v125 (g0_1 : Sl) (w1_1 : Sl) (w1_2 : Int) (h : Heap) (K : Value -> Heap -> Prop) (H : u125 Try.prog g0_1 w1_1 w1_2 h K) : callM Try.prog 125 #[(Value.agg #[g0_1.v]), (Value.agg #[w1_1.v, (VI w1_2)])] h K := by
  refine c125 (Value.agg #[g0_1.v]) (Value.agg #[w1_1.v, (VI w1_2)]) h K ?_
  unfold u125 at H
  unfold t125
  have hL : Vars h [] := .nil
  refine eop_box 26 (Value.agg #[g0_1.v]) rfl hL (fun b1 h1 hb1 hf1 hL1 => ?_)
  refine eop_box 114 (Value.agg #[w1_1.v, (VI w1_2)]) rfl hL1 (fun b2 h2 hb2 hf2 hL2 => ?_)
  refine ra agg26 hL2 1 0 [g0_1.v] ?_
  refine pop_field 1 fld114_1 b2 0 ?_
  refine rl one3 hL2 0 1 (VI w1_2) ?_
  have H := H b1 b2 h2 hb1 (Nat.le_trans (Fr.size (Fr.no' (Fr.r (In []) _) hf1)) hb2) (Fr.no' (Fr.no' (Fr.r (In []) _) hf1) hf2) hL2
  refine H.mono fun r1 h3 H => ?_
  obtain ⟨s10, rfl, hL3, H⟩ := H
  refine pop_not s10 ?_
  refine guardM_sf (fun hb3 => ?_) (fun hb3 => ?_)
  rotate_left
  ·have H := H.1 hb3
   refine gm hb3 ?_
   refine gm hb3 ?_
   refine gm hb3 ?_
   refine gm hb3 ?_
   refine gm hb3 ?_
   refine gm hb3 ?_
   refine pop_pickt' hb3 ?_
   refine condM_t ?_
   exact H
  have H := H.2 hb3
  refine pop_field 0 fld114_0 b2 0 ?_
  refine gy hb3 ?_
  refine rl one37 hL3 0 0 w1_1.v ?_
  refine gy hb3 ?_
  refine pop_len w1_1 _ _ sli37 ?_
  refine gy hb3 ?_
  refine pop_field 0 fld26_0 b1 0 ?_
  refine gy hb3 ?_
  refine rl one24 hL3 1 0 g0_1.v ?_
  refine gy hb3 ?_
  refine pop_len g0_1 _ _ sli24 ?_
  refine gy hb3 ?_
  refine pop_ine .i64 _ _ (w1_1.n : Int) (g0_1.n : Int) ?_
  refine pop_pickf' hb3 ?_
  refine condM_b (fun hb4 => ?_) (fun hb4 => ?_)
  ·exact H.1 hb4
  have H := H.2 hb4
  refine pop_field 0 fld26_0 b1 0 ?_
  refine rl one24 hL3 1 0 g0_1.v ?_
  refine pop_len g0_1 _ _ sli24 ?_
  obtain ⟨J1, ⟨n2, h0_1⟩, HB1⟩ := H
  refine loop_intro (J := fun (n : Nat) (vs : List Value) (h' : Heap) => ∃ s24 : Int, vs = [(VI s24)] /\ J1 n s24 h' /\ Vars h' [(b2, [w1_1.v, (VI w1_2)]), (b1, [g0_1.v])]) n2 ⟨0, rfl, h0_1, hL3⟩ ?_
  intro I1 mu1 hI1 junk1 tv1 h4 hi1
  obtain ⟨n1, ⟨s24, hv, hJ1, hL4⟩, hn1⟩ := hI1 _ _ hi1
  cases hv
  have H := HB1 n1 s24 h4 hJ1 hL4
  refine pop_lss .i64 s24 (g0_1.n : Int) ?_
  refine condM_b (fun hb5 => ?_) (fun hb5 => ?_)
  rotate_left
  ·exact H.2 hb5
  have H := H.1 hb5
  obtain ⟨hi2, H⟩ := H
  refine pop_index sli24 siz37 .i64 g0_1 s24 hi2 ?_
  obtain ⟨s28, hc3, H⟩ := H
  refine rop_one one37 s28.v hc3 ?_
  refine pop_field 0 fld114_0 b2 0 ?_
  refine rl one37 hL4 0 0 w1_1.v ?_
  obtain ⟨hi3, H⟩ := H
  refine pop_index sli37 siz3 .i64 w1_1 s24 hi3 ?_
  obtain ⟨s33, hc2, H⟩ := H
  refine rop_one one3 (VI s33) hc2 ?_
  refine pop_len s28 _ _ sli37 ?_
  refine pop_sub .i64 (s28.n : Int) 1 ?_
  refine H.mono fun r2 h5 H => ?_
  obtain ⟨s37, rfl, hL5, H⟩ := H
  refine ⟨?_, ?_⟩
  ·exact still_one one3 H.1
  obtain ⟨hc1, H⟩ := H
  refine ⟨?_, ?_⟩
  ·exact still_loc one37 hL5 0 rfl 0 (v := w1_1.v) rfl
  refine H.mono fun r3 h6 H => ?_
  obtain ⟨s38, rfl, hL6, H⟩ := H
  refine ⟨?_, ?_⟩
  ·exact still_loc one37 hL6 0 rfl 0 (v := w1_1.v) rfl
  refine pop_not s38 ?_
  refine condM_b (fun hb6 => ?_) (fun hb6 => ?_)
  ·exact H.1 hb6
  have H := H.2 hb6
  refine pop_add .i64 s24 1 ?_
  obtain ⟨m_1, hm_1, H⟩ := H
  exact hn1 _ _ ⟨m_1, hm_1, (w64 (s24 + 1)), rfl, H, hL6⟩
def u126 (P : Program) (a0_1 : Int) (b1_1 : Int) (h : Heap) (K : Value -> Heap -> Prop) : Prop :=
 ((decide (b1_1 < a0_1)) = true ->
 K (VI a0_1) h) /\
 ((decide (b1_1 < a0_1)) = false ->
 K (VI b1_1) h)
theorem v126 (a0_1 : Int) (b1_1 : Int) (h : Heap) (K : Value -> Heap -> Prop) (H : u126 Try.prog a0_1 b1_1 h K) : callM Try.prog 126 #[(VI a0_1), (VI b1_1)] h K := by
  refine c126 (VI a0_1) (VI b1_1) h K ?_
  unfold u126 at H
  unfold t126
  have hL : Vars h [] := .nil
  refine pop_gtr .i64 a0_1 b1_1 ?_
  refine condM_b (fun hb1 => ?_) (fun hb1 => ?_)
  ·exact H.1 hb1
  exact H.2 hb1
def u132 (P : Program) (s0_1 : Sl) (f1_1 : Value) (h : Heap) (K : Value -> Heap -> Prop) : Prop :=
 ∃ J1 : Nat -> Int -> Heap -> Prop, (∃ n0 : Nat, J1 n0 0 h) /\
 ∀ (n1 : Nat) (s8 : Int) (h1 : Heap), J1 n1 s8 h1 -> Vars h1 [] ->
 ((decide (s8 < (s0_1.n : Int))) = true ->
 InB s0_1 s8 /\
 ∃ s15 : Int, hcell h1 (Sl.at s0_1 s8 1) = some (VI s15) /\
 callV P f1_1 [(VI s15)] h1 fun r1 h2 => ∃ s16 : Bool, r1 = (VB s16) /\ Vars h2 [] /\
 (s16 = true ->
 K (VI s8) h2) /\
 (s16 = false ->
 ∃ m : Nat, m < n1 /\ J1 m (w64 (s8 + 1)) h2)) /\
 ((decide (s8 < (s0_1.n : Int))) = false ->
 K (VI (-1)) h1)
theorem v132 (s0_1 : Sl) (f1_1 : Value) (h : Heap) (K : Value -> Heap -> Prop) (H : u132 Try.prog s0_1 f1_1 h K) : callM Try.prog 132 #[s0_1.v, f1_1] h K := by
  refine c132 s0_1.v f1_1 h K ?_
  unfold u132 at H
  unfold t132
  have hL : Vars h [] := .nil
  refine pop_len s0_1 _ _ sli37 ?_
  obtain ⟨J1, ⟨n2, h0_1⟩, HB1⟩ := H
  refine loop_intro (J := fun (n : Nat) (vs : List Value) (h' : Heap) => ∃ s8 : Int, vs = [(VI s8)] /\ J1 n s8 h' /\ Vars h' []) n2 ⟨0, rfl, h0_1, hL⟩ ?_
  intro I1 mu1 hI1 junk1 tv1 h1 hi1
  obtain ⟨n1, ⟨s8, hv, hJ1, hL1⟩, hn1⟩ := hI1 _ _ hi1
  cases hv
  have H := HB1 n1 s8 h1 hJ1 hL1
  refine pop_lss .i64 s8 (s0_1.n : Int) ?_
  refine condM_b (fun hb1 => ?_) (fun hb1 => ?_)
  rotate_left
  ·exact H.2 hb1
  have H := H.1 hb1
  obtain ⟨hi2, H⟩ := H
  refine pop_index sli37 siz3 .i64 s0_1 s8 hi2 ?_
  obtain ⟨s15, hc1, H⟩ := H
  refine rop_one one3 (VI s15) hc1 ?_
  refine H.mono fun r1 h2 H => ?_
  obtain ⟨s16, rfl, hL2, H⟩ := H
  refine condM_b (fun hb2 => ?_) (fun hb2 => ?_)
  ·exact H.1 hb2
  have H := H.2 hb2
  refine pop_add .i64 s8 1 ?_
  obtain ⟨m_1, hm_1, H⟩ := H
  exact hn1 _ _ ⟨m_1, hm_1, (w64 (s8 + 1)), rfl, H, hL2⟩
def u135 (P : Program) (n0_1 : Int) (both1_1 : Bool) (h : Heap) (K : Value -> Heap -> Prop) : Prop :=
 ∀ (b1 : Nat) (b2 : Nat) (h3 : Heap), h.size ≤ b1 -> h.size ≤ b2 -> Fr (In []) h h3 -> Vars h3 [(b2, [nilSl.v]), (b1, [nilSl.v])] ->
 ∃ J1 : Nat -> Int -> Sl -> Heap -> Prop, (∃ n0 : Nat, J1 n0 0 nilSl h3) /\
 ∀ (n1 : Nat) (p6_1 : Int) (y1 : Sl) (h4 : Heap), J1 n1 p6_1 y1 h4 -> Vars h4 [(b2, [y1.v]), (b1, [nilSl.v])] ->
 ((decide (p6_1 < n0_1)) = true ->
 n0_1 ≠ 0 /\
 eop P (Instr.buildSlice 37 1 #[(0, (VI (Int.tmod (w64 (p6_1 + 1)) n0_1)))]) h4 fun r1 h5 => ∃ s18 : Sl, r1 = s18.v /\ Vars h5 [(b2, [y1.v]), (b1, [nilSl.v])] /\
 ∃ J2 : Sl -> Heap -> Prop, ((both1_1 = true ->
 n0_1 ≠ 0 /\
 eop P (Instr.buildSlice 37 1 #[(0, (VI (Int.tmod (w64 ((w64 (p6_1 + n0_1)) - 1)) n0_1)))]) h5 fun r2 h6 => ∃ s27 : Sl, r2 = s27.v /\ Vars h6 [(b2, [y1.v]), (b1, [nilSl.v])] /\
 eop P (appS 37 37 37 s18.v s27.v) h6 fun r3 h7 => ∃ s28 : Sl, r3 = s28.v /\ Vars h7 [(b2, [y1.v]), (b1, [nilSl.v])] /\
 J2 s28 h7) /\
 (both1_1 = false ->
 J2 s18 h5)) /\
 ∀ (y2 : Sl) (h8 : Heap), J2 y2 h8 -> Vars h8 [(b2, [y1.v]), (b1, [nilSl.v])] ->
 eop P (Instr.buildSlice 24 1 #[(0, y2.v)]) h8 fun r4 h9 => ∃ s32 : Sl, r4 = s32.v /\ Vars h9 [(b2, [y1.v]), (b1, [nilSl.v])] /\
 eop P (appS 24 24 24 y1.v s32.v) h9 fun r5 h10 => ∃ s33 : Sl, r5 = s33.v /\ Vars h10 [(b2, [y1.v]), (b1, [nilSl.v])] /\
 ∀ (h11 : Heap), Fr (In [b2]) h10 h11 -> Vars h11 [(b2, [s33.v]), (b1, [nilSl.v])] ->
 ∃ m : Nat, m < n1 /\ J1 m (w64 (p6_1 + 1)) s33 h11) /\
 ((decide (p6_1 < n0_1)) = false ->
 ∀ (h12 : Heap), Fr (In [b1]) h4 h12 -> Vars h12 [(b2, [y1.v]), (b1, [y1.v])] ->
 K (.agg #[y1.v]) h12)
theorem v135 (n0_1 : Int) (both1_1 : Bool) (h : Heap) (K : Value -> Heap -> Prop) (H : u135 Try.prog n0_1 both1_1 h K) : callM Try.prog 135 #[(VI n0_1), (VB both1_1)] h K := by
  refine c135 (VI n0_1) (VB both1_1) h K ?_
  unfold u135 at H
  unfold t135
  have hL : Vars h [] := .nil
  refine eop_alloc 26 zer26 rfl hL (fun b1 h1 hb1 hf1 hL1 => ?_)
  refine pop.mk' (v := (Value.agg #[nilSl.v])) (fun w => by kernel_rfl) ?_
  refine eop_alloc 26 zer26 rfl hL1 (fun b2 h2 hb2 hf2 hL2 => ?_)
  refine ul siz26 hL2 0 0 [nilSl.v] [(b2, [nilSl.v]), (b1, [nilSl.v])] (fun h3 hf3 hL3 => ?_)
  have H := H b1 b2 h3 hb1 (Nat.le_trans (Fr.size (Fr.no' (Fr.r (In []) _) hf1)) hb2) (Fr.new (Fr.no' (Fr.no' (Fr.r (In []) _) hf1) hf2) (Nat.le_trans (Fr.size (Fr.no' (Fr.r (In []) _) hf1)) hb2) hf3) hL3
  obtain ⟨J1, ⟨n2, h0_1⟩, HB2⟩ := H
  refine loop_intro (J := fun (n : Nat) (vs : List Value) (h' : Heap) => ∃ p6_1 : Int, ∃ y1 : Sl, vs = [(VI p6_1)] /\ J1 n p6_1 y1 h' /\ Vars h' [(b2, [y1.v]), (b1, [nilSl.v])]) n2 ⟨0, nilSl, rfl, h0_1, hL3⟩ ?_
  intro I1 mu1 hI1 junk1 tv2 h4 hi1
  obtain ⟨n1, ⟨p6_1, y1, hv, hJ1, hL4⟩, hn1⟩ := hI1 _ _ hi1
  cases hv
  have H := HB2 n1 p6_1 y1 h4 hJ1 hL4
  refine pop_lss .i64 p6_1 n0_1 ?_
  refine condM_b (fun hb3 => ?_) (fun hb3 => ?_)
  rotate_left
  ·have H := H.2 hb3
   refine ra agg26 hL4 0 0 [y1.v] ?_
   refine ul siz26 hL4 1 0 [y1.v] [(b2, [y1.v]), (b1, [y1.v])] (fun h12 hf5 hL12 => ?_)
   refine ra agg26 hL12 1 0 [y1.v] ?_
   have H := H  h12  (Fr.old (Fr.r (In []) _) hf5) hL12
   exact H
  have H := H.1 hb3
  refine pop_add .i64 p6_1 1 ?_
  obtain ⟨hz_1, H⟩ := H
  refine pop_rem .i64 (w64 (p6_1 + 1)) n0_1 hz_1 ?_
  refine H.mono fun r1 h5 H => ?_
  obtain ⟨s18, rfl, hL5, H⟩ := H
  obtain ⟨J2, H, HB1⟩ := H
  refine ⟨fun (vs : List Value) (h' : Heap) => ∃ y2 : Sl, vs = [y2.v] /\ J2 y2 h' /\ Vars h' [(b2, [y1.v]), (b1, [nilSl.v])], ?_, ?_⟩
  ·refine condM_b (fun hb4 => ?_) (fun hb4 => ?_)
   rotate_left
   ·have H := H.2 hb4
    exact ⟨s18, rfl, H, hL5⟩
   have H := H.1 hb4
   refine pop_add .i64 p6_1 n0_1 ?_
   refine pop_sub .i64 (w64 (p6_1 + n0_1)) 1 ?_
   obtain ⟨hz_2, H⟩ := H
   refine pop_rem .i64 (w64 ((w64 (p6_1 + n0_1)) - 1)) n0_1 hz_2 ?_
   refine H.mono fun r2 h6 H => ?_
   obtain ⟨s27, rfl, hL6, H⟩ := H
   refine H.mono fun r3 h7 H => ?_
   obtain ⟨s28, rfl, hL7, H⟩ := H
   exact ⟨s28, rfl, H, hL7⟩
  intro junk2 tv1 h8
  rintro ⟨y2, hv, hJ2, hL8⟩
  cases hv
  have H := HB1 y2 h8 hJ2 hL8
  refine pop_field 0 fld26_0 b2 0 ?_
  refine rl one24 hL8 0 0 y1.v ?_
  refine H.mono fun r4 h9 H => ?_
  obtain ⟨s32, rfl, hL9, H⟩ := H
  refine H.mono fun r5 h10 H => ?_
  obtain ⟨s33, rfl, hL10, H⟩ := H
  refine pop_field 0 fld26_0 b2 0 ?_
  refine ul siz24 hL10 0 0 [s33.v] [(b2, [s33.v]), (b1, [nilSl.v])] (fun h11 hf4 hL11 => ?_)
  refine pop_add .i64 p6_1 1 ?_
  have H := H  h11  (Fr.old (Fr.r (In []) _) hf4) hL11
  obtain ⟨m_1, hm_1, H⟩ := H
  exact hn1 _ _ ⟨m_1, hm_1, (w64 (p6_1 + 1)), s33, rfl, H, hL11⟩
def u136 (P : Program) (b1 : Nat) (c0_1 : Sl) (c0_2 : Int) (c0_3 : Int) (n1_1 : Int) (h : Heap) (K : Value -> Heap -> Prop) : Prop :=
 ∃ J1 : Nat -> Sl -> Int -> Heap -> Prop, (∃ n0 : Nat, J1 n0 nilSl 0 h) /\
 ∀ (n1 : Nat) (out5_1 : Sl) (p6_1 : Int) (h1 : Heap), J1 n1 out5_1 p6_1 h1 -> Vars h1 [(b1, [c0_1.v, (VI c0_2), (Value.int .u64 c0_3)])] ->
 ((decide (p6_1 < n1_1)) = true ->
 eop P (Instr.buildSlice 37 1 #[(0, (VI p6_1))]) h1 fun r1 h2 => ∃ s17 : Sl, r1 = s17.v /\ Vars h2 [(b1, [c0_1.v, (VI c0_2), (Value.int .u64 c0_3)])] /\
 eop P (appS 37 37 37 out5_1.v s17.v) h2 fun r2 h3 => ∃ s18 : Sl, r2 = s18.v /\ Vars h3 [(b1, [c0_1.v, (VI c0_2), (Value.int .u64 c0_3)])] /\
 ∃ m : Nat, m < n1 /\ J1 m s18 (w64 (p6_1 + 1)) h3) /\
 ((decide (p6_1 < n1_1)) = false ->
 ∃ J2 : Nat -> Int -> Sl -> Int -> Int -> Heap -> Prop, (∃ n0 : Nat, J2 n0 0 c0_1 c0_2 c0_3 h1) /\
 ∀ (n2 : Nat) (s21 : Int) (y1 : Sl) (y2 : Int) (y3 : Int) (h4 : Heap), J2 n2 s21 y1 y2 y3 h4 -> Vars h4 [(b1, [y1.v, (VI y2), (Value.int .u64 y3)])] ->
 ((decide (s21 < (out5_1.n : Int))) = true ->
 callM P 70 #[(VP b1 0), (VI n1_1)] h4 fun r3 h5 => ∃ y4 : Sl, ∃ y5 : Int, ∃ y6 : Int, ∃ s26 : Int, r3 = (VI s26) /\ Vars h5 [(b1, [y4.v, (VI y5), (Value.int .u64 y6)])] /\
 InB out5_1 s21 /\
 ∃ s30 : Int, hcell h5 (Sl.at out5_1 s21 1) = some (VI s30) /\
 InB out5_1 s26 /\
 ∃ s36 : Int, hcell h5 (Sl.at out5_1 s26 1) = some (VI s36) /\
 InB out5_1 s21 /\
 Writable h5 (Sl.at out5_1 s21 1) /\ Vars (hset h5 (Sl.at out5_1 s21 1) (VI s36)) [(b1, [y4.v, (VI y5), (Value.int .u64 y6)])] /\
 ∀ h6 : Heap, h6 = hset h5 (Sl.at out5_1 s21 1) (VI s36) -> Vars h6 [(b1, [y4.v, (VI y5), (Value.int .u64 y6)])] ->
 InB out5_1 s26 /\
 Writable h6 (Sl.at out5_1 s26 1) /\ Vars (hset h6 (Sl.at out5_1 s26 1) (VI s30)) [(b1, [y4.v, (VI y5), (Value.int .u64 y6)])] /\
 ∀ h7 : Heap, h7 = hset h6 (Sl.at out5_1 s26 1) (VI s30) -> Vars h7 [(b1, [y4.v, (VI y5), (Value.int .u64 y6)])] ->
 ∃ m : Nat, m < n2 /\ J2 m (w64 (s21 + 1)) y4 y5 y6 h7) /\
 ((decide (s21 < (out5_1.n : Int))) = false ->
 K out5_1.v h4))
theorem v136 (b1 : Nat) (c0_1 : Sl) (c0_2 : Int) (c0_3 : Int) (n1_1 : Int) (h : Heap) (K : Value -> Heap -> Prop) (hL : Vars h [(b1, [c0_1.v, (VI c0_2), (Value.int .u64 c0_3)])]) (H : u136 Try.prog b1 c0_1 c0_2 c0_3 n1_1 h K) : callM Try.prog 136 #[(VP b1 0), (VI n1_1)] h K := by
  refine c136 (VP b1 0) (VI n1_1) h K ?_
  unfold u136 at H
  unfold t136
  obtain ⟨J1, ⟨n4, h0_2⟩, HB2⟩ := H
  refine loop_intro (J := fun (n : Nat) (vs : List Value) (h' : Heap) => ∃ out5_1 : Sl, ∃ p6_1 : Int, vs = [out5_1.v, (VI p6_1)] /\ J1 n out5_1 p6_1 h' /\ Vars h' [(b1, [c0_1.v, (VI c0_2), (Value.int .u64 c0_3)])]) n4 ⟨nilSl, 0, rfl, h0_2, hL⟩ ?_
  intro I2 mu2 hI2 junk1 tv2 tv3 h1 hi1
  obtain ⟨n1, ⟨out5_1, p6_1, hv, hJ1, hL1⟩, hn1⟩ := hI2 _ _ hi1
  cases hv
  have H := HB2 n1 out5_1 p6_1 h1 hJ1 hL1
  refine pop_lss .i64 p6_1 n1_1 ?_
  refine condM_b (fun hb1 => ?_) (fun hb1 => ?_)
  ·have H := H.1 hb1
   refine H.mono fun r1 h2 H => ?_
   obtain ⟨s17, rfl, hL2, H⟩ := H
   refine H.mono fun r2 h3 H => ?_
   obtain ⟨s18, rfl, hL3, H⟩ := H
   refine pop_add .i64 p6_1 1 ?_
   obtain ⟨m_1, hm_1, H⟩ := H
   exact hn1 _ _ ⟨m_1, hm_1, s18, (w64 (p6_1 + 1)), rfl, H, hL3⟩
  have H := H.2 hb1
  refine pop_len out5_1 _ _ sli37 ?_
  obtain ⟨J2, ⟨n3, h0_1⟩, HB1⟩ := H
  refine loop_intro (J := fun (n : Nat) (vs : List Value) (h' : Heap) => ∃ s21 : Int, ∃ y1 : Sl, ∃ y2 : Int, ∃ y3 : Int, vs = [(VI s21)] /\ J2 n s21 y1 y2 y3 h' /\ Vars h' [(b1, [y1.v, (VI y2), (Value.int .u64 y3)])]) n3 ⟨0, c0_1, c0_2, c0_3, rfl, h0_1, hL1⟩ ?_
  intro I1 mu1 hI1 junk2 tv1 h4 hi2
  obtain ⟨n2, ⟨s21, y1, y2, y3, hv, hJ2, hL4⟩, hn2⟩ := hI1 _ _ hi2
  cases hv
  have H := HB1 n2 s21 y1 y2 y3 h4 hJ2 hL4
  refine pop_lss .i64 s21 (out5_1.n : Int) ?_
  refine condM_b (fun hb2 => ?_) (fun hb2 => ?_)
  rotate_left
  ·exact H.2 hb2
  have H := H.1 hb2
  refine H.mono fun r3 h5 H => ?_
  obtain ⟨y4, y5, y6, s26, rfl, hL5, H⟩ := H
  obtain ⟨hi3, H⟩ := H
  refine pop_index sli37 siz3 .i64 out5_1 s21 hi3 ?_
  obtain ⟨s30, hc2, H⟩ := H
  refine rop_one one3 (VI s30) hc2 ?_
  obtain ⟨hi4, H⟩ := H
  refine pop_index sli37 siz3 .i64 out5_1 s26 hi4 ?_
  obtain ⟨s36, hc1, H⟩ := H
  refine rop_one one3 (VI s36) hc1 ?_
  obtain ⟨hi5, H⟩ := H
  refine pop_index sli37 siz3 .i64 out5_1 s21 hi5 ?_
  obtain ⟨hw_1, hL6, H⟩ := H
  refine uop_cell (v := (VI s36)) siz3 hw_1 rfl (fun h6 he_1 => ?_)
  rw [← he_1] at hL6
  have H := H h6 he_1 hL6
  obtain ⟨hi6, H⟩ := H
  refine pop_index sli37 siz3 .i64 out5_1 s26 hi6 ?_
  obtain ⟨hw_2, hL7, H⟩ := H
  refine uop_cell (v := (VI s30)) siz3 hw_2 rfl (fun h7 he_2 => ?_)
  rw [← he_2] at hL7
  have H := H h7 he_2 hL7
  refine pop_add .i64 s21 1 ?_
  obtain ⟨m_2, hm_2, H⟩ := H
  exact hn2 _ _ ⟨m_2, hm_2, (w64 (s21 + 1)), y4, y5, y6, rfl, H, hL7⟩
def u137 (P : Program) (x0_1 : Sl) (count1_1 : Int) (h : Heap) (K : Value -> Heap -> Prop) : Prop :=
 ∃ J1 : Heap -> Prop, (((decide (count1_1 < 0)) = true ->
 pop P (Instr.makeInterface 9 (Value.string { data := #[99, 97, 110, 110, 111, 116, 32, 98, 101, 32, 110, 101, 103, 97, 116, 105, 118, 101] })) fun r1 => ∃ s11 : Value, r1 = s11 /\ 
 False) /\
 ((decide (count1_1 < 0)) = false ->
 J1  h)) /\
 ∀ (h1 : Heap), J1  h1 -> Vars h1 [] ->
 rop P (convert 3 132 (VI (x0_1.n : Int))) h1 fun r2 => ∃ s15 : Int, r2 = (Value.int .u64 s15) /\ 
 rop P (convert 3 132 (VI count1_1)) h1 fun r3 => ∃ s17 : Int, r3 = (Value.int .u64 s17) /\ 
 callM P 141 #[(Value.int .u64 s15), (Value.int .u64 s17)] h1 fun r4 h2 => ∃ s18 : Int, ∃ s18b : Int, r4 = (.tuple #[(Value.int .u64 s18), (Value.int .u64 s18b)]) /\ Vars h2 [] /\
 ∃ J2 : Heap -> Prop, (((decide (0 < s18)) = true ->
 pop P (Instr.makeInterface 9 (Value.string { data := #[116, 104, 101, 32, 114, 101, 115, 117, 108, 116, 32, 111, 102, 32, 40, 108, 101, 110, 40, 120, 41, 32, 42, 32, 99, 111, 117, 110, 116, 41, 32, 111, 118, 101, 114, 102, 108, 111, 119, 115] })) fun r6 => ∃ s27b : Value, r6 = s27b /\ 
 False) /\
 ((decide (0 < s18)) = false ->
 ((decide (9223372036854775807 < s18b)) = true ->
 pop P (Instr.makeInterface 9 (Value.string { data := #[116, 104, 101, 32, 114, 101, 115, 117, 108, 116, 32, 111, 102, 32, 40, 108, 101, 110, 40, 120, 41, 32, 42, 32, 99, 111, 117, 110, 116, 41, 32, 111, 118, 101, 114, 102, 108, 111, 119, 115] })) fun r5 => ∃ s27 : Value, r5 = s27 /\ 
 False) /\
 ((decide (9223372036854775807 < s18b)) = false ->
 J2  h2))) /\
 ∀ (h3 : Heap), J2  h3 -> Vars h3 [] ->
 rop P (convert 132 3 (Value.int .u64 s18b)) h3 fun r7 => ∃ s29 : Int, r7 = (VI s29) /\ 
 eop P (Instr.makeSlice 37 (VI s29) (VI s29)) h3 fun r8 h4 => ∃ s30 : Sl, r8 = s30.v /\ Vars h4 [] /\
 eop P (Builtin.copy_ #[37, 37] 3 #[s30.v, x0_1.v]) h4 fun r9 h5 => ∃ s33 : Int, r9 = (VI s33) /\ Vars h5 [] /\
 ∃ J3 : Nat -> Int -> Heap -> Prop, (∃ n0 : Nat, J3 n0 s33 h5) /\
 ∀ (n1 : Nat) (n8_1 : Int) (h6 : Heap), J3 n1 n8_1 h6 -> Vars h6 [] ->
 ((decide (n8_1 < (s30.n : Int))) = true ->
 pop P (Instr.sliceAt 37 s30.v (some (VI n8_1)) none none) fun r10 => ∃ s41 : Sl, r10 = s41.v /\ 
 pop P (Instr.sliceAt 37 s30.v none (some (VI n8_1)) none) fun r11 => ∃ s44 : Sl, r11 = s44.v /\ 
 eop P (Builtin.copy_ #[37, 37] 3 #[s41.v, s44.v]) h6 fun r12 h7 => ∃ s45 : Int, r12 = (VI s45) /\ Vars h7 [] /\
 ∃ m : Nat, m < n1 /\ J3 m (w64 (n8_1 + s45)) h7) /\
 ((decide (n8_1 < (s30.n : Int))) = false ->
 K s30.v h6)
theorem v137 (x0_1 : Sl) (count1_1 : Int) (h : Heap) (K : Value -> Heap -> Prop) (H : u137 Try.prog x0_1 count1_1 h K) : callM Try.prog 137 #[x0_1.v, (VI count1_1)] h K := by
  refine c137 x0_1.v (VI count1_1) h K ?_
  unfold u137 at H
  unfold t137
  have hL : Vars h [] := .nil
  obtain ⟨J1, H, HB3⟩ := H
  refine ⟨fun (vs : List Value) (h' : Heap) => vs = [] /\ J1  h' /\ Vars h' [], ?_, ?_⟩
  ·refine pop_lss .i64 count1_1 0 ?_
   refine condM_b (fun hb1 => ?_) (fun hb1 => ?_)
   rotate_left
   ·have H := H.2 hb1
    exact ⟨rfl, H, hL⟩
   have H := H.1 hb1
   refine H.mono fun r1 H => ?_
   obtain ⟨s11, rfl, H⟩ := H
   exact H.elim
  intro junk1  h1
  rintro ⟨hv, hJ1, hL1⟩
  have H := HB3  h1 hJ1 hL1
  refine pop_len x0_1 _ _ sli37 ?_
  refine H.mono fun r2 H => ?_
  obtain ⟨s15, rfl, H⟩ := H
  refine H.mono fun r3 H => ?_
  obtain ⟨s17, rfl, H⟩ := H
  refine H.mono fun r4 h2 H => ?_
  obtain ⟨s18, s18b, rfl, hL2, H⟩ := H
  refine pop_ext (v := (Value.int .u64 s18)) rfl ?_
  refine pop_ext (v := (Value.int .u64 s18b)) rfl ?_
  obtain ⟨J2, H, HB2⟩ := H
  refine ⟨fun (vs : List Value) (h' : Heap) => vs = [] /\ J2  h' /\ Vars h' [], ?_, ?_⟩
  ·refine pop_gtr .u64 s18 0 ?_
   refine guardM_sf (fun hb2 => ?_) (fun hb2 => ?_)
   rotate_left
   ·have H := H.1 hb2
    refine gm hb2 ?_
    refine pop_pickt' hb2 ?_
    refine condM_t ?_
    refine H.mono fun r6 H => ?_
    obtain ⟨s27b, rfl, H⟩ := H
    exact H.elim
   have H := H.2 hb2
   refine gy hb2 ?_
   refine pop_gtr .u64 s18b 9223372036854775807 ?_
   refine pop_pickf' hb2 ?_
   refine condM_b (fun hb3 => ?_) (fun hb3 => ?_)
   rotate_left
   ·have H := H.2 hb3
    exact ⟨rfl, H, hL2⟩
   have H := H.1 hb3
   refine H.mono fun r5 H => ?_
   obtain ⟨s27, rfl, H⟩ := H
   exact H.elim
  intro junk2  h3
  rintro ⟨hv, hJ2, hL3⟩
  have H := HB2  h3 hJ2 hL3
  refine H.mono fun r7 H => ?_
  obtain ⟨s29, rfl, H⟩ := H
  refine H.mono fun r8 h4 H => ?_
  obtain ⟨s30, rfl, hL4, H⟩ := H
  refine H.mono fun r9 h5 H => ?_
  obtain ⟨s33, rfl, hL5, H⟩ := H
  obtain ⟨J3, ⟨n2, h0_1⟩, HB1⟩ := H
  refine loop_intro (J := fun (n : Nat) (vs : List Value) (h' : Heap) => ∃ n8_1 : Int, vs = [(VI n8_1)] /\ J3 n n8_1 h' /\ Vars h' []) n2 ⟨s33, rfl, h0_1, hL5⟩ ?_
  intro I1 mu1 hI1 junk3 tv1 h6 hi1
  obtain ⟨n1, ⟨n8_1, hv, hJ3, hL6⟩, hn1⟩ := hI1 _ _ hi1
  cases hv
  have H := HB1 n1 n8_1 h6 hJ3 hL6
  refine pop_len s30 _ _ sli37 ?_
  refine pop_lss .i64 n8_1 (s30.n : Int) ?_
  refine condM_b (fun hb4 => ?_) (fun hb4 => ?_)
  rotate_left
  ·exact H.2 hb4
  have H := H.1 hb4
  refine H.mono fun r10 H => ?_
  obtain ⟨s41, rfl, H⟩ := H
  refine H.mono fun r11 H => ?_
  obtain ⟨s44, rfl, H⟩ := H
  refine H.mono fun r12 h7 H => ?_
  obtain ⟨s45, rfl, hL7, H⟩ := H
  refine pop_add .i64 n8_1 s45 ?_
  obtain ⟨m_1, hm_1, H⟩ := H
  exact hn1 _ _ ⟨m_1, hm_1, (w64 (n8_1 + s45)), rfl, H, hL7⟩
def u138 (P : Program) (q0_1 : Int) (b1 : Nat) (s1 : Int) (h : Heap) (K : Value -> Heap -> Prop) : Prop :=
 callM P 71 #[(VI q0_1), (VI 0), (VI (w64 (s1 - 1)))] h fun r1 h1 => ∃ s7 : Bool, r1 = (VB s7) /\ Vars h1 [(b1, [(VI s1)])] /\
 K (VB (!s7)) h1
theorem v138 (q0_1 : Int) (b1 : Nat) (s1 : Int) (h : Heap) (K : Value -> Heap -> Prop) (hL : Vars h [(b1, [(VI s1)])]) (H : u138 Try.prog q0_1 b1 s1 h K) : callM Try.prog 138 #[(VI q0_1), (VP b1 0)] h K := by
  refine c138 (VI q0_1) (VP b1 0) h K ?_
  unfold u138 at H
  unfold t138
  refine rl one3 hL 0 0 (VI s1) ?_
  refine pop_sub .i64 s1 1 ?_
  refine H.mono fun r1 h1 H => ?_
  obtain ⟨s7, rfl, hL1, H⟩ := H
  refine pop_not s7 ?_
  exact H
def u139 (P : Program) (g0_1 : Sl) (w1_1 : Sl) (w1_2 : Int) (h : Heap) (K : Value -> Heap -> Prop) : Prop :=
 ∀ (b1 : Nat) (b2 : Nat) (h2 : Heap), h.size ≤ b1 -> h.size ≤ b2 -> Fr (In []) h h2 -> Vars h2 [(b2, [w1_1.v, (VI w1_2)]), (b1, [g0_1.v])] ->
 eop P (Instr.buildSlice 37 1 #[(0, (VI w1_2))]) h2 fun r1 h3 => ∃ s10 : Sl, r1 = s10.v /\ Vars h3 [(b2, [w1_1.v, (VI w1_2)]), (b1, [g0_1.v])] /\
 callM P 63 #[(.agg #[g0_1.v]), s10.v] h3 fun r2 h4 => ∃ s11 : Bool, r2 = (VB s11) /\ Vars h4 [(b2, [w1_1.v, (VI w1_2)]), (b1, [g0_1.v])] /\
 ((!s11) = true ->
 K (VB false) h4) /\
 ((!s11) = false ->
 ((!decide ((w1_1.n : Int) = (g0_1.n : Int))) = true ->
 K (VB false) h4) /\
 ((!decide ((w1_1.n : Int) = (g0_1.n : Int))) = false ->
 ∃ J1 : Nat -> Int -> Heap -> Prop, (∃ n0 : Nat, J1 n0 0 h4) /\
 ∀ (n1 : Nat) (s25 : Int) (h5 : Heap), J1 n1 s25 h5 -> Vars h5 [(b2, [w1_1.v, (VI w1_2)]), (b1, [g0_1.v])] ->
 ((decide (s25 < (w1_1.n : Int))) = true ->
 InB w1_1 s25 /\
 ∃ s29 : Int, hcell h5 (Sl.at w1_1 s25 1) = some (VI s29) /\
 InB g0_1 s25 /\
 ∃ s35 : Sl, hcell h5 (Sl.at g0_1 s25 1) = some s35.v /\
 pop P (Builtin.max_ #[3, 3] 3 #[(VI (w64 ((s35.n : Int) - 1))), (.int .i64 0)]) fun r3 => ∃ s38 : Int, r3 = (VI s38) /\ 
 callM P 71 #[(VI s29), (VI 0), (VI s38)] h5 fun r4 h6 => ∃ s39 : Bool, r4 = (VB s39) /\ Vars h6 [(b2, [w1_1.v, (VI w1_2)]), (b1, [g0_1.v])] /\
 ((!s39) = true ->
 K (VB false) h6) /\
 ((!s39) = false ->
 ∃ m : Nat, m < n1 /\ J1 m (w64 (s25 + 1)) h6)) /\
 ((decide (s25 < (w1_1.n : Int))) = false ->
 K (VB true) h5)))
theorem v139 (g0_1 : Sl) (w1_1 : Sl) (w1_2 : Int) (h : Heap) (K : Value -> Heap -> Prop) (H : u139 Try.prog g0_1 w1_1 w1_2 h K) : callM Try.prog 139 #[(Value.agg #[g0_1.v]), (Value.agg #[w1_1.v, (VI w1_2)])] h K := by
  refine c139 (Value.agg #[g0_1.v]) (Value.agg #[w1_1.v, (VI w1_2)]) h K ?_
  unfold u139 at H
  unfold t139
  have hL : Vars h [] := .nil
  refine eop_box 26 (Value.agg #[g0_1.v]) rfl hL (fun b1 h1 hb1 hf1 hL1 => ?_)
  refine eop_box 114 (Value.agg #[w1_1.v, (VI w1_2)]) rfl hL1 (fun b2 h2 hb2 hf2 hL2 => ?_)
  refine ra agg26 hL2 1 0 [g0_1.v] ?_
  refine pop_field 1 fld114_1 b2 0 ?_
  refine rl one3 hL2 0 1 (VI w1_2) ?_
  have H := H b1 b2 h2 hb1 (Nat.le_trans (Fr.size (Fr.no' (Fr.r (In []) _) hf1)) hb2) (Fr.no' (Fr.no' (Fr.r (In []) _) hf1) hf2) hL2
  refine H.mono fun r1 h3 H => ?_
  obtain ⟨s10, rfl, hL3, H⟩ := H
  refine H.mono fun r2 h4 H => ?_
  obtain ⟨s11, rfl, hL4, H⟩ := H
  refine pop_not s11 ?_
  refine guardM_sf (fun hb3 => ?_) (fun hb3 => ?_)
  rotate_left
  ·have H := H.1 hb3
   refine gm hb3 ?_
   refine gm hb3 ?_
   refine gm hb3 ?_
   refine gm hb3 ?_
   refine gm hb3 ?_
   refine gm hb3 ?_
   refine pop_pickt' hb3 ?_
   refine condM_t ?_
   exact H
  have H := H.2 hb3
  refine pop_field 0 fld114_0 b2 0 ?_
  refine gy hb3 ?_
  refine rl one37 hL4 0 0 w1_1.v ?_
  refine gy hb3 ?_
  refine pop_len w1_1 _ _ sli37 ?_
  refine gy hb3 ?_
  refine pop_field 0 fld26_0 b1 0 ?_
  refine gy hb3 ?_
  refine rl one24 hL4 1 0 g0_1.v ?_
  refine gy hb3 ?_
  refine pop_len g0_1 _ _ sli24 ?_
  refine gy hb3 ?_
  refine pop_ine .i64 _ _ (w1_1.n : Int) (g0_1.n : Int) ?_
  refine pop_pickf' hb3 ?_
  refine condM_b (fun hb4 => ?_) (fun hb4 => ?_)
  ·exact H.1 hb4
  have H := H.2 hb4
  refine pop_field 0 fld114_0 b2 0 ?_
  refine rl one37 hL4 0 0 w1_1.v ?_
  refine pop_len w1_1 _ _ sli37 ?_
  obtain ⟨J1, ⟨n2, h0_1⟩, HB1⟩ := H
  refine loop_intro (J := fun (n : Nat) (vs : List Value) (h' : Heap) => ∃ s25 : Int, vs = [(VI s25)] /\ J1 n s25 h' /\ Vars h' [(b2, [w1_1.v, (VI w1_2)]), (b1, [g0_1.v])]) n2 ⟨0, rfl, h0_1, hL4⟩ ?_
  intro I1 mu1 hI1 junk1 tv1 h5 hi1
  obtain ⟨n1, ⟨s25, hv, hJ1, hL5⟩, hn1⟩ := hI1 _ _ hi1
  cases hv
  have H := HB1 n1 s25 h5 hJ1 hL5
  refine pop_lss .i64 s25 (w1_1.n : Int) ?_
  refine condM_b (fun hb5 => ?_) (fun hb5 => ?_)
  rotate_left
  ·exact H.2 hb5
  have H := H.1 hb5
  obtain ⟨hi2, H⟩ := H
  refine pop_index sli37 siz3 .i64 w1_1 s25 hi2 ?_
  obtain ⟨s29, hc2, H⟩ := H
  refine rop_one one3 (VI s29) hc2 ?_
  refine pop_field 0 fld26_0 b1 0 ?_
  refine rl one24 hL5 1 0 g0_1.v ?_
  obtain ⟨hi3, H⟩ := H
  refine pop_index sli24 siz37 .i64 g0_1 s25 hi3 ?_
  obtain ⟨s35, hc1, H⟩ := H
  refine rop_one one37 s35.v hc1 ?_
  refine pop_len s35 _ _ sli37 ?_
  refine pop_sub .i64 (s35.n : Int) 1 ?_
  refine H.mono fun r3 H => ?_
  obtain ⟨s38, rfl, H⟩ := H
  refine H.mono fun r4 h6 H => ?_
  obtain ⟨s39, rfl, hL6, H⟩ := H
  refine pop_not s39 ?_
  refine condM_b (fun hb6 => ?_) (fun hb6 => ?_)
  ·exact H.1 hb6
  have H := H.2 hb6
  refine pop_add .i64 s25 1 ?_
  obtain ⟨m_1, hm_1, H⟩ := H
  exact hn1 _ _ ⟨m_1, hm_1, (w64 (s25 + 1)), rfl, H, hL6⟩
def u141 (P : Program) (x0_1 : Int) (y1_1 : Int) (h : Heap) (K : Value -> Heap -> Prop) : Prop :=
 callM P 143 #[(Value.int .u64 x0_1), (Value.int .u64 y1_1)] h fun r1 h1 => ∃ s25 : Int, ∃ s25b : Int, r1 = (.tuple #[(Value.int .u64 s25), (Value.int .u64 s25b)]) /\ Vars h1 [] /\
 K (.tuple #[(Value.int .u64 s25), (Value.int .u64 s25b)]) h1
theorem v141 (x0_1 : Int) (y1_1 : Int) (h : Heap) (K : Value -> Heap -> Prop) (H : u141 Try.prog x0_1 y1_1 h K) : callM Try.prog 141 #[(Value.int .u64 x0_1), (Value.int .u64 y1_1)] h K := by
  refine c141 (Value.int .u64 x0_1) (Value.int .u64 y1_1) h K ?_
  unfold u141 at H
  unfold t141
  have hL : Vars h [] := .nil
  refine condM_f ?_
  refine H.mono fun r1 h1 H => ?_
  obtain ⟨s25, s25b, rfl, hL1, H⟩ := H
  refine pop_ext (v := (Value.int .u64 s25)) rfl ?_
  refine pop_ext (v := (Value.int .u64 s25b)) rfl ?_
  exact H
def u143 (P : Program) (x0_1 : Int) (y1_1 : Int) (h : Heap) (K : Value -> Heap -> Prop) : Prop :=
 pop P (binA .and 67 (Value.int .u64 x0_1) (Value.int IntKind.u64 4294967295)) fun r1 => ∃ s15 : Int, r1 = (Value.int .u64 s15) /\ 
 pop P (binA .shr 67 (Value.int .u64 x0_1) (Value.int IntKind.u64 32)) fun r2 => ∃ s17 : Int, r2 = (Value.int .u64 s17) /\ 
 pop P (binA .and 67 (Value.int .u64 y1_1) (Value.int IntKind.u64 4294967295)) fun r3 => ∃ s19 : Int, r3 = (Value.int .u64 s19) /\ 
 pop P (binA .shr 67 (Value.int .u64 y1_1) (Value.int IntKind.u64 32)) fun r4 => ∃ s21 : Int, r4 = (Value.int .u64 s21) /\ 
 pop P (binA .shr 67 (Value.int .u64 (IntKind.wrap .u64 (s15 * s19))) (Value.int IntKind.u64 32)) fun r5 => ∃ s29 : Int, r5 = (Value.int .u64 s29) /\ 
 pop P (binA .and 67 (Value.int .u64 (IntKind.wrap .u64 ((IntKind.wrap .u64 (s17 * s19)) + s29))) (Value.int IntKind.u64 4294967295)) fun r6 => ∃ s32 : Int, r6 = (Value.int .u64 s32) /\ 
 pop P (binA .shr 67 (Value.int .u64 (IntKind.wrap .u64 ((IntKind.wrap .u64 (s17 * s19)) + s29))) (Value.int IntKind.u64 32)) fun r7 => ∃ s34 : Int, r7 = (Value.int .u64 s34) /\ 
 pop P (binA .shr 67 (Value.int .u64 (IntKind.wrap .u64 (s32 + (IntKind.wrap .u64 (s15 * s21))))) (Value.int IntKind.u64 32)) fun r8 => ∃ s46 : Int, r8 = (Value.int .u64 s46) /\ 
 K (.tuple #[(Value.int .u64 (IntKind.wrap .u64 ((IntKind.wrap .u64 ((IntKind.wrap .u64 (s17 * s21)) + s34)) + s46))), (Value.int .u64 (IntKind.wrap .u64 (x0_1 * y1_1)))]) h
theorem v143 (x0_1 : Int) (y1_1 : Int) (h : Heap) (K : Value -> Heap -> Prop) (H : u143 Try.prog x0_1 y1_1 h K) : callM Try.prog 143 #[(Value.int .u64 x0_1), (Value.int .u64 y1_1)] h K := by
  refine c143 (Value.int .u64 x0_1) (Value.int .u64 y1_1) h K ?_
  unfold u143 at H
  unfold t143
  have hL : Vars h [] := .nil
  refine H.mono fun r1 H => ?_
  obtain ⟨s15, rfl, H⟩ := H
  refine H.mono fun r2 H => ?_
  obtain ⟨s17, rfl, H⟩ := H
  refine H.mono fun r3 H => ?_
  obtain ⟨s19, rfl, H⟩ := H
  refine H.mono fun r4 H => ?_
  obtain ⟨s21, rfl, H⟩ := H
  refine pop_mul .u64 s15 s19 ?_
  refine pop_mul .u64 s17 s19 ?_
  refine H.mono fun r5 H => ?_
  obtain ⟨s29, rfl, H⟩ := H
  refine pop_add .u64 (IntKind.wrap .u64 (s17 * s19)) s29 ?_
  refine H.mono fun r6 H => ?_
  obtain ⟨s32, rfl, H⟩ := H
  refine H.mono fun r7 H => ?_
  obtain ⟨s34, rfl, H⟩ := H
  refine pop_mul .u64 s15 s21 ?_
  refine pop_add .u64 s32 (IntKind.wrap .u64 (s15 * s21)) ?_
  refine pop_mul .u64 s17 s21 ?_
  refine pop_add .u64 (IntKind.wrap .u64 (s17 * s21)) s34 ?_
  refine H.mono fun r8 H => ?_
  obtain ⟨s46, rfl, H⟩ := H
  refine pop_add .u64 (IntKind.wrap .u64 ((IntKind.wrap .u64 (s17 * s21)) + s34)) s46 ?_
  refine pop_mul .u64 x0_1 y1_1 ?_
  exact H
end Go.Proofs.Ytgiamamfnpklkaa
