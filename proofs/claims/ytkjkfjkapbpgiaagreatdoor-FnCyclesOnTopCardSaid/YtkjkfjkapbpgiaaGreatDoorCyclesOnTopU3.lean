import Derived.Test.YtkjkfjkapbpgiaaGreatDoorCyclesOnTopU2
import Derived.Test.YtkjkfjkapbpgiaaGreatDoorCyclesOnTopT
import Derived.Test.YtkjkfjkapbpgiaaGreatDoorM2
set_option linter.unusedVariables false
set_option linter.unusedSimpArgs false
set_option maxRecDepth 100000
set_option maxHeartbeats 16000000
namespace Go.Proofs.YtkjkfjkapbpgiaaGreatDoor
open Go Go.Mx
theorem v67 (b1 : Nat) (c0_1 : Sl) (c0_2 : Int) (c0_3 : Int) (h : Heap) (K : Value -> Heap -> Prop) (hL : Vars h [(b1, [c0_1.v, (VI c0_2), (Value.int .u64 c0_3)])]) (H : u67 Tryz.prog b1 c0_1 c0_2 c0_3 h K) : callM Tryz.prog 67 #[(VP b1 0)] h K := by
  refine c67 (VP b1 0) h K ?_
  unfold u67 at H
  unfold t67
  refine eop_alloc 26 zer26 rfl hL (fun b2 h1 hb1 hf1 hL1 => ?_)
  refine eop_alloc 54 zer54 rfl hL1 (fun b3 h2 hb2 hf2 hL2 => ?_)
  have H := H b2 b3 h2 hb1 (Nat.le_trans (Fr.size (Fr.no' (Fr.r (In []) _) hf1)) hb2) (Fr.no' (Fr.no' (Fr.r (In []) _) hf1) hf2) hL2
  refine H.mono fun r1 h3 H => ?_
  obtain ⟨y1, y2, y3, s7, rfl, hL3, H⟩ := H
  refine eop_alloc 26 zer26 rfl hL3 (fun b4 h4 hb3 hf3 hL4 => ?_)
  refine ul siz26 hL4 0 0 [s7.v] [(b4, [s7.v]), (b3, [nilSl.v, (VI 0)]), (b2, [nilSl.v]), (b1, [y1.v, (VI y2), (Value.int .u64 y3)])] (fun h5 hf4 hL5 => ?_)
  refine ra agg26 hL5 0 0 [s7.v] ?_
  have H := H b4 h5 hb3 (Fr.new (Fr.no' (Fr.r (In []) _) hf3) hb3 hf4) hL5
  refine H.mono fun r2 h6 H => ?_
  obtain ⟨s9, rfl, hL6, H⟩ := H
  refine pop_not s9 ?_
  refine condM_b (fun hb4 => ?_) (fun hb4 => ?_)
  ·have H := H.1 hb4
   refine ra agg26 hL6 0 0 [s7.v] ?_
   refine pop.mk' (v := (Value.agg #[nilSl.v, (VI 0)])) (fun w => by kernel_rfl) ?_
   refine ul siz26 hL6 2 0 [s7.v] [(b4, [s7.v]), (b3, [nilSl.v, (VI 0)]), (b2, [s7.v]), (b1, [y1.v, (VI y2), (Value.int .u64 y3)])] (fun h7 hf5 hL7 => ?_)
   refine ul siz54 hL7 1 0 [nilSl.v, (VI 0)] [(b4, [s7.v]), (b3, [nilSl.v, (VI 0)]), (b2, [s7.v]), (b1, [y1.v, (VI y2), (Value.int .u64 y3)])] (fun h8 hf6 hL8 => ?_)
   refine ra agg26 hL8 2 0 [s7.v] ?_
   refine ra agg54 hL8 1 0 [nilSl.v, (VI 0)] ?_
   have H := H  h8  (Fr.old (Fr.old (Fr.r (In []) _) hf5) hf6) hL8
   exact H
  have H := H.2 hb4
  refine ra agg26 hL6 0 0 [s7.v] ?_
  refine H.mono fun r3 h9 H => ?_
  obtain ⟨y4, y5, y6, s15, s15b, rfl, hL9, H⟩ := H
  refine eop_alloc 54 zer54 rfl hL9 (fun b5 h10 hb5 hf7 hL10 => ?_)
  refine ul siz54 hL10 0 0 [s15.v, (VI s15b)] [(b5, [s15.v, (VI s15b)]), (b4, [s7.v]), (b3, [nilSl.v, (VI 0)]), (b2, [nilSl.v]), (b1, [y4.v, (VI y5), (Value.int .u64 y6)])] (fun h11 hf8 hL11 => ?_)
  have H := H b5 h11 hb5 (Fr.new (Fr.no' (Fr.r (In []) _) hf7) hb5 hf8) hL11
  obtain ⟨J1, H, HB1⟩ := H
  refine ⟨fun (vs : List Value) (h' : Heap) => ∃ y7 : Sl, ∃ y8 : Int, ∃ y9 : Sl, ∃ y10 : Int, ∃ y11 : Int, vs = [] /\ J1 y7 y8 y9 y10 y11 h' /\ Vars h' [(b5, [y7.v, (VI y8)]), (b4, [s7.v]), (b3, [nilSl.v, (VI 0)]), (b2, [nilSl.v]), (b1, [y9.v, (VI y10), (Value.int .u64 y11)])], ?_, ?_⟩
  ·refine H.mono fun r4 h12 H => ?_
   obtain ⟨y12, y13, y14, s17, rfl, hL12, H⟩ := H
   refine pop_ieq .i64 _ _ s17 0 ?_
   refine condM_b (fun hb6 => ?_) (fun hb6 => ?_)
   ·have H := H.1 hb6
    refine pop_field 0 fld26_0 b4 0 ?_
    refine rl one24 hL12 1 0 s7.v ?_
    refine pop_len s7 _ _ sli24 ?_
    refine H.mono fun r5 h13 H => ?_
    obtain ⟨s24, rfl, hL13, H⟩ := H
    refine H.mono fun r6 h14 H => ?_
    obtain ⟨y15, y16, y17, s25, rfl, hL14, H⟩ := H
    refine pop_field 1 fld54_1 b5 0 ?_
    refine ul siz3 hL14 0 1 [(VI s25)] [(b5, [s15.v, (VI s25)]), (b4, [s7.v]), (b3, [nilSl.v, (VI 0)]), (b2, [nilSl.v]), (b1, [y15.v, (VI y16), (Value.int .u64 y17)])] (fun h15 hf9 hL15 => ?_)
    have H := H  h15  (Fr.old (Fr.r (In []) _) hf9) hL15
    exact ⟨s15, s25, y15, y16, y17, rfl, H, hL15⟩
   have H := H.2 hb6
   refine pop_ieq .i64 _ _ s17 1 ?_
   refine condM_b (fun hb7 => ?_) (fun hb7 => ?_)
   rotate_left
   ·have H := H.2 hb7
    refine pop_ieq .i64 _ _ s17 2 ?_
    refine condM_b (fun hb8 => ?_) (fun hb8 => ?_)
    rotate_left
    ·have H := H.2 hb8
     exact ⟨s15, s15b, y12, y13, y14, rfl, H, hL12⟩
    have H := H.1 hb8
    refine pop_field 0 fld54_0 b5 0 ?_
    refine rl one33 hL12 0 0 s15.v ?_
    refine H.mono fun r13 h24 H => ?_
    obtain ⟨s44, rfl, hL24, H⟩ := H
    refine H.mono fun r14 h25 H => ?_
    obtain ⟨s45, rfl, hL25, H⟩ := H
    refine pop_field 0 fld54_0 b5 0 ?_
    refine ul siz33 hL25 0 0 [s45.v] [(b5, [s45.v, (VI s15b)]), (b4, [s7.v]), (b3, [nilSl.v, (VI 0)]), (b2, [nilSl.v]), (b1, [y12.v, (VI y13), (Value.int .u64 y14)])] (fun h26 hf10 hL26 => ?_)
    have H := H  h26  (Fr.old (Fr.r (In []) _) hf10) hL26
    exact ⟨s45, s15b, y12, y13, y14, rfl, H, hL26⟩
   have H := H.1 hb7
   refine pop_field 0 fld54_0 b5 0 ?_
   refine rl one33 hL12 0 0 s15.v ?_
   refine pop_field 0 fld54_0 b5 0 ?_
   refine rl one33 hL12 0 0 s15.v ?_
   refine pop_len s15 _ _ sli33 ?_
   refine ⟨?_, ?_⟩
   ·have H := H.1
    refine H.mono fun r7 h16 H => ?_
    obtain ⟨y18, y19, y20, s35, rfl, hL16, H⟩ := H
    refine ⟨?_, ?_⟩
    ·exact still_loc one33 hL16 0 rfl 0 (v := s15.v) rfl
    refine ⟨?_, ?_⟩
    ·exact still_loc one33 hL16 0 rfl 0 (v := s15.v) rfl
    refine H.mono fun r8 h17 H => ?_
    obtain ⟨s37, rfl, hL17, H⟩ := H
    refine ⟨?_, ?_⟩
    ·exact still_loc one33 hL17 0 rfl 0 (v := s15.v) rfl
    refine ⟨?_, ?_⟩
    ·exact still_loc one33 hL17 0 rfl 0 (v := s15.v) rfl
    refine H.mono fun r9 h18 H => ?_
    obtain ⟨y21, y22, y23, s38, rfl, hL18, H⟩ := H
    refine ⟨?_, ?_⟩
    ·exact still_loc one33 hL18 0 rfl 0 (v := s15.v) rfl
    refine ⟨?_, ?_⟩
    ·exact still_loc one33 hL18 0 rfl 0 (v := s15.v) rfl
    obtain ⟨hi1, H⟩ := H
    refine pop_index sli33 siz3 .i64 s15 s35 hi1 ?_
    obtain ⟨hw_1, hL19, H⟩ := H
    refine uop_cell (v := (VI s38)) siz3 hw_1 rfl (fun h19 he_1 => ?_)
    rw [← he_1] at hL19
    have H := H h19 he_1 hL19
    exact ⟨s15, s15b, y21, y22, y23, rfl, H, hL19⟩
   have H := H.2
   refine H.mono fun r10 h20 H => ?_
   obtain ⟨s37b, rfl, hL20, H⟩ := H
   refine ⟨?_, ?_⟩
   ·exact still_loc one33 hL20 0 rfl 0 (v := s15.v) rfl
   refine ⟨?_, ?_⟩
   ·exact still_loc one33 hL20 0 rfl 0 (v := s15.v) rfl
   refine H.mono fun r11 h21 H => ?_
   obtain ⟨y24, y25, y26, s35b, rfl, hL21, H⟩ := H
   refine ⟨?_, ?_⟩
   ·exact still_loc one33 hL21 0 rfl 0 (v := s15.v) rfl
   refine ⟨?_, ?_⟩
   ·exact still_loc one33 hL21 0 rfl 0 (v := s15.v) rfl
   refine H.mono fun r12 h22 H => ?_
   obtain ⟨y27, y28, y29, s38b, rfl, hL22, H⟩ := H
   refine ⟨?_, ?_⟩
   ·exact still_loc one33 hL22 0 rfl 0 (v := s15.v) rfl
   refine ⟨?_, ?_⟩
   ·exact still_loc one33 hL22 0 rfl 0 (v := s15.v) rfl
   obtain ⟨hi2, H⟩ := H
   refine pop_index sli33 siz3 .i64 s15 s35b hi2 ?_
   obtain ⟨hw_2, hL23, H⟩ := H
   refine uop_cell (v := (VI s38b)) siz3 hw_2 rfl (fun h23 he_2 => ?_)
   rw [← he_2] at hL23
   have H := H h23 he_2 hL23
   exact ⟨s15, s15b, y27, y28, y29, rfl, H, hL23⟩
  intro junk1  h27
  rintro ⟨y7, y8, y9, y10, y11, hv, hJ1, hL27⟩
  have H := HB1 y7 y8 y9 y10 y11 h27 hJ1 hL27
  refine ra agg26 hL27 1 0 [s7.v] ?_
  refine ra agg54 hL27 0 0 [y7.v, (VI y8)] ?_
  refine ul siz26 hL27 3 0 [s7.v] [(b5, [y7.v, (VI y8)]), (b4, [s7.v]), (b3, [nilSl.v, (VI 0)]), (b2, [s7.v]), (b1, [y9.v, (VI y10), (Value.int .u64 y11)])] (fun h28 hf11 hL28 => ?_)
  have H := H  h28  (Fr.old (Fr.r (In []) _) hf11) hL28
  refine ⟨?_, ?_⟩
  ·exact still_locA agg54 hL28 0 rfl 0 (vs := [y7.v, (VI y8)]) rfl rfl
  refine ul siz54 hL28 2 0 [y7.v, (VI y8)] [(b5, [y7.v, (VI y8)]), (b4, [s7.v]), (b3, [y7.v, (VI y8)]), (b2, [s7.v]), (b1, [y9.v, (VI y10), (Value.int .u64 y11)])] (fun h29 hf12 hL29 => ?_)
  refine ra agg26 hL29 3 0 [s7.v] ?_
  refine ra agg54 hL29 2 0 [y7.v, (VI y8)] ?_
  have H := H  h29  (Fr.old (Fr.r (In []) _) hf12) hL29
  exact H
def u68 (P : Program) (b1 : Nat) (c0_1 : Sl) (c0_2 : Int) (c0_3 : Int) (n1_1 : Int) (h : Heap) (K : Value -> Heap -> Prop) : Prop :=
 callM P 70 #[(VP b1 0), (VI n1_1)] h fun r1 h1 => ∃ y1 : Sl, ∃ y2 : Int, ∃ y3 : Int, ∃ s7 : Int, r1 = (VI s7) /\ Vars h1 [(b1, [y1.v, (VI y2), (Value.int .u64 y3)])] /\
 K (VB (decide (s7 = 0))) h1
theorem v68 (b1 : Nat) (c0_1 : Sl) (c0_2 : Int) (c0_3 : Int) (n1_1 : Int) (h : Heap) (K : Value -> Heap -> Prop) (hL : Vars h [(b1, [c0_1.v, (VI c0_2), (Value.int .u64 c0_3)])]) (H : u68 Tryz.prog b1 c0_1 c0_2 c0_3 n1_1 h K) : callM Tryz.prog 68 #[(VP b1 0), (VI n1_1)] h K := by
  refine c68 (VP b1 0) (VI n1_1) h K ?_
  unfold u68 at H
  unfold t68
  refine H.mono fun r1 h1 H => ?_
  obtain ⟨y1, y2, y3, s7, rfl, hL1, H⟩ := H
  refine pop_ieq .i64 _ _ s7 0 ?_
  exact H
def u69 (P : Program) (b1 : Nat) (c0_1 : Sl) (c0_2 : Int) (c0_3 : Int) (list1_1 : Sl) (h : Heap) (K : Value -> Heap -> Prop) : Prop :=
 callM P 70 #[(VP b1 0), (VI (list1_1.n : Int))] h fun r1 h1 => ∃ y1 : Sl, ∃ y2 : Int, ∃ y3 : Int, ∃ s9 : Int, r1 = (VI s9) /\ Vars h1 [(b1, [y1.v, (VI y2), (Value.int .u64 y3)])] /\
 InB list1_1 s9 /\
 ∃ s11 : Int, hcell h1 (Sl.at list1_1 s9 1) = some (VI s11) /\
 K (VI s11) h1
theorem v69 (b1 : Nat) (c0_1 : Sl) (c0_2 : Int) (c0_3 : Int) (list1_1 : Sl) (h : Heap) (K : Value -> Heap -> Prop) (hL : Vars h [(b1, [c0_1.v, (VI c0_2), (Value.int .u64 c0_3)])]) (H : u69 Tryz.prog b1 c0_1 c0_2 c0_3 list1_1 h K) : callM Tryz.prog 69 #[(VP b1 0), list1_1.v] h K := by
  refine c69 (VP b1 0) list1_1.v h K ?_
  unfold u69 at H
  unfold t69
  refine pop_len list1_1 _ _ sli33 ?_
  refine H.mono fun r1 h1 H => ?_
  obtain ⟨y1, y2, y3, s9, rfl, hL1, H⟩ := H
  obtain ⟨hi1, H⟩ := H
  refine pop_index sli33 siz3 .i64 list1_1 s9 hi1 ?_
  obtain ⟨s11, hc1, H⟩ := H
  refine rop_one one3 (VI s11) hc1 ?_
  exact H
def u70 (P : Program) (b1 : Nat) (c0_1 : Sl) (c0_2 : Int) (c0_3 : Int) (n1_1 : Int) (h : Heap) (K : Value -> Heap -> Prop) : Prop :=
 ((decide (n1_1 ≤ 1)) = true ->
 K (VI 0) h) /\
 ((decide (n1_1 ≤ 1)) = false ->
 callM P 122 #[(VP b1 0)] h fun r1 h1 => ∃ y1 : Sl, ∃ y2 : Int, ∃ y3 : Int, ∃ s9 : Int, r1 = (VI s9) /\ Vars h1 [(b1, [y1.v, (VI y2), (Value.int .u64 y3)])] /\
 ∃ J1 : Int -> Sl -> Int -> Int -> Heap -> Prop, (((decide (200 < n1_1)) = true ->
 callM P 122 #[(VP b1 0)] h1 fun r2 h2 => ∃ y8 : Sl, ∃ y9 : Int, ∃ y10 : Int, ∃ s15 : Int, r2 = (VI s15) /\ Vars h2 [(b1, [y8.v, (VI y9), (Value.int .u64 y10)])] /\
 J1 (w64 ((w64 (s9 * 256)) + s15)) y8 y9 y10 h2) /\
 ((decide (200 < n1_1)) = false ->
 J1 s9 y1 y2 y3 h1)) /\
 ∀ (y4 : Int) (y5 : Sl) (y6 : Int) (y7 : Int) (h3 : Heap), J1 y4 y5 y6 y7 h3 -> Vars h3 [(b1, [y5.v, (VI y6), (Value.int .u64 y7)])] ->
 n1_1 ≠ 0 /\
 K (VI (Int.tmod y4 n1_1)) h3)
theorem v70 (b1 : Nat) (c0_1 : Sl) (c0_2 : Int) (c0_3 : Int) (n1_1 : Int) (h : Heap) (K : Value -> Heap -> Prop) (hL : Vars h [(b1, [c0_1.v, (VI c0_2), (Value.int .u64 c0_3)])]) (H : u70 Tryz.prog b1 c0_1 c0_2 c0_3 n1_1 h K) : callM Tryz.prog 70 #[(VP b1 0), (VI n1_1)] h K := by
  refine c70 (VP b1 0) (VI n1_1) h K ?_
  unfold u70 at H
  unfold t70
  refine pop_leq .i64 n1_1 1 ?_
  refine condM_b (fun hb1 => ?_) (fun hb1 => ?_)
  ·exact H.1 hb1
  have H := H.2 hb1
  refine H.mono fun r1 h1 H => ?_
  obtain ⟨y1, y2, y3, s9, rfl, hL1, H⟩ := H
  obtain ⟨J1, H, HB1⟩ := H
  refine ⟨fun (vs : List Value) (h' : Heap) => ∃ y4 : Int, ∃ y5 : Sl, ∃ y6 : Int, ∃ y7 : Int, vs = [(VI y4)] /\ J1 y4 y5 y6 y7 h' /\ Vars h' [(b1, [y5.v, (VI y6), (Value.int .u64 y7)])], ?_, ?_⟩
  ·refine pop_gtr .i64 n1_1 200 ?_
   refine condM_b (fun hb2 => ?_) (fun hb2 => ?_)
   rotate_left
   ·have H := H.2 hb2
    exact ⟨s9, y1, y2, y3, rfl, H, hL1⟩
   have H := H.1 hb2
   refine pop_mul .i64 s9 256 ?_
   refine H.mono fun r2 h2 H => ?_
   obtain ⟨y8, y9, y10, s15, rfl, hL2, H⟩ := H
   refine pop_add .i64 (w64 (s9 * 256)) s15 ?_
   exact ⟨(w64 ((w64 (s9 * 256)) + s15)), y8, y9, y10, rfl, H, hL2⟩
  intro junk1 tv1 h3
  rintro ⟨y4, y5, y6, y7, hv, hJ1, hL3⟩
  cases hv
  have H := HB1 y4 y5 y6 y7 h3 hJ1 hL3
  obtain ⟨hz_1, H⟩ := H
  refine pop_rem .i64 y4 n1_1 hz_1 ?_
  exact H
def u71 (P : Program) (g0_1 : Sl) (rotors1_1 : Sl) (h : Heap) (K : Value -> Heap -> Prop) : Prop :=
 ∀ (b1 : Nat) (h1 : Heap), h.size ≤ b1 -> Fr (In []) h h1 -> Vars h1 [(b1, [g0_1.v])] ->
 callM P 84 #[(.agg #[g0_1.v]), (.agg #[rotors1_1.v, (VI 0)])] h1 fun r1 h2 => ∃ s8 : Bool, r1 = (VB s8) /\ Vars h2 [(b1, [g0_1.v])] /\
 K (VB s8) h2
theorem v71 (g0_1 : Sl) (rotors1_1 : Sl) (h : Heap) (K : Value -> Heap -> Prop) (H : u71 Tryz.prog g0_1 rotors1_1 h K) : callM Tryz.prog 71 #[(Value.agg #[g0_1.v]), rotors1_1.v] h K := by
  refine c71 (Value.agg #[g0_1.v]) rotors1_1.v h K ?_
  unfold u71 at H
  unfold t71
  have hL : Vars h [] := .nil
  refine eop_box 26 (Value.agg #[g0_1.v]) rfl hL (fun b1 h1 hb1 hf1 hL1 => ?_)
  refine ra agg26 hL1 0 0 [g0_1.v] ?_
  refine pop.mk' (v := (Value.agg #[rotors1_1.v, (VI 0)])) (fun w => by kernel_rfl) ?_
  have H := H b1 h1 hb1 (Fr.no' (Fr.r (In []) _) hf1) hL1
  refine H.mono fun r1 h2 H => ?_
  obtain ⟨s8, rfl, hL2, H⟩ := H
  exact H
def u72 (P : Program) (n0_1 : Int) (low1_1 : Int) (high2_1 : Int) (h : Heap) (K : Value -> Heap -> Prop) : Prop :=
 ((decide (low1_1 ≤ n0_1)) = true ->
 K (VB (decide (n0_1 ≤ high2_1))) h) /\
 ((decide (low1_1 ≤ n0_1)) = false ->
 K (VB false) h)
theorem v72 (n0_1 : Int) (low1_1 : Int) (high2_1 : Int) (h : Heap) (K : Value -> Heap -> Prop) (H : u72 Tryz.prog n0_1 low1_1 high2_1 h K) : callM Tryz.prog 72 #[(VI n0_1), (VI low1_1), (VI high2_1)] h K := by
  refine c72 (VI n0_1) (VI low1_1) (VI high2_1) h K ?_
  unfold u72 at H
  unfold t72
  have hL : Vars h [] := .nil
  refine pop_leq .i64 low1_1 n0_1 ?_
  refine guardM_st (fun hb1 => ?_) (fun hb1 => ?_)
  rotate_left
  ·have H := H.2 hb1
   refine gm hb1 ?_
   refine gm hb1 ?_
   refine pop_pickf' hb1 ?_
   exact H
  have H := H.1 hb1
  refine gy hb1 ?_
  refine gy hb1 ?_
  refine pop_leq .i64 n0_1 high2_1 ?_
  refine pop_pickt' hb1 ?_
  exact H
def u73 (P : Program) (g0_1 : Sl) (w1_1 : Sl) (w1_2 : Int) (h : Heap) (K : Value -> Heap -> Prop) : Prop :=
 ∀ (b1 : Nat) (b2 : Nat) (h2 : Heap), h.size ≤ b1 -> h.size ≤ b2 -> Fr (In []) h h2 -> Vars h2 [(b2, [w1_1.v, (VI w1_2)]), (b1, [g0_1.v])] ->
 callM P 55 #[(.agg #[g0_1.v]), (VI w1_2)] h2 fun r1 h3 => ∃ s10 : Bool, r1 = (VB s10) /\ Vars h3 [(b2, [w1_1.v, (VI w1_2)]), (b1, [g0_1.v])] /\
 ((!s10) = true ->
 K (VB false) h3) /\
 ((!s10) = false ->
 ((!decide ((w1_1.n : Int) = (g0_1.n : Int))) = true ->
 K (VB false) h3) /\
 ((!decide ((w1_1.n : Int) = (g0_1.n : Int))) = false ->
 ∃ J1 : Nat -> Int -> Heap -> Prop, (∃ n0 : Nat, J1 n0 0 h3) /\
 ∀ (n1 : Nat) (s24 : Int) (h4 : Heap), J1 n1 s24 h4 -> Vars h4 [(b2, [w1_1.v, (VI w1_2)]), (b1, [g0_1.v])] ->
 ((decide (s24 < (g0_1.n : Int))) = true ->
 InB g0_1 s24 /\
 ∃ s28 : Sl, hcell h4 (Sl.at g0_1 s24 1) = some s28.v /\
 InB w1_1 s24 /\
 ∃ s33 : Int, hcell h4 (Sl.at w1_1 s24 1) = some (VI s33) /\
 callM P 123 #[(VI 0), (VI (w64 ((s28.n : Int) - 1)))] h4 fun r2 h5 => ∃ s37 : Int, r2 = (VI s37) /\ Vars h5 [(b2, [w1_1.v, (VI w1_2)]), (b1, [g0_1.v])] /\
 hcell h5 (Sl.at w1_1 s24 1) = some (VI s33) /\
 callM P 74 #[(VI s33), (VI 0), (VI s37)] h5 fun r3 h6 => ∃ s38 : Bool, r3 = (VB s38) /\ Vars h6 [(b2, [w1_1.v, (VI w1_2)]), (b1, [g0_1.v])] /\
 ((!s38) = true ->
 K (VB false) h6) /\
 ((!s38) = false ->
 ∃ m : Nat, m < n1 /\ J1 m (w64 (s24 + 1)) h6)) /\
 ((decide (s24 < (g0_1.n : Int))) = false ->
 K (VB true) h4)))
theorem v73 (g0_1 : Sl) (w1_1 : Sl) (w1_2 : Int) (h : Heap) (K : Value -> Heap -> Prop) (H : u73 Tryz.prog g0_1 w1_1 w1_2 h K) : callM Tryz.prog 73 #[(Value.agg #[g0_1.v]), (Value.agg #[w1_1.v, (VI w1_2)])] h K := by
  refine c73 (Value.agg #[g0_1.v]) (Value.agg #[w1_1.v, (VI w1_2)]) h K ?_
  unfold u73 at H
  unfold t73
  have hL : Vars h [] := .nil
  refine eop_box 26 (Value.agg #[g0_1.v]) rfl hL (fun b1 h1 hb1 hf1 hL1 => ?_)
  refine eop_box 54 (Value.agg #[w1_1.v, (VI w1_2)]) rfl hL1 (fun b2 h2 hb2 hf2 hL2 => ?_)
  refine ra agg26 hL2 1 0 [g0_1.v] ?_
  refine pop_field 1 fld54_1 b2 0 ?_
  refine rl one3 hL2 0 1 (VI w1_2) ?_
  have H := H b1 b2 h2 hb1 (Nat.le_trans (Fr.size (Fr.no' (Fr.r (In []) _) hf1)) hb2) (Fr.no' (Fr.no' (Fr.r (In []) _) hf1) hf2) hL2
  refine H.mono fun r1 h3 H => ?_
  obtain ⟨s10, rfl, hL3, H⟩ := H
  refine pop_not s10 ?_
  refine guardM_sf (fun hb3 => ?_) (fun hb3 => ?_)
  rotate_left
  ·have H := H.1 hb3
   refine gm hb3 ?_
   refine gm hb3 ?_
   refine gm hb3 ?_
   refine gm hb3 ?_
   refine gm hb3 ?_
   refine gm hb3 ?_
   refine pop_pickt' hb3 ?_
   refine condM_t ?_
   exact H
  have H := H.2 hb3
  refine pop_field 0 fld54_0 b2 0 ?_
  refine gy hb3 ?_
  refine rl one33 hL3 0 0 w1_1.v ?_
  refine gy hb3 ?_
  refine pop_len w1_1 _ _ sli33 ?_
  refine gy hb3 ?_
  refine pop_field 0 fld26_0 b1 0 ?_
  refine gy hb3 ?_
  refine rl one24 hL3 1 0 g0_1.v ?_
  refine gy hb3 ?_
  refine pop_len g0_1 _ _ sli24 ?_
  refine gy hb3 ?_
  refine pop_ine .i64 _ _ (w1_1.n : Int) (g0_1.n : Int) ?_
  refine pop_pickf' hb3 ?_
  refine condM_b (fun hb4 => ?_) (fun hb4 => ?_)
  ·exact H.1 hb4
  have H := H.2 hb4
  refine pop_field 0 fld26_0 b1 0 ?_
  refine rl one24 hL3 1 0 g0_1.v ?_
  refine pop_len g0_1 _ _ sli24 ?_
  obtain ⟨J1, ⟨n2, h0_1⟩, HB1⟩ := H
  refine loop_intro (J := fun (n : Nat) (vs : List Value) (h' : Heap) => ∃ s24 : Int, vs = [(VI s24)] /\ J1 n s24 h' /\ Vars h' [(b2, [w1_1.v, (VI w1_2)]), (b1, [g0_1.v])]) n2 ⟨0, rfl, h0_1, hL3⟩ ?_
  intro I1 mu1 hI1 junk1 tv1 h4 hi1
  obtain ⟨n1, ⟨s24, hv, hJ1, hL4⟩, hn1⟩ := hI1 _ _ hi1
  cases hv
  have H := HB1 n1 s24 h4 hJ1 hL4
  refine pop_lss .i64 s24 (g0_1.n : Int) ?_
  refine condM_b (fun hb5 => ?_) (fun hb5 => ?_)
  rotate_left
  ·exact H.2 hb5
  have H := H.1 hb5
  obtain ⟨hi2, H⟩ := H
  refine pop_index sli24 siz33 .i64 g0_1 s24 hi2 ?_
  obtain ⟨s28, hc3, H⟩ := H
  refine rop_one one33 s28.v hc3 ?_
  refine pop_field 0 fld54_0 b2 0 ?_
  refine rl one33 hL4 0 0 w1_1.v ?_
  obtain ⟨hi3, H⟩ := H
  refine pop_index sli33 siz3 .i64 w1_1 s24 hi3 ?_
  obtain ⟨s33, hc2, H⟩ := H
  refine rop_one one3 (VI s33) hc2 ?_
  refine pop_len s28 _ _ sli33 ?_
  refine pop_sub .i64 (s28.n : Int) 1 ?_
  refine H.mono fun r2 h5 H => ?_
  obtain ⟨s37, rfl, hL5, H⟩ := H
  refine ⟨?_, ?_⟩
  ·exact still_one one3 H.1
  obtain ⟨hc1, H⟩ := H
  refine ⟨?_, ?_⟩
  ·exact still_loc one33 hL5 0 rfl 0 (v := w1_1.v) rfl
  refine H.mono fun r3 h6 H => ?_
  obtain ⟨s38, rfl, hL6, H⟩ := H
  refine ⟨?_, ?_⟩
  ·exact still_loc one33 hL6 0 rfl 0 (v := w1_1.v) rfl
  refine pop_not s38 ?_
  refine condM_b (fun hb6 => ?_) (fun hb6 => ?_)
  ·exact H.1 hb6
  have H := H.2 hb6
  refine pop_add .i64 s24 1 ?_
  obtain ⟨m_1, hm_1, H⟩ := H
  exact hn1 _ _ ⟨m_1, hm_1, (w64 (s24 + 1)), rfl, H, hL6⟩
def u74 (P : Program) (n0_1 : Int) (lo1_1 : Int) (hi2_1 : Int) (h : Heap) (K : Value -> Heap -> Prop) : Prop :=
 ((decide (lo1_1 ≤ n0_1)) = true ->
 K (VB (decide (n0_1 ≤ hi2_1))) h) /\
 ((decide (lo1_1 ≤ n0_1)) = false ->
 K (VB false) h)
theorem v74 (n0_1 : Int) (lo1_1 : Int) (hi2_1 : Int) (h : Heap) (K : Value -> Heap -> Prop) (H : u74 Tryz.prog n0_1 lo1_1 hi2_1 h K) : callM Tryz.prog 74 #[(VI n0_1), (VI lo1_1), (VI hi2_1)] h K := by
  refine c74 (VI n0_1) (VI lo1_1) (VI hi2_1) h K ?_
  unfold u74 at H
  unfold t74
  have hL : Vars h [] := .nil
  refine pop_geq .i64 n0_1 lo1_1 ?_
  refine guardM_st (fun hb1 => ?_) (fun hb1 => ?_)
  rotate_left
  ·have H := H.2 hb1
   refine gm hb1 ?_
   refine gm hb1 ?_
   refine pop_pickf' hb1 ?_
   exact H
  have H := H.1 hb1
  refine gy hb1 ?_
  refine gy hb1 ?_
  refine pop_leq .i64 n0_1 hi2_1 ?_
  refine pop_pickt' hb1 ?_
  exact H
def u75 (P : Program) (s0_1 : Sl) (f1_1 : Value) (h : Heap) (K : Value -> Heap -> Prop) : Prop :=
 callM P 124 #[s0_1.v, f1_1] h fun r1 h1 => ∃ s7 : Int, r1 = (VI s7) /\ Vars h1 [] /\
 K (VB (decide (0 ≤ s7))) h1
theorem v75 (s0_1 : Sl) (f1_1 : Value) (h : Heap) (K : Value -> Heap -> Prop) (H : u75 Tryz.prog s0_1 f1_1 h K) : callM Tryz.prog 75 #[s0_1.v, f1_1] h K := by
  refine c75 s0_1.v f1_1 h K ?_
  unfold u75 at H
  unfold t75
  have hL : Vars h [] := .nil
  refine H.mono fun r1 h1 H => ?_
  obtain ⟨s7, rfl, hL1, H⟩ := H
  refine pop_geq .i64 s7 0 ?_
  exact H
def u76 (P : Program) (k0_1 : Int) (h : Heap) (K : Value -> Heap -> Prop) : Prop :=
 callM P 72 #[(VI k0_1), (VI 0), (VI 4)] h fun r1 h1 => ∃ s4 : Bool, r1 = (VB s4) /\ Vars h1 [] /\
 K (VB (!s4)) h1
theorem v76 (k0_1 : Int) (h : Heap) (K : Value -> Heap -> Prop) (H : u76 Tryz.prog k0_1 h K) : callM Tryz.prog 76 #[(VI k0_1)] h K := by
  refine c76 (VI k0_1) h K ?_
  unfold u76 at H
  unfold t76
  have hL : Vars h [] := .nil
  refine H.mono fun r1 h1 H => ?_
  obtain ⟨s4, rfl, hL1, H⟩ := H
  refine pop_not s4 ?_
  exact H
def u77 (P : Program) (list0_1 : Sl) (h : Heap) (K : Value -> Heap -> Prop) : Prop :=
 ((decide ((list0_1.n : Int) = 0)) = true ->
 K (VS ({ data := #[45] })) h) /\
 ((decide ((list0_1.n : Int) = 0)) = false ->
 eop P (Instr.buildSlice 99 0 #[]) h fun r1 h1 => ∃ s9 : Sl, r1 = s9.v /\ Vars h1 [] /\
 ∃ J1 : Nat -> Sl -> Int -> Heap -> Prop, (∃ n0 : Nat, J1 n0 s9 0 h1) /\
 ∀ (n1 : Nat) (words3_1 : Sl) (s12 : Int) (h2 : Heap), J1 n1 words3_1 s12 h2 -> Vars h2 [] ->
 ((decide (s12 < (list0_1.n : Int))) = true ->
 InB list0_1 s12 /\
 ∃ s15 : Int, hcell h2 (Sl.at list0_1 s12 1) = some (VI s15) /\
 callM P 125 #[(VI s15)] h2 fun r2 h3 => ∃ s18 : ByteArray, r2 = (VS s18) /\ Vars h3 [] /\
 eop P (Instr.buildSlice 99 1 #[(0, (VS s18))]) h3 fun r3 h4 => ∃ s19 : Sl, r3 = s19.v /\ Vars h4 [] /\
 eop P (appS 99 99 99 words3_1.v s19.v) h4 fun r4 h5 => ∃ s20 : Sl, r4 = s20.v /\ Vars h5 [] /\
 ∃ m : Nat, m < n1 /\ J1 m s20 (w64 (s12 + 1)) h5) /\
 ((decide (s12 < (list0_1.n : Int))) = false ->
 callM P 78 #[words3_1.v, (VS ({ data := #[44] }))] h2 fun r5 h6 => ∃ s23 : ByteArray, r5 = (VS s23) /\ Vars h6 [] /\
 K (VS s23) h6))
theorem v77 (list0_1 : Sl) (h : Heap) (K : Value -> Heap -> Prop) (H : u77 Tryz.prog list0_1 h K) : callM Tryz.prog 77 #[list0_1.v] h K := by
  refine c77 list0_1.v h K ?_
  unfold u77 at H
  unfold t77
  have hL : Vars h [] := .nil
  refine pop_len list0_1 _ _ sli33 ?_
  refine pop_ieq .i64 _ _ (list0_1.n : Int) 0 ?_
  refine condM_b (fun hb1 => ?_) (fun hb1 => ?_)
  ·exact H.1 hb1
  have H := H.2 hb1
  refine H.mono fun r1 h1 H => ?_
  obtain ⟨s9, rfl, hL1, H⟩ := H
  refine pop_len list0_1 _ _ sli33 ?_
  obtain ⟨J1, ⟨n2, h0_1⟩, HB1⟩ := H
  refine loop_intro (J := fun (n : Nat) (vs : List Value) (h' : Heap) => ∃ words3_1 : Sl, ∃ s12 : Int, vs = [words3_1.v, (VI s12)] /\ J1 n words3_1 s12 h' /\ Vars h' []) n2 ⟨s9, 0, rfl, h0_1, hL1⟩ ?_
  intro I1 mu1 hI1 junk1 tv1 tv2 h2 hi1
  obtain ⟨n1, ⟨words3_1, s12, hv, hJ1, hL2⟩, hn1⟩ := hI1 _ _ hi1
  cases hv
  have H := HB1 n1 words3_1 s12 h2 hJ1 hL2
  refine pop_lss .i64 s12 (list0_1.n : Int) ?_
  refine condM_b (fun hb2 => ?_) (fun hb2 => ?_)
  rotate_left
  ·have H := H.2 hb2
   refine H.mono fun r5 h6 H => ?_
   obtain ⟨s23, rfl, hL6, H⟩ := H
   exact H
  have H := H.1 hb2
  obtain ⟨hi2, H⟩ := H
  refine pop_index sli33 siz3 .i64 list0_1 s12 hi2 ?_
  obtain ⟨s15, hc1, H⟩ := H
  refine rop_one one3 (VI s15) hc1 ?_
  refine H.mono fun r2 h3 H => ?_
  obtain ⟨s18, rfl, hL3, H⟩ := H
  refine H.mono fun r3 h4 H => ?_
  obtain ⟨s19, rfl, hL4, H⟩ := H
  refine H.mono fun r4 h5 H => ?_
  obtain ⟨s20, rfl, hL5, H⟩ := H
  refine pop_add .i64 s12 1 ?_
  obtain ⟨m_1, hm_1, H⟩ := H
  exact hn1 _ _ ⟨m_1, hm_1, s20, (w64 (s12 + 1)), rfl, H, hL5⟩
def u79 (P : Program) (l0_1 : Sl) (lo1_1 : Int) (hi2_1 : Int) (h : Heap) (K : Value -> Heap -> Prop) : Prop :=
 ∃ J1 : Nat -> Int -> Heap -> Prop, (∃ n0 : Nat, J1 n0 0 h) /\
 ∀ (n1 : Nat) (s11 : Int) (h1 : Heap), J1 n1 s11 h1 -> Vars h1 [] ->
 ((decide (s11 < (l0_1.n : Int))) = true ->
 InB l0_1 s11 /\
 ∃ s14 : Int, hcell h1 (Sl.at l0_1 s11 1) = some (VI s14) /\
 callM P 74 #[(VI s14), (VI lo1_1), (VI hi2_1)] h1 fun r1 h2 => ∃ s18 : Bool, r1 = (VB s18) /\ Vars h2 [] /\
 ((!s18) = true ->
 K (VB false) h2) /\
 ((!s18) = false ->
 ∃ m : Nat, m < n1 /\ J1 m (w64 (s11 + 1)) h2)) /\
 ((decide (s11 < (l0_1.n : Int))) = false ->
 K (VB true) h1)
theorem v79 (l0_1 : Sl) (lo1_1 : Int) (hi2_1 : Int) (h : Heap) (K : Value -> Heap -> Prop) (H : u79 Tryz.prog l0_1 lo1_1 hi2_1 h K) : callM Tryz.prog 79 #[l0_1.v, (VI lo1_1), (VI hi2_1)] h K := by
  refine c79 l0_1.v (VI lo1_1) (VI hi2_1) h K ?_
  unfold u79 at H
  unfold t79
  have hL : Vars h [] := .nil
  refine pop_len l0_1 _ _ sli33 ?_
  obtain ⟨J1, ⟨n2, h0_1⟩, HB1⟩ := H
  refine loop_intro (J := fun (n : Nat) (vs : List Value) (h' : Heap) => ∃ s11 : Int, vs = [(VI s11)] /\ J1 n s11 h' /\ Vars h' []) n2 ⟨0, rfl, h0_1, hL⟩ ?_
  intro I1 mu1 hI1 junk1 tv1 h1 hi1
  obtain ⟨n1, ⟨s11, hv, hJ1, hL1⟩, hn1⟩ := hI1 _ _ hi1
  cases hv
  have H := HB1 n1 s11 h1 hJ1 hL1
  refine pop_lss .i64 s11 (l0_1.n : Int) ?_
  refine condM_b (fun hb1 => ?_) (fun hb1 => ?_)
  rotate_left
  ·exact H.2 hb1
  have H := H.1 hb1
  obtain ⟨hi2, H⟩ := H
  refine pop_index sli33 siz3 .i64 l0_1 s11 hi2 ?_
  obtain ⟨s14, hc1, H⟩ := H
  refine rop_one one3 (VI s14) hc1 ?_
  refine H.mono fun r1 h2 H => ?_
  obtain ⟨s18, rfl, hL2, H⟩ := H
  refine pop_not s18 ?_
  refine condM_b (fun hb2 => ?_) (fun hb2 => ?_)
  ·exact H.1 hb2
  have H := H.2 hb2
  refine pop_add .i64 s11 1 ?_
  obtain ⟨m_1, hm_1, H⟩ := H
  exact hn1 _ _ ⟨m_1, hm_1, (w64 (s11 + 1)), rfl, H, hL2⟩
def u80 (P : Program) (n0_1 : Int) (h : Heap) (K : Value -> Heap -> Prop) : Prop :=
 ((decide (n0_1 < 10)) = true ->
 rop P (convert 3 5 (VI (w64 (48 + n0_1)))) h fun r1 => ∃ s7 : Int, r1 = (Value.int .u8 s7) /\ 
 eop P (Instr.buildSlice 22 1 #[(0, (Value.int .u8 s7))]) h fun r2 h1 => ∃ s8 : Sl, r2 = s8.v /\ Vars h1 [] /\
 rop P (convert 22 9 s8.v) h1 fun r3 => ∃ s9 : ByteArray, r3 = (VS s9) /\ 
 K (VS s9) h1) /\
 ((decide (n0_1 < 10)) = false ->
 rop P (convert 3 5 (VI (w64 (48 + (Int.tmod n0_1 10))))) h fun r4 => ∃ s16 : Int, r4 = (Value.int .u8 s16) /\ 
 (callM P 80 #[(VI (w64 (Int.tdiv n0_1 10)))] h fun r5 h2 => ∃ s12 : ByteArray, r5 = (VS s12) /\ Vars h2 [] /\
 (∀ w : World, w.heap = h2 -> (convert 3 5 (VI (w64 (48 + (Int.tmod n0_1 10))))).run P w = .ok (Value.int .u8 s16) w) /\
 eop P (Instr.buildSlice 22 1 #[(0, (Value.int .u8 s16))]) h2 fun r6 h3 => ∃ s17 : Sl, r6 = s17.v /\ Vars h3 [] /\
 rop P (convert 22 9 s17.v) h3 fun r7 => ∃ s18 : ByteArray, r7 = (VS s18) /\ 
 ByteArray.size s12 + ByteArray.size s18 ≤ 9223372036854775807 /\
 K (VS (s12 ++ s18)) h3) /\
 (eop P (Instr.buildSlice 22 1 #[(0, (Value.int .u8 s16))]) h fun r8 h4 => ∃ s17b : Sl, r8 = s17b.v /\ Vars h4 [] /\
 rop P (convert 22 9 s17b.v) h4 fun r9 => ∃ s18b : ByteArray, r9 = (VS s18b) /\ 
 callM P 80 #[(VI (w64 (Int.tdiv n0_1 10)))] h4 fun r10 h5 => ∃ s12b : ByteArray, r10 = (VS s12b) /\ Vars h5 [] /\
 (∀ w : World, w.heap = h5 -> (convert 22 9 s17b.v).run P w = .ok (VS s18b) w) /\
 ByteArray.size s12b + ByteArray.size s18b ≤ 9223372036854775807 /\
 K (VS (s12b ++ s18b)) h5))
theorem v80 (n0_1 : Int) (h : Heap) (K : Value -> Heap -> Prop) (H : u80 Tryz.prog n0_1 h K) : callM Tryz.prog 80 #[(VI n0_1)] h K := by
  refine c80 (VI n0_1) h K ?_
  unfold u80 at H
  unfold t80
  have hL : Vars h [] := .nil
  refine pop_lss .i64 n0_1 10 ?_
  refine condM_b (fun hb1 => ?_) (fun hb1 => ?_)
  ·have H := H.1 hb1
   refine pop_add .i64 48 n0_1 ?_
   refine H.mono fun r1 H => ?_
   obtain ⟨s7, rfl, H⟩ := H
   refine H.mono fun r2 h1 H => ?_
   obtain ⟨s8, rfl, hL1, H⟩ := H
   refine H.mono fun r3 H => ?_
   obtain ⟨s9, rfl, H⟩ := H
   exact H
  have H := H.2 hb1
  refine pop_quo .i64 n0_1 10 (by decide) ?_
  refine pop_rem .i64 n0_1 10 (by decide) ?_
  refine pop_add .i64 48 (Int.tmod n0_1 10) ?_
  refine H.mono fun r4 H => ?_
  obtain ⟨s16, rfl, H⟩ := H
  refine ⟨?_, ?_⟩
  ·have H := H.1
   refine H.mono fun r5 h2 H => ?_
   obtain ⟨s12, rfl, hL2, H⟩ := H
   refine ⟨?_, ?_⟩
   ·exact H.1
   obtain ⟨hc1, H⟩ := H
   refine H.mono fun r6 h3 H => ?_
   obtain ⟨s17, rfl, hL3, H⟩ := H
   refine H.mono fun r7 H => ?_
   obtain ⟨s18, rfl, H⟩ := H
   obtain ⟨hz_1, H⟩ := H
   refine pop_sadd s12 s18 hz_1 ?_
   exact H
  have H := H.2
  refine H.mono fun r8 h4 H => ?_
  obtain ⟨s17b, rfl, hL4, H⟩ := H
  refine H.mono fun r9 H => ?_
  obtain ⟨s18b, rfl, H⟩ := H
  refine H.mono fun r10 h5 H => ?_
  obtain ⟨s12b, rfl, hL5, H⟩ := H
  refine ⟨?_, ?_⟩
  ·exact H.1
  obtain ⟨hc2, H⟩ := H
  obtain ⟨hz_2, H⟩ := H
  refine pop_sadd s12b s18b hz_2 ?_
  exact H
def u81 (P : Program) (b1 : Nat) (c0_1 : Sl) (c0_2 : Int) (c0_3 : Int) (h : Heap) (K : Value -> Heap -> Prop) : Prop :=
 ∀ (b2 : Nat) (h1 : Heap), h.size ≤ b2 -> Fr (In []) h h1 -> Vars h1 [(b2, [nilSl.v]), (b1, [c0_1.v, (VI c0_2), (Value.int .u64 c0_3)])] ->
 callM P 68 #[(VP b1 0), (VI 6)] h1 fun r1 h2 => ∃ y1 : Sl, ∃ y2 : Int, ∃ y3 : Int, ∃ s10 : Bool, r1 = (VB s10) /\ Vars h2 [(b2, [nilSl.v]), (b1, [y1.v, (VI y2), (Value.int .u64 y3)])] /\
 (s10 = true ->
 callM P 121 #[(VP b1 0)] h2 fun r2 h3 => ∃ y4 : Sl, ∃ y5 : Int, ∃ y6 : Int, ∃ s12 : Sl, r2 = (.agg #[s12.v]) /\ Vars h3 [(b2, [nilSl.v]), (b1, [y4.v, (VI y5), (Value.int .u64 y6)])] /\
 ∀ (h4 : Heap), Fr (In [b2]) h3 h4 -> Vars h4 [(b2, [s12.v]), (b1, [y4.v, (VI y5), (Value.int .u64 y6)])] ->
 K (.agg #[s12.v]) h4) /\
 (s10 = false ->
 callM P 70 #[(VP b1 0), (VI 5)] h2 fun r3 h5 => ∃ y7 : Sl, ∃ y8 : Int, ∃ y9 : Int, ∃ s14 : Int, r3 = (VI s14) /\ Vars h5 [(b2, [nilSl.v]), (b1, [y7.v, (VI y8), (Value.int .u64 y9)])] /\
 callM P 68 #[(VP b1 0), (VI 2)] h5 fun r4 h6 => ∃ y10 : Sl, ∃ y11 : Int, ∃ y12 : Int, ∃ s18 : Bool, r4 = (VB s18) /\ Vars h6 [(b2, [nilSl.v]), (b1, [y10.v, (VI y11), (Value.int .u64 y12)])] /\
 callM P 129 #[(VI (w64 (1 + s14))), (VB s18)] h6 fun r5 h7 => ∃ s19 : Sl, r5 = (.agg #[s19.v]) /\ Vars h7 [(b2, [nilSl.v]), (b1, [y10.v, (VI y11), (Value.int .u64 y12)])] /\
 ∀ (b3 : Nat) (h9 : Heap), h7.size ≤ b3 -> Fr (In []) h7 h9 -> Vars h9 [(b3, [s19.v]), (b2, [nilSl.v]), (b1, [y10.v, (VI y11), (Value.int .u64 y12)])] ->
 callM P 70 #[(VP b1 0), (VI 3)] h9 fun r6 h10 => ∃ y13 : Sl, ∃ y14 : Int, ∃ y15 : Int, ∃ s21 : Int, r6 = (VI s21) /\ Vars h10 [(b3, [s19.v]), (b2, [nilSl.v]), (b1, [y13.v, (VI y14), (Value.int .u64 y15)])] /\
 ∃ J1 : Nat -> Int -> Sl -> Int -> Int -> Heap -> Prop, (∃ n0 : Nat, J1 n0 s21 y13 y14 y15 h10) /\
 ∀ (n1 : Nat) (k5_1 : Int) (y16 : Sl) (y17 : Int) (y18 : Int) (h11 : Heap), J1 n1 k5_1 y16 y17 y18 h11 -> Vars h11 [(b3, [s19.v]), (b2, [nilSl.v]), (b1, [y16.v, (VI y17), (Value.int .u64 y18)])] ->
 ((decide (0 < k5_1)) = true ->
 callM P 130 #[(VP b1 0), (VI (w64 (1 + s14)))] h11 fun r7 h12 => ∃ y19 : Sl, ∃ y20 : Int, ∃ y21 : Int, ∃ s28 : Sl, r7 = s28.v /\ Vars h12 [(b3, [s19.v]), (b2, [nilSl.v]), (b1, [y19.v, (VI y20), (Value.int .u64 y21)])] /\
 callM P 70 #[(VP b1 0), (VI (w64 (1 + s14)))] h12 fun r8 h13 => ∃ y22 : Sl, ∃ y23 : Int, ∃ y24 : Int, ∃ s31 : Int, r8 = (VI s31) /\ Vars h13 [(b3, [s19.v]), (b2, [nilSl.v]), (b1, [y22.v, (VI y23), (Value.int .u64 y24)])] /\
 ∃ J2 : Nat -> Int -> Heap -> Prop, (∃ n0 : Nat, J2 n0 0 h13) /\
 ∀ (n2 : Nat) (i8_1 : Int) (h14 : Heap), J2 n2 i8_1 h14 -> Vars h14 [(b3, [s19.v]), (b2, [nilSl.v]), (b1, [y22.v, (VI y23), (Value.int .u64 y24)])] ->
 ((decide (i8_1 < (w64 (1 + s31)))) = true ->
 InB s28 i8_1 /\
 ∃ s43 : Int, hcell h14 (Sl.at s28 i8_1 1) = some (VI s43) /\
 InB s28 i8_1 /\
 ∃ s49 : Int, hcell h14 (Sl.at s28 i8_1 1) = some (VI s49) /\
 InB s19 s49 /\
 ∃ s51 : Sl, hcell h14 (Sl.at s19 s49 1) = some s51.v /\
 (w64 (1 + s31)) ≠ 0 /\
 InB s28 (Int.tmod (w64 (i8_1 + 1)) (w64 (1 + s31))) /\
 ∃ s58 : Int, hcell h14 (Sl.at s28 (Int.tmod (w64 (i8_1 + 1)) (w64 (1 + s31))) 1) = some (VI s58) /\
 eop P (Instr.buildSlice 33 1 #[(0, (VI s58))]) h14 fun r9 h15 => ∃ s59 : Sl, r9 = s59.v /\ Vars h15 [(b3, [s19.v]), (b2, [nilSl.v]), (b1, [y22.v, (VI y23), (Value.int .u64 y24)])] /\
 hcell h15 (Sl.at s19 s49 1) = some s51.v /\
 hcell h15 (Sl.at s28 i8_1 1) = some (VI s49) /\
 hcell h15 (Sl.at s28 i8_1 1) = some (VI s43) /\
 eop P (appS 33 33 33 s51.v s59.v) h15 fun r10 h16 => ∃ s60 : Sl, r10 = s60.v /\ Vars h16 [(b3, [s19.v]), (b2, [nilSl.v]), (b1, [y22.v, (VI y23), (Value.int .u64 y24)])] /\
 hcell h16 (Sl.at s28 i8_1 1) = some (VI s49) /\
 hcell h16 (Sl.at s28 i8_1 1) = some (VI s43) /\
 InB s19 s43 /\
 Writable h16 (Sl.at s19 s43 1) /\ Vars (hset h16 (Sl.at s19 s43 1) s60.v) [(b3, [s19.v]), (b2, [nilSl.v]), (b1, [y22.v, (VI y23), (Value.int .u64 y24)])] /\
 ∀ h17 : Heap, h17 = hset h16 (Sl.at s19 s43 1) s60.v -> Vars h17 [(b3, [s19.v]), (b2, [nilSl.v]), (b1, [y22.v, (VI y23), (Value.int .u64 y24)])] ->
 ∃ m : Nat, m < n2 /\ J2 m (w64 (i8_1 + 1)) h17) /\
 ((decide (i8_1 < (w64 (1 + s31)))) = false ->
 ∃ m : Nat, m < n1 /\ J1 m (w64 (k5_1 - 1)) y22 y23 y24 h14)) /\
 ((decide (0 < k5_1)) = false ->
 ∀ (h18 : Heap), Fr (In [b2]) h11 h18 -> Vars h18 [(b3, [s19.v]), (b2, [s19.v]), (b1, [y16.v, (VI y17), (Value.int .u64 y18)])] ->
 K (.agg #[s19.v]) h18))
theorem v81 (b1 : Nat) (c0_1 : Sl) (c0_2 : Int) (c0_3 : Int) (h : Heap) (K : Value -> Heap -> Prop) (hL : Vars h [(b1, [c0_1.v, (VI c0_2), (Value.int .u64 c0_3)])]) (H : u81 Tryz.prog b1 c0_1 c0_2 c0_3 h K) : callM Tryz.prog 81 #[(VP b1 0)] h K := by
  refine c81 (VP b1 0) h K ?_
  unfold u81 at H
  unfold t81
  refine eop_alloc 26 zer26 rfl hL (fun b2 h1 hb1 hf1 hL1 => ?_)
  have H := H b2 h1 hb1 (Fr.no' (Fr.r (In []) _) hf1) hL1
  refine H.mono fun r1 h2 H => ?_
  obtain ⟨y1, y2, y3, s10, rfl, hL2, H⟩ := H
  refine condM_b (fun hb2 => ?_) (fun hb2 => ?_)
  ·have H := H.1 hb2
   refine H.mono fun r2 h3 H => ?_
   obtain ⟨y4, y5, y6, s12, rfl, hL3, H⟩ := H
   refine ul siz26 hL3 0 0 [s12.v] [(b2, [s12.v]), (b1, [y4.v, (VI y5), (Value.int .u64 y6)])] (fun h4 hf2 hL4 => ?_)
   refine ra agg26 hL4 0 0 [s12.v] ?_
   have H := H  h4  (Fr.old (Fr.r (In []) _) hf2) hL4
   exact H
  have H := H.2 hb2
  refine H.mono fun r3 h5 H => ?_
  obtain ⟨y7, y8, y9, s14, rfl, hL5, H⟩ := H
  refine pop_add .i64 1 s14 ?_
  refine H.mono fun r4 h6 H => ?_
  obtain ⟨y10, y11, y12, s18, rfl, hL6, H⟩ := H
  refine H.mono fun r5 h7 H => ?_
  obtain ⟨s19, rfl, hL7, H⟩ := H
  refine eop_alloc 26 zer26 rfl hL7 (fun b3 h8 hb3 hf3 hL8 => ?_)
  refine ul siz26 hL8 0 0 [s19.v] [(b3, [s19.v]), (b2, [nilSl.v]), (b1, [y10.v, (VI y11), (Value.int .u64 y12)])] (fun h9 hf4 hL9 => ?_)
  have H := H b3 h9 hb3 (Fr.new (Fr.no' (Fr.r (In []) _) hf3) hb3 hf4) hL9
  refine H.mono fun r6 h10 H => ?_
  obtain ⟨y13, y14, y15, s21, rfl, hL10, H⟩ := H
  obtain ⟨J1, ⟨n4, h0_2⟩, HB2⟩ := H
  refine loop_intro (J := fun (n : Nat) (vs : List Value) (h' : Heap) => ∃ k5_1 : Int, ∃ y16 : Sl, ∃ y17 : Int, ∃ y18 : Int, vs = [(VI k5_1)] /\ J1 n k5_1 y16 y17 y18 h' /\ Vars h' [(b3, [s19.v]), (b2, [nilSl.v]), (b1, [y16.v, (VI y17), (Value.int .u64 y18)])]) n4 ⟨s21, y13, y14, y15, rfl, h0_2, hL10⟩ ?_
  intro I2 mu2 hI2 junk1 tv2 h11 hi1
  obtain ⟨n1, ⟨k5_1, y16, y17, y18, hv, hJ1, hL11⟩, hn1⟩ := hI2 _ _ hi1
  cases hv
  have H := HB2 n1 k5_1 y16 y17 y18 h11 hJ1 hL11
  refine pop_gtr .i64 k5_1 0 ?_
  refine condM_b (fun hb4 => ?_) (fun hb4 => ?_)
  rotate_left
  ·have H := H.2 hb4
   refine ra agg26 hL11 0 0 [s19.v] ?_
   refine ul siz26 hL11 1 0 [s19.v] [(b3, [s19.v]), (b2, [s19.v]), (b1, [y16.v, (VI y17), (Value.int .u64 y18)])] (fun h18 hf5 hL18 => ?_)
   refine ra agg26 hL18 1 0 [s19.v] ?_
   have H := H  h18  (Fr.old (Fr.r (In []) _) hf5) hL18
   exact H
  have H := H.1 hb4
  refine H.mono fun r7 h12 H => ?_
  obtain ⟨y19, y20, y21, s28, rfl, hL12, H⟩ := H
  refine H.mono fun r8 h13 H => ?_
  obtain ⟨y22, y23, y24, s31, rfl, hL13, H⟩ := H
  refine pop_add .i64 1 s31 ?_
  obtain ⟨J2, ⟨n3, h0_1⟩, HB1⟩ := H
  refine loop_intro (J := fun (n : Nat) (vs : List Value) (h' : Heap) => ∃ i8_1 : Int, vs = [(VI i8_1)] /\ J2 n i8_1 h' /\ Vars h' [(b3, [s19.v]), (b2, [nilSl.v]), (b1, [y22.v, (VI y23), (Value.int .u64 y24)])]) n3 ⟨0, rfl, h0_1, hL13⟩ ?_
  intro I1 mu1 hI1 junk2 tv1 h14 hi2
  obtain ⟨n2, ⟨i8_1, hv, hJ2, hL14⟩, hn2⟩ := hI1 _ _ hi2
  cases hv
  have H := HB1 n2 i8_1 h14 hJ2 hL14
  refine pop_lss .i64 i8_1 (w64 (1 + s31)) ?_
  refine condM_b (fun hb5 => ?_) (fun hb5 => ?_)
  rotate_left
  ·have H := H.2 hb5
   refine pop_sub .i64 k5_1 1 ?_
   obtain ⟨m_2, hm_2, H⟩ := H
   exact hn1 _ _ ⟨m_2, hm_2, (w64 (k5_1 - 1)), y22, y23, y24, rfl, H, hL14⟩
  have H := H.1 hb5
  refine pop_field 0 fld26_0 b3 0 ?_
  refine rl one24 hL14 0 0 s19.v ?_
  obtain ⟨hi3, H⟩ := H
  refine pop_index sli33 siz3 .i64 s28 i8_1 hi3 ?_
  obtain ⟨s43, hc9, H⟩ := H
  refine rop_one one3 (VI s43) hc9 ?_
  refine pop_field 0 fld26_0 b3 0 ?_
  refine rl one24 hL14 0 0 s19.v ?_
  obtain ⟨hi4, H⟩ := H
  refine pop_index sli33 siz3 .i64 s28 i8_1 hi4 ?_
  obtain ⟨s49, hc8, H⟩ := H
  refine rop_one one3 (VI s49) hc8 ?_
  obtain ⟨hi5, H⟩ := H
  refine pop_index sli24 siz33 .i64 s19 s49 hi5 ?_
  obtain ⟨s51, hc7, H⟩ := H
  refine rop_one one33 s51.v hc7 ?_
  refine pop_add .i64 i8_1 1 ?_
  obtain ⟨hz_1, H⟩ := H
  refine pop_rem .i64 (w64 (i8_1 + 1)) (w64 (1 + s31)) hz_1 ?_
  obtain ⟨hi6, H⟩ := H
  refine pop_index sli33 siz3 .i64 s28 (Int.tmod (w64 (i8_1 + 1)) (w64 (1 + s31))) hi6 ?_
  obtain ⟨s58, hc6, H⟩ := H
  refine rop_one one3 (VI s58) hc6 ?_
  refine H.mono fun r9 h15 H => ?_
  obtain ⟨s59, rfl, hL15, H⟩ := H
  refine ⟨?_, ?_⟩
  ·exact still_one one33 H.1
  obtain ⟨hc1, H⟩ := H
  refine ⟨?_, ?_⟩
  ·exact still_one one3 H.1
  obtain ⟨hc2, H⟩ := H
  refine ⟨?_, ?_⟩
  ·exact still_loc one24 hL15 0 rfl 0 (v := s19.v) rfl
  refine ⟨?_, ?_⟩
  ·exact still_one one3 H.1
  obtain ⟨hc3, H⟩ := H
  refine ⟨?_, ?_⟩
  ·exact still_loc one24 hL15 0 rfl 0 (v := s19.v) rfl
  refine H.mono fun r10 h16 H => ?_
  obtain ⟨s60, rfl, hL16, H⟩ := H
  refine ⟨?_, ?_⟩
  ·exact still_one one3 H.1
  obtain ⟨hc4, H⟩ := H
  refine ⟨?_, ?_⟩
  ·exact still_loc one24 hL16 0 rfl 0 (v := s19.v) rfl
  refine ⟨?_, ?_⟩
  ·exact still_one one3 H.1
  obtain ⟨hc5, H⟩ := H
  refine ⟨?_, ?_⟩
  ·exact still_loc one24 hL16 0 rfl 0 (v := s19.v) rfl
  obtain ⟨hi7, H⟩ := H
  refine pop_index sli24 siz33 .i64 s19 s43 hi7 ?_
  obtain ⟨hw_1, hL17, H⟩ := H
  refine uop_cell (v := s60.v) siz33 hw_1 rfl (fun h17 he_1 => ?_)
  rw [← he_1] at hL17
  have H := H h17 he_1 hL17
  refine pop_add .i64 i8_1 1 ?_
  obtain ⟨m_1, hm_1, H⟩ := H
  exact hn2 _ _ ⟨m_1, hm_1, (w64 (i8_1 + 1)), rfl, H, hL17⟩
def u82 (P : Program) (g0_1 : Sl) (h : Heap) (K : Value -> Heap -> Prop) : Prop :=
 ∀ (b1 : Nat) (h1 : Heap), h.size ≤ b1 -> Fr (In []) h h1 -> Vars h1 [(b1, [g0_1.v])] ->
 callM P 74 #[(VI (g0_1.n : Int)), (VI 1), (VI 8)] h1 fun r1 h2 => ∃ s10 : Bool, r1 = (VB s10) /\ Vars h2 [(b1, [g0_1.v])] /\
 ((!s10) = true ->
 K (VB false) h2) /\
 ((!s10) = false ->
 ∃ J1 : Nat -> Int -> Heap -> Prop, (∃ n0 : Nat, J1 n0 0 h2) /\
 ∀ (n1 : Nat) (s15 : Int) (h3 : Heap), J1 n1 s15 h3 -> Vars h3 [(b1, [g0_1.v])] ->
 ((decide (s15 < (g0_1.n : Int))) = true ->
 InB g0_1 s15 /\
 ∃ s18 : Sl, hcell h3 (Sl.at g0_1 s15 1) = some s18.v /\
 ((decide (5 < (s18.n : Int))) = true ->
 K (VB false) h3) /\
 ((decide (5 < (s18.n : Int))) = false ->
 callM P 79 #[s18.v, (VI 0), (VI (w64 ((g0_1.n : Int) - 1)))] h3 fun r2 h4 => ∃ s26 : Bool, r2 = (VB s26) /\ Vars h4 [(b1, [g0_1.v])] /\
 ((!s26) = true ->
 K (VB false) h4) /\
 ((!s26) = false ->
 ∃ m : Nat, m < n1 /\ J1 m (w64 (s15 + 1)) h4))) /\
 ((decide (s15 < (g0_1.n : Int))) = false ->
 K (VB true) h3))
theorem v82 (g0_1 : Sl) (h : Heap) (K : Value -> Heap -> Prop) (H : u82 Tryz.prog g0_1 h K) : callM Tryz.prog 82 #[(Value.agg #[g0_1.v])] h K := by
  refine c82 (Value.agg #[g0_1.v]) h K ?_
  unfold u82 at H
  unfold t82
  have hL : Vars h [] := .nil
  refine eop_box 26 (Value.agg #[g0_1.v]) rfl hL (fun b1 h1 hb1 hf1 hL1 => ?_)
  refine pop_field 0 fld26_0 b1 0 ?_
  refine rl one24 hL1 0 0 g0_1.v ?_
  refine pop_len g0_1 _ _ sli24 ?_
  have H := H b1 h1 hb1 (Fr.no' (Fr.r (In []) _) hf1) hL1
  refine H.mono fun r1 h2 H => ?_
  obtain ⟨s10, rfl, hL2, H⟩ := H
  refine pop_not s10 ?_
  refine condM_b (fun hb2 => ?_) (fun hb2 => ?_)
  ·exact H.1 hb2
  have H := H.2 hb2
  refine pop_field 0 fld26_0 b1 0 ?_
  refine rl one24 hL2 0 0 g0_1.v ?_
  refine pop_len g0_1 _ _ sli24 ?_
  obtain ⟨J1, ⟨n2, h0_1⟩, HB1⟩ := H
  refine loop_intro (J := fun (n : Nat) (vs : List Value) (h' : Heap) => ∃ s15 : Int, vs = [(VI s15)] /\ J1 n s15 h' /\ Vars h' [(b1, [g0_1.v])]) n2 ⟨0, rfl, h0_1, hL2⟩ ?_
  intro I1 mu1 hI1 junk1 tv1 h3 hi1
  obtain ⟨n1, ⟨s15, hv, hJ1, hL3⟩, hn1⟩ := hI1 _ _ hi1
  cases hv
  have H := HB1 n1 s15 h3 hJ1 hL3
  refine pop_lss .i64 s15 (g0_1.n : Int) ?_
  refine condM_b (fun hb3 => ?_) (fun hb3 => ?_)
  rotate_left
  ·exact H.2 hb3
  have H := H.1 hb3
  obtain ⟨hi2, H⟩ := H
  refine pop_index sli24 siz33 .i64 g0_1 s15 hi2 ?_
  obtain ⟨s18, hc1, H⟩ := H
  refine rop_one one33 s18.v hc1 ?_
  refine pop_len s18 _ _ sli33 ?_
  refine pop_gtr .i64 (s18.n : Int) 5 ?_
  refine guardM_sf (fun hb4 => ?_) (fun hb4 => ?_)
  rotate_left
  ·have H := H.1 hb4
   refine gm hb4 ?_
   refine gm hb4 ?_
   refine gm hb4 ?_
   refine gm hb4 ?_
   refine pop_pickt' hb4 ?_
   refine condM_t ?_
   exact H
  have H := H.2 hb4
  refine gy hb4 ?_
  refine gy hb4 ?_
  refine pop_sub .i64 (g0_1.n : Int) 1 ?_
  refine gy hb4 ?_
  refine H.mono fun r2 h4 H => ?_
  obtain ⟨s26, rfl, hL4, H⟩ := H
  refine gy hb4 ?_
  refine pop_not s26 ?_
  refine pop_pickf' hb4 ?_
  refine condM_b (fun hb5 => ?_) (fun hb5 => ?_)
  ·exact H.1 hb5
  have H := H.2 hb5
  refine pop_add .i64 s15 1 ?_
  obtain ⟨m_1, hm_1, H⟩ := H
  exact hn1 _ _ ⟨m_1, hm_1, (w64 (s15 + 1)), rfl, H, hL4⟩
def u83 (P : Program) (b1 : Nat) (c0_1 : Sl) (c0_2 : Int) (c0_3 : Int) (g1_1 : Sl) (h : Heap) (K : Value -> Heap -> Prop) : Prop :=
 ∀ (b2 : Nat) (b3 : Nat) (h2 : Heap), h.size ≤ b2 -> h.size ≤ b3 -> Fr (In []) h h2 -> Vars h2 [(b3, [nilSl.v, (VI 0)]), (b2, [g1_1.v]), (b1, [c0_1.v, (VI c0_2), (Value.int .u64 c0_3)])] ->
 callM P 70 #[(VP b1 0), (VI (g1_1.n : Int))] h2 fun r1 h3 => ∃ y1 : Sl, ∃ y2 : Int, ∃ y3 : Int, ∃ s13 : Int, r1 = (VI s13) /\ Vars h3 [(b3, [nilSl.v, (VI 0)]), (b2, [g1_1.v]), (b1, [y1.v, (VI y2), (Value.int .u64 y3)])] /\
 ∀ (b4 : Nat) (h5 : Heap), h3.size ≤ b4 -> Fr (In []) h3 h5 -> Vars h5 [(b4, [nilSl.v, (VI s13)]), (b3, [nilSl.v, (VI 0)]), (b2, [g1_1.v]), (b1, [y1.v, (VI y2), (Value.int .u64 y3)])] ->
 ∃ J1 : Nat -> Int -> Sl -> Int -> Sl -> Int -> Int -> Heap -> Prop, (∃ n0 : Nat, J1 n0 0 nilSl s13 y1 y2 y3 h5) /\
 ∀ (n1 : Nat) (s18 : Int) (y4 : Sl) (y5 : Int) (y6 : Sl) (y7 : Int) (y8 : Int) (h6 : Heap), J1 n1 s18 y4 y5 y6 y7 y8 h6 -> Vars h6 [(b4, [y4.v, (VI y5)]), (b3, [nilSl.v, (VI 0)]), (b2, [g1_1.v]), (b1, [y6.v, (VI y7), (Value.int .u64 y8)])] ->
 ((decide (s18 < (g1_1.n : Int))) = true ->
 InB g1_1 s18 /\
 ∃ s21 : Sl, hcell h6 (Sl.at g1_1 s18 1) = some s21.v /\
 ∃ J2 : Int -> Sl -> Int -> Int -> Heap -> Prop, (((decide (0 < (s21.n : Int))) = true ->
 callM P 70 #[(VP b1 0), (VI (s21.n : Int))] h6 fun r2 h7 => ∃ y13 : Sl, ∃ y14 : Int, ∃ y15 : Int, ∃ s28 : Int, r2 = (VI s28) /\ Vars h7 [(b4, [y4.v, (VI y5)]), (b3, [nilSl.v, (VI 0)]), (b2, [g1_1.v]), (b1, [y13.v, (VI y14), (Value.int .u64 y15)])] /\
 J2 s28 y13 y14 y15 h7) /\
 ((decide (0 < (s21.n : Int))) = false ->
 J2 0 y6 y7 y8 h6)) /\
 ∀ (y9 : Int) (y10 : Sl) (y11 : Int) (y12 : Int) (h8 : Heap), J2 y9 y10 y11 y12 h8 -> Vars h8 [(b4, [y4.v, (VI y5)]), (b3, [nilSl.v, (VI 0)]), (b2, [g1_1.v]), (b1, [y10.v, (VI y11), (Value.int .u64 y12)])] ->
 eop P (Instr.buildSlice 33 1 #[(0, (VI y9))]) h8 fun r3 h9 => ∃ s32 : Sl, r3 = s32.v /\ Vars h9 [(b4, [y4.v, (VI y5)]), (b3, [nilSl.v, (VI 0)]), (b2, [g1_1.v]), (b1, [y10.v, (VI y11), (Value.int .u64 y12)])] /\
 eop P (appS 33 33 33 y4.v s32.v) h9 fun r4 h10 => ∃ s33 : Sl, r4 = s33.v /\ Vars h10 [(b4, [y4.v, (VI y5)]), (b3, [nilSl.v, (VI 0)]), (b2, [g1_1.v]), (b1, [y10.v, (VI y11), (Value.int .u64 y12)])] /\
 ∀ (h11 : Heap), Fr (In [b4]) h10 h11 -> Vars h11 [(b4, [s33.v, (VI y5)]), (b3, [nilSl.v, (VI 0)]), (b2, [g1_1.v]), (b1, [y10.v, (VI y11), (Value.int .u64 y12)])] ->
 ∃ m : Nat, m < n1 /\ J1 m (w64 (s18 + 1)) s33 y5 y10 y11 y12 h11) /\
 ((decide (s18 < (g1_1.n : Int))) = false ->
 ∀ (h12 : Heap), Fr (In [b3]) h6 h12 -> Vars h12 [(b4, [y4.v, (VI y5)]), (b3, [y4.v, (VI y5)]), (b2, [g1_1.v]), (b1, [y6.v, (VI y7), (Value.int .u64 y8)])] ->
 K (.agg #[y4.v, (VI y5)]) h12)
theorem v83 (b1 : Nat) (c0_1 : Sl) (c0_2 : Int) (c0_3 : Int) (g1_1 : Sl) (h : Heap) (K : Value -> Heap -> Prop) (hL : Vars h [(b1, [c0_1.v, (VI c0_2), (Value.int .u64 c0_3)])]) (H : u83 Tryz.prog b1 c0_1 c0_2 c0_3 g1_1 h K) : callM Tryz.prog 83 #[(VP b1 0), (Value.agg #[g1_1.v])] h K := by
  refine c83 (VP b1 0) (Value.agg #[g1_1.v]) h K ?_
  unfold u83 at H
  unfold t83
  refine eop_box 26 (Value.agg #[g1_1.v]) rfl hL (fun b2 h1 hb1 hf1 hL1 => ?_)
  refine eop_alloc 54 zer54 rfl hL1 (fun b3 h2 hb2 hf2 hL2 => ?_)
  refine pop_field 0 fld26_0 b2 0 ?_
  refine rl one24 hL2 1 0 g1_1.v ?_
  refine pop_len g1_1 _ _ sli24 ?_
  have H := H b2 b3 h2 hb1 (Nat.le_trans (Fr.size (Fr.no' (Fr.r (In []) _) hf1)) hb2) (Fr.no' (Fr.no' (Fr.r (In []) _) hf1) hf2) hL2
  refine H.mono fun r1 h3 H => ?_
  obtain ⟨y1, y2, y3, s13, rfl, hL3, H⟩ := H
  refine pop.mk' (v := (Value.agg #[nilSl.v, (VI s13)])) (fun w => by kernel_rfl) ?_
  refine eop_alloc 54 zer54 rfl hL3 (fun b4 h4 hb3 hf3 hL4 => ?_)
  refine ul siz54 hL4 0 0 [nilSl.v, (VI s13)] [(b4, [nilSl.v, (VI s13)]), (b3, [nilSl.v, (VI 0)]), (b2, [g1_1.v]), (b1, [y1.v, (VI y2), (Value.int .u64 y3)])] (fun h5 hf4 hL5 => ?_)
  refine pop_field 0 fld26_0 b2 0 ?_
  refine rl one24 hL5 2 0 g1_1.v ?_
  refine pop_len g1_1 _ _ sli24 ?_
  have H := H b4 h5 hb3 (Fr.new (Fr.no' (Fr.r (In []) _) hf3) hb3 hf4) hL5
  obtain ⟨J1, ⟨n2, h0_1⟩, HB2⟩ := H
  refine loop_intro (J := fun (n : Nat) (vs : List Value) (h' : Heap) => ∃ s18 : Int, ∃ y4 : Sl, ∃ y5 : Int, ∃ y6 : Sl, ∃ y7 : Int, ∃ y8 : Int, vs = [(VI s18)] /\ J1 n s18 y4 y5 y6 y7 y8 h' /\ Vars h' [(b4, [y4.v, (VI y5)]), (b3, [nilSl.v, (VI 0)]), (b2, [g1_1.v]), (b1, [y6.v, (VI y7), (Value.int .u64 y8)])]) n2 ⟨0, nilSl, s13, y1, y2, y3, rfl, h0_1, hL5⟩ ?_
  intro I1 mu1 hI1 junk1 tv2 h6 hi1
  obtain ⟨n1, ⟨s18, y4, y5, y6, y7, y8, hv, hJ1, hL6⟩, hn1⟩ := hI1 _ _ hi1
  cases hv
  have H := HB2 n1 s18 y4 y5 y6 y7 y8 h6 hJ1 hL6
  refine pop_lss .i64 s18 (g1_1.n : Int) ?_
  refine condM_b (fun hb4 => ?_) (fun hb4 => ?_)
  rotate_left
  ·have H := H.2 hb4
   refine ra agg54 hL6 0 0 [y4.v, (VI y5)] ?_
   refine ul siz54 hL6 1 0 [y4.v, (VI y5)] [(b4, [y4.v, (VI y5)]), (b3, [y4.v, (VI y5)]), (b2, [g1_1.v]), (b1, [y6.v, (VI y7), (Value.int .u64 y8)])] (fun h12 hf6 hL12 => ?_)
   refine ra agg54 hL12 1 0 [y4.v, (VI y5)] ?_
   have H := H  h12  (Fr.old (Fr.r (In []) _) hf6) hL12
   exact H
  have H := H.1 hb4
  obtain ⟨hi2, H⟩ := H
  refine pop_index sli24 siz33 .i64 g1_1 s18 hi2 ?_
  obtain ⟨s21, hc1, H⟩ := H
  refine rop_one one33 s21.v hc1 ?_
  obtain ⟨J2, H, HB1⟩ := H
  refine ⟨fun (vs : List Value) (h' : Heap) => ∃ y9 : Int, ∃ y10 : Sl, ∃ y11 : Int, ∃ y12 : Int, vs = [(VI y9)] /\ J2 y9 y10 y11 y12 h' /\ Vars h' [(b4, [y4.v, (VI y5)]), (b3, [nilSl.v, (VI 0)]), (b2, [g1_1.v]), (b1, [y10.v, (VI y11), (Value.int .u64 y12)])], ?_, ?_⟩
  ·refine pop_len s21 _ _ sli33 ?_
   refine pop_gtr .i64 (s21.n : Int) 0 ?_
   refine condM_b (fun hb5 => ?_) (fun hb5 => ?_)
   rotate_left
   ·have H := H.2 hb5
    exact ⟨0, y6, y7, y8, rfl, H, hL6⟩
   have H := H.1 hb5
   refine pop_len s21 _ _ sli33 ?_
   refine H.mono fun r2 h7 H => ?_
   obtain ⟨y13, y14, y15, s28, rfl, hL7, H⟩ := H
   exact ⟨s28, y13, y14, y15, rfl, H, hL7⟩
  intro junk2 tv1 h8
  rintro ⟨y9, y10, y11, y12, hv, hJ2, hL8⟩
  cases hv
  have H := HB1 y9 y10 y11 y12 h8 hJ2 hL8
  refine pop_field 0 fld54_0 b4 0 ?_
  refine rl one33 hL8 0 0 y4.v ?_
  refine H.mono fun r3 h9 H => ?_
  obtain ⟨s32, rfl, hL9, H⟩ := H
  refine H.mono fun r4 h10 H => ?_
  obtain ⟨s33, rfl, hL10, H⟩ := H
  refine pop_field 0 fld54_0 b4 0 ?_
  refine ul siz33 hL10 0 0 [s33.v] [(b4, [s33.v, (VI y5)]), (b3, [nilSl.v, (VI 0)]), (b2, [g1_1.v]), (b1, [y10.v, (VI y11), (Value.int .u64 y12)])] (fun h11 hf5 hL11 => ?_)
  refine pop_add .i64 s18 1 ?_
  have H := H  h11  (Fr.old (Fr.r (In []) _) hf5) hL11
  obtain ⟨m_1, hm_1, H⟩ := H
  exact hn1 _ _ ⟨m_1, hm_1, (w64 (s18 + 1)), s33, y5, y10, y11, y12, rfl, H, hL11⟩
def u84 (P : Program) (g0_1 : Sl) (w1_1 : Sl) (w1_2 : Int) (h : Heap) (K : Value -> Heap -> Prop) : Prop :=
 ∀ (b1 : Nat) (b2 : Nat) (h2 : Heap), h.size ≤ b1 -> h.size ≤ b2 -> Fr (In []) h h2 -> Vars h2 [(b2, [w1_1.v, (VI w1_2)]), (b1, [g0_1.v])] ->
 eop P (Instr.buildSlice 33 1 #[(0, (VI w1_2))]) h2 fun r1 h3 => ∃ s10 : Sl, r1 = s10.v /\ Vars h3 [(b2, [w1_1.v, (VI w1_2)]), (b1, [g0_1.v])] /\
 callM P 54 #[(.agg #[g0_1.v]), s10.v] h3 fun r2 h4 => ∃ s11 : Bool, r2 = (VB s11) /\ Vars h4 [(b2, [w1_1.v, (VI w1_2)]), (b1, [g0_1.v])] /\
 ((!s11) = true ->
 K (VB false) h4) /\
 ((!s11) = false ->
 ((!decide ((w1_1.n : Int) = (g0_1.n : Int))) = true ->
 K (VB false) h4) /\
 ((!decide ((w1_1.n : Int) = (g0_1.n : Int))) = false ->
 ∃ J1 : Nat -> Int -> Heap -> Prop, (∃ n0 : Nat, J1 n0 0 h4) /\
 ∀ (n1 : Nat) (s25 : Int) (h5 : Heap), J1 n1 s25 h5 -> Vars h5 [(b2, [w1_1.v, (VI w1_2)]), (b1, [g0_1.v])] ->
 ((decide (s25 < (w1_1.n : Int))) = true ->
 InB w1_1 s25 /\
 ∃ s29 : Int, hcell h5 (Sl.at w1_1 s25 1) = some (VI s29) /\
 InB g0_1 s25 /\
 ∃ s35 : Sl, hcell h5 (Sl.at g0_1 s25 1) = some s35.v /\
 pop P (Builtin.max_ #[3, 3] 3 #[(VI (w64 ((s35.n : Int) - 1))), (.int .i64 0)]) fun r3 => ∃ s38 : Int, r3 = (VI s38) /\ 
 callM P 72 #[(VI s29), (VI 0), (VI s38)] h5 fun r4 h6 => ∃ s39 : Bool, r4 = (VB s39) /\ Vars h6 [(b2, [w1_1.v, (VI w1_2)]), (b1, [g0_1.v])] /\
 ((!s39) = true ->
 K (VB false) h6) /\
 ((!s39) = false ->
 ∃ m : Nat, m < n1 /\ J1 m (w64 (s25 + 1)) h6)) /\
 ((decide (s25 < (w1_1.n : Int))) = false ->
 K (VB true) h5)))
theorem v84 (g0_1 : Sl) (w1_1 : Sl) (w1_2 : Int) (h : Heap) (K : Value -> Heap -> Prop) (H : u84 Tryz.prog g0_1 w1_1 w1_2 h K) : callM Tryz.prog 84 #[(Value.agg #[g0_1.v]), (Value.agg #[w1_1.v, (VI w1_2)])] h K := by
  refine c84 (Value.agg #[g0_1.v]) (Value.agg #[w1_1.v, (VI w1_2)]) h K ?_
  unfold u84 at H
  unfold t84
  have hL : Vars h [] := .nil
  refine eop_box 26 (Value.agg #[g0_1.v]) rfl hL (fun b1 h1 hb1 hf1 hL1 => ?_)
  refine eop_box 54 (Value.agg #[w1_1.v, (VI w1_2)]) rfl hL1 (fun b2 h2 hb2 hf2 hL2 => ?_)
  refine ra agg26 hL2 1 0 [g0_1.v] ?_
  refine pop_field 1 fld54_1 b2 0 ?_
  refine rl one3 hL2 0 1 (VI w1_2) ?_
  have H := H b1 b2 h2 hb1 (Nat.le_trans (Fr.size (Fr.no' (Fr.r (In []) _) hf1)) hb2) (Fr.no' (Fr.no' (Fr.r (In []) _) hf1) hf2) hL2
  refine H.mono fun r1 h3 H => ?_
  obtain ⟨s10, rfl, hL3, H⟩ := H
  refine H.mono fun r2 h4 H => ?_
  obtain ⟨s11, rfl, hL4, H⟩ := H
  refine pop_not s11 ?_
  refine guardM_sf (fun hb3 => ?_) (fun hb3 => ?_)
  rotate_left
  ·have H := H.1 hb3
   refine gm hb3 ?_
   refine gm hb3 ?_
   refine gm hb3 ?_
   refine gm hb3 ?_
   refine gm hb3 ?_
   refine gm hb3 ?_
   refine pop_pickt' hb3 ?_
   refine condM_t ?_
   exact H
  have H := H.2 hb3
  refine pop_field 0 fld54_0 b2 0 ?_
  refine gy hb3 ?_
  refine rl one33 hL4 0 0 w1_1.v ?_
  refine gy hb3 ?_
  refine pop_len w1_1 _ _ sli33 ?_
  refine gy hb3 ?_
  refine pop_field 0 fld26_0 b1 0 ?_
  refine gy hb3 ?_
  refine rl one24 hL4 1 0 g0_1.v ?_
  refine gy hb3 ?_
  refine pop_len g0_1 _ _ sli24 ?_
  refine gy hb3 ?_
  refine pop_ine .i64 _ _ (w1_1.n : Int) (g0_1.n : Int) ?_
  refine pop_pickf' hb3 ?_
  refine condM_b (fun hb4 => ?_) (fun hb4 => ?_)
  ·exact H.1 hb4
  have H := H.2 hb4
  refine pop_field 0 fld54_0 b2 0 ?_
  refine rl one33 hL4 0 0 w1_1.v ?_
  refine pop_len w1_1 _ _ sli33 ?_
  obtain ⟨J1, ⟨n2, h0_1⟩, HB1⟩ := H
  refine loop_intro (J := fun (n : Nat) (vs : List Value) (h' : Heap) => ∃ s25 : Int, vs = [(VI s25)] /\ J1 n s25 h' /\ Vars h' [(b2, [w1_1.v, (VI w1_2)]), (b1, [g0_1.v])]) n2 ⟨0, rfl, h0_1, hL4⟩ ?_
  intro I1 mu1 hI1 junk1 tv1 h5 hi1
  obtain ⟨n1, ⟨s25, hv, hJ1, hL5⟩, hn1⟩ := hI1 _ _ hi1
  cases hv
  have H := HB1 n1 s25 h5 hJ1 hL5
  refine pop_lss .i64 s25 (w1_1.n : Int) ?_
  refine condM_b (fun hb5 => ?_) (fun hb5 => ?_)
  rotate_left
  ·exact H.2 hb5
  have H := H.1 hb5
  obtain ⟨hi2, H⟩ := H
  refine pop_index sli33 siz3 .i64 w1_1 s25 hi2 ?_
  obtain ⟨s29, hc2, H⟩ := H
  refine rop_one one3 (VI s29) hc2 ?_
  refine pop_field 0 fld26_0 b1 0 ?_
  refine rl one24 hL5 1 0 g0_1.v ?_
  obtain ⟨hi3, H⟩ := H
  refine pop_index sli24 siz33 .i64 g0_1 s25 hi3 ?_
  obtain ⟨s35, hc1, H⟩ := H
  refine rop_one one33 s35.v hc1 ?_
  refine pop_len s35 _ _ sli33 ?_
  refine pop_sub .i64 (s35.n : Int) 1 ?_
  refine H.mono fun r3 H => ?_
  obtain ⟨s38, rfl, H⟩ := H
  refine H.mono fun r4 h6 H => ?_
  obtain ⟨s39, rfl, hL6, H⟩ := H
  refine pop_not s39 ?_
  refine condM_b (fun hb6 => ?_) (fun hb6 => ?_)
  ·exact H.1 hb6
  have H := H.2 hb6
  refine pop_add .i64 s25 1 ?_
  obtain ⟨m_1, hm_1, H⟩ := H
  exact hn1 _ _ ⟨m_1, hm_1, (w64 (s25 + 1)), rfl, H, hL6⟩
def u94 (P : Program) (g0_1 : Sl) (h : Heap) (K : Value -> Heap -> Prop) : Prop :=
 ∀ (b1 : Nat) (b2 : Nat) (h3 : Heap), h.size ≤ b1 -> h.size ≤ b2 -> Fr (In []) h h3 -> Vars h3 [(b2, [(VI (g0_1.n : Int))]), (b1, [g0_1.v])] ->
 callM P 72 #[(VI (g0_1.n : Int)), (VI 1), (VI 8)] h3 fun r1 h4 => ∃ s10 : Bool, r1 = (VB s10) /\ Vars h4 [(b2, [(VI (g0_1.n : Int))]), (b1, [g0_1.v])] /\
 ((!s10) = true ->
 K (VB false) h4) /\
 ((!s10) = false ->
 ∃ J1 : Nat -> Int -> Int -> Heap -> Prop, (∃ n0 : Nat, J1 n0 0 (g0_1.n : Int) h4) /\
 ∀ (n1 : Nat) (s15 : Int) (y1 : Int) (h5 : Heap), J1 n1 s15 y1 h5 -> Vars h5 [(b2, [(VI y1)]), (b1, [g0_1.v])] ->
 ((decide (s15 < (g0_1.n : Int))) = true ->
 InB g0_1 s15 /\
 ∃ s18 : Sl, hcell h5 (Sl.at g0_1 s15 1) = some s18.v /\
 ((decide (5 < (s18.n : Int))) = true ->
 K (VB false) h5) /\
 ((decide (5 < (s18.n : Int))) = false ->
 callM P 75 #[s18.v, (Value.func (Fn.func 134) #[] #[(VP b2 0)])] h5 fun r2 h6 => ∃ y2 : Int, ∃ s25 : Bool, r2 = (VB s25) /\ Vars h6 [(b2, [(VI y2)]), (b1, [g0_1.v])] /\
 (s25 = true ->
 K (VB false) h6) /\
 (s25 = false ->
 ∃ m : Nat, m < n1 /\ J1 m (w64 (s15 + 1)) y2 h6))) /\
 ((decide (s15 < (g0_1.n : Int))) = false ->
 K (VB true) h5))
theorem v94 (g0_1 : Sl) (h : Heap) (K : Value -> Heap -> Prop) (H : u94 Tryz.prog g0_1 h K) : callM Tryz.prog 94 #[(Value.agg #[g0_1.v])] h K := by
  refine c94 (Value.agg #[g0_1.v]) h K ?_
  unfold u94 at H
  unfold t94
  have hL : Vars h [] := .nil
  refine eop_box 26 (Value.agg #[g0_1.v]) rfl hL (fun b1 h1 hb1 hf1 hL1 => ?_)
  refine pop_field 0 fld26_0 b1 0 ?_
  refine rl one24 hL1 0 0 g0_1.v ?_
  refine pop_len g0_1 _ _ sli24 ?_
  refine eop_alloc 3 zer3 rfl hL1 (fun b2 h2 hb2 hf2 hL2 => ?_)
  refine ul siz3 hL2 0 0 [(VI (g0_1.n : Int))] [(b2, [(VI (g0_1.n : Int))]), (b1, [g0_1.v])] (fun h3 hf3 hL3 => ?_)
  refine rl one3 hL3 0 0 (VI (g0_1.n : Int)) ?_
  have H := H b1 b2 h3 hb1 (Nat.le_trans (Fr.size (Fr.no' (Fr.r (In []) _) hf1)) hb2) (Fr.new (Fr.no' (Fr.no' (Fr.r (In []) _) hf1) hf2) (Nat.le_trans (Fr.size (Fr.no' (Fr.r (In []) _) hf1)) hb2) hf3) hL3
  refine H.mono fun r1 h4 H => ?_
  obtain ⟨s10, rfl, hL4, H⟩ := H
  refine pop_not s10 ?_
  refine condM_b (fun hb3 => ?_) (fun hb3 => ?_)
  ·exact H.1 hb3
  have H := H.2 hb3
  refine pop_field 0 fld26_0 b1 0 ?_
  refine rl one24 hL4 1 0 g0_1.v ?_
  refine pop_len g0_1 _ _ sli24 ?_
  obtain ⟨J1, ⟨n2, h0_1⟩, HB1⟩ := H
  refine loop_intro (J := fun (n : Nat) (vs : List Value) (h' : Heap) => ∃ s15 : Int, ∃ y1 : Int, vs = [(VI s15)] /\ J1 n s15 y1 h' /\ Vars h' [(b2, [(VI y1)]), (b1, [g0_1.v])]) n2 ⟨0, (g0_1.n : Int), rfl, h0_1, hL4⟩ ?_
  intro I1 mu1 hI1 junk1 tv1 h5 hi1
  obtain ⟨n1, ⟨s15, y1, hv, hJ1, hL5⟩, hn1⟩ := hI1 _ _ hi1
  cases hv
  have H := HB1 n1 s15 y1 h5 hJ1 hL5
  refine pop_lss .i64 s15 (g0_1.n : Int) ?_
  refine condM_b (fun hb4 => ?_) (fun hb4 => ?_)
  rotate_left
  ·exact H.2 hb4
  have H := H.1 hb4
  obtain ⟨hi2, H⟩ := H
  refine pop_index sli24 siz33 .i64 g0_1 s15 hi2 ?_
  obtain ⟨s18, hc1, H⟩ := H
  refine rop_one one33 s18.v hc1 ?_
  refine pop_len s18 _ _ sli33 ?_
  refine pop_gtr .i64 (s18.n : Int) 5 ?_
  refine guardM_sf (fun hb5 => ?_) (fun hb5 => ?_)
  rotate_left
  ·have H := H.1 hb5
   refine gm hb5 ?_
   refine gm hb5 ?_
   refine pop_pickt' hb5 ?_
   refine condM_t ?_
   exact H
  have H := H.2 hb5
  refine gy hb5 ?_
  refine pop_func _ _ _ ?_
  refine gy hb5 ?_
  refine H.mono fun r2 h6 H => ?_
  obtain ⟨y2, s25, rfl, hL6, H⟩ := H
  refine pop_pickf' hb5 ?_
  refine condM_b (fun hb6 => ?_) (fun hb6 => ?_)
  ·exact H.1 hb6
  have H := H.2 hb6
  refine pop_add .i64 s15 1 ?_
  obtain ⟨m_1, hm_1, H⟩ := H
  exact hn1 _ _ ⟨m_1, hm_1, (w64 (s15 + 1)), y2, rfl, H, hL6⟩
def u97 (P : Program) (slices0_1 : Sl) (h : Heap) (K : Value -> Heap -> Prop) : Prop :=
 ∃ J1 : Nat -> Int -> Int -> Heap -> Prop, (∃ n0 : Nat, J1 n0 0 0 h) /\
 ∀ (n1 : Nat) (size3_1 : Int) (s11 : Int) (h1 : Heap), J1 n1 size3_1 s11 h1 -> Vars h1 [] ->
 ((decide (s11 < (slices0_1.n : Int))) = true ->
 InB slices0_1 s11 /\
 ∃ s14 : Sl, hcell h1 (Sl.at slices0_1 s11 1) = some s14.v /\
 ((decide ((w64 (size3_1 + (s14.n : Int))) < 0)) = true ->
 pop P (Instr.makeInterface 9 (Value.string { data := #[108, 101, 110, 32, 111, 117, 116, 32, 111, 102, 32, 114, 97, 110, 103, 101] })) fun r1 => ∃ s21 : Value, r1 = s21 /\ 
 False) /\
 ((decide ((w64 (size3_1 + (s14.n : Int))) < 0)) = false ->
 ∃ m : Nat, m < n1 /\ J1 m (w64 (size3_1 + (s14.n : Int))) (w64 (s11 + 1)) h1)) /\
 ((decide (s11 < (slices0_1.n : Int))) = false ->
 callM P 137 #[nilSl.v, (VI size3_1)] h1 fun r2 h2 => ∃ s24 : Sl, r2 = s24.v /\ Vars h2 [] /\
 ∃ J2 : Nat -> Sl -> Int -> Heap -> Prop, (∃ n0 : Nat, J2 n0 s24 0 h2) /\
 ∀ (n2 : Nat) (newslice6_1 : Sl) (s27 : Int) (h3 : Heap), J2 n2 newslice6_1 s27 h3 -> Vars h3 [] ->
 ((decide (s27 < (slices0_1.n : Int))) = true ->
 InB slices0_1 s27 /\
 ∃ s30 : Sl, hcell h3 (Sl.at slices0_1 s27 1) = some s30.v /\
 eop P (appS 33 33 33 newslice6_1.v s30.v) h3 fun r3 h4 => ∃ s33 : Sl, r3 = s33.v /\ Vars h4 [] /\
 ∃ m : Nat, m < n2 /\ J2 m s33 (w64 (s27 + 1)) h4) /\
 ((decide (s27 < (slices0_1.n : Int))) = false ->
 K newslice6_1.v h3))
theorem v97 (slices0_1 : Sl) (h : Heap) (K : Value -> Heap -> Prop) (H : u97 Tryz.prog slices0_1 h K) : callM Tryz.prog 97 #[slices0_1.v] h K := by
  refine c97 slices0_1.v h K ?_
  unfold u97 at H
  unfold t97
  have hL : Vars h [] := .nil
  refine pop_len slices0_1 _ _ sli24 ?_
  obtain ⟨J1, ⟨n4, h0_2⟩, HB2⟩ := H
  refine loop_intro (J := fun (n : Nat) (vs : List Value) (h' : Heap) => ∃ size3_1 : Int, ∃ s11 : Int, vs = [(VI size3_1), (VI s11)] /\ J1 n size3_1 s11 h' /\ Vars h' []) n4 ⟨0, 0, rfl, h0_2, hL⟩ ?_
  intro I2 mu2 hI2 junk1 tv3 tv4 h1 hi1
  obtain ⟨n1, ⟨size3_1, s11, hv, hJ1, hL1⟩, hn1⟩ := hI2 _ _ hi1
  cases hv
  have H := HB2 n1 size3_1 s11 h1 hJ1 hL1
  refine pop_lss .i64 s11 (slices0_1.n : Int) ?_
  refine condM_b (fun hb1 => ?_) (fun hb1 => ?_)
  ·have H := H.1 hb1
   obtain ⟨hi2, H⟩ := H
   refine pop_index sli24 siz33 .i64 slices0_1 s11 hi2 ?_
   obtain ⟨s14, hc1, H⟩ := H
   refine rop_one one33 s14.v hc1 ?_
   refine pop_len s14 _ _ sli33 ?_
   refine pop_add .i64 size3_1 (s14.n : Int) ?_
   refine pop_lss .i64 (w64 (size3_1 + (s14.n : Int))) 0 ?_
   refine condM_b (fun hb2 => ?_) (fun hb2 => ?_)
   ·have H := H.1 hb2
    refine H.mono fun r1 H => ?_
    obtain ⟨s21, rfl, H⟩ := H
    exact H.elim
   have H := H.2 hb2
   refine pop_add .i64 s11 1 ?_
   obtain ⟨m_1, hm_1, H⟩ := H
   exact hn1 _ _ ⟨m_1, hm_1, (w64 (size3_1 + (s14.n : Int))), (w64 (s11 + 1)), rfl, H, hL1⟩
  have H := H.2 hb1
  refine H.mono fun r2 h2 H => ?_
  obtain ⟨s24, rfl, hL2, H⟩ := H
  refine pop_len slices0_1 _ _ sli24 ?_
  obtain ⟨J2, ⟨n3, h0_1⟩, HB1⟩ := H
  refine loop_intro (J := fun (n : Nat) (vs : List Value) (h' : Heap) => ∃ newslice6_1 : Sl, ∃ s27 : Int, vs = [newslice6_1.v, (VI s27)] /\ J2 n newslice6_1 s27 h' /\ Vars h' []) n3 ⟨s24, 0, rfl, h0_1, hL2⟩ ?_
  intro I1 mu1 hI1 junk2 tv1 tv2 h3 hi3
  obtain ⟨n2, ⟨newslice6_1, s27, hv, hJ2, hL3⟩, hn2⟩ := hI1 _ _ hi3
  cases hv
  have H := HB1 n2 newslice6_1 s27 h3 hJ2 hL3
  refine pop_lss .i64 s27 (slices0_1.n : Int) ?_
  refine condM_b (fun hb3 => ?_) (fun hb3 => ?_)
  rotate_left
  ·exact H.2 hb3
  have H := H.1 hb3
  obtain ⟨hi4, H⟩ := H
  refine pop_index sli24 siz33 .i64 slices0_1 s27 hi4 ?_
  obtain ⟨s30, hc2, H⟩ := H
  refine rop_one one33 s30.v hc2 ?_
  refine H.mono fun r3 h4 H => ?_
  obtain ⟨s33, rfl, hL4, H⟩ := H
  refine pop_add .i64 s27 1 ?_
  obtain ⟨m_2, hm_2, H⟩ := H
  exact hn2 _ _ ⟨m_2, hm_2, s33, (w64 (s27 + 1)), rfl, H, hL4⟩
def u111 (P : Program) (k0_1 : Int) (b1 : Nat) (s1 : Sl) (b2 : Nat) (s2 : Int) (h : Heap) (K : Value -> Heap -> Prop) : Prop :=
 InB s1 s2 /\
 ∃ s10 : Sl, hcell h (Sl.at s1 s2 1) = some s10.v /\
 callM P 72 #[(VI k0_1), (VI 0), (VI (w64 ((s10.n : Int) - 1)))] h fun r1 h1 => ∃ s13 : Bool, r1 = (VB s13) /\ Vars h1 [(b1, [s1.v]), (b2, [(VI s2)])] /\
 K (VB (!s13)) h1
theorem v111 (k0_1 : Int) (b1 : Nat) (s1 : Sl) (b2 : Nat) (s2 : Int) (h : Heap) (K : Value -> Heap -> Prop) (hL : Vars h [(b1, [s1.v]), (b2, [(VI s2)])]) (H : u111 Tryz.prog k0_1 b1 s1 b2 s2 h K) : callM Tryz.prog 111 #[(VI k0_1), (VP b1 0), (VP b2 0)] h K := by
  refine c111 (VI k0_1) (VP b1 0) (VP b2 0) h K ?_
  unfold u111 at H
  unfold t111
  refine pop_field 0 fld26_0 b1 0 ?_
  refine rl one24 hL 0 0 s1.v ?_
  refine rl one3 hL 1 0 (VI s2) ?_
  obtain ⟨hi1, H⟩ := H
  refine pop_index sli24 siz33 .i64 s1 s2 hi1 ?_
  obtain ⟨s10, hc1, H⟩ := H
  refine rop_one one33 s10.v hc1 ?_
  refine pop_len s10 _ _ sli33 ?_
  refine pop_sub .i64 (s10.n : Int) 1 ?_
  refine H.mono fun r1 h1 H => ?_
  obtain ⟨s13, rfl, hL1, H⟩ := H
  refine pop_not s13 ?_
  exact H
def u112 (P : Program) (p0_1 : Int) (b1 : Nat) (s1 : Sl) (h : Heap) (K : Value -> Heap -> Prop) : Prop :=
 callM P 72 #[(VI p0_1), (VI 0), (VI (w64 ((s1.n : Int) - 1)))] h fun r1 h1 => ∃ s9 : Bool, r1 = (VB s9) /\ Vars h1 [(b1, [s1.v])] /\
 K (VB (!s9)) h1
theorem v112 (p0_1 : Int) (b1 : Nat) (s1 : Sl) (h : Heap) (K : Value -> Heap -> Prop) (hL : Vars h [(b1, [s1.v])]) (H : u112 Tryz.prog p0_1 b1 s1 h K) : callM Tryz.prog 112 #[(VI p0_1), (VP b1 0)] h K := by
  refine c112 (VI p0_1) (VP b1 0) h K ?_
  unfold u112 at H
  unfold t112
  refine pop_field 0 fld26_0 b1 0 ?_
  refine rl one24 hL 0 0 s1.v ?_
  refine pop_len s1 _ _ sli24 ?_
  refine pop_sub .i64 (s1.n : Int) 1 ?_
  refine H.mono fun r1 h1 H => ?_
  obtain ⟨s9, rfl, hL1, H⟩ := H
  refine pop_not s9 ?_
  exact H
def u113 (P : Program) (g0_1 : Sl) (sink1_1 : Int) (rotors2_1 : Sl) (h : Heap) (K : Value -> Heap -> Prop) : Prop :=
 ∀ (b1 : Nat) (h1 : Heap), h.size ≤ b1 -> Fr (In []) h h1 -> Vars h1 [(b1, [g0_1.v])] ->
 eop P (Instr.buildSlice 33 0 #[]) h1 fun r1 h2 => ∃ s12 : Sl, r1 = s12.v /\ Vars h2 [(b1, [g0_1.v])] /\
 ∃ J1 : Nat -> Sl -> Int -> Heap -> Prop, (∃ n0 : Nat, J1 n0 s12 0 h2) /\
 ∀ (n1 : Nat) (out8_1 : Sl) (s16 : Int) (h3 : Heap), J1 n1 out8_1 s16 h3 -> Vars h3 [(b1, [g0_1.v])] ->
 ((decide (s16 < (g0_1.n : Int))) = true ->
 ∃ J2 : Nat -> Int -> Int -> Heap -> Prop, (∃ n0 : Nat, J2 n0 0 s16 h3) /\
 ∀ (n2 : Nat) (many10_1 : Int) (at11_1 : Int) (h4 : Heap), J2 n2 many10_1 at11_1 h4 -> Vars h4 [(b1, [g0_1.v])] ->
 ((!decide (at11_1 = sink1_1)) = true ->
 callM P 143 #[(.agg #[g0_1.v]), rotors2_1.v, (VI at11_1)] h4 fun r2 h5 => ∃ s28 : Int, r2 = (VI s28) /\ Vars h5 [(b1, [g0_1.v])] /\
 ((decide (s28 < 0)) = true ->
 K (.tuple #[nilSl.v, (VB false)]) h5) /\
 ((decide (s28 < 0)) = false ->
 ((decide ((g0_1.n : Int) < many10_1)) = true ->
 K (.tuple #[nilSl.v, (VB false)]) h5) /\
 ((decide ((g0_1.n : Int) < many10_1)) = false ->
 ∃ m : Nat, m < n2 /\ J2 m (w64 (many10_1 + 1)) s28 h5))) /\
 ((!decide (at11_1 = sink1_1)) = false ->
 eop P (Instr.buildSlice 33 1 #[(0, (VI many10_1))]) h4 fun r3 h6 => ∃ s40 : Sl, r3 = s40.v /\ Vars h6 [(b1, [g0_1.v])] /\
 eop P (appS 33 33 33 out8_1.v s40.v) h6 fun r4 h7 => ∃ s41 : Sl, r4 = s41.v /\ Vars h7 [(b1, [g0_1.v])] /\
 ∃ m : Nat, m < n1 /\ J1 m s41 (w64 (s16 + 1)) h7)) /\
 ((decide (s16 < (g0_1.n : Int))) = false ->
 K (.tuple #[out8_1.v, (VB true)]) h3)
theorem v113 (g0_1 : Sl) (sink1_1 : Int) (rotors2_1 : Sl) (h : Heap) (K : Value -> Heap -> Prop) (H : u113 Tryz.prog g0_1 sink1_1 rotors2_1 h K) : callM Tryz.prog 113 #[(Value.agg #[g0_1.v]), (VI sink1_1), rotors2_1.v] h K := by
  refine c113 (Value.agg #[g0_1.v]) (VI sink1_1) rotors2_1.v h K ?_
  unfold u113 at H
  unfold t113
  have hL : Vars h [] := .nil
  refine eop_box 26 (Value.agg #[g0_1.v]) rfl hL (fun b1 h1 hb1 hf1 hL1 => ?_)
  have H := H b1 h1 hb1 (Fr.no' (Fr.r (In []) _) hf1) hL1
  refine H.mono fun r1 h2 H => ?_
  obtain ⟨s12, rfl, hL2, H⟩ := H
  refine pop_field 0 fld26_0 b1 0 ?_
  refine rl one24 hL2 0 0 g0_1.v ?_
  refine pop_len g0_1 _ _ sli24 ?_
  obtain ⟨J1, ⟨n4, h0_2⟩, HB2⟩ := H
  refine loop_intro (J := fun (n : Nat) (vs : List Value) (h' : Heap) => ∃ out8_1 : Sl, ∃ s16 : Int, vs = [out8_1.v, (VI s16)] /\ J1 n out8_1 s16 h' /\ Vars h' [(b1, [g0_1.v])]) n4 ⟨s12, 0, rfl, h0_2, hL2⟩ ?_
  intro I2 mu2 hI2 junk1 tv3 tv4 h3 hi1
  obtain ⟨n1, ⟨out8_1, s16, hv, hJ1, hL3⟩, hn1⟩ := hI2 _ _ hi1
  cases hv
  have H := HB2 n1 out8_1 s16 h3 hJ1 hL3
  refine pop_lss .i64 s16 (g0_1.n : Int) ?_
  refine condM_b (fun hb2 => ?_) (fun hb2 => ?_)
  rotate_left
  ·exact H.2 hb2
  have H := H.1 hb2
  obtain ⟨J2, ⟨n3, h0_1⟩, HB1⟩ := H
  refine loop_intro (J := fun (n : Nat) (vs : List Value) (h' : Heap) => ∃ many10_1 : Int, ∃ at11_1 : Int, vs = [(VI many10_1), (VI at11_1)] /\ J2 n many10_1 at11_1 h' /\ Vars h' [(b1, [g0_1.v])]) n3 ⟨0, s16, rfl, h0_1, hL3⟩ ?_
  intro I1 mu1 hI1 junk2 tv1 tv2 h4 hi2
  obtain ⟨n2, ⟨many10_1, at11_1, hv, hJ2, hL4⟩, hn2⟩ := hI1 _ _ hi2
  cases hv
  have H := HB1 n2 many10_1 at11_1 h4 hJ2 hL4
  refine pop_ine .i64 _ _ at11_1 sink1_1 ?_
  refine condM_b (fun hb3 => ?_) (fun hb3 => ?_)
  rotate_left
  ·have H := H.2 hb3
   refine H.mono fun r3 h6 H => ?_
   obtain ⟨s40, rfl, hL6, H⟩ := H
   refine H.mono fun r4 h7 H => ?_
   obtain ⟨s41, rfl, hL7, H⟩ := H
   refine pop_add .i64 s16 1 ?_
   obtain ⟨m_2, hm_2, H⟩ := H
   exact hn1 _ _ ⟨m_2, hm_2, s41, (w64 (s16 + 1)), rfl, H, hL7⟩
  have H := H.1 hb3
  refine ra agg26 hL4 0 0 [g0_1.v] ?_
  refine H.mono fun r2 h5 H => ?_
  obtain ⟨s28, rfl, hL5, H⟩ := H
  refine pop_lss .i64 s28 0 ?_
  refine guardM_sf (fun hb4 => ?_) (fun hb4 => ?_)
  rotate_left
  ·have H := H.1 hb4
   refine gm hb4 ?_
   refine gm hb4 ?_
   refine gm hb4 ?_
   refine gm hb4 ?_
   refine pop_pickt' hb4 ?_
   refine condM_t ?_
   exact H
  have H := H.2 hb4
  refine gy hb4 ?_
  refine pop_field 0 fld26_0 b1 0 ?_
  refine gy hb4 ?_
  refine rl one24 hL5 0 0 g0_1.v ?_
  refine gy hb4 ?_
  refine pop_len g0_1 _ _ sli24 ?_
  refine gy hb4 ?_
  refine pop_gtr .i64 many10_1 (g0_1.n : Int) ?_
  refine pop_pickf' hb4 ?_
  refine condM_b (fun hb5 => ?_) (fun hb5 => ?_)
  ·exact H.1 hb5
  have H := H.2 hb5
  refine pop_add .i64 many10_1 1 ?_
  obtain ⟨m_1, hm_1, H⟩ := H
  exact hn2 _ _ ⟨m_1, hm_1, (w64 (many10_1 + 1)), s28, rfl, H, hL5⟩
def u114 (P : Program) (b1 : Nat) (c0_1 : Sl) (c0_2 : Int) (c0_3 : Int) (h : Heap) (K : Value -> Heap -> Prop) : Prop :=
 ∀ (b2 : Nat) (h1 : Heap), h.size ≤ b2 -> Fr (In []) h h1 -> Vars h1 [(b2, [nilSl.v]), (b1, [c0_1.v, (VI c0_2), (Value.int .u64 c0_3)])] ->
 callM P 121 #[(VP b1 0)] h1 fun r1 h2 => ∃ y1 : Sl, ∃ y2 : Int, ∃ y3 : Int, ∃ s6 : Sl, r1 = (.agg #[s6.v]) /\ Vars h2 [(b2, [nilSl.v]), (b1, [y1.v, (VI y2), (Value.int .u64 y3)])] /\
 ∀ (b3 : Nat) (h4 : Heap), h2.size ≤ b3 -> Fr (In []) h2 h4 -> Vars h4 [(b3, [s6.v]), (b2, [nilSl.v]), (b1, [y1.v, (VI y2), (Value.int .u64 y3)])] ->
 ∃ J1 : Sl -> Sl -> Int -> Int -> Heap -> Prop, (callM P 68 #[(VP b1 0), (VI 3)] h4 fun r2 h5 => ∃ y8 : Sl, ∃ y9 : Int, ∃ y10 : Int, ∃ s8 : Bool, r2 = (VB s8) /\ Vars h5 [(b3, [s6.v]), (b2, [nilSl.v]), (b1, [y8.v, (VI y9), (Value.int .u64 y10)])] /\
 (s8 = true ->
 callM P 81 #[(VP b1 0)] h5 fun r3 h6 => ∃ y11 : Sl, ∃ y12 : Int, ∃ y13 : Int, ∃ s10 : Sl, r3 = (.agg #[s10.v]) /\ Vars h6 [(b3, [s6.v]), (b2, [nilSl.v]), (b1, [y11.v, (VI y12), (Value.int .u64 y13)])] /\
 ∀ (h7 : Heap), Fr (In [b3]) h6 h7 -> Vars h7 [(b3, [s10.v]), (b2, [nilSl.v]), (b1, [y11.v, (VI y12), (Value.int .u64 y13)])] ->
 J1 s10 y11 y12 y13 h7) /\
 (s8 = false ->
 J1 s6 y8 y9 y10 h5)) /\
 ∀ (y4 : Sl) (y5 : Sl) (y6 : Int) (y7 : Int) (h8 : Heap), J1 y4 y5 y6 y7 h8 -> Vars h8 [(b3, [y4.v]), (b2, [nilSl.v]), (b1, [y5.v, (VI y6), (Value.int .u64 y7)])] ->
 callM P 61 #[(VP b1 0), (.agg #[y4.v])] h8 fun r4 h9 => ∃ y14 : Sl, ∃ y15 : Int, ∃ y16 : Int, ∃ s14 : Int, r4 = (VI s14) /\ Vars h9 [(b3, [y4.v]), (b2, [nilSl.v]), (b1, [y14.v, (VI y15), (Value.int .u64 y16)])] /\
 ∀ (h10 : Heap), Fr (In [b2]) h9 h10 -> Vars h10 [(b3, [y4.v]), (b2, [y4.v]), (b1, [y14.v, (VI y15), (Value.int .u64 y16)])] ->
 K (.tuple #[(.agg #[y4.v]), (VI s14)]) h10
theorem v114 (b1 : Nat) (c0_1 : Sl) (c0_2 : Int) (c0_3 : Int) (h : Heap) (K : Value -> Heap -> Prop) (hL : Vars h [(b1, [c0_1.v, (VI c0_2), (Value.int .u64 c0_3)])]) (H : u114 Tryz.prog b1 c0_1 c0_2 c0_3 h K) : callM Tryz.prog 114 #[(VP b1 0)] h K := by
  refine c114 (VP b1 0) h K ?_
  unfold u114 at H
  unfold t114
  refine eop_alloc 26 zer26 rfl hL (fun b2 h1 hb1 hf1 hL1 => ?_)
  have H := H b2 h1 hb1 (Fr.no' (Fr.r (In []) _) hf1) hL1
  refine H.mono fun r1 h2 H => ?_
  obtain ⟨y1, y2, y3, s6, rfl, hL2, H⟩ := H
  refine eop_alloc 26 zer26 rfl hL2 (fun b3 h3 hb2 hf2 hL3 => ?_)
  refine ul siz26 hL3 0 0 [s6.v] [(b3, [s6.v]), (b2, [nilSl.v]), (b1, [y1.v, (VI y2), (Value.int .u64 y3)])] (fun h4 hf3 hL4 => ?_)
  have H := H b3 h4 hb2 (Fr.new (Fr.no' (Fr.r (In []) _) hf2) hb2 hf3) hL4
  obtain ⟨J1, H, HB1⟩ := H
  refine ⟨fun (vs : List Value) (h' : Heap) => ∃ y4 : Sl, ∃ y5 : Sl, ∃ y6 : Int, ∃ y7 : Int, vs = [] /\ J1 y4 y5 y6 y7 h' /\ Vars h' [(b3, [y4.v]), (b2, [nilSl.v]), (b1, [y5.v, (VI y6), (Value.int .u64 y7)])], ?_, ?_⟩
  ·refine H.mono fun r2 h5 H => ?_
   obtain ⟨y8, y9, y10, s8, rfl, hL5, H⟩ := H
   refine condM_b (fun hb3 => ?_) (fun hb3 => ?_)
   rotate_left
   ·have H := H.2 hb3
    exact ⟨s6, y8, y9, y10, rfl, H, hL5⟩
   have H := H.1 hb3
   refine H.mono fun r3 h6 H => ?_
   obtain ⟨y11, y12, y13, s10, rfl, hL6, H⟩ := H
   refine ul siz26 hL6 0 0 [s10.v] [(b3, [s10.v]), (b2, [nilSl.v]), (b1, [y11.v, (VI y12), (Value.int .u64 y13)])] (fun h7 hf4 hL7 => ?_)
   have H := H  h7  (Fr.old (Fr.r (In []) _) hf4) hL7
   exact ⟨s10, y11, y12, y13, rfl, H, hL7⟩
  intro junk1  h8
  rintro ⟨y4, y5, y6, y7, hv, hJ1, hL8⟩
  have H := HB1 y4 y5 y6 y7 h8 hJ1 hL8
  refine ra agg26 hL8 0 0 [y4.v] ?_
  refine ra agg26 hL8 0 0 [y4.v] ?_
  refine H.mono fun r4 h9 H => ?_
  obtain ⟨y14, y15, y16, s14, rfl, hL9, H⟩ := H
  refine ⟨?_, ?_⟩
  ·exact still_locA agg26 hL9 0 rfl 0 (vs := [y4.v]) rfl rfl
  refine ul siz26 hL9 1 0 [y4.v] [(b3, [y4.v]), (b2, [y4.v]), (b1, [y14.v, (VI y15), (Value.int .u64 y16)])] (fun h10 hf5 hL10 => ?_)
  refine ra agg26 hL10 1 0 [y4.v] ?_
  have H := H  h10  (Fr.old (Fr.r (In []) _) hf5) hL10
  exact H
def u115 (P : Program) (s0_1 : Sl) (v1_1 : Int) (h : Heap) (K : Value -> Heap -> Prop) : Prop :=
 ∃ J1 : Nat -> Int -> Heap -> Prop, (∃ n0 : Nat, J1 n0 0 h) /\
 ∀ (n1 : Nat) (s8 : Int) (h1 : Heap), J1 n1 s8 h1 -> Vars h1 [] ->
 ((decide (s8 < (s0_1.n : Int))) = true ->
 InB s0_1 s8 /\
 ∃ s15 : Int, hcell h1 (Sl.at s0_1 s8 1) = some (VI s15) /\
 ((decide (v1_1 = s15)) = true ->
 K (VI s8) h1) /\
 ((decide (v1_1 = s15)) = false ->
 ∃ m : Nat, m < n1 /\ J1 m (w64 (s8 + 1)) h1)) /\
 ((decide (s8 < (s0_1.n : Int))) = false ->
 K (VI (-1)) h1)
theorem v115 (s0_1 : Sl) (v1_1 : Int) (h : Heap) (K : Value -> Heap -> Prop) (H : u115 Tryz.prog s0_1 v1_1 h K) : callM Tryz.prog 115 #[s0_1.v, (VI v1_1)] h K := by
  refine c115 s0_1.v (VI v1_1) h K ?_
  unfold u115 at H
  unfold t115
  have hL : Vars h [] := .nil
  refine pop_len s0_1 _ _ sli33 ?_
  obtain ⟨J1, ⟨n2, h0_1⟩, HB1⟩ := H
  refine loop_intro (J := fun (n : Nat) (vs : List Value) (h' : Heap) => ∃ s8 : Int, vs = [(VI s8)] /\ J1 n s8 h' /\ Vars h' []) n2 ⟨0, rfl, h0_1, hL⟩ ?_
  intro I1 mu1 hI1 junk1 tv1 h1 hi1
  obtain ⟨n1, ⟨s8, hv, hJ1, hL1⟩, hn1⟩ := hI1 _ _ hi1
  cases hv
  have H := HB1 n1 s8 h1 hJ1 hL1
  refine pop_lss .i64 s8 (s0_1.n : Int) ?_
  refine condM_b (fun hb1 => ?_) (fun hb1 => ?_)
  rotate_left
  ·exact H.2 hb1
  have H := H.1 hb1
  obtain ⟨hi2, H⟩ := H
  refine pop_index sli33 siz3 .i64 s0_1 s8 hi2 ?_
  obtain ⟨s15, hc1, H⟩ := H
  refine rop_one one3 (VI s15) hc1 ?_
  refine pop_ieq .i64 _ _ v1_1 s15 ?_
  refine condM_b (fun hb2 => ?_) (fun hb2 => ?_)
  ·exact H.1 hb2
  have H := H.2 hb2
  refine pop_add .i64 s8 1 ?_
  obtain ⟨m_1, hm_1, H⟩ := H
  exact hn1 _ _ ⟨m_1, hm_1, (w64 (s8 + 1)), rfl, H, hL1⟩
def u116 (P : Program) (x0_1 : Sl) (h : Heap) (K : Value -> Heap -> Prop) : Prop :=
 ∃ J1 : Heap -> Prop, (((decide ((x0_1.n : Int) < 1)) = true ->
 pop P (Instr.makeInterface 9 (Value.string { data := #[115, 108, 105, 99, 101, 115, 46, 77, 105, 110, 58, 32, 101, 109, 112, 116, 121, 32, 108, 105, 115, 116] })) fun r1 => ∃ s8 : Value, r1 = s8 /\ 
 False) /\
 ((decide ((x0_1.n : Int) < 1)) = false ->
 J1  h)) /\
 ∀ (h1 : Heap), J1  h1 -> Vars h1 [] ->
 InB x0_1 0 /\
 ∃ s11 : Int, hcell h1 (Sl.at x0_1 0 1) = some (VI s11) /\
 ∃ J2 : Nat -> Int -> Int -> Heap -> Prop, (∃ n0 : Nat, J2 n0 s11 1 h1) /\
 ∀ (n1 : Nat) (m3_1 : Int) (i4_1 : Int) (h2 : Heap), J2 n1 m3_1 i4_1 h2 -> Vars h2 [] ->
 ((decide (i4_1 < (x0_1.n : Int))) = true ->
 InB x0_1 i4_1 /\
 ∃ s22 : Int, hcell h2 (Sl.at x0_1 i4_1 1) = some (VI s22) /\
 pop P (Builtin.min_ #[3, 3] 3 #[(VI m3_1), (VI s22)]) fun r2 => ∃ s23 : Int, r2 = (VI s23) /\ 
 ∃ m : Nat, m < n1 /\ J2 m s23 (w64 (i4_1 + 1)) h2) /\
 ((decide (i4_1 < (x0_1.n : Int))) = false ->
 K (VI m3_1) h2)
theorem v116 (x0_1 : Sl) (h : Heap) (K : Value -> Heap -> Prop) (H : u116 Tryz.prog x0_1 h K) : callM Tryz.prog 116 #[x0_1.v] h K := by
  refine c116 x0_1.v h K ?_
  unfold u116 at H
  unfold t116
  have hL : Vars h [] := .nil
  obtain ⟨J1, H, HB2⟩ := H
  refine ⟨fun (vs : List Value) (h' : Heap) => vs = [] /\ J1  h' /\ Vars h' [], ?_, ?_⟩
  ·refine pop_len x0_1 _ _ sli33 ?_
   refine pop_lss .i64 (x0_1.n : Int) 1 ?_
   refine condM_b (fun hb1 => ?_) (fun hb1 => ?_)
   rotate_left
   ·have H := H.2 hb1
    exact ⟨rfl, H, hL⟩
   have H := H.1 hb1
   refine H.mono fun r1 H => ?_
   obtain ⟨s8, rfl, H⟩ := H
   exact H.elim
  intro junk1  h1
  rintro ⟨hv, hJ1, hL1⟩
  have H := HB2  h1 hJ1 hL1
  obtain ⟨hi1, H⟩ := H
  refine pop_index sli33 siz3 .i64 x0_1 0 hi1 ?_
  obtain ⟨s11, hc2, H⟩ := H
  refine rop_one one3 (VI s11) hc2 ?_
  obtain ⟨J2, ⟨n2, h0_1⟩, HB1⟩ := H
  refine loop_intro (J := fun (n : Nat) (vs : List Value) (h' : Heap) => ∃ m3_1 : Int, ∃ i4_1 : Int, vs = [(VI m3_1), (VI i4_1)] /\ J2 n m3_1 i4_1 h' /\ Vars h' []) n2 ⟨s11, 1, rfl, h0_1, hL1⟩ ?_
  intro I1 mu1 hI1 junk2 tv1 tv2 h2 hi2
  obtain ⟨n1, ⟨m3_1, i4_1, hv, hJ2, hL2⟩, hn1⟩ := hI1 _ _ hi2
  cases hv
  have H := HB1 n1 m3_1 i4_1 h2 hJ2 hL2
  refine pop_len x0_1 _ _ sli33 ?_
  refine pop_lss .i64 i4_1 (x0_1.n : Int) ?_
  refine condM_b (fun hb2 => ?_) (fun hb2 => ?_)
  rotate_left
  ·exact H.2 hb2
  have H := H.1 hb2
  obtain ⟨hi3, H⟩ := H
  refine pop_index sli33 siz3 .i64 x0_1 i4_1 hi3 ?_
  obtain ⟨s22, hc1, H⟩ := H
  refine rop_one one3 (VI s22) hc1 ?_
  refine H.mono fun r2 H => ?_
  obtain ⟨s23, rfl, H⟩ := H
  refine pop_add .i64 i4_1 1 ?_
  obtain ⟨m_1, hm_1, H⟩ := H
  exact hn1 _ _ ⟨m_1, hm_1, s23, (w64 (i4_1 + 1)), rfl, H, hL2⟩
def u117 (P : Program) (s0_1 : Sl) (h : Heap) (K : Value -> Heap -> Prop) : Prop :=
 pop P (binE .eql 33 (.tmp 3) (.const (Value.slice none 0 0)) s0_1.v (Value.slice none 0 0)) fun r1 => ∃ s4 : Bool, r1 = (VB s4) /\ 
 (s4 = true ->
 K nilSl.v h) /\
 (s4 = false ->
 eop P (Instr.buildSlice 33 0 #[]) h fun r2 h1 => ∃ s5 : Sl, r2 = s5.v /\ Vars h1 [] /\
 eop P (appS 33 33 33 s5.v s0_1.v) h1 fun r3 h2 => ∃ s7 : Sl, r3 = s7.v /\ Vars h2 [] /\
 K s7.v h2)
theorem v117 (s0_1 : Sl) (h : Heap) (K : Value -> Heap -> Prop) (H : u117 Tryz.prog s0_1 h K) : callM Tryz.prog 117 #[s0_1.v] h K := by
  refine c117 s0_1.v h K ?_
  unfold u117 at H
  unfold t117
  have hL : Vars h [] := .nil
  refine H.mono fun r1 H => ?_
  obtain ⟨s4, rfl, H⟩ := H
  refine condM_b (fun hb1 => ?_) (fun hb1 => ?_)
  ·exact H.1 hb1
  have H := H.2 hb1
  refine H.mono fun r2 h1 H => ?_
  obtain ⟨s5, rfl, hL1, H⟩ := H
  refine H.mono fun r3 h2 H => ?_
  obtain ⟨s7, rfl, hL2, H⟩ := H
  exact H
def u118 (P : Program) (g0_1 : Sl) (s1_1 : Sl) (p2_1 : Int) (h : Heap) (K : Value -> Heap -> Prop) : Prop :=
 InB s1_1 p2_1 /\
 ∀ (b1 : Nat) (b2 : Nat) (h2 : Heap), h.size ≤ b1 -> h.size ≤ b2 -> Fr (In []) h h2 -> Vars h2 [(b2, [s1_1.v]), (b1, [g0_1.v])] ->
 ∃ s11 : Sl, hcell h2 (Sl.at s1_1 p2_1 1) = some s11.v /\
 ((decide ((s11.n : Int) = 0)) = true ->
 K (VI (-1)) h2) /\
 ((decide ((s11.n : Int) = 0)) = false ->
 InB g0_1 p2_1 /\
 ∃ s18 : Sl, hcell h2 (Sl.at g0_1 p2_1 1) = some s18.v /\
 InB s1_1 p2_1 /\
 ∃ s23 : Sl, hcell h2 (Sl.at s1_1 p2_1 1) = some s23.v /\
 InB s23 0 /\
 ∃ s25 : Int, hcell h2 (Sl.at s23 0 1) = some (VI s25) /\
 InB s18 s25 /\
 ∃ s27 : Int, hcell h2 (Sl.at s18 s25 1) = some (VI s27) /\
 K (VI s27) h2)
theorem v118 (g0_1 : Sl) (s1_1 : Sl) (p2_1 : Int) (h : Heap) (K : Value -> Heap -> Prop) (H : u118 Tryz.prog g0_1 s1_1 p2_1 h K) : callM Tryz.prog 118 #[(Value.agg #[g0_1.v]), (Value.agg #[s1_1.v]), (VI p2_1)] h K := by
  refine c118 (Value.agg #[g0_1.v]) (Value.agg #[s1_1.v]) (VI p2_1) h K ?_
  unfold u118 at H
  unfold t118
  have hL : Vars h [] := .nil
  refine eop_box 26 (Value.agg #[g0_1.v]) rfl hL (fun b1 h1 hb1 hf1 hL1 => ?_)
  refine eop_box 28 (Value.agg #[s1_1.v]) rfl hL1 (fun b2 h2 hb2 hf2 hL2 => ?_)
  refine pop_field 0 fld28_0 b2 0 ?_
  refine rl one24 hL2 0 0 s1_1.v ?_
  obtain ⟨hi1, H⟩ := H
  refine pop_index sli24 siz33 .i64 s1_1 p2_1 hi1 ?_
  have H := H b1 b2 h2 hb1 (Nat.le_trans (Fr.size (Fr.no' (Fr.r (In []) _) hf1)) hb2) (Fr.no' (Fr.no' (Fr.r (In []) _) hf1) hf2) hL2
  obtain ⟨s11, hc5, H⟩ := H
  refine rop_one one33 s11.v hc5 ?_
  refine pop_len s11 _ _ sli33 ?_
  refine pop_ieq .i64 _ _ (s11.n : Int) 0 ?_
  refine condM_b (fun hb3 => ?_) (fun hb3 => ?_)
  ·exact H.1 hb3
  have H := H.2 hb3
  refine pop_field 0 fld26_0 b1 0 ?_
  refine rl one24 hL2 1 0 g0_1.v ?_
  obtain ⟨hi2, H⟩ := H
  refine pop_index sli24 siz33 .i64 g0_1 p2_1 hi2 ?_
  obtain ⟨s18, hc4, H⟩ := H
  refine rop_one one33 s18.v hc4 ?_
  refine pop_field 0 fld28_0 b2 0 ?_
  refine rl one24 hL2 0 0 s1_1.v ?_
  obtain ⟨hi3, H⟩ := H
  refine pop_index sli24 siz33 .i64 s1_1 p2_1 hi3 ?_
  obtain ⟨s23, hc3, H⟩ := H
  refine rop_one one33 s23.v hc3 ?_
  obtain ⟨hi4, H⟩ := H
  refine pop_index sli33 siz3 .i64 s23 0 hi4 ?_
  obtain ⟨s25, hc2, H⟩ := H
  refine rop_one one3 (VI s25) hc2 ?_
  obtain ⟨hi5, H⟩ := H
  refine pop_index sli33 siz3 .i64 s18 s25 hi5 ?_
  obtain ⟨s27, hc1, H⟩ := H
  refine rop_one one3 (VI s27) hc1 ?_
  exact H
def u119 (P : Program) (l0_1 : Sl) (h : Heap) (K : Value -> Heap -> Prop) : Prop :=
 eop P (Instr.buildSlice 33 0 #[]) h fun r1 h1 => ∃ s3 : Sl, r1 = s3.v /\ Vars h1 [] /\
 eop P (appS 33 33 33 s3.v l0_1.v) h1 fun r2 h2 => ∃ s5 : Sl, r2 = s5.v /\ Vars h2 [] /\
 K s5.v h2
theorem v119 (l0_1 : Sl) (h : Heap) (K : Value -> Heap -> Prop) (H : u119 Tryz.prog l0_1 h K) : callM Tryz.prog 119 #[l0_1.v] h K := by
  refine c119 l0_1.v h K ?_
  unfold u119 at H
  unfold t119
  have hL : Vars h [] := .nil
  refine H.mono fun r1 h1 H => ?_
  obtain ⟨s3, rfl, hL1, H⟩ := H
  refine H.mono fun r2 h2 H => ?_
  obtain ⟨s5, rfl, hL2, H⟩ := H
  exact H
def u120 (P : Program) (l0_1 : Sl) (n1_1 : Int) (h : Heap) (K : Value -> Heap -> Prop) : Prop :=
 ∃ J1 : Nat -> Int -> Heap -> Prop, (∃ n0 : Nat, J1 n0 0 h) /\
 ∀ (n1 : Nat) (s9 : Int) (h1 : Heap), J1 n1 s9 h1 -> Vars h1 [] ->
 ((decide (s9 < (l0_1.n : Int))) = true ->
 InB l0_1 s9 /\
 ∃ s12 : Int, hcell h1 (Sl.at l0_1 s9 1) = some (VI s12) /\
 ((decide (s12 = n1_1)) = true ->
 K (VB true) h1) /\
 ((decide (s12 = n1_1)) = false ->
 ∃ m : Nat, m < n1 /\ J1 m (w64 (s9 + 1)) h1)) /\
 ((decide (s9 < (l0_1.n : Int))) = false ->
 K (VB false) h1)
theorem v120 (l0_1 : Sl) (n1_1 : Int) (h : Heap) (K : Value -> Heap -> Prop) (H : u120 Tryz.prog l0_1 n1_1 h K) : callM Tryz.prog 120 #[l0_1.v, (VI n1_1)] h K := by
  refine c120 l0_1.v (VI n1_1) h K ?_
  unfold u120 at H
  unfold t120
  have hL : Vars h [] := .nil
  refine pop_len l0_1 _ _ sli33 ?_
  obtain ⟨J1, ⟨n2, h0_1⟩, HB1⟩ := H
  refine loop_intro (J := fun (n : Nat) (vs : List Value) (h' : Heap) => ∃ s9 : Int, vs = [(VI s9)] /\ J1 n s9 h' /\ Vars h' []) n2 ⟨0, rfl, h0_1, hL⟩ ?_
  intro I1 mu1 hI1 junk1 tv1 h1 hi1
  obtain ⟨n1, ⟨s9, hv, hJ1, hL1⟩, hn1⟩ := hI1 _ _ hi1
  cases hv
  have H := HB1 n1 s9 h1 hJ1 hL1
  refine pop_lss .i64 s9 (l0_1.n : Int) ?_
  refine condM_b (fun hb1 => ?_) (fun hb1 => ?_)
  rotate_left
  ·exact H.2 hb1
  have H := H.1 hb1
  obtain ⟨hi2, H⟩ := H
  refine pop_index sli33 siz3 .i64 l0_1 s9 hi2 ?_
  obtain ⟨s12, hc1, H⟩ := H
  refine rop_one one3 (VI s12) hc1 ?_
  refine pop_ieq .i64 _ _ s12 n1_1 ?_
  refine condM_b (fun hb2 => ?_) (fun hb2 => ?_)
  ·exact H.1 hb2
  have H := H.2 hb2
  refine pop_add .i64 s9 1 ?_
  obtain ⟨m_1, hm_1, H⟩ := H
  exact hn1 _ _ ⟨m_1, hm_1, (w64 (s9 + 1)), rfl, H, hL1⟩
def u121 (P : Program) (b1 : Nat) (c0_1 : Sl) (c0_2 : Int) (c0_3 : Int) (h : Heap) (K : Value -> Heap -> Prop) : Prop :=
 ∀ (b2 : Nat) (h1 : Heap), h.size ≤ b2 -> Fr (In []) h h1 -> Vars h1 [(b2, [nilSl.v]), (b1, [c0_1.v, (VI c0_2), (Value.int .u64 c0_3)])] ->
 callM P 144 #[(VP b1 0), (VI 6)] h1 fun r1 h2 => ∃ y1 : Sl, ∃ y2 : Int, ∃ y3 : Int, ∃ s5 : Sl, r1 = (.agg #[s5.v]) /\ Vars h2 [(b2, [nilSl.v]), (b1, [y1.v, (VI y2), (Value.int .u64 y3)])] /\
 ∀ (b3 : Nat) (h4 : Heap), h2.size ≤ b3 -> Fr (In []) h2 h4 -> Vars h4 [(b3, [s5.v]), (b2, [nilSl.v]), (b1, [y1.v, (VI y2), (Value.int .u64 y3)])] ->
 callM P 70 #[(VP b1 0), (VI 16)] h4 fun r2 h5 => ∃ y4 : Sl, ∃ y5 : Int, ∃ y6 : Int, ∃ s7 : Int, r2 = (VI s7) /\ Vars h5 [(b3, [s5.v]), (b2, [nilSl.v]), (b1, [y4.v, (VI y5), (Value.int .u64 y6)])] /\
 ((decide (s7 = 0)) = true ->
 InB s5 0 /\
 ∃ s15 : Sl, hcell h5 (Sl.at s5 0 1) = some s15.v /\
 eop P (Instr.buildSlice 33 3 #[(0, (.int .i64 (-1))), (1, (VI (s5.n : Int))), (2, (.int .i64 4611686018427387904))]) h5 fun r3 h6 => ∃ s20 : Sl, r3 = s20.v /\ Vars h6 [(b3, [s5.v]), (b2, [nilSl.v]), (b1, [y4.v, (VI y5), (Value.int .u64 y6)])] /\
 hcell h6 (Sl.at s5 0 1) = some s15.v /\
 callM P 69 #[(VP b1 0), s20.v] h6 fun r4 h7 => ∃ y7 : Sl, ∃ y8 : Int, ∃ y9 : Int, ∃ s21 : Int, r4 = (VI s21) /\ Vars h7 [(b3, [s5.v]), (b2, [nilSl.v]), (b1, [y7.v, (VI y8), (Value.int .u64 y9)])] /\
 hcell h7 (Sl.at s5 0 1) = some s15.v /\
 eop P (Instr.buildSlice 33 1 #[(0, (VI s21))]) h7 fun r5 h8 => ∃ s22 : Sl, r5 = s22.v /\ Vars h8 [(b3, [s5.v]), (b2, [nilSl.v]), (b1, [y7.v, (VI y8), (Value.int .u64 y9)])] /\
 hcell h8 (Sl.at s5 0 1) = some s15.v /\
 eop P (appS 33 33 33 s15.v s22.v) h8 fun r6 h9 => ∃ s23 : Sl, r6 = s23.v /\ Vars h9 [(b3, [s5.v]), (b2, [nilSl.v]), (b1, [y7.v, (VI y8), (Value.int .u64 y9)])] /\
 InB s5 0 /\
 Writable h9 (Sl.at s5 0 1) /\ Vars (hset h9 (Sl.at s5 0 1) s23.v) [(b3, [s5.v]), (b2, [nilSl.v]), (b1, [y7.v, (VI y8), (Value.int .u64 y9)])] /\
 ∀ h10 : Heap, h10 = hset h9 (Sl.at s5 0 1) s23.v -> Vars h10 [(b3, [s5.v]), (b2, [nilSl.v]), (b1, [y7.v, (VI y8), (Value.int .u64 y9)])] ->
 ∀ (h11 : Heap), Fr (In [b2]) h10 h11 -> Vars h11 [(b3, [s5.v]), (b2, [s5.v]), (b1, [y7.v, (VI y8), (Value.int .u64 y9)])] ->
 K (.agg #[s5.v]) h11) /\
 ((decide (s7 = 0)) = false ->
 ((decide (s7 = 1)) = true ->
 callM P 70 #[(VP b1 0), (VI 2)] h5 fun r7 h12 => ∃ y10 : Sl, ∃ y11 : Int, ∃ y12 : Int, ∃ s30 : Int, r7 = (VI s30) /\ Vars h12 [(b3, [s5.v]), (b2, [nilSl.v]), (b1, [y10.v, (VI y11), (Value.int .u64 y12)])] /\
 eop P (Instr.makeSlice 33 (VI (w64 (5 + s30))) (VI (w64 (5 + s30)))) h12 fun r8 h13 => ∃ s32 : Sl, r8 = s32.v /\ Vars h13 [(b3, [s5.v]), (b2, [nilSl.v]), (b1, [y10.v, (VI y11), (Value.int .u64 y12)])] /\
 InB s5 0 /\
 Writable h13 (Sl.at s5 0 1) /\ Vars (hset h13 (Sl.at s5 0 1) s32.v) [(b3, [s5.v]), (b2, [nilSl.v]), (b1, [y10.v, (VI y11), (Value.int .u64 y12)])] /\
 ∀ h14 : Heap, h14 = hset h13 (Sl.at s5 0 1) s32.v -> Vars h14 [(b3, [s5.v]), (b2, [nilSl.v]), (b1, [y10.v, (VI y11), (Value.int .u64 y12)])] ->
 ∀ (h15 : Heap), Fr (In [b2]) h14 h15 -> Vars h15 [(b3, [s5.v]), (b2, [s5.v]), (b1, [y10.v, (VI y11), (Value.int .u64 y12)])] ->
 K (.agg #[s5.v]) h15) /\
 ((decide (s7 = 1)) = false ->
 ((decide (s7 = 2)) = true ->
 ∃ J1 : Nat -> Sl -> Sl -> Int -> Int -> Heap -> Prop, (∃ n0 : Nat, J1 n0 s5 y4 y5 y6 h5) /\
 ∀ (n1 : Nat) (y13 : Sl) (y14 : Sl) (y15 : Int) (y16 : Int) (h16 : Heap), J1 n1 y13 y14 y15 y16 h16 -> Vars h16 [(b3, [y13.v]), (b2, [nilSl.v]), (b1, [y14.v, (VI y15), (Value.int .u64 y16)])] ->
 callM P 70 #[(VP b1 0), (VI 2)] h16 fun r9 h17 => ∃ y17 : Sl, ∃ y18 : Int, ∃ y19 : Int, ∃ s40 : Int, r9 = (VI s40) /\ Vars h17 [(b3, [y13.v]), (b2, [nilSl.v]), (b1, [y17.v, (VI y18), (Value.int .u64 y19)])] /\
 ((decide ((y13.n : Int) < (w64 (8 + s40)))) = true ->
 eop P (Instr.buildSlice 33 1 #[(0, (.int .i64 0))]) h17 fun r10 h18 => ∃ s45 : Sl, r10 = s45.v /\ Vars h18 [(b3, [y13.v]), (b2, [nilSl.v]), (b1, [y17.v, (VI y18), (Value.int .u64 y19)])] /\
 eop P (Instr.buildSlice 24 1 #[(0, s45.v)]) h18 fun r11 h19 => ∃ s46 : Sl, r11 = s46.v /\ Vars h19 [(b3, [y13.v]), (b2, [nilSl.v]), (b1, [y17.v, (VI y18), (Value.int .u64 y19)])] /\
 eop P (appS 24 24 24 y13.v s46.v) h19 fun r12 h20 => ∃ s47 : Sl, r12 = s47.v /\ Vars h20 [(b3, [y13.v]), (b2, [nilSl.v]), (b1, [y17.v, (VI y18), (Value.int .u64 y19)])] /\
 ∀ (h21 : Heap), Fr (In [b3]) h20 h21 -> Vars h21 [(b3, [s47.v]), (b2, [nilSl.v]), (b1, [y17.v, (VI y18), (Value.int .u64 y19)])] ->
 ∃ m : Nat, m < n1 /\ J1 m s47 y17 y18 y19 h21) /\
 ((decide ((y13.n : Int) < (w64 (8 + s40)))) = false ->
 ∀ (h22 : Heap), Fr (In [b2]) h17 h22 -> Vars h22 [(b3, [y13.v]), (b2, [y13.v]), (b1, [y17.v, (VI y18), (Value.int .u64 y19)])] ->
 K (.agg #[y13.v]) h22)) /\
 ((decide (s7 = 2)) = false ->
 ((decide (s7 = 3)) = true ->
 ∀ (h24 : Heap), Fr (In [b2, b3]) h5 h24 -> Vars h24 [(b3, [nilSl.v]), (b2, [nilSl.v]), (b1, [y4.v, (VI y5), (Value.int .u64 y6)])] ->
 K (.agg #[nilSl.v]) h24) /\
 ((decide (s7 = 3)) = false ->
 ∀ (h25 : Heap), Fr (In [b2]) h5 h25 -> Vars h25 [(b3, [s5.v]), (b2, [s5.v]), (b1, [y4.v, (VI y5), (Value.int .u64 y6)])] ->
 K (.agg #[s5.v]) h25))))
theorem v121 (b1 : Nat) (c0_1 : Sl) (c0_2 : Int) (c0_3 : Int) (h : Heap) (K : Value -> Heap -> Prop) (hL : Vars h [(b1, [c0_1.v, (VI c0_2), (Value.int .u64 c0_3)])]) (H : u121 Tryz.prog b1 c0_1 c0_2 c0_3 h K) : callM Tryz.prog 121 #[(VP b1 0)] h K := by
  refine c121 (VP b1 0) h K ?_
  unfold u121 at H
  unfold t121
  refine eop_alloc 26 zer26 rfl hL (fun b2 h1 hb1 hf1 hL1 => ?_)
  have H := H b2 h1 hb1 (Fr.no' (Fr.r (In []) _) hf1) hL1
  refine H.mono fun r1 h2 H => ?_
  obtain ⟨y1, y2, y3, s5, rfl, hL2, H⟩ := H
  refine eop_alloc 26 zer26 rfl hL2 (fun b3 h3 hb2 hf2 hL3 => ?_)
  refine ul siz26 hL3 0 0 [s5.v] [(b3, [s5.v]), (b2, [nilSl.v]), (b1, [y1.v, (VI y2), (Value.int .u64 y3)])] (fun h4 hf3 hL4 => ?_)
  have H := H b3 h4 hb2 (Fr.new (Fr.no' (Fr.r (In []) _) hf2) hb2 hf3) hL4
  refine H.mono fun r2 h5 H => ?_
  obtain ⟨y4, y5, y6, s7, rfl, hL5, H⟩ := H
  refine pop_ieq .i64 _ _ s7 0 ?_
  refine condM_b (fun hb3 => ?_) (fun hb3 => ?_)
  ·have H := H.1 hb3
   refine pop_field 0 fld26_0 b3 0 ?_
   refine rl one24 hL5 0 0 s5.v ?_
   refine pop_field 0 fld26_0 b3 0 ?_
   refine rl one24 hL5 0 0 s5.v ?_
   obtain ⟨hi1, H⟩ := H
   refine pop_index sli24 siz33 .i64 s5 0 hi1 ?_
   obtain ⟨s15, hc4, H⟩ := H
   refine rop_one one33 s15.v hc4 ?_
   refine pop_field 0 fld26_0 b3 0 ?_
   refine rl one24 hL5 0 0 s5.v ?_
   refine pop_len s5 _ _ sli24 ?_
   refine H.mono fun r3 h6 H => ?_
   obtain ⟨s20, rfl, hL6, H⟩ := H
   refine ⟨?_, ?_⟩
   ·exact still_loc one24 hL6 0 rfl 0 (v := s5.v) rfl
   refine ⟨?_, ?_⟩
   ·exact still_one one33 H.1
   obtain ⟨hc1, H⟩ := H
   refine ⟨?_, ?_⟩
   ·exact still_loc one24 hL6 0 rfl 0 (v := s5.v) rfl
   refine ⟨?_, ?_⟩
   ·exact still_loc one24 hL6 0 rfl 0 (v := s5.v) rfl
   refine H.mono fun r4 h7 H => ?_
   obtain ⟨y7, y8, y9, s21, rfl, hL7, H⟩ := H
   refine ⟨?_, ?_⟩
   ·exact still_loc one24 hL7 0 rfl 0 (v := s5.v) rfl
   refine ⟨?_, ?_⟩
   ·exact still_one one33 H.1
   obtain ⟨hc2, H⟩ := H
   refine ⟨?_, ?_⟩
   ·exact still_loc one24 hL7 0 rfl 0 (v := s5.v) rfl
   refine ⟨?_, ?_⟩
   ·exact still_loc one24 hL7 0 rfl 0 (v := s5.v) rfl
   refine H.mono fun r5 h8 H => ?_
   obtain ⟨s22, rfl, hL8, H⟩ := H
   refine ⟨?_, ?_⟩
   ·exact still_loc one24 hL8 0 rfl 0 (v := s5.v) rfl
   refine ⟨?_, ?_⟩
   ·exact still_one one33 H.1
   obtain ⟨hc3, H⟩ := H
   refine ⟨?_, ?_⟩
   ·exact still_loc one24 hL8 0 rfl 0 (v := s5.v) rfl
   refine ⟨?_, ?_⟩
   ·exact still_loc one24 hL8 0 rfl 0 (v := s5.v) rfl
   refine H.mono fun r6 h9 H => ?_
   obtain ⟨s23, rfl, hL9, H⟩ := H
   refine ⟨?_, ?_⟩
   ·exact still_loc one24 hL9 0 rfl 0 (v := s5.v) rfl
   refine ⟨?_, ?_⟩
   ·exact still_loc one24 hL9 0 rfl 0 (v := s5.v) rfl
   refine ⟨?_, ?_⟩
   ·exact still_loc one24 hL9 0 rfl 0 (v := s5.v) rfl
   obtain ⟨hi2, H⟩ := H
   refine pop_index sli24 siz33 .i64 s5 0 hi2 ?_
   obtain ⟨hw_1, hL10, H⟩ := H
   refine uop_cell (v := s23.v) siz33 hw_1 rfl (fun h10 he_1 => ?_)
   rw [← he_1] at hL10
   have H := H h10 he_1 hL10
   refine ra agg26 hL10 0 0 [s5.v] ?_
   refine ul siz26 hL10 1 0 [s5.v] [(b3, [s5.v]), (b2, [s5.v]), (b1, [y7.v, (VI y8), (Value.int .u64 y9)])] (fun h11 hf4 hL11 => ?_)
   refine ra agg26 hL11 1 0 [s5.v] ?_
   have H := H  h11  (Fr.old (Fr.r (In []) _) hf4) hL11
   exact H
  have H := H.2 hb3
  refine pop_ieq .i64 _ _ s7 1 ?_
  refine condM_b (fun hb4 => ?_) (fun hb4 => ?_)
  ·have H := H.1 hb4
   refine pop_field 0 fld26_0 b3 0 ?_
   refine rl one24 hL5 0 0 s5.v ?_
   refine H.mono fun r7 h12 H => ?_
   obtain ⟨y10, y11, y12, s30, rfl, hL12, H⟩ := H
   refine ⟨?_, ?_⟩
   ·exact still_loc one24 hL12 0 rfl 0 (v := s5.v) rfl
   refine pop_add .i64 5 s30 ?_
   refine H.mono fun r8 h13 H => ?_
   obtain ⟨s32, rfl, hL13, H⟩ := H
   refine ⟨?_, ?_⟩
   ·exact still_loc one24 hL13 0 rfl 0 (v := s5.v) rfl
   obtain ⟨hi3, H⟩ := H
   refine pop_index sli24 siz33 .i64 s5 0 hi3 ?_
   obtain ⟨hw_2, hL14, H⟩ := H
   refine uop_cell (v := s32.v) siz33 hw_2 rfl (fun h14 he_2 => ?_)
   rw [← he_2] at hL14
   have H := H h14 he_2 hL14
   refine ra agg26 hL14 0 0 [s5.v] ?_
   refine ul siz26 hL14 1 0 [s5.v] [(b3, [s5.v]), (b2, [s5.v]), (b1, [y10.v, (VI y11), (Value.int .u64 y12)])] (fun h15 hf5 hL15 => ?_)
   refine ra agg26 hL15 1 0 [s5.v] ?_
   have H := H  h15  (Fr.old (Fr.r (In []) _) hf5) hL15
   exact H
  have H := H.2 hb4
  refine pop_ieq .i64 _ _ s7 2 ?_
  refine condM_b (fun hb5 => ?_) (fun hb5 => ?_)
  rotate_left
  ·have H := H.2 hb5
   refine pop_ieq .i64 _ _ s7 3 ?_
   refine condM_b (fun hb7 => ?_) (fun hb7 => ?_)
   rotate_left
   ·have H := H.2 hb7
    refine ra agg26 hL5 0 0 [s5.v] ?_
    refine ul siz26 hL5 1 0 [s5.v] [(b3, [s5.v]), (b2, [s5.v]), (b1, [y4.v, (VI y5), (Value.int .u64 y6)])] (fun h25 hf10 hL25 => ?_)
    refine ra agg26 hL25 1 0 [s5.v] ?_
    have H := H  h25  (Fr.old (Fr.r (In []) _) hf10) hL25
    exact H
   have H := H.1 hb7
   refine pop.mk' (v := (Value.agg #[nilSl.v])) (fun w => by kernel_rfl) ?_
   refine ul siz26 hL5 0 0 [nilSl.v] [(b3, [nilSl.v]), (b2, [nilSl.v]), (b1, [y4.v, (VI y5), (Value.int .u64 y6)])] (fun h23 hf8 hL23 => ?_)
   refine ra agg26 hL23 0 0 [nilSl.v] ?_
   refine ul siz26 hL23 1 0 [nilSl.v] [(b3, [nilSl.v]), (b2, [nilSl.v]), (b1, [y4.v, (VI y5), (Value.int .u64 y6)])] (fun h24 hf9 hL24 => ?_)
   refine ra agg26 hL24 1 0 [nilSl.v] ?_
   have H := H  h24  (Fr.old (Fr.old (Fr.r (In []) _) hf8) hf9) hL24
   exact H
  have H := H.1 hb5
  obtain ⟨J1, ⟨n2, h0_1⟩, HB1⟩ := H
  refine loop_intro (J := fun (n : Nat) (vs : List Value) (h' : Heap) => ∃ y13 : Sl, ∃ y14 : Sl, ∃ y15 : Int, ∃ y16 : Int, vs = [] /\ J1 n y13 y14 y15 y16 h' /\ Vars h' [(b3, [y13.v]), (b2, [nilSl.v]), (b1, [y14.v, (VI y15), (Value.int .u64 y16)])]) n2 ⟨s5, y4, y5, y6, rfl, h0_1, hL5⟩ ?_
  intro I1 mu1 hI1 junk1  h16 hi4
  obtain ⟨n1, ⟨y13, y14, y15, y16, hv, hJ1, hL16⟩, hn1⟩ := hI1 _ _ hi4
  cases hv
  have H := HB1 n1 y13 y14 y15 y16 h16 hJ1 hL16
  refine pop_field 0 fld26_0 b3 0 ?_
  refine rl one24 hL16 0 0 y13.v ?_
  refine pop_len y13 _ _ sli24 ?_
  refine H.mono fun r9 h17 H => ?_
  obtain ⟨y17, y18, y19, s40, rfl, hL17, H⟩ := H
  refine ⟨?_, ?_⟩
  ·exact still_loc one24 hL17 0 rfl 0 (v := y13.v) rfl
  refine pop_add .i64 8 s40 ?_
  refine pop_lss .i64 (y13.n : Int) (w64 (8 + s40)) ?_
  refine condM_b (fun hb6 => ?_) (fun hb6 => ?_)
  rotate_left
  ·have H := H.2 hb6
   refine ra agg26 hL17 0 0 [y13.v] ?_
   refine ul siz26 hL17 1 0 [y13.v] [(b3, [y13.v]), (b2, [y13.v]), (b1, [y17.v, (VI y18), (Value.int .u64 y19)])] (fun h22 hf7 hL22 => ?_)
   refine ra agg26 hL22 1 0 [y13.v] ?_
   have H := H  h22  (Fr.old (Fr.r (In []) _) hf7) hL22
   exact H
  have H := H.1 hb6
  refine pop_field 0 fld26_0 b3 0 ?_
  refine rl one24 hL17 0 0 y13.v ?_
  refine H.mono fun r10 h18 H => ?_
  obtain ⟨s45, rfl, hL18, H⟩ := H
  refine H.mono fun r11 h19 H => ?_
  obtain ⟨s46, rfl, hL19, H⟩ := H
  refine H.mono fun r12 h20 H => ?_
  obtain ⟨s47, rfl, hL20, H⟩ := H
  refine pop_field 0 fld26_0 b3 0 ?_
  refine ul siz24 hL20 0 0 [s47.v] [(b3, [s47.v]), (b2, [nilSl.v]), (b1, [y17.v, (VI y18), (Value.int .u64 y19)])] (fun h21 hf6 hL21 => ?_)
  have H := H  h21  (Fr.old (Fr.r (In []) _) hf6) hL21
  obtain ⟨m_1, hm_1, H⟩ := H
  exact hn1 _ _ ⟨m_1, hm_1, s47, y17, y18, y19, rfl, H, hL21⟩
def u122 (P : Program) (b1 : Nat) (c0_1 : Sl) (c0_2 : Int) (c0_3 : Int) (h : Heap) (K : Value -> Heap -> Prop) : Prop :=
 ∃ J1 : Int -> Heap -> Prop, (((decide (c0_2 < (c0_1.n : Int))) = true ->
 InB c0_1 c0_2 /\
 ∃ s23 : Int, hcell h (Sl.at c0_1 c0_2 1) = some (Value.int .u8 s23) /\
 rop P (convert 5 3 (Value.int .u8 s23)) h fun r1 => ∃ s24 : Int, r1 = (VI s24) /\ 
 J1 s24 h) /\
 ((decide (c0_2 < (c0_1.n : Int))) = false ->
 J1 0 h)) /\
 ∀ (y1 : Int) (h1 : Heap), J1 y1 h1 -> Vars h1 [(b1, [c0_1.v, (VI c0_2), (Value.int .u64 c0_3)])] ->
 ∀ (h2 : Heap), Fr (In [b1]) h1 h2 -> Vars h2 [(b1, [c0_1.v, (VI (w64 (c0_2 + 1))), (Value.int .u64 c0_3)])] ->
 rop P (convert 3 82 (VI y1)) h2 fun r2 => ∃ s39 : Int, r2 = (Value.int .u64 s39) /\ 
 ((decide ((w64 (c0_2 + 1)) ≤ (c0_1.n : Int))) = true ->
 ∀ (h3 : Heap), Fr (In [b1]) h2 h3 -> Vars h3 [(b1, [c0_1.v, (VI (w64 (c0_2 + 1))), (Value.int .u64 (IntKind.wrap .u64 ((IntKind.wrap .u64 ((IntKind.wrap .u64 (c0_3 * 6364136223846793005)) + s39)) + 1442695040888963407)))])] ->
 K (VI y1) h3) /\
 ((decide ((w64 (c0_2 + 1)) ≤ (c0_1.n : Int))) = false ->
 pop P (binA .shr 82 (Value.int .u64 (IntKind.wrap .u64 ((IntKind.wrap .u64 ((IntKind.wrap .u64 (c0_3 * 6364136223846793005)) + s39)) + 1442695040888963407))) (Value.int IntKind.u64 40)) fun r3 => ∃ s59 : Int, r3 = (Value.int .u64 s59) /\ 
 pop P (binA .and 82 (Value.int .u64 s59) (Value.int IntKind.u64 255)) fun r4 => ∃ s60 : Int, r4 = (Value.int .u64 s60) /\ 
 ∀ (h3 : Heap), Fr (In [b1]) h2 h3 -> Vars h3 [(b1, [c0_1.v, (VI (w64 (c0_2 + 1))), (Value.int .u64 (IntKind.wrap .u64 ((IntKind.wrap .u64 ((IntKind.wrap .u64 (c0_3 * 6364136223846793005)) + s39)) + 1442695040888963407)))])] ->
 rop P (convert 82 3 (Value.int .u64 s60)) h3 fun r5 => ∃ s61 : Int, r5 = (VI s61) /\ 
 K (VI s61) h3)
theorem v122 (b1 : Nat) (c0_1 : Sl) (c0_2 : Int) (c0_3 : Int) (h : Heap) (K : Value -> Heap -> Prop) (hL : Vars h [(b1, [c0_1.v, (VI c0_2), (Value.int .u64 c0_3)])]) (H : u122 Tryz.prog b1 c0_1 c0_2 c0_3 h K) : callM Tryz.prog 122 #[(VP b1 0)] h K := by
  refine c122 (VP b1 0) h K ?_
  unfold u122 at H
  unfold t122
  obtain ⟨J1, H, HB1⟩ := H
  refine ⟨fun (vs : List Value) (h' : Heap) => ∃ y1 : Int, vs = [(VI y1)] /\ J1 y1 h' /\ Vars h' [(b1, [c0_1.v, (VI c0_2), (Value.int .u64 c0_3)])], ?_, ?_⟩
  ·refine pop_nil _ ?_
   refine pop_field 1 fld84_1 b1 0 ?_
   refine rl one3 hL 0 1 (VI c0_2) ?_
   refine pop_nil _ ?_
   refine pop_field 0 fld84_0 b1 0 ?_
   refine rl one22 hL 0 0 c0_1.v ?_
   refine pop_len c0_1 _ _ sli22 ?_
   refine pop_lss .i64 c0_2 (c0_1.n : Int) ?_
   refine condM_b (fun hb1 => ?_) (fun hb1 => ?_)
   rotate_left
   ·have H := H.2 hb1
    exact ⟨0, rfl, H, hL⟩
   have H := H.1 hb1
   refine pop_nil _ ?_
   refine pop_field 0 fld84_0 b1 0 ?_
   refine rl one22 hL 0 0 c0_1.v ?_
   refine pop_nil _ ?_
   refine pop_field 1 fld84_1 b1 0 ?_
   refine rl one3 hL 0 1 (VI c0_2) ?_
   obtain ⟨hi1, H⟩ := H
   refine pop_index sli22 siz5 .i64 c0_1 c0_2 hi1 ?_
   obtain ⟨s23, hc1, H⟩ := H
   refine rop_one one5 (Value.int .u8 s23) hc1 ?_
   refine H.mono fun r1 H => ?_
   obtain ⟨s24, rfl, H⟩ := H
   exact ⟨s24, rfl, H, hL⟩
  intro junk1 tv1 h1
  rintro ⟨y1, hv, hJ1, hL1⟩
  cases hv
  have H := HB1 y1 h1 hJ1 hL1
  refine pop_nil _ ?_
  refine pop_field 1 fld84_1 b1 0 ?_
  refine rl one3 hL1 0 1 (VI c0_2) ?_
  refine pop_add .i64 c0_2 1 ?_
  refine pop_nil _ ?_
  refine pop_field 1 fld84_1 b1 0 ?_
  refine ul siz3 hL1 0 1 [(VI (w64 (c0_2 + 1)))] [(b1, [c0_1.v, (VI (w64 (c0_2 + 1))), (Value.int .u64 c0_3)])] (fun h2 hf1 hL2 => ?_)
  refine pop_nil _ ?_
  refine pop_field 2 fld84_2 b1 0 ?_
  refine rl one82 hL2 0 2 (Value.int .u64 c0_3) ?_
  refine pop_mul .u64 c0_3 6364136223846793005 ?_
  have H := H  h2  (Fr.old (Fr.r (In []) _) hf1) hL2
  refine H.mono fun r2 H => ?_
  obtain ⟨s39, rfl, H⟩ := H
  refine pop_add .u64 (IntKind.wrap .u64 (c0_3 * 6364136223846793005)) s39 ?_
  refine pop_add .u64 (IntKind.wrap .u64 ((IntKind.wrap .u64 (c0_3 * 6364136223846793005)) + s39)) 1442695040888963407 ?_
  refine pop_nil _ ?_
  refine pop_field 2 fld84_2 b1 0 ?_
  refine ul siz82 hL2 0 2 [(Value.int .u64 (IntKind.wrap .u64 ((IntKind.wrap .u64 ((IntKind.wrap .u64 (c0_3 * 6364136223846793005)) + s39)) + 1442695040888963407)))] [(b1, [c0_1.v, (VI (w64 (c0_2 + 1))), (Value.int .u64 (IntKind.wrap .u64 ((IntKind.wrap .u64 ((IntKind.wrap .u64 (c0_3 * 6364136223846793005)) + s39)) + 1442695040888963407)))])] (fun h3 hf2 hL3 => ?_)
  refine pop_nil _ ?_
  refine pop_field 1 fld84_1 b1 0 ?_
  refine rl one3 hL3 0 1 (VI (w64 (c0_2 + 1))) ?_
  refine pop_nil _ ?_
  refine pop_field 0 fld84_0 b1 0 ?_
  refine rl one22 hL3 0 0 c0_1.v ?_
  refine pop_len c0_1 _ _ sli22 ?_
  refine pop_leq .i64 (w64 (c0_2 + 1)) (c0_1.n : Int) ?_
  refine condM_b (fun hb2 => ?_) (fun hb2 => ?_)
  ·have H := H.1 hb2
   have H := H  h3  (Fr.old (Fr.r (In []) _) hf2) hL3
   exact H
  have H := H.2 hb2
  refine pop_nil _ ?_
  refine pop_field 2 fld84_2 b1 0 ?_
  refine rl one82 hL3 0 2 (Value.int .u64 (IntKind.wrap .u64 ((IntKind.wrap .u64 ((IntKind.wrap .u64 (c0_3 * 6364136223846793005)) + s39)) + 1442695040888963407))) ?_
  refine H.mono fun r3 H => ?_
  obtain ⟨s59, rfl, H⟩ := H
  refine H.mono fun r4 H => ?_
  obtain ⟨s60, rfl, H⟩ := H
  have H := H  h3  (Fr.old (Fr.r (In []) _) hf2) hL3
  refine H.mono fun r5 H => ?_
  obtain ⟨s61, rfl, H⟩ := H
  exact H
def u123 (P : Program) (a0_1 : Int) (b1_1 : Int) (h : Heap) (K : Value -> Heap -> Prop) : Prop :=
 ((decide (b1_1 < a0_1)) = true ->
 K (VI a0_1) h) /\
 ((decide (b1_1 < a0_1)) = false ->
 K (VI b1_1) h)
theorem v123 (a0_1 : Int) (b1_1 : Int) (h : Heap) (K : Value -> Heap -> Prop) (H : u123 Tryz.prog a0_1 b1_1 h K) : callM Tryz.prog 123 #[(VI a0_1), (VI b1_1)] h K := by
  refine c123 (VI a0_1) (VI b1_1) h K ?_
  unfold u123 at H
  unfold t123
  have hL : Vars h [] := .nil
  refine pop_gtr .i64 a0_1 b1_1 ?_
  refine condM_b (fun hb1 => ?_) (fun hb1 => ?_)
  ·exact H.1 hb1
  exact H.2 hb1
def u124 (P : Program) (s0_1 : Sl) (f1_1 : Value) (h : Heap) (K : Value -> Heap -> Prop) : Prop :=
 ∃ J1 : Nat -> Int -> Heap -> Prop, (∃ n0 : Nat, J1 n0 0 h) /\
 ∀ (n1 : Nat) (s8 : Int) (h1 : Heap), J1 n1 s8 h1 -> Vars h1 [] ->
 ((decide (s8 < (s0_1.n : Int))) = true ->
 InB s0_1 s8 /\
 ∃ s15 : Int, hcell h1 (Sl.at s0_1 s8 1) = some (VI s15) /\
 callV P f1_1 [(VI s15)] h1 fun r1 h2 => ∃ s16 : Bool, r1 = (VB s16) /\ Vars h2 [] /\
 (s16 = true ->
 K (VI s8) h2) /\
 (s16 = false ->
 ∃ m : Nat, m < n1 /\ J1 m (w64 (s8 + 1)) h2)) /\
 ((decide (s8 < (s0_1.n : Int))) = false ->
 K (VI (-1)) h1)
theorem v124 (s0_1 : Sl) (f1_1 : Value) (h : Heap) (K : Value -> Heap -> Prop) (H : u124 Tryz.prog s0_1 f1_1 h K) : callM Tryz.prog 124 #[s0_1.v, f1_1] h K := by
  refine c124 s0_1.v f1_1 h K ?_
  unfold u124 at H
  unfold t124
  have hL : Vars h [] := .nil
  refine pop_len s0_1 _ _ sli33 ?_
  obtain ⟨J1, ⟨n2, h0_1⟩, HB1⟩ := H
  refine loop_intro (J := fun (n : Nat) (vs : List Value) (h' : Heap) => ∃ s8 : Int, vs = [(VI s8)] /\ J1 n s8 h' /\ Vars h' []) n2 ⟨0, rfl, h0_1, hL⟩ ?_
  intro I1 mu1 hI1 junk1 tv1 h1 hi1
  obtain ⟨n1, ⟨s8, hv, hJ1, hL1⟩, hn1⟩ := hI1 _ _ hi1
  cases hv
  have H := HB1 n1 s8 h1 hJ1 hL1
  refine pop_lss .i64 s8 (s0_1.n : Int) ?_
  refine condM_b (fun hb1 => ?_) (fun hb1 => ?_)
  rotate_left
  ·exact H.2 hb1
  have H := H.1 hb1
  obtain ⟨hi2, H⟩ := H
  refine pop_index sli33 siz3 .i64 s0_1 s8 hi2 ?_
  obtain ⟨s15, hc1, H⟩ := H
  refine rop_one one3 (VI s15) hc1 ?_
  refine H.mono fun r1 h2 H => ?_
  obtain ⟨s16, rfl, hL2, H⟩ := H
  refine condM_b (fun hb2 => ?_) (fun hb2 => ?_)
  ·exact H.1 hb2
  have H := H.2 hb2
  refine pop_add .i64 s8 1 ?_
  obtain ⟨m_1, hm_1, H⟩ := H
  exact hn1 _ _ ⟨m_1, hm_1, (w64 (s8 + 1)), rfl, H, hL2⟩
def u129 (P : Program) (n0_1 : Int) (both1_1 : Bool) (h : Heap) (K : Value -> Heap -> Prop) : Prop :=
 ∀ (b1 : Nat) (b2 : Nat) (h3 : Heap), h.size ≤ b1 -> h.size ≤ b2 -> Fr (In []) h h3 -> Vars h3 [(b2, [nilSl.v]), (b1, [nilSl.v])] ->
 ∃ J1 : Nat -> Int -> Sl -> Heap -> Prop, (∃ n0 : Nat, J1 n0 0 nilSl h3) /\
 ∀ (n1 : Nat) (p6_1 : Int) (y1 : Sl) (h4 : Heap), J1 n1 p6_1 y1 h4 -> Vars h4 [(b2, [y1.v]), (b1, [nilSl.v])] ->
 ((decide (p6_1 < n0_1)) = true ->
 n0_1 ≠ 0 /\
 eop P (Instr.buildSlice 33 1 #[(0, (VI (Int.tmod (w64 (p6_1 + 1)) n0_1)))]) h4 fun r1 h5 => ∃ s18 : Sl, r1 = s18.v /\ Vars h5 [(b2, [y1.v]), (b1, [nilSl.v])] /\
 ∃ J2 : Sl -> Heap -> Prop, ((both1_1 = true ->
 n0_1 ≠ 0 /\
 eop P (Instr.buildSlice 33 1 #[(0, (VI (Int.tmod (w64 ((w64 (p6_1 + n0_1)) - 1)) n0_1)))]) h5 fun r2 h6 => ∃ s27 : Sl, r2 = s27.v /\ Vars h6 [(b2, [y1.v]), (b1, [nilSl.v])] /\
 eop P (appS 33 33 33 s18.v s27.v) h6 fun r3 h7 => ∃ s28 : Sl, r3 = s28.v /\ Vars h7 [(b2, [y1.v]), (b1, [nilSl.v])] /\
 J2 s28 h7) /\
 (both1_1 = false ->
 J2 s18 h5)) /\
 ∀ (y2 : Sl) (h8 : Heap), J2 y2 h8 -> Vars h8 [(b2, [y1.v]), (b1, [nilSl.v])] ->
 eop P (Instr.buildSlice 24 1 #[(0, y2.v)]) h8 fun r4 h9 => ∃ s32 : Sl, r4 = s32.v /\ Vars h9 [(b2, [y1.v]), (b1, [nilSl.v])] /\
 eop P (appS 24 24 24 y1.v s32.v) h9 fun r5 h10 => ∃ s33 : Sl, r5 = s33.v /\ Vars h10 [(b2, [y1.v]), (b1, [nilSl.v])] /\
 ∀ (h11 : Heap), Fr (In [b2]) h10 h11 -> Vars h11 [(b2, [s33.v]), (b1, [nilSl.v])] ->
 ∃ m : Nat, m < n1 /\ J1 m (w64 (p6_1 + 1)) s33 h11) /\
 ((decide (p6_1 < n0_1)) = false ->
 ∀ (h12 : Heap), Fr (In [b1]) h4 h12 -> Vars h12 [(b2, [y1.v]), (b1, [y1.v])] ->
 K (.agg #[y1.v]) h12)
theorem v129 (n0_1 : Int) (both1_1 : Bool) (h : Heap) (K : Value -> Heap -> Prop) (H : u129 Tryz.prog n0_1 both1_1 h K) : callM Tryz.prog 129 #[(VI n0_1), (VB both1_1)] h K := by
  refine c129 (VI n0_1) (VB both1_1) h K ?_
  unfold u129 at H
  unfold t129
  have hL : Vars h [] := .nil
  refine eop_alloc 26 zer26 rfl hL (fun b1 h1 hb1 hf1 hL1 => ?_)
  refine pop.mk' (v := (Value.agg #[nilSl.v])) (fun w => by kernel_rfl) ?_
  refine eop_alloc 26 zer26 rfl hL1 (fun b2 h2 hb2 hf2 hL2 => ?_)
  refine ul siz26 hL2 0 0 [nilSl.v] [(b2, [nilSl.v]), (b1, [nilSl.v])] (fun h3 hf3 hL3 => ?_)
  have H := H b1 b2 h3 hb1 (Nat.le_trans (Fr.size (Fr.no' (Fr.r (In []) _) hf1)) hb2) (Fr.new (Fr.no' (Fr.no' (Fr.r (In []) _) hf1) hf2) (Nat.le_trans (Fr.size (Fr.no' (Fr.r (In []) _) hf1)) hb2) hf3) hL3
  obtain ⟨J1, ⟨n2, h0_1⟩, HB2⟩ := H
  refine loop_intro (J := fun (n : Nat) (vs : List Value) (h' : Heap) => ∃ p6_1 : Int, ∃ y1 : Sl, vs = [(VI p6_1)] /\ J1 n p6_1 y1 h' /\ Vars h' [(b2, [y1.v]), (b1, [nilSl.v])]) n2 ⟨0, nilSl, rfl, h0_1, hL3⟩ ?_
  intro I1 mu1 hI1 junk1 tv2 h4 hi1
  obtain ⟨n1, ⟨p6_1, y1, hv, hJ1, hL4⟩, hn1⟩ := hI1 _ _ hi1
  cases hv
  have H := HB2 n1 p6_1 y1 h4 hJ1 hL4
  refine pop_lss .i64 p6_1 n0_1 ?_
  refine condM_b (fun hb3 => ?_) (fun hb3 => ?_)
  rotate_left
  ·have H := H.2 hb3
   refine ra agg26 hL4 0 0 [y1.v] ?_
   refine ul siz26 hL4 1 0 [y1.v] [(b2, [y1.v]), (b1, [y1.v])] (fun h12 hf5 hL12 => ?_)
   refine ra agg26 hL12 1 0 [y1.v] ?_
   have H := H  h12  (Fr.old (Fr.r (In []) _) hf5) hL12
   exact H
  have H := H.1 hb3
  refine pop_add .i64 p6_1 1 ?_
  obtain ⟨hz_1, H⟩ := H
  refine pop_rem .i64 (w64 (p6_1 + 1)) n0_1 hz_1 ?_
  refine H.mono fun r1 h5 H => ?_
  obtain ⟨s18, rfl, hL5, H⟩ := H
  obtain ⟨J2, H, HB1⟩ := H
  refine ⟨fun (vs : List Value) (h' : Heap) => ∃ y2 : Sl, vs = [y2.v] /\ J2 y2 h' /\ Vars h' [(b2, [y1.v]), (b1, [nilSl.v])], ?_, ?_⟩
  ·refine condM_b (fun hb4 => ?_) (fun hb4 => ?_)
   rotate_left
   ·have H := H.2 hb4
    exact ⟨s18, rfl, H, hL5⟩
   have H := H.1 hb4
   refine pop_add .i64 p6_1 n0_1 ?_
   refine pop_sub .i64 (w64 (p6_1 + n0_1)) 1 ?_
   obtain ⟨hz_2, H⟩ := H
   refine pop_rem .i64 (w64 ((w64 (p6_1 + n0_1)) - 1)) n0_1 hz_2 ?_
   refine H.mono fun r2 h6 H => ?_
   obtain ⟨s27, rfl, hL6, H⟩ := H
   refine H.mono fun r3 h7 H => ?_
   obtain ⟨s28, rfl, hL7, H⟩ := H
   exact ⟨s28, rfl, H, hL7⟩
  intro junk2 tv1 h8
  rintro ⟨y2, hv, hJ2, hL8⟩
  cases hv
  have H := HB1 y2 h8 hJ2 hL8
  refine pop_field 0 fld26_0 b2 0 ?_
  refine rl one24 hL8 0 0 y1.v ?_
  refine H.mono fun r4 h9 H => ?_
  obtain ⟨s32, rfl, hL9, H⟩ := H
  refine H.mono fun r5 h10 H => ?_
  obtain ⟨s33, rfl, hL10, H⟩ := H
  refine pop_field 0 fld26_0 b2 0 ?_
  refine ul siz24 hL10 0 0 [s33.v] [(b2, [s33.v]), (b1, [nilSl.v])] (fun h11 hf4 hL11 => ?_)
  refine pop_add .i64 p6_1 1 ?_
  have H := H  h11  (Fr.old (Fr.r (In []) _) hf4) hL11
  obtain ⟨m_1, hm_1, H⟩ := H
  exact hn1 _ _ ⟨m_1, hm_1, (w64 (p6_1 + 1)), s33, rfl, H, hL11⟩
def u130 (P : Program) (b1 : Nat) (c0_1 : Sl) (c0_2 : Int) (c0_3 : Int) (n1_1 : Int) (h : Heap) (K : Value -> Heap -> Prop) : Prop :=
 ∃ J1 : Nat -> Sl -> Int -> Heap -> Prop, (∃ n0 : Nat, J1 n0 nilSl 0 h) /\
 ∀ (n1 : Nat) (out5_1 : Sl) (p6_1 : Int) (h1 : Heap), J1 n1 out5_1 p6_1 h1 -> Vars h1 [(b1, [c0_1.v, (VI c0_2), (Value.int .u64 c0_3)])] ->
 ((decide (p6_1 < n1_1)) = true ->
 eop P (Instr.buildSlice 33 1 #[(0, (VI p6_1))]) h1 fun r1 h2 => ∃ s17 : Sl, r1 = s17.v /\ Vars h2 [(b1, [c0_1.v, (VI c0_2), (Value.int .u64 c0_3)])] /\
 eop P (appS 33 33 33 out5_1.v s17.v) h2 fun r2 h3 => ∃ s18 : Sl, r2 = s18.v /\ Vars h3 [(b1, [c0_1.v, (VI c0_2), (Value.int .u64 c0_3)])] /\
 ∃ m : Nat, m < n1 /\ J1 m s18 (w64 (p6_1 + 1)) h3) /\
 ((decide (p6_1 < n1_1)) = false ->
 ∃ J2 : Nat -> Int -> Sl -> Int -> Int -> Heap -> Prop, (∃ n0 : Nat, J2 n0 0 c0_1 c0_2 c0_3 h1) /\
 ∀ (n2 : Nat) (s21 : Int) (y1 : Sl) (y2 : Int) (y3 : Int) (h4 : Heap), J2 n2 s21 y1 y2 y3 h4 -> Vars h4 [(b1, [y1.v, (VI y2), (Value.int .u64 y3)])] ->
 ((decide (s21 < (out5_1.n : Int))) = true ->
 callM P 70 #[(VP b1 0), (VI n1_1)] h4 fun r3 h5 => ∃ y4 : Sl, ∃ y5 : Int, ∃ y6 : Int, ∃ s26 : Int, r3 = (VI s26) /\ Vars h5 [(b1, [y4.v, (VI y5), (Value.int .u64 y6)])] /\
 InB out5_1 s21 /\
 ∃ s30 : Int, hcell h5 (Sl.at out5_1 s21 1) = some (VI s30) /\
 InB out5_1 s26 /\
 ∃ s36 : Int, hcell h5 (Sl.at out5_1 s26 1) = some (VI s36) /\
 InB out5_1 s21 /\
 Writable h5 (Sl.at out5_1 s21 1) /\ Vars (hset h5 (Sl.at out5_1 s21 1) (VI s36)) [(b1, [y4.v, (VI y5), (Value.int .u64 y6)])] /\
 ∀ h6 : Heap, h6 = hset h5 (Sl.at out5_1 s21 1) (VI s36) -> Vars h6 [(b1, [y4.v, (VI y5), (Value.int .u64 y6)])] ->
 InB out5_1 s26 /\
 Writable h6 (Sl.at out5_1 s26 1) /\ Vars (hset h6 (Sl.at out5_1 s26 1) (VI s30)) [(b1, [y4.v, (VI y5), (Value.int .u64 y6)])] /\
 ∀ h7 : Heap, h7 = hset h6 (Sl.at out5_1 s26 1) (VI s30) -> Vars h7 [(b1, [y4.v, (VI y5), (Value.int .u64 y6)])] ->
 ∃ m : Nat, m < n2 /\ J2 m (w64 (s21 + 1)) y4 y5 y6 h7) /\
 ((decide (s21 < (out5_1.n : Int))) = false ->
 K out5_1.v h4))
theorem v130 (b1 : Nat) (c0_1 : Sl) (c0_2 : Int) (c0_3 : Int) (n1_1 : Int) (h : Heap) (K : Value -> Heap -> Prop) (hL : Vars h [(b1, [c0_1.v, (VI c0_2), (Value.int .u64 c0_3)])]) (H : u130 Tryz.prog b1 c0_1 c0_2 c0_3 n1_1 h K) : callM Tryz.prog 130 #[(VP b1 0), (VI n1_1)] h K := by
  refine c130 (VP b1 0) (VI n1_1) h K ?_
  unfold u130 at H
  unfold t130
  obtain ⟨J1, ⟨n4, h0_2⟩, HB2⟩ := H
  refine loop_intro (J := fun (n : Nat) (vs : List Value) (h' : Heap) => ∃ out5_1 : Sl, ∃ p6_1 : Int, vs = [out5_1.v, (VI p6_1)] /\ J1 n out5_1 p6_1 h' /\ Vars h' [(b1, [c0_1.v, (VI c0_2), (Value.int .u64 c0_3)])]) n4 ⟨nilSl, 0, rfl, h0_2, hL⟩ ?_
  intro I2 mu2 hI2 junk1 tv2 tv3 h1 hi1
  obtain ⟨n1, ⟨out5_1, p6_1, hv, hJ1, hL1⟩, hn1⟩ := hI2 _ _ hi1
  cases hv
  have H := HB2 n1 out5_1 p6_1 h1 hJ1 hL1
  refine pop_lss .i64 p6_1 n1_1 ?_
  refine condM_b (fun hb1 => ?_) (fun hb1 => ?_)
  ·have H := H.1 hb1
   refine H.mono fun r1 h2 H => ?_
   obtain ⟨s17, rfl, hL2, H⟩ := H
   refine H.mono fun r2 h3 H => ?_
   obtain ⟨s18, rfl, hL3, H⟩ := H
   refine pop_add .i64 p6_1 1 ?_
   obtain ⟨m_1, hm_1, H⟩ := H
   exact hn1 _ _ ⟨m_1, hm_1, s18, (w64 (p6_1 + 1)), rfl, H, hL3⟩
  have H := H.2 hb1
  refine pop_len out5_1 _ _ sli33 ?_
  obtain ⟨J2, ⟨n3, h0_1⟩, HB1⟩ := H
  refine loop_intro (J := fun (n : Nat) (vs : List Value) (h' : Heap) => ∃ s21 : Int, ∃ y1 : Sl, ∃ y2 : Int, ∃ y3 : Int, vs = [(VI s21)] /\ J2 n s21 y1 y2 y3 h' /\ Vars h' [(b1, [y1.v, (VI y2), (Value.int .u64 y3)])]) n3 ⟨0, c0_1, c0_2, c0_3, rfl, h0_1, hL1⟩ ?_
  intro I1 mu1 hI1 junk2 tv1 h4 hi2
  obtain ⟨n2, ⟨s21, y1, y2, y3, hv, hJ2, hL4⟩, hn2⟩ := hI1 _ _ hi2
  cases hv
  have H := HB1 n2 s21 y1 y2 y3 h4 hJ2 hL4
  refine pop_lss .i64 s21 (out5_1.n : Int) ?_
  refine condM_b (fun hb2 => ?_) (fun hb2 => ?_)
  rotate_left
  ·exact H.2 hb2
  have H := H.1 hb2
  refine H.mono fun r3 h5 H => ?_
  obtain ⟨y4, y5, y6, s26, rfl, hL5, H⟩ := H
  obtain ⟨hi3, H⟩ := H
  refine pop_index sli33 siz3 .i64 out5_1 s21 hi3 ?_
  obtain ⟨s30, hc2, H⟩ := H
  refine rop_one one3 (VI s30) hc2 ?_
  obtain ⟨hi4, H⟩ := H
  refine pop_index sli33 siz3 .i64 out5_1 s26 hi4 ?_
  obtain ⟨s36, hc1, H⟩ := H
  refine rop_one one3 (VI s36) hc1 ?_
  obtain ⟨hi5, H⟩ := H
  refine pop_index sli33 siz3 .i64 out5_1 s21 hi5 ?_
  obtain ⟨hw_1, hL6, H⟩ := H
  refine uop_cell (v := (VI s36)) siz3 hw_1 rfl (fun h6 he_1 => ?_)
  rw [← he_1] at hL6
  have H := H h6 he_1 hL6
  obtain ⟨hi6, H⟩ := H
  refine pop_index sli33 siz3 .i64 out5_1 s26 hi6 ?_
  obtain ⟨hw_2, hL7, H⟩ := H
  refine uop_cell (v := (VI s30)) siz3 hw_2 rfl (fun h7 he_2 => ?_)
  rw [← he_2] at hL7
  have H := H h7 he_2 hL7
  refine pop_add .i64 s21 1 ?_
  obtain ⟨m_2, hm_2, H⟩ := H
  exact hn2 _ _ ⟨m_2, hm_2, (w64 (s21 + 1)), y4, y5, y6, rfl, H, hL7⟩
def u134 (P : Program) (q0_1 : Int) (b1 : Nat) (s1 : Int) (h : Heap) (K : Value -> Heap -> Prop) : Prop :=
 callM P 72 #[(VI q0_1), (VI 0), (VI (w64 (s1 - 1)))] h fun r1 h1 => ∃ s7 : Bool, r1 = (VB s7) /\ Vars h1 [(b1, [(VI s1)])] /\
 K (VB (!s7)) h1
theorem v134 (q0_1 : Int) (b1 : Nat) (s1 : Int) (h : Heap) (K : Value -> Heap -> Prop) (hL : Vars h [(b1, [(VI s1)])]) (H : u134 Tryz.prog q0_1 b1 s1 h K) : callM Tryz.prog 134 #[(VI q0_1), (VP b1 0)] h K := by
  refine c134 (VI q0_1) (VP b1 0) h K ?_
  unfold u134 at H
  unfold t134
  refine rl one3 hL 0 0 (VI s1) ?_
  refine pop_sub .i64 s1 1 ?_
  refine H.mono fun r1 h1 H => ?_
  obtain ⟨s7, rfl, hL1, H⟩ := H
  refine pop_not s7 ?_
  exact H
def u137 (P : Program) (s0_1 : Sl) (n1_1 : Int) (h : Heap) (K : Value -> Heap -> Prop) : Prop :=
 ∃ J1 : Heap -> Prop, (((decide (n1_1 < 0)) = true ->
 pop P (Instr.makeInterface 9 (Value.string { data := #[99, 97, 110, 110, 111, 116, 32, 98, 101, 32, 110, 101, 103, 97, 116, 105, 118, 101] })) fun r1 => ∃ s7 : Value, r1 = s7 /\ 
 False) /\
 ((decide (n1_1 < 0)) = false ->
 J1  h)) /\
 ∀ (h1 : Heap), J1  h1 -> Vars h1 [] ->
 pop P (Builtin.cap_ #[33] 3 #[s0_1.v]) fun r2 => ∃ s10 : Int, r2 = (VI s10) /\ 
 ((decide (0 < (w64 (n1_1 - (w64 (s10 - (s0_1.n : Int))))))) = true ->
 pop P (Builtin.cap_ #[33] 3 #[s0_1.v]) fun r3 => ∃ s19 : Int, r3 = (VI s19) /\ 
 pop P (Instr.sliceAt 33 s0_1.v none (some (VI s19)) none) fun r4 => ∃ s20 : Sl, r4 = s20.v /\ 
 eop P (appS 33 3 33 s20.v (VI (w64 (n1_1 - (w64 (s10 - (s0_1.n : Int))))))) h1 fun r5 h2 => ∃ s22 : Sl, r5 = s22.v /\ Vars h2 [] /\
 pop P (Instr.sliceAt 33 s22.v none (some (VI (s0_1.n : Int))) none) fun r6 => ∃ s25 : Sl, r6 = s25.v /\ 
 K s25.v h2) /\
 ((decide (0 < (w64 (n1_1 - (w64 (s10 - (s0_1.n : Int))))))) = false ->
 K s0_1.v h1)
theorem v137 (s0_1 : Sl) (n1_1 : Int) (h : Heap) (K : Value -> Heap -> Prop) (H : u137 Tryz.prog s0_1 n1_1 h K) : callM Tryz.prog 137 #[s0_1.v, (VI n1_1)] h K := by
  refine c137 s0_1.v (VI n1_1) h K ?_
  unfold u137 at H
  unfold t137
  have hL : Vars h [] := .nil
  obtain ⟨J1, H, HB1⟩ := H
  refine ⟨fun (vs : List Value) (h' : Heap) => vs = [] /\ J1  h' /\ Vars h' [], ?_, ?_⟩
  ·refine pop_lss .i64 n1_1 0 ?_
   refine condM_b (fun hb1 => ?_) (fun hb1 => ?_)
   rotate_left
   ·have H := H.2 hb1
    exact ⟨rfl, H, hL⟩
   have H := H.1 hb1
   refine H.mono fun r1 H => ?_
   obtain ⟨s7, rfl, H⟩ := H
   exact H.elim
  intro junk1  h1
  rintro ⟨hv, hJ1, hL1⟩
  have H := HB1  h1 hJ1 hL1
  refine H.mono fun r2 H => ?_
  obtain ⟨s10, rfl, H⟩ := H
  refine pop_len s0_1 _ _ sli33 ?_
  refine pop_sub .i64 s10 (s0_1.n : Int) ?_
  refine pop_sub .i64 n1_1 (w64 (s10 - (s0_1.n : Int))) ?_
  refine pop_gtr .i64 (w64 (n1_1 - (w64 (s10 - (s0_1.n : Int))))) 0 ?_
  refine condM_b (fun hb2 => ?_) (fun hb2 => ?_)
  rotate_left
  ·exact H.2 hb2
  have H := H.1 hb2
  refine H.mono fun r3 H => ?_
  obtain ⟨s19, rfl, H⟩ := H
  refine H.mono fun r4 H => ?_
  obtain ⟨s20, rfl, H⟩ := H
  refine H.mono fun r5 h2 H => ?_
  obtain ⟨s22, rfl, hL2, H⟩ := H
  refine pop_len s0_1 _ _ sli33 ?_
  refine H.mono fun r6 H => ?_
  obtain ⟨s25, rfl, H⟩ := H
  exact H
def u143 (P : Program) (g0_1 : Sl) (rotors1_1 : Sl) (p2_1 : Int) (h : Heap) (K : Value -> Heap -> Prop) : Prop :=
 InB g0_1 p2_1 /\
 ∀ (b1 : Nat) (h1 : Heap), h.size ≤ b1 -> Fr (In []) h h1 -> Vars h1 [(b1, [g0_1.v])] ->
 ∃ s11 : Sl, hcell h1 (Sl.at g0_1 p2_1 1) = some s11.v /\
 ((decide ((s11.n : Int) = 0)) = true ->
 K (VI (-1)) h1) /\
 ((decide ((s11.n : Int) = 0)) = false ->
 InB g0_1 p2_1 /\
 ∃ s18 : Sl, hcell h1 (Sl.at g0_1 p2_1 1) = some s18.v /\
 InB rotors1_1 p2_1 /\
 ∃ s22 : Int, hcell h1 (Sl.at rotors1_1 p2_1 1) = some (VI s22) /\
 InB s18 s22 /\
 ∃ s24 : Int, hcell h1 (Sl.at s18 s22 1) = some (VI s24) /\
 K (VI s24) h1)
theorem v143 (g0_1 : Sl) (rotors1_1 : Sl) (p2_1 : Int) (h : Heap) (K : Value -> Heap -> Prop) (H : u143 Tryz.prog g0_1 rotors1_1 p2_1 h K) : callM Tryz.prog 143 #[(Value.agg #[g0_1.v]), rotors1_1.v, (VI p2_1)] h K := by
  refine c143 (Value.agg #[g0_1.v]) rotors1_1.v (VI p2_1) h K ?_
  unfold u143 at H
  unfold t143
  have hL : Vars h [] := .nil
  refine eop_box 26 (Value.agg #[g0_1.v]) rfl hL (fun b1 h1 hb1 hf1 hL1 => ?_)
  refine pop_field 0 fld26_0 b1 0 ?_
  refine rl one24 hL1 0 0 g0_1.v ?_
  obtain ⟨hi1, H⟩ := H
  refine pop_index sli24 siz33 .i64 g0_1 p2_1 hi1 ?_
  have H := H b1 h1 hb1 (Fr.no' (Fr.r (In []) _) hf1) hL1
  obtain ⟨s11, hc4, H⟩ := H
  refine rop_one one33 s11.v hc4 ?_
  refine pop_len s11 _ _ sli33 ?_
  refine pop_ieq .i64 _ _ (s11.n : Int) 0 ?_
  refine condM_b (fun hb2 => ?_) (fun hb2 => ?_)
  ·exact H.1 hb2
  have H := H.2 hb2
  refine pop_field 0 fld26_0 b1 0 ?_
  refine rl one24 hL1 0 0 g0_1.v ?_
  obtain ⟨hi2, H⟩ := H
  refine pop_index sli24 siz33 .i64 g0_1 p2_1 hi2 ?_
  obtain ⟨s18, hc3, H⟩ := H
  refine rop_one one33 s18.v hc3 ?_
  obtain ⟨hi3, H⟩ := H
  refine pop_index sli33 siz3 .i64 rotors1_1 p2_1 hi3 ?_
  obtain ⟨s22, hc2, H⟩ := H
  refine rop_one one3 (VI s22) hc2 ?_
  obtain ⟨hi4, H⟩ := H
  refine pop_index sli33 siz3 .i64 s18 s22 hi4 ?_
  obtain ⟨s24, hc1, H⟩ := H
  refine rop_one one3 (VI s24) hc1 ?_
  exact H
def u144 (P : Program) (b1 : Nat) (c0_1 : Sl) (c0_2 : Int) (c0_3 : Int) (most1_1 : Int) (h : Heap) (K : Value -> Heap -> Prop) : Prop :=
 ∀ (b2 : Nat) (h1 : Heap), h.size ≤ b2 -> Fr (In []) h h1 -> Vars h1 [(b2, [nilSl.v]), (b1, [c0_1.v, (VI c0_2), (Value.int .u64 c0_3)])] ->
 callM P 70 #[(VP b1 0), (VI most1_1)] h1 fun r1 h2 => ∃ y1 : Sl, ∃ y2 : Int, ∃ y3 : Int, ∃ s13 : Int, r1 = (VI s13) /\ Vars h2 [(b2, [nilSl.v]), (b1, [y1.v, (VI y2), (Value.int .u64 y3)])] /\
 callM P 68 #[(VP b1 0), (VI 4)] h2 fun r2 h3 => ∃ y4 : Sl, ∃ y5 : Int, ∃ y6 : Int, ∃ s16 : Bool, r2 = (VB s16) /\ Vars h3 [(b2, [nilSl.v]), (b1, [y4.v, (VI y5), (Value.int .u64 y6)])] /\
 (s16 = true ->
 callM P 68 #[(VP b1 0), (VI 2)] h3 fun r3 h4 => ∃ y7 : Sl, ∃ y8 : Int, ∃ y9 : Int, ∃ s19 : Bool, r3 = (VB s19) /\ Vars h4 [(b2, [nilSl.v]), (b1, [y7.v, (VI y8), (Value.int .u64 y9)])] /\
 callM P 129 #[(VI (w64 (1 + s13))), (VB s19)] h4 fun r4 h5 => ∃ s20 : Sl, r4 = (.agg #[s20.v]) /\ Vars h5 [(b2, [nilSl.v]), (b1, [y7.v, (VI y8), (Value.int .u64 y9)])] /\
 ∀ (h6 : Heap), Fr (In [b2]) h5 h6 -> Vars h6 [(b2, [s20.v]), (b1, [y7.v, (VI y8), (Value.int .u64 y9)])] ->
 K (.agg #[s20.v]) h6) /\
 (s16 = false ->
 ∀ (b3 : Nat) (h8 : Heap), h3.size ≤ b3 -> Fr (In []) h3 h8 -> Vars h8 [(b3, [nilSl.v]), (b2, [nilSl.v]), (b1, [y4.v, (VI y5), (Value.int .u64 y6)])] ->
 ∃ J1 : Nat -> Int -> Sl -> Sl -> Int -> Int -> Heap -> Prop, (∃ n0 : Nat, J1 n0 0 nilSl y4 y5 y6 h8) /\
 ∀ (n1 : Nat) (p7_1 : Int) (y10 : Sl) (y11 : Sl) (y12 : Int) (y13 : Int) (h9 : Heap), J1 n1 p7_1 y10 y11 y12 y13 h9 -> Vars h9 [(b3, [y10.v]), (b2, [nilSl.v]), (b1, [y11.v, (VI y12), (Value.int .u64 y13)])] ->
 ((decide (p7_1 < (w64 (1 + s13)))) = true ->
 callM P 70 #[(VP b1 0), (VI 3)] h9 fun r5 h10 => ∃ y14 : Sl, ∃ y15 : Int, ∃ y16 : Int, ∃ s28 : Int, r5 = (VI s28) /\ Vars h10 [(b3, [y10.v]), (b2, [nilSl.v]), (b1, [y14.v, (VI y15), (Value.int .u64 y16)])] /\
 ∃ J2 : Nat -> Sl -> Int -> Sl -> Int -> Int -> Heap -> Prop, (∃ n0 : Nat, J2 n0 nilSl (w64 (1 + s28)) y14 y15 y16 h10) /\
 ∀ (n2 : Nat) (list8_1 : Sl) (k9_1 : Int) (y17 : Sl) (y18 : Int) (y19 : Int) (h11 : Heap), J2 n2 list8_1 k9_1 y17 y18 y19 h11 -> Vars h11 [(b3, [y10.v]), (b2, [nilSl.v]), (b1, [y17.v, (VI y18), (Value.int .u64 y19)])] ->
 ((decide (0 < k9_1)) = true ->
 callM P 70 #[(VP b1 0), (VI (w64 (1 + s13)))] h11 fun r6 h12 => ∃ y20 : Sl, ∃ y21 : Int, ∃ y22 : Int, ∃ s37 : Int, r6 = (VI s37) /\ Vars h12 [(b3, [y10.v]), (b2, [nilSl.v]), (b1, [y20.v, (VI y21), (Value.int .u64 y22)])] /\
 eop P (Instr.buildSlice 33 1 #[(0, (VI s37))]) h12 fun r7 h13 => ∃ s38 : Sl, r7 = s38.v /\ Vars h13 [(b3, [y10.v]), (b2, [nilSl.v]), (b1, [y20.v, (VI y21), (Value.int .u64 y22)])] /\
 eop P (appS 33 33 33 list8_1.v s38.v) h13 fun r8 h14 => ∃ s39 : Sl, r8 = s39.v /\ Vars h14 [(b3, [y10.v]), (b2, [nilSl.v]), (b1, [y20.v, (VI y21), (Value.int .u64 y22)])] /\
 ∃ m : Nat, m < n2 /\ J2 m s39 (w64 (k9_1 - 1)) y20 y21 y22 h14) /\
 ((decide (0 < k9_1)) = false ->
 ∃ J3 : Sl -> Sl -> Int -> Int -> Heap -> Prop, (callM P 68 #[(VP b1 0), (VI 8)] h11 fun r9 h15 => ∃ y27 : Sl, ∃ y28 : Int, ∃ y29 : Int, ∃ s41 : Bool, r9 = (VB s41) /\ Vars h15 [(b3, [y10.v]), (b2, [nilSl.v]), (b1, [y27.v, (VI y28), (Value.int .u64 y29)])] /\
 (s41 = true ->
 J3 nilSl y27 y28 y29 h15) /\
 (s41 = false ->
 J3 list8_1 y27 y28 y29 h15)) /\
 ∀ (y23 : Sl) (y24 : Sl) (y25 : Int) (y26 : Int) (h16 : Heap), J3 y23 y24 y25 y26 h16 -> Vars h16 [(b3, [y10.v]), (b2, [nilSl.v]), (b1, [y24.v, (VI y25), (Value.int .u64 y26)])] ->
 eop P (Instr.buildSlice 24 1 #[(0, y23.v)]) h16 fun r10 h17 => ∃ s45 : Sl, r10 = s45.v /\ Vars h17 [(b3, [y10.v]), (b2, [nilSl.v]), (b1, [y24.v, (VI y25), (Value.int .u64 y26)])] /\
 eop P (appS 24 24 24 y10.v s45.v) h17 fun r11 h18 => ∃ s46 : Sl, r11 = s46.v /\ Vars h18 [(b3, [y10.v]), (b2, [nilSl.v]), (b1, [y24.v, (VI y25), (Value.int .u64 y26)])] /\
 ∀ (h19 : Heap), Fr (In [b3]) h18 h19 -> Vars h19 [(b3, [s46.v]), (b2, [nilSl.v]), (b1, [y24.v, (VI y25), (Value.int .u64 y26)])] ->
 ∃ m : Nat, m < n1 /\ J1 m (w64 (p7_1 + 1)) s46 y24 y25 y26 h19)) /\
 ((decide (p7_1 < (w64 (1 + s13)))) = false ->
 callM P 68 #[(VP b1 0), (VI 2)] h9 fun r12 h20 => ∃ y30 : Sl, ∃ y31 : Int, ∃ y32 : Int, ∃ s49 : Bool, r12 = (VB s49) /\ Vars h20 [(b3, [y10.v]), (b2, [nilSl.v]), (b1, [y30.v, (VI y31), (Value.int .u64 y32)])] /\
 (s49 = true ->
 ∃ J4 : Nat -> Int -> Heap -> Prop, (∃ n0 : Nat, J4 n0 0 h20) /\
 ∀ (n4 : Nat) (s53 : Int) (h21 : Heap), J4 n4 s53 h21 -> Vars h21 [(b3, [y10.v]), (b2, [nilSl.v]), (b1, [y30.v, (VI y31), (Value.int .u64 y32)])] ->
 ((decide (s53 < (y10.n : Int))) = true ->
 InB y10 s53 /\
 ∃ s63 : Sl, hcell h21 (Sl.at y10 s53 1) = some s63.v /\
 (w64 (1 + s13)) ≠ 0 /\
 eop P (Instr.buildSlice 33 1 #[(0, (VI (Int.tmod (w64 (s53 + 1)) (w64 (1 + s13)))))]) h21 fun r13 h22 => ∃ s68 : Sl, r13 = s68.v /\ Vars h22 [(b3, [y10.v]), (b2, [nilSl.v]), (b1, [y30.v, (VI y31), (Value.int .u64 y32)])] /\
 hcell h22 (Sl.at y10 s53 1) = some s63.v /\
 eop P (appS 33 33 33 s63.v s68.v) h22 fun r14 h23 => ∃ s69 : Sl, r14 = s69.v /\ Vars h23 [(b3, [y10.v]), (b2, [nilSl.v]), (b1, [y30.v, (VI y31), (Value.int .u64 y32)])] /\
 InB y10 s53 /\
 Writable h23 (Sl.at y10 s53 1) /\ Vars (hset h23 (Sl.at y10 s53 1) s69.v) [(b3, [y10.v]), (b2, [nilSl.v]), (b1, [y30.v, (VI y31), (Value.int .u64 y32)])] /\
 ∀ h24 : Heap, h24 = hset h23 (Sl.at y10 s53 1) s69.v -> Vars h24 [(b3, [y10.v]), (b2, [nilSl.v]), (b1, [y30.v, (VI y31), (Value.int .u64 y32)])] ->
 ∃ m : Nat, m < n4 /\ J4 m (w64 (s53 + 1)) h24) /\
 ((decide (s53 < (y10.n : Int))) = false ->
 ∀ (h25 : Heap), Fr (In [b2]) h21 h25 -> Vars h25 [(b3, [y10.v]), (b2, [y10.v]), (b1, [y30.v, (VI y31), (Value.int .u64 y32)])] ->
 K (.agg #[y10.v]) h25)) /\
 (s49 = false ->
 ∀ (h26 : Heap), Fr (In [b2]) h20 h26 -> Vars h26 [(b3, [y10.v]), (b2, [y10.v]), (b1, [y30.v, (VI y31), (Value.int .u64 y32)])] ->
 K (.agg #[y10.v]) h26)))
theorem v144 (b1 : Nat) (c0_1 : Sl) (c0_2 : Int) (c0_3 : Int) (most1_1 : Int) (h : Heap) (K : Value -> Heap -> Prop) (hL : Vars h [(b1, [c0_1.v, (VI c0_2), (Value.int .u64 c0_3)])]) (H : u144 Tryz.prog b1 c0_1 c0_2 c0_3 most1_1 h K) : callM Tryz.prog 144 #[(VP b1 0), (VI most1_1)] h K := by
  refine c144 (VP b1 0) (VI most1_1) h K ?_
  unfold u144 at H
  unfold t144
  refine eop_alloc 26 zer26 rfl hL (fun b2 h1 hb1 hf1 hL1 => ?_)
  have H := H b2 h1 hb1 (Fr.no' (Fr.r (In []) _) hf1) hL1
  refine H.mono fun r1 h2 H => ?_
  obtain ⟨y1, y2, y3, s13, rfl, hL2, H⟩ := H
  refine pop_add .i64 1 s13 ?_
  refine H.mono fun r2 h3 H => ?_
  obtain ⟨y4, y5, y6, s16, rfl, hL3, H⟩ := H
  refine condM_b (fun hb2 => ?_) (fun hb2 => ?_)
  ·have H := H.1 hb2
   refine H.mono fun r3 h4 H => ?_
   obtain ⟨y7, y8, y9, s19, rfl, hL4, H⟩ := H
   refine H.mono fun r4 h5 H => ?_
   obtain ⟨s20, rfl, hL5, H⟩ := H
   refine ul siz26 hL5 0 0 [s20.v] [(b2, [s20.v]), (b1, [y7.v, (VI y8), (Value.int .u64 y9)])] (fun h6 hf2 hL6 => ?_)
   refine ra agg26 hL6 0 0 [s20.v] ?_
   have H := H  h6  (Fr.old (Fr.r (In []) _) hf2) hL6
   exact H
  have H := H.2 hb2
  refine pop.mk' (v := (Value.agg #[nilSl.v])) (fun w => by kernel_rfl) ?_
  refine eop_alloc 26 zer26 rfl hL3 (fun b3 h7 hb3 hf3 hL7 => ?_)
  refine ul siz26 hL7 0 0 [nilSl.v] [(b3, [nilSl.v]), (b2, [nilSl.v]), (b1, [y4.v, (VI y5), (Value.int .u64 y6)])] (fun h8 hf4 hL8 => ?_)
  have H := H b3 h8 hb3 (Fr.new (Fr.no' (Fr.r (In []) _) hf3) hb3 hf4) hL8
  obtain ⟨J1, ⟨n6, h0_3⟩, HB4⟩ := H
  refine loop_intro (J := fun (n : Nat) (vs : List Value) (h' : Heap) => ∃ p7_1 : Int, ∃ y10 : Sl, ∃ y11 : Sl, ∃ y12 : Int, ∃ y13 : Int, vs = [(VI p7_1)] /\ J1 n p7_1 y10 y11 y12 y13 h' /\ Vars h' [(b3, [y10.v]), (b2, [nilSl.v]), (b1, [y11.v, (VI y12), (Value.int .u64 y13)])]) n6 ⟨0, nilSl, y4, y5, y6, rfl, h0_3, hL8⟩ ?_
  intro I3 mu3 hI3 junk1 tv5 h9 hi1
  obtain ⟨n1, ⟨p7_1, y10, y11, y12, y13, hv, hJ1, hL9⟩, hn1⟩ := hI3 _ _ hi1
  cases hv
  have H := HB4 n1 p7_1 y10 y11 y12 y13 h9 hJ1 hL9
  refine pop_lss .i64 p7_1 (w64 (1 + s13)) ?_
  refine condM_b (fun hb4 => ?_) (fun hb4 => ?_)
  ·have H := H.1 hb4
   refine H.mono fun r5 h10 H => ?_
   obtain ⟨y14, y15, y16, s28, rfl, hL10, H⟩ := H
   refine pop_add .i64 1 s28 ?_
   obtain ⟨J2, ⟨n3, h0_1⟩, HB2⟩ := H
   refine loop_intro (J := fun (n : Nat) (vs : List Value) (h' : Heap) => ∃ list8_1 : Sl, ∃ k9_1 : Int, ∃ y17 : Sl, ∃ y18 : Int, ∃ y19 : Int, vs = [list8_1.v, (VI k9_1)] /\ J2 n list8_1 k9_1 y17 y18 y19 h' /\ Vars h' [(b3, [y10.v]), (b2, [nilSl.v]), (b1, [y17.v, (VI y18), (Value.int .u64 y19)])]) n3 ⟨nilSl, (w64 (1 + s28)), y14, y15, y16, rfl, h0_1, hL10⟩ ?_
   intro I1 mu1 hI1 junk2 tv2 tv3 h11 hi2
   obtain ⟨n2, ⟨list8_1, k9_1, y17, y18, y19, hv, hJ2, hL11⟩, hn2⟩ := hI1 _ _ hi2
   cases hv
   have H := HB2 n2 list8_1 k9_1 y17 y18 y19 h11 hJ2 hL11
   refine pop_gtr .i64 k9_1 0 ?_
   refine condM_b (fun hb5 => ?_) (fun hb5 => ?_)
   ·have H := H.1 hb5
    refine H.mono fun r6 h12 H => ?_
    obtain ⟨y20, y21, y22, s37, rfl, hL12, H⟩ := H
    refine H.mono fun r7 h13 H => ?_
    obtain ⟨s38, rfl, hL13, H⟩ := H
    refine H.mono fun r8 h14 H => ?_
    obtain ⟨s39, rfl, hL14, H⟩ := H
    refine pop_sub .i64 k9_1 1 ?_
    obtain ⟨m_1, hm_1, H⟩ := H
    exact hn2 _ _ ⟨m_1, hm_1, s39, (w64 (k9_1 - 1)), y20, y21, y22, rfl, H, hL14⟩
   have H := H.2 hb5
   obtain ⟨J3, H, HB1⟩ := H
   refine ⟨fun (vs : List Value) (h' : Heap) => ∃ y23 : Sl, ∃ y24 : Sl, ∃ y25 : Int, ∃ y26 : Int, vs = [y23.v] /\ J3 y23 y24 y25 y26 h' /\ Vars h' [(b3, [y10.v]), (b2, [nilSl.v]), (b1, [y24.v, (VI y25), (Value.int .u64 y26)])], ?_, ?_⟩
   ·refine H.mono fun r9 h15 H => ?_
    obtain ⟨y27, y28, y29, s41, rfl, hL15, H⟩ := H
    refine condM_b (fun hb6 => ?_) (fun hb6 => ?_)
    ·have H := H.1 hb6
     exact ⟨nilSl, y27, y28, y29, rfl, H, hL15⟩
    have H := H.2 hb6
    exact ⟨list8_1, y27, y28, y29, rfl, H, hL15⟩
   intro junk3 tv1 h16
   rintro ⟨y23, y24, y25, y26, hv, hJ3, hL16⟩
   cases hv
   have H := HB1 y23 y24 y25 y26 h16 hJ3 hL16
   refine pop_field 0 fld26_0 b3 0 ?_
   refine rl one24 hL16 0 0 y10.v ?_
   refine H.mono fun r10 h17 H => ?_
   obtain ⟨s45, rfl, hL17, H⟩ := H
   refine H.mono fun r11 h18 H => ?_
   obtain ⟨s46, rfl, hL18, H⟩ := H
   refine pop_field 0 fld26_0 b3 0 ?_
   refine ul siz24 hL18 0 0 [s46.v] [(b3, [s46.v]), (b2, [nilSl.v]), (b1, [y24.v, (VI y25), (Value.int .u64 y26)])] (fun h19 hf5 hL19 => ?_)
   refine pop_add .i64 p7_1 1 ?_
   have H := H  h19  (Fr.old (Fr.r (In []) _) hf5) hL19
   obtain ⟨m_2, hm_2, H⟩ := H
   exact hn1 _ _ ⟨m_2, hm_2, (w64 (p7_1 + 1)), s46, y24, y25, y26, rfl, H, hL19⟩
  have H := H.2 hb4
  refine H.mono fun r12 h20 H => ?_
  obtain ⟨y30, y31, y32, s49, rfl, hL20, H⟩ := H
  refine condM_b (fun hb7 => ?_) (fun hb7 => ?_)
  rotate_left
  ·have H := H.2 hb7
   refine ra agg26 hL20 0 0 [y10.v] ?_
   refine ul siz26 hL20 1 0 [y10.v] [(b3, [y10.v]), (b2, [y10.v]), (b1, [y30.v, (VI y31), (Value.int .u64 y32)])] (fun h26 hf7 hL26 => ?_)
   refine ra agg26 hL26 1 0 [y10.v] ?_
   have H := H  h26  (Fr.old (Fr.r (In []) _) hf7) hL26
   exact H
  have H := H.1 hb7
  refine pop_field 0 fld26_0 b3 0 ?_
  refine rl one24 hL20 0 0 y10.v ?_
  refine pop_len y10 _ _ sli24 ?_
  obtain ⟨J4, ⟨n5, h0_2⟩, HB3⟩ := H
  refine loop_intro (J := fun (n : Nat) (vs : List Value) (h' : Heap) => ∃ s53 : Int, vs = [(VI s53)] /\ J4 n s53 h' /\ Vars h' [(b3, [y10.v]), (b2, [nilSl.v]), (b1, [y30.v, (VI y31), (Value.int .u64 y32)])]) n5 ⟨0, rfl, h0_2, hL20⟩ ?_
  intro I2 mu2 hI2 junk4 tv4 h21 hi3
  obtain ⟨n4, ⟨s53, hv, hJ4, hL21⟩, hn3⟩ := hI2 _ _ hi3
  cases hv
  have H := HB3 n4 s53 h21 hJ4 hL21
  refine pop_lss .i64 s53 (y10.n : Int) ?_
  refine condM_b (fun hb8 => ?_) (fun hb8 => ?_)
  rotate_left
  ·have H := H.2 hb8
   refine ra agg26 hL21 0 0 [y10.v] ?_
   refine ul siz26 hL21 1 0 [y10.v] [(b3, [y10.v]), (b2, [y10.v]), (b1, [y30.v, (VI y31), (Value.int .u64 y32)])] (fun h25 hf6 hL25 => ?_)
   refine ra agg26 hL25 1 0 [y10.v] ?_
   have H := H  h25  (Fr.old (Fr.r (In []) _) hf6) hL25
   exact H
  have H := H.1 hb8
  refine pop_field 0 fld26_0 b3 0 ?_
  refine rl one24 hL21 0 0 y10.v ?_
  refine pop_field 0 fld26_0 b3 0 ?_
  refine rl one24 hL21 0 0 y10.v ?_
  obtain ⟨hi4, H⟩ := H
  refine pop_index sli24 siz33 .i64 y10 s53 hi4 ?_
  obtain ⟨s63, hc2, H⟩ := H
  refine rop_one one33 s63.v hc2 ?_
  refine pop_add .i64 s53 1 ?_
  obtain ⟨hz_1, H⟩ := H
  refine pop_rem .i64 (w64 (s53 + 1)) (w64 (1 + s13)) hz_1 ?_
  refine H.mono fun r13 h22 H => ?_
  obtain ⟨s68, rfl, hL22, H⟩ := H
  refine ⟨?_, ?_⟩
  ·exact still_one one33 H.1
  obtain ⟨hc1, H⟩ := H
  refine ⟨?_, ?_⟩
  ·exact still_loc one24 hL22 0 rfl 0 (v := y10.v) rfl
  refine ⟨?_, ?_⟩
  ·exact still_loc one24 hL22 0 rfl 0 (v := y10.v) rfl
  refine H.mono fun r14 h23 H => ?_
  obtain ⟨s69, rfl, hL23, H⟩ := H
  refine ⟨?_, ?_⟩
  ·exact still_loc one24 hL23 0 rfl 0 (v := y10.v) rfl
  refine ⟨?_, ?_⟩
  ·exact still_loc one24 hL23 0 rfl 0 (v := y10.v) rfl
  obtain ⟨hi5, H⟩ := H
  refine pop_index sli24 siz33 .i64 y10 s53 hi5 ?_
  obtain ⟨hw_1, hL24, H⟩ := H
  refine uop_cell (v := s69.v) siz33 hw_1 rfl (fun h24 he_1 => ?_)
  rw [← he_1] at hL24
  have H := H h24 he_1 hL24
  refine pop_add .i64 s53 1 ?_
  obtain ⟨m_3, hm_3, H⟩ := H
  exact hn3 _ _ ⟨m_3, hm_3, (w64 (s53 + 1)), rfl, H, hL24⟩
end Go.Proofs.YtkjkfjkapbpgiaaGreatDoor
