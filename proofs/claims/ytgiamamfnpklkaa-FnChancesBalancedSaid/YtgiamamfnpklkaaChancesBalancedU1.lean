import Derived.Test.YtgiamamfnpklkaaChancesBalancedU
import Derived.Test.YtgiamamfnpklkaaChancesBalancedT
import Derived.Test.YtgiamamfnpklkaaM2
set_option linter.unusedVariables false
set_option linter.unusedSimpArgs false
set_option maxRecDepth 100000
set_option maxHeartbeats 16000000
namespace Go.Proofs.Ytgiamamfnpklkaa
open Go Go.Mx
def u19 (P : Program) (g0_1 : Sl) (p1_1 : Int) (a2_1 : Int) (b3_1 : Int) (h : Heap) (K : Value -> Heap -> Prop) : Prop :=
 ∀ (b1 : Nat) (b2 : Nat) (h2 : Heap), h.size ≤ b1 -> h.size ≤ b2 -> Fr (In []) h h2 -> Vars h2 [(b2, [(VI 0), (VI 0)]), (b1, [g0_1.v])] ->
 callM P 61 #[(.agg #[g0_1.v]), (VI a2_1), (VI b3_1)] h2 fun r1 h3 => ∃ s22 : Bool, r1 = (VB s22) /\ Vars h3 [(b2, [(VI 0), (VI 0)]), (b1, [g0_1.v])] /\
 ((!s22) = true ->
 ∀ (h15 : Heap), Fr (In [b2]) h3 h15 -> Vars h15 [(b2, [(VI 0), (VI 0)]), (b1, [g0_1.v])] ->
 K (.tuple #[(.agg #[(VI 0), (VI 0)]), (VB false)]) h15) /\
 ((!s22) = false ->
 callM P 72 #[(.agg #[g0_1.v]), (VI p1_1)] h3 fun r2 h4 => ∃ s27 : Bool, r2 = (VB s27) /\ Vars h4 [(b2, [(VI 0), (VI 0)]), (b1, [g0_1.v])] /\
 ((!s27) = true ->
 ∀ (h5 : Heap), Fr (In [b2]) h4 h5 -> Vars h5 [(b2, [(VI 0), (VI 0)]), (b1, [g0_1.v])] ->
 K (.tuple #[(.agg #[(VI 0), (VI 0)]), (VB false)]) h5) /\
 ((!s27) = false ->
 callM P 76 #[(.agg #[g0_1.v]), (VI a2_1), (VI b3_1)] h4 fun r3 h6 => ∃ s35 : Sl, ∃ s35b : Sl, r3 = (.tuple #[s35.v, s35b.v]) /\ Vars h6 [(b2, [(VI 0), (VI 0)]), (b1, [g0_1.v])] /\
 ∃ J1 : Nat -> Sl -> Int -> Heap -> Prop, (∃ n0 : Nat, J1 n0 nilSl 0 h6) /\
 ∀ (n1 : Nat) (right12_1 : Sl) (s40 : Int) (h7 : Heap), J1 n1 right12_1 s40 h7 -> Vars h7 [(b2, [(VI 0), (VI 0)]), (b1, [g0_1.v])] ->
 ((decide (s40 < (s35.n : Int))) = true ->
 InB s35 s40 /\
 ∃ s43 : Int, hcell h7 (Sl.at s35 s40 1) = some (VI s43) /\
 InB g0_1 s43 /\
 ∃ s49 : Sl, hcell h7 (Sl.at g0_1 s43 1) = some s49.v /\
 eop P (Instr.buildSlice 37 1 #[(0, (VI (s49.n : Int)))]) h7 fun r4 h8 => ∃ s51 : Sl, r4 = s51.v /\ Vars h8 [(b2, [(VI 0), (VI 0)]), (b1, [g0_1.v])] /\
 eop P (appS 37 37 37 right12_1.v s51.v) h8 fun r5 h9 => ∃ s52 : Sl, r5 = s52.v /\ Vars h9 [(b2, [(VI 0), (VI 0)]), (b1, [g0_1.v])] /\
 ∃ m : Nat, m < n1 /\ J1 m s52 (w64 (s40 + 1)) h9) /\
 ((decide (s40 < (s35.n : Int))) = false ->
 callM P 77 #[s35b.v, right12_1.v] h7 fun r6 h10 => ∃ s57 : Sl, ∃ s57b : Int, r6 = (.tuple #[s57.v, (VI s57b)]) /\ Vars h10 [(b2, [(VI 0), (VI 0)]), (b1, [g0_1.v])] /\
 ∃ J2 : Nat -> Int -> Heap -> Prop, (∃ n0 : Nat, J2 n0 0 h10) /\
 ∀ (n2 : Nat) (s62 : Int) (h11 : Heap), J2 n2 s62 h11 -> Vars h11 [(b2, [(VI 0), (VI 0)]), (b1, [g0_1.v])] ->
 ((decide (s62 < (s35.n : Int))) = true ->
 InB s35 s62 /\
 ∃ s66 : Int, hcell h11 (Sl.at s35 s62 1) = some (VI s66) /\
 ((decide (s66 = p1_1)) = true ->
 InB s57 s62 /\
 ∃ s73 : Int, hcell h11 (Sl.at s57 s62 1) = some (VI s73) /\
 callM P 74 #[(VI s73), (VI s57b)] h11 fun r7 h12 => ∃ s75 : Int, ∃ s75b : Int, r7 = (.agg #[(VI s75), (VI s75b)]) /\ Vars h12 [(b2, [(VI 0), (VI 0)]), (b1, [g0_1.v])] /\
 ∀ (h13 : Heap), Fr (In [b2]) h12 h13 -> Vars h13 [(b2, [(VI s75), (VI s75b)]), (b1, [g0_1.v])] ->
 K (.tuple #[(.agg #[(VI s75), (VI s75b)]), (VB true)]) h13) /\
 ((decide (s66 = p1_1)) = false ->
 ∃ m : Nat, m < n2 /\ J2 m (w64 (s62 + 1)) h11)) /\
 ((decide (s62 < (s35.n : Int))) = false ->
 ∀ (h14 : Heap), Fr (In [b2]) h11 h14 -> Vars h14 [(b2, [(VI 0), (VI 1)]), (b1, [g0_1.v])] ->
 K (.tuple #[(.agg #[(VI 0), (VI 1)]), (VB true)]) h14))))
theorem v19 (g0_1 : Sl) (p1_1 : Int) (a2_1 : Int) (b3_1 : Int) (h : Heap) (K : Value -> Heap -> Prop) (H : u19 Try.prog g0_1 p1_1 a2_1 b3_1 h K) : callM Try.prog 19 #[(Value.agg #[g0_1.v]), (VI p1_1), (VI a2_1), (VI b3_1)] h K := by
  refine c19 (Value.agg #[g0_1.v]) (VI p1_1) (VI a2_1) (VI b3_1) h K ?_
  unfold u19 at H
  unfold t19
  have hL : Vars h [] := .nil
  refine eop_box 26 (Value.agg #[g0_1.v]) rfl hL (fun b1 h1 hb1 hf1 hL1 => ?_)
  refine eop_alloc 36 zer36 rfl hL1 (fun b2 h2 hb2 hf2 hL2 => ?_)
  refine ra agg26 hL2 1 0 [g0_1.v] ?_
  have H := H b1 b2 h2 hb1 (Nat.le_trans (Fr.size (Fr.no' (Fr.r (In []) _) hf1)) hb2) (Fr.no' (Fr.no' (Fr.r (In []) _) hf1) hf2) hL2
  refine H.mono fun r1 h3 H => ?_
  obtain ⟨s22, rfl, hL3, H⟩ := H
  refine pop_not s22 ?_
  refine guardM_sf (fun hb3 => ?_) (fun hb3 => ?_)
  rotate_left
  ·have H := H.1 hb3
   refine gm hb3 ?_
   refine gm hb3 ?_
   refine gm hb3 ?_
   refine pop_pickt' hb3 ?_
   refine condM_t ?_
   refine pop.mk' (v := (Value.agg #[(VI 0), (VI 0)])) (fun w => by kernel_rfl) ?_
   refine ul siz36 hL3 0 0 [(VI 0), (VI 0)] [(b2, [(VI 0), (VI 0)]), (b1, [g0_1.v])] (fun h15 hf6 hL15 => ?_)
   refine ra agg36 hL15 0 0 [(VI 0), (VI 0)] ?_
   have H := H  h15  (Fr.old (Fr.r (In []) _) hf6) hL15
   exact H
  have H := H.2 hb3
  refine ra agg26 hL3 1 0 [g0_1.v] ?_
  refine gy hb3 ?_
  refine gy hb3 ?_
  refine H.mono fun r2 h4 H => ?_
  obtain ⟨s27, rfl, hL4, H⟩ := H
  refine gy hb3 ?_
  refine pop_not s27 ?_
  refine pop_pickf' hb3 ?_
  refine condM_b (fun hb4 => ?_) (fun hb4 => ?_)
  ·have H := H.1 hb4
   refine pop.mk' (v := (Value.agg #[(VI 0), (VI 0)])) (fun w => by kernel_rfl) ?_
   refine ul siz36 hL4 0 0 [(VI 0), (VI 0)] [(b2, [(VI 0), (VI 0)]), (b1, [g0_1.v])] (fun h5 hf3 hL5 => ?_)
   refine ra agg36 hL5 0 0 [(VI 0), (VI 0)] ?_
   have H := H  h5  (Fr.old (Fr.r (In []) _) hf3) hL5
   exact H
  have H := H.2 hb4
  refine ra agg26 hL4 1 0 [g0_1.v] ?_
  refine H.mono fun r3 h6 H => ?_
  obtain ⟨s35, s35b, rfl, hL6, H⟩ := H
  refine pop_ext (v := s35.v) rfl ?_
  refine pop_ext (v := s35b.v) rfl ?_
  refine pop_len s35 _ _ sli37 ?_
  obtain ⟨J1, ⟨n4, h0_2⟩, HB2⟩ := H
  refine loop_intro (J := fun (n : Nat) (vs : List Value) (h' : Heap) => ∃ right12_1 : Sl, ∃ s40 : Int, vs = [right12_1.v, (VI s40)] /\ J1 n right12_1 s40 h' /\ Vars h' [(b2, [(VI 0), (VI 0)]), (b1, [g0_1.v])]) n4 ⟨nilSl, 0, rfl, h0_2, hL6⟩ ?_
  intro I2 mu2 hI2 junk1 tv2 tv3 h7 hi1
  obtain ⟨n1, ⟨right12_1, s40, hv, hJ1, hL7⟩, hn1⟩ := hI2 _ _ hi1
  cases hv
  have H := HB2 n1 right12_1 s40 h7 hJ1 hL7
  refine pop_lss .i64 s40 (s35.n : Int) ?_
  refine condM_b (fun hb5 => ?_) (fun hb5 => ?_)
  ·have H := H.1 hb5
   obtain ⟨hi2, H⟩ := H
   refine pop_index sli37 siz3 .i64 s35 s40 hi2 ?_
   obtain ⟨s43, hc2, H⟩ := H
   refine rop_one one3 (VI s43) hc2 ?_
   refine pop_field 0 fld26_0 b1 0 ?_
   refine rl one24 hL7 1 0 g0_1.v ?_
   obtain ⟨hi3, H⟩ := H
   refine pop_index sli24 siz37 .i64 g0_1 s43 hi3 ?_
   obtain ⟨s49, hc1, H⟩ := H
   refine rop_one one37 s49.v hc1 ?_
   refine pop_len s49 _ _ sli37 ?_
   refine H.mono fun r4 h8 H => ?_
   obtain ⟨s51, rfl, hL8, H⟩ := H
   refine H.mono fun r5 h9 H => ?_
   obtain ⟨s52, rfl, hL9, H⟩ := H
   refine pop_add .i64 s40 1 ?_
   obtain ⟨m_1, hm_1, H⟩ := H
   exact hn1 _ _ ⟨m_1, hm_1, s52, (w64 (s40 + 1)), rfl, H, hL9⟩
  have H := H.2 hb5
  refine H.mono fun r6 h10 H => ?_
  obtain ⟨s57, s57b, rfl, hL10, H⟩ := H
  refine pop_ext (v := s57.v) rfl ?_
  refine pop_ext (v := (VI s57b)) rfl ?_
  refine pop_len s35 _ _ sli37 ?_
  obtain ⟨J2, ⟨n3, h0_1⟩, HB1⟩ := H
  refine loop_intro (J := fun (n : Nat) (vs : List Value) (h' : Heap) => ∃ s62 : Int, vs = [(VI s62)] /\ J2 n s62 h' /\ Vars h' [(b2, [(VI 0), (VI 0)]), (b1, [g0_1.v])]) n3 ⟨0, rfl, h0_1, hL10⟩ ?_
  intro I1 mu1 hI1 junk2 tv1 h11 hi4
  obtain ⟨n2, ⟨s62, hv, hJ2, hL11⟩, hn2⟩ := hI1 _ _ hi4
  cases hv
  have H := HB1 n2 s62 h11 hJ2 hL11
  refine pop_lss .i64 s62 (s35.n : Int) ?_
  refine condM_b (fun hb6 => ?_) (fun hb6 => ?_)
  rotate_left
  ·have H := H.2 hb6
   refine pop.mk' (v := (Value.agg #[(VI 0), (VI 1)])) (fun w => by kernel_rfl) ?_
   refine ul siz36 hL11 0 0 [(VI 0), (VI 1)] [(b2, [(VI 0), (VI 1)]), (b1, [g0_1.v])] (fun h14 hf5 hL14 => ?_)
   refine ra agg36 hL14 0 0 [(VI 0), (VI 1)] ?_
   have H := H  h14  (Fr.old (Fr.r (In []) _) hf5) hL14
   exact H
  have H := H.1 hb6
  obtain ⟨hi5, H⟩ := H
  refine pop_index sli37 siz3 .i64 s35 s62 hi5 ?_
  obtain ⟨s66, hc4, H⟩ := H
  refine rop_one one3 (VI s66) hc4 ?_
  refine pop_ieq .i64 _ _ s66 p1_1 ?_
  refine condM_b (fun hb7 => ?_) (fun hb7 => ?_)
  rotate_left
  ·have H := H.2 hb7
   refine pop_add .i64 s62 1 ?_
   obtain ⟨m_2, hm_2, H⟩ := H
   exact hn2 _ _ ⟨m_2, hm_2, (w64 (s62 + 1)), rfl, H, hL11⟩
  have H := H.1 hb7
  obtain ⟨hi6, H⟩ := H
  refine pop_index sli37 siz3 .i64 s57 s62 hi6 ?_
  obtain ⟨s73, hc3, H⟩ := H
  refine rop_one one3 (VI s73) hc3 ?_
  refine H.mono fun r7 h12 H => ?_
  obtain ⟨s75, s75b, rfl, hL12, H⟩ := H
  refine ul siz36 hL12 0 0 [(VI s75), (VI s75b)] [(b2, [(VI s75), (VI s75b)]), (b1, [g0_1.v])] (fun h13 hf4 hL13 => ?_)
  refine ra agg36 hL13 0 0 [(VI s75), (VI s75b)] ?_
  have H := H  h13  (Fr.old (Fr.r (In []) _) hf4) hL13
  exact H
def u20 (P : Program) (g0_1 : Sl) (p1_1 : Int) (a2_1 : Int) (b3_1 : Int) (h : Heap) (K : Value -> Heap -> Prop) : Prop :=
 ∀ (b1 : Nat) (b2 : Nat) (h2 : Heap), h.size ≤ b1 -> h.size ≤ b2 -> Fr (In []) h h2 -> Vars h2 [(b2, [(VI 0), (VI 0)]), (b1, [g0_1.v])] ->
 callM P 61 #[(.agg #[g0_1.v]), (VI a2_1), (VI b3_1)] h2 fun r1 h3 => ∃ s13 : Bool, r1 = (VB s13) /\ Vars h3 [(b2, [(VI 0), (VI 0)]), (b1, [g0_1.v])] /\
 ((!s13) = true ->
 ∀ (h8 : Heap), Fr (In [b2]) h3 h8 -> Vars h8 [(b2, [(VI 0), (VI 0)]), (b1, [g0_1.v])] ->
 K (.tuple #[(.agg #[(VI 0), (VI 0)]), (VB false)]) h8) /\
 ((!s13) = false ->
 callM P 72 #[(.agg #[g0_1.v]), (VI p1_1)] h3 fun r2 h4 => ∃ s18 : Bool, r2 = (VB s18) /\ Vars h4 [(b2, [(VI 0), (VI 0)]), (b1, [g0_1.v])] /\
 ((!s18) = true ->
 ∀ (h5 : Heap), Fr (In [b2]) h4 h5 -> Vars h5 [(b2, [(VI 0), (VI 0)]), (b1, [g0_1.v])] ->
 K (.tuple #[(.agg #[(VI 0), (VI 0)]), (VB false)]) h5) /\
 ((!s18) = false ->
 callM P 62 #[(.agg #[g0_1.v]), (VI a2_1), (VI b3_1)] h4 fun r3 h6 => ∃ s25 : Sl, r3 = s25.v /\ Vars h6 [(b2, [(VI 0), (VI 0)]), (b1, [g0_1.v])] /\
 InB s25 p1_1 /\
 ∃ s28 : Int, ∃ s28b : Int, CellsAt h6 (Sl.at s25 p1_1 2) [(VI s28), (VI s28b)] /\
 ∀ (h7 : Heap), Fr (In [b2]) h6 h7 -> Vars h7 [(b2, [(VI s28), (VI s28b)]), (b1, [g0_1.v])] ->
 K (.tuple #[(.agg #[(VI s28), (VI s28b)]), (VB true)]) h7))
theorem v20 (g0_1 : Sl) (p1_1 : Int) (a2_1 : Int) (b3_1 : Int) (h : Heap) (K : Value -> Heap -> Prop) (H : u20 Try.prog g0_1 p1_1 a2_1 b3_1 h K) : callM Try.prog 20 #[(Value.agg #[g0_1.v]), (VI p1_1), (VI a2_1), (VI b3_1)] h K := by
  refine c20 (Value.agg #[g0_1.v]) (VI p1_1) (VI a2_1) (VI b3_1) h K ?_
  unfold u20 at H
  unfold t20
  have hL : Vars h [] := .nil
  refine eop_box 26 (Value.agg #[g0_1.v]) rfl hL (fun b1 h1 hb1 hf1 hL1 => ?_)
  refine eop_alloc 36 zer36 rfl hL1 (fun b2 h2 hb2 hf2 hL2 => ?_)
  refine ra agg26 hL2 1 0 [g0_1.v] ?_
  have H := H b1 b2 h2 hb1 (Nat.le_trans (Fr.size (Fr.no' (Fr.r (In []) _) hf1)) hb2) (Fr.no' (Fr.no' (Fr.r (In []) _) hf1) hf2) hL2
  refine H.mono fun r1 h3 H => ?_
  obtain ⟨s13, rfl, hL3, H⟩ := H
  refine pop_not s13 ?_
  refine guardM_sf (fun hb3 => ?_) (fun hb3 => ?_)
  rotate_left
  ·have H := H.1 hb3
   refine gm hb3 ?_
   refine gm hb3 ?_
   refine gm hb3 ?_
   refine pop_pickt' hb3 ?_
   refine condM_t ?_
   refine pop.mk' (v := (Value.agg #[(VI 0), (VI 0)])) (fun w => by kernel_rfl) ?_
   refine ul siz36 hL3 0 0 [(VI 0), (VI 0)] [(b2, [(VI 0), (VI 0)]), (b1, [g0_1.v])] (fun h8 hf5 hL8 => ?_)
   refine ra agg36 hL8 0 0 [(VI 0), (VI 0)] ?_
   have H := H  h8  (Fr.old (Fr.r (In []) _) hf5) hL8
   exact H
  have H := H.2 hb3
  refine ra agg26 hL3 1 0 [g0_1.v] ?_
  refine gy hb3 ?_
  refine gy hb3 ?_
  refine H.mono fun r2 h4 H => ?_
  obtain ⟨s18, rfl, hL4, H⟩ := H
  refine gy hb3 ?_
  refine pop_not s18 ?_
  refine pop_pickf' hb3 ?_
  refine condM_b (fun hb4 => ?_) (fun hb4 => ?_)
  ·have H := H.1 hb4
   refine pop.mk' (v := (Value.agg #[(VI 0), (VI 0)])) (fun w => by kernel_rfl) ?_
   refine ul siz36 hL4 0 0 [(VI 0), (VI 0)] [(b2, [(VI 0), (VI 0)]), (b1, [g0_1.v])] (fun h5 hf3 hL5 => ?_)
   refine ra agg36 hL5 0 0 [(VI 0), (VI 0)] ?_
   have H := H  h5  (Fr.old (Fr.r (In []) _) hf3) hL5
   exact H
  have H := H.2 hb4
  refine ra agg26 hL4 1 0 [g0_1.v] ?_
  refine H.mono fun r3 h6 H => ?_
  obtain ⟨s25, rfl, hL6, H⟩ := H
  obtain ⟨hi1, H⟩ := H
  refine pop_index sli29 siz36 .i64 s25 p1_1 hi1 ?_
  obtain ⟨s28, s28b, hc1, H⟩ := H
  refine rop_agg agg36 [(VI s28), (VI s28b)] rfl hc1 ?_
  refine ul siz36 hL6 0 0 [(VI s28), (VI s28b)] [(b2, [(VI s28), (VI s28b)]), (b1, [g0_1.v])] (fun h7 hf4 hL7 => ?_)
  refine ra agg36 hL7 0 0 [(VI s28), (VI s28b)] ?_
  have H := H  h7  (Fr.old (Fr.r (In []) _) hf4) hL7
  exact H
def u57 (P : Program) (b1 : Nat) (c0_1 : Sl) (c0_2 : Int) (c0_3 : Int) (h : Heap) (K : Value -> Heap -> Prop) : Prop :=
 ∀ (b2 : Nat) (h1 : Heap), h.size ≤ b2 -> Fr (In []) h h1 -> Vars h1 [(b2, [nilSl.v]), (b1, [c0_1.v, (VI c0_2), (Value.int .u64 c0_3)])] ->
 callM P 68 #[(VP b1 0)] h1 fun r1 h2 => ∃ y1 : Sl, ∃ y2 : Int, ∃ y3 : Int, ∃ s10 : Sl, r1 = (.agg #[s10.v]) /\ Vars h2 [(b2, [nilSl.v]), (b1, [y1.v, (VI y2), (Value.int .u64 y3)])] /\
 ∀ (b3 : Nat) (h4 : Heap), h2.size ≤ b3 -> Fr (In []) h2 h4 -> Vars h4 [(b3, [s10.v]), (b2, [nilSl.v]), (b1, [y1.v, (VI y2), (Value.int .u64 y3)])] ->
 ∃ J1 : Sl -> Sl -> Int -> Int -> Heap -> Prop, (callM P 106 #[(VP b1 0), (VI 2)] h4 fun r2 h5 => ∃ y8 : Sl, ∃ y9 : Int, ∃ y10 : Int, ∃ s12 : Bool, r2 = (VB s12) /\ Vars h5 [(b3, [s10.v]), (b2, [nilSl.v]), (b1, [y8.v, (VI y9), (Value.int .u64 y10)])] /\
 (s12 = true ->
 callM P 109 #[(VP b1 0)] h5 fun r3 h6 => ∃ y11 : Sl, ∃ y12 : Int, ∃ y13 : Int, ∃ s14 : Sl, r3 = (.agg #[s14.v]) /\ Vars h6 [(b3, [s10.v]), (b2, [nilSl.v]), (b1, [y11.v, (VI y12), (Value.int .u64 y13)])] /\
 ∀ (h7 : Heap), Fr (In [b3]) h6 h7 -> Vars h7 [(b3, [s14.v]), (b2, [nilSl.v]), (b1, [y11.v, (VI y12), (Value.int .u64 y13)])] ->
 J1 s14 y11 y12 y13 h7) /\
 (s12 = false ->
 J1 s10 y8 y9 y10 h5)) /\
 ∀ (y4 : Sl) (y5 : Sl) (y6 : Int) (y7 : Int) (h8 : Heap), J1 y4 y5 y6 y7 h8 -> Vars h8 [(b3, [y4.v]), (b2, [nilSl.v]), (b1, [y5.v, (VI y6), (Value.int .u64 y7)])] ->
 callM P 69 #[(VP b1 0), (.agg #[y4.v])] h8 fun r4 h9 => ∃ y14 : Sl, ∃ y15 : Int, ∃ y16 : Int, ∃ s17 : Int, r4 = (VI s17) /\ Vars h9 [(b3, [y4.v]), (b2, [nilSl.v]), (b1, [y14.v, (VI y15), (Value.int .u64 y16)])] /\
 callM P 69 #[(VP b1 0), (.agg #[y4.v])] h9 fun r5 h10 => ∃ y17 : Sl, ∃ y18 : Int, ∃ y19 : Int, ∃ s20 : Int, r5 = (VI s20) /\ Vars h10 [(b3, [y4.v]), (b2, [nilSl.v]), (b1, [y17.v, (VI y18), (Value.int .u64 y19)])] /\
 ∃ J2 : Int -> Sl -> Int -> Int -> Heap -> Prop, (((decide (1 < (y4.n : Int))) = true ->
 ((decide (s17 = s20)) = true ->
 callM P 106 #[(VP b1 0), (VI 8)] h10 fun r6 h11 => ∃ y24 : Sl, ∃ y25 : Int, ∃ y26 : Int, ∃ s33 : Bool, r6 = (VB s33) /\ Vars h11 [(b3, [y4.v]), (b2, [nilSl.v]), (b1, [y24.v, (VI y25), (Value.int .u64 y26)])] /\
 ((!s33) = true ->
 (y4.n : Int) ≠ 0 /\
 J2 (Int.tmod (w64 (s17 + 1)) (y4.n : Int)) y24 y25 y26 h11) /\
 ((!s33) = false ->
 J2 s20 y24 y25 y26 h11)) /\
 ((decide (s17 = s20)) = false ->
 J2 s20 y17 y18 y19 h10)) /\
 ((decide (1 < (y4.n : Int))) = false ->
 J2 s20 y17 y18 y19 h10)) /\
 ∀ (y20 : Int) (y21 : Sl) (y22 : Int) (y23 : Int) (h12 : Heap), J2 y20 y21 y22 y23 h12 -> Vars h12 [(b3, [y4.v]), (b2, [nilSl.v]), (b1, [y21.v, (VI y22), (Value.int .u64 y23)])] ->
 ∀ (h13 : Heap), Fr (In [b2]) h12 h13 -> Vars h13 [(b3, [y4.v]), (b2, [y4.v]), (b1, [y21.v, (VI y22), (Value.int .u64 y23)])] ->
 K (.tuple #[(.agg #[y4.v]), (VI s17), (VI y20)]) h13
theorem v57 (b1 : Nat) (c0_1 : Sl) (c0_2 : Int) (c0_3 : Int) (h : Heap) (K : Value -> Heap -> Prop) (hL : Vars h [(b1, [c0_1.v, (VI c0_2), (Value.int .u64 c0_3)])]) (H : u57 Try.prog b1 c0_1 c0_2 c0_3 h K) : callM Try.prog 57 #[(VP b1 0)] h K := by
  refine c57 (VP b1 0) h K ?_
  unfold u57 at H
  unfold t57
  refine eop_alloc 26 zer26 rfl hL (fun b2 h1 hb1 hf1 hL1 => ?_)
  have H := H b2 h1 hb1 (Fr.no' (Fr.r (In []) _) hf1) hL1
  refine H.mono fun r1 h2 H => ?_
  obtain ⟨y1, y2, y3, s10, rfl, hL2, H⟩ := H
  refine eop_alloc 26 zer26 rfl hL2 (fun b3 h3 hb2 hf2 hL3 => ?_)
  refine ul siz26 hL3 0 0 [s10.v] [(b3, [s10.v]), (b2, [nilSl.v]), (b1, [y1.v, (VI y2), (Value.int .u64 y3)])] (fun h4 hf3 hL4 => ?_)
  have H := H b3 h4 hb2 (Fr.new (Fr.no' (Fr.r (In []) _) hf2) hb2 hf3) hL4
  obtain ⟨J1, H, HB2⟩ := H
  refine ⟨fun (vs : List Value) (h' : Heap) => ∃ y4 : Sl, ∃ y5 : Sl, ∃ y6 : Int, ∃ y7 : Int, vs = [] /\ J1 y4 y5 y6 y7 h' /\ Vars h' [(b3, [y4.v]), (b2, [nilSl.v]), (b1, [y5.v, (VI y6), (Value.int .u64 y7)])], ?_, ?_⟩
  ·refine H.mono fun r2 h5 H => ?_
   obtain ⟨y8, y9, y10, s12, rfl, hL5, H⟩ := H
   refine condM_b (fun hb3 => ?_) (fun hb3 => ?_)
   rotate_left
   ·have H := H.2 hb3
    exact ⟨s10, y8, y9, y10, rfl, H, hL5⟩
   have H := H.1 hb3
   refine H.mono fun r3 h6 H => ?_
   obtain ⟨y11, y12, y13, s14, rfl, hL6, H⟩ := H
   refine ul siz26 hL6 0 0 [s14.v] [(b3, [s14.v]), (b2, [nilSl.v]), (b1, [y11.v, (VI y12), (Value.int .u64 y13)])] (fun h7 hf4 hL7 => ?_)
   have H := H  h7  (Fr.old (Fr.r (In []) _) hf4) hL7
   exact ⟨s14, y11, y12, y13, rfl, H, hL7⟩
  intro junk1  h8
  rintro ⟨y4, y5, y6, y7, hv, hJ1, hL8⟩
  have H := HB2 y4 y5 y6 y7 h8 hJ1 hL8
  refine ra agg26 hL8 0 0 [y4.v] ?_
  refine ra agg26 hL8 0 0 [y4.v] ?_
  refine H.mono fun r4 h9 H => ?_
  obtain ⟨y14, y15, y16, s17, rfl, hL9, H⟩ := H
  refine ⟨?_, ?_⟩
  ·exact still_locA agg26 hL9 0 rfl 0 (vs := [y4.v]) rfl rfl
  refine H.mono fun r5 h10 H => ?_
  obtain ⟨y17, y18, y19, s20, rfl, hL10, H⟩ := H
  obtain ⟨J2, H, HB1⟩ := H
  refine ⟨fun (vs : List Value) (h' : Heap) => ∃ y20 : Int, ∃ y21 : Sl, ∃ y22 : Int, ∃ y23 : Int, vs = [(VI y20)] /\ J2 y20 y21 y22 y23 h' /\ Vars h' [(b3, [y4.v]), (b2, [nilSl.v]), (b1, [y21.v, (VI y22), (Value.int .u64 y23)])], ?_, ?_⟩
  ·refine pop_field 0 fld26_0 b3 0 ?_
   refine rl one24 hL10 0 0 y4.v ?_
   refine pop_len y4 _ _ sli24 ?_
   refine pop_gtr .i64 (y4.n : Int) 1 ?_
   refine guardM_st (fun hb4 => ?_) (fun hb4 => ?_)
   rotate_left
   ·have H := H.2 hb4
    refine gm hb4 ?_
    refine gm hb4 ?_
    refine pop_pickf' hb4 ?_
    refine gn ?_
    refine gn ?_
    refine gn ?_
    refine pop_pickf _ _ ?_
    refine condM_f ?_
    exact ⟨s20, y17, y18, y19, rfl, H, hL10⟩
   have H := H.1 hb4
   refine gy hb4 ?_
   refine gy hb4 ?_
   refine pop_ieq .i64 _ _ s17 s20 ?_
   refine pop_pickt' hb4 ?_
   refine guardM_st (fun hb5 => ?_) (fun hb5 => ?_)
   rotate_left
   ·have H := H.2 hb5
    refine gm hb5 ?_
    refine gm hb5 ?_
    refine pop_pickf' hb5 ?_
    refine condM_f ?_
    exact ⟨s20, y17, y18, y19, rfl, H, hL10⟩
   have H := H.1 hb5
   refine gy hb5 ?_
   refine H.mono fun r6 h11 H => ?_
   obtain ⟨y24, y25, y26, s33, rfl, hL11, H⟩ := H
   refine gy hb5 ?_
   refine pop_not s33 ?_
   refine pop_pickt' hb5 ?_
   refine condM_b (fun hb6 => ?_) (fun hb6 => ?_)
   rotate_left
   ·have H := H.2 hb6
    exact ⟨s20, y24, y25, y26, rfl, H, hL11⟩
   have H := H.1 hb6
   refine pop_add .i64 s17 1 ?_
   obtain ⟨hz_1, H⟩ := H
   refine pop_rem .i64 (w64 (s17 + 1)) (y4.n : Int) hz_1 ?_
   exact ⟨(Int.tmod (w64 (s17 + 1)) (y4.n : Int)), y24, y25, y26, rfl, H, hL11⟩
  intro junk2 tv1 h12
  rintro ⟨y20, y21, y22, y23, hv, hJ2, hL12⟩
  cases hv
  have H := HB1 y20 y21 y22 y23 h12 hJ2 hL12
  refine ra agg26 hL12 0 0 [y4.v] ?_
  refine ul siz26 hL12 1 0 [y4.v] [(b3, [y4.v]), (b2, [y4.v]), (b1, [y21.v, (VI y22), (Value.int .u64 y23)])] (fun h13 hf5 hL13 => ?_)
  refine ra agg26 hL13 1 0 [y4.v] ?_
  have H := H  h13  (Fr.old (Fr.r (In []) _) hf5) hL13
  exact H
def u58 (P : Program) (g0_1 : Sl) (a1_1 : Int) (b2_1 : Int) (h : Heap) (K : Value -> Heap -> Prop) : Prop :=
 ∀ (b1 : Nat) (h1 : Heap), h.size ≤ b1 -> Fr (In []) h h1 -> Vars h1 [(b1, [g0_1.v])] ->
 eop P (Instr.buildSlice 37 2 #[(0, (VI a1_1)), (1, (VI b2_1))]) h1 fun r1 h2 => ∃ s13 : Sl, r1 = s13.v /\ Vars h2 [(b1, [g0_1.v])] /\
 callM P 63 #[(.agg #[g0_1.v]), s13.v] h2 fun r2 h3 => ∃ s14 : Bool, r2 = (VB s14) /\ Vars h3 [(b1, [g0_1.v])] /\
 ((!s14) = true ->
 K (VB false) h3) /\
 ((!s14) = false ->
 ((decide (a1_1 = b2_1)) = true ->
 K (VB false) h3) /\
 ((decide (a1_1 = b2_1)) = false ->
 ∃ J1 : Nat -> Int -> Heap -> Prop, (∃ n0 : Nat, J1 n0 0 h3) /\
 ∀ (n1 : Nat) (s24 : Int) (h4 : Heap), J1 n1 s24 h4 -> Vars h4 [(b1, [g0_1.v])] ->
 ((decide (s24 < (g0_1.n : Int))) = true ->
 InB g0_1 s24 /\
 ∃ s28 : Sl, hcell h4 (Sl.at g0_1 s24 1) = some s28.v /\
 callM P 110 #[(.agg #[g0_1.v]), (VI s24)] h4 fun r3 h5 => ∃ s31 : Sl, r3 = s31.v /\ Vars h5 [(b1, [g0_1.v])] /\
 InB s31 a1_1 /\
 ∃ s35 : Int, hcell h5 (Sl.at s31 a1_1 1) = some (VI s35) /\
 ((decide (s35 < 0)) = true ->
 InB s31 b2_1 /\
 ∃ s41 : Int, hcell h5 (Sl.at s31 b2_1 1) = some (VI s41) /\
 ((decide (s41 < 0)) = true ->
 K (VB false) h5) /\
 ((decide (s41 < 0)) = false ->
 ((!decide (s24 = a1_1)) = true ->
 ((!decide (s24 = b2_1)) = true ->
 ((decide ((s28.n : Int) = 0)) = true ->
 K (VB false) h5) /\
 ((decide ((s28.n : Int) = 0)) = false ->
 ∃ m : Nat, m < n1 /\ J1 m (w64 (s24 + 1)) h5)) /\
 ((!decide (s24 = b2_1)) = false ->
 ∃ m : Nat, m < n1 /\ J1 m (w64 (s24 + 1)) h5)) /\
 ((!decide (s24 = a1_1)) = false ->
 ∃ m : Nat, m < n1 /\ J1 m (w64 (s24 + 1)) h5))) /\
 ((decide (s35 < 0)) = false ->
 ((!decide (s24 = a1_1)) = true ->
 ((!decide (s24 = b2_1)) = true ->
 ((decide ((s28.n : Int) = 0)) = true ->
 K (VB false) h5) /\
 ((decide ((s28.n : Int) = 0)) = false ->
 ∃ m : Nat, m < n1 /\ J1 m (w64 (s24 + 1)) h5)) /\
 ((!decide (s24 = b2_1)) = false ->
 ∃ m : Nat, m < n1 /\ J1 m (w64 (s24 + 1)) h5)) /\
 ((!decide (s24 = a1_1)) = false ->
 ∃ m : Nat, m < n1 /\ J1 m (w64 (s24 + 1)) h5))) /\
 ((decide (s24 < (g0_1.n : Int))) = false ->
 K (VB true) h4)))
theorem v58 (g0_1 : Sl) (a1_1 : Int) (b2_1 : Int) (h : Heap) (K : Value -> Heap -> Prop) (H : u58 Try.prog g0_1 a1_1 b2_1 h K) : callM Try.prog 58 #[(Value.agg #[g0_1.v]), (VI a1_1), (VI b2_1)] h K := by
  refine c58 (Value.agg #[g0_1.v]) (VI a1_1) (VI b2_1) h K ?_
  unfold u58 at H
  unfold t58
  have hL : Vars h [] := .nil
  refine eop_box 26 (Value.agg #[g0_1.v]) rfl hL (fun b1 h1 hb1 hf1 hL1 => ?_)
  refine ra agg26 hL1 0 0 [g0_1.v] ?_
  have H := H b1 h1 hb1 (Fr.no' (Fr.r (In []) _) hf1) hL1
  refine H.mono fun r1 h2 H => ?_
  obtain ⟨s13, rfl, hL2, H⟩ := H
  refine H.mono fun r2 h3 H => ?_
  obtain ⟨s14, rfl, hL3, H⟩ := H
  refine pop_not s14 ?_
  refine guardM_sf (fun hb2 => ?_) (fun hb2 => ?_)
  rotate_left
  ·have H := H.1 hb2
   refine gm hb2 ?_
   refine gm hb2 ?_
   refine pop_pickt' hb2 ?_
   refine condM_t ?_
   exact H
  have H := H.2 hb2
  refine gy hb2 ?_
  refine gy hb2 ?_
  refine pop_ieq .i64 _ _ a1_1 b2_1 ?_
  refine pop_pickf' hb2 ?_
  refine condM_b (fun hb3 => ?_) (fun hb3 => ?_)
  ·exact H.1 hb3
  have H := H.2 hb3
  refine pop_field 0 fld26_0 b1 0 ?_
  refine rl one24 hL3 0 0 g0_1.v ?_
  refine pop_len g0_1 _ _ sli24 ?_
  obtain ⟨J1, ⟨n2, h0_1⟩, HB1⟩ := H
  refine loop_intro (J := fun (n : Nat) (vs : List Value) (h' : Heap) => ∃ s24 : Int, vs = [(VI s24)] /\ J1 n s24 h' /\ Vars h' [(b1, [g0_1.v])]) n2 ⟨0, rfl, h0_1, hL3⟩ ?_
  intro I1 mu1 hI1 junk1 tv1 h4 hi1
  obtain ⟨n1, ⟨s24, hv, hJ1, hL4⟩, hn1⟩ := hI1 _ _ hi1
  cases hv
  have H := HB1 n1 s24 h4 hJ1 hL4
  refine pop_lss .i64 s24 (g0_1.n : Int) ?_
  refine condM_b (fun hb4 => ?_) (fun hb4 => ?_)
  rotate_left
  ·exact H.2 hb4
  have H := H.1 hb4
  obtain ⟨hi2, H⟩ := H
  refine pop_index sli24 siz37 .i64 g0_1 s24 hi2 ?_
  obtain ⟨s28, hc3, H⟩ := H
  refine rop_one one37 s28.v hc3 ?_
  refine ra agg26 hL4 0 0 [g0_1.v] ?_
  refine H.mono fun r3 h5 H => ?_
  obtain ⟨s31, rfl, hL5, H⟩ := H
  obtain ⟨hi3, H⟩ := H
  refine pop_index sli37 siz3 .i64 s31 a1_1 hi3 ?_
  obtain ⟨s35, hc2, H⟩ := H
  refine rop_one one3 (VI s35) hc2 ?_
  refine pop_lss .i64 s35 0 ?_
  refine guardM_st (fun hb5 => ?_) (fun hb5 => ?_)
  rotate_left
  ·have H := H.2 hb5
   refine gm hb5 ?_
   refine gm hb5 ?_
   refine gm hb5 ?_
   refine gm hb5 ?_
   refine pop_pickf' hb5 ?_
   refine guardM_y ?_
   refine guardM_y ?_
   refine guardM_y ?_
   refine pop_ine .i64 _ _ s24 a1_1 ?_
   refine guardM_y ?_
   refine guardM_st (fun hb10 => ?_) (fun hb10 => ?_)
   rotate_left
   ·have H := H.2 hb10
    refine gm hb10 ?_
    refine gm hb10 ?_
    refine guardM_y ?_
    refine pop_pickf' hb10 ?_
    refine guardM_y ?_
    refine gn ?_
    refine gn ?_
    refine gn ?_
    refine guardM_y ?_
    refine pop_pickf _ _ ?_
    refine pop_pickf _ _ ?_
    refine condM_f ?_
    refine pop_add .i64 s24 1 ?_
    obtain ⟨m_6, hm_6, H⟩ := H
    exact hn1 _ _ ⟨m_6, hm_6, (w64 (s24 + 1)), rfl, H, hL5⟩
   have H := H.1 hb10
   refine gy hb10 ?_
   refine gy hb10 ?_
   refine pop_ine .i64 _ _ s24 b2_1 ?_
   refine guardM_y ?_
   refine pop_pickt' hb10 ?_
   refine guardM_y ?_
   refine guardM_st (fun hb11 => ?_) (fun hb11 => ?_)
   rotate_left
   ·have H := H.2 hb11
    refine gm hb11 ?_
    refine gm hb11 ?_
    refine guardM_y ?_
    refine pop_pickf' hb11 ?_
    refine pop_pickf _ _ ?_
    refine condM_f ?_
    refine pop_add .i64 s24 1 ?_
    obtain ⟨m_5, hm_5, H⟩ := H
    exact hn1 _ _ ⟨m_5, hm_5, (w64 (s24 + 1)), rfl, H, hL5⟩
   have H := H.1 hb11
   refine gy hb11 ?_
   refine pop_len s28 _ _ sli37 ?_
   refine gy hb11 ?_
   refine pop_ieq .i64 _ _ (s28.n : Int) 0 ?_
   refine guardM_y ?_
   refine pop_pickt' hb11 ?_
   refine pop_pickf _ _ ?_
   refine condM_b (fun hb12 => ?_) (fun hb12 => ?_)
   ·exact H.1 hb12
   have H := H.2 hb12
   refine pop_add .i64 s24 1 ?_
   obtain ⟨m_4, hm_4, H⟩ := H
   exact hn1 _ _ ⟨m_4, hm_4, (w64 (s24 + 1)), rfl, H, hL5⟩
  have H := H.1 hb5
  refine gy hb5 ?_
  refine gy hb5 ?_
  obtain ⟨hi4, H⟩ := H
  refine pop_index sli37 siz3 .i64 s31 b2_1 hi4 ?_
  refine gy hb5 ?_
  obtain ⟨s41, hc1, H⟩ := H
  refine rop_one one3 (VI s41) hc1 ?_
  refine gy hb5 ?_
  refine pop_lss .i64 s41 0 ?_
  refine pop_pickt' hb5 ?_
  refine guardM_sf (fun hb6 => ?_) (fun hb6 => ?_)
  rotate_left
  ·have H := H.1 hb6
   refine gm hb6 ?_
   refine gm hb6 ?_
   refine gm hb6 ?_
   refine gn ?_
   refine gn ?_
   refine gn ?_
   refine gm hb6 ?_
   refine gm hb6 ?_
   refine gn ?_
   refine gn ?_
   refine gn ?_
   refine gm hb6 ?_
   refine pop_pickt' hb6 ?_
   refine condM_t ?_
   exact H
  have H := H.2 hb6
  refine gy hb6 ?_
  refine gy hb6 ?_
  refine pop_ine .i64 _ _ s24 a1_1 ?_
  refine gy hb6 ?_
  refine guardM_st (fun hb7 => ?_) (fun hb7 => ?_)
  rotate_left
  ·have H := H.2 hb7
   refine gm hb7 ?_
   refine gm hb7 ?_
   refine gy hb6 ?_
   refine pop_pickf' hb7 ?_
   refine gy hb6 ?_
   refine gn ?_
   refine gn ?_
   refine gn ?_
   refine gy hb6 ?_
   refine pop_pickf _ _ ?_
   refine pop_pickf' hb6 ?_
   refine condM_f ?_
   refine pop_add .i64 s24 1 ?_
   obtain ⟨m_3, hm_3, H⟩ := H
   exact hn1 _ _ ⟨m_3, hm_3, (w64 (s24 + 1)), rfl, H, hL5⟩
  have H := H.1 hb7
  refine gy hb7 ?_
  refine gy hb7 ?_
  refine pop_ine .i64 _ _ s24 b2_1 ?_
  refine gy hb6 ?_
  refine pop_pickt' hb7 ?_
  refine gy hb6 ?_
  refine guardM_st (fun hb8 => ?_) (fun hb8 => ?_)
  rotate_left
  ·have H := H.2 hb8
   refine gm hb8 ?_
   refine gm hb8 ?_
   refine gy hb6 ?_
   refine pop_pickf' hb8 ?_
   refine pop_pickf' hb6 ?_
   refine condM_f ?_
   refine pop_add .i64 s24 1 ?_
   obtain ⟨m_2, hm_2, H⟩ := H
   exact hn1 _ _ ⟨m_2, hm_2, (w64 (s24 + 1)), rfl, H, hL5⟩
  have H := H.1 hb8
  refine gy hb8 ?_
  refine pop_len s28 _ _ sli37 ?_
  refine gy hb8 ?_
  refine pop_ieq .i64 _ _ (s28.n : Int) 0 ?_
  refine gy hb6 ?_
  refine pop_pickt' hb8 ?_
  refine pop_pickf' hb6 ?_
  refine condM_b (fun hb9 => ?_) (fun hb9 => ?_)
  ·exact H.1 hb9
  have H := H.2 hb9
  refine pop_add .i64 s24 1 ?_
  obtain ⟨m_1, hm_1, H⟩ := H
  exact hn1 _ _ ⟨m_1, hm_1, (w64 (s24 + 1)), rfl, H, hL5⟩
def u59 (P : Program) (g0_1 : Sl) (a1_1 : Int) (b2_1 : Int) (h : Heap) (K : Value -> Heap -> Prop) : Prop :=
 ∀ (b1 : Nat) (h1 : Heap), h.size ≤ b1 -> Fr (In []) h h1 -> Vars h1 [(b1, [g0_1.v])] ->
 callM P 66 #[(.agg #[g0_1.v]), (VI a1_1), (VI b2_1), (Value.func (.func 111) #[] #[]), (VI 1), (VI 0)] h1 fun r1 h2 => ∃ s11 : Sl, ∃ s11b : Int, r1 = (.tuple #[s11.v, (VI s11b)]) /\ Vars h2 [(b1, [g0_1.v])] /\
 K (.tuple #[s11.v, (VI s11b)]) h2
theorem v59 (g0_1 : Sl) (a1_1 : Int) (b2_1 : Int) (h : Heap) (K : Value -> Heap -> Prop) (H : u59 Try.prog g0_1 a1_1 b2_1 h K) : callM Try.prog 59 #[(Value.agg #[g0_1.v]), (VI a1_1), (VI b2_1)] h K := by
  refine c59 (Value.agg #[g0_1.v]) (VI a1_1) (VI b2_1) h K ?_
  unfold u59 at H
  unfold t59
  have hL : Vars h [] := .nil
  refine eop_box 26 (Value.agg #[g0_1.v]) rfl hL (fun b1 h1 hb1 hf1 hL1 => ?_)
  refine ra agg26 hL1 0 0 [g0_1.v] ?_
  have H := H b1 h1 hb1 (Fr.no' (Fr.r (In []) _) hf1) hL1
  refine H.mono fun r1 h2 H => ?_
  obtain ⟨s11, s11b, rfl, hL2, H⟩ := H
  refine pop_ext (v := s11.v) rfl ?_
  refine pop_ext (v := (VI s11b)) rfl ?_
  exact H
def u60 (P : Program) (num0_1 : Int) (den1_1 : Int) (h : Heap) (K : Value -> Heap -> Prop) : Prop :=
 ∀ (b1 : Nat) (h1 : Heap), h.size ≤ b1 -> Fr (In []) h h1 -> Vars h1 [(b1, [(VI 0), (VI 0)])] ->
 callM P 112 #[(VI num0_1), (VI den1_1)] h1 fun r1 h2 => ∃ s8 : Int, r1 = (VI s8) /\ Vars h2 [(b1, [(VI 0), (VI 0)])] /\
 ∃ J1 : Int -> Heap -> Prop, (((decide (den1_1 < 0)) = true ->
 J1 (w64 (0 - s8)) h2) /\
 ((decide (den1_1 < 0)) = false ->
 J1 s8 h2)) /\
 ∀ (y1 : Int) (h3 : Heap), J1 y1 h3 -> Vars h3 [(b1, [(VI 0), (VI 0)])] ->
 y1 ≠ 0 /\
 y1 ≠ 0 /\
 ∀ (h4 : Heap), Fr (In [b1]) h3 h4 -> Vars h4 [(b1, [(VI (w64 (Int.tdiv num0_1 y1))), (VI (w64 (Int.tdiv den1_1 y1)))])] ->
 K (.agg #[(VI (w64 (Int.tdiv num0_1 y1))), (VI (w64 (Int.tdiv den1_1 y1)))]) h4
theorem v60 (num0_1 : Int) (den1_1 : Int) (h : Heap) (K : Value -> Heap -> Prop) (H : u60 Try.prog num0_1 den1_1 h K) : callM Try.prog 60 #[(VI num0_1), (VI den1_1)] h K := by
  refine c60 (VI num0_1) (VI den1_1) h K ?_
  unfold u60 at H
  unfold t60
  have hL : Vars h [] := .nil
  refine eop_alloc 36 zer36 rfl hL (fun b1 h1 hb1 hf1 hL1 => ?_)
  have H := H b1 h1 hb1 (Fr.no' (Fr.r (In []) _) hf1) hL1
  refine H.mono fun r1 h2 H => ?_
  obtain ⟨s8, rfl, hL2, H⟩ := H
  obtain ⟨J1, H, HB1⟩ := H
  refine ⟨fun (vs : List Value) (h' : Heap) => ∃ y1 : Int, vs = [(VI y1)] /\ J1 y1 h' /\ Vars h' [(b1, [(VI 0), (VI 0)])], ?_, ?_⟩
  ·refine pop_lss .i64 den1_1 0 ?_
   refine condM_b (fun hb2 => ?_) (fun hb2 => ?_)
   rotate_left
   ·have H := H.2 hb2
    exact ⟨s8, rfl, H, hL2⟩
   have H := H.1 hb2
   refine pop_neg .i64 s8 ?_
   exact ⟨(w64 (0 - s8)), rfl, H, hL2⟩
  intro junk1 tv1 h3
  rintro ⟨y1, hv, hJ1, hL3⟩
  cases hv
  have H := HB1 y1 h3 hJ1 hL3
  obtain ⟨hz_1, H⟩ := H
  refine pop_quo .i64 num0_1 y1 hz_1 ?_
  obtain ⟨hz_2, H⟩ := H
  refine pop_quo .i64 den1_1 y1 hz_2 ?_
  refine pop.mk' (v := (Value.agg #[(VI (w64 (Int.tdiv num0_1 y1))), (VI (w64 (Int.tdiv den1_1 y1)))])) (fun w => by kernel_rfl) ?_
  refine ul siz36 hL3 0 0 [(VI (w64 (Int.tdiv num0_1 y1))), (VI (w64 (Int.tdiv den1_1 y1)))] [(b1, [(VI (w64 (Int.tdiv num0_1 y1))), (VI (w64 (Int.tdiv den1_1 y1)))])] (fun h4 hf2 hL4 => ?_)
  refine ra agg36 hL4 0 0 [(VI (w64 (Int.tdiv num0_1 y1))), (VI (w64 (Int.tdiv den1_1 y1)))] ?_
  have H := H  h4  (Fr.old (Fr.r (In []) _) hf2) hL4
  exact H
def u61 (P : Program) (g0_1 : Sl) (a1_1 : Int) (b2_1 : Int) (h : Heap) (K : Value -> Heap -> Prop) : Prop :=
 ∀ (b1 : Nat) (h1 : Heap), h.size ≤ b1 -> Fr (In []) h h1 -> Vars h1 [(b1, [g0_1.v])] ->
 callM P 64 #[(.agg #[g0_1.v]), (VI a1_1), (VI b2_1)] h1 fun r1 h2 => ∃ s10 : Bool, r1 = (VB s10) /\ Vars h2 [(b1, [g0_1.v])] /\
 (s10 = true ->
 callM P 65 #[(.agg #[g0_1.v]), (VI a1_1), (VI b2_1)] h2 fun r2 h3 => ∃ s15 : Bool, r2 = (VB s15) /\ Vars h3 [(b1, [g0_1.v])] /\
 K (VB s15) h3) /\
 (s10 = false ->
 K (VB false) h2)
theorem v61 (g0_1 : Sl) (a1_1 : Int) (b2_1 : Int) (h : Heap) (K : Value -> Heap -> Prop) (H : u61 Try.prog g0_1 a1_1 b2_1 h K) : callM Try.prog 61 #[(Value.agg #[g0_1.v]), (VI a1_1), (VI b2_1)] h K := by
  refine c61 (Value.agg #[g0_1.v]) (VI a1_1) (VI b2_1) h K ?_
  unfold u61 at H
  unfold t61
  have hL : Vars h [] := .nil
  refine eop_box 26 (Value.agg #[g0_1.v]) rfl hL (fun b1 h1 hb1 hf1 hL1 => ?_)
  refine ra agg26 hL1 0 0 [g0_1.v] ?_
  have H := H b1 h1 hb1 (Fr.no' (Fr.r (In []) _) hf1) hL1
  refine H.mono fun r1 h2 H => ?_
  obtain ⟨s10, rfl, hL2, H⟩ := H
  refine guardM_st (fun hb2 => ?_) (fun hb2 => ?_)
  rotate_left
  ·have H := H.2 hb2
   refine gm hb2 ?_
   refine gm hb2 ?_
   refine gm hb2 ?_
   refine pop_pickf' hb2 ?_
   exact H
  have H := H.1 hb2
  refine ra agg26 hL2 0 0 [g0_1.v] ?_
  refine gy hb2 ?_
  refine gy hb2 ?_
  refine gy hb2 ?_
  refine H.mono fun r2 h3 H => ?_
  obtain ⟨s15, rfl, hL3, H⟩ := H
  refine pop_pickt' hb2 ?_
  exact H
def u62 (P : Program) (g0_1 : Sl) (a1_1 : Int) (b2_1 : Int) (h : Heap) (K : Value -> Heap -> Prop) : Prop :=
 ∀ (b1 : Nat) (h1 : Heap), h.size ≤ b1 -> Fr (In []) h h1 -> Vars h1 [(b1, [g0_1.v])] ->
 callM P 76 #[(.agg #[g0_1.v]), (VI a1_1), (VI b2_1)] h1 fun r1 h2 => ∃ s24 : Sl, ∃ s24b : Sl, r1 = (.tuple #[s24.v, s24b.v]) /\ Vars h2 [(b1, [g0_1.v])] /\
 ∃ J1 : Nat -> Sl -> Int -> Heap -> Prop, (∃ n0 : Nat, J1 n0 nilSl 0 h2) /\
 ∀ (n1 : Nat) (right9_1 : Sl) (s29 : Int) (h3 : Heap), J1 n1 right9_1 s29 h3 -> Vars h3 [(b1, [g0_1.v])] ->
 ((decide (s29 < (s24.n : Int))) = true ->
 InB s24 s29 /\
 ∃ s32 : Int, hcell h3 (Sl.at s24 s29 1) = some (VI s32) /\
 InB g0_1 s32 /\
 ∃ s37 : Sl, hcell h3 (Sl.at g0_1 s32 1) = some s37.v /\
 ∃ J2 : Nat -> Int -> Int -> Heap -> Prop, (∃ n0 : Nat, J2 n0 0 0 h3) /\
 ∀ (n2 : Nat) (n12_1 : Int) (s39 : Int) (h4 : Heap), J2 n2 n12_1 s39 h4 -> Vars h4 [(b1, [g0_1.v])] ->
 ((decide (s39 < (s37.n : Int))) = true ->
 InB s37 s39 /\
 ∃ s42 : Int, hcell h4 (Sl.at s37 s39 1) = some (VI s42) /\
 ((decide (s42 = a1_1)) = true ->
 ∃ m : Nat, m < n2 /\ J2 m (w64 (n12_1 + 1)) (w64 (s39 + 1)) h4) /\
 ((decide (s42 = a1_1)) = false ->
 ∃ m : Nat, m < n2 /\ J2 m n12_1 (w64 (s39 + 1)) h4)) /\
 ((decide (s39 < (s37.n : Int))) = false ->
 eop P (Instr.buildSlice 37 1 #[(0, (VI n12_1))]) h4 fun r2 h5 => ∃ s51 : Sl, r2 = s51.v /\ Vars h5 [(b1, [g0_1.v])] /\
 eop P (appS 37 37 37 right9_1.v s51.v) h5 fun r3 h6 => ∃ s52 : Sl, r3 = s52.v /\ Vars h6 [(b1, [g0_1.v])] /\
 ∃ m : Nat, m < n1 /\ J1 m s52 (w64 (s29 + 1)) h6)) /\
 ((decide (s29 < (s24.n : Int))) = false ->
 callM P 77 #[s24b.v, right9_1.v] h3 fun r4 h7 => ∃ s57 : Sl, ∃ s57b : Int, r4 = (.tuple #[s57.v, (VI s57b)]) /\ Vars h7 [(b1, [g0_1.v])] /\
 eop P (Instr.makeSlice 29 (VI (g0_1.n : Int)) (VI (g0_1.n : Int))) h7 fun r5 h8 => ∃ s63 : Sl, r5 = s63.v /\ Vars h8 [(b1, [g0_1.v])] /\
 InB s63 a1_1 /\
 uop P (Instr.storeAt 36 (Value.pointer (some (Sl.at s63 a1_1 2))) (.agg #[(VI 1), (VI 1)])) h8 fun r6 h9 => Vars h9 [(b1, [g0_1.v])] /\
 InB s63 b2_1 /\
 uop P (Instr.storeAt 36 (Value.pointer (some (Sl.at s63 b2_1 2))) (.agg #[(VI 0), (VI 1)])) h9 fun r7 h10 => Vars h10 [(b1, [g0_1.v])] /\
 ∃ J3 : Nat -> Int -> Heap -> Prop, (∃ n0 : Nat, J3 n0 0 h10) /\
 ∀ (n4 : Nat) (s74 : Int) (h11 : Heap), J3 n4 s74 h11 -> Vars h11 [(b1, [g0_1.v])] ->
 ((decide (s74 < (s24.n : Int))) = true ->
 InB s24 s74 /\
 ∃ s78 : Int, hcell h11 (Sl.at s24 s74 1) = some (VI s78) /\
 InB s57 s74 /\
 ∃ s84 : Int, hcell h11 (Sl.at s57 s74 1) = some (VI s84) /\
 callM P 74 #[(VI s84), (VI s57b)] h11 fun r8 h12 => ∃ s86 : Int, ∃ s86b : Int, r8 = (.agg #[(VI s86), (VI s86b)]) /\ Vars h12 [(b1, [g0_1.v])] /\
 InB s63 s78 /\
 uop P (Instr.storeAt 36 (Value.pointer (some (Sl.at s63 s78 2))) (.agg #[(VI s86), (VI s86b)])) h12 fun r9 h13 => Vars h13 [(b1, [g0_1.v])] /\
 ∃ m : Nat, m < n4 /\ J3 m (w64 (s74 + 1)) h13) /\
 ((decide (s74 < (s24.n : Int))) = false ->
 K s63.v h11))
theorem v62 (g0_1 : Sl) (a1_1 : Int) (b2_1 : Int) (h : Heap) (K : Value -> Heap -> Prop) (H : u62 Try.prog g0_1 a1_1 b2_1 h K) : callM Try.prog 62 #[(Value.agg #[g0_1.v]), (VI a1_1), (VI b2_1)] h K := by
  refine c62 (Value.agg #[g0_1.v]) (VI a1_1) (VI b2_1) h K ?_
  unfold u62 at H
  unfold t62
  have hL : Vars h [] := .nil
  refine eop_box 26 (Value.agg #[g0_1.v]) rfl hL (fun b1 h1 hb1 hf1 hL1 => ?_)
  refine ra agg26 hL1 0 0 [g0_1.v] ?_
  have H := H b1 h1 hb1 (Fr.no' (Fr.r (In []) _) hf1) hL1
  refine H.mono fun r1 h2 H => ?_
  obtain ⟨s24, s24b, rfl, hL2, H⟩ := H
  refine pop_ext (v := s24.v) rfl ?_
  refine pop_ext (v := s24b.v) rfl ?_
  refine pop_len s24 _ _ sli37 ?_
  obtain ⟨J1, ⟨n6, h0_3⟩, HB3⟩ := H
  refine loop_intro (J := fun (n : Nat) (vs : List Value) (h' : Heap) => ∃ right9_1 : Sl, ∃ s29 : Int, vs = [right9_1.v, (VI s29)] /\ J1 n right9_1 s29 h' /\ Vars h' [(b1, [g0_1.v])]) n6 ⟨nilSl, 0, rfl, h0_3, hL2⟩ ?_
  intro I3 mu3 hI3 junk1 tv4 tv5 h3 hi1
  obtain ⟨n1, ⟨right9_1, s29, hv, hJ1, hL3⟩, hn1⟩ := hI3 _ _ hi1
  cases hv
  have H := HB3 n1 right9_1 s29 h3 hJ1 hL3
  refine pop_lss .i64 s29 (s24.n : Int) ?_
  refine condM_b (fun hb2 => ?_) (fun hb2 => ?_)
  ·have H := H.1 hb2
   obtain ⟨hi2, H⟩ := H
   refine pop_index sli37 siz3 .i64 s24 s29 hi2 ?_
   obtain ⟨s32, hc3, H⟩ := H
   refine rop_one one3 (VI s32) hc3 ?_
   refine pop_field 0 fld26_0 b1 0 ?_
   refine rl one24 hL3 0 0 g0_1.v ?_
   obtain ⟨hi3, H⟩ := H
   refine pop_index sli24 siz37 .i64 g0_1 s32 hi3 ?_
   obtain ⟨s37, hc2, H⟩ := H
   refine rop_one one37 s37.v hc2 ?_
   refine pop_len s37 _ _ sli37 ?_
   obtain ⟨J2, ⟨n3, h0_1⟩, HB1⟩ := H
   refine loop_intro (J := fun (n : Nat) (vs : List Value) (h' : Heap) => ∃ n12_1 : Int, ∃ s39 : Int, vs = [(VI n12_1), (VI s39)] /\ J2 n n12_1 s39 h' /\ Vars h' [(b1, [g0_1.v])]) n3 ⟨0, 0, rfl, h0_1, hL3⟩ ?_
   intro I1 mu1 hI1 junk2 tv1 tv2 h4 hi4
   obtain ⟨n2, ⟨n12_1, s39, hv, hJ2, hL4⟩, hn2⟩ := hI1 _ _ hi4
   cases hv
   have H := HB1 n2 n12_1 s39 h4 hJ2 hL4
   refine pop_lss .i64 s39 (s37.n : Int) ?_
   refine condM_b (fun hb3 => ?_) (fun hb3 => ?_)
   rotate_left
   ·have H := H.2 hb3
    refine H.mono fun r2 h5 H => ?_
    obtain ⟨s51, rfl, hL5, H⟩ := H
    refine H.mono fun r3 h6 H => ?_
    obtain ⟨s52, rfl, hL6, H⟩ := H
    refine pop_add .i64 s29 1 ?_
    obtain ⟨m_3, hm_3, H⟩ := H
    exact hn1 _ _ ⟨m_3, hm_3, s52, (w64 (s29 + 1)), rfl, H, hL6⟩
   have H := H.1 hb3
   obtain ⟨hi5, H⟩ := H
   refine pop_index sli37 siz3 .i64 s37 s39 hi5 ?_
   obtain ⟨s42, hc1, H⟩ := H
   refine rop_one one3 (VI s42) hc1 ?_
   refine pop_ieq .i64 _ _ s42 a1_1 ?_
   refine condM_b (fun hb4 => ?_) (fun hb4 => ?_)
   rotate_left
   ·have H := H.2 hb4
    refine pop_add .i64 s39 1 ?_
    obtain ⟨m_2, hm_2, H⟩ := H
    exact hn2 _ _ ⟨m_2, hm_2, n12_1, (w64 (s39 + 1)), rfl, H, hL4⟩
   have H := H.1 hb4
   refine pop_add .i64 n12_1 1 ?_
   refine pop_add .i64 s39 1 ?_
   obtain ⟨m_1, hm_1, H⟩ := H
   exact hn2 _ _ ⟨m_1, hm_1, (w64 (n12_1 + 1)), (w64 (s39 + 1)), rfl, H, hL4⟩
  have H := H.2 hb2
  refine H.mono fun r4 h7 H => ?_
  obtain ⟨s57, s57b, rfl, hL7, H⟩ := H
  refine pop_ext (v := s57.v) rfl ?_
  refine pop_ext (v := (VI s57b)) rfl ?_
  refine pop_field 0 fld26_0 b1 0 ?_
  refine rl one24 hL7 0 0 g0_1.v ?_
  refine pop_len g0_1 _ _ sli24 ?_
  refine H.mono fun r5 h8 H => ?_
  obtain ⟨s63, rfl, hL8, H⟩ := H
  refine pop.mk' (v := (Value.agg #[(VI 1), (VI 1)])) (fun w => by kernel_rfl) ?_
  obtain ⟨hi6, H⟩ := H
  refine pop_index sli29 siz36 .i64 s63 a1_1 hi6 ?_
  refine H.mono fun r6 h9 H => ?_
  obtain ⟨hL9, H⟩ := H
  refine pop.mk' (v := (Value.agg #[(VI 0), (VI 1)])) (fun w => by kernel_rfl) ?_
  obtain ⟨hi7, H⟩ := H
  refine pop_index sli29 siz36 .i64 s63 b2_1 hi7 ?_
  refine H.mono fun r7 h10 H => ?_
  obtain ⟨hL10, H⟩ := H
  refine pop_len s24 _ _ sli37 ?_
  obtain ⟨J3, ⟨n5, h0_2⟩, HB2⟩ := H
  refine loop_intro (J := fun (n : Nat) (vs : List Value) (h' : Heap) => ∃ s74 : Int, vs = [(VI s74)] /\ J3 n s74 h' /\ Vars h' [(b1, [g0_1.v])]) n5 ⟨0, rfl, h0_2, hL10⟩ ?_
  intro I2 mu2 hI2 junk3 tv3 h11 hi8
  obtain ⟨n4, ⟨s74, hv, hJ3, hL11⟩, hn3⟩ := hI2 _ _ hi8
  cases hv
  have H := HB2 n4 s74 h11 hJ3 hL11
  refine pop_lss .i64 s74 (s24.n : Int) ?_
  refine condM_b (fun hb5 => ?_) (fun hb5 => ?_)
  rotate_left
  ·exact H.2 hb5
  have H := H.1 hb5
  obtain ⟨hi9, H⟩ := H
  refine pop_index sli37 siz3 .i64 s24 s74 hi9 ?_
  obtain ⟨s78, hc5, H⟩ := H
  refine rop_one one3 (VI s78) hc5 ?_
  obtain ⟨hi10, H⟩ := H
  refine pop_index sli37 siz3 .i64 s57 s74 hi10 ?_
  obtain ⟨s84, hc4, H⟩ := H
  refine rop_one one3 (VI s84) hc4 ?_
  refine H.mono fun r8 h12 H => ?_
  obtain ⟨s86, s86b, rfl, hL12, H⟩ := H
  obtain ⟨hi11, H⟩ := H
  refine pop_index sli29 siz36 .i64 s63 s78 hi11 ?_
  refine H.mono fun r9 h13 H => ?_
  obtain ⟨hL13, H⟩ := H
  refine pop_add .i64 s74 1 ?_
  obtain ⟨m_4, hm_4, H⟩ := H
  exact hn3 _ _ ⟨m_4, hm_4, (w64 (s74 + 1)), rfl, H, hL13⟩
def u63 (P : Program) (g0_1 : Sl) (places1_1 : Sl) (h : Heap) (K : Value -> Heap -> Prop) : Prop :=
 ∀ (b1 : Nat) (h1 : Heap), h.size ≤ b1 -> Fr (In []) h h1 -> Vars h1 [(b1, [g0_1.v])] ->
 callM P 113 #[(.agg #[g0_1.v])] h1 fun r1 h2 => ∃ s6 : Bool, r1 = (VB s6) /\ Vars h2 [(b1, [g0_1.v])] /\
 (s6 = true ->
 callM P 96 #[places1_1.v, (Value.func (Fn.func 114) #[] #[(VP b1 0)])] h2 fun r2 h3 => ∃ y1 : Sl, ∃ s10 : Bool, r2 = (VB s10) /\ Vars h3 [(b1, [y1.v])] /\
 K (VB (!s10)) h3) /\
 (s6 = false ->
 K (VB false) h2)
theorem v63 (g0_1 : Sl) (places1_1 : Sl) (h : Heap) (K : Value -> Heap -> Prop) (H : u63 Try.prog g0_1 places1_1 h K) : callM Try.prog 63 #[(Value.agg #[g0_1.v]), places1_1.v] h K := by
  refine c63 (Value.agg #[g0_1.v]) places1_1.v h K ?_
  unfold u63 at H
  unfold t63
  have hL : Vars h [] := .nil
  refine eop_box 26 (Value.agg #[g0_1.v]) rfl hL (fun b1 h1 hb1 hf1 hL1 => ?_)
  refine ra agg26 hL1 0 0 [g0_1.v] ?_
  have H := H b1 h1 hb1 (Fr.no' (Fr.r (In []) _) hf1) hL1
  refine H.mono fun r1 h2 H => ?_
  obtain ⟨s6, rfl, hL2, H⟩ := H
  refine guardM_st (fun hb2 => ?_) (fun hb2 => ?_)
  rotate_left
  ·have H := H.2 hb2
   refine gm hb2 ?_
   refine gm hb2 ?_
   refine gm hb2 ?_
   refine pop_pickf' hb2 ?_
   exact H
  have H := H.1 hb2
  refine gy hb2 ?_
  refine pop_func _ _ _ ?_
  refine gy hb2 ?_
  refine H.mono fun r2 h3 H => ?_
  obtain ⟨y1, s10, rfl, hL3, H⟩ := H
  refine gy hb2 ?_
  refine pop_not s10 ?_
  refine pop_pickt' hb2 ?_
  exact H
def u64 (P : Program) (g0_1 : Sl) (a1_1 : Int) (b2_1 : Int) (h : Heap) (K : Value -> Heap -> Prop) : Prop :=
 ∀ (b1 : Nat) (h1 : Heap), h.size ≤ b1 -> Fr (In []) h h1 -> Vars h1 [(b1, [g0_1.v])] ->
 callM P 72 #[(.agg #[g0_1.v]), (VI a1_1)] h1 fun r1 h2 => ∃ s9 : Bool, r1 = (VB s9) /\ Vars h2 [(b1, [g0_1.v])] /\
 (s9 = true ->
 callM P 72 #[(.agg #[g0_1.v]), (VI b2_1)] h2 fun r2 h3 => ∃ s13 : Bool, r2 = (VB s13) /\ Vars h3 [(b1, [g0_1.v])] /\
 (s13 = true ->
 K (VB (!decide (a1_1 = b2_1))) h3) /\
 (s13 = false ->
 K (VB false) h3)) /\
 (s9 = false ->
 K (VB false) h2)
theorem v64 (g0_1 : Sl) (a1_1 : Int) (b2_1 : Int) (h : Heap) (K : Value -> Heap -> Prop) (H : u64 Try.prog g0_1 a1_1 b2_1 h K) : callM Try.prog 64 #[(Value.agg #[g0_1.v]), (VI a1_1), (VI b2_1)] h K := by
  refine c64 (Value.agg #[g0_1.v]) (VI a1_1) (VI b2_1) h K ?_
  unfold u64 at H
  unfold t64
  have hL : Vars h [] := .nil
  refine eop_box 26 (Value.agg #[g0_1.v]) rfl hL (fun b1 h1 hb1 hf1 hL1 => ?_)
  refine ra agg26 hL1 0 0 [g0_1.v] ?_
  have H := H b1 h1 hb1 (Fr.no' (Fr.r (In []) _) hf1) hL1
  refine H.mono fun r1 h2 H => ?_
  obtain ⟨s9, rfl, hL2, H⟩ := H
  refine guardM_st (fun hb2 => ?_) (fun hb2 => ?_)
  rotate_left
  ·have H := H.2 hb2
   refine gm hb2 ?_
   refine gm hb2 ?_
   refine pop_pickf' hb2 ?_
   refine gn ?_
   refine gn ?_
   refine gn ?_
   refine pop_pickf _ _ ?_
   exact H
  have H := H.1 hb2
  refine ra agg26 hL2 0 0 [g0_1.v] ?_
  refine gy hb2 ?_
  refine gy hb2 ?_
  refine H.mono fun r2 h3 H => ?_
  obtain ⟨s13, rfl, hL3, H⟩ := H
  refine pop_pickt' hb2 ?_
  refine guardM_st (fun hb3 => ?_) (fun hb3 => ?_)
  rotate_left
  ·have H := H.2 hb3
   refine gm hb3 ?_
   refine gm hb3 ?_
   refine pop_pickf' hb3 ?_
   exact H
  have H := H.1 hb3
  refine gy hb3 ?_
  refine gy hb3 ?_
  refine pop_ine .i64 _ _ a1_1 b2_1 ?_
  refine pop_pickt' hb3 ?_
  exact H
def u65 (P : Program) (g0_1 : Sl) (a1_1 : Int) (b2_1 : Int) (h : Heap) (K : Value -> Heap -> Prop) : Prop :=
 ∀ (b1 : Nat) (h1 : Heap), h.size ≤ b1 -> Fr (In []) h h1 -> Vars h1 [(b1, [g0_1.v])] ->
 ∃ J1 : Nat -> Int -> Heap -> Prop, (∃ n0 : Nat, J1 n0 0 h1) /\
 ∀ (n1 : Nat) (s13 : Int) (h2 : Heap), J1 n1 s13 h2 -> Vars h2 [(b1, [g0_1.v])] ->
 ((decide (s13 < (g0_1.n : Int))) = true ->
 InB g0_1 s13 /\
 ∃ s17 : Sl, hcell h2 (Sl.at g0_1 s13 1) = some s17.v /\
 callM P 115 #[(.agg #[g0_1.v]), (VI s13)] h2 fun r1 h3 => ∃ s20 : Sl, r1 = s20.v /\ Vars h3 [(b1, [g0_1.v])] /\
 InB s20 a1_1 /\
 ∃ s24 : Int, hcell h3 (Sl.at s20 a1_1 1) = some (VI s24) /\
 ((decide (s24 < 0)) = true ->
 InB s20 b2_1 /\
 ∃ s30 : Int, hcell h3 (Sl.at s20 b2_1 1) = some (VI s30) /\
 ((decide (s30 < 0)) = true ->
 K (VB false) h3) /\
 ((decide (s30 < 0)) = false ->
 ((!decide (s13 = a1_1)) = true ->
 ((!decide (s13 = b2_1)) = true ->
 ((decide ((s17.n : Int) = 0)) = true ->
 K (VB false) h3) /\
 ((decide ((s17.n : Int) = 0)) = false ->
 ∃ m : Nat, m < n1 /\ J1 m (w64 (s13 + 1)) h3)) /\
 ((!decide (s13 = b2_1)) = false ->
 ∃ m : Nat, m < n1 /\ J1 m (w64 (s13 + 1)) h3)) /\
 ((!decide (s13 = a1_1)) = false ->
 ∃ m : Nat, m < n1 /\ J1 m (w64 (s13 + 1)) h3))) /\
 ((decide (s24 < 0)) = false ->
 ((!decide (s13 = a1_1)) = true ->
 ((!decide (s13 = b2_1)) = true ->
 ((decide ((s17.n : Int) = 0)) = true ->
 K (VB false) h3) /\
 ((decide ((s17.n : Int) = 0)) = false ->
 ∃ m : Nat, m < n1 /\ J1 m (w64 (s13 + 1)) h3)) /\
 ((!decide (s13 = b2_1)) = false ->
 ∃ m : Nat, m < n1 /\ J1 m (w64 (s13 + 1)) h3)) /\
 ((!decide (s13 = a1_1)) = false ->
 ∃ m : Nat, m < n1 /\ J1 m (w64 (s13 + 1)) h3))) /\
 ((decide (s13 < (g0_1.n : Int))) = false ->
 K (VB true) h2)
theorem v65 (g0_1 : Sl) (a1_1 : Int) (b2_1 : Int) (h : Heap) (K : Value -> Heap -> Prop) (H : u65 Try.prog g0_1 a1_1 b2_1 h K) : callM Try.prog 65 #[(Value.agg #[g0_1.v]), (VI a1_1), (VI b2_1)] h K := by
  refine c65 (Value.agg #[g0_1.v]) (VI a1_1) (VI b2_1) h K ?_
  unfold u65 at H
  unfold t65
  have hL : Vars h [] := .nil
  refine eop_box 26 (Value.agg #[g0_1.v]) rfl hL (fun b1 h1 hb1 hf1 hL1 => ?_)
  refine pop_field 0 fld26_0 b1 0 ?_
  refine rl one24 hL1 0 0 g0_1.v ?_
  refine pop_len g0_1 _ _ sli24 ?_
  have H := H b1 h1 hb1 (Fr.no' (Fr.r (In []) _) hf1) hL1
  obtain ⟨J1, ⟨n2, h0_1⟩, HB1⟩ := H
  refine loop_intro (J := fun (n : Nat) (vs : List Value) (h' : Heap) => ∃ s13 : Int, vs = [(VI s13)] /\ J1 n s13 h' /\ Vars h' [(b1, [g0_1.v])]) n2 ⟨0, rfl, h0_1, hL1⟩ ?_
  intro I1 mu1 hI1 junk1 tv1 h2 hi1
  obtain ⟨n1, ⟨s13, hv, hJ1, hL2⟩, hn1⟩ := hI1 _ _ hi1
  cases hv
  have H := HB1 n1 s13 h2 hJ1 hL2
  refine pop_lss .i64 s13 (g0_1.n : Int) ?_
  refine condM_b (fun hb2 => ?_) (fun hb2 => ?_)
  rotate_left
  ·exact H.2 hb2
  have H := H.1 hb2
  obtain ⟨hi2, H⟩ := H
  refine pop_index sli24 siz37 .i64 g0_1 s13 hi2 ?_
  obtain ⟨s17, hc3, H⟩ := H
  refine rop_one one37 s17.v hc3 ?_
  refine ra agg26 hL2 0 0 [g0_1.v] ?_
  refine H.mono fun r1 h3 H => ?_
  obtain ⟨s20, rfl, hL3, H⟩ := H
  obtain ⟨hi3, H⟩ := H
  refine pop_index sli37 siz3 .i64 s20 a1_1 hi3 ?_
  obtain ⟨s24, hc2, H⟩ := H
  refine rop_one one3 (VI s24) hc2 ?_
  refine pop_lss .i64 s24 0 ?_
  refine guardM_st (fun hb3 => ?_) (fun hb3 => ?_)
  rotate_left
  ·have H := H.2 hb3
   refine gm hb3 ?_
   refine gm hb3 ?_
   refine gm hb3 ?_
   refine gm hb3 ?_
   refine pop_pickf' hb3 ?_
   refine guardM_y ?_
   refine guardM_y ?_
   refine guardM_y ?_
   refine pop_ine .i64 _ _ s13 a1_1 ?_
   refine guardM_y ?_
   refine guardM_st (fun hb8 => ?_) (fun hb8 => ?_)
   rotate_left
   ·have H := H.2 hb8
    refine gm hb8 ?_
    refine gm hb8 ?_
    refine guardM_y ?_
    refine pop_pickf' hb8 ?_
    refine guardM_y ?_
    refine gn ?_
    refine gn ?_
    refine gn ?_
    refine guardM_y ?_
    refine pop_pickf _ _ ?_
    refine pop_pickf _ _ ?_
    refine condM_f ?_
    refine pop_add .i64 s13 1 ?_
    obtain ⟨m_6, hm_6, H⟩ := H
    exact hn1 _ _ ⟨m_6, hm_6, (w64 (s13 + 1)), rfl, H, hL3⟩
   have H := H.1 hb8
   refine gy hb8 ?_
   refine gy hb8 ?_
   refine pop_ine .i64 _ _ s13 b2_1 ?_
   refine guardM_y ?_
   refine pop_pickt' hb8 ?_
   refine guardM_y ?_
   refine guardM_st (fun hb9 => ?_) (fun hb9 => ?_)
   rotate_left
   ·have H := H.2 hb9
    refine gm hb9 ?_
    refine gm hb9 ?_
    refine guardM_y ?_
    refine pop_pickf' hb9 ?_
    refine pop_pickf _ _ ?_
    refine condM_f ?_
    refine pop_add .i64 s13 1 ?_
    obtain ⟨m_5, hm_5, H⟩ := H
    exact hn1 _ _ ⟨m_5, hm_5, (w64 (s13 + 1)), rfl, H, hL3⟩
   have H := H.1 hb9
   refine gy hb9 ?_
   refine pop_len s17 _ _ sli37 ?_
   refine gy hb9 ?_
   refine pop_ieq .i64 _ _ (s17.n : Int) 0 ?_
   refine guardM_y ?_
   refine pop_pickt' hb9 ?_
   refine pop_pickf _ _ ?_
   refine condM_b (fun hb10 => ?_) (fun hb10 => ?_)
   ·exact H.1 hb10
   have H := H.2 hb10
   refine pop_add .i64 s13 1 ?_
   obtain ⟨m_4, hm_4, H⟩ := H
   exact hn1 _ _ ⟨m_4, hm_4, (w64 (s13 + 1)), rfl, H, hL3⟩
  have H := H.1 hb3
  refine gy hb3 ?_
  refine gy hb3 ?_
  obtain ⟨hi4, H⟩ := H
  refine pop_index sli37 siz3 .i64 s20 b2_1 hi4 ?_
  refine gy hb3 ?_
  obtain ⟨s30, hc1, H⟩ := H
  refine rop_one one3 (VI s30) hc1 ?_
  refine gy hb3 ?_
  refine pop_lss .i64 s30 0 ?_
  refine pop_pickt' hb3 ?_
  refine guardM_sf (fun hb4 => ?_) (fun hb4 => ?_)
  rotate_left
  ·have H := H.1 hb4
   refine gm hb4 ?_
   refine gm hb4 ?_
   refine gm hb4 ?_
   refine gn ?_
   refine gn ?_
   refine gn ?_
   refine gm hb4 ?_
   refine gm hb4 ?_
   refine gn ?_
   refine gn ?_
   refine gn ?_
   refine gm hb4 ?_
   refine pop_pickt' hb4 ?_
   refine condM_t ?_
   exact H
  have H := H.2 hb4
  refine gy hb4 ?_
  refine gy hb4 ?_
  refine pop_ine .i64 _ _ s13 a1_1 ?_
  refine gy hb4 ?_
  refine guardM_st (fun hb5 => ?_) (fun hb5 => ?_)
  rotate_left
  ·have H := H.2 hb5
   refine gm hb5 ?_
   refine gm hb5 ?_
   refine gy hb4 ?_
   refine pop_pickf' hb5 ?_
   refine gy hb4 ?_
   refine gn ?_
   refine gn ?_
   refine gn ?_
   refine gy hb4 ?_
   refine pop_pickf _ _ ?_
   refine pop_pickf' hb4 ?_
   refine condM_f ?_
   refine pop_add .i64 s13 1 ?_
   obtain ⟨m_3, hm_3, H⟩ := H
   exact hn1 _ _ ⟨m_3, hm_3, (w64 (s13 + 1)), rfl, H, hL3⟩
  have H := H.1 hb5
  refine gy hb5 ?_
  refine gy hb5 ?_
  refine pop_ine .i64 _ _ s13 b2_1 ?_
  refine gy hb4 ?_
  refine pop_pickt' hb5 ?_
  refine gy hb4 ?_
  refine guardM_st (fun hb6 => ?_) (fun hb6 => ?_)
  rotate_left
  ·have H := H.2 hb6
   refine gm hb6 ?_
   refine gm hb6 ?_
   refine gy hb4 ?_
   refine pop_pickf' hb6 ?_
   refine pop_pickf' hb4 ?_
   refine condM_f ?_
   refine pop_add .i64 s13 1 ?_
   obtain ⟨m_2, hm_2, H⟩ := H
   exact hn1 _ _ ⟨m_2, hm_2, (w64 (s13 + 1)), rfl, H, hL3⟩
  have H := H.1 hb6
  refine gy hb6 ?_
  refine pop_len s17 _ _ sli37 ?_
  refine gy hb6 ?_
  refine pop_ieq .i64 _ _ (s17.n : Int) 0 ?_
  refine gy hb4 ?_
  refine pop_pickt' hb6 ?_
  refine pop_pickf' hb4 ?_
  refine condM_b (fun hb7 => ?_) (fun hb7 => ?_)
  ·exact H.1 hb7
  have H := H.2 hb7
  refine pop_add .i64 s13 1 ?_
  obtain ⟨m_1, hm_1, H⟩ := H
  exact hn1 _ _ ⟨m_1, hm_1, (w64 (s13 + 1)), rfl, H, hL3⟩
def u66 (P : Program) (g0_1 : Sl) (a1_1 : Int) (b2_1 : Int) (own3_1 : Value) (atA4_1 : Int) (atB5_1 : Int) (h : Heap) (K : Value -> Heap -> Prop) : Prop :=
 ∀ (b1 : Nat) (h1 : Heap), h.size ≤ b1 -> Fr (In []) h h1 -> Vars h1 [(b1, [g0_1.v])] ->
 eop P (Instr.buildSlice 37 0 #[]) h1 fun r1 h2 => ∃ s31 : Sl, r1 = s31.v /\ Vars h2 [(b1, [g0_1.v])] /\
 ∃ J1 : Nat -> Sl -> Int -> Heap -> Prop, (∃ n0 : Nat, J1 n0 s31 0 h2) /\
 ∀ (n1 : Nat) (inner14_1 : Sl) (s35 : Int) (h3 : Heap), J1 n1 inner14_1 s35 h3 -> Vars h3 [(b1, [g0_1.v])] ->
 ((decide (s35 < (g0_1.n : Int))) = true ->
 ((!decide (s35 = a1_1)) = true ->
 ((!decide (s35 = b2_1)) = true ->
 eop P (Instr.buildSlice 37 1 #[(0, (VI s35))]) h3 fun r2 h4 => ∃ s48 : Sl, r2 = s48.v /\ Vars h4 [(b1, [g0_1.v])] /\
 eop P (appS 37 37 37 inner14_1.v s48.v) h4 fun r3 h5 => ∃ s49 : Sl, r3 = s49.v /\ Vars h5 [(b1, [g0_1.v])] /\
 ∃ m : Nat, m < n1 /\ J1 m s49 (w64 (s35 + 1)) h5) /\
 ((!decide (s35 = b2_1)) = false ->
 ∃ m : Nat, m < n1 /\ J1 m inner14_1 (w64 (s35 + 1)) h3)) /\
 ((!decide (s35 = a1_1)) = false ->
 ∃ m : Nat, m < n1 /\ J1 m inner14_1 (w64 (s35 + 1)) h3)) /\
 ((decide (s35 < (g0_1.n : Int))) = false ->
 eop P (Instr.buildSlice 24 0 #[]) h3 fun r4 h6 => ∃ s51 : Sl, r4 = s51.v /\ Vars h6 [(b1, [g0_1.v])] /\
 eop P (Instr.buildSlice 37 0 #[]) h6 fun r5 h7 => ∃ s52 : Sl, r5 = s52.v /\ Vars h7 [(b1, [g0_1.v])] /\
 ∃ J2 : Nat -> Sl -> Sl -> Int -> Heap -> Prop, (∃ n0 : Nat, J2 n0 s51 s52 0 h7) /\
 ∀ (n2 : Nat) (matrix16_1 : Sl) (right17_1 : Sl) (s55 : Int) (h8 : Heap), J2 n2 matrix16_1 right17_1 s55 h8 -> Vars h8 [(b1, [g0_1.v])] ->
 ((decide (s55 < (inner14_1.n : Int))) = true ->
 InB inner14_1 s55 /\
 ∃ s58 : Int, hcell h8 (Sl.at inner14_1 s55 1) = some (VI s58) /\
 ∃ J3 : Sl -> Int -> Heap -> Prop, ((eop P (Instr.makeSlice 37 (VI (inner14_1.n : Int)) (VI (inner14_1.n : Int))) h8 fun r6 h9 => ∃ s61 : Sl, r6 = s61.v /\ Vars h9 [(b1, [g0_1.v])] /\
 callV P own3_1 [(VI s58)] h9 fun r7 h10 => ∃ s64 : Int, r7 = (VI s64) /\ Vars h10 [(b1, [g0_1.v])] /\
 J3 s61 s64 h10) /\
 (callV P own3_1 [(VI s58)] h8 fun r8 h11 => ∃ s64b : Int, r8 = (VI s64b) /\ Vars h11 [(b1, [g0_1.v])] /\
 eop P (Instr.makeSlice 37 (VI (inner14_1.n : Int)) (VI (inner14_1.n : Int))) h11 fun r9 h12 => ∃ s61b : Sl, r9 = s61b.v /\ Vars h12 [(b1, [g0_1.v])] /\
 J3 s61b s64b h12)) /\
 ∀ (y1 : Sl) (y2 : Int) (h13 : Heap), J3 y1 y2 h13 -> Vars h13 [(b1, [g0_1.v])] ->
 InB g0_1 s58 /\
 ∃ s69 : Sl, hcell h13 (Sl.at g0_1 s58 1) = some s69.v /\
 ∃ J4 : Nat -> Int -> Int -> Heap -> Prop, (∃ n0 : Nat, J4 n0 y2 0 h13) /\
 ∀ (n3 : Nat) (sum21_1 : Int) (s71 : Int) (h14 : Heap), J4 n3 sum21_1 s71 h14 -> Vars h14 [(b1, [g0_1.v])] ->
 ((decide (s71 < (s69.n : Int))) = true ->
 InB s69 s71 /\
 ∃ s74 : Int, hcell h14 (Sl.at s69 s71 1) = some (VI s74) /\
 ((decide (s74 = a1_1)) = true ->
 ∃ m : Nat, m < n3 /\ J4 m (w64 (sum21_1 + atA4_1)) (w64 (s71 + 1)) h14) /\
 ((decide (s74 = a1_1)) = false ->
 ((decide (s74 = b2_1)) = true ->
 ∃ m : Nat, m < n3 /\ J4 m (w64 (sum21_1 + atB5_1)) (w64 (s71 + 1)) h14) /\
 ((decide (s74 = b2_1)) = false ->
 callM P 116 #[inner14_1.v, (VI s74)] h14 fun r10 h15 => ∃ s79 : Int, r10 = (VI s79) /\ Vars h15 [(b1, [g0_1.v])] /\
 InB y1 s79 /\
 ∃ s81 : Int, hcell h15 (Sl.at y1 s79 1) = some (VI s81) /\
 InB y1 s79 /\
 Writable h15 (Sl.at y1 s79 1) /\ Vars (hset h15 (Sl.at y1 s79 1) (VI (w64 (s81 - 1)))) [(b1, [g0_1.v])] /\
 ∀ h16 : Heap, h16 = hset h15 (Sl.at y1 s79 1) (VI (w64 (s81 - 1))) -> Vars h16 [(b1, [g0_1.v])] ->
 ∃ m : Nat, m < n3 /\ J4 m sum21_1 (w64 (s71 + 1)) h16))) /\
 ((decide (s71 < (s69.n : Int))) = false ->
 InB y1 (matrix16_1.n : Int) /\
 ∃ s101 : Int, hcell h14 (Sl.at y1 (matrix16_1.n : Int) 1) = some (VI s101) /\
 InB g0_1 s58 /\
 ∃ s106 : Sl, hcell h14 (Sl.at g0_1 s58 1) = some s106.v /\
 InB y1 (matrix16_1.n : Int) /\
 Writable h14 (Sl.at y1 (matrix16_1.n : Int) 1) /\ Vars (hset h14 (Sl.at y1 (matrix16_1.n : Int) 1) (VI (w64 (s101 + (s106.n : Int))))) [(b1, [g0_1.v])] /\
 ∀ h17 : Heap, h17 = hset h14 (Sl.at y1 (matrix16_1.n : Int) 1) (VI (w64 (s101 + (s106.n : Int)))) -> Vars h17 [(b1, [g0_1.v])] ->
 eop P (Instr.buildSlice 24 1 #[(0, y1.v)]) h17 fun r11 h18 => ∃ s112 : Sl, r11 = s112.v /\ Vars h18 [(b1, [g0_1.v])] /\
 eop P (appS 24 24 24 matrix16_1.v s112.v) h18 fun r12 h19 => ∃ s113 : Sl, r12 = s113.v /\ Vars h19 [(b1, [g0_1.v])] /\
 eop P (Instr.buildSlice 37 1 #[(0, (VI sum21_1))]) h19 fun r13 h20 => ∃ s116 : Sl, r13 = s116.v /\ Vars h20 [(b1, [g0_1.v])] /\
 eop P (appS 37 37 37 right17_1.v s116.v) h20 fun r14 h21 => ∃ s117 : Sl, r14 = s117.v /\ Vars h21 [(b1, [g0_1.v])] /\
 ∃ m : Nat, m < n2 /\ J2 m s113 s117 (w64 (s55 + 1)) h21)) /\
 ((decide (s55 < (inner14_1.n : Int))) = false ->
 callM P 88 #[matrix16_1.v] h8 fun r15 h22 => ∃ s120 : Int, r15 = (VI s120) /\ Vars h22 [(b1, [g0_1.v])] /\
 eop P (Instr.makeSlice 37 (VI (g0_1.n : Int)) (VI (g0_1.n : Int))) h22 fun r16 h23 => ∃ s124 : Sl, r16 = s124.v /\ Vars h23 [(b1, [g0_1.v])] /\
 InB s124 a1_1 /\
 Writable h23 (Sl.at s124 a1_1 1) /\ Vars (hset h23 (Sl.at s124 a1_1 1) (VI (w64 (atA4_1 * s120)))) [(b1, [g0_1.v])] /\
 ∀ h24 : Heap, h24 = hset h23 (Sl.at s124 a1_1 1) (VI (w64 (atA4_1 * s120))) -> Vars h24 [(b1, [g0_1.v])] ->
 InB s124 b2_1 /\
 Writable h24 (Sl.at s124 b2_1 1) /\ Vars (hset h24 (Sl.at s124 b2_1 1) (VI (w64 (atB5_1 * s120)))) [(b1, [g0_1.v])] /\
 ∀ h25 : Heap, h25 = hset h24 (Sl.at s124 b2_1 1) (VI (w64 (atB5_1 * s120))) -> Vars h25 [(b1, [g0_1.v])] ->
 ∃ J5 : Nat -> Int -> Heap -> Prop, (∃ n0 : Nat, J5 n0 0 h25) /\
 ∀ (n5 : Nat) (s139 : Int) (h26 : Heap), J5 n5 s139 h26 -> Vars h26 [(b1, [g0_1.v])] ->
 ((decide (s139 < (inner14_1.n : Int))) = true ->
 InB inner14_1 s139 /\
 ∃ s143 : Int, hcell h26 (Sl.at inner14_1 s139 1) = some (VI s143) /\
 eop P (Instr.buildSlice 24 0 #[]) h26 fun r17 h27 => ∃ s144 : Sl, r17 = s144.v /\ Vars h27 [(b1, [g0_1.v])] /\
 ∃ J6 : Nat -> Sl -> Int -> Heap -> Prop, (∃ n0 : Nat, J6 n0 s144 0 h27) /\
 ∀ (n6 : Nat) (other28_1 : Sl) (s147 : Int) (h28 : Heap), J6 n6 other28_1 s147 h28 -> Vars h28 [(b1, [g0_1.v])] ->
 ((decide (s147 < (matrix16_1.n : Int))) = true ->
 InB matrix16_1 s147 /\
 ∃ s151 : Sl, hcell h28 (Sl.at matrix16_1 s147 1) = some s151.v /\
 callM P 117 #[s151.v] h28 fun r18 h29 => ∃ s153 : Sl, r18 = s153.v /\ Vars h29 [(b1, [g0_1.v])] /\
 InB right17_1 s147 /\
 ∃ s159 : Int, hcell h29 (Sl.at right17_1 s147 1) = some (VI s159) /\
 InB s153 s139 /\
 Writable h29 (Sl.at s153 s139 1) /\ Vars (hset h29 (Sl.at s153 s139 1) (VI s159)) [(b1, [g0_1.v])] /\
 ∀ h30 : Heap, h30 = hset h29 (Sl.at s153 s139 1) (VI s159) -> Vars h30 [(b1, [g0_1.v])] ->
 eop P (Instr.buildSlice 24 1 #[(0, s153.v)]) h30 fun r19 h31 => ∃ s163 : Sl, r19 = s163.v /\ Vars h31 [(b1, [g0_1.v])] /\
 eop P (appS 24 24 24 other28_1.v s163.v) h31 fun r20 h32 => ∃ s164 : Sl, r20 = s164.v /\ Vars h32 [(b1, [g0_1.v])] /\
 ∃ m : Nat, m < n6 /\ J6 m s164 (w64 (s147 + 1)) h32) /\
 ((decide (s147 < (matrix16_1.n : Int))) = false ->
 callM P 88 #[other28_1.v] h28 fun r21 h33 => ∃ s169 : Int, r21 = (VI s169) /\ Vars h33 [(b1, [g0_1.v])] /\
 InB s124 s143 /\
 Writable h33 (Sl.at s124 s143 1) /\ Vars (hset h33 (Sl.at s124 s143 1) (VI s169)) [(b1, [g0_1.v])] /\
 ∀ h34 : Heap, h34 = hset h33 (Sl.at s124 s143 1) (VI s169) -> Vars h34 [(b1, [g0_1.v])] ->
 ∃ m : Nat, m < n5 /\ J5 m (w64 (s139 + 1)) h34)) /\
 ((decide (s139 < (inner14_1.n : Int))) = false ->
 K (.tuple #[s124.v, (VI s120)]) h26)))
theorem v66 (g0_1 : Sl) (a1_1 : Int) (b2_1 : Int) (own3_1 : Value) (atA4_1 : Int) (atB5_1 : Int) (h : Heap) (K : Value -> Heap -> Prop) (H : u66 Try.prog g0_1 a1_1 b2_1 own3_1 atA4_1 atB5_1 h K) : callM Try.prog 66 #[(Value.agg #[g0_1.v]), (VI a1_1), (VI b2_1), own3_1, (VI atA4_1), (VI atB5_1)] h K := by
  refine c66 (Value.agg #[g0_1.v]) (VI a1_1) (VI b2_1) own3_1 (VI atA4_1) (VI atB5_1) h K ?_
  unfold u66 at H
  unfold t66
  have hL : Vars h [] := .nil
  refine eop_box 26 (Value.agg #[g0_1.v]) rfl hL (fun b1 h1 hb1 hf1 hL1 => ?_)
  have H := H b1 h1 hb1 (Fr.no' (Fr.r (In []) _) hf1) hL1
  refine H.mono fun r1 h2 H => ?_
  obtain ⟨s31, rfl, hL2, H⟩ := H
  refine pop_field 0 fld26_0 b1 0 ?_
  refine rl one24 hL2 0 0 g0_1.v ?_
  refine pop_len g0_1 _ _ sli24 ?_
  obtain ⟨J1, ⟨n10, h0_5⟩, HB6⟩ := H
  refine loop_intro (J := fun (n : Nat) (vs : List Value) (h' : Heap) => ∃ inner14_1 : Sl, ∃ s35 : Int, vs = [inner14_1.v, (VI s35)] /\ J1 n inner14_1 s35 h' /\ Vars h' [(b1, [g0_1.v])]) n10 ⟨s31, 0, rfl, h0_5, hL2⟩ ?_
  intro I5 mu5 hI5 junk1 tv11 tv12 h3 hi1
  obtain ⟨n1, ⟨inner14_1, s35, hv, hJ1, hL3⟩, hn1⟩ := hI5 _ _ hi1
  cases hv
  have H := HB6 n1 inner14_1 s35 h3 hJ1 hL3
  refine pop_lss .i64 s35 (g0_1.n : Int) ?_
  refine condM_b (fun hb2 => ?_) (fun hb2 => ?_)
  ·have H := H.1 hb2
   refine pop_ine .i64 _ _ s35 a1_1 ?_
   refine guardM_st (fun hb3 => ?_) (fun hb3 => ?_)
   rotate_left
   ·have H := H.2 hb3
    refine gm hb3 ?_
    refine gm hb3 ?_
    refine pop_pickf' hb3 ?_
    refine condM_f ?_
    refine pop_add .i64 s35 1 ?_
    obtain ⟨m_3, hm_3, H⟩ := H
    exact hn1 _ _ ⟨m_3, hm_3, inner14_1, (w64 (s35 + 1)), rfl, H, hL3⟩
   have H := H.1 hb3
   refine gy hb3 ?_
   refine gy hb3 ?_
   refine pop_ine .i64 _ _ s35 b2_1 ?_
   refine pop_pickt' hb3 ?_
   refine condM_b (fun hb4 => ?_) (fun hb4 => ?_)
   rotate_left
   ·have H := H.2 hb4
    refine pop_add .i64 s35 1 ?_
    obtain ⟨m_2, hm_2, H⟩ := H
    exact hn1 _ _ ⟨m_2, hm_2, inner14_1, (w64 (s35 + 1)), rfl, H, hL3⟩
   have H := H.1 hb4
   refine H.mono fun r2 h4 H => ?_
   obtain ⟨s48, rfl, hL4, H⟩ := H
   refine H.mono fun r3 h5 H => ?_
   obtain ⟨s49, rfl, hL5, H⟩ := H
   refine pop_add .i64 s35 1 ?_
   obtain ⟨m_1, hm_1, H⟩ := H
   exact hn1 _ _ ⟨m_1, hm_1, s49, (w64 (s35 + 1)), rfl, H, hL5⟩
  have H := H.2 hb2
  refine H.mono fun r4 h6 H => ?_
  obtain ⟨s51, rfl, hL6, H⟩ := H
  refine H.mono fun r5 h7 H => ?_
  obtain ⟨s52, rfl, hL7, H⟩ := H
  refine pop_len inner14_1 _ _ sli37 ?_
  obtain ⟨J2, ⟨n9, h0_4⟩, HB5⟩ := H
  refine loop_intro (J := fun (n : Nat) (vs : List Value) (h' : Heap) => ∃ matrix16_1 : Sl, ∃ right17_1 : Sl, ∃ s55 : Int, vs = [matrix16_1.v, right17_1.v, (VI s55)] /\ J2 n matrix16_1 right17_1 s55 h' /\ Vars h' [(b1, [g0_1.v])]) n9 ⟨s51, s52, 0, rfl, h0_4, hL7⟩ ?_
  intro I4 mu4 hI4 junk2 tv8 tv9 tv10 h8 hi2
  obtain ⟨n2, ⟨matrix16_1, right17_1, s55, hv, hJ2, hL8⟩, hn2⟩ := hI4 _ _ hi2
  cases hv
  have H := HB5 n2 matrix16_1 right17_1 s55 h8 hJ2 hL8
  refine pop_lss .i64 s55 (inner14_1.n : Int) ?_
  refine condM_b (fun hb5 => ?_) (fun hb5 => ?_)
  rotate_left
  ·have H := H.2 hb5
   refine H.mono fun r15 h22 H => ?_
   obtain ⟨s120, rfl, hL22, H⟩ := H
   refine pop_field 0 fld26_0 b1 0 ?_
   refine rl one24 hL22 0 0 g0_1.v ?_
   refine pop_len g0_1 _ _ sli24 ?_
   refine H.mono fun r16 h23 H => ?_
   obtain ⟨s124, rfl, hL23, H⟩ := H
   refine pop_mul .i64 atA4_1 s120 ?_
   refine pop_mul .i64 atB5_1 s120 ?_
   obtain ⟨hi12, H⟩ := H
   refine pop_index sli37 siz3 .i64 s124 a1_1 hi12 ?_
   obtain ⟨hw_3, hL24, H⟩ := H
   refine uop_cell (v := (VI (w64 (atA4_1 * s120)))) siz3 hw_3 rfl (fun h24 he_3 => ?_)
   rw [← he_3] at hL24
   have H := H h24 he_3 hL24
   obtain ⟨hi13, H⟩ := H
   refine pop_index sli37 siz3 .i64 s124 b2_1 hi13 ?_
   obtain ⟨hw_4, hL25, H⟩ := H
   refine uop_cell (v := (VI (w64 (atB5_1 * s120)))) siz3 hw_4 rfl (fun h25 he_4 => ?_)
   rw [← he_4] at hL25
   have H := H h25 he_4 hL25
   refine pop_len inner14_1 _ _ sli37 ?_
   obtain ⟨J5, ⟨n8, h0_3⟩, HB4⟩ := H
   refine loop_intro (J := fun (n : Nat) (vs : List Value) (h' : Heap) => ∃ s139 : Int, vs = [(VI s139)] /\ J5 n s139 h' /\ Vars h' [(b1, [g0_1.v])]) n8 ⟨0, rfl, h0_3, hL25⟩ ?_
   intro I3 mu3 hI3 junk5 tv7 h26 hi14
   obtain ⟨n5, ⟨s139, hv, hJ5, hL26⟩, hn4⟩ := hI3 _ _ hi14
   cases hv
   have H := HB4 n5 s139 h26 hJ5 hL26
   refine pop_lss .i64 s139 (inner14_1.n : Int) ?_
   refine condM_b (fun hb9 => ?_) (fun hb9 => ?_)
   rotate_left
   ·exact H.2 hb9
   have H := H.1 hb9
   obtain ⟨hi15, H⟩ := H
   refine pop_index sli37 siz3 .i64 inner14_1 s139 hi15 ?_
   obtain ⟨s143, hc9, H⟩ := H
   refine rop_one one3 (VI s143) hc9 ?_
   refine H.mono fun r17 h27 H => ?_
   obtain ⟨s144, rfl, hL27, H⟩ := H
   refine pop_len matrix16_1 _ _ sli24 ?_
   obtain ⟨J6, ⟨n7, h0_2⟩, HB3⟩ := H
   refine loop_intro (J := fun (n : Nat) (vs : List Value) (h' : Heap) => ∃ other28_1 : Sl, ∃ s147 : Int, vs = [other28_1.v, (VI s147)] /\ J6 n other28_1 s147 h' /\ Vars h' [(b1, [g0_1.v])]) n7 ⟨s144, 0, rfl, h0_2, hL27⟩ ?_
   intro I2 mu2 hI2 junk6 tv5 tv6 h28 hi16
   obtain ⟨n6, ⟨other28_1, s147, hv, hJ6, hL28⟩, hn5⟩ := hI2 _ _ hi16
   cases hv
   have H := HB3 n6 other28_1 s147 h28 hJ6 hL28
   refine pop_lss .i64 s147 (matrix16_1.n : Int) ?_
   refine condM_b (fun hb10 => ?_) (fun hb10 => ?_)
   rotate_left
   ·have H := H.2 hb10
    refine H.mono fun r21 h33 H => ?_
    obtain ⟨s169, rfl, hL33, H⟩ := H
    obtain ⟨hi20, H⟩ := H
    refine pop_index sli37 siz3 .i64 s124 s143 hi20 ?_
    obtain ⟨hw_6, hL34, H⟩ := H
    refine uop_cell (v := (VI s169)) siz3 hw_6 rfl (fun h34 he_6 => ?_)
    rw [← he_6] at hL34
    have H := H h34 he_6 hL34
    refine pop_add .i64 s139 1 ?_
    obtain ⟨m_9, hm_9, H⟩ := H
    exact hn4 _ _ ⟨m_9, hm_9, (w64 (s139 + 1)), rfl, H, hL34⟩
   have H := H.1 hb10
   obtain ⟨hi17, H⟩ := H
   refine pop_index sli24 siz37 .i64 matrix16_1 s147 hi17 ?_
   obtain ⟨s151, hc8, H⟩ := H
   refine rop_one one37 s151.v hc8 ?_
   refine H.mono fun r18 h29 H => ?_
   obtain ⟨s153, rfl, hL29, H⟩ := H
   obtain ⟨hi18, H⟩ := H
   refine pop_index sli37 siz3 .i64 right17_1 s147 hi18 ?_
   obtain ⟨s159, hc7, H⟩ := H
   refine rop_one one3 (VI s159) hc7 ?_
   obtain ⟨hi19, H⟩ := H
   refine pop_index sli37 siz3 .i64 s153 s139 hi19 ?_
   obtain ⟨hw_5, hL30, H⟩ := H
   refine uop_cell (v := (VI s159)) siz3 hw_5 rfl (fun h30 he_5 => ?_)
   rw [← he_5] at hL30
   have H := H h30 he_5 hL30
   refine H.mono fun r19 h31 H => ?_
   obtain ⟨s163, rfl, hL31, H⟩ := H
   refine H.mono fun r20 h32 H => ?_
   obtain ⟨s164, rfl, hL32, H⟩ := H
   refine pop_add .i64 s147 1 ?_
   obtain ⟨m_8, hm_8, H⟩ := H
   exact hn5 _ _ ⟨m_8, hm_8, s164, (w64 (s147 + 1)), rfl, H, hL32⟩
  have H := H.1 hb5
  obtain ⟨hi3, H⟩ := H
  refine pop_index sli37 siz3 .i64 inner14_1 s55 hi3 ?_
  obtain ⟨s58, hc6, H⟩ := H
  refine rop_one one3 (VI s58) hc6 ?_
  obtain ⟨J3, H, HB2⟩ := H
  refine ⟨fun (vs : List Value) (h' : Heap) => ∃ y1 : Sl, ∃ y2 : Int, vs = [y1.v, (VI y2)] /\ J3 y1 y2 h' /\ Vars h' [(b1, [g0_1.v])], ?_, ?_⟩
  ·refine pop_len inner14_1 _ _ sli37 ?_
   refine ⟨?_, ?_⟩
   ·have H := H.1
    refine H.mono fun r6 h9 H => ?_
    obtain ⟨s61, rfl, hL9, H⟩ := H
    refine H.mono fun r7 h10 H => ?_
    obtain ⟨s64, rfl, hL10, H⟩ := H
    exact ⟨s61, s64, rfl, H, hL10⟩
   have H := H.2
   refine H.mono fun r8 h11 H => ?_
   obtain ⟨s64b, rfl, hL11, H⟩ := H
   refine H.mono fun r9 h12 H => ?_
   obtain ⟨s61b, rfl, hL12, H⟩ := H
   exact ⟨s61b, s64b, rfl, H, hL12⟩
  intro junk3 tv1 tv2 h13
  rintro ⟨y1, y2, hv, hJ3, hL13⟩
  cases hv
  have H := HB2 y1 y2 h13 hJ3 hL13
  refine pop_field 0 fld26_0 b1 0 ?_
  refine rl one24 hL13 0 0 g0_1.v ?_
  obtain ⟨hi4, H⟩ := H
  refine pop_index sli24 siz37 .i64 g0_1 s58 hi4 ?_
  obtain ⟨s69, hc5, H⟩ := H
  refine rop_one one37 s69.v hc5 ?_
  refine pop_len s69 _ _ sli37 ?_
  obtain ⟨J4, ⟨n4, h0_1⟩, HB1⟩ := H
  refine loop_intro (J := fun (n : Nat) (vs : List Value) (h' : Heap) => ∃ sum21_1 : Int, ∃ s71 : Int, vs = [(VI sum21_1), (VI s71)] /\ J4 n sum21_1 s71 h' /\ Vars h' [(b1, [g0_1.v])]) n4 ⟨y2, 0, rfl, h0_1, hL13⟩ ?_
  intro I1 mu1 hI1 junk4 tv3 tv4 h14 hi5
  obtain ⟨n3, ⟨sum21_1, s71, hv, hJ4, hL14⟩, hn3⟩ := hI1 _ _ hi5
  cases hv
  have H := HB1 n3 sum21_1 s71 h14 hJ4 hL14
  refine pop_lss .i64 s71 (s69.n : Int) ?_
  refine condM_b (fun hb6 => ?_) (fun hb6 => ?_)
  rotate_left
  ·have H := H.2 hb6
   refine pop_len matrix16_1 _ _ sli24 ?_
   obtain ⟨hi9, H⟩ := H
   refine pop_index sli37 siz3 .i64 y1 (matrix16_1.n : Int) hi9 ?_
   obtain ⟨s101, hc4, H⟩ := H
   refine rop_one one3 (VI s101) hc4 ?_
   refine pop_field 0 fld26_0 b1 0 ?_
   refine rl one24 hL14 0 0 g0_1.v ?_
   obtain ⟨hi10, H⟩ := H
   refine pop_index sli24 siz37 .i64 g0_1 s58 hi10 ?_
   obtain ⟨s106, hc3, H⟩ := H
   refine rop_one one37 s106.v hc3 ?_
   refine pop_len s106 _ _ sli37 ?_
   refine pop_add .i64 s101 (s106.n : Int) ?_
   obtain ⟨hi11, H⟩ := H
   refine pop_index sli37 siz3 .i64 y1 (matrix16_1.n : Int) hi11 ?_
   obtain ⟨hw_2, hL17, H⟩ := H
   refine uop_cell (v := (VI (w64 (s101 + (s106.n : Int))))) siz3 hw_2 rfl (fun h17 he_2 => ?_)
   rw [← he_2] at hL17
   have H := H h17 he_2 hL17
   refine H.mono fun r11 h18 H => ?_
   obtain ⟨s112, rfl, hL18, H⟩ := H
   refine H.mono fun r12 h19 H => ?_
   obtain ⟨s113, rfl, hL19, H⟩ := H
   refine H.mono fun r13 h20 H => ?_
   obtain ⟨s116, rfl, hL20, H⟩ := H
   refine H.mono fun r14 h21 H => ?_
   obtain ⟨s117, rfl, hL21, H⟩ := H
   refine pop_add .i64 s55 1 ?_
   obtain ⟨m_7, hm_7, H⟩ := H
   exact hn2 _ _ ⟨m_7, hm_7, s113, s117, (w64 (s55 + 1)), rfl, H, hL21⟩
  have H := H.1 hb6
  obtain ⟨hi6, H⟩ := H
  refine pop_index sli37 siz3 .i64 s69 s71 hi6 ?_
  obtain ⟨s74, hc2, H⟩ := H
  refine rop_one one3 (VI s74) hc2 ?_
  refine pop_ieq .i64 _ _ s74 a1_1 ?_
  refine condM_b (fun hb7 => ?_) (fun hb7 => ?_)
  ·have H := H.1 hb7
   refine pop_add .i64 sum21_1 atA4_1 ?_
   refine pop_add .i64 s71 1 ?_
   obtain ⟨m_4, hm_4, H⟩ := H
   exact hn3 _ _ ⟨m_4, hm_4, (w64 (sum21_1 + atA4_1)), (w64 (s71 + 1)), rfl, H, hL14⟩
  have H := H.2 hb7
  refine pop_ieq .i64 _ _ s74 b2_1 ?_
  refine condM_b (fun hb8 => ?_) (fun hb8 => ?_)
  ·have H := H.1 hb8
   refine pop_add .i64 sum21_1 atB5_1 ?_
   refine pop_add .i64 s71 1 ?_
   obtain ⟨m_5, hm_5, H⟩ := H
   exact hn3 _ _ ⟨m_5, hm_5, (w64 (sum21_1 + atB5_1)), (w64 (s71 + 1)), rfl, H, hL14⟩
  have H := H.2 hb8
  refine H.mono fun r10 h15 H => ?_
  obtain ⟨s79, rfl, hL15, H⟩ := H
  obtain ⟨hi7, H⟩ := H
  refine pop_index sli37 siz3 .i64 y1 s79 hi7 ?_
  obtain ⟨s81, hc1, H⟩ := H
  refine rop_one one3 (VI s81) hc1 ?_
  refine pop_sub .i64 s81 1 ?_
  obtain ⟨hi8, H⟩ := H
  refine pop_index sli37 siz3 .i64 y1 s79 hi8 ?_
  obtain ⟨hw_1, hL16, H⟩ := H
  refine uop_cell (v := (VI (w64 (s81 - 1)))) siz3 hw_1 rfl (fun h16 he_1 => ?_)
  rw [← he_1] at hL16
  have H := H h16 he_1 hL16
  refine pop_add .i64 s71 1 ?_
  obtain ⟨m_6, hm_6, H⟩ := H
  exact hn3 _ _ ⟨m_6, hm_6, sum21_1, (w64 (s71 + 1)), rfl, H, hL16⟩
def u67 (P : Program) (p0_1 : Int) (b1 : Nat) (s1 : Sl) (h : Heap) (K : Value -> Heap -> Prop) : Prop :=
 InB s1 p0_1 /\
 ∃ s8 : Sl, hcell h (Sl.at s1 p0_1 1) = some s8.v /\
 K (VI (s8.n : Int)) h
theorem v67 (p0_1 : Int) (b1 : Nat) (s1 : Sl) (h : Heap) (K : Value -> Heap -> Prop) (hL : Vars h [(b1, [s1.v])]) (H : u67 Try.prog p0_1 b1 s1 h K) : callM Try.prog 67 #[(VI p0_1), (VP b1 0)] h K := by
  refine c67 (VI p0_1) (VP b1 0) h K ?_
  unfold u67 at H
  unfold t67
  refine pop_field 0 fld26_0 b1 0 ?_
  refine rl one24 hL 0 0 s1.v ?_
  obtain ⟨hi1, H⟩ := H
  refine pop_index sli24 siz37 .i64 s1 p0_1 hi1 ?_
  obtain ⟨s8, hc1, H⟩ := H
  refine rop_one one37 s8.v hc1 ?_
  refine pop_len s8 _ _ sli37 ?_
  exact H
def u68 (P : Program) (b1 : Nat) (c0_1 : Sl) (c0_2 : Int) (c0_3 : Int) (h : Heap) (K : Value -> Heap -> Prop) : Prop :=
 ∀ (b2 : Nat) (h1 : Heap), h.size ≤ b2 -> Fr (In []) h h1 -> Vars h1 [(b2, [nilSl.v]), (b1, [c0_1.v, (VI c0_2), (Value.int .u64 c0_3)])] ->
 callM P 118 #[(VP b1 0), (VI 6)] h1 fun r1 h2 => ∃ y1 : Sl, ∃ y2 : Int, ∃ y3 : Int, ∃ s5 : Sl, r1 = (.agg #[s5.v]) /\ Vars h2 [(b2, [nilSl.v]), (b1, [y1.v, (VI y2), (Value.int .u64 y3)])] /\
 ∀ (b3 : Nat) (h4 : Heap), h2.size ≤ b3 -> Fr (In []) h2 h4 -> Vars h4 [(b3, [s5.v]), (b2, [nilSl.v]), (b1, [y1.v, (VI y2), (Value.int .u64 y3)])] ->
 callM P 70 #[(VP b1 0), (VI 16)] h4 fun r2 h5 => ∃ y4 : Sl, ∃ y5 : Int, ∃ y6 : Int, ∃ s7 : Int, r2 = (VI s7) /\ Vars h5 [(b3, [s5.v]), (b2, [nilSl.v]), (b1, [y4.v, (VI y5), (Value.int .u64 y6)])] /\
 ((decide (s7 = 0)) = true ->
 InB s5 0 /\
 ∃ s15 : Sl, hcell h5 (Sl.at s5 0 1) = some s15.v /\
 eop P (Instr.buildSlice 37 3 #[(0, (.int .i64 (-1))), (1, (VI (s5.n : Int))), (2, (.int .i64 4611686018427387904))]) h5 fun r3 h6 => ∃ s20 : Sl, r3 = s20.v /\ Vars h6 [(b3, [s5.v]), (b2, [nilSl.v]), (b1, [y4.v, (VI y5), (Value.int .u64 y6)])] /\
 hcell h6 (Sl.at s5 0 1) = some s15.v /\
 callM P 107 #[(VP b1 0), s20.v] h6 fun r4 h7 => ∃ y7 : Sl, ∃ y8 : Int, ∃ y9 : Int, ∃ s21 : Int, r4 = (VI s21) /\ Vars h7 [(b3, [s5.v]), (b2, [nilSl.v]), (b1, [y7.v, (VI y8), (Value.int .u64 y9)])] /\
 hcell h7 (Sl.at s5 0 1) = some s15.v /\
 eop P (Instr.buildSlice 37 1 #[(0, (VI s21))]) h7 fun r5 h8 => ∃ s22 : Sl, r5 = s22.v /\ Vars h8 [(b3, [s5.v]), (b2, [nilSl.v]), (b1, [y7.v, (VI y8), (Value.int .u64 y9)])] /\
 hcell h8 (Sl.at s5 0 1) = some s15.v /\
 eop P (appS 37 37 37 s15.v s22.v) h8 fun r6 h9 => ∃ s23 : Sl, r6 = s23.v /\ Vars h9 [(b3, [s5.v]), (b2, [nilSl.v]), (b1, [y7.v, (VI y8), (Value.int .u64 y9)])] /\
 InB s5 0 /\
 Writable h9 (Sl.at s5 0 1) /\ Vars (hset h9 (Sl.at s5 0 1) s23.v) [(b3, [s5.v]), (b2, [nilSl.v]), (b1, [y7.v, (VI y8), (Value.int .u64 y9)])] /\
 ∀ h10 : Heap, h10 = hset h9 (Sl.at s5 0 1) s23.v -> Vars h10 [(b3, [s5.v]), (b2, [nilSl.v]), (b1, [y7.v, (VI y8), (Value.int .u64 y9)])] ->
 ∀ (h11 : Heap), Fr (In [b2]) h10 h11 -> Vars h11 [(b3, [s5.v]), (b2, [s5.v]), (b1, [y7.v, (VI y8), (Value.int .u64 y9)])] ->
 K (.agg #[s5.v]) h11) /\
 ((decide (s7 = 0)) = false ->
 ((decide (s7 = 1)) = true ->
 callM P 70 #[(VP b1 0), (VI 2)] h5 fun r7 h12 => ∃ y10 : Sl, ∃ y11 : Int, ∃ y12 : Int, ∃ s30 : Int, r7 = (VI s30) /\ Vars h12 [(b3, [s5.v]), (b2, [nilSl.v]), (b1, [y10.v, (VI y11), (Value.int .u64 y12)])] /\
 eop P (Instr.makeSlice 37 (VI (w64 (5 + s30))) (VI (w64 (5 + s30)))) h12 fun r8 h13 => ∃ s32 : Sl, r8 = s32.v /\ Vars h13 [(b3, [s5.v]), (b2, [nilSl.v]), (b1, [y10.v, (VI y11), (Value.int .u64 y12)])] /\
 InB s5 0 /\
 Writable h13 (Sl.at s5 0 1) /\ Vars (hset h13 (Sl.at s5 0 1) s32.v) [(b3, [s5.v]), (b2, [nilSl.v]), (b1, [y10.v, (VI y11), (Value.int .u64 y12)])] /\
 ∀ h14 : Heap, h14 = hset h13 (Sl.at s5 0 1) s32.v -> Vars h14 [(b3, [s5.v]), (b2, [nilSl.v]), (b1, [y10.v, (VI y11), (Value.int .u64 y12)])] ->
 ∀ (h15 : Heap), Fr (In [b2]) h14 h15 -> Vars h15 [(b3, [s5.v]), (b2, [s5.v]), (b1, [y10.v, (VI y11), (Value.int .u64 y12)])] ->
 K (.agg #[s5.v]) h15) /\
 ((decide (s7 = 1)) = false ->
 ((decide (s7 = 2)) = true ->
 ∃ J1 : Nat -> Sl -> Sl -> Int -> Int -> Heap -> Prop, (∃ n0 : Nat, J1 n0 s5 y4 y5 y6 h5) /\
 ∀ (n1 : Nat) (y13 : Sl) (y14 : Sl) (y15 : Int) (y16 : Int) (h16 : Heap), J1 n1 y13 y14 y15 y16 h16 -> Vars h16 [(b3, [y13.v]), (b2, [nilSl.v]), (b1, [y14.v, (VI y15), (Value.int .u64 y16)])] ->
 callM P 70 #[(VP b1 0), (VI 2)] h16 fun r9 h17 => ∃ y17 : Sl, ∃ y18 : Int, ∃ y19 : Int, ∃ s40 : Int, r9 = (VI s40) /\ Vars h17 [(b3, [y13.v]), (b2, [nilSl.v]), (b1, [y17.v, (VI y18), (Value.int .u64 y19)])] /\
 ((decide ((y13.n : Int) < (w64 (8 + s40)))) = true ->
 eop P (Instr.buildSlice 37 1 #[(0, (.int .i64 0))]) h17 fun r10 h18 => ∃ s45 : Sl, r10 = s45.v /\ Vars h18 [(b3, [y13.v]), (b2, [nilSl.v]), (b1, [y17.v, (VI y18), (Value.int .u64 y19)])] /\
 eop P (Instr.buildSlice 24 1 #[(0, s45.v)]) h18 fun r11 h19 => ∃ s46 : Sl, r11 = s46.v /\ Vars h19 [(b3, [y13.v]), (b2, [nilSl.v]), (b1, [y17.v, (VI y18), (Value.int .u64 y19)])] /\
 eop P (appS 24 24 24 y13.v s46.v) h19 fun r12 h20 => ∃ s47 : Sl, r12 = s47.v /\ Vars h20 [(b3, [y13.v]), (b2, [nilSl.v]), (b1, [y17.v, (VI y18), (Value.int .u64 y19)])] /\
 ∀ (h21 : Heap), Fr (In [b3]) h20 h21 -> Vars h21 [(b3, [s47.v]), (b2, [nilSl.v]), (b1, [y17.v, (VI y18), (Value.int .u64 y19)])] ->
 ∃ m : Nat, m < n1 /\ J1 m s47 y17 y18 y19 h21) /\
 ((decide ((y13.n : Int) < (w64 (8 + s40)))) = false ->
 ∀ (h22 : Heap), Fr (In [b2]) h17 h22 -> Vars h22 [(b3, [y13.v]), (b2, [y13.v]), (b1, [y17.v, (VI y18), (Value.int .u64 y19)])] ->
 K (.agg #[y13.v]) h22)) /\
 ((decide (s7 = 2)) = false ->
 ((decide (s7 = 3)) = true ->
 ∀ (h24 : Heap), Fr (In [b2, b3]) h5 h24 -> Vars h24 [(b3, [nilSl.v]), (b2, [nilSl.v]), (b1, [y4.v, (VI y5), (Value.int .u64 y6)])] ->
 K (.agg #[nilSl.v]) h24) /\
 ((decide (s7 = 3)) = false ->
 ∀ (h25 : Heap), Fr (In [b2]) h5 h25 -> Vars h25 [(b3, [s5.v]), (b2, [s5.v]), (b1, [y4.v, (VI y5), (Value.int .u64 y6)])] ->
 K (.agg #[s5.v]) h25))))
theorem v68 (b1 : Nat) (c0_1 : Sl) (c0_2 : Int) (c0_3 : Int) (h : Heap) (K : Value -> Heap -> Prop) (hL : Vars h [(b1, [c0_1.v, (VI c0_2), (Value.int .u64 c0_3)])]) (H : u68 Try.prog b1 c0_1 c0_2 c0_3 h K) : callM Try.prog 68 #[(VP b1 0)] h K := by
  refine c68 (VP b1 0) h K ?_
  unfold u68 at H
  unfold t68
  refine eop_alloc 26 zer26 rfl hL (fun b2 h1 hb1 hf1 hL1 => ?_)
  have H := H b2 h1 hb1 (Fr.no' (Fr.r (In []) _) hf1) hL1
  refine H.mono fun r1 h2 H => ?_
  obtain ⟨y1, y2, y3, s5, rfl, hL2, H⟩ := H
  refine eop_alloc 26 zer26 rfl hL2 (fun b3 h3 hb2 hf2 hL3 => ?_)
  refine ul siz26 hL3 0 0 [s5.v] [(b3, [s5.v]), (b2, [nilSl.v]), (b1, [y1.v, (VI y2), (Value.int .u64 y3)])] (fun h4 hf3 hL4 => ?_)
  have H := H b3 h4 hb2 (Fr.new (Fr.no' (Fr.r (In []) _) hf2) hb2 hf3) hL4
  refine H.mono fun r2 h5 H => ?_
  obtain ⟨y4, y5, y6, s7, rfl, hL5, H⟩ := H
  refine pop_ieq .i64 _ _ s7 0 ?_
  refine condM_b (fun hb3 => ?_) (fun hb3 => ?_)
  ·have H := H.1 hb3
   refine pop_field 0 fld26_0 b3 0 ?_
   refine rl one24 hL5 0 0 s5.v ?_
   refine pop_field 0 fld26_0 b3 0 ?_
   refine rl one24 hL5 0 0 s5.v ?_
   obtain ⟨hi1, H⟩ := H
   refine pop_index sli24 siz37 .i64 s5 0 hi1 ?_
   obtain ⟨s15, hc4, H⟩ := H
   refine rop_one one37 s15.v hc4 ?_
   refine pop_field 0 fld26_0 b3 0 ?_
   refine rl one24 hL5 0 0 s5.v ?_
   refine pop_len s5 _ _ sli24 ?_
   refine H.mono fun r3 h6 H => ?_
   obtain ⟨s20, rfl, hL6, H⟩ := H
   refine ⟨?_, ?_⟩
   ·exact still_loc one24 hL6 0 rfl 0 (v := s5.v) rfl
   refine ⟨?_, ?_⟩
   ·exact still_one one37 H.1
   obtain ⟨hc1, H⟩ := H
   refine ⟨?_, ?_⟩
   ·exact still_loc one24 hL6 0 rfl 0 (v := s5.v) rfl
   refine ⟨?_, ?_⟩
   ·exact still_loc one24 hL6 0 rfl 0 (v := s5.v) rfl
   refine H.mono fun r4 h7 H => ?_
   obtain ⟨y7, y8, y9, s21, rfl, hL7, H⟩ := H
   refine ⟨?_, ?_⟩
   ·exact still_loc one24 hL7 0 rfl 0 (v := s5.v) rfl
   refine ⟨?_, ?_⟩
   ·exact still_one one37 H.1
   obtain ⟨hc2, H⟩ := H
   refine ⟨?_, ?_⟩
   ·exact still_loc one24 hL7 0 rfl 0 (v := s5.v) rfl
   refine ⟨?_, ?_⟩
   ·exact still_loc one24 hL7 0 rfl 0 (v := s5.v) rfl
   refine H.mono fun r5 h8 H => ?_
   obtain ⟨s22, rfl, hL8, H⟩ := H
   refine ⟨?_, ?_⟩
   ·exact still_loc one24 hL8 0 rfl 0 (v := s5.v) rfl
   refine ⟨?_, ?_⟩
   ·exact still_one one37 H.1
   obtain ⟨hc3, H⟩ := H
   refine ⟨?_, ?_⟩
   ·exact still_loc one24 hL8 0 rfl 0 (v := s5.v) rfl
   refine ⟨?_, ?_⟩
   ·exact still_loc one24 hL8 0 rfl 0 (v := s5.v) rfl
   refine H.mono fun r6 h9 H => ?_
   obtain ⟨s23, rfl, hL9, H⟩ := H
   refine ⟨?_, ?_⟩
   ·exact still_loc one24 hL9 0 rfl 0 (v := s5.v) rfl
   refine ⟨?_, ?_⟩
   ·exact still_loc one24 hL9 0 rfl 0 (v := s5.v) rfl
   refine ⟨?_, ?_⟩
   ·exact still_loc one24 hL9 0 rfl 0 (v := s5.v) rfl
   obtain ⟨hi2, H⟩ := H
   refine pop_index sli24 siz37 .i64 s5 0 hi2 ?_
   obtain ⟨hw_1, hL10, H⟩ := H
   refine uop_cell (v := s23.v) siz37 hw_1 rfl (fun h10 he_1 => ?_)
   rw [← he_1] at hL10
   have H := H h10 he_1 hL10
   refine ra agg26 hL10 0 0 [s5.v] ?_
   refine ul siz26 hL10 1 0 [s5.v] [(b3, [s5.v]), (b2, [s5.v]), (b1, [y7.v, (VI y8), (Value.int .u64 y9)])] (fun h11 hf4 hL11 => ?_)
   refine ra agg26 hL11 1 0 [s5.v] ?_
   have H := H  h11  (Fr.old (Fr.r (In []) _) hf4) hL11
   exact H
  have H := H.2 hb3
  refine pop_ieq .i64 _ _ s7 1 ?_
  refine condM_b (fun hb4 => ?_) (fun hb4 => ?_)
  ·have H := H.1 hb4
   refine pop_field 0 fld26_0 b3 0 ?_
   refine rl one24 hL5 0 0 s5.v ?_
   refine H.mono fun r7 h12 H => ?_
   obtain ⟨y10, y11, y12, s30, rfl, hL12, H⟩ := H
   refine ⟨?_, ?_⟩
   ·exact still_loc one24 hL12 0 rfl 0 (v := s5.v) rfl
   refine pop_add .i64 5 s30 ?_
   refine H.mono fun r8 h13 H => ?_
   obtain ⟨s32, rfl, hL13, H⟩ := H
   refine ⟨?_, ?_⟩
   ·exact still_loc one24 hL13 0 rfl 0 (v := s5.v) rfl
   obtain ⟨hi3, H⟩ := H
   refine pop_index sli24 siz37 .i64 s5 0 hi3 ?_
   obtain ⟨hw_2, hL14, H⟩ := H
   refine uop_cell (v := s32.v) siz37 hw_2 rfl (fun h14 he_2 => ?_)
   rw [← he_2] at hL14
   have H := H h14 he_2 hL14
   refine ra agg26 hL14 0 0 [s5.v] ?_
   refine ul siz26 hL14 1 0 [s5.v] [(b3, [s5.v]), (b2, [s5.v]), (b1, [y10.v, (VI y11), (Value.int .u64 y12)])] (fun h15 hf5 hL15 => ?_)
   refine ra agg26 hL15 1 0 [s5.v] ?_
   have H := H  h15  (Fr.old (Fr.r (In []) _) hf5) hL15
   exact H
  have H := H.2 hb4
  refine pop_ieq .i64 _ _ s7 2 ?_
  refine condM_b (fun hb5 => ?_) (fun hb5 => ?_)
  rotate_left
  ·have H := H.2 hb5
   refine pop_ieq .i64 _ _ s7 3 ?_
   refine condM_b (fun hb7 => ?_) (fun hb7 => ?_)
   rotate_left
   ·have H := H.2 hb7
    refine ra agg26 hL5 0 0 [s5.v] ?_
    refine ul siz26 hL5 1 0 [s5.v] [(b3, [s5.v]), (b2, [s5.v]), (b1, [y4.v, (VI y5), (Value.int .u64 y6)])] (fun h25 hf10 hL25 => ?_)
    refine ra agg26 hL25 1 0 [s5.v] ?_
    have H := H  h25  (Fr.old (Fr.r (In []) _) hf10) hL25
    exact H
   have H := H.1 hb7
   refine pop.mk' (v := (Value.agg #[nilSl.v])) (fun w => by kernel_rfl) ?_
   refine ul siz26 hL5 0 0 [nilSl.v] [(b3, [nilSl.v]), (b2, [nilSl.v]), (b1, [y4.v, (VI y5), (Value.int .u64 y6)])] (fun h23 hf8 hL23 => ?_)
   refine ra agg26 hL23 0 0 [nilSl.v] ?_
   refine ul siz26 hL23 1 0 [nilSl.v] [(b3, [nilSl.v]), (b2, [nilSl.v]), (b1, [y4.v, (VI y5), (Value.int .u64 y6)])] (fun h24 hf9 hL24 => ?_)
   refine ra agg26 hL24 1 0 [nilSl.v] ?_
   have H := H  h24  (Fr.old (Fr.old (Fr.r (In []) _) hf8) hf9) hL24
   exact H
  have H := H.1 hb5
  obtain ⟨J1, ⟨n2, h0_1⟩, HB1⟩ := H
  refine loop_intro (J := fun (n : Nat) (vs : List Value) (h' : Heap) => ∃ y13 : Sl, ∃ y14 : Sl, ∃ y15 : Int, ∃ y16 : Int, vs = [] /\ J1 n y13 y14 y15 y16 h' /\ Vars h' [(b3, [y13.v]), (b2, [nilSl.v]), (b1, [y14.v, (VI y15), (Value.int .u64 y16)])]) n2 ⟨s5, y4, y5, y6, rfl, h0_1, hL5⟩ ?_
  intro I1 mu1 hI1 junk1  h16 hi4
  obtain ⟨n1, ⟨y13, y14, y15, y16, hv, hJ1, hL16⟩, hn1⟩ := hI1 _ _ hi4
  cases hv
  have H := HB1 n1 y13 y14 y15 y16 h16 hJ1 hL16
  refine pop_field 0 fld26_0 b3 0 ?_
  refine rl one24 hL16 0 0 y13.v ?_
  refine pop_len y13 _ _ sli24 ?_
  refine H.mono fun r9 h17 H => ?_
  obtain ⟨y17, y18, y19, s40, rfl, hL17, H⟩ := H
  refine ⟨?_, ?_⟩
  ·exact still_loc one24 hL17 0 rfl 0 (v := y13.v) rfl
  refine pop_add .i64 8 s40 ?_
  refine pop_lss .i64 (y13.n : Int) (w64 (8 + s40)) ?_
  refine condM_b (fun hb6 => ?_) (fun hb6 => ?_)
  rotate_left
  ·have H := H.2 hb6
   refine ra agg26 hL17 0 0 [y13.v] ?_
   refine ul siz26 hL17 1 0 [y13.v] [(b3, [y13.v]), (b2, [y13.v]), (b1, [y17.v, (VI y18), (Value.int .u64 y19)])] (fun h22 hf7 hL22 => ?_)
   refine ra agg26 hL22 1 0 [y13.v] ?_
   have H := H  h22  (Fr.old (Fr.r (In []) _) hf7) hL22
   exact H
  have H := H.1 hb6
  refine pop_field 0 fld26_0 b3 0 ?_
  refine rl one24 hL17 0 0 y13.v ?_
  refine H.mono fun r10 h18 H => ?_
  obtain ⟨s45, rfl, hL18, H⟩ := H
  refine H.mono fun r11 h19 H => ?_
  obtain ⟨s46, rfl, hL19, H⟩ := H
  refine H.mono fun r12 h20 H => ?_
  obtain ⟨s47, rfl, hL20, H⟩ := H
  refine pop_field 0 fld26_0 b3 0 ?_
  refine ul siz24 hL20 0 0 [s47.v] [(b3, [s47.v]), (b2, [nilSl.v]), (b1, [y17.v, (VI y18), (Value.int .u64 y19)])] (fun h21 hf6 hL21 => ?_)
  have H := H  h21  (Fr.old (Fr.r (In []) _) hf6) hL21
  obtain ⟨m_1, hm_1, H⟩ := H
  exact hn1 _ _ ⟨m_1, hm_1, s47, y17, y18, y19, rfl, H, hL21⟩
def u69 (P : Program) (b1 : Nat) (c0_1 : Sl) (c0_2 : Int) (c0_3 : Int) (g1_1 : Sl) (h : Heap) (K : Value -> Heap -> Prop) : Prop :=
 ((decide ((g1_1.n : Int) = 0)) = true ->
 ∀ (b2 : Nat) (h1 : Heap), h.size ≤ b2 -> Fr (In []) h h1 -> Vars h1 [(b2, [g1_1.v]), (b1, [c0_1.v, (VI c0_2), (Value.int .u64 c0_3)])] ->
 eop P (Instr.buildSlice 37 4 #[(0, (.int .i64 (-1))), (1, (.int .i64 0)), (2, (VI (g1_1.n : Int))), (3, (.int .i64 4611686018427387904))]) h1 fun r5 h6 => ∃ s17b : Sl, r5 = s17b.v /\ Vars h6 [(b2, [g1_1.v]), (b1, [c0_1.v, (VI c0_2), (Value.int .u64 c0_3)])] /\
 callM P 107 #[(VP b1 0), s17b.v] h6 fun r6 h7 => ∃ y10 : Sl, ∃ y11 : Int, ∃ y12 : Int, ∃ s18b : Int, r6 = (VI s18b) /\ Vars h7 [(b2, [g1_1.v]), (b1, [y10.v, (VI y11), (Value.int .u64 y12)])] /\
 K (VI s18b) h7) /\
 ((decide ((g1_1.n : Int) = 0)) = false ->
 ∀ (b2 : Nat) (h1 : Heap), h.size ≤ b2 -> Fr (In []) h h1 -> Vars h1 [(b2, [g1_1.v]), (b1, [c0_1.v, (VI c0_2), (Value.int .u64 c0_3)])] ->
 callM P 106 #[(VP b1 0), (VI 14)] h1 fun r1 h2 => ∃ y1 : Sl, ∃ y2 : Int, ∃ y3 : Int, ∃ s11 : Bool, r1 = (VB s11) /\ Vars h2 [(b2, [g1_1.v]), (b1, [y1.v, (VI y2), (Value.int .u64 y3)])] /\
 (s11 = true ->
 eop P (Instr.buildSlice 37 4 #[(0, (.int .i64 (-1))), (1, (.int .i64 0)), (2, (VI (g1_1.n : Int))), (3, (.int .i64 4611686018427387904))]) h2 fun r2 h3 => ∃ s17 : Sl, r2 = s17.v /\ Vars h3 [(b2, [g1_1.v]), (b1, [y1.v, (VI y2), (Value.int .u64 y3)])] /\
 callM P 107 #[(VP b1 0), s17.v] h3 fun r3 h4 => ∃ y4 : Sl, ∃ y5 : Int, ∃ y6 : Int, ∃ s18 : Int, r3 = (VI s18) /\ Vars h4 [(b2, [g1_1.v]), (b1, [y4.v, (VI y5), (Value.int .u64 y6)])] /\
 K (VI s18) h4) /\
 (s11 = false ->
 callM P 70 #[(VP b1 0), (VI (g1_1.n : Int))] h2 fun r4 h5 => ∃ y7 : Sl, ∃ y8 : Int, ∃ y9 : Int, ∃ s23 : Int, r4 = (VI s23) /\ Vars h5 [(b2, [g1_1.v]), (b1, [y7.v, (VI y8), (Value.int .u64 y9)])] /\
 K (VI s23) h5))
theorem v69 (b1 : Nat) (c0_1 : Sl) (c0_2 : Int) (c0_3 : Int) (g1_1 : Sl) (h : Heap) (K : Value -> Heap -> Prop) (hL : Vars h [(b1, [c0_1.v, (VI c0_2), (Value.int .u64 c0_3)])]) (H : u69 Try.prog b1 c0_1 c0_2 c0_3 g1_1 h K) : callM Try.prog 69 #[(VP b1 0), (Value.agg #[g1_1.v])] h K := by
  refine c69 (VP b1 0) (Value.agg #[g1_1.v]) h K ?_
  unfold u69 at H
  unfold t69
  refine eop_box 26 (Value.agg #[g1_1.v]) rfl hL (fun b2 h1 hb1 hf1 hL1 => ?_)
  refine pop_field 0 fld26_0 b2 0 ?_
  refine rl one24 hL1 0 0 g1_1.v ?_
  refine pop_len g1_1 _ _ sli24 ?_
  refine pop_ieq .i64 _ _ (g1_1.n : Int) 0 ?_
  refine guardM_sf (fun hb2 => ?_) (fun hb2 => ?_)
  rotate_left
  ·have H := H.1 hb2
   refine gm hb2 ?_
   refine pop_pickt' hb2 ?_
   refine condM_t ?_
   refine pop_field 0 fld26_0 b2 0 ?_
   refine rl one24 hL1 0 0 g1_1.v ?_
   refine pop_len g1_1 _ _ sli24 ?_
   have H := H b2 h1 hb1 (Fr.no' (Fr.r (In []) _) hf1) hL1
   refine H.mono fun r5 h6 H => ?_
   obtain ⟨s17b, rfl, hL6, H⟩ := H
   refine H.mono fun r6 h7 H => ?_
   obtain ⟨y10, y11, y12, s18b, rfl, hL7, H⟩ := H
   exact H
  have H := H.2 hb2
  refine gy hb2 ?_
  have H := H b2 h1 hb1 (Fr.no' (Fr.r (In []) _) hf1) hL1
  refine H.mono fun r1 h2 H => ?_
  obtain ⟨y1, y2, y3, s11, rfl, hL2, H⟩ := H
  refine pop_pickf' hb2 ?_
  refine condM_b (fun hb3 => ?_) (fun hb3 => ?_)
  rotate_left
  ·have H := H.2 hb3
   refine pop_field 0 fld26_0 b2 0 ?_
   refine rl one24 hL2 0 0 g1_1.v ?_
   refine pop_len g1_1 _ _ sli24 ?_
   refine H.mono fun r4 h5 H => ?_
   obtain ⟨y7, y8, y9, s23, rfl, hL5, H⟩ := H
   exact H
  have H := H.1 hb3
  refine pop_field 0 fld26_0 b2 0 ?_
  refine rl one24 hL2 0 0 g1_1.v ?_
  refine pop_len g1_1 _ _ sli24 ?_
  refine H.mono fun r2 h3 H => ?_
  obtain ⟨s17, rfl, hL3, H⟩ := H
  refine H.mono fun r3 h4 H => ?_
  obtain ⟨y4, y5, y6, s18, rfl, hL4, H⟩ := H
  exact H
def u70 (P : Program) (b1 : Nat) (c0_1 : Sl) (c0_2 : Int) (c0_3 : Int) (n1_1 : Int) (h : Heap) (K : Value -> Heap -> Prop) : Prop :=
 ((decide (n1_1 ≤ 1)) = true ->
 K (VI 0) h) /\
 ((decide (n1_1 ≤ 1)) = false ->
 callM P 119 #[(VP b1 0)] h fun r1 h1 => ∃ y1 : Sl, ∃ y2 : Int, ∃ y3 : Int, ∃ s9 : Int, r1 = (VI s9) /\ Vars h1 [(b1, [y1.v, (VI y2), (Value.int .u64 y3)])] /\
 ∃ J1 : Int -> Sl -> Int -> Int -> Heap -> Prop, (((decide (200 < n1_1)) = true ->
 callM P 119 #[(VP b1 0)] h1 fun r2 h2 => ∃ y8 : Sl, ∃ y9 : Int, ∃ y10 : Int, ∃ s15 : Int, r2 = (VI s15) /\ Vars h2 [(b1, [y8.v, (VI y9), (Value.int .u64 y10)])] /\
 J1 (w64 ((w64 (s9 * 256)) + s15)) y8 y9 y10 h2) /\
 ((decide (200 < n1_1)) = false ->
 J1 s9 y1 y2 y3 h1)) /\
 ∀ (y4 : Int) (y5 : Sl) (y6 : Int) (y7 : Int) (h3 : Heap), J1 y4 y5 y6 y7 h3 -> Vars h3 [(b1, [y5.v, (VI y6), (Value.int .u64 y7)])] ->
 n1_1 ≠ 0 /\
 K (VI (Int.tmod y4 n1_1)) h3)
theorem v70 (b1 : Nat) (c0_1 : Sl) (c0_2 : Int) (c0_3 : Int) (n1_1 : Int) (h : Heap) (K : Value -> Heap -> Prop) (hL : Vars h [(b1, [c0_1.v, (VI c0_2), (Value.int .u64 c0_3)])]) (H : u70 Try.prog b1 c0_1 c0_2 c0_3 n1_1 h K) : callM Try.prog 70 #[(VP b1 0), (VI n1_1)] h K := by
  refine c70 (VP b1 0) (VI n1_1) h K ?_
  unfold u70 at H
  unfold t70
  refine pop_leq .i64 n1_1 1 ?_
  refine condM_b (fun hb1 => ?_) (fun hb1 => ?_)
  ·exact H.1 hb1
  have H := H.2 hb1
  refine H.mono fun r1 h1 H => ?_
  obtain ⟨y1, y2, y3, s9, rfl, hL1, H⟩ := H
  obtain ⟨J1, H, HB1⟩ := H
  refine ⟨fun (vs : List Value) (h' : Heap) => ∃ y4 : Int, ∃ y5 : Sl, ∃ y6 : Int, ∃ y7 : Int, vs = [(VI y4)] /\ J1 y4 y5 y6 y7 h' /\ Vars h' [(b1, [y5.v, (VI y6), (Value.int .u64 y7)])], ?_, ?_⟩
  ·refine pop_gtr .i64 n1_1 200 ?_
   refine condM_b (fun hb2 => ?_) (fun hb2 => ?_)
   rotate_left
   ·have H := H.2 hb2
    exact ⟨s9, y1, y2, y3, rfl, H, hL1⟩
   have H := H.1 hb2
   refine pop_mul .i64 s9 256 ?_
   refine H.mono fun r2 h2 H => ?_
   obtain ⟨y8, y9, y10, s15, rfl, hL2, H⟩ := H
   refine pop_add .i64 (w64 (s9 * 256)) s15 ?_
   exact ⟨(w64 ((w64 (s9 * 256)) + s15)), y8, y9, y10, rfl, H, hL2⟩
  intro junk1 tv1 h3
  rintro ⟨y4, y5, y6, y7, hv, hJ1, hL3⟩
  cases hv
  have H := HB1 y4 y5 y6 y7 h3 hJ1 hL3
  obtain ⟨hz_1, H⟩ := H
  refine pop_rem .i64 y4 n1_1 hz_1 ?_
  exact H
def u71 (P : Program) (n0_1 : Int) (low1_1 : Int) (high2_1 : Int) (h : Heap) (K : Value -> Heap -> Prop) : Prop :=
 ((decide (low1_1 ≤ n0_1)) = true ->
 K (VB (decide (n0_1 ≤ high2_1))) h) /\
 ((decide (low1_1 ≤ n0_1)) = false ->
 K (VB false) h)
theorem v71 (n0_1 : Int) (low1_1 : Int) (high2_1 : Int) (h : Heap) (K : Value -> Heap -> Prop) (H : u71 Try.prog n0_1 low1_1 high2_1 h K) : callM Try.prog 71 #[(VI n0_1), (VI low1_1), (VI high2_1)] h K := by
  refine c71 (VI n0_1) (VI low1_1) (VI high2_1) h K ?_
  unfold u71 at H
  unfold t71
  have hL : Vars h [] := .nil
  refine pop_leq .i64 low1_1 n0_1 ?_
  refine guardM_st (fun hb1 => ?_) (fun hb1 => ?_)
  rotate_left
  ·have H := H.2 hb1
   refine gm hb1 ?_
   refine gm hb1 ?_
   refine pop_pickf' hb1 ?_
   exact H
  have H := H.1 hb1
  refine gy hb1 ?_
  refine gy hb1 ?_
  refine pop_leq .i64 n0_1 high2_1 ?_
  refine pop_pickt' hb1 ?_
  exact H
def u72 (P : Program) (g0_1 : Sl) (p1_1 : Int) (h : Heap) (K : Value -> Heap -> Prop) : Prop :=
 ∀ (b1 : Nat) (h1 : Heap), h.size ≤ b1 -> Fr (In []) h h1 -> Vars h1 [(b1, [g0_1.v])] ->
 callM P 120 #[(.agg #[g0_1.v])] h1 fun r1 h2 => ∃ s6 : Bool, r1 = (VB s6) /\ Vars h2 [(b1, [g0_1.v])] /\
 (s6 = true ->
 callM P 73 #[(VI p1_1), (VI 0), (VI (w64 ((g0_1.n : Int) - 1)))] h2 fun r2 h3 => ∃ s13 : Bool, r2 = (VB s13) /\ Vars h3 [(b1, [g0_1.v])] /\
 K (VB s13) h3) /\
 (s6 = false ->
 K (VB false) h2)
theorem v72 (g0_1 : Sl) (p1_1 : Int) (h : Heap) (K : Value -> Heap -> Prop) (H : u72 Try.prog g0_1 p1_1 h K) : callM Try.prog 72 #[(Value.agg #[g0_1.v]), (VI p1_1)] h K := by
  refine c72 (Value.agg #[g0_1.v]) (VI p1_1) h K ?_
  unfold u72 at H
  unfold t72
  have hL : Vars h [] := .nil
  refine eop_box 26 (Value.agg #[g0_1.v]) rfl hL (fun b1 h1 hb1 hf1 hL1 => ?_)
  refine ra agg26 hL1 0 0 [g0_1.v] ?_
  have H := H b1 h1 hb1 (Fr.no' (Fr.r (In []) _) hf1) hL1
  refine H.mono fun r1 h2 H => ?_
  obtain ⟨s6, rfl, hL2, H⟩ := H
  refine guardM_st (fun hb2 => ?_) (fun hb2 => ?_)
  rotate_left
  ·have H := H.2 hb2
   refine gm hb2 ?_
   refine gm hb2 ?_
   refine gm hb2 ?_
   refine gm hb2 ?_
   refine gm hb2 ?_
   refine pop_pickf' hb2 ?_
   exact H
  have H := H.1 hb2
  refine gy hb2 ?_
  refine pop_field 0 fld26_0 b1 0 ?_
  refine gy hb2 ?_
  refine rl one24 hL2 0 0 g0_1.v ?_
  refine gy hb2 ?_
  refine pop_len g0_1 _ _ sli24 ?_
  refine gy hb2 ?_
  refine pop_sub .i64 (g0_1.n : Int) 1 ?_
  refine gy hb2 ?_
  refine H.mono fun r2 h3 H => ?_
  obtain ⟨s13, rfl, hL3, H⟩ := H
  refine pop_pickt' hb2 ?_
  exact H
def u73 (P : Program) (n0_1 : Int) (lo1_1 : Int) (hi2_1 : Int) (h : Heap) (K : Value -> Heap -> Prop) : Prop :=
 ((decide (lo1_1 ≤ n0_1)) = true ->
 K (VB (decide (n0_1 ≤ hi2_1))) h) /\
 ((decide (lo1_1 ≤ n0_1)) = false ->
 K (VB false) h)
theorem v73 (n0_1 : Int) (lo1_1 : Int) (hi2_1 : Int) (h : Heap) (K : Value -> Heap -> Prop) (H : u73 Try.prog n0_1 lo1_1 hi2_1 h K) : callM Try.prog 73 #[(VI n0_1), (VI lo1_1), (VI hi2_1)] h K := by
  refine c73 (VI n0_1) (VI lo1_1) (VI hi2_1) h K ?_
  unfold u73 at H
  unfold t73
  have hL : Vars h [] := .nil
  refine pop_geq .i64 n0_1 lo1_1 ?_
  refine guardM_st (fun hb1 => ?_) (fun hb1 => ?_)
  rotate_left
  ·have H := H.2 hb1
   refine gm hb1 ?_
   refine gm hb1 ?_
   refine pop_pickf' hb1 ?_
   exact H
  have H := H.1 hb1
  refine gy hb1 ?_
  refine gy hb1 ?_
  refine pop_leq .i64 n0_1 hi2_1 ?_
  refine pop_pickt' hb1 ?_
  exact H
def u74 (P : Program) (num0_1 : Int) (den1_1 : Int) (h : Heap) (K : Value -> Heap -> Prop) : Prop :=
 ∀ (b1 : Nat) (h1 : Heap), h.size ≤ b1 -> Fr (In []) h h1 -> Vars h1 [(b1, [(VI 0), (VI 0)])] ->
 ∃ J1 : Int -> Int -> Heap -> Prop, (((decide (den1_1 < 0)) = true ->
 J1 (w64 (0 - num0_1)) (w64 (0 - den1_1)) h1) /\
 ((decide (den1_1 < 0)) = false ->
 J1 num0_1 den1_1 h1)) /\
 ∀ (y1 : Int) (y2 : Int) (h2 : Heap), J1 y1 y2 h2 -> Vars h2 [(b1, [(VI 0), (VI 0)])] ->
 callM P 85 #[(VI y1)] h2 fun r1 h3 => ∃ s14 : Int, r1 = (VI s14) /\ Vars h3 [(b1, [(VI 0), (VI 0)])] /\
 ∃ J2 : Nat -> Int -> Int -> Heap -> Prop, (∃ n0 : Nat, J2 n0 s14 y2 h3) /\
 ∀ (n1 : Nat) (a5_1 : Int) (b6_1 : Int) (h4 : Heap), J2 n1 a5_1 b6_1 h4 -> Vars h4 [(b1, [(VI 0), (VI 0)])] ->
 ((decide (0 < b6_1)) = true ->
 b6_1 ≠ 0 /\
 ∃ m : Nat, m < n1 /\ J2 m b6_1 (Int.tmod a5_1 b6_1) h4) /\
 ((decide (0 < b6_1)) = false ->
 a5_1 ≠ 0 /\
 a5_1 ≠ 0 /\
 ∀ (h5 : Heap), Fr (In [b1]) h4 h5 -> Vars h5 [(b1, [(VI (w64 (Int.tdiv y1 a5_1))), (VI (w64 (Int.tdiv y2 a5_1)))])] ->
 K (.agg #[(VI (w64 (Int.tdiv y1 a5_1))), (VI (w64 (Int.tdiv y2 a5_1)))]) h5)
theorem v74 (num0_1 : Int) (den1_1 : Int) (h : Heap) (K : Value -> Heap -> Prop) (H : u74 Try.prog num0_1 den1_1 h K) : callM Try.prog 74 #[(VI num0_1), (VI den1_1)] h K := by
  refine c74 (VI num0_1) (VI den1_1) h K ?_
  unfold u74 at H
  unfold t74
  have hL : Vars h [] := .nil
  refine eop_alloc 36 zer36 rfl hL (fun b1 h1 hb1 hf1 hL1 => ?_)
  have H := H b1 h1 hb1 (Fr.no' (Fr.r (In []) _) hf1) hL1
  obtain ⟨J1, H, HB2⟩ := H
  refine ⟨fun (vs : List Value) (h' : Heap) => ∃ y1 : Int, ∃ y2 : Int, vs = [(VI y1), (VI y2)] /\ J1 y1 y2 h' /\ Vars h' [(b1, [(VI 0), (VI 0)])], ?_, ?_⟩
  ·refine pop_lss .i64 den1_1 0 ?_
   refine condM_b (fun hb2 => ?_) (fun hb2 => ?_)
   rotate_left
   ·have H := H.2 hb2
    exact ⟨num0_1, den1_1, rfl, H, hL1⟩
   have H := H.1 hb2
   refine pop_neg .i64 num0_1 ?_
   refine pop_neg .i64 den1_1 ?_
   exact ⟨(w64 (0 - num0_1)), (w64 (0 - den1_1)), rfl, H, hL1⟩
  intro junk1 tv1 tv2 h2
  rintro ⟨y1, y2, hv, hJ1, hL2⟩
  cases hv
  have H := HB2 y1 y2 h2 hJ1 hL2
  refine H.mono fun r1 h3 H => ?_
  obtain ⟨s14, rfl, hL3, H⟩ := H
  obtain ⟨J2, ⟨n2, h0_1⟩, HB1⟩ := H
  refine loop_intro (J := fun (n : Nat) (vs : List Value) (h' : Heap) => ∃ a5_1 : Int, ∃ b6_1 : Int, vs = [(VI a5_1), (VI b6_1)] /\ J2 n a5_1 b6_1 h' /\ Vars h' [(b1, [(VI 0), (VI 0)])]) n2 ⟨s14, y2, rfl, h0_1, hL3⟩ ?_
  intro I1 mu1 hI1 junk2 tv3 tv4 h4 hi1
  obtain ⟨n1, ⟨a5_1, b6_1, hv, hJ2, hL4⟩, hn1⟩ := hI1 _ _ hi1
  cases hv
  have H := HB1 n1 a5_1 b6_1 h4 hJ2 hL4
  refine pop_gtr .i64 b6_1 0 ?_
  refine condM_b (fun hb3 => ?_) (fun hb3 => ?_)
  ·have H := H.1 hb3
   obtain ⟨hz_1, H⟩ := H
   refine pop_rem .i64 a5_1 b6_1 hz_1 ?_
   obtain ⟨m_1, hm_1, H⟩ := H
   exact hn1 _ _ ⟨m_1, hm_1, b6_1, (Int.tmod a5_1 b6_1), rfl, H, hL4⟩
  have H := H.2 hb3
  obtain ⟨hz_2, H⟩ := H
  refine pop_quo .i64 y1 a5_1 hz_2 ?_
  obtain ⟨hz_3, H⟩ := H
  refine pop_quo .i64 y2 a5_1 hz_3 ?_
  refine pop.mk' (v := (Value.agg #[(VI (w64 (Int.tdiv y1 a5_1))), (VI (w64 (Int.tdiv y2 a5_1)))])) (fun w => by kernel_rfl) ?_
  refine ul siz36 hL4 0 0 [(VI (w64 (Int.tdiv y1 a5_1))), (VI (w64 (Int.tdiv y2 a5_1)))] [(b1, [(VI (w64 (Int.tdiv y1 a5_1))), (VI (w64 (Int.tdiv y2 a5_1)))])] (fun h5 hf2 hL5 => ?_)
  refine ra agg36 hL5 0 0 [(VI (w64 (Int.tdiv y1 a5_1))), (VI (w64 (Int.tdiv y2 a5_1)))] ?_
  have H := H  h5  (Fr.old (Fr.r (In []) _) hf2) hL5
  exact H
def u75 (P : Program) (code0_1 : Sl) (h : Heap) (K : Value -> Heap -> Prop) : Prop :=
 ∀ (b1 : Nat) (b2 : Nat) (h2 : Heap), h.size ≤ b1 -> h.size ≤ b2 -> Fr (In []) h h2 -> Vars h2 [(b2, [code0_1.v, (VI 0), (Value.int .u64 0)]), (b1, [nilSl.v])] ->
 callM P 57 #[(VP b2 0)] h2 fun r1 h3 => ∃ y1 : Sl, ∃ y2 : Int, ∃ y3 : Int, ∃ s15 : Sl, ∃ s15b : Int, ∃ s15c : Int, r1 = (.tuple #[(.agg #[s15.v]), (VI s15b), (VI s15c)]) /\ Vars h3 [(b2, [y1.v, (VI y2), (Value.int .u64 y3)]), (b1, [nilSl.v])] /\
 ∀ (b3 : Nat) (h5 : Heap), h3.size ≤ b3 -> Fr (In []) h3 h5 -> Vars h5 [(b3, [s15.v]), (b2, [y1.v, (VI y2), (Value.int .u64 y3)]), (b1, [nilSl.v])] ->
 callM P 69 #[(VP b2 0), (.agg #[s15.v])] h5 fun r2 h6 => ∃ y4 : Sl, ∃ y5 : Int, ∃ y6 : Int, ∃ s22 : Int, r2 = (VI s22) /\ Vars h6 [(b3, [s15.v]), (b2, [y4.v, (VI y5), (Value.int .u64 y6)]), (b1, [nilSl.v])] /\
 ∀ (h7 : Heap), Fr (In [b1]) h6 h7 -> Vars h7 [(b3, [s15.v]), (b2, [y4.v, (VI y5), (Value.int .u64 y6)]), (b1, [s15.v])] ->
 K (.tuple #[(.agg #[s15.v]), (VI s22), (VI s15b), (VI s15c)]) h7
theorem v75 (code0_1 : Sl) (h : Heap) (K : Value -> Heap -> Prop) (H : u75 Try.prog code0_1 h K) : callM Try.prog 75 #[code0_1.v] h K := by
  refine c75 code0_1.v h K ?_
  unfold u75 at H
  unfold t75
  have hL : Vars h [] := .nil
  refine eop_alloc 26 zer26 rfl hL (fun b1 h1 hb1 hf1 hL1 => ?_)
  refine pop.mk' (v := (Value.agg #[code0_1.v, (VI 0), (Value.int .u64 0)])) (fun w => by kernel_rfl) ?_
  refine eop_box 69 (Value.agg #[code0_1.v, (VI 0), (Value.int .u64 0)]) rfl hL1 (fun b2 h2 hb2 hf2 hL2 => ?_)
  have H := H b1 b2 h2 hb1 (Nat.le_trans (Fr.size (Fr.no' (Fr.r (In []) _) hf1)) hb2) (Fr.no' (Fr.no' (Fr.r (In []) _) hf1) hf2) hL2
  refine H.mono fun r1 h3 H => ?_
  obtain ⟨y1, y2, y3, s15, s15b, s15c, rfl, hL3, H⟩ := H
  refine pop_ext (v := (Value.agg #[s15.v])) rfl ?_
  refine pop_ext (v := (VI s15b)) rfl ?_
  refine pop_ext (v := (VI s15c)) rfl ?_
  refine eop_alloc 26 zer26 rfl hL3 (fun b3 h4 hb3 hf3 hL4 => ?_)
  refine ul siz26 hL4 0 0 [s15.v] [(b3, [s15.v]), (b2, [y1.v, (VI y2), (Value.int .u64 y3)]), (b1, [nilSl.v])] (fun h5 hf4 hL5 => ?_)
  refine ra agg26 hL5 0 0 [s15.v] ?_
  refine ra agg26 hL5 0 0 [s15.v] ?_
  have H := H b3 h5 hb3 (Fr.new (Fr.no' (Fr.r (In []) _) hf3) hb3 hf4) hL5
  refine H.mono fun r2 h6 H => ?_
  obtain ⟨y4, y5, y6, s22, rfl, hL6, H⟩ := H
  refine ⟨?_, ?_⟩
  ·exact still_locA agg26 hL6 0 rfl 0 (vs := [s15.v]) rfl rfl
  refine ul siz26 hL6 2 0 [s15.v] [(b3, [s15.v]), (b2, [y4.v, (VI y5), (Value.int .u64 y6)]), (b1, [s15.v])] (fun h7 hf5 hL7 => ?_)
  refine ra agg26 hL7 2 0 [s15.v] ?_
  have H := H  h7  (Fr.old (Fr.r (In []) _) hf5) hL7
  exact H
def u76 (P : Program) (g0_1 : Sl) (a1_1 : Int) (b2_1 : Int) (h : Heap) (K : Value -> Heap -> Prop) : Prop :=
 ∀ (b1 : Nat) (h1 : Heap), h.size ≤ b1 -> Fr (In []) h h1 -> Vars h1 [(b1, [g0_1.v])] ->
 ∃ J1 : Nat -> Sl -> Int -> Heap -> Prop, (∃ n0 : Nat, J1 n0 nilSl 0 h1) /\
 ∀ (n1 : Nat) (places8_1 : Sl) (s21 : Int) (h2 : Heap), J1 n1 places8_1 s21 h2 -> Vars h2 [(b1, [g0_1.v])] ->
 ((decide (s21 < (g0_1.n : Int))) = true ->
 ((!decide (s21 = a1_1)) = true ->
 ((!decide (s21 = b2_1)) = true ->
 eop P (Instr.buildSlice 37 1 #[(0, (VI s21))]) h2 fun r1 h3 => ∃ s34 : Sl, r1 = s34.v /\ Vars h3 [(b1, [g0_1.v])] /\
 eop P (appS 37 37 37 places8_1.v s34.v) h3 fun r2 h4 => ∃ s35 : Sl, r2 = s35.v /\ Vars h4 [(b1, [g0_1.v])] /\
 ∃ m : Nat, m < n1 /\ J1 m s35 (w64 (s21 + 1)) h4) /\
 ((!decide (s21 = b2_1)) = false ->
 ∃ m : Nat, m < n1 /\ J1 m places8_1 (w64 (s21 + 1)) h2)) /\
 ((!decide (s21 = a1_1)) = false ->
 ∃ m : Nat, m < n1 /\ J1 m places8_1 (w64 (s21 + 1)) h2)) /\
 ((decide (s21 < (g0_1.n : Int))) = false ->
 ∃ J2 : Nat -> Sl -> Int -> Heap -> Prop, (∃ n0 : Nat, J2 n0 nilSl 0 h2) /\
 ∀ (n2 : Nat) (m10_1 : Sl) (s39 : Int) (h5 : Heap), J2 n2 m10_1 s39 h5 -> Vars h5 [(b1, [g0_1.v])] ->
 ((decide (s39 < (places8_1.n : Int))) = true ->
 InB places8_1 s39 /\
 ∃ s42 : Int, hcell h5 (Sl.at places8_1 s39 1) = some (VI s42) /\
 eop P (Instr.makeSlice 37 (VI (places8_1.n : Int)) (VI (places8_1.n : Int))) h5 fun r3 h6 => ∃ s45 : Sl, r3 = s45.v /\ Vars h6 [(b1, [g0_1.v])] /\
 ∃ J3 : Nat -> Int -> Heap -> Prop, (∃ n0 : Nat, J3 n0 0 h6) /\
 ∀ (n3 : Nat) (s48 : Int) (h7 : Heap), J3 n3 s48 h7 -> Vars h7 [(b1, [g0_1.v])] ->
 ((decide (s48 < (places8_1.n : Int))) = true ->
 InB places8_1 s48 /\
 ∃ s52 : Int, hcell h7 (Sl.at places8_1 s48 1) = some (VI s52) /\
 ∃ J4 : Heap -> Prop, (((decide (s52 = s42)) = true ->
 InB s45 s48 /\
 ∃ s59 : Int, hcell h7 (Sl.at s45 s48 1) = some (VI s59) /\
 InB g0_1 s42 /\
 ∃ s64 : Sl, hcell h7 (Sl.at g0_1 s42 1) = some s64.v /\
 InB s45 s48 /\
 Writable h7 (Sl.at s45 s48 1) /\ Vars (hset h7 (Sl.at s45 s48 1) (VI (w64 (s59 + (s64.n : Int))))) [(b1, [g0_1.v])] /\
 ∀ h8 : Heap, h8 = hset h7 (Sl.at s45 s48 1) (VI (w64 (s59 + (s64.n : Int)))) -> Vars h8 [(b1, [g0_1.v])] ->
 J4  h8) /\
 ((decide (s52 = s42)) = false ->
 J4  h7)) /\
 ∀ (h9 : Heap), J4  h9 -> Vars h9 [(b1, [g0_1.v])] ->
 InB g0_1 s42 /\
 ∃ s72 : Sl, hcell h9 (Sl.at g0_1 s42 1) = some s72.v /\
 ∃ J5 : Nat -> Int -> Heap -> Prop, (∃ n0 : Nat, J5 n0 0 h9) /\
 ∀ (n4 : Nat) (s74 : Int) (h10 : Heap), J5 n4 s74 h10 -> Vars h10 [(b1, [g0_1.v])] ->
 ((decide (s74 < (s72.n : Int))) = true ->
 InB s72 s74 /\
 ∃ s77 : Int, hcell h10 (Sl.at s72 s74 1) = some (VI s77) /\
 ((decide (s77 = s52)) = true ->
 InB s45 s48 /\
 ∃ s84 : Int, hcell h10 (Sl.at s45 s48 1) = some (VI s84) /\
 InB s45 s48 /\
 Writable h10 (Sl.at s45 s48 1) /\ Vars (hset h10 (Sl.at s45 s48 1) (VI (w64 (s84 - 1)))) [(b1, [g0_1.v])] /\
 ∀ h11 : Heap, h11 = hset h10 (Sl.at s45 s48 1) (VI (w64 (s84 - 1))) -> Vars h11 [(b1, [g0_1.v])] ->
 ∃ m : Nat, m < n4 /\ J5 m (w64 (s74 + 1)) h11) /\
 ((decide (s77 = s52)) = false ->
 ∃ m : Nat, m < n4 /\ J5 m (w64 (s74 + 1)) h10)) /\
 ((decide (s74 < (s72.n : Int))) = false ->
 ∃ m : Nat, m < n3 /\ J3 m (w64 (s48 + 1)) h10)) /\
 ((decide (s48 < (places8_1.n : Int))) = false ->
 eop P (Instr.buildSlice 24 1 #[(0, s45.v)]) h7 fun r4 h12 => ∃ s91 : Sl, r4 = s91.v /\ Vars h12 [(b1, [g0_1.v])] /\
 eop P (appS 24 24 24 m10_1.v s91.v) h12 fun r5 h13 => ∃ s92 : Sl, r5 = s92.v /\ Vars h13 [(b1, [g0_1.v])] /\
 ∃ m : Nat, m < n2 /\ J2 m s92 (w64 (s39 + 1)) h13)) /\
 ((decide (s39 < (places8_1.n : Int))) = false ->
 K (.tuple #[places8_1.v, m10_1.v]) h5))
theorem v76 (g0_1 : Sl) (a1_1 : Int) (b2_1 : Int) (h : Heap) (K : Value -> Heap -> Prop) (H : u76 Try.prog g0_1 a1_1 b2_1 h K) : callM Try.prog 76 #[(Value.agg #[g0_1.v]), (VI a1_1), (VI b2_1)] h K := by
  refine c76 (Value.agg #[g0_1.v]) (VI a1_1) (VI b2_1) h K ?_
  unfold u76 at H
  unfold t76
  have hL : Vars h [] := .nil
  refine eop_box 26 (Value.agg #[g0_1.v]) rfl hL (fun b1 h1 hb1 hf1 hL1 => ?_)
  refine pop_field 0 fld26_0 b1 0 ?_
  refine rl one24 hL1 0 0 g0_1.v ?_
  refine pop_len g0_1 _ _ sli24 ?_
  have H := H b1 h1 hb1 (Fr.no' (Fr.r (In []) _) hf1) hL1
  obtain ⟨J1, ⟨n8, h0_4⟩, HB5⟩ := H
  refine loop_intro (J := fun (n : Nat) (vs : List Value) (h' : Heap) => ∃ places8_1 : Sl, ∃ s21 : Int, vs = [places8_1.v, (VI s21)] /\ J1 n places8_1 s21 h' /\ Vars h' [(b1, [g0_1.v])]) n8 ⟨nilSl, 0, rfl, h0_4, hL1⟩ ?_
  intro I4 mu4 hI4 junk1 tv5 tv6 h2 hi1
  obtain ⟨n1, ⟨places8_1, s21, hv, hJ1, hL2⟩, hn1⟩ := hI4 _ _ hi1
  cases hv
  have H := HB5 n1 places8_1 s21 h2 hJ1 hL2
  refine pop_lss .i64 s21 (g0_1.n : Int) ?_
  refine condM_b (fun hb2 => ?_) (fun hb2 => ?_)
  ·have H := H.1 hb2
   refine pop_ine .i64 _ _ s21 a1_1 ?_
   refine guardM_st (fun hb3 => ?_) (fun hb3 => ?_)
   rotate_left
   ·have H := H.2 hb3
    refine gm hb3 ?_
    refine gm hb3 ?_
    refine pop_pickf' hb3 ?_
    refine condM_f ?_
    refine pop_add .i64 s21 1 ?_
    obtain ⟨m_3, hm_3, H⟩ := H
    exact hn1 _ _ ⟨m_3, hm_3, places8_1, (w64 (s21 + 1)), rfl, H, hL2⟩
   have H := H.1 hb3
   refine gy hb3 ?_
   refine gy hb3 ?_
   refine pop_ine .i64 _ _ s21 b2_1 ?_
   refine pop_pickt' hb3 ?_
   refine condM_b (fun hb4 => ?_) (fun hb4 => ?_)
   rotate_left
   ·have H := H.2 hb4
    refine pop_add .i64 s21 1 ?_
    obtain ⟨m_2, hm_2, H⟩ := H
    exact hn1 _ _ ⟨m_2, hm_2, places8_1, (w64 (s21 + 1)), rfl, H, hL2⟩
   have H := H.1 hb4
   refine H.mono fun r1 h3 H => ?_
   obtain ⟨s34, rfl, hL3, H⟩ := H
   refine H.mono fun r2 h4 H => ?_
   obtain ⟨s35, rfl, hL4, H⟩ := H
   refine pop_add .i64 s21 1 ?_
   obtain ⟨m_1, hm_1, H⟩ := H
   exact hn1 _ _ ⟨m_1, hm_1, s35, (w64 (s21 + 1)), rfl, H, hL4⟩
  have H := H.2 hb2
  refine pop_len places8_1 _ _ sli37 ?_
  obtain ⟨J2, ⟨n7, h0_3⟩, HB4⟩ := H
  refine loop_intro (J := fun (n : Nat) (vs : List Value) (h' : Heap) => ∃ m10_1 : Sl, ∃ s39 : Int, vs = [m10_1.v, (VI s39)] /\ J2 n m10_1 s39 h' /\ Vars h' [(b1, [g0_1.v])]) n7 ⟨nilSl, 0, rfl, h0_3, hL2⟩ ?_
  intro I3 mu3 hI3 junk2 tv3 tv4 h5 hi2
  obtain ⟨n2, ⟨m10_1, s39, hv, hJ2, hL5⟩, hn2⟩ := hI3 _ _ hi2
  cases hv
  have H := HB4 n2 m10_1 s39 h5 hJ2 hL5
  refine pop_lss .i64 s39 (places8_1.n : Int) ?_
  refine condM_b (fun hb5 => ?_) (fun hb5 => ?_)
  rotate_left
  ·exact H.2 hb5
  have H := H.1 hb5
  obtain ⟨hi3, H⟩ := H
  refine pop_index sli37 siz3 .i64 places8_1 s39 hi3 ?_
  obtain ⟨s42, hc7, H⟩ := H
  refine rop_one one3 (VI s42) hc7 ?_
  refine pop_len places8_1 _ _ sli37 ?_
  refine H.mono fun r3 h6 H => ?_
  obtain ⟨s45, rfl, hL6, H⟩ := H
  refine pop_len places8_1 _ _ sli37 ?_
  obtain ⟨J3, ⟨n6, h0_2⟩, HB3⟩ := H
  refine loop_intro (J := fun (n : Nat) (vs : List Value) (h' : Heap) => ∃ s48 : Int, vs = [(VI s48)] /\ J3 n s48 h' /\ Vars h' [(b1, [g0_1.v])]) n6 ⟨0, rfl, h0_2, hL6⟩ ?_
  intro I2 mu2 hI2 junk3 tv2 h7 hi4
  obtain ⟨n3, ⟨s48, hv, hJ3, hL7⟩, hn3⟩ := hI2 _ _ hi4
  cases hv
  have H := HB3 n3 s48 h7 hJ3 hL7
  refine pop_lss .i64 s48 (places8_1.n : Int) ?_
  refine condM_b (fun hb6 => ?_) (fun hb6 => ?_)
  rotate_left
  ·have H := H.2 hb6
   refine H.mono fun r4 h12 H => ?_
   obtain ⟨s91, rfl, hL12, H⟩ := H
   refine H.mono fun r5 h13 H => ?_
   obtain ⟨s92, rfl, hL13, H⟩ := H
   refine pop_add .i64 s39 1 ?_
   obtain ⟨m_7, hm_7, H⟩ := H
   exact hn2 _ _ ⟨m_7, hm_7, s92, (w64 (s39 + 1)), rfl, H, hL13⟩
  have H := H.1 hb6
  obtain ⟨hi5, H⟩ := H
  refine pop_index sli37 siz3 .i64 places8_1 s48 hi5 ?_
  obtain ⟨s52, hc6, H⟩ := H
  refine rop_one one3 (VI s52) hc6 ?_
  obtain ⟨J4, H, HB2⟩ := H
  refine ⟨fun (vs : List Value) (h' : Heap) => vs = [] /\ J4  h' /\ Vars h' [(b1, [g0_1.v])], ?_, ?_⟩
  ·refine pop_ieq .i64 _ _ s52 s42 ?_
   refine condM_b (fun hb7 => ?_) (fun hb7 => ?_)
   rotate_left
   ·have H := H.2 hb7
    exact ⟨rfl, H, hL7⟩
   have H := H.1 hb7
   obtain ⟨hi6, H⟩ := H
   refine pop_index sli37 siz3 .i64 s45 s48 hi6 ?_
   obtain ⟨s59, hc2, H⟩ := H
   refine rop_one one3 (VI s59) hc2 ?_
   refine pop_field 0 fld26_0 b1 0 ?_
   refine rl one24 hL7 0 0 g0_1.v ?_
   obtain ⟨hi7, H⟩ := H
   refine pop_index sli24 siz37 .i64 g0_1 s42 hi7 ?_
   obtain ⟨s64, hc1, H⟩ := H
   refine rop_one one37 s64.v hc1 ?_
   refine pop_len s64 _ _ sli37 ?_
   refine pop_add .i64 s59 (s64.n : Int) ?_
   obtain ⟨hi8, H⟩ := H
   refine pop_index sli37 siz3 .i64 s45 s48 hi8 ?_
   obtain ⟨hw_1, hL8, H⟩ := H
   refine uop_cell (v := (VI (w64 (s59 + (s64.n : Int))))) siz3 hw_1 rfl (fun h8 he_1 => ?_)
   rw [← he_1] at hL8
   have H := H h8 he_1 hL8
   exact ⟨rfl, H, hL8⟩
  intro junk4  h9
  rintro ⟨hv, hJ4, hL9⟩
  have H := HB2  h9 hJ4 hL9
  refine pop_field 0 fld26_0 b1 0 ?_
  refine rl one24 hL9 0 0 g0_1.v ?_
  obtain ⟨hi9, H⟩ := H
  refine pop_index sli24 siz37 .i64 g0_1 s42 hi9 ?_
  obtain ⟨s72, hc5, H⟩ := H
  refine rop_one one37 s72.v hc5 ?_
  refine pop_len s72 _ _ sli37 ?_
  obtain ⟨J5, ⟨n5, h0_1⟩, HB1⟩ := H
  refine loop_intro (J := fun (n : Nat) (vs : List Value) (h' : Heap) => ∃ s74 : Int, vs = [(VI s74)] /\ J5 n s74 h' /\ Vars h' [(b1, [g0_1.v])]) n5 ⟨0, rfl, h0_1, hL9⟩ ?_
  intro I1 mu1 hI1 junk5 tv1 h10 hi10
  obtain ⟨n4, ⟨s74, hv, hJ5, hL10⟩, hn4⟩ := hI1 _ _ hi10
  cases hv
  have H := HB1 n4 s74 h10 hJ5 hL10
  refine pop_lss .i64 s74 (s72.n : Int) ?_
  refine condM_b (fun hb8 => ?_) (fun hb8 => ?_)
  rotate_left
  ·have H := H.2 hb8
   refine pop_add .i64 s48 1 ?_
   obtain ⟨m_6, hm_6, H⟩ := H
   exact hn3 _ _ ⟨m_6, hm_6, (w64 (s48 + 1)), rfl, H, hL10⟩
  have H := H.1 hb8
  obtain ⟨hi11, H⟩ := H
  refine pop_index sli37 siz3 .i64 s72 s74 hi11 ?_
  obtain ⟨s77, hc4, H⟩ := H
  refine rop_one one3 (VI s77) hc4 ?_
  refine pop_ieq .i64 _ _ s77 s52 ?_
  refine condM_b (fun hb9 => ?_) (fun hb9 => ?_)
  rotate_left
  ·have H := H.2 hb9
   refine pop_add .i64 s74 1 ?_
   obtain ⟨m_5, hm_5, H⟩ := H
   exact hn4 _ _ ⟨m_5, hm_5, (w64 (s74 + 1)), rfl, H, hL10⟩
  have H := H.1 hb9
  obtain ⟨hi12, H⟩ := H
  refine pop_index sli37 siz3 .i64 s45 s48 hi12 ?_
  obtain ⟨s84, hc3, H⟩ := H
  refine rop_one one3 (VI s84) hc3 ?_
  refine pop_sub .i64 s84 1 ?_
  obtain ⟨hi13, H⟩ := H
  refine pop_index sli37 siz3 .i64 s45 s48 hi13 ?_
  obtain ⟨hw_2, hL11, H⟩ := H
  refine uop_cell (v := (VI (w64 (s84 - 1)))) siz3 hw_2 rfl (fun h11 he_2 => ?_)
  rw [← he_2] at hL11
  have H := H h11 he_2 hL11
  refine pop_add .i64 s74 1 ?_
  obtain ⟨m_4, hm_4, H⟩ := H
  exact hn4 _ _ ⟨m_4, hm_4, (w64 (s74 + 1)), rfl, H, hL11⟩
def u77 (P : Program) (m0_1 : Sl) (right1_1 : Sl) (h : Heap) (K : Value -> Heap -> Prop) : Prop :=
 callM P 91 #[m0_1.v] h fun r1 h1 => ∃ s14 : Int, r1 = (VI s14) /\ Vars h1 [] /\
 ∃ J1 : Nat -> Sl -> Int -> Heap -> Prop, (∃ n0 : Nat, J1 n0 nilSl 0 h1) /\
 ∀ (n1 : Nat) (out7_1 : Sl) (s17 : Int) (h2 : Heap), J1 n1 out7_1 s17 h2 -> Vars h2 [] ->
 ((decide (s17 < (m0_1.n : Int))) = true ->
 ∃ J2 : Nat -> Sl -> Int -> Heap -> Prop, (∃ n0 : Nat, J2 n0 nilSl 0 h2) /\
 ∀ (n2 : Nat) (other9_1 : Sl) (s22 : Int) (h3 : Heap), J2 n2 other9_1 s22 h3 -> Vars h3 [] ->
 ((decide (s22 < (m0_1.n : Int))) = true ->
 InB m0_1 s22 /\
 ∃ s26 : Sl, hcell h3 (Sl.at m0_1 s22 1) = some s26.v /\
 callM P 121 #[s26.v] h3 fun r2 h4 => ∃ s28 : Sl, r2 = s28.v /\ Vars h4 [] /\
 InB right1_1 s22 /\
 ∃ s34 : Int, hcell h4 (Sl.at right1_1 s22 1) = some (VI s34) /\
 InB s28 s17 /\
 Writable h4 (Sl.at s28 s17 1) /\ Vars (hset h4 (Sl.at s28 s17 1) (VI s34)) [] /\
 ∀ h5 : Heap, h5 = hset h4 (Sl.at s28 s17 1) (VI s34) -> Vars h5 [] ->
 eop P (Instr.buildSlice 24 1 #[(0, s28.v)]) h5 fun r3 h6 => ∃ s38 : Sl, r3 = s38.v /\ Vars h6 [] /\
 eop P (appS 24 24 24 other9_1.v s38.v) h6 fun r4 h7 => ∃ s39 : Sl, r4 = s39.v /\ Vars h7 [] /\
 ∃ m : Nat, m < n2 /\ J2 m s39 (w64 (s22 + 1)) h7) /\
 ((decide (s22 < (m0_1.n : Int))) = false ->
 callM P 91 #[other9_1.v] h3 fun r5 h8 => ∃ s43 : Int, r5 = (VI s43) /\ Vars h8 [] /\
 eop P (Instr.buildSlice 37 1 #[(0, (VI s43))]) h8 fun r6 h9 => ∃ s44 : Sl, r6 = s44.v /\ Vars h9 [] /\
 eop P (appS 37 37 37 out7_1.v s44.v) h9 fun r7 h10 => ∃ s45 : Sl, r7 = s45.v /\ Vars h10 [] /\
 ∃ m : Nat, m < n1 /\ J1 m s45 (w64 (s17 + 1)) h10)) /\
 ((decide (s17 < (m0_1.n : Int))) = false ->
 K (.tuple #[out7_1.v, (VI s14)]) h2)
theorem v77 (m0_1 : Sl) (right1_1 : Sl) (h : Heap) (K : Value -> Heap -> Prop) (H : u77 Try.prog m0_1 right1_1 h K) : callM Try.prog 77 #[m0_1.v, right1_1.v] h K := by
  refine c77 m0_1.v right1_1.v h K ?_
  unfold u77 at H
  unfold t77
  have hL : Vars h [] := .nil
  refine H.mono fun r1 h1 H => ?_
  obtain ⟨s14, rfl, hL1, H⟩ := H
  refine pop_len m0_1 _ _ sli24 ?_
  obtain ⟨J1, ⟨n4, h0_2⟩, HB2⟩ := H
  refine loop_intro (J := fun (n : Nat) (vs : List Value) (h' : Heap) => ∃ out7_1 : Sl, ∃ s17 : Int, vs = [out7_1.v, (VI s17)] /\ J1 n out7_1 s17 h' /\ Vars h' []) n4 ⟨nilSl, 0, rfl, h0_2, hL1⟩ ?_
  intro I2 mu2 hI2 junk1 tv3 tv4 h2 hi1
  obtain ⟨n1, ⟨out7_1, s17, hv, hJ1, hL2⟩, hn1⟩ := hI2 _ _ hi1
  cases hv
  have H := HB2 n1 out7_1 s17 h2 hJ1 hL2
  refine pop_lss .i64 s17 (m0_1.n : Int) ?_
  refine condM_b (fun hb1 => ?_) (fun hb1 => ?_)
  rotate_left
  ·exact H.2 hb1
  have H := H.1 hb1
  refine pop_len m0_1 _ _ sli24 ?_
  obtain ⟨J2, ⟨n3, h0_1⟩, HB1⟩ := H
  refine loop_intro (J := fun (n : Nat) (vs : List Value) (h' : Heap) => ∃ other9_1 : Sl, ∃ s22 : Int, vs = [other9_1.v, (VI s22)] /\ J2 n other9_1 s22 h' /\ Vars h' []) n3 ⟨nilSl, 0, rfl, h0_1, hL2⟩ ?_
  intro I1 mu1 hI1 junk2 tv1 tv2 h3 hi2
  obtain ⟨n2, ⟨other9_1, s22, hv, hJ2, hL3⟩, hn2⟩ := hI1 _ _ hi2
  cases hv
  have H := HB1 n2 other9_1 s22 h3 hJ2 hL3
  refine pop_lss .i64 s22 (m0_1.n : Int) ?_
  refine condM_b (fun hb2 => ?_) (fun hb2 => ?_)
  rotate_left
  ·have H := H.2 hb2
   refine H.mono fun r5 h8 H => ?_
   obtain ⟨s43, rfl, hL8, H⟩ := H
   refine H.mono fun r6 h9 H => ?_
   obtain ⟨s44, rfl, hL9, H⟩ := H
   refine H.mono fun r7 h10 H => ?_
   obtain ⟨s45, rfl, hL10, H⟩ := H
   refine pop_add .i64 s17 1 ?_
   obtain ⟨m_2, hm_2, H⟩ := H
   exact hn1 _ _ ⟨m_2, hm_2, s45, (w64 (s17 + 1)), rfl, H, hL10⟩
  have H := H.1 hb2
  obtain ⟨hi3, H⟩ := H
  refine pop_index sli24 siz37 .i64 m0_1 s22 hi3 ?_
  obtain ⟨s26, hc2, H⟩ := H
  refine rop_one one37 s26.v hc2 ?_
  refine H.mono fun r2 h4 H => ?_
  obtain ⟨s28, rfl, hL4, H⟩ := H
  obtain ⟨hi4, H⟩ := H
  refine pop_index sli37 siz3 .i64 right1_1 s22 hi4 ?_
  obtain ⟨s34, hc1, H⟩ := H
  refine rop_one one3 (VI s34) hc1 ?_
  obtain ⟨hi5, H⟩ := H
  refine pop_index sli37 siz3 .i64 s28 s17 hi5 ?_
  obtain ⟨hw_1, hL5, H⟩ := H
  refine uop_cell (v := (VI s34)) siz3 hw_1 rfl (fun h5 he_1 => ?_)
  rw [← he_1] at hL5
  have H := H h5 he_1 hL5
  refine H.mono fun r3 h6 H => ?_
  obtain ⟨s38, rfl, hL6, H⟩ := H
  refine H.mono fun r4 h7 H => ?_
  obtain ⟨s39, rfl, hL7, H⟩ := H
  refine pop_add .i64 s22 1 ?_
  obtain ⟨m_1, hm_1, H⟩ := H
  exact hn2 _ _ ⟨m_1, hm_1, s39, (w64 (s22 + 1)), rfl, H, hL7⟩
def u85 (P : Program) (n0_1 : Int) (h : Heap) (K : Value -> Heap -> Prop) : Prop :=
 callM P 126 #[(VI n0_1), (VI (w64 (0 - n0_1)))] h fun r1 h1 => ∃ s6 : Int, r1 = (VI s6) /\ Vars h1 [] /\
 K (VI s6) h1
theorem v85 (n0_1 : Int) (h : Heap) (K : Value -> Heap -> Prop) (H : u85 Try.prog n0_1 h K) : callM Try.prog 85 #[(VI n0_1)] h K := by
  refine c85 (VI n0_1) h K ?_
  unfold u85 at H
  unfold t85
  have hL : Vars h [] := .nil
  refine pop_neg .i64 n0_1 ?_
  refine H.mono fun r1 h1 H => ?_
  obtain ⟨s6, rfl, hL1, H⟩ := H
  exact H
def u88 (P : Program) (m0_1 : Sl) (h : Heap) (K : Value -> Heap -> Prop) : Prop :=
 eop P (Instr.buildSlice 24 0 #[]) h fun r1 h1 => ∃ s15 : Sl, r1 = s15.v /\ Vars h1 [] /\
 ∃ J1 : Nat -> Sl -> Int -> Heap -> Prop, (∃ n0 : Nat, J1 n0 s15 0 h1) /\
 ∀ (n1 : Nat) (a6_1 : Sl) (s18 : Int) (h2 : Heap), J1 n1 a6_1 s18 h2 -> Vars h2 [] ->
 ((decide (s18 < (m0_1.n : Int))) = true ->
 InB m0_1 s18 /\
 ∃ s21 : Sl, hcell h2 (Sl.at m0_1 s18 1) = some s21.v /\
 callM P 117 #[s21.v] h2 fun r2 h3 => ∃ s24 : Sl, r2 = s24.v /\ Vars h3 [] /\
 eop P (Instr.buildSlice 24 1 #[(0, s24.v)]) h3 fun r3 h4 => ∃ s25 : Sl, r3 = s25.v /\ Vars h4 [] /\
 eop P (appS 24 24 24 a6_1.v s25.v) h4 fun r4 h5 => ∃ s26 : Sl, r4 = s26.v /\ Vars h5 [] /\
 ∃ m : Nat, m < n1 /\ J1 m s26 (w64 (s18 + 1)) h5) /\
 ((decide (s18 < (m0_1.n : Int))) = false ->
 ∃ J2 : Nat -> Int -> Int -> Int -> Heap -> Prop, (∃ n0 : Nat, J2 n0 1 1 0 h2) /\
 ∀ (n2 : Nat) (sign4_1 : Int) (last5_1 : Int) (s29 : Int) (h6 : Heap), J2 n2 sign4_1 last5_1 s29 h6 -> Vars h6 [] ->
 ((decide (s29 < (m0_1.n : Int))) = true ->
 ∃ J3 : Nat -> Int -> Heap -> Prop, (∃ n0 : Nat, J3 n0 s29 h6) /\
 ∀ (n3 : Nat) (pivot10_1 : Int) (h7 : Heap), J3 n3 pivot10_1 h7 -> Vars h7 [] ->
 ((decide (pivot10_1 < (m0_1.n : Int))) = true ->
 InB a6_1 pivot10_1 /\
 ∃ s40 : Sl, hcell h7 (Sl.at a6_1 pivot10_1 1) = some s40.v /\
 InB s40 s29 /\
 ∃ s43 : Int, hcell h7 (Sl.at s40 s29 1) = some (VI s43) /\
 ((decide (s43 = 0)) = true ->
 ∃ m : Nat, m < n3 /\ J3 m (w64 (pivot10_1 + 1)) h7) /\
 ((decide (s43 = 0)) = false ->
 ((decide (pivot10_1 = (m0_1.n : Int))) = true ->
 K (VI 0) h7) /\
 ((decide (pivot10_1 = (m0_1.n : Int))) = false ->
 ∃ J4 : Int -> Heap -> Prop, (((!decide (pivot10_1 = s29)) = true ->
 InB a6_1 s29 /\
 ∃ s61 : Sl, hcell h7 (Sl.at a6_1 s29 1) = some s61.v /\
 InB a6_1 pivot10_1 /\
 ∃ s65 : Sl, hcell h7 (Sl.at a6_1 pivot10_1 1) = some s65.v /\
 InB a6_1 pivot10_1 /\
 Writable h7 (Sl.at a6_1 pivot10_1 1) /\ Vars (hset h7 (Sl.at a6_1 pivot10_1 1) s61.v) [] /\
 ∀ h8 : Heap, h8 = hset h7 (Sl.at a6_1 pivot10_1 1) s61.v -> Vars h8 [] ->
 InB a6_1 s29 /\
 Writable h8 (Sl.at a6_1 s29 1) /\ Vars (hset h8 (Sl.at a6_1 s29 1) s65.v) [] /\
 ∀ h9 : Heap, h9 = hset h8 (Sl.at a6_1 s29 1) s65.v -> Vars h9 [] ->
 J4 (w64 (0 - sign4_1)) h9) /\
 ((!decide (pivot10_1 = s29)) = false ->
 J4 sign4_1 h7)) /\
 ∀ (y1 : Int) (h10 : Heap), J4 y1 h10 -> Vars h10 [] ->
 ∃ J5 : Nat -> Int -> Heap -> Prop, (∃ n0 : Nat, J5 n0 (w64 (s29 + 1)) h10) /\
 ∀ (n4 : Nat) (i11_1 : Int) (h11 : Heap), J5 n4 i11_1 h11 -> Vars h11 [] ->
 ((decide (i11_1 < (m0_1.n : Int))) = true ->
 ∃ J6 : Nat -> Int -> Heap -> Prop, (∃ n0 : Nat, J6 n0 (w64 (s29 + 1)) h11) /\
 ∀ (n5 : Nat) (j12_1 : Int) (h12 : Heap), J6 n5 j12_1 h12 -> Vars h12 [] ->
 ((decide (j12_1 < (m0_1.n : Int))) = true ->
 InB a6_1 i11_1 /\
 ∃ s87 : Sl, hcell h12 (Sl.at a6_1 i11_1 1) = some s87.v /\
 InB a6_1 i11_1 /\
 ∃ s92 : Sl, hcell h12 (Sl.at a6_1 i11_1 1) = some s92.v /\
 InB s92 j12_1 /\
 ∃ s95 : Int, hcell h12 (Sl.at s92 j12_1 1) = some (VI s95) /\
 InB a6_1 s29 /\
 ∃ s99 : Sl, hcell h12 (Sl.at a6_1 s29 1) = some s99.v /\
 InB s99 s29 /\
 ∃ s102 : Int, hcell h12 (Sl.at s99 s29 1) = some (VI s102) /\
 InB a6_1 i11_1 /\
 ∃ s107 : Sl, hcell h12 (Sl.at a6_1 i11_1 1) = some s107.v /\
 InB s107 s29 /\
 ∃ s110 : Int, hcell h12 (Sl.at s107 s29 1) = some (VI s110) /\
 InB a6_1 s29 /\
 ∃ s114 : Sl, hcell h12 (Sl.at a6_1 s29 1) = some s114.v /\
 InB s114 j12_1 /\
 ∃ s117 : Int, hcell h12 (Sl.at s114 j12_1 1) = some (VI s117) /\
 last5_1 ≠ 0 /\
 InB s87 j12_1 /\
 Writable h12 (Sl.at s87 j12_1 1) /\ Vars (hset h12 (Sl.at s87 j12_1 1) (VI (w64 (Int.tdiv (w64 ((w64 (s95 * s102)) - (w64 (s110 * s117)))) last5_1)))) [] /\
 ∀ h13 : Heap, h13 = hset h12 (Sl.at s87 j12_1 1) (VI (w64 (Int.tdiv (w64 ((w64 (s95 * s102)) - (w64 (s110 * s117)))) last5_1))) -> Vars h13 [] ->
 ∃ m : Nat, m < n5 /\ J6 m (w64 (j12_1 + 1)) h13) /\
 ((decide (j12_1 < (m0_1.n : Int))) = false ->
 ∃ m : Nat, m < n4 /\ J5 m (w64 (i11_1 + 1)) h12)) /\
 ((decide (i11_1 < (m0_1.n : Int))) = false ->
 InB a6_1 s29 /\
 ∃ s126 : Sl, hcell h11 (Sl.at a6_1 s29 1) = some s126.v /\
 InB s126 s29 /\
 ∃ s129 : Int, hcell h11 (Sl.at s126 s29 1) = some (VI s129) /\
 ∃ m : Nat, m < n2 /\ J2 m y1 s129 (w64 (s29 + 1)) h11)))) /\
 ((decide (pivot10_1 < (m0_1.n : Int))) = false ->
 ((decide (pivot10_1 = (m0_1.n : Int))) = true ->
 K (VI 0) h7) /\
 ((decide (pivot10_1 = (m0_1.n : Int))) = false ->
 ∃ J7 : Int -> Heap -> Prop, (((!decide (pivot10_1 = s29)) = true ->
 InB a6_1 s29 /\
 ∃ s61b : Sl, hcell h7 (Sl.at a6_1 s29 1) = some s61b.v /\
 InB a6_1 pivot10_1 /\
 ∃ s65b : Sl, hcell h7 (Sl.at a6_1 pivot10_1 1) = some s65b.v /\
 InB a6_1 pivot10_1 /\
 Writable h7 (Sl.at a6_1 pivot10_1 1) /\ Vars (hset h7 (Sl.at a6_1 pivot10_1 1) s61b.v) [] /\
 ∀ h14 : Heap, h14 = hset h7 (Sl.at a6_1 pivot10_1 1) s61b.v -> Vars h14 [] ->
 InB a6_1 s29 /\
 Writable h14 (Sl.at a6_1 s29 1) /\ Vars (hset h14 (Sl.at a6_1 s29 1) s65b.v) [] /\
 ∀ h15 : Heap, h15 = hset h14 (Sl.at a6_1 s29 1) s65b.v -> Vars h15 [] ->
 J7 (w64 (0 - sign4_1)) h15) /\
 ((!decide (pivot10_1 = s29)) = false ->
 J7 sign4_1 h7)) /\
 ∀ (y2 : Int) (h16 : Heap), J7 y2 h16 -> Vars h16 [] ->
 ∃ J8 : Nat -> Int -> Heap -> Prop, (∃ n0 : Nat, J8 n0 (w64 (s29 + 1)) h16) /\
 ∀ (n8 : Nat) (i11_2 : Int) (h17 : Heap), J8 n8 i11_2 h17 -> Vars h17 [] ->
 ((decide (i11_2 < (m0_1.n : Int))) = true ->
 ∃ J9 : Nat -> Int -> Heap -> Prop, (∃ n0 : Nat, J9 n0 (w64 (s29 + 1)) h17) /\
 ∀ (n9 : Nat) (j12_2 : Int) (h18 : Heap), J9 n9 j12_2 h18 -> Vars h18 [] ->
 ((decide (j12_2 < (m0_1.n : Int))) = true ->
 InB a6_1 i11_2 /\
 ∃ s87b : Sl, hcell h18 (Sl.at a6_1 i11_2 1) = some s87b.v /\
 InB a6_1 i11_2 /\
 ∃ s92b : Sl, hcell h18 (Sl.at a6_1 i11_2 1) = some s92b.v /\
 InB s92b j12_2 /\
 ∃ s95b : Int, hcell h18 (Sl.at s92b j12_2 1) = some (VI s95b) /\
 InB a6_1 s29 /\
 ∃ s99b : Sl, hcell h18 (Sl.at a6_1 s29 1) = some s99b.v /\
 InB s99b s29 /\
 ∃ s102b : Int, hcell h18 (Sl.at s99b s29 1) = some (VI s102b) /\
 InB a6_1 i11_2 /\
 ∃ s107b : Sl, hcell h18 (Sl.at a6_1 i11_2 1) = some s107b.v /\
 InB s107b s29 /\
 ∃ s110b : Int, hcell h18 (Sl.at s107b s29 1) = some (VI s110b) /\
 InB a6_1 s29 /\
 ∃ s114b : Sl, hcell h18 (Sl.at a6_1 s29 1) = some s114b.v /\
 InB s114b j12_2 /\
 ∃ s117b : Int, hcell h18 (Sl.at s114b j12_2 1) = some (VI s117b) /\
 last5_1 ≠ 0 /\
 InB s87b j12_2 /\
 Writable h18 (Sl.at s87b j12_2 1) /\ Vars (hset h18 (Sl.at s87b j12_2 1) (VI (w64 (Int.tdiv (w64 ((w64 (s95b * s102b)) - (w64 (s110b * s117b)))) last5_1)))) [] /\
 ∀ h19 : Heap, h19 = hset h18 (Sl.at s87b j12_2 1) (VI (w64 (Int.tdiv (w64 ((w64 (s95b * s102b)) - (w64 (s110b * s117b)))) last5_1))) -> Vars h19 [] ->
 ∃ m : Nat, m < n9 /\ J9 m (w64 (j12_2 + 1)) h19) /\
 ((decide (j12_2 < (m0_1.n : Int))) = false ->
 ∃ m : Nat, m < n8 /\ J8 m (w64 (i11_2 + 1)) h18)) /\
 ((decide (i11_2 < (m0_1.n : Int))) = false ->
 InB a6_1 s29 /\
 ∃ s126b : Sl, hcell h17 (Sl.at a6_1 s29 1) = some s126b.v /\
 InB s126b s29 /\
 ∃ s129b : Int, hcell h17 (Sl.at s126b s29 1) = some (VI s129b) /\
 ∃ m : Nat, m < n2 /\ J2 m y2 s129b (w64 (s29 + 1)) h17)))) /\
 ((decide (s29 < (m0_1.n : Int))) = false ->
 K (VI (w64 (sign4_1 * last5_1))) h6))
theorem v88 (m0_1 : Sl) (h : Heap) (K : Value -> Heap -> Prop) (H : u88 Try.prog m0_1 h K) : callM Try.prog 88 #[m0_1.v] h K := by
  refine c88 m0_1.v h K ?_
  unfold u88 at H
  unfold t88
  have hL : Vars h [] := .nil
  refine pop_len m0_1 _ _ sli24 ?_
  refine H.mono fun r1 h1 H => ?_
  obtain ⟨s15, rfl, hL1, H⟩ := H
  refine pop_len m0_1 _ _ sli24 ?_
  obtain ⟨J1, ⟨n14, h0_7⟩, HB9⟩ := H
  refine loop_intro (J := fun (n : Nat) (vs : List Value) (h' : Heap) => ∃ a6_1 : Sl, ∃ s18 : Int, vs = [a6_1.v, (VI s18)] /\ J1 n a6_1 s18 h' /\ Vars h' []) n14 ⟨s15, 0, rfl, h0_7, hL1⟩ ?_
  intro I7 mu7 hI7 junk1 tv11 tv12 h2 hi1
  obtain ⟨n1, ⟨a6_1, s18, hv, hJ1, hL2⟩, hn1⟩ := hI7 _ _ hi1
  cases hv
  have H := HB9 n1 a6_1 s18 h2 hJ1 hL2
  refine pop_lss .i64 s18 (m0_1.n : Int) ?_
  refine condM_b (fun hb1 => ?_) (fun hb1 => ?_)
  ·have H := H.1 hb1
   obtain ⟨hi2, H⟩ := H
   refine pop_index sli24 siz37 .i64 m0_1 s18 hi2 ?_
   obtain ⟨s21, hc1, H⟩ := H
   refine rop_one one37 s21.v hc1 ?_
   refine H.mono fun r2 h3 H => ?_
   obtain ⟨s24, rfl, hL3, H⟩ := H
   refine H.mono fun r3 h4 H => ?_
   obtain ⟨s25, rfl, hL4, H⟩ := H
   refine H.mono fun r4 h5 H => ?_
   obtain ⟨s26, rfl, hL5, H⟩ := H
   refine pop_add .i64 s18 1 ?_
   obtain ⟨m_1, hm_1, H⟩ := H
   exact hn1 _ _ ⟨m_1, hm_1, s26, (w64 (s18 + 1)), rfl, H, hL5⟩
  have H := H.2 hb1
  obtain ⟨J2, ⟨n13, h0_6⟩, HB8⟩ := H
  refine loop_intro (J := fun (n : Nat) (vs : List Value) (h' : Heap) => ∃ sign4_1 : Int, ∃ last5_1 : Int, ∃ s29 : Int, vs = [(VI sign4_1), (VI last5_1), (VI s29)] /\ J2 n sign4_1 last5_1 s29 h' /\ Vars h' []) n13 ⟨1, 1, 0, rfl, h0_6, hL2⟩ ?_
  intro I6 mu6 hI6 junk2 tv8 tv9 tv10 h6 hi3
  obtain ⟨n2, ⟨sign4_1, last5_1, s29, hv, hJ2, hL6⟩, hn2⟩ := hI6 _ _ hi3
  cases hv
  have H := HB8 n2 sign4_1 last5_1 s29 h6 hJ2 hL6
  refine pop_lss .i64 s29 (m0_1.n : Int) ?_
  refine condM_b (fun hb2 => ?_) (fun hb2 => ?_)
  rotate_left
  ·have H := H.2 hb2
   refine pop_mul .i64 sign4_1 last5_1 ?_
   exact H
  have H := H.1 hb2
  obtain ⟨J3, ⟨n12, h0_5⟩, HB7⟩ := H
  refine loop_intro (J := fun (n : Nat) (vs : List Value) (h' : Heap) => ∃ pivot10_1 : Int, vs = [(VI pivot10_1)] /\ J3 n pivot10_1 h' /\ Vars h' []) n12 ⟨s29, rfl, h0_5, hL6⟩ ?_
  intro I5 mu5 hI5 junk3 tv7 h7 hi4
  obtain ⟨n3, ⟨pivot10_1, hv, hJ3, hL7⟩, hn3⟩ := hI5 _ _ hi4
  cases hv
  have H := HB7 n3 pivot10_1 h7 hJ3 hL7
  refine pop_lss .i64 pivot10_1 (m0_1.n : Int) ?_
  refine guardM_st (fun hb3 => ?_) (fun hb3 => ?_)
  rotate_left
  ·have H := H.2 hb3
   refine gm hb3 ?_
   refine gm hb3 ?_
   refine gm hb3 ?_
   refine gm hb3 ?_
   refine gm hb3 ?_
   refine gm hb3 ?_
   refine gm hb3 ?_
   refine pop_pickf' hb3 ?_
   refine condM_f ?_
   refine pop_ieq .i64 _ _ pivot10_1 (m0_1.n : Int) ?_
   refine condM_b (fun hb9 => ?_) (fun hb9 => ?_)
   ·exact H.1 hb9
   have H := H.2 hb9
   obtain ⟨J7, H, HB6⟩ := H
   refine ⟨fun (vs : List Value) (h' : Heap) => ∃ y2 : Int, vs = [(VI y2)] /\ J7 y2 h' /\ Vars h' [], ?_, ?_⟩
   ·refine pop_ine .i64 _ _ pivot10_1 s29 ?_
    refine condM_b (fun hb10 => ?_) (fun hb10 => ?_)
    rotate_left
    ·have H := H.2 hb10
     exact ⟨sign4_1, rfl, H, hL7⟩
    have H := H.1 hb10
    obtain ⟨hi25, H⟩ := H
    refine pop_index sli24 siz37 .i64 a6_1 s29 hi25 ?_
    obtain ⟨s61b, hc18, H⟩ := H
    refine rop_one one37 s61b.v hc18 ?_
    obtain ⟨hi26, H⟩ := H
    refine pop_index sli24 siz37 .i64 a6_1 pivot10_1 hi26 ?_
    obtain ⟨s65b, hc17, H⟩ := H
    refine rop_one one37 s65b.v hc17 ?_
    obtain ⟨hi27, H⟩ := H
    refine pop_index sli24 siz37 .i64 a6_1 pivot10_1 hi27 ?_
    obtain ⟨hw_4, hL14, H⟩ := H
    refine uop_cell (v := s61b.v) siz37 hw_4 rfl (fun h14 he_4 => ?_)
    rw [← he_4] at hL14
    have H := H h14 he_4 hL14
    obtain ⟨hi28, H⟩ := H
    refine pop_index sli24 siz37 .i64 a6_1 s29 hi28 ?_
    obtain ⟨hw_5, hL15, H⟩ := H
    refine uop_cell (v := s65b.v) siz37 hw_5 rfl (fun h15 he_5 => ?_)
    rw [← he_5] at hL15
    have H := H h15 he_5 hL15
    refine pop_neg .i64 sign4_1 ?_
    exact ⟨(w64 (0 - sign4_1)), rfl, H, hL15⟩
   intro junk7 tv4 h16
   rintro ⟨y2, hv, hJ7, hL16⟩
   cases hv
   have H := HB6 y2 h16 hJ7 hL16
   refine pop_add .i64 s29 1 ?_
   obtain ⟨J8, ⟨n11, h0_4⟩, HB5⟩ := H
   refine loop_intro (J := fun (n : Nat) (vs : List Value) (h' : Heap) => ∃ i11_2 : Int, vs = [(VI i11_2)] /\ J8 n i11_2 h' /\ Vars h' []) n11 ⟨(w64 (s29 + 1)), rfl, h0_4, hL16⟩ ?_
   intro I4 mu4 hI4 junk8 tv6 h17 hi29
   obtain ⟨n8, ⟨i11_2, hv, hJ8, hL17⟩, hn6⟩ := hI4 _ _ hi29
   cases hv
   have H := HB5 n8 i11_2 h17 hJ8 hL17
   refine pop_lss .i64 i11_2 (m0_1.n : Int) ?_
   refine condM_b (fun hb11 => ?_) (fun hb11 => ?_)
   rotate_left
   ·have H := H.2 hb11
    obtain ⟨hi41, H⟩ := H
    refine pop_index sli24 siz37 .i64 a6_1 s29 hi41 ?_
    obtain ⟨s126b, hc29, H⟩ := H
    refine rop_one one37 s126b.v hc29 ?_
    obtain ⟨hi42, H⟩ := H
    refine pop_index sli37 siz3 .i64 s126b s29 hi42 ?_
    obtain ⟨s129b, hc28, H⟩ := H
    refine rop_one one3 (VI s129b) hc28 ?_
    refine pop_add .i64 s29 1 ?_
    obtain ⟨m_8, hm_8, H⟩ := H
    exact hn2 _ _ ⟨m_8, hm_8, y2, s129b, (w64 (s29 + 1)), rfl, H, hL17⟩
   have H := H.1 hb11
   refine pop_add .i64 s29 1 ?_
   obtain ⟨J9, ⟨n10, h0_3⟩, HB4⟩ := H
   refine loop_intro (J := fun (n : Nat) (vs : List Value) (h' : Heap) => ∃ j12_2 : Int, vs = [(VI j12_2)] /\ J9 n j12_2 h' /\ Vars h' []) n10 ⟨(w64 (s29 + 1)), rfl, h0_3, hL17⟩ ?_
   intro I3 mu3 hI3 junk9 tv5 h18 hi30
   obtain ⟨n9, ⟨j12_2, hv, hJ9, hL18⟩, hn7⟩ := hI3 _ _ hi30
   cases hv
   have H := HB4 n9 j12_2 h18 hJ9 hL18
   refine pop_lss .i64 j12_2 (m0_1.n : Int) ?_
   refine condM_b (fun hb12 => ?_) (fun hb12 => ?_)
   rotate_left
   ·have H := H.2 hb12
    refine pop_add .i64 i11_2 1 ?_
    obtain ⟨m_7, hm_7, H⟩ := H
    exact hn6 _ _ ⟨m_7, hm_7, (w64 (i11_2 + 1)), rfl, H, hL18⟩
   have H := H.1 hb12
   obtain ⟨hi31, H⟩ := H
   refine pop_index sli24 siz37 .i64 a6_1 i11_2 hi31 ?_
   obtain ⟨s87b, hc27, H⟩ := H
   refine rop_one one37 s87b.v hc27 ?_
   obtain ⟨hi32, H⟩ := H
   refine pop_index sli24 siz37 .i64 a6_1 i11_2 hi32 ?_
   obtain ⟨s92b, hc26, H⟩ := H
   refine rop_one one37 s92b.v hc26 ?_
   obtain ⟨hi33, H⟩ := H
   refine pop_index sli37 siz3 .i64 s92b j12_2 hi33 ?_
   obtain ⟨s95b, hc25, H⟩ := H
   refine rop_one one3 (VI s95b) hc25 ?_
   obtain ⟨hi34, H⟩ := H
   refine pop_index sli24 siz37 .i64 a6_1 s29 hi34 ?_
   obtain ⟨s99b, hc24, H⟩ := H
   refine rop_one one37 s99b.v hc24 ?_
   obtain ⟨hi35, H⟩ := H
   refine pop_index sli37 siz3 .i64 s99b s29 hi35 ?_
   obtain ⟨s102b, hc23, H⟩ := H
   refine rop_one one3 (VI s102b) hc23 ?_
   refine pop_mul .i64 s95b s102b ?_
   obtain ⟨hi36, H⟩ := H
   refine pop_index sli24 siz37 .i64 a6_1 i11_2 hi36 ?_
   obtain ⟨s107b, hc22, H⟩ := H
   refine rop_one one37 s107b.v hc22 ?_
   obtain ⟨hi37, H⟩ := H
   refine pop_index sli37 siz3 .i64 s107b s29 hi37 ?_
   obtain ⟨s110b, hc21, H⟩ := H
   refine rop_one one3 (VI s110b) hc21 ?_
   obtain ⟨hi38, H⟩ := H
   refine pop_index sli24 siz37 .i64 a6_1 s29 hi38 ?_
   obtain ⟨s114b, hc20, H⟩ := H
   refine rop_one one37 s114b.v hc20 ?_
   obtain ⟨hi39, H⟩ := H
   refine pop_index sli37 siz3 .i64 s114b j12_2 hi39 ?_
   obtain ⟨s117b, hc19, H⟩ := H
   refine rop_one one3 (VI s117b) hc19 ?_
   refine pop_mul .i64 s110b s117b ?_
   refine pop_sub .i64 (w64 (s95b * s102b)) (w64 (s110b * s117b)) ?_
   obtain ⟨hz_2, H⟩ := H
   refine pop_quo .i64 (w64 ((w64 (s95b * s102b)) - (w64 (s110b * s117b)))) last5_1 hz_2 ?_
   obtain ⟨hi40, H⟩ := H
   refine pop_index sli37 siz3 .i64 s87b j12_2 hi40 ?_
   obtain ⟨hw_6, hL19, H⟩ := H
   refine uop_cell (v := (VI (w64 (Int.tdiv (w64 ((w64 (s95b * s102b)) - (w64 (s110b * s117b)))) last5_1)))) siz3 hw_6 rfl (fun h19 he_6 => ?_)
   rw [← he_6] at hL19
   have H := H h19 he_6 hL19
   refine pop_add .i64 j12_2 1 ?_
   obtain ⟨m_6, hm_6, H⟩ := H
   exact hn7 _ _ ⟨m_6, hm_6, (w64 (j12_2 + 1)), rfl, H, hL19⟩
  have H := H.1 hb3
  refine gy hb3 ?_
  refine gy hb3 ?_
  obtain ⟨hi5, H⟩ := H
  refine pop_index sli24 siz37 .i64 a6_1 pivot10_1 hi5 ?_
  refine gy hb3 ?_
  obtain ⟨s40, hc16, H⟩ := H
  refine rop_one one37 s40.v hc16 ?_
  refine gy hb3 ?_
  refine gy hb3 ?_
  obtain ⟨hi6, H⟩ := H
  refine pop_index sli37 siz3 .i64 s40 s29 hi6 ?_
  refine gy hb3 ?_
  obtain ⟨s43, hc15, H⟩ := H
  refine rop_one one3 (VI s43) hc15 ?_
  refine gy hb3 ?_
  refine pop_ieq .i64 _ _ s43 0 ?_
  refine pop_pickt' hb3 ?_
  refine condM_b (fun hb4 => ?_) (fun hb4 => ?_)
  ·have H := H.1 hb4
   refine pop_add .i64 pivot10_1 1 ?_
   obtain ⟨m_2, hm_2, H⟩ := H
   exact hn3 _ _ ⟨m_2, hm_2, (w64 (pivot10_1 + 1)), rfl, H, hL7⟩
  have H := H.2 hb4
  refine pop_ieq .i64 _ _ pivot10_1 (m0_1.n : Int) ?_
  refine condM_b (fun hb5 => ?_) (fun hb5 => ?_)
  ·exact H.1 hb5
  have H := H.2 hb5
  obtain ⟨J4, H, HB3⟩ := H
  refine ⟨fun (vs : List Value) (h' : Heap) => ∃ y1 : Int, vs = [(VI y1)] /\ J4 y1 h' /\ Vars h' [], ?_, ?_⟩
  ·refine pop_ine .i64 _ _ pivot10_1 s29 ?_
   refine condM_b (fun hb6 => ?_) (fun hb6 => ?_)
   rotate_left
   ·have H := H.2 hb6
    exact ⟨sign4_1, rfl, H, hL7⟩
   have H := H.1 hb6
   obtain ⟨hi7, H⟩ := H
   refine pop_index sli24 siz37 .i64 a6_1 s29 hi7 ?_
   obtain ⟨s61, hc3, H⟩ := H
   refine rop_one one37 s61.v hc3 ?_
   obtain ⟨hi8, H⟩ := H
   refine pop_index sli24 siz37 .i64 a6_1 pivot10_1 hi8 ?_
   obtain ⟨s65, hc2, H⟩ := H
   refine rop_one one37 s65.v hc2 ?_
   obtain ⟨hi9, H⟩ := H
   refine pop_index sli24 siz37 .i64 a6_1 pivot10_1 hi9 ?_
   obtain ⟨hw_1, hL8, H⟩ := H
   refine uop_cell (v := s61.v) siz37 hw_1 rfl (fun h8 he_1 => ?_)
   rw [← he_1] at hL8
   have H := H h8 he_1 hL8
   obtain ⟨hi10, H⟩ := H
   refine pop_index sli24 siz37 .i64 a6_1 s29 hi10 ?_
   obtain ⟨hw_2, hL9, H⟩ := H
   refine uop_cell (v := s65.v) siz37 hw_2 rfl (fun h9 he_2 => ?_)
   rw [← he_2] at hL9
   have H := H h9 he_2 hL9
   refine pop_neg .i64 sign4_1 ?_
   exact ⟨(w64 (0 - sign4_1)), rfl, H, hL9⟩
  intro junk4 tv1 h10
  rintro ⟨y1, hv, hJ4, hL10⟩
  cases hv
  have H := HB3 y1 h10 hJ4 hL10
  refine pop_add .i64 s29 1 ?_
  obtain ⟨J5, ⟨n7, h0_2⟩, HB2⟩ := H
  refine loop_intro (J := fun (n : Nat) (vs : List Value) (h' : Heap) => ∃ i11_1 : Int, vs = [(VI i11_1)] /\ J5 n i11_1 h' /\ Vars h' []) n7 ⟨(w64 (s29 + 1)), rfl, h0_2, hL10⟩ ?_
  intro I2 mu2 hI2 junk5 tv3 h11 hi11
  obtain ⟨n4, ⟨i11_1, hv, hJ5, hL11⟩, hn4⟩ := hI2 _ _ hi11
  cases hv
  have H := HB2 n4 i11_1 h11 hJ5 hL11
  refine pop_lss .i64 i11_1 (m0_1.n : Int) ?_
  refine condM_b (fun hb7 => ?_) (fun hb7 => ?_)
  rotate_left
  ·have H := H.2 hb7
   obtain ⟨hi23, H⟩ := H
   refine pop_index sli24 siz37 .i64 a6_1 s29 hi23 ?_
   obtain ⟨s126, hc14, H⟩ := H
   refine rop_one one37 s126.v hc14 ?_
   obtain ⟨hi24, H⟩ := H
   refine pop_index sli37 siz3 .i64 s126 s29 hi24 ?_
   obtain ⟨s129, hc13, H⟩ := H
   refine rop_one one3 (VI s129) hc13 ?_
   refine pop_add .i64 s29 1 ?_
   obtain ⟨m_5, hm_5, H⟩ := H
   exact hn2 _ _ ⟨m_5, hm_5, y1, s129, (w64 (s29 + 1)), rfl, H, hL11⟩
  have H := H.1 hb7
  refine pop_add .i64 s29 1 ?_
  obtain ⟨J6, ⟨n6, h0_1⟩, HB1⟩ := H
  refine loop_intro (J := fun (n : Nat) (vs : List Value) (h' : Heap) => ∃ j12_1 : Int, vs = [(VI j12_1)] /\ J6 n j12_1 h' /\ Vars h' []) n6 ⟨(w64 (s29 + 1)), rfl, h0_1, hL11⟩ ?_
  intro I1 mu1 hI1 junk6 tv2 h12 hi12
  obtain ⟨n5, ⟨j12_1, hv, hJ6, hL12⟩, hn5⟩ := hI1 _ _ hi12
  cases hv
  have H := HB1 n5 j12_1 h12 hJ6 hL12
  refine pop_lss .i64 j12_1 (m0_1.n : Int) ?_
  refine condM_b (fun hb8 => ?_) (fun hb8 => ?_)
  rotate_left
  ·have H := H.2 hb8
   refine pop_add .i64 i11_1 1 ?_
   obtain ⟨m_4, hm_4, H⟩ := H
   exact hn4 _ _ ⟨m_4, hm_4, (w64 (i11_1 + 1)), rfl, H, hL12⟩
  have H := H.1 hb8
  obtain ⟨hi13, H⟩ := H
  refine pop_index sli24 siz37 .i64 a6_1 i11_1 hi13 ?_
  obtain ⟨s87, hc12, H⟩ := H
  refine rop_one one37 s87.v hc12 ?_
  obtain ⟨hi14, H⟩ := H
  refine pop_index sli24 siz37 .i64 a6_1 i11_1 hi14 ?_
  obtain ⟨s92, hc11, H⟩ := H
  refine rop_one one37 s92.v hc11 ?_
  obtain ⟨hi15, H⟩ := H
  refine pop_index sli37 siz3 .i64 s92 j12_1 hi15 ?_
  obtain ⟨s95, hc10, H⟩ := H
  refine rop_one one3 (VI s95) hc10 ?_
  obtain ⟨hi16, H⟩ := H
  refine pop_index sli24 siz37 .i64 a6_1 s29 hi16 ?_
  obtain ⟨s99, hc9, H⟩ := H
  refine rop_one one37 s99.v hc9 ?_
  obtain ⟨hi17, H⟩ := H
  refine pop_index sli37 siz3 .i64 s99 s29 hi17 ?_
  obtain ⟨s102, hc8, H⟩ := H
  refine rop_one one3 (VI s102) hc8 ?_
  refine pop_mul .i64 s95 s102 ?_
  obtain ⟨hi18, H⟩ := H
  refine pop_index sli24 siz37 .i64 a6_1 i11_1 hi18 ?_
  obtain ⟨s107, hc7, H⟩ := H
  refine rop_one one37 s107.v hc7 ?_
  obtain ⟨hi19, H⟩ := H
  refine pop_index sli37 siz3 .i64 s107 s29 hi19 ?_
  obtain ⟨s110, hc6, H⟩ := H
  refine rop_one one3 (VI s110) hc6 ?_
  obtain ⟨hi20, H⟩ := H
  refine pop_index sli24 siz37 .i64 a6_1 s29 hi20 ?_
  obtain ⟨s114, hc5, H⟩ := H
  refine rop_one one37 s114.v hc5 ?_
  obtain ⟨hi21, H⟩ := H
  refine pop_index sli37 siz3 .i64 s114 j12_1 hi21 ?_
  obtain ⟨s117, hc4, H⟩ := H
  refine rop_one one3 (VI s117) hc4 ?_
  refine pop_mul .i64 s110 s117 ?_
  refine pop_sub .i64 (w64 (s95 * s102)) (w64 (s110 * s117)) ?_
  obtain ⟨hz_1, H⟩ := H
  refine pop_quo .i64 (w64 ((w64 (s95 * s102)) - (w64 (s110 * s117)))) last5_1 hz_1 ?_
  obtain ⟨hi22, H⟩ := H
  refine pop_index sli37 siz3 .i64 s87 j12_1 hi22 ?_
  obtain ⟨hw_3, hL13, H⟩ := H
  refine uop_cell (v := (VI (w64 (Int.tdiv (w64 ((w64 (s95 * s102)) - (w64 (s110 * s117)))) last5_1)))) siz3 hw_3 rfl (fun h13 he_3 => ?_)
  rw [← he_3] at hL13
  have H := H h13 he_3 hL13
  refine pop_add .i64 j12_1 1 ?_
  obtain ⟨m_3, hm_3, H⟩ := H
  exact hn5 _ _ ⟨m_3, hm_3, (w64 (j12_1 + 1)), rfl, H, hL13⟩
def u91 (P : Program) (m0_1 : Sl) (h : Heap) (K : Value -> Heap -> Prop) : Prop :=
 ((decide ((m0_1.n : Int) = 0)) = true ->
 K (VI 1) h) /\
 ((decide ((m0_1.n : Int) = 0)) = false ->
 InB m0_1 0 /\
 ∃ s15 : Sl, hcell h (Sl.at m0_1 0 1) = some s15.v /\
 ∃ J1 : Nat -> Int -> Int -> Int -> Heap -> Prop, (∃ n0 : Nat, J1 n0 0 1 0 h) /\
 ∀ (n1 : Nat) (sum3_1 : Int) (sign4_1 : Int) (s17 : Int) (h1 : Heap), J1 n1 sum3_1 sign4_1 s17 h1 -> Vars h1 [] ->
 ((decide (s17 < (s15.n : Int))) = true ->
 InB s15 s17 /\
 ∃ s21 : Int, hcell h1 (Sl.at s15 s17 1) = some (VI s21) /\
 ∃ J2 : Int -> Heap -> Prop, (((!decide (s21 = 0)) = true ->
 pop P (Instr.sliceAt 24 m0_1.v (some (.int .i64 1)) none none) fun r1 => ∃ s25 : Sl, r1 = s25.v /\ 
 ∃ J3 : Nat -> Sl -> Int -> Heap -> Prop, (∃ n0 : Nat, J3 n0 nilSl 0 h1) /\
 ∀ (n2 : Nat) (rest7_1 : Sl) (s27 : Int) (h2 : Heap), J3 n2 rest7_1 s27 h2 -> Vars h2 [] ->
 ((decide (s27 < (s25.n : Int))) = true ->
 InB s25 s27 /\
 ∃ s30 : Sl, hcell h2 (Sl.at s25 s27 1) = some s30.v /\
 pop P (Instr.sliceAt 37 s30.v none (some (VI s17)) none) fun r2 => ∃ s34 : Sl, r2 = s34.v /\ 
 pop P (Instr.sliceAt 37 s30.v (some (VI (w64 (s17 + 1)))) none none) fun r3 => ∃ s39 : Sl, r3 = s39.v /\ 
 callM P 121 #[s34.v] h2 fun r4 h3 => ∃ s35 : Sl, r4 = s35.v /\ Vars h3 [] /\
 eop P (appS 37 37 37 s35.v s39.v) h3 fun r5 h4 => ∃ s40 : Sl, r5 = s40.v /\ Vars h4 [] /\
 eop P (Instr.buildSlice 24 1 #[(0, s40.v)]) h4 fun r6 h5 => ∃ s41 : Sl, r6 = s41.v /\ Vars h5 [] /\
 eop P (appS 24 24 24 rest7_1.v s41.v) h5 fun r7 h6 => ∃ s42 : Sl, r7 = s42.v /\ Vars h6 [] /\
 ∃ m : Nat, m < n2 /\ J3 m s42 (w64 (s27 + 1)) h6) /\
 ((decide (s27 < (s25.n : Int))) = false ->
 callM P 91 #[rest7_1.v] h2 fun r8 h7 => ∃ s49 : Int, r8 = (VI s49) /\ Vars h7 [] /\
 J2 (w64 (sum3_1 + (w64 ((w64 (sign4_1 * s21)) * s49)))) h7)) /\
 ((!decide (s21 = 0)) = false ->
 J2 sum3_1 h1)) /\
 ∀ (y1 : Int) (h8 : Heap), J2 y1 h8 -> Vars h8 [] ->
 ∃ m : Nat, m < n1 /\ J1 m y1 (w64 (0 - sign4_1)) (w64 (s17 + 1)) h8) /\
 ((decide (s17 < (s15.n : Int))) = false ->
 K (VI sum3_1) h1))
theorem v91 (m0_1 : Sl) (h : Heap) (K : Value -> Heap -> Prop) (H : u91 Try.prog m0_1 h K) : callM Try.prog 91 #[m0_1.v] h K := by
  refine c91 m0_1.v h K ?_
  unfold u91 at H
  unfold t91
  have hL : Vars h [] := .nil
  refine pop_len m0_1 _ _ sli24 ?_
  refine pop_ieq .i64 _ _ (m0_1.n : Int) 0 ?_
  refine condM_b (fun hb1 => ?_) (fun hb1 => ?_)
  ·exact H.1 hb1
  have H := H.2 hb1
  obtain ⟨hi1, H⟩ := H
  refine pop_index sli24 siz37 .i64 m0_1 0 hi1 ?_
  obtain ⟨s15, hc3, H⟩ := H
  refine rop_one one37 s15.v hc3 ?_
  refine pop_len s15 _ _ sli37 ?_
  obtain ⟨J1, ⟨n4, h0_2⟩, HB3⟩ := H
  refine loop_intro (J := fun (n : Nat) (vs : List Value) (h' : Heap) => ∃ sum3_1 : Int, ∃ sign4_1 : Int, ∃ s17 : Int, vs = [(VI sum3_1), (VI sign4_1), (VI s17)] /\ J1 n sum3_1 sign4_1 s17 h' /\ Vars h' []) n4 ⟨0, 1, 0, rfl, h0_2, hL⟩ ?_
  intro I2 mu2 hI2 junk1 tv4 tv5 tv6 h1 hi2
  obtain ⟨n1, ⟨sum3_1, sign4_1, s17, hv, hJ1, hL1⟩, hn1⟩ := hI2 _ _ hi2
  cases hv
  have H := HB3 n1 sum3_1 sign4_1 s17 h1 hJ1 hL1
  refine pop_lss .i64 s17 (s15.n : Int) ?_
  refine condM_b (fun hb2 => ?_) (fun hb2 => ?_)
  rotate_left
  ·exact H.2 hb2
  have H := H.1 hb2
  obtain ⟨hi3, H⟩ := H
  refine pop_index sli37 siz3 .i64 s15 s17 hi3 ?_
  obtain ⟨s21, hc2, H⟩ := H
  refine rop_one one3 (VI s21) hc2 ?_
  obtain ⟨J2, H, HB2⟩ := H
  refine ⟨fun (vs : List Value) (h' : Heap) => ∃ y1 : Int, vs = [(VI y1)] /\ J2 y1 h' /\ Vars h' [], ?_, ?_⟩
  ·refine pop_ine .i64 _ _ s21 0 ?_
   refine condM_b (fun hb3 => ?_) (fun hb3 => ?_)
   rotate_left
   ·have H := H.2 hb3
    exact ⟨sum3_1, rfl, H, hL1⟩
   have H := H.1 hb3
   refine H.mono fun r1 H => ?_
   obtain ⟨s25, rfl, H⟩ := H
   refine pop_len s25 _ _ sli24 ?_
   obtain ⟨J3, ⟨n3, h0_1⟩, HB1⟩ := H
   refine loop_intro (J := fun (n : Nat) (vs : List Value) (h' : Heap) => ∃ rest7_1 : Sl, ∃ s27 : Int, vs = [rest7_1.v, (VI s27)] /\ J3 n rest7_1 s27 h' /\ Vars h' []) n3 ⟨nilSl, 0, rfl, h0_1, hL1⟩ ?_
   intro I1 mu1 hI1 junk2 tv1 tv2 h2 hi4
   obtain ⟨n2, ⟨rest7_1, s27, hv, hJ2, hL2⟩, hn2⟩ := hI1 _ _ hi4
   cases hv
   have H := HB1 n2 rest7_1 s27 h2 hJ2 hL2
   refine pop_lss .i64 s27 (s25.n : Int) ?_
   refine condM_b (fun hb4 => ?_) (fun hb4 => ?_)
   rotate_left
   ·have H := H.2 hb4
    refine pop_mul .i64 sign4_1 s21 ?_
    refine H.mono fun r8 h7 H => ?_
    obtain ⟨s49, rfl, hL7, H⟩ := H
    refine pop_mul .i64 (w64 (sign4_1 * s21)) s49 ?_
    refine pop_add .i64 sum3_1 (w64 ((w64 (sign4_1 * s21)) * s49)) ?_
    exact ⟨(w64 (sum3_1 + (w64 ((w64 (sign4_1 * s21)) * s49)))), rfl, H, hL7⟩
   have H := H.1 hb4
   obtain ⟨hi5, H⟩ := H
   refine pop_index sli24 siz37 .i64 s25 s27 hi5 ?_
   obtain ⟨s30, hc1, H⟩ := H
   refine rop_one one37 s30.v hc1 ?_
   refine H.mono fun r2 H => ?_
   obtain ⟨s34, rfl, H⟩ := H
   refine pop_add .i64 s17 1 ?_
   refine H.mono fun r3 H => ?_
   obtain ⟨s39, rfl, H⟩ := H
   refine H.mono fun r4 h3 H => ?_
   obtain ⟨s35, rfl, hL3, H⟩ := H
   refine H.mono fun r5 h4 H => ?_
   obtain ⟨s40, rfl, hL4, H⟩ := H
   refine H.mono fun r6 h5 H => ?_
   obtain ⟨s41, rfl, hL5, H⟩ := H
   refine H.mono fun r7 h6 H => ?_
   obtain ⟨s42, rfl, hL6, H⟩ := H
   refine pop_add .i64 s27 1 ?_
   obtain ⟨m_1, hm_1, H⟩ := H
   exact hn2 _ _ ⟨m_1, hm_1, s42, (w64 (s27 + 1)), rfl, H, hL6⟩
  intro junk3 tv3 h8
  rintro ⟨y1, hv, hJ3, hL8⟩
  cases hv
  have H := HB2 y1 h8 hJ3 hL8
  refine pop_neg .i64 sign4_1 ?_
  refine pop_add .i64 s17 1 ?_
  obtain ⟨m_2, hm_2, H⟩ := H
  exact hn1 _ _ ⟨m_2, hm_2, y1, (w64 (0 - sign4_1)), (w64 (s17 + 1)), rfl, H, hL8⟩
def u96 (P : Program) (s0_1 : Sl) (f1_1 : Value) (h : Heap) (K : Value -> Heap -> Prop) : Prop :=
 callM P 132 #[s0_1.v, f1_1] h fun r1 h1 => ∃ s7 : Int, r1 = (VI s7) /\ Vars h1 [] /\
 K (VB (decide (0 ≤ s7))) h1
theorem v96 (s0_1 : Sl) (f1_1 : Value) (h : Heap) (K : Value -> Heap -> Prop) (H : u96 Try.prog s0_1 f1_1 h K) : callM Try.prog 96 #[s0_1.v, f1_1] h K := by
  refine c96 s0_1.v f1_1 h K ?_
  unfold u96 at H
  unfold t96
  have hL : Vars h [] := .nil
  refine H.mono fun r1 h1 H => ?_
  obtain ⟨s7, rfl, hL1, H⟩ := H
  refine pop_geq .i64 s7 0 ?_
  exact H
def u106 (P : Program) (b1 : Nat) (c0_1 : Sl) (c0_2 : Int) (c0_3 : Int) (n1_1 : Int) (h : Heap) (K : Value -> Heap -> Prop) : Prop :=
 callM P 70 #[(VP b1 0), (VI n1_1)] h fun r1 h1 => ∃ y1 : Sl, ∃ y2 : Int, ∃ y3 : Int, ∃ s7 : Int, r1 = (VI s7) /\ Vars h1 [(b1, [y1.v, (VI y2), (Value.int .u64 y3)])] /\
 K (VB (decide (s7 = 0))) h1
theorem v106 (b1 : Nat) (c0_1 : Sl) (c0_2 : Int) (c0_3 : Int) (n1_1 : Int) (h : Heap) (K : Value -> Heap -> Prop) (hL : Vars h [(b1, [c0_1.v, (VI c0_2), (Value.int .u64 c0_3)])]) (H : u106 Try.prog b1 c0_1 c0_2 c0_3 n1_1 h K) : callM Try.prog 106 #[(VP b1 0), (VI n1_1)] h K := by
  refine c106 (VP b1 0) (VI n1_1) h K ?_
  unfold u106 at H
  unfold t106
  refine H.mono fun r1 h1 H => ?_
  obtain ⟨y1, y2, y3, s7, rfl, hL1, H⟩ := H
  refine pop_ieq .i64 _ _ s7 0 ?_
  exact H
def u107 (P : Program) (b1 : Nat) (c0_1 : Sl) (c0_2 : Int) (c0_3 : Int) (list1_1 : Sl) (h : Heap) (K : Value -> Heap -> Prop) : Prop :=
 callM P 70 #[(VP b1 0), (VI (list1_1.n : Int))] h fun r1 h1 => ∃ y1 : Sl, ∃ y2 : Int, ∃ y3 : Int, ∃ s9 : Int, r1 = (VI s9) /\ Vars h1 [(b1, [y1.v, (VI y2), (Value.int .u64 y3)])] /\
 InB list1_1 s9 /\
 ∃ s11 : Int, hcell h1 (Sl.at list1_1 s9 1) = some (VI s11) /\
 K (VI s11) h1
theorem v107 (b1 : Nat) (c0_1 : Sl) (c0_2 : Int) (c0_3 : Int) (list1_1 : Sl) (h : Heap) (K : Value -> Heap -> Prop) (hL : Vars h [(b1, [c0_1.v, (VI c0_2), (Value.int .u64 c0_3)])]) (H : u107 Try.prog b1 c0_1 c0_2 c0_3 list1_1 h K) : callM Try.prog 107 #[(VP b1 0), list1_1.v] h K := by
  refine c107 (VP b1 0) list1_1.v h K ?_
  unfold u107 at H
  unfold t107
  refine pop_len list1_1 _ _ sli37 ?_
  refine H.mono fun r1 h1 H => ?_
  obtain ⟨y1, y2, y3, s9, rfl, hL1, H⟩ := H
  obtain ⟨hi1, H⟩ := H
  refine pop_index sli37 siz3 .i64 list1_1 s9 hi1 ?_
  obtain ⟨s11, hc1, H⟩ := H
  refine rop_one one3 (VI s11) hc1 ?_
  exact H
def u108 (P : Program) (l0_1 : Sl) (lo1_1 : Int) (hi2_1 : Int) (h : Heap) (K : Value -> Heap -> Prop) : Prop :=
 ∃ J1 : Nat -> Int -> Heap -> Prop, (∃ n0 : Nat, J1 n0 0 h) /\
 ∀ (n1 : Nat) (s11 : Int) (h1 : Heap), J1 n1 s11 h1 -> Vars h1 [] ->
 ((decide (s11 < (l0_1.n : Int))) = true ->
 InB l0_1 s11 /\
 ∃ s14 : Int, hcell h1 (Sl.at l0_1 s11 1) = some (VI s14) /\
 callM P 73 #[(VI s14), (VI lo1_1), (VI hi2_1)] h1 fun r1 h2 => ∃ s18 : Bool, r1 = (VB s18) /\ Vars h2 [] /\
 ((!s18) = true ->
 K (VB false) h2) /\
 ((!s18) = false ->
 ∃ m : Nat, m < n1 /\ J1 m (w64 (s11 + 1)) h2)) /\
 ((decide (s11 < (l0_1.n : Int))) = false ->
 K (VB true) h1)
theorem v108 (l0_1 : Sl) (lo1_1 : Int) (hi2_1 : Int) (h : Heap) (K : Value -> Heap -> Prop) (H : u108 Try.prog l0_1 lo1_1 hi2_1 h K) : callM Try.prog 108 #[l0_1.v, (VI lo1_1), (VI hi2_1)] h K := by
  refine c108 l0_1.v (VI lo1_1) (VI hi2_1) h K ?_
  unfold u108 at H
  unfold t108
  have hL : Vars h [] := .nil
  refine pop_len l0_1 _ _ sli37 ?_
  obtain ⟨J1, ⟨n2, h0_1⟩, HB1⟩ := H
  refine loop_intro (J := fun (n : Nat) (vs : List Value) (h' : Heap) => ∃ s11 : Int, vs = [(VI s11)] /\ J1 n s11 h' /\ Vars h' []) n2 ⟨0, rfl, h0_1, hL⟩ ?_
  intro I1 mu1 hI1 junk1 tv1 h1 hi1
  obtain ⟨n1, ⟨s11, hv, hJ1, hL1⟩, hn1⟩ := hI1 _ _ hi1
  cases hv
  have H := HB1 n1 s11 h1 hJ1 hL1
  refine pop_lss .i64 s11 (l0_1.n : Int) ?_
  refine condM_b (fun hb1 => ?_) (fun hb1 => ?_)
  rotate_left
  ·exact H.2 hb1
  have H := H.1 hb1
  obtain ⟨hi2, H⟩ := H
  refine pop_index sli37 siz3 .i64 l0_1 s11 hi2 ?_
  obtain ⟨s14, hc1, H⟩ := H
  refine rop_one one3 (VI s14) hc1 ?_
  refine H.mono fun r1 h2 H => ?_
  obtain ⟨s18, rfl, hL2, H⟩ := H
  refine pop_not s18 ?_
  refine condM_b (fun hb2 => ?_) (fun hb2 => ?_)
  ·exact H.1 hb2
  have H := H.2 hb2
  refine pop_add .i64 s11 1 ?_
  obtain ⟨m_1, hm_1, H⟩ := H
  exact hn1 _ _ ⟨m_1, hm_1, (w64 (s11 + 1)), rfl, H, hL2⟩
def u109 (P : Program) (b1 : Nat) (c0_1 : Sl) (c0_2 : Int) (c0_3 : Int) (h : Heap) (K : Value -> Heap -> Prop) : Prop :=
 ∀ (b2 : Nat) (h1 : Heap), h.size ≤ b2 -> Fr (In []) h h1 -> Vars h1 [(b2, [nilSl.v]), (b1, [c0_1.v, (VI c0_2), (Value.int .u64 c0_3)])] ->
 callM P 106 #[(VP b1 0), (VI 6)] h1 fun r1 h2 => ∃ y1 : Sl, ∃ y2 : Int, ∃ y3 : Int, ∃ s10 : Bool, r1 = (VB s10) /\ Vars h2 [(b2, [nilSl.v]), (b1, [y1.v, (VI y2), (Value.int .u64 y3)])] /\
 (s10 = true ->
 callM P 68 #[(VP b1 0)] h2 fun r2 h3 => ∃ y4 : Sl, ∃ y5 : Int, ∃ y6 : Int, ∃ s12 : Sl, r2 = (.agg #[s12.v]) /\ Vars h3 [(b2, [nilSl.v]), (b1, [y4.v, (VI y5), (Value.int .u64 y6)])] /\
 ∀ (h4 : Heap), Fr (In [b2]) h3 h4 -> Vars h4 [(b2, [s12.v]), (b1, [y4.v, (VI y5), (Value.int .u64 y6)])] ->
 K (.agg #[s12.v]) h4) /\
 (s10 = false ->
 callM P 70 #[(VP b1 0), (VI 5)] h2 fun r3 h5 => ∃ y7 : Sl, ∃ y8 : Int, ∃ y9 : Int, ∃ s14 : Int, r3 = (VI s14) /\ Vars h5 [(b2, [nilSl.v]), (b1, [y7.v, (VI y8), (Value.int .u64 y9)])] /\
 callM P 106 #[(VP b1 0), (VI 2)] h5 fun r4 h6 => ∃ y10 : Sl, ∃ y11 : Int, ∃ y12 : Int, ∃ s18 : Bool, r4 = (VB s18) /\ Vars h6 [(b2, [nilSl.v]), (b1, [y10.v, (VI y11), (Value.int .u64 y12)])] /\
 callM P 135 #[(VI (w64 (1 + s14))), (VB s18)] h6 fun r5 h7 => ∃ s19 : Sl, r5 = (.agg #[s19.v]) /\ Vars h7 [(b2, [nilSl.v]), (b1, [y10.v, (VI y11), (Value.int .u64 y12)])] /\
 ∀ (b3 : Nat) (h9 : Heap), h7.size ≤ b3 -> Fr (In []) h7 h9 -> Vars h9 [(b3, [s19.v]), (b2, [nilSl.v]), (b1, [y10.v, (VI y11), (Value.int .u64 y12)])] ->
 callM P 70 #[(VP b1 0), (VI 3)] h9 fun r6 h10 => ∃ y13 : Sl, ∃ y14 : Int, ∃ y15 : Int, ∃ s21 : Int, r6 = (VI s21) /\ Vars h10 [(b3, [s19.v]), (b2, [nilSl.v]), (b1, [y13.v, (VI y14), (Value.int .u64 y15)])] /\
 ∃ J1 : Nat -> Int -> Sl -> Int -> Int -> Heap -> Prop, (∃ n0 : Nat, J1 n0 s21 y13 y14 y15 h10) /\
 ∀ (n1 : Nat) (k5_1 : Int) (y16 : Sl) (y17 : Int) (y18 : Int) (h11 : Heap), J1 n1 k5_1 y16 y17 y18 h11 -> Vars h11 [(b3, [s19.v]), (b2, [nilSl.v]), (b1, [y16.v, (VI y17), (Value.int .u64 y18)])] ->
 ((decide (0 < k5_1)) = true ->
 callM P 136 #[(VP b1 0), (VI (w64 (1 + s14)))] h11 fun r7 h12 => ∃ y19 : Sl, ∃ y20 : Int, ∃ y21 : Int, ∃ s28 : Sl, r7 = s28.v /\ Vars h12 [(b3, [s19.v]), (b2, [nilSl.v]), (b1, [y19.v, (VI y20), (Value.int .u64 y21)])] /\
 callM P 70 #[(VP b1 0), (VI (w64 (1 + s14)))] h12 fun r8 h13 => ∃ y22 : Sl, ∃ y23 : Int, ∃ y24 : Int, ∃ s31 : Int, r8 = (VI s31) /\ Vars h13 [(b3, [s19.v]), (b2, [nilSl.v]), (b1, [y22.v, (VI y23), (Value.int .u64 y24)])] /\
 ∃ J2 : Nat -> Int -> Heap -> Prop, (∃ n0 : Nat, J2 n0 0 h13) /\
 ∀ (n2 : Nat) (i8_1 : Int) (h14 : Heap), J2 n2 i8_1 h14 -> Vars h14 [(b3, [s19.v]), (b2, [nilSl.v]), (b1, [y22.v, (VI y23), (Value.int .u64 y24)])] ->
 ((decide (i8_1 < (w64 (1 + s31)))) = true ->
 InB s28 i8_1 /\
 ∃ s43 : Int, hcell h14 (Sl.at s28 i8_1 1) = some (VI s43) /\
 InB s28 i8_1 /\
 ∃ s49 : Int, hcell h14 (Sl.at s28 i8_1 1) = some (VI s49) /\
 InB s19 s49 /\
 ∃ s51 : Sl, hcell h14 (Sl.at s19 s49 1) = some s51.v /\
 (w64 (1 + s31)) ≠ 0 /\
 InB s28 (Int.tmod (w64 (i8_1 + 1)) (w64 (1 + s31))) /\
 ∃ s58 : Int, hcell h14 (Sl.at s28 (Int.tmod (w64 (i8_1 + 1)) (w64 (1 + s31))) 1) = some (VI s58) /\
 eop P (Instr.buildSlice 37 1 #[(0, (VI s58))]) h14 fun r9 h15 => ∃ s59 : Sl, r9 = s59.v /\ Vars h15 [(b3, [s19.v]), (b2, [nilSl.v]), (b1, [y22.v, (VI y23), (Value.int .u64 y24)])] /\
 hcell h15 (Sl.at s19 s49 1) = some s51.v /\
 hcell h15 (Sl.at s28 i8_1 1) = some (VI s49) /\
 hcell h15 (Sl.at s28 i8_1 1) = some (VI s43) /\
 eop P (appS 37 37 37 s51.v s59.v) h15 fun r10 h16 => ∃ s60 : Sl, r10 = s60.v /\ Vars h16 [(b3, [s19.v]), (b2, [nilSl.v]), (b1, [y22.v, (VI y23), (Value.int .u64 y24)])] /\
 hcell h16 (Sl.at s28 i8_1 1) = some (VI s49) /\
 hcell h16 (Sl.at s28 i8_1 1) = some (VI s43) /\
 InB s19 s43 /\
 Writable h16 (Sl.at s19 s43 1) /\ Vars (hset h16 (Sl.at s19 s43 1) s60.v) [(b3, [s19.v]), (b2, [nilSl.v]), (b1, [y22.v, (VI y23), (Value.int .u64 y24)])] /\
 ∀ h17 : Heap, h17 = hset h16 (Sl.at s19 s43 1) s60.v -> Vars h17 [(b3, [s19.v]), (b2, [nilSl.v]), (b1, [y22.v, (VI y23), (Value.int .u64 y24)])] ->
 ∃ m : Nat, m < n2 /\ J2 m (w64 (i8_1 + 1)) h17) /\
 ((decide (i8_1 < (w64 (1 + s31)))) = false ->
 ∃ m : Nat, m < n1 /\ J1 m (w64 (k5_1 - 1)) y22 y23 y24 h14)) /\
 ((decide (0 < k5_1)) = false ->
 ∀ (h18 : Heap), Fr (In [b2]) h11 h18 -> Vars h18 [(b3, [s19.v]), (b2, [s19.v]), (b1, [y16.v, (VI y17), (Value.int .u64 y18)])] ->
 K (.agg #[s19.v]) h18))
theorem v109 (b1 : Nat) (c0_1 : Sl) (c0_2 : Int) (c0_3 : Int) (h : Heap) (K : Value -> Heap -> Prop) (hL : Vars h [(b1, [c0_1.v, (VI c0_2), (Value.int .u64 c0_3)])]) (H : u109 Try.prog b1 c0_1 c0_2 c0_3 h K) : callM Try.prog 109 #[(VP b1 0)] h K := by
  refine c109 (VP b1 0) h K ?_
  unfold u109 at H
  unfold t109
  refine eop_alloc 26 zer26 rfl hL (fun b2 h1 hb1 hf1 hL1 => ?_)
  have H := H b2 h1 hb1 (Fr.no' (Fr.r (In []) _) hf1) hL1
  refine H.mono fun r1 h2 H => ?_
  obtain ⟨y1, y2, y3, s10, rfl, hL2, H⟩ := H
  refine condM_b (fun hb2 => ?_) (fun hb2 => ?_)
  ·have H := H.1 hb2
   refine H.mono fun r2 h3 H => ?_
   obtain ⟨y4, y5, y6, s12, rfl, hL3, H⟩ := H
   refine ul siz26 hL3 0 0 [s12.v] [(b2, [s12.v]), (b1, [y4.v, (VI y5), (Value.int .u64 y6)])] (fun h4 hf2 hL4 => ?_)
   refine ra agg26 hL4 0 0 [s12.v] ?_
   have H := H  h4  (Fr.old (Fr.r (In []) _) hf2) hL4
   exact H
  have H := H.2 hb2
  refine H.mono fun r3 h5 H => ?_
  obtain ⟨y7, y8, y9, s14, rfl, hL5, H⟩ := H
  refine pop_add .i64 1 s14 ?_
  refine H.mono fun r4 h6 H => ?_
  obtain ⟨y10, y11, y12, s18, rfl, hL6, H⟩ := H
  refine H.mono fun r5 h7 H => ?_
  obtain ⟨s19, rfl, hL7, H⟩ := H
  refine eop_alloc 26 zer26 rfl hL7 (fun b3 h8 hb3 hf3 hL8 => ?_)
  refine ul siz26 hL8 0 0 [s19.v] [(b3, [s19.v]), (b2, [nilSl.v]), (b1, [y10.v, (VI y11), (Value.int .u64 y12)])] (fun h9 hf4 hL9 => ?_)
  have H := H b3 h9 hb3 (Fr.new (Fr.no' (Fr.r (In []) _) hf3) hb3 hf4) hL9
  refine H.mono fun r6 h10 H => ?_
  obtain ⟨y13, y14, y15, s21, rfl, hL10, H⟩ := H
  obtain ⟨J1, ⟨n4, h0_2⟩, HB2⟩ := H
  refine loop_intro (J := fun (n : Nat) (vs : List Value) (h' : Heap) => ∃ k5_1 : Int, ∃ y16 : Sl, ∃ y17 : Int, ∃ y18 : Int, vs = [(VI k5_1)] /\ J1 n k5_1 y16 y17 y18 h' /\ Vars h' [(b3, [s19.v]), (b2, [nilSl.v]), (b1, [y16.v, (VI y17), (Value.int .u64 y18)])]) n4 ⟨s21, y13, y14, y15, rfl, h0_2, hL10⟩ ?_
  intro I2 mu2 hI2 junk1 tv2 h11 hi1
  obtain ⟨n1, ⟨k5_1, y16, y17, y18, hv, hJ1, hL11⟩, hn1⟩ := hI2 _ _ hi1
  cases hv
  have H := HB2 n1 k5_1 y16 y17 y18 h11 hJ1 hL11
  refine pop_gtr .i64 k5_1 0 ?_
  refine condM_b (fun hb4 => ?_) (fun hb4 => ?_)
  rotate_left
  ·have H := H.2 hb4
   refine ra agg26 hL11 0 0 [s19.v] ?_
   refine ul siz26 hL11 1 0 [s19.v] [(b3, [s19.v]), (b2, [s19.v]), (b1, [y16.v, (VI y17), (Value.int .u64 y18)])] (fun h18 hf5 hL18 => ?_)
   refine ra agg26 hL18 1 0 [s19.v] ?_
   have H := H  h18  (Fr.old (Fr.r (In []) _) hf5) hL18
   exact H
  have H := H.1 hb4
  refine H.mono fun r7 h12 H => ?_
  obtain ⟨y19, y20, y21, s28, rfl, hL12, H⟩ := H
  refine H.mono fun r8 h13 H => ?_
  obtain ⟨y22, y23, y24, s31, rfl, hL13, H⟩ := H
  refine pop_add .i64 1 s31 ?_
  obtain ⟨J2, ⟨n3, h0_1⟩, HB1⟩ := H
  refine loop_intro (J := fun (n : Nat) (vs : List Value) (h' : Heap) => ∃ i8_1 : Int, vs = [(VI i8_1)] /\ J2 n i8_1 h' /\ Vars h' [(b3, [s19.v]), (b2, [nilSl.v]), (b1, [y22.v, (VI y23), (Value.int .u64 y24)])]) n3 ⟨0, rfl, h0_1, hL13⟩ ?_
  intro I1 mu1 hI1 junk2 tv1 h14 hi2
  obtain ⟨n2, ⟨i8_1, hv, hJ2, hL14⟩, hn2⟩ := hI1 _ _ hi2
  cases hv
  have H := HB1 n2 i8_1 h14 hJ2 hL14
  refine pop_lss .i64 i8_1 (w64 (1 + s31)) ?_
  refine condM_b (fun hb5 => ?_) (fun hb5 => ?_)
  rotate_left
  ·have H := H.2 hb5
   refine pop_sub .i64 k5_1 1 ?_
   obtain ⟨m_2, hm_2, H⟩ := H
   exact hn1 _ _ ⟨m_2, hm_2, (w64 (k5_1 - 1)), y22, y23, y24, rfl, H, hL14⟩
  have H := H.1 hb5
  refine pop_field 0 fld26_0 b3 0 ?_
  refine rl one24 hL14 0 0 s19.v ?_
  obtain ⟨hi3, H⟩ := H
  refine pop_index sli37 siz3 .i64 s28 i8_1 hi3 ?_
  obtain ⟨s43, hc9, H⟩ := H
  refine rop_one one3 (VI s43) hc9 ?_
  refine pop_field 0 fld26_0 b3 0 ?_
  refine rl one24 hL14 0 0 s19.v ?_
  obtain ⟨hi4, H⟩ := H
  refine pop_index sli37 siz3 .i64 s28 i8_1 hi4 ?_
  obtain ⟨s49, hc8, H⟩ := H
  refine rop_one one3 (VI s49) hc8 ?_
  obtain ⟨hi5, H⟩ := H
  refine pop_index sli24 siz37 .i64 s19 s49 hi5 ?_
  obtain ⟨s51, hc7, H⟩ := H
  refine rop_one one37 s51.v hc7 ?_
  refine pop_add .i64 i8_1 1 ?_
  obtain ⟨hz_1, H⟩ := H
  refine pop_rem .i64 (w64 (i8_1 + 1)) (w64 (1 + s31)) hz_1 ?_
  obtain ⟨hi6, H⟩ := H
  refine pop_index sli37 siz3 .i64 s28 (Int.tmod (w64 (i8_1 + 1)) (w64 (1 + s31))) hi6 ?_
  obtain ⟨s58, hc6, H⟩ := H
  refine rop_one one3 (VI s58) hc6 ?_
  refine H.mono fun r9 h15 H => ?_
  obtain ⟨s59, rfl, hL15, H⟩ := H
  refine ⟨?_, ?_⟩
  ·exact still_one one37 H.1
  obtain ⟨hc1, H⟩ := H
  refine ⟨?_, ?_⟩
  ·exact still_one one3 H.1
  obtain ⟨hc2, H⟩ := H
  refine ⟨?_, ?_⟩
  ·exact still_loc one24 hL15 0 rfl 0 (v := s19.v) rfl
  refine ⟨?_, ?_⟩
  ·exact still_one one3 H.1
  obtain ⟨hc3, H⟩ := H
  refine ⟨?_, ?_⟩
  ·exact still_loc one24 hL15 0 rfl 0 (v := s19.v) rfl
  refine H.mono fun r10 h16 H => ?_
  obtain ⟨s60, rfl, hL16, H⟩ := H
  refine ⟨?_, ?_⟩
  ·exact still_one one3 H.1
  obtain ⟨hc4, H⟩ := H
  refine ⟨?_, ?_⟩
  ·exact still_loc one24 hL16 0 rfl 0 (v := s19.v) rfl
  refine ⟨?_, ?_⟩
  ·exact still_one one3 H.1
  obtain ⟨hc5, H⟩ := H
  refine ⟨?_, ?_⟩
  ·exact still_loc one24 hL16 0 rfl 0 (v := s19.v) rfl
  obtain ⟨hi7, H⟩ := H
  refine pop_index sli24 siz37 .i64 s19 s43 hi7 ?_
  obtain ⟨hw_1, hL17, H⟩ := H
  refine uop_cell (v := s60.v) siz37 hw_1 rfl (fun h17 he_1 => ?_)
  rw [← he_1] at hL17
  have H := H h17 he_1 hL17
  refine pop_add .i64 i8_1 1 ?_
  obtain ⟨m_1, hm_1, H⟩ := H
  exact hn2 _ _ ⟨m_1, hm_1, (w64 (i8_1 + 1)), rfl, H, hL17⟩
def u110 (P : Program) (g0_1 : Sl) (p1_1 : Int) (h : Heap) (K : Value -> Heap -> Prop) : Prop :=
 ∀ (b1 : Nat) (h1 : Heap), h.size ≤ b1 -> Fr (In []) h h1 -> Vars h1 [(b1, [g0_1.v])] ->
 eop P (Instr.buildSlice 37 1 #[(0, (.int .i64 (-1)))]) h1 fun r1 h2 => ∃ s9 : Sl, r1 = s9.v /\ Vars h2 [(b1, [g0_1.v])] /\
 callM P 137 #[s9.v, (VI (g0_1.n : Int))] h2 fun r2 h3 => ∃ s13 : Sl, r2 = s13.v /\ Vars h3 [(b1, [g0_1.v])] /\
 InB s13 p1_1 /\
 Writable h3 (Sl.at s13 p1_1 1) /\ Vars (hset h3 (Sl.at s13 p1_1 1) (VI 0)) [(b1, [g0_1.v])] /\
 ∀ h4 : Heap, h4 = hset h3 (Sl.at s13 p1_1 1) (VI 0) -> Vars h4 [(b1, [g0_1.v])] ->
 eop P (Instr.buildSlice 37 1 #[(0, (VI p1_1))]) h4 fun r3 h5 => ∃ s18 : Sl, r3 = s18.v /\ Vars h5 [(b1, [g0_1.v])] /\
 ∃ J1 : Nat -> Sl -> Heap -> Prop, (∃ n0 : Nat, J1 n0 s18 h5) /\
 ∀ (n1 : Nat) (list6_1 : Sl) (h6 : Heap), J1 n1 list6_1 h6 -> Vars h6 [(b1, [g0_1.v])] ->
 ((decide (0 < (list6_1.n : Int))) = true ->
 InB list6_1 0 /\
 ∃ s28 : Int, hcell h6 (Sl.at list6_1 0 1) = some (VI s28) /\
 InB g0_1 s28 /\
 ∃ s30 : Sl, hcell h6 (Sl.at g0_1 s28 1) = some s30.v /\
 ∃ J2 : Nat -> Sl -> Int -> Heap -> Prop, (∃ n0 : Nat, J2 n0 list6_1 0 h6) /\
 ∀ (n2 : Nat) (list6_2 : Sl) (s32 : Int) (h7 : Heap), J2 n2 list6_2 s32 h7 -> Vars h7 [(b1, [g0_1.v])] ->
 ((decide (s32 < (s30.n : Int))) = true ->
 InB s30 s32 /\
 ∃ s35 : Int, hcell h7 (Sl.at s30 s32 1) = some (VI s35) /\
 InB s13 s35 /\
 ∃ s39 : Int, hcell h7 (Sl.at s13 s35 1) = some (VI s39) /\
 ((decide (s39 < 0)) = true ->
 InB list6_2 0 /\
 ∃ s46 : Int, hcell h7 (Sl.at list6_2 0 1) = some (VI s46) /\
 InB s13 s46 /\
 ∃ s48 : Int, hcell h7 (Sl.at s13 s46 1) = some (VI s48) /\
 InB s13 s35 /\
 Writable h7 (Sl.at s13 s35 1) /\ Vars (hset h7 (Sl.at s13 s35 1) (VI (w64 (s48 + 1)))) [(b1, [g0_1.v])] /\
 ∀ h8 : Heap, h8 = hset h7 (Sl.at s13 s35 1) (VI (w64 (s48 + 1))) -> Vars h8 [(b1, [g0_1.v])] ->
 eop P (Instr.buildSlice 37 1 #[(0, (VI s35))]) h8 fun r4 h9 => ∃ s53 : Sl, r4 = s53.v /\ Vars h9 [(b1, [g0_1.v])] /\
 eop P (appS 37 37 37 list6_2.v s53.v) h9 fun r5 h10 => ∃ s54 : Sl, r5 = s54.v /\ Vars h10 [(b1, [g0_1.v])] /\
 ∃ m : Nat, m < n2 /\ J2 m s54 (w64 (s32 + 1)) h10) /\
 ((decide (s39 < 0)) = false ->
 ∃ m : Nat, m < n2 /\ J2 m list6_2 (w64 (s32 + 1)) h7)) /\
 ((decide (s32 < (s30.n : Int))) = false ->
 pop P (Instr.sliceAt 37 list6_2.v (some (.int .i64 1)) none none) fun r6 => ∃ s23 : Sl, r6 = s23.v /\ 
 ∃ m : Nat, m < n1 /\ J1 m s23 h7)) /\
 ((decide (0 < (list6_1.n : Int))) = false ->
 K s13.v h6)
theorem v110 (g0_1 : Sl) (p1_1 : Int) (h : Heap) (K : Value -> Heap -> Prop) (H : u110 Try.prog g0_1 p1_1 h K) : callM Try.prog 110 #[(Value.agg #[g0_1.v]), (VI p1_1)] h K := by
  refine c110 (Value.agg #[g0_1.v]) (VI p1_1) h K ?_
  unfold u110 at H
  unfold t110
  have hL : Vars h [] := .nil
  refine eop_box 26 (Value.agg #[g0_1.v]) rfl hL (fun b1 h1 hb1 hf1 hL1 => ?_)
  have H := H b1 h1 hb1 (Fr.no' (Fr.r (In []) _) hf1) hL1
  refine H.mono fun r1 h2 H => ?_
  obtain ⟨s9, rfl, hL2, H⟩ := H
  refine pop_field 0 fld26_0 b1 0 ?_
  refine rl one24 hL2 0 0 g0_1.v ?_
  refine pop_len g0_1 _ _ sli24 ?_
  refine H.mono fun r2 h3 H => ?_
  obtain ⟨s13, rfl, hL3, H⟩ := H
  obtain ⟨hi1, H⟩ := H
  refine pop_index sli37 siz3 .i64 s13 p1_1 hi1 ?_
  obtain ⟨hw_1, hL4, H⟩ := H
  refine uop_cell (v := (VI 0)) siz3 hw_1 rfl (fun h4 he_1 => ?_)
  rw [← he_1] at hL4
  have H := H h4 he_1 hL4
  refine H.mono fun r3 h5 H => ?_
  obtain ⟨s18, rfl, hL5, H⟩ := H
  obtain ⟨J1, ⟨n4, h0_2⟩, HB2⟩ := H
  refine loop_intro (J := fun (n : Nat) (vs : List Value) (h' : Heap) => ∃ list6_1 : Sl, vs = [list6_1.v] /\ J1 n list6_1 h' /\ Vars h' [(b1, [g0_1.v])]) n4 ⟨s18, rfl, h0_2, hL5⟩ ?_
  intro I2 mu2 hI2 junk1 tv3 h6 hi2
  obtain ⟨n1, ⟨list6_1, hv, hJ1, hL6⟩, hn1⟩ := hI2 _ _ hi2
  cases hv
  have H := HB2 n1 list6_1 h6 hJ1 hL6
  refine pop_len list6_1 _ _ sli37 ?_
  refine pop_gtr .i64 (list6_1.n : Int) 0 ?_
  refine condM_b (fun hb2 => ?_) (fun hb2 => ?_)
  rotate_left
  ·exact H.2 hb2
  have H := H.1 hb2
  refine pop_field 0 fld26_0 b1 0 ?_
  refine rl one24 hL6 0 0 g0_1.v ?_
  obtain ⟨hi3, H⟩ := H
  refine pop_index sli37 siz3 .i64 list6_1 0 hi3 ?_
  obtain ⟨s28, hc6, H⟩ := H
  refine rop_one one3 (VI s28) hc6 ?_
  obtain ⟨hi4, H⟩ := H
  refine pop_index sli24 siz37 .i64 g0_1 s28 hi4 ?_
  obtain ⟨s30, hc5, H⟩ := H
  refine rop_one one37 s30.v hc5 ?_
  refine pop_len s30 _ _ sli37 ?_
  obtain ⟨J2, ⟨n3, h0_1⟩, HB1⟩ := H
  refine loop_intro (J := fun (n : Nat) (vs : List Value) (h' : Heap) => ∃ list6_2 : Sl, ∃ s32 : Int, vs = [list6_2.v, (VI s32)] /\ J2 n list6_2 s32 h' /\ Vars h' [(b1, [g0_1.v])]) n3 ⟨list6_1, 0, rfl, h0_1, hL6⟩ ?_
  intro I1 mu1 hI1 junk2 tv1 tv2 h7 hi5
  obtain ⟨n2, ⟨list6_2, s32, hv, hJ2, hL7⟩, hn2⟩ := hI1 _ _ hi5
  cases hv
  have H := HB1 n2 list6_2 s32 h7 hJ2 hL7
  refine pop_lss .i64 s32 (s30.n : Int) ?_
  refine condM_b (fun hb3 => ?_) (fun hb3 => ?_)
  rotate_left
  ·have H := H.2 hb3
   refine H.mono fun r6 H => ?_
   obtain ⟨s23, rfl, H⟩ := H
   obtain ⟨m_3, hm_3, H⟩ := H
   exact hn1 _ _ ⟨m_3, hm_3, s23, rfl, H, hL7⟩
  have H := H.1 hb3
  obtain ⟨hi6, H⟩ := H
  refine pop_index sli37 siz3 .i64 s30 s32 hi6 ?_
  obtain ⟨s35, hc4, H⟩ := H
  refine rop_one one3 (VI s35) hc4 ?_
  obtain ⟨hi7, H⟩ := H
  refine pop_index sli37 siz3 .i64 s13 s35 hi7 ?_
  obtain ⟨s39, hc3, H⟩ := H
  refine rop_one one3 (VI s39) hc3 ?_
  refine pop_lss .i64 s39 0 ?_
  refine condM_b (fun hb4 => ?_) (fun hb4 => ?_)
  rotate_left
  ·have H := H.2 hb4
   refine pop_add .i64 s32 1 ?_
   obtain ⟨m_2, hm_2, H⟩ := H
   exact hn2 _ _ ⟨m_2, hm_2, list6_2, (w64 (s32 + 1)), rfl, H, hL7⟩
  have H := H.1 hb4
  obtain ⟨hi8, H⟩ := H
  refine pop_index sli37 siz3 .i64 list6_2 0 hi8 ?_
  obtain ⟨s46, hc2, H⟩ := H
  refine rop_one one3 (VI s46) hc2 ?_
  obtain ⟨hi9, H⟩ := H
  refine pop_index sli37 siz3 .i64 s13 s46 hi9 ?_
  obtain ⟨s48, hc1, H⟩ := H
  refine rop_one one3 (VI s48) hc1 ?_
  refine pop_add .i64 s48 1 ?_
  obtain ⟨hi10, H⟩ := H
  refine pop_index sli37 siz3 .i64 s13 s35 hi10 ?_
  obtain ⟨hw_2, hL8, H⟩ := H
  refine uop_cell (v := (VI (w64 (s48 + 1)))) siz3 hw_2 rfl (fun h8 he_2 => ?_)
  rw [← he_2] at hL8
  have H := H h8 he_2 hL8
  refine H.mono fun r4 h9 H => ?_
  obtain ⟨s53, rfl, hL9, H⟩ := H
  refine H.mono fun r5 h10 H => ?_
  obtain ⟨s54, rfl, hL10, H⟩ := H
  refine pop_add .i64 s32 1 ?_
  obtain ⟨m_1, hm_1, H⟩ := H
  exact hn2 _ _ ⟨m_1, hm_1, s54, (w64 (s32 + 1)), rfl, H, hL10⟩
def u111 (P : Program) (s0 : Int) (h : Heap) (K : Value -> Heap -> Prop) : Prop :=
 K (VI 0) h
theorem v111 (s0 : Int) (h : Heap) (K : Value -> Heap -> Prop) (H : u111 Try.prog s0 h K) : callM Try.prog 111 #[(VI s0)] h K := by
  refine c111 (VI s0) h K ?_
  unfold u111 at H
  unfold t111
  have hL : Vars h [] := .nil
  exact H
def u112 (P : Program) (a0_1 : Int) (b1_1 : Int) (h : Heap) (K : Value -> Heap -> Prop) : Prop :=
 pop P (Builtin.max_ #[3, 3] 3 #[(VI a0_1), (VI (w64 (0 - a0_1)))]) fun r1 => ∃ s8 : Int, r1 = (VI s8) /\ 
 pop P (Builtin.max_ #[3, 3] 3 #[(VI b1_1), (VI (w64 (0 - b1_1)))]) fun r2 => ∃ s12 : Int, r2 = (VI s12) /\ 
 ∃ J1 : Nat -> Int -> Int -> Heap -> Prop, (∃ n0 : Nat, J1 n0 s8 s12 h) /\
 ∀ (n1 : Nat) (a0_2 : Int) (b1_2 : Int) (h1 : Heap), J1 n1 a0_2 b1_2 h1 -> Vars h1 [] ->
 ((!decide (b1_2 = 0)) = true ->
 b1_2 ≠ 0 /\
 ∃ m : Nat, m < n1 /\ J1 m b1_2 (Int.tmod a0_2 b1_2) h1) /\
 ((!decide (b1_2 = 0)) = false ->
 K (VI a0_2) h1)
theorem v112 (a0_1 : Int) (b1_1 : Int) (h : Heap) (K : Value -> Heap -> Prop) (H : u112 Try.prog a0_1 b1_1 h K) : callM Try.prog 112 #[(VI a0_1), (VI b1_1)] h K := by
  refine c112 (VI a0_1) (VI b1_1) h K ?_
  unfold u112 at H
  unfold t112
  have hL : Vars h [] := .nil
  refine pop_neg .i64 a0_1 ?_
  refine H.mono fun r1 H => ?_
  obtain ⟨s8, rfl, H⟩ := H
  refine pop_neg .i64 b1_1 ?_
  refine H.mono fun r2 H => ?_
  obtain ⟨s12, rfl, H⟩ := H
  obtain ⟨J1, ⟨n2, h0_1⟩, HB1⟩ := H
  refine loop_intro (J := fun (n : Nat) (vs : List Value) (h' : Heap) => ∃ a0_2 : Int, ∃ b1_2 : Int, vs = [(VI a0_2), (VI b1_2)] /\ J1 n a0_2 b1_2 h' /\ Vars h' []) n2 ⟨s8, s12, rfl, h0_1, hL⟩ ?_
  intro I1 mu1 hI1 junk1 tv1 tv2 h1 hi1
  obtain ⟨n1, ⟨a0_2, b1_2, hv, hJ1, hL1⟩, hn1⟩ := hI1 _ _ hi1
  cases hv
  have H := HB1 n1 a0_2 b1_2 h1 hJ1 hL1
  refine pop_ine .i64 _ _ b1_2 0 ?_
  refine condM_b (fun hb1 => ?_) (fun hb1 => ?_)
  rotate_left
  ·exact H.2 hb1
  have H := H.1 hb1
  obtain ⟨hz_1, H⟩ := H
  refine pop_rem .i64 a0_2 b1_2 hz_1 ?_
  obtain ⟨m_1, hm_1, H⟩ := H
  exact hn1 _ _ ⟨m_1, hm_1, b1_2, (Int.tmod a0_2 b1_2), rfl, H, hL1⟩
def u113 (P : Program) (g0_1 : Sl) (h : Heap) (K : Value -> Heap -> Prop) : Prop :=
 ∀ (b1 : Nat) (b2 : Nat) (h3 : Heap), h.size ≤ b1 -> h.size ≤ b2 -> Fr (In []) h h3 -> Vars h3 [(b2, [(VI (g0_1.n : Int))]), (b1, [g0_1.v])] ->
 callM P 71 #[(VI (g0_1.n : Int)), (VI 1), (VI 8)] h3 fun r1 h4 => ∃ s10 : Bool, r1 = (VB s10) /\ Vars h4 [(b2, [(VI (g0_1.n : Int))]), (b1, [g0_1.v])] /\
 ((!s10) = true ->
 K (VB false) h4) /\
 ((!s10) = false ->
 ∃ J1 : Nat -> Int -> Int -> Heap -> Prop, (∃ n0 : Nat, J1 n0 0 (g0_1.n : Int) h4) /\
 ∀ (n1 : Nat) (s15 : Int) (y1 : Int) (h5 : Heap), J1 n1 s15 y1 h5 -> Vars h5 [(b2, [(VI y1)]), (b1, [g0_1.v])] ->
 ((decide (s15 < (g0_1.n : Int))) = true ->
 InB g0_1 s15 /\
 ∃ s18 : Sl, hcell h5 (Sl.at g0_1 s15 1) = some s18.v /\
 ((decide (5 < (s18.n : Int))) = true ->
 K (VB false) h5) /\
 ((decide (5 < (s18.n : Int))) = false ->
 callM P 96 #[s18.v, (Value.func (Fn.func 138) #[] #[(VP b2 0)])] h5 fun r2 h6 => ∃ y2 : Int, ∃ s25 : Bool, r2 = (VB s25) /\ Vars h6 [(b2, [(VI y2)]), (b1, [g0_1.v])] /\
 (s25 = true ->
 K (VB false) h6) /\
 (s25 = false ->
 ∃ m : Nat, m < n1 /\ J1 m (w64 (s15 + 1)) y2 h6))) /\
 ((decide (s15 < (g0_1.n : Int))) = false ->
 K (VB true) h5))
theorem v113 (g0_1 : Sl) (h : Heap) (K : Value -> Heap -> Prop) (H : u113 Try.prog g0_1 h K) : callM Try.prog 113 #[(Value.agg #[g0_1.v])] h K := by
  refine c113 (Value.agg #[g0_1.v]) h K ?_
  unfold u113 at H
  unfold t113
  have hL : Vars h [] := .nil
  refine eop_box 26 (Value.agg #[g0_1.v]) rfl hL (fun b1 h1 hb1 hf1 hL1 => ?_)
  refine pop_field 0 fld26_0 b1 0 ?_
  refine rl one24 hL1 0 0 g0_1.v ?_
  refine pop_len g0_1 _ _ sli24 ?_
  refine eop_alloc 3 zer3 rfl hL1 (fun b2 h2 hb2 hf2 hL2 => ?_)
  refine ul siz3 hL2 0 0 [(VI (g0_1.n : Int))] [(b2, [(VI (g0_1.n : Int))]), (b1, [g0_1.v])] (fun h3 hf3 hL3 => ?_)
  refine rl one3 hL3 0 0 (VI (g0_1.n : Int)) ?_
  have H := H b1 b2 h3 hb1 (Nat.le_trans (Fr.size (Fr.no' (Fr.r (In []) _) hf1)) hb2) (Fr.new (Fr.no' (Fr.no' (Fr.r (In []) _) hf1) hf2) (Nat.le_trans (Fr.size (Fr.no' (Fr.r (In []) _) hf1)) hb2) hf3) hL3
  refine H.mono fun r1 h4 H => ?_
  obtain ⟨s10, rfl, hL4, H⟩ := H
  refine pop_not s10 ?_
  refine condM_b (fun hb3 => ?_) (fun hb3 => ?_)
  ·exact H.1 hb3
  have H := H.2 hb3
  refine pop_field 0 fld26_0 b1 0 ?_
  refine rl one24 hL4 1 0 g0_1.v ?_
  refine pop_len g0_1 _ _ sli24 ?_
  obtain ⟨J1, ⟨n2, h0_1⟩, HB1⟩ := H
  refine loop_intro (J := fun (n : Nat) (vs : List Value) (h' : Heap) => ∃ s15 : Int, ∃ y1 : Int, vs = [(VI s15)] /\ J1 n s15 y1 h' /\ Vars h' [(b2, [(VI y1)]), (b1, [g0_1.v])]) n2 ⟨0, (g0_1.n : Int), rfl, h0_1, hL4⟩ ?_
  intro I1 mu1 hI1 junk1 tv1 h5 hi1
  obtain ⟨n1, ⟨s15, y1, hv, hJ1, hL5⟩, hn1⟩ := hI1 _ _ hi1
  cases hv
  have H := HB1 n1 s15 y1 h5 hJ1 hL5
  refine pop_lss .i64 s15 (g0_1.n : Int) ?_
  refine condM_b (fun hb4 => ?_) (fun hb4 => ?_)
  rotate_left
  ·exact H.2 hb4
  have H := H.1 hb4
  obtain ⟨hi2, H⟩ := H
  refine pop_index sli24 siz37 .i64 g0_1 s15 hi2 ?_
  obtain ⟨s18, hc1, H⟩ := H
  refine rop_one one37 s18.v hc1 ?_
  refine pop_len s18 _ _ sli37 ?_
  refine pop_gtr .i64 (s18.n : Int) 5 ?_
  refine guardM_sf (fun hb5 => ?_) (fun hb5 => ?_)
  rotate_left
  ·have H := H.1 hb5
   refine gm hb5 ?_
   refine gm hb5 ?_
   refine pop_pickt' hb5 ?_
   refine condM_t ?_
   exact H
  have H := H.2 hb5
  refine gy hb5 ?_
  refine pop_func _ _ _ ?_
  refine gy hb5 ?_
  refine H.mono fun r2 h6 H => ?_
  obtain ⟨y2, s25, rfl, hL6, H⟩ := H
  refine pop_pickf' hb5 ?_
  refine condM_b (fun hb6 => ?_) (fun hb6 => ?_)
  ·exact H.1 hb6
  have H := H.2 hb6
  refine pop_add .i64 s15 1 ?_
  obtain ⟨m_1, hm_1, H⟩ := H
  exact hn1 _ _ ⟨m_1, hm_1, (w64 (s15 + 1)), y2, rfl, H, hL6⟩
def u114 (P : Program) (p0_1 : Int) (b1 : Nat) (s1 : Sl) (h : Heap) (K : Value -> Heap -> Prop) : Prop :=
 callM P 71 #[(VI p0_1), (VI 0), (VI (w64 ((s1.n : Int) - 1)))] h fun r1 h1 => ∃ s9 : Bool, r1 = (VB s9) /\ Vars h1 [(b1, [s1.v])] /\
 K (VB (!s9)) h1
theorem v114 (p0_1 : Int) (b1 : Nat) (s1 : Sl) (h : Heap) (K : Value -> Heap -> Prop) (hL : Vars h [(b1, [s1.v])]) (H : u114 Try.prog p0_1 b1 s1 h K) : callM Try.prog 114 #[(VI p0_1), (VP b1 0)] h K := by
  refine c114 (VI p0_1) (VP b1 0) h K ?_
  unfold u114 at H
  unfold t114
  refine pop_field 0 fld26_0 b1 0 ?_
  refine rl one24 hL 0 0 s1.v ?_
  refine pop_len s1 _ _ sli24 ?_
  refine pop_sub .i64 (s1.n : Int) 1 ?_
  refine H.mono fun r1 h1 H => ?_
  obtain ⟨s9, rfl, hL1, H⟩ := H
  refine pop_not s9 ?_
  exact H
def u115 (P : Program) (g0_1 : Sl) (p1_1 : Int) (h : Heap) (K : Value -> Heap -> Prop) : Prop :=
 ∀ (b1 : Nat) (h1 : Heap), h.size ≤ b1 -> Fr (In []) h h1 -> Vars h1 [(b1, [g0_1.v])] ->
 eop P (Instr.makeSlice 37 (VI (g0_1.n : Int)) (VI (g0_1.n : Int))) h1 fun r1 h2 => ∃ s14 : Sl, r1 = s14.v /\ Vars h2 [(b1, [g0_1.v])] /\
 ∃ J1 : Nat -> Int -> Heap -> Prop, (∃ n0 : Nat, J1 n0 0 h2) /\
 ∀ (n1 : Nat) (s17 : Int) (h3 : Heap), J1 n1 s17 h3 -> Vars h3 [(b1, [g0_1.v])] ->
 ((decide (s17 < (s14.n : Int))) = true ->
 InB s14 s17 /\
 Writable h3 (Sl.at s14 s17 1) /\ Vars (hset h3 (Sl.at s14 s17 1) (VI (-1))) [(b1, [g0_1.v])] /\
 ∀ h4 : Heap, h4 = hset h3 (Sl.at s14 s17 1) (VI (-1)) -> Vars h4 [(b1, [g0_1.v])] ->
 ∃ m : Nat, m < n1 /\ J1 m (w64 (s17 + 1)) h4) /\
 ((decide (s17 < (s14.n : Int))) = false ->
 InB s14 p1_1 /\
 Writable h3 (Sl.at s14 p1_1 1) /\ Vars (hset h3 (Sl.at s14 p1_1 1) (VI 0)) [(b1, [g0_1.v])] /\
 ∀ h5 : Heap, h5 = hset h3 (Sl.at s14 p1_1 1) (VI 0) -> Vars h5 [(b1, [g0_1.v])] ->
 eop P (Instr.buildSlice 37 1 #[(0, (VI p1_1))]) h5 fun r2 h6 => ∃ s28 : Sl, r2 = s28.v /\ Vars h6 [(b1, [g0_1.v])] /\
 ∃ J2 : Nat -> Sl -> Int -> Heap -> Prop, (∃ n0 : Nat, J2 n0 s28 0 h6) /\
 ∀ (n2 : Nat) (queue7_1 : Sl) (k8_1 : Int) (h7 : Heap), J2 n2 queue7_1 k8_1 h7 -> Vars h7 [(b1, [g0_1.v])] ->
 ((decide (k8_1 < (queue7_1.n : Int))) = true ->
 InB queue7_1 k8_1 /\
 ∃ s40 : Int, hcell h7 (Sl.at queue7_1 k8_1 1) = some (VI s40) /\
 InB g0_1 s40 /\
 ∃ s42 : Sl, hcell h7 (Sl.at g0_1 s40 1) = some s42.v /\
 ∃ J3 : Nat -> Sl -> Int -> Heap -> Prop, (∃ n0 : Nat, J3 n0 queue7_1 0 h7) /\
 ∀ (n3 : Nat) (queue7_2 : Sl) (s44 : Int) (h8 : Heap), J3 n3 queue7_2 s44 h8 -> Vars h8 [(b1, [g0_1.v])] ->
 ((decide (s44 < (s42.n : Int))) = true ->
 InB s42 s44 /\
 ∃ s47 : Int, hcell h8 (Sl.at s42 s44 1) = some (VI s47) /\
 InB s14 s47 /\
 ∃ s51 : Int, hcell h8 (Sl.at s14 s47 1) = some (VI s51) /\
 ((decide (s51 < 0)) = true ->
 InB queue7_2 k8_1 /\
 ∃ s59 : Int, hcell h8 (Sl.at queue7_2 k8_1 1) = some (VI s59) /\
 InB s14 s59 /\
 ∃ s61 : Int, hcell h8 (Sl.at s14 s59 1) = some (VI s61) /\
 InB s14 s47 /\
 Writable h8 (Sl.at s14 s47 1) /\ Vars (hset h8 (Sl.at s14 s47 1) (VI (w64 (s61 + 1)))) [(b1, [g0_1.v])] /\
 ∀ h9 : Heap, h9 = hset h8 (Sl.at s14 s47 1) (VI (w64 (s61 + 1))) -> Vars h9 [(b1, [g0_1.v])] ->
 eop P (Instr.buildSlice 37 1 #[(0, (VI s47))]) h9 fun r3 h10 => ∃ s66 : Sl, r3 = s66.v /\ Vars h10 [(b1, [g0_1.v])] /\
 eop P (appS 37 37 37 queue7_2.v s66.v) h10 fun r4 h11 => ∃ s67 : Sl, r4 = s67.v /\ Vars h11 [(b1, [g0_1.v])] /\
 ∃ m : Nat, m < n3 /\ J3 m s67 (w64 (s44 + 1)) h11) /\
 ((decide (s51 < 0)) = false ->
 ∃ m : Nat, m < n3 /\ J3 m queue7_2 (w64 (s44 + 1)) h8)) /\
 ((decide (s44 < (s42.n : Int))) = false ->
 ∃ m : Nat, m < n2 /\ J2 m queue7_2 (w64 (k8_1 + 1)) h8)) /\
 ((decide (k8_1 < (queue7_1.n : Int))) = false ->
 K s14.v h7))
theorem v115 (g0_1 : Sl) (p1_1 : Int) (h : Heap) (K : Value -> Heap -> Prop) (H : u115 Try.prog g0_1 p1_1 h K) : callM Try.prog 115 #[(Value.agg #[g0_1.v]), (VI p1_1)] h K := by
  refine c115 (Value.agg #[g0_1.v]) (VI p1_1) h K ?_
  unfold u115 at H
  unfold t115
  have hL : Vars h [] := .nil
  refine eop_box 26 (Value.agg #[g0_1.v]) rfl hL (fun b1 h1 hb1 hf1 hL1 => ?_)
  refine pop_field 0 fld26_0 b1 0 ?_
  refine rl one24 hL1 0 0 g0_1.v ?_
  refine pop_len g0_1 _ _ sli24 ?_
  have H := H b1 h1 hb1 (Fr.no' (Fr.r (In []) _) hf1) hL1
  refine H.mono fun r1 h2 H => ?_
  obtain ⟨s14, rfl, hL2, H⟩ := H
  refine pop_len s14 _ _ sli37 ?_
  obtain ⟨J1, ⟨n6, h0_3⟩, HB3⟩ := H
  refine loop_intro (J := fun (n : Nat) (vs : List Value) (h' : Heap) => ∃ s17 : Int, vs = [(VI s17)] /\ J1 n s17 h' /\ Vars h' [(b1, [g0_1.v])]) n6 ⟨0, rfl, h0_3, hL2⟩ ?_
  intro I3 mu3 hI3 junk1 tv5 h3 hi1
  obtain ⟨n1, ⟨s17, hv, hJ1, hL3⟩, hn1⟩ := hI3 _ _ hi1
  cases hv
  have H := HB3 n1 s17 h3 hJ1 hL3
  refine pop_lss .i64 s17 (s14.n : Int) ?_
  refine condM_b (fun hb2 => ?_) (fun hb2 => ?_)
  ·have H := H.1 hb2
   obtain ⟨hi2, H⟩ := H
   refine pop_index sli37 siz3 .i64 s14 s17 hi2 ?_
   obtain ⟨hw_1, hL4, H⟩ := H
   refine uop_cell (v := (VI (-1))) siz3 hw_1 rfl (fun h4 he_1 => ?_)
   rw [← he_1] at hL4
   have H := H h4 he_1 hL4
   refine pop_add .i64 s17 1 ?_
   obtain ⟨m_1, hm_1, H⟩ := H
   exact hn1 _ _ ⟨m_1, hm_1, (w64 (s17 + 1)), rfl, H, hL4⟩
  have H := H.2 hb2
  obtain ⟨hi3, H⟩ := H
  refine pop_index sli37 siz3 .i64 s14 p1_1 hi3 ?_
  obtain ⟨hw_2, hL5, H⟩ := H
  refine uop_cell (v := (VI 0)) siz3 hw_2 rfl (fun h5 he_2 => ?_)
  rw [← he_2] at hL5
  have H := H h5 he_2 hL5
  refine H.mono fun r2 h6 H => ?_
  obtain ⟨s28, rfl, hL6, H⟩ := H
  obtain ⟨J2, ⟨n5, h0_2⟩, HB2⟩ := H
  refine loop_intro (J := fun (n : Nat) (vs : List Value) (h' : Heap) => ∃ queue7_1 : Sl, ∃ k8_1 : Int, vs = [queue7_1.v, (VI k8_1)] /\ J2 n queue7_1 k8_1 h' /\ Vars h' [(b1, [g0_1.v])]) n5 ⟨s28, 0, rfl, h0_2, hL6⟩ ?_
  intro I2 mu2 hI2 junk2 tv3 tv4 h7 hi4
  obtain ⟨n2, ⟨queue7_1, k8_1, hv, hJ2, hL7⟩, hn2⟩ := hI2 _ _ hi4
  cases hv
  have H := HB2 n2 queue7_1 k8_1 h7 hJ2 hL7
  refine pop_len queue7_1 _ _ sli37 ?_
  refine pop_lss .i64 k8_1 (queue7_1.n : Int) ?_
  refine condM_b (fun hb3 => ?_) (fun hb3 => ?_)
  rotate_left
  ·exact H.2 hb3
  have H := H.1 hb3
  refine pop_field 0 fld26_0 b1 0 ?_
  refine rl one24 hL7 0 0 g0_1.v ?_
  obtain ⟨hi5, H⟩ := H
  refine pop_index sli37 siz3 .i64 queue7_1 k8_1 hi5 ?_
  obtain ⟨s40, hc6, H⟩ := H
  refine rop_one one3 (VI s40) hc6 ?_
  obtain ⟨hi6, H⟩ := H
  refine pop_index sli24 siz37 .i64 g0_1 s40 hi6 ?_
  obtain ⟨s42, hc5, H⟩ := H
  refine rop_one one37 s42.v hc5 ?_
  refine pop_len s42 _ _ sli37 ?_
  obtain ⟨J3, ⟨n4, h0_1⟩, HB1⟩ := H
  refine loop_intro (J := fun (n : Nat) (vs : List Value) (h' : Heap) => ∃ queue7_2 : Sl, ∃ s44 : Int, vs = [queue7_2.v, (VI s44)] /\ J3 n queue7_2 s44 h' /\ Vars h' [(b1, [g0_1.v])]) n4 ⟨queue7_1, 0, rfl, h0_1, hL7⟩ ?_
  intro I1 mu1 hI1 junk3 tv1 tv2 h8 hi7
  obtain ⟨n3, ⟨queue7_2, s44, hv, hJ3, hL8⟩, hn3⟩ := hI1 _ _ hi7
  cases hv
  have H := HB1 n3 queue7_2 s44 h8 hJ3 hL8
  refine pop_lss .i64 s44 (s42.n : Int) ?_
  refine condM_b (fun hb4 => ?_) (fun hb4 => ?_)
  rotate_left
  ·have H := H.2 hb4
   refine pop_add .i64 k8_1 1 ?_
   obtain ⟨m_4, hm_4, H⟩ := H
   exact hn2 _ _ ⟨m_4, hm_4, queue7_2, (w64 (k8_1 + 1)), rfl, H, hL8⟩
  have H := H.1 hb4
  obtain ⟨hi8, H⟩ := H
  refine pop_index sli37 siz3 .i64 s42 s44 hi8 ?_
  obtain ⟨s47, hc4, H⟩ := H
  refine rop_one one3 (VI s47) hc4 ?_
  obtain ⟨hi9, H⟩ := H
  refine pop_index sli37 siz3 .i64 s14 s47 hi9 ?_
  obtain ⟨s51, hc3, H⟩ := H
  refine rop_one one3 (VI s51) hc3 ?_
  refine pop_lss .i64 s51 0 ?_
  refine condM_b (fun hb5 => ?_) (fun hb5 => ?_)
  rotate_left
  ·have H := H.2 hb5
   refine pop_add .i64 s44 1 ?_
   obtain ⟨m_3, hm_3, H⟩ := H
   exact hn3 _ _ ⟨m_3, hm_3, queue7_2, (w64 (s44 + 1)), rfl, H, hL8⟩
  have H := H.1 hb5
  obtain ⟨hi10, H⟩ := H
  refine pop_index sli37 siz3 .i64 queue7_2 k8_1 hi10 ?_
  obtain ⟨s59, hc2, H⟩ := H
  refine rop_one one3 (VI s59) hc2 ?_
  obtain ⟨hi11, H⟩ := H
  refine pop_index sli37 siz3 .i64 s14 s59 hi11 ?_
  obtain ⟨s61, hc1, H⟩ := H
  refine rop_one one3 (VI s61) hc1 ?_
  refine pop_add .i64 s61 1 ?_
  obtain ⟨hi12, H⟩ := H
  refine pop_index sli37 siz3 .i64 s14 s47 hi12 ?_
  obtain ⟨hw_3, hL9, H⟩ := H
  refine uop_cell (v := (VI (w64 (s61 + 1)))) siz3 hw_3 rfl (fun h9 he_3 => ?_)
  rw [← he_3] at hL9
  have H := H h9 he_3 hL9
  refine H.mono fun r3 h10 H => ?_
  obtain ⟨s66, rfl, hL10, H⟩ := H
  refine H.mono fun r4 h11 H => ?_
  obtain ⟨s67, rfl, hL11, H⟩ := H
  refine pop_add .i64 s44 1 ?_
  obtain ⟨m_2, hm_2, H⟩ := H
  exact hn3 _ _ ⟨m_2, hm_2, s67, (w64 (s44 + 1)), rfl, H, hL11⟩
def u116 (P : Program) (s0_1 : Sl) (v1_1 : Int) (h : Heap) (K : Value -> Heap -> Prop) : Prop :=
 ∃ J1 : Nat -> Int -> Heap -> Prop, (∃ n0 : Nat, J1 n0 0 h) /\
 ∀ (n1 : Nat) (s8 : Int) (h1 : Heap), J1 n1 s8 h1 -> Vars h1 [] ->
 ((decide (s8 < (s0_1.n : Int))) = true ->
 InB s0_1 s8 /\
 ∃ s15 : Int, hcell h1 (Sl.at s0_1 s8 1) = some (VI s15) /\
 ((decide (v1_1 = s15)) = true ->
 K (VI s8) h1) /\
 ((decide (v1_1 = s15)) = false ->
 ∃ m : Nat, m < n1 /\ J1 m (w64 (s8 + 1)) h1)) /\
 ((decide (s8 < (s0_1.n : Int))) = false ->
 K (VI (-1)) h1)
theorem v116 (s0_1 : Sl) (v1_1 : Int) (h : Heap) (K : Value -> Heap -> Prop) (H : u116 Try.prog s0_1 v1_1 h K) : callM Try.prog 116 #[s0_1.v, (VI v1_1)] h K := by
  refine c116 s0_1.v (VI v1_1) h K ?_
  unfold u116 at H
  unfold t116
  have hL : Vars h [] := .nil
  refine pop_len s0_1 _ _ sli37 ?_
  obtain ⟨J1, ⟨n2, h0_1⟩, HB1⟩ := H
  refine loop_intro (J := fun (n : Nat) (vs : List Value) (h' : Heap) => ∃ s8 : Int, vs = [(VI s8)] /\ J1 n s8 h' /\ Vars h' []) n2 ⟨0, rfl, h0_1, hL⟩ ?_
  intro I1 mu1 hI1 junk1 tv1 h1 hi1
  obtain ⟨n1, ⟨s8, hv, hJ1, hL1⟩, hn1⟩ := hI1 _ _ hi1
  cases hv
  have H := HB1 n1 s8 h1 hJ1 hL1
  refine pop_lss .i64 s8 (s0_1.n : Int) ?_
  refine condM_b (fun hb1 => ?_) (fun hb1 => ?_)
  rotate_left
  ·exact H.2 hb1
  have H := H.1 hb1
  obtain ⟨hi2, H⟩ := H
  refine pop_index sli37 siz3 .i64 s0_1 s8 hi2 ?_
  obtain ⟨s15, hc1, H⟩ := H
  refine rop_one one3 (VI s15) hc1 ?_
  refine pop_ieq .i64 _ _ v1_1 s15 ?_
  refine condM_b (fun hb2 => ?_) (fun hb2 => ?_)
  ·exact H.1 hb2
  have H := H.2 hb2
  refine pop_add .i64 s8 1 ?_
  obtain ⟨m_1, hm_1, H⟩ := H
  exact hn1 _ _ ⟨m_1, hm_1, (w64 (s8 + 1)), rfl, H, hL1⟩
def u117 (P : Program) (s0_1 : Sl) (h : Heap) (K : Value -> Heap -> Prop) : Prop :=
 pop P (binE .eql 37 (.tmp 3) (.const (Value.slice none 0 0)) s0_1.v (Value.slice none 0 0)) fun r1 => ∃ s4 : Bool, r1 = (VB s4) /\ 
 (s4 = true ->
 K nilSl.v h) /\
 (s4 = false ->
 eop P (Instr.buildSlice 37 0 #[]) h fun r2 h1 => ∃ s5 : Sl, r2 = s5.v /\ Vars h1 [] /\
 eop P (appS 37 37 37 s5.v s0_1.v) h1 fun r3 h2 => ∃ s7 : Sl, r3 = s7.v /\ Vars h2 [] /\
 K s7.v h2)
theorem v117 (s0_1 : Sl) (h : Heap) (K : Value -> Heap -> Prop) (H : u117 Try.prog s0_1 h K) : callM Try.prog 117 #[s0_1.v] h K := by
  refine c117 s0_1.v h K ?_
  unfold u117 at H
  unfold t117
  have hL : Vars h [] := .nil
  refine H.mono fun r1 H => ?_
  obtain ⟨s4, rfl, H⟩ := H
  refine condM_b (fun hb1 => ?_) (fun hb1 => ?_)
  ·exact H.1 hb1
  have H := H.2 hb1
  refine H.mono fun r2 h1 H => ?_
  obtain ⟨s5, rfl, hL1, H⟩ := H
  refine H.mono fun r3 h2 H => ?_
  obtain ⟨s7, rfl, hL2, H⟩ := H
  exact H
def u118 (P : Program) (b1 : Nat) (c0_1 : Sl) (c0_2 : Int) (c0_3 : Int) (most1_1 : Int) (h : Heap) (K : Value -> Heap -> Prop) : Prop :=
 ∀ (b2 : Nat) (h1 : Heap), h.size ≤ b2 -> Fr (In []) h h1 -> Vars h1 [(b2, [nilSl.v]), (b1, [c0_1.v, (VI c0_2), (Value.int .u64 c0_3)])] ->
 callM P 70 #[(VP b1 0), (VI most1_1)] h1 fun r1 h2 => ∃ y1 : Sl, ∃ y2 : Int, ∃ y3 : Int, ∃ s13 : Int, r1 = (VI s13) /\ Vars h2 [(b2, [nilSl.v]), (b1, [y1.v, (VI y2), (Value.int .u64 y3)])] /\
 callM P 106 #[(VP b1 0), (VI 4)] h2 fun r2 h3 => ∃ y4 : Sl, ∃ y5 : Int, ∃ y6 : Int, ∃ s16 : Bool, r2 = (VB s16) /\ Vars h3 [(b2, [nilSl.v]), (b1, [y4.v, (VI y5), (Value.int .u64 y6)])] /\
 (s16 = true ->
 callM P 106 #[(VP b1 0), (VI 2)] h3 fun r3 h4 => ∃ y7 : Sl, ∃ y8 : Int, ∃ y9 : Int, ∃ s19 : Bool, r3 = (VB s19) /\ Vars h4 [(b2, [nilSl.v]), (b1, [y7.v, (VI y8), (Value.int .u64 y9)])] /\
 callM P 135 #[(VI (w64 (1 + s13))), (VB s19)] h4 fun r4 h5 => ∃ s20 : Sl, r4 = (.agg #[s20.v]) /\ Vars h5 [(b2, [nilSl.v]), (b1, [y7.v, (VI y8), (Value.int .u64 y9)])] /\
 ∀ (h6 : Heap), Fr (In [b2]) h5 h6 -> Vars h6 [(b2, [s20.v]), (b1, [y7.v, (VI y8), (Value.int .u64 y9)])] ->
 K (.agg #[s20.v]) h6) /\
 (s16 = false ->
 ∀ (b3 : Nat) (h8 : Heap), h3.size ≤ b3 -> Fr (In []) h3 h8 -> Vars h8 [(b3, [nilSl.v]), (b2, [nilSl.v]), (b1, [y4.v, (VI y5), (Value.int .u64 y6)])] ->
 ∃ J1 : Nat -> Int -> Sl -> Sl -> Int -> Int -> Heap -> Prop, (∃ n0 : Nat, J1 n0 0 nilSl y4 y5 y6 h8) /\
 ∀ (n1 : Nat) (p7_1 : Int) (y10 : Sl) (y11 : Sl) (y12 : Int) (y13 : Int) (h9 : Heap), J1 n1 p7_1 y10 y11 y12 y13 h9 -> Vars h9 [(b3, [y10.v]), (b2, [nilSl.v]), (b1, [y11.v, (VI y12), (Value.int .u64 y13)])] ->
 ((decide (p7_1 < (w64 (1 + s13)))) = true ->
 callM P 70 #[(VP b1 0), (VI 3)] h9 fun r5 h10 => ∃ y14 : Sl, ∃ y15 : Int, ∃ y16 : Int, ∃ s28 : Int, r5 = (VI s28) /\ Vars h10 [(b3, [y10.v]), (b2, [nilSl.v]), (b1, [y14.v, (VI y15), (Value.int .u64 y16)])] /\
 ∃ J2 : Nat -> Sl -> Int -> Sl -> Int -> Int -> Heap -> Prop, (∃ n0 : Nat, J2 n0 nilSl (w64 (1 + s28)) y14 y15 y16 h10) /\
 ∀ (n2 : Nat) (list8_1 : Sl) (k9_1 : Int) (y17 : Sl) (y18 : Int) (y19 : Int) (h11 : Heap), J2 n2 list8_1 k9_1 y17 y18 y19 h11 -> Vars h11 [(b3, [y10.v]), (b2, [nilSl.v]), (b1, [y17.v, (VI y18), (Value.int .u64 y19)])] ->
 ((decide (0 < k9_1)) = true ->
 callM P 70 #[(VP b1 0), (VI (w64 (1 + s13)))] h11 fun r6 h12 => ∃ y20 : Sl, ∃ y21 : Int, ∃ y22 : Int, ∃ s37 : Int, r6 = (VI s37) /\ Vars h12 [(b3, [y10.v]), (b2, [nilSl.v]), (b1, [y20.v, (VI y21), (Value.int .u64 y22)])] /\
 eop P (Instr.buildSlice 37 1 #[(0, (VI s37))]) h12 fun r7 h13 => ∃ s38 : Sl, r7 = s38.v /\ Vars h13 [(b3, [y10.v]), (b2, [nilSl.v]), (b1, [y20.v, (VI y21), (Value.int .u64 y22)])] /\
 eop P (appS 37 37 37 list8_1.v s38.v) h13 fun r8 h14 => ∃ s39 : Sl, r8 = s39.v /\ Vars h14 [(b3, [y10.v]), (b2, [nilSl.v]), (b1, [y20.v, (VI y21), (Value.int .u64 y22)])] /\
 ∃ m : Nat, m < n2 /\ J2 m s39 (w64 (k9_1 - 1)) y20 y21 y22 h14) /\
 ((decide (0 < k9_1)) = false ->
 ∃ J3 : Sl -> Sl -> Int -> Int -> Heap -> Prop, (callM P 106 #[(VP b1 0), (VI 8)] h11 fun r9 h15 => ∃ y27 : Sl, ∃ y28 : Int, ∃ y29 : Int, ∃ s41 : Bool, r9 = (VB s41) /\ Vars h15 [(b3, [y10.v]), (b2, [nilSl.v]), (b1, [y27.v, (VI y28), (Value.int .u64 y29)])] /\
 (s41 = true ->
 J3 nilSl y27 y28 y29 h15) /\
 (s41 = false ->
 J3 list8_1 y27 y28 y29 h15)) /\
 ∀ (y23 : Sl) (y24 : Sl) (y25 : Int) (y26 : Int) (h16 : Heap), J3 y23 y24 y25 y26 h16 -> Vars h16 [(b3, [y10.v]), (b2, [nilSl.v]), (b1, [y24.v, (VI y25), (Value.int .u64 y26)])] ->
 eop P (Instr.buildSlice 24 1 #[(0, y23.v)]) h16 fun r10 h17 => ∃ s45 : Sl, r10 = s45.v /\ Vars h17 [(b3, [y10.v]), (b2, [nilSl.v]), (b1, [y24.v, (VI y25), (Value.int .u64 y26)])] /\
 eop P (appS 24 24 24 y10.v s45.v) h17 fun r11 h18 => ∃ s46 : Sl, r11 = s46.v /\ Vars h18 [(b3, [y10.v]), (b2, [nilSl.v]), (b1, [y24.v, (VI y25), (Value.int .u64 y26)])] /\
 ∀ (h19 : Heap), Fr (In [b3]) h18 h19 -> Vars h19 [(b3, [s46.v]), (b2, [nilSl.v]), (b1, [y24.v, (VI y25), (Value.int .u64 y26)])] ->
 ∃ m : Nat, m < n1 /\ J1 m (w64 (p7_1 + 1)) s46 y24 y25 y26 h19)) /\
 ((decide (p7_1 < (w64 (1 + s13)))) = false ->
 callM P 106 #[(VP b1 0), (VI 2)] h9 fun r12 h20 => ∃ y30 : Sl, ∃ y31 : Int, ∃ y32 : Int, ∃ s49 : Bool, r12 = (VB s49) /\ Vars h20 [(b3, [y10.v]), (b2, [nilSl.v]), (b1, [y30.v, (VI y31), (Value.int .u64 y32)])] /\
 (s49 = true ->
 ∃ J4 : Nat -> Int -> Heap -> Prop, (∃ n0 : Nat, J4 n0 0 h20) /\
 ∀ (n4 : Nat) (s53 : Int) (h21 : Heap), J4 n4 s53 h21 -> Vars h21 [(b3, [y10.v]), (b2, [nilSl.v]), (b1, [y30.v, (VI y31), (Value.int .u64 y32)])] ->
 ((decide (s53 < (y10.n : Int))) = true ->
 InB y10 s53 /\
 ∃ s63 : Sl, hcell h21 (Sl.at y10 s53 1) = some s63.v /\
 (w64 (1 + s13)) ≠ 0 /\
 eop P (Instr.buildSlice 37 1 #[(0, (VI (Int.tmod (w64 (s53 + 1)) (w64 (1 + s13)))))]) h21 fun r13 h22 => ∃ s68 : Sl, r13 = s68.v /\ Vars h22 [(b3, [y10.v]), (b2, [nilSl.v]), (b1, [y30.v, (VI y31), (Value.int .u64 y32)])] /\
 hcell h22 (Sl.at y10 s53 1) = some s63.v /\
 eop P (appS 37 37 37 s63.v s68.v) h22 fun r14 h23 => ∃ s69 : Sl, r14 = s69.v /\ Vars h23 [(b3, [y10.v]), (b2, [nilSl.v]), (b1, [y30.v, (VI y31), (Value.int .u64 y32)])] /\
 InB y10 s53 /\
 Writable h23 (Sl.at y10 s53 1) /\ Vars (hset h23 (Sl.at y10 s53 1) s69.v) [(b3, [y10.v]), (b2, [nilSl.v]), (b1, [y30.v, (VI y31), (Value.int .u64 y32)])] /\
 ∀ h24 : Heap, h24 = hset h23 (Sl.at y10 s53 1) s69.v -> Vars h24 [(b3, [y10.v]), (b2, [nilSl.v]), (b1, [y30.v, (VI y31), (Value.int .u64 y32)])] ->
 ∃ m : Nat, m < n4 /\ J4 m (w64 (s53 + 1)) h24) /\
 ((decide (s53 < (y10.n : Int))) = false ->
 ∀ (h25 : Heap), Fr (In [b2]) h21 h25 -> Vars h25 [(b3, [y10.v]), (b2, [y10.v]), (b1, [y30.v, (VI y31), (Value.int .u64 y32)])] ->
 K (.agg #[y10.v]) h25)) /\
 (s49 = false ->
 ∀ (h26 : Heap), Fr (In [b2]) h20 h26 -> Vars h26 [(b3, [y10.v]), (b2, [y10.v]), (b1, [y30.v, (VI y31), (Value.int .u64 y32)])] ->
 K (.agg #[y10.v]) h26)))
theorem v118 (b1 : Nat) (c0_1 : Sl) (c0_2 : Int) (c0_3 : Int) (most1_1 : Int) (h : Heap) (K : Value -> Heap -> Prop) (hL : Vars h [(b1, [c0_1.v, (VI c0_2), (Value.int .u64 c0_3)])]) (H : u118 Try.prog b1 c0_1 c0_2 c0_3 most1_1 h K) : callM Try.prog 118 #[(VP b1 0), (VI most1_1)] h K := by
  refine c118 (VP b1 0) (VI most1_1) h K ?_
  unfold u118 at H
  unfold t118
  refine eop_alloc 26 zer26 rfl hL (fun b2 h1 hb1 hf1 hL1 => ?_)
  have H := H b2 h1 hb1 (Fr.no' (Fr.r (In []) _) hf1) hL1
  refine H.mono fun r1 h2 H => ?_
  obtain ⟨y1, y2, y3, s13, rfl, hL2, H⟩ := H
  refine pop_add .i64 1 s13 ?_
  refine H.mono fun r2 h3 H => ?_
  obtain ⟨y4, y5, y6, s16, rfl, hL3, H⟩ := H
  refine condM_b (fun hb2 => ?_) (fun hb2 => ?_)
  ·have H := H.1 hb2
   refine H.mono fun r3 h4 H => ?_
   obtain ⟨y7, y8, y9, s19, rfl, hL4, H⟩ := H
   refine H.mono fun r4 h5 H => ?_
   obtain ⟨s20, rfl, hL5, H⟩ := H
   refine ul siz26 hL5 0 0 [s20.v] [(b2, [s20.v]), (b1, [y7.v, (VI y8), (Value.int .u64 y9)])] (fun h6 hf2 hL6 => ?_)
   refine ra agg26 hL6 0 0 [s20.v] ?_
   have H := H  h6  (Fr.old (Fr.r (In []) _) hf2) hL6
   exact H
  have H := H.2 hb2
  refine pop.mk' (v := (Value.agg #[nilSl.v])) (fun w => by kernel_rfl) ?_
  refine eop_alloc 26 zer26 rfl hL3 (fun b3 h7 hb3 hf3 hL7 => ?_)
  refine ul siz26 hL7 0 0 [nilSl.v] [(b3, [nilSl.v]), (b2, [nilSl.v]), (b1, [y4.v, (VI y5), (Value.int .u64 y6)])] (fun h8 hf4 hL8 => ?_)
  have H := H b3 h8 hb3 (Fr.new (Fr.no' (Fr.r (In []) _) hf3) hb3 hf4) hL8
  obtain ⟨J1, ⟨n6, h0_3⟩, HB4⟩ := H
  refine loop_intro (J := fun (n : Nat) (vs : List Value) (h' : Heap) => ∃ p7_1 : Int, ∃ y10 : Sl, ∃ y11 : Sl, ∃ y12 : Int, ∃ y13 : Int, vs = [(VI p7_1)] /\ J1 n p7_1 y10 y11 y12 y13 h' /\ Vars h' [(b3, [y10.v]), (b2, [nilSl.v]), (b1, [y11.v, (VI y12), (Value.int .u64 y13)])]) n6 ⟨0, nilSl, y4, y5, y6, rfl, h0_3, hL8⟩ ?_
  intro I3 mu3 hI3 junk1 tv5 h9 hi1
  obtain ⟨n1, ⟨p7_1, y10, y11, y12, y13, hv, hJ1, hL9⟩, hn1⟩ := hI3 _ _ hi1
  cases hv
  have H := HB4 n1 p7_1 y10 y11 y12 y13 h9 hJ1 hL9
  refine pop_lss .i64 p7_1 (w64 (1 + s13)) ?_
  refine condM_b (fun hb4 => ?_) (fun hb4 => ?_)
  ·have H := H.1 hb4
   refine H.mono fun r5 h10 H => ?_
   obtain ⟨y14, y15, y16, s28, rfl, hL10, H⟩ := H
   refine pop_add .i64 1 s28 ?_
   obtain ⟨J2, ⟨n3, h0_1⟩, HB2⟩ := H
   refine loop_intro (J := fun (n : Nat) (vs : List Value) (h' : Heap) => ∃ list8_1 : Sl, ∃ k9_1 : Int, ∃ y17 : Sl, ∃ y18 : Int, ∃ y19 : Int, vs = [list8_1.v, (VI k9_1)] /\ J2 n list8_1 k9_1 y17 y18 y19 h' /\ Vars h' [(b3, [y10.v]), (b2, [nilSl.v]), (b1, [y17.v, (VI y18), (Value.int .u64 y19)])]) n3 ⟨nilSl, (w64 (1 + s28)), y14, y15, y16, rfl, h0_1, hL10⟩ ?_
   intro I1 mu1 hI1 junk2 tv2 tv3 h11 hi2
   obtain ⟨n2, ⟨list8_1, k9_1, y17, y18, y19, hv, hJ2, hL11⟩, hn2⟩ := hI1 _ _ hi2
   cases hv
   have H := HB2 n2 list8_1 k9_1 y17 y18 y19 h11 hJ2 hL11
   refine pop_gtr .i64 k9_1 0 ?_
   refine condM_b (fun hb5 => ?_) (fun hb5 => ?_)
   ·have H := H.1 hb5
    refine H.mono fun r6 h12 H => ?_
    obtain ⟨y20, y21, y22, s37, rfl, hL12, H⟩ := H
    refine H.mono fun r7 h13 H => ?_
    obtain ⟨s38, rfl, hL13, H⟩ := H
    refine H.mono fun r8 h14 H => ?_
    obtain ⟨s39, rfl, hL14, H⟩ := H
    refine pop_sub .i64 k9_1 1 ?_
    obtain ⟨m_1, hm_1, H⟩ := H
    exact hn2 _ _ ⟨m_1, hm_1, s39, (w64 (k9_1 - 1)), y20, y21, y22, rfl, H, hL14⟩
   have H := H.2 hb5
   obtain ⟨J3, H, HB1⟩ := H
   refine ⟨fun (vs : List Value) (h' : Heap) => ∃ y23 : Sl, ∃ y24 : Sl, ∃ y25 : Int, ∃ y26 : Int, vs = [y23.v] /\ J3 y23 y24 y25 y26 h' /\ Vars h' [(b3, [y10.v]), (b2, [nilSl.v]), (b1, [y24.v, (VI y25), (Value.int .u64 y26)])], ?_, ?_⟩
   ·refine H.mono fun r9 h15 H => ?_
    obtain ⟨y27, y28, y29, s41, rfl, hL15, H⟩ := H
    refine condM_b (fun hb6 => ?_) (fun hb6 => ?_)
    ·have H := H.1 hb6
     exact ⟨nilSl, y27, y28, y29, rfl, H, hL15⟩
    have H := H.2 hb6
    exact ⟨list8_1, y27, y28, y29, rfl, H, hL15⟩
   intro junk3 tv1 h16
   rintro ⟨y23, y24, y25, y26, hv, hJ3, hL16⟩
   cases hv
   have H := HB1 y23 y24 y25 y26 h16 hJ3 hL16
   refine pop_field 0 fld26_0 b3 0 ?_
   refine rl one24 hL16 0 0 y10.v ?_
   refine H.mono fun r10 h17 H => ?_
   obtain ⟨s45, rfl, hL17, H⟩ := H
   refine H.mono fun r11 h18 H => ?_
   obtain ⟨s46, rfl, hL18, H⟩ := H
   refine pop_field 0 fld26_0 b3 0 ?_
   refine ul siz24 hL18 0 0 [s46.v] [(b3, [s46.v]), (b2, [nilSl.v]), (b1, [y24.v, (VI y25), (Value.int .u64 y26)])] (fun h19 hf5 hL19 => ?_)
   refine pop_add .i64 p7_1 1 ?_
   have H := H  h19  (Fr.old (Fr.r (In []) _) hf5) hL19
   obtain ⟨m_2, hm_2, H⟩ := H
   exact hn1 _ _ ⟨m_2, hm_2, (w64 (p7_1 + 1)), s46, y24, y25, y26, rfl, H, hL19⟩
  have H := H.2 hb4
  refine H.mono fun r12 h20 H => ?_
  obtain ⟨y30, y31, y32, s49, rfl, hL20, H⟩ := H
  refine condM_b (fun hb7 => ?_) (fun hb7 => ?_)
  rotate_left
  ·have H := H.2 hb7
   refine ra agg26 hL20 0 0 [y10.v] ?_
   refine ul siz26 hL20 1 0 [y10.v] [(b3, [y10.v]), (b2, [y10.v]), (b1, [y30.v, (VI y31), (Value.int .u64 y32)])] (fun h26 hf7 hL26 => ?_)
   refine ra agg26 hL26 1 0 [y10.v] ?_
   have H := H  h26  (Fr.old (Fr.r (In []) _) hf7) hL26
   exact H
  have H := H.1 hb7
  refine pop_field 0 fld26_0 b3 0 ?_
  refine rl one24 hL20 0 0 y10.v ?_
  refine pop_len y10 _ _ sli24 ?_
  obtain ⟨J4, ⟨n5, h0_2⟩, HB3⟩ := H
  refine loop_intro (J := fun (n : Nat) (vs : List Value) (h' : Heap) => ∃ s53 : Int, vs = [(VI s53)] /\ J4 n s53 h' /\ Vars h' [(b3, [y10.v]), (b2, [nilSl.v]), (b1, [y30.v, (VI y31), (Value.int .u64 y32)])]) n5 ⟨0, rfl, h0_2, hL20⟩ ?_
  intro I2 mu2 hI2 junk4 tv4 h21 hi3
  obtain ⟨n4, ⟨s53, hv, hJ4, hL21⟩, hn3⟩ := hI2 _ _ hi3
  cases hv
  have H := HB3 n4 s53 h21 hJ4 hL21
  refine pop_lss .i64 s53 (y10.n : Int) ?_
  refine condM_b (fun hb8 => ?_) (fun hb8 => ?_)
  rotate_left
  ·have H := H.2 hb8
   refine ra agg26 hL21 0 0 [y10.v] ?_
   refine ul siz26 hL21 1 0 [y10.v] [(b3, [y10.v]), (b2, [y10.v]), (b1, [y30.v, (VI y31), (Value.int .u64 y32)])] (fun h25 hf6 hL25 => ?_)
   refine ra agg26 hL25 1 0 [y10.v] ?_
   have H := H  h25  (Fr.old (Fr.r (In []) _) hf6) hL25
   exact H
  have H := H.1 hb8
  refine pop_field 0 fld26_0 b3 0 ?_
  refine rl one24 hL21 0 0 y10.v ?_
  refine pop_field 0 fld26_0 b3 0 ?_
  refine rl one24 hL21 0 0 y10.v ?_
  obtain ⟨hi4, H⟩ := H
  refine pop_index sli24 siz37 .i64 y10 s53 hi4 ?_
  obtain ⟨s63, hc2, H⟩ := H
  refine rop_one one37 s63.v hc2 ?_
  refine pop_add .i64 s53 1 ?_
  obtain ⟨hz_1, H⟩ := H
  refine pop_rem .i64 (w64 (s53 + 1)) (w64 (1 + s13)) hz_1 ?_
  refine H.mono fun r13 h22 H => ?_
  obtain ⟨s68, rfl, hL22, H⟩ := H
  refine ⟨?_, ?_⟩
  ·exact still_one one37 H.1
  obtain ⟨hc1, H⟩ := H
  refine ⟨?_, ?_⟩
  ·exact still_loc one24 hL22 0 rfl 0 (v := y10.v) rfl
  refine ⟨?_, ?_⟩
  ·exact still_loc one24 hL22 0 rfl 0 (v := y10.v) rfl
  refine H.mono fun r14 h23 H => ?_
  obtain ⟨s69, rfl, hL23, H⟩ := H
  refine ⟨?_, ?_⟩
  ·exact still_loc one24 hL23 0 rfl 0 (v := y10.v) rfl
  refine ⟨?_, ?_⟩
  ·exact still_loc one24 hL23 0 rfl 0 (v := y10.v) rfl
  obtain ⟨hi5, H⟩ := H
  refine pop_index sli24 siz37 .i64 y10 s53 hi5 ?_
  obtain ⟨hw_1, hL24, H⟩ := H
  refine uop_cell (v := s69.v) siz37 hw_1 rfl (fun h24 he_1 => ?_)
  rw [← he_1] at hL24
  have H := H h24 he_1 hL24
  refine pop_add .i64 s53 1 ?_
  obtain ⟨m_3, hm_3, H⟩ := H
  exact hn3 _ _ ⟨m_3, hm_3, (w64 (s53 + 1)), rfl, H, hL24⟩
def u119 (P : Program) (b1 : Nat) (c0_1 : Sl) (c0_2 : Int) (c0_3 : Int) (h : Heap) (K : Value -> Heap -> Prop) : Prop :=
 ∃ J1 : Int -> Heap -> Prop, (((decide (c0_2 < (c0_1.n : Int))) = true ->
 InB c0_1 c0_2 /\
 ∃ s23 : Int, hcell h (Sl.at c0_1 c0_2 1) = some (Value.int .u8 s23) /\
 rop P (convert 5 3 (Value.int .u8 s23)) h fun r1 => ∃ s24 : Int, r1 = (VI s24) /\ 
 J1 s24 h) /\
 ((decide (c0_2 < (c0_1.n : Int))) = false ->
 J1 0 h)) /\
 ∀ (y1 : Int) (h1 : Heap), J1 y1 h1 -> Vars h1 [(b1, [c0_1.v, (VI c0_2), (Value.int .u64 c0_3)])] ->
 ∀ (h2 : Heap), Fr (In [b1]) h1 h2 -> Vars h2 [(b1, [c0_1.v, (VI (w64 (c0_2 + 1))), (Value.int .u64 c0_3)])] ->
 rop P (convert 3 67 (VI y1)) h2 fun r2 => ∃ s39 : Int, r2 = (Value.int .u64 s39) /\ 
 ((decide ((w64 (c0_2 + 1)) ≤ (c0_1.n : Int))) = true ->
 ∀ (h3 : Heap), Fr (In [b1]) h2 h3 -> Vars h3 [(b1, [c0_1.v, (VI (w64 (c0_2 + 1))), (Value.int .u64 (IntKind.wrap .u64 ((IntKind.wrap .u64 ((IntKind.wrap .u64 (c0_3 * 6364136223846793005)) + s39)) + 1442695040888963407)))])] ->
 K (VI y1) h3) /\
 ((decide ((w64 (c0_2 + 1)) ≤ (c0_1.n : Int))) = false ->
 pop P (binA .shr 67 (Value.int .u64 (IntKind.wrap .u64 ((IntKind.wrap .u64 ((IntKind.wrap .u64 (c0_3 * 6364136223846793005)) + s39)) + 1442695040888963407))) (Value.int IntKind.u64 40)) fun r3 => ∃ s59 : Int, r3 = (Value.int .u64 s59) /\ 
 pop P (binA .and 67 (Value.int .u64 s59) (Value.int IntKind.u64 255)) fun r4 => ∃ s60 : Int, r4 = (Value.int .u64 s60) /\ 
 ∀ (h3 : Heap), Fr (In [b1]) h2 h3 -> Vars h3 [(b1, [c0_1.v, (VI (w64 (c0_2 + 1))), (Value.int .u64 (IntKind.wrap .u64 ((IntKind.wrap .u64 ((IntKind.wrap .u64 (c0_3 * 6364136223846793005)) + s39)) + 1442695040888963407)))])] ->
 rop P (convert 67 3 (Value.int .u64 s60)) h3 fun r5 => ∃ s61 : Int, r5 = (VI s61) /\ 
 K (VI s61) h3)
theorem v119 (b1 : Nat) (c0_1 : Sl) (c0_2 : Int) (c0_3 : Int) (h : Heap) (K : Value -> Heap -> Prop) (hL : Vars h [(b1, [c0_1.v, (VI c0_2), (Value.int .u64 c0_3)])]) (H : u119 Try.prog b1 c0_1 c0_2 c0_3 h K) : callM Try.prog 119 #[(VP b1 0)] h K := by
  refine c119 (VP b1 0) h K ?_
  unfold u119 at H
  unfold t119
  obtain ⟨J1, H, HB1⟩ := H
  refine ⟨fun (vs : List Value) (h' : Heap) => ∃ y1 : Int, vs = [(VI y1)] /\ J1 y1 h' /\ Vars h' [(b1, [c0_1.v, (VI c0_2), (Value.int .u64 c0_3)])], ?_, ?_⟩
  ·refine pop_nil _ ?_
   refine pop_field 1 fld69_1 b1 0 ?_
   refine rl one3 hL 0 1 (VI c0_2) ?_
   refine pop_nil _ ?_
   refine pop_field 0 fld69_0 b1 0 ?_
   refine rl one22 hL 0 0 c0_1.v ?_
   refine pop_len c0_1 _ _ sli22 ?_
   refine pop_lss .i64 c0_2 (c0_1.n : Int) ?_
   refine condM_b (fun hb1 => ?_) (fun hb1 => ?_)
   rotate_left
   ·have H := H.2 hb1
    exact ⟨0, rfl, H, hL⟩
   have H := H.1 hb1
   refine pop_nil _ ?_
   refine pop_field 0 fld69_0 b1 0 ?_
   refine rl one22 hL 0 0 c0_1.v ?_
   refine pop_nil _ ?_
   refine pop_field 1 fld69_1 b1 0 ?_
   refine rl one3 hL 0 1 (VI c0_2) ?_
   obtain ⟨hi1, H⟩ := H
   refine pop_index sli22 siz5 .i64 c0_1 c0_2 hi1 ?_
   obtain ⟨s23, hc1, H⟩ := H
   refine rop_one one5 (Value.int .u8 s23) hc1 ?_
   refine H.mono fun r1 H => ?_
   obtain ⟨s24, rfl, H⟩ := H
   exact ⟨s24, rfl, H, hL⟩
  intro junk1 tv1 h1
  rintro ⟨y1, hv, hJ1, hL1⟩
  cases hv
  have H := HB1 y1 h1 hJ1 hL1
  refine pop_nil _ ?_
  refine pop_field 1 fld69_1 b1 0 ?_
  refine rl one3 hL1 0 1 (VI c0_2) ?_
  refine pop_add .i64 c0_2 1 ?_
  refine pop_nil _ ?_
  refine pop_field 1 fld69_1 b1 0 ?_
  refine ul siz3 hL1 0 1 [(VI (w64 (c0_2 + 1)))] [(b1, [c0_1.v, (VI (w64 (c0_2 + 1))), (Value.int .u64 c0_3)])] (fun h2 hf1 hL2 => ?_)
  refine pop_nil _ ?_
  refine pop_field 2 fld69_2 b1 0 ?_
  refine rl one67 hL2 0 2 (Value.int .u64 c0_3) ?_
  refine pop_mul .u64 c0_3 6364136223846793005 ?_
  have H := H  h2  (Fr.old (Fr.r (In []) _) hf1) hL2
  refine H.mono fun r2 H => ?_
  obtain ⟨s39, rfl, H⟩ := H
  refine pop_add .u64 (IntKind.wrap .u64 (c0_3 * 6364136223846793005)) s39 ?_
  refine pop_add .u64 (IntKind.wrap .u64 ((IntKind.wrap .u64 (c0_3 * 6364136223846793005)) + s39)) 1442695040888963407 ?_
  refine pop_nil _ ?_
  refine pop_field 2 fld69_2 b1 0 ?_
  refine ul siz67 hL2 0 2 [(Value.int .u64 (IntKind.wrap .u64 ((IntKind.wrap .u64 ((IntKind.wrap .u64 (c0_3 * 6364136223846793005)) + s39)) + 1442695040888963407)))] [(b1, [c0_1.v, (VI (w64 (c0_2 + 1))), (Value.int .u64 (IntKind.wrap .u64 ((IntKind.wrap .u64 ((IntKind.wrap .u64 (c0_3 * 6364136223846793005)) + s39)) + 1442695040888963407)))])] (fun h3 hf2 hL3 => ?_)
  refine pop_nil _ ?_
  refine pop_field 1 fld69_1 b1 0 ?_
  refine rl one3 hL3 0 1 (VI (w64 (c0_2 + 1))) ?_
  refine pop_nil _ ?_
  refine pop_field 0 fld69_0 b1 0 ?_
  refine rl one22 hL3 0 0 c0_1.v ?_
  refine pop_len c0_1 _ _ sli22 ?_
  refine pop_leq .i64 (w64 (c0_2 + 1)) (c0_1.n : Int) ?_
  refine condM_b (fun hb2 => ?_) (fun hb2 => ?_)
  ·have H := H.1 hb2
   have H := H  h3  (Fr.old (Fr.r (In []) _) hf2) hL3
   exact H
  have H := H.2 hb2
  refine pop_nil _ ?_
  refine pop_field 2 fld69_2 b1 0 ?_
  refine rl one67 hL3 0 2 (Value.int .u64 (IntKind.wrap .u64 ((IntKind.wrap .u64 ((IntKind.wrap .u64 (c0_3 * 6364136223846793005)) + s39)) + 1442695040888963407))) ?_
  refine H.mono fun r3 H => ?_
  obtain ⟨s59, rfl, H⟩ := H
  refine H.mono fun r4 H => ?_
  obtain ⟨s60, rfl, H⟩ := H
  have H := H  h3  (Fr.old (Fr.r (In []) _) hf2) hL3
  refine H.mono fun r5 H => ?_
  obtain ⟨s61, rfl, H⟩ := H
  exact H
def u120 (P : Program) (g0_1 : Sl) (h : Heap) (K : Value -> Heap -> Prop) : Prop :=
 ∀ (b1 : Nat) (h1 : Heap), h.size ≤ b1 -> Fr (In []) h h1 -> Vars h1 [(b1, [g0_1.v])] ->
 callM P 73 #[(VI (g0_1.n : Int)), (VI 1), (VI 8)] h1 fun r1 h2 => ∃ s10 : Bool, r1 = (VB s10) /\ Vars h2 [(b1, [g0_1.v])] /\
 ((!s10) = true ->
 K (VB false) h2) /\
 ((!s10) = false ->
 ∃ J1 : Nat -> Int -> Heap -> Prop, (∃ n0 : Nat, J1 n0 0 h2) /\
 ∀ (n1 : Nat) (s15 : Int) (h3 : Heap), J1 n1 s15 h3 -> Vars h3 [(b1, [g0_1.v])] ->
 ((decide (s15 < (g0_1.n : Int))) = true ->
 InB g0_1 s15 /\
 ∃ s18 : Sl, hcell h3 (Sl.at g0_1 s15 1) = some s18.v /\
 ((decide (5 < (s18.n : Int))) = true ->
 K (VB false) h3) /\
 ((decide (5 < (s18.n : Int))) = false ->
 callM P 108 #[s18.v, (VI 0), (VI (w64 ((g0_1.n : Int) - 1)))] h3 fun r2 h4 => ∃ s26 : Bool, r2 = (VB s26) /\ Vars h4 [(b1, [g0_1.v])] /\
 ((!s26) = true ->
 K (VB false) h4) /\
 ((!s26) = false ->
 ∃ m : Nat, m < n1 /\ J1 m (w64 (s15 + 1)) h4))) /\
 ((decide (s15 < (g0_1.n : Int))) = false ->
 K (VB true) h3))
theorem v120 (g0_1 : Sl) (h : Heap) (K : Value -> Heap -> Prop) (H : u120 Try.prog g0_1 h K) : callM Try.prog 120 #[(Value.agg #[g0_1.v])] h K := by
  refine c120 (Value.agg #[g0_1.v]) h K ?_
  unfold u120 at H
  unfold t120
  have hL : Vars h [] := .nil
  refine eop_box 26 (Value.agg #[g0_1.v]) rfl hL (fun b1 h1 hb1 hf1 hL1 => ?_)
  refine pop_field 0 fld26_0 b1 0 ?_
  refine rl one24 hL1 0 0 g0_1.v ?_
  refine pop_len g0_1 _ _ sli24 ?_
  have H := H b1 h1 hb1 (Fr.no' (Fr.r (In []) _) hf1) hL1
  refine H.mono fun r1 h2 H => ?_
  obtain ⟨s10, rfl, hL2, H⟩ := H
  refine pop_not s10 ?_
  refine condM_b (fun hb2 => ?_) (fun hb2 => ?_)
  ·exact H.1 hb2
  have H := H.2 hb2
  refine pop_field 0 fld26_0 b1 0 ?_
  refine rl one24 hL2 0 0 g0_1.v ?_
  refine pop_len g0_1 _ _ sli24 ?_
  obtain ⟨J1, ⟨n2, h0_1⟩, HB1⟩ := H
  refine loop_intro (J := fun (n : Nat) (vs : List Value) (h' : Heap) => ∃ s15 : Int, vs = [(VI s15)] /\ J1 n s15 h' /\ Vars h' [(b1, [g0_1.v])]) n2 ⟨0, rfl, h0_1, hL2⟩ ?_
  intro I1 mu1 hI1 junk1 tv1 h3 hi1
  obtain ⟨n1, ⟨s15, hv, hJ1, hL3⟩, hn1⟩ := hI1 _ _ hi1
  cases hv
  have H := HB1 n1 s15 h3 hJ1 hL3
  refine pop_lss .i64 s15 (g0_1.n : Int) ?_
  refine condM_b (fun hb3 => ?_) (fun hb3 => ?_)
  rotate_left
  ·exact H.2 hb3
  have H := H.1 hb3
  obtain ⟨hi2, H⟩ := H
  refine pop_index sli24 siz37 .i64 g0_1 s15 hi2 ?_
  obtain ⟨s18, hc1, H⟩ := H
  refine rop_one one37 s18.v hc1 ?_
  refine pop_len s18 _ _ sli37 ?_
  refine pop_gtr .i64 (s18.n : Int) 5 ?_
  refine guardM_sf (fun hb4 => ?_) (fun hb4 => ?_)
  rotate_left
  ·have H := H.1 hb4
   refine gm hb4 ?_
   refine gm hb4 ?_
   refine gm hb4 ?_
   refine gm hb4 ?_
   refine pop_pickt' hb4 ?_
   refine condM_t ?_
   exact H
  have H := H.2 hb4
  refine gy hb4 ?_
  refine gy hb4 ?_
  refine pop_sub .i64 (g0_1.n : Int) 1 ?_
  refine gy hb4 ?_
  refine H.mono fun r2 h4 H => ?_
  obtain ⟨s26, rfl, hL4, H⟩ := H
  refine gy hb4 ?_
  refine pop_not s26 ?_
  refine pop_pickf' hb4 ?_
  refine condM_b (fun hb5 => ?_) (fun hb5 => ?_)
  ·exact H.1 hb5
  have H := H.2 hb5
  refine pop_add .i64 s15 1 ?_
  obtain ⟨m_1, hm_1, H⟩ := H
  exact hn1 _ _ ⟨m_1, hm_1, (w64 (s15 + 1)), rfl, H, hL4⟩
def u121 (P : Program) (l0_1 : Sl) (h : Heap) (K : Value -> Heap -> Prop) : Prop :=
 eop P (Instr.buildSlice 37 0 #[]) h fun r1 h1 => ∃ s3 : Sl, r1 = s3.v /\ Vars h1 [] /\
 eop P (appS 37 37 37 s3.v l0_1.v) h1 fun r2 h2 => ∃ s5 : Sl, r2 = s5.v /\ Vars h2 [] /\
 K s5.v h2
theorem v121 (l0_1 : Sl) (h : Heap) (K : Value -> Heap -> Prop) (H : u121 Try.prog l0_1 h K) : callM Try.prog 121 #[l0_1.v] h K := by
  refine c121 l0_1.v h K ?_
  unfold u121 at H
  unfold t121
  have hL : Vars h [] := .nil
  refine H.mono fun r1 h1 H => ?_
  obtain ⟨s3, rfl, hL1, H⟩ := H
  refine H.mono fun r2 h2 H => ?_
  obtain ⟨s5, rfl, hL2, H⟩ := H
  exact H
def u126 (P : Program) (a0_1 : Int) (b1_1 : Int) (h : Heap) (K : Value -> Heap -> Prop) : Prop :=
 ((decide (b1_1 < a0_1)) = true ->
 K (VI a0_1) h) /\
 ((decide (b1_1 < a0_1)) = false ->
 K (VI b1_1) h)
theorem v126 (a0_1 : Int) (b1_1 : Int) (h : Heap) (K : Value -> Heap -> Prop) (H : u126 Try.prog a0_1 b1_1 h K) : callM Try.prog 126 #[(VI a0_1), (VI b1_1)] h K := by
  refine c126 (VI a0_1) (VI b1_1) h K ?_
  unfold u126 at H
  unfold t126
  have hL : Vars h [] := .nil
  refine pop_gtr .i64 a0_1 b1_1 ?_
  refine condM_b (fun hb1 => ?_) (fun hb1 => ?_)
  ·exact H.1 hb1
  exact H.2 hb1
def u132 (P : Program) (s0_1 : Sl) (f1_1 : Value) (h : Heap) (K : Value -> Heap -> Prop) : Prop :=
 ∃ J1 : Nat -> Int -> Heap -> Prop, (∃ n0 : Nat, J1 n0 0 h) /\
 ∀ (n1 : Nat) (s8 : Int) (h1 : Heap), J1 n1 s8 h1 -> Vars h1 [] ->
 ((decide (s8 < (s0_1.n : Int))) = true ->
 InB s0_1 s8 /\
 ∃ s15 : Int, hcell h1 (Sl.at s0_1 s8 1) = some (VI s15) /\
 callV P f1_1 [(VI s15)] h1 fun r1 h2 => ∃ s16 : Bool, r1 = (VB s16) /\ Vars h2 [] /\
 (s16 = true ->
 K (VI s8) h2) /\
 (s16 = false ->
 ∃ m : Nat, m < n1 /\ J1 m (w64 (s8 + 1)) h2)) /\
 ((decide (s8 < (s0_1.n : Int))) = false ->
 K (VI (-1)) h1)
theorem v132 (s0_1 : Sl) (f1_1 : Value) (h : Heap) (K : Value -> Heap -> Prop) (H : u132 Try.prog s0_1 f1_1 h K) : callM Try.prog 132 #[s0_1.v, f1_1] h K := by
  refine c132 s0_1.v f1_1 h K ?_
  unfold u132 at H
  unfold t132
  have hL : Vars h [] := .nil
  refine pop_len s0_1 _ _ sli37 ?_
  obtain ⟨J1, ⟨n2, h0_1⟩, HB1⟩ := H
  refine loop_intro (J := fun (n : Nat) (vs : List Value) (h' : Heap) => ∃ s8 : Int, vs = [(VI s8)] /\ J1 n s8 h' /\ Vars h' []) n2 ⟨0, rfl, h0_1, hL⟩ ?_
  intro I1 mu1 hI1 junk1 tv1 h1 hi1
  obtain ⟨n1, ⟨s8, hv, hJ1, hL1⟩, hn1⟩ := hI1 _ _ hi1
  cases hv
  have H := HB1 n1 s8 h1 hJ1 hL1
  refine pop_lss .i64 s8 (s0_1.n : Int) ?_
  refine condM_b (fun hb1 => ?_) (fun hb1 => ?_)
  rotate_left
  ·exact H.2 hb1
  have H := H.1 hb1
  obtain ⟨hi2, H⟩ := H
  refine pop_index sli37 siz3 .i64 s0_1 s8 hi2 ?_
  obtain ⟨s15, hc1, H⟩ := H
  refine rop_one one3 (VI s15) hc1 ?_
  refine H.mono fun r1 h2 H => ?_
  obtain ⟨s16, rfl, hL2, H⟩ := H
  refine condM_b (fun hb2 => ?_) (fun hb2 => ?_)
  ·exact H.1 hb2
  have H := H.2 hb2
  refine pop_add .i64 s8 1 ?_
  obtain ⟨m_1, hm_1, H⟩ := H
  exact hn1 _ _ ⟨m_1, hm_1, (w64 (s8 + 1)), rfl, H, hL2⟩
end Go.Proofs.Ytgiamamfnpklkaa
