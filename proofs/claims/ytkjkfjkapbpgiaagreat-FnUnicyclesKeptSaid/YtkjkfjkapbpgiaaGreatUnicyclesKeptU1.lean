import Derived.Test.YtkjkfjkapbpgiaaGreatUnicyclesKeptU
import Derived.Test.YtkjkfjkapbpgiaaGreatUnicyclesKeptT
import Derived.Test.YtkjkfjkapbpgiaaGreatM2
set_option linter.unusedVariables false
set_option linter.unusedSimpArgs false
set_option maxRecDepth 100000
set_option maxHeartbeats 16000000
namespace Go.Proofs.YtkjkfjkapbpgiaaGreat
open Go Go.Mx
open Go.Instr (loadAt extract buildSlice)
def u39 (P : Program) (g0 : Sl) (w1 : Sl) (w1a : Int) (v2 : Int) (h : Heap) (K : KQ) : Prop :=
 ∀ (b1 : Nat) (b2 : Nat) (b3 : Nat) (h3 : Heap), h.size ≤ b1 -> h.size ≤ b2 -> h.size ≤ b3 -> Fr (In []) h h3 -> Vars h3 [(b3, [nilSl.v, (VI 0)]), (b2, [w1.v, (VI w1a)]), (b1, [g0.v])] ->
 callM P 85 #[(.agg #[g0.v]), (.agg #[w1.v, (VI w1a)]), (VI v2), (VI 2000)] h3 fun r1 h4 => ∃ s12 : Bool, r1 = (VB s12) /\ Vars h4 [(b3, [nilSl.v, (VI 0)]), (b2, [w1.v, (VI w1a)]), (b1, [g0.v])] /\
 ((!s12) = true ->
 ∀ (h5 : Heap), Fr (In [b3]) h4 h5 -> Vars h5 [(b3, [nilSl.v, (VI 0)]), (b2, [w1.v, (VI w1a)]), (b1, [g0.v])] ->
 K (.tuple #[(.agg #[nilSl.v, (VI 0)]), (VB false)]) h5) /\
 ((!s12) = false ->
 callM P 86 #[(.agg #[w1.v, (VI w1a)])] h4 fun r2 h6 => ∃ s16 : Sl, ∃ s16b : Int, r2 = (.agg #[s16.v, (VI s16b)]) /\ Vars h6 [(b3, [nilSl.v, (VI 0)]), (b2, [w1.v, (VI w1a)]), (b1, [g0.v])] /\
 ∀ (b4 : Nat) (h8 : Heap), h6.size ≤ b4 -> Fr (In []) h6 h8 -> Vars h8 [(b4, [s16.v, (VI s16b)]), (b3, [nilSl.v, (VI 0)]), (b2, [w1.v, (VI w1a)]), (b1, [g0.v])] ->
 callM P 87 #[(.agg #[g0.v]), (VP b4 0), (VI v2), (Value.func (.func 88) #[] #[])] h8 fun r3 h9 => ∃ y1 : Sl, ∃ y2 : Int, ∃ s19 : Bool, r3 = (VB s19) /\ Vars h9 [(b4, [y1.v, (VI y2)]), (b3, [nilSl.v, (VI 0)]), (b2, [w1.v, (VI w1a)]), (b1, [g0.v])] /\
 ((!s19) = true ->
 ∀ (h10 : Heap), Fr (In [b3]) h9 h10 -> Vars h10 [(b4, [y1.v, (VI y2)]), (b3, [nilSl.v, (VI 0)]), (b2, [w1.v, (VI w1a)]), (b1, [g0.v])] ->
 K (.tuple #[(.agg #[nilSl.v, (VI 0)]), (VB false)]) h10) /\
 ((!s19) = false ->
 ∀ (h11 : Heap), Fr (In [b3]) h9 h11 -> Vars h11 [(b4, [y1.v, (VI y2)]), (b3, [y1.v, (VI y2)]), (b2, [w1.v, (VI w1a)]), (b1, [g0.v])] ->
 K (.tuple #[(.agg #[y1.v, (VI y2)]), (VB true)]) h11))
theorem v39 (g0 : Sl) (w1 : Sl) (w1a : Int) (v2 : Int) (h : Heap) (K : KQ) (H : u39 Tryz.prog g0 w1 w1a v2 h K) : callM Tryz.prog 39 #[(Value.agg #[g0.v]), (Value.agg #[w1.v, (VI w1a)]), (VI v2)] h K := by
 refine c39 (Value.agg #[g0.v]) (Value.agg #[w1.v, (VI w1a)]) (VI v2) h K ?_
 unfold u39 at H
 unfold t39
 have hL : Vars h [] := .nil
 refine eop_box 26 (Value.agg #[g0.v]) rfl hL (fun b1 h1 hb1 hf1 hL1 => ?_)
 refine eop_box 48 (Value.agg #[w1.v, (VI w1a)]) rfl hL1 (fun b2 h2 hb2 hf2 hL2 => ?_)
 refine eop_alloc 48 zer48 rfl hL2 (fun b3 h3 hb3 hf3 hL3 => ?_)
 refine ra agg26 hL3 2 0 [g0.v] ?_
 refine ra agg48 hL3 1 0 [w1.v, (VI w1a)] ?_
 refine (H b1 b2 b3 h3 hb1 (Nat.le_trans (Fr.size (fo hf1)) hb2) (Nat.le_trans (Fr.size (Fr.no' (fo hf1) hf2)) hb3) (Fr.no' (Fr.no' (fo hf1) hf2) hf3) hL3).mono ?_
 rintro _ h4 ⟨s12, rfl, hL4, H⟩
 refine pop_not s12 ?_
 refine condM_b (fun hb4 => ?_) (fun hb4 => ?_)
 ·have H := H.1 hb4
  refine pop.mk' (v := (Value.agg #[nilSl.v, (VI 0)])) (fun w => by kernel_rfl) ?_
  refine ul siz48 hL4 0 0 [nilSl.v, (VI 0)] [(b3, [nilSl.v, (VI 0)]), (b2, [w1.v, (VI w1a)]), (b1, [g0.v])] (fun h5 hf4 hL5 => ?_)
  refine ra agg48 hL5 0 0 [nilSl.v, (VI 0)] ?_
  exact H  h5  (fq hf4) hL5
 have H := H.2 hb4
 refine ra agg48 hL4 1 0 [w1.v, (VI w1a)] ?_
 refine H.mono ?_
 rintro _ h6 ⟨s16, s16b, rfl, hL6, H⟩
 refine eop_alloc 48 zer48 rfl hL6 (fun b4 h7 hb5 hf5 hL7 => ?_)
 refine ul siz48 hL7 0 0 [s16.v, (VI s16b)] [(b4, [s16.v, (VI s16b)]), (b3, [nilSl.v, (VI 0)]), (b2, [w1.v, (VI w1a)]), (b1, [g0.v])] (fun h8 hf6 hL8 => ?_)
 refine ra agg26 hL8 3 0 [g0.v] ?_
 refine (H b4 h8 hb5 (Fr.new (fo hf5) hb5 hf6) hL8).mono ?_
 rintro _ h9 ⟨y1, y2, s19, rfl, hL9, H⟩
 refine pop_not s19 ?_
 refine condM_b (fun hb6 => ?_) (fun hb6 => ?_)
 ·have H := H.1 hb6
  refine pop.mk' (v := (Value.agg #[nilSl.v, (VI 0)])) (fun w => by kernel_rfl) ?_
  refine ul siz48 hL9 1 0 [nilSl.v, (VI 0)] [(b4, [y1.v, (VI y2)]), (b3, [nilSl.v, (VI 0)]), (b2, [w1.v, (VI w1a)]), (b1, [g0.v])] (fun h10 hf7 hL10 => ?_)
  refine ra agg48 hL10 1 0 [nilSl.v, (VI 0)] ?_
  exact H  h10  (fq hf7) hL10
 have H := H.2 hb6
 refine ra agg48 hL9 0 0 [y1.v, (VI y2)] ?_
 refine ul siz48 hL9 1 0 [y1.v, (VI y2)] [(b4, [y1.v, (VI y2)]), (b3, [y1.v, (VI y2)]), (b2, [w1.v, (VI w1a)]), (b1, [g0.v])] (fun h11 hf8 hL11 => ?_)
 refine ra agg48 hL11 1 0 [y1.v, (VI y2)] ?_
 exact H  h11  (fq hf8) hL11
def u40 (P : Program) (z0 : Sl) (h : Heap) (K : KQ) : Prop :=
 ∀ (b1 : Nat) (h1 : Heap), h.size ≤ b1 -> Fr (In []) h h1 -> Vars h1 [(b1, [nilSl.v])] ->
 callM P 89 #[z0.v] h1 fun r1 h2 => ∃ s4 : Sl, r1 = (.agg #[s4.v]) /\ Vars h2 [(b1, [nilSl.v])] /\
 ∀ (h3 : Heap), Fr (In [b1]) h2 h3 -> Vars h3 [(b1, [s4.v])] ->
 K (.agg #[s4.v]) h3
theorem v40 (z0 : Sl) (h : Heap) (K : KQ) (H : u40 Tryz.prog z0 h K) : callM Tryz.prog 40 #[z0.v] h K := by
 refine c40 z0.v h K ?_
 unfold u40 at H
 unfold t40
 have hL : Vars h [] := .nil
 refine eop_alloc 26 zer26 rfl hL (fun b1 h1 hb1 hf1 hL1 => ?_)
 refine (H b1 h1 hb1 (fo hf1) hL1).mono ?_
 rintro _ h2 ⟨s4, rfl, hL2, H⟩
 refine ul siz26 hL2 0 0 [s4.v] [(b1, [s4.v])] (fun h3 hf2 hL3 => ?_)
 refine ra agg26 hL3 0 0 [s4.v] ?_
 exact H  h3  (fq hf2) hL3
def u41 (P : Program) (g0 : Sl) (h : Heap) (K : KQ) : Prop :=
 ∀ (b1 : Nat) (h1 : Heap), h.size ≤ b1 -> Fr (In []) h h1 -> Vars h1 [(b1, [g0.v])] ->
 callM P 68 #[(.agg #[g0.v])] h1 fun r1 h2 => ∃ s7 : Bool, r1 = (VB s7) /\ Vars h2 [(b1, [g0.v])] /\
 ((!s7) = true ->
 K (.tuple #[(VI 0), (VB false)]) h2) /\
 ((!s7) = false ->
 ∃ J1 : Nat -> Int -> Int -> Heap -> Prop, (∃ n0 : Nat, J1 n0 0 0 h2) /\
 ∀ (n1 : Nat) (m4 : Int) (s12 : Int) (h3 : Heap), J1 n1 m4 s12 h3 -> Vars h3 [(b1, [g0.v])] ->
 ((decide (s12 < (g0.n : Int))) = true ->
 callM P 90 #[(.agg #[g0.v]), (VI s12)] h3 fun r2 h4 => ∃ s18 : Int, r2 = (VI s18) /\ Vars h4 [(b1, [g0.v])] /\
 ∃ m : Nat, m < n1 /\ J1 m (w64 (m4 + s18)) (w64 (s12 + 1)) h4) /\
 ((decide (s12 < (g0.n : Int))) = false ->
 K (.tuple #[(VI m4), (VB true)]) h3))
theorem v41 (g0 : Sl) (h : Heap) (K : KQ) (H : u41 Tryz.prog g0 h K) : callM Tryz.prog 41 #[(Value.agg #[g0.v])] h K := by
 refine c41 (Value.agg #[g0.v]) h K ?_
 unfold u41 at H
 unfold t41
 have hL : Vars h [] := .nil
 refine eop_box 26 (Value.agg #[g0.v]) rfl hL (fun b1 h1 hb1 hf1 hL1 => ?_)
 refine ra agg26 hL1 0 0 [g0.v] ?_
 refine (H b1 h1 hb1 (fo hf1) hL1).mono ?_
 rintro _ h2 ⟨s7, rfl, hL2, H⟩
 refine pop_not s7 ?_
 refine condM_b (fun hb2 => ?_) (fun hb2 => ?_)
 ·exact H.1 hb2
 have H := H.2 hb2
 refine pop_field 0 fld26_0 b1 0 ?_
 refine rl one24 hL2 0 0 g0.v ?_
 refine pop_len g0 _ _ sli24 ?_
 obtain ⟨J1, ⟨n2, h0⟩, HB1⟩ := H
 refine loop_intro (J := fun (n : Nat) (vs : List Value) (h' : Heap) => ∃ m4 : Int, ∃ s12 : Int, vs = [(VI m4), (VI s12)] /\ J1 n m4 s12 h' /\ Vars h' [(b1, [g0.v])]) n2 ⟨0, 0, rfl, h0, hL2⟩ ?_
 intro I1 mu1 hI1 junk1 tv1 tv2 h3 hi1
 obtain ⟨n1, ⟨m4, s12, hv, hJ1, hL3⟩, hn1⟩ := hI1 _ _ hi1
 cases hv
 have H := HB1 n1 m4 s12 h3 hJ1 hL3
 refine pop_lss .i64 s12 (g0.n : Int) ?_
 refine condM_b (fun hb3 => ?_) (fun hb3 => ?_)
 rotate_left
 ·exact H.2 hb3
 have H := H.1 hb3
 refine ra agg26 hL3 0 0 [g0.v] ?_
 refine H.mono ?_
 rintro _ h4 ⟨s18, rfl, hL4, H⟩
 refine pop_add .i64 m4 s18 ?_
 refine pop_add .i64 s12 1 ?_
 obtain ⟨m_1, hm_1, H⟩ := H
 exact hn1 _ _ ⟨m_1, hm_1, (w64 (m4 + s18)), (w64 (s12 + 1)), rfl, H, hL4⟩
def u42 (P : Program) (g0 : Sl) (h : Heap) (K : KQ) : Prop :=
 ∀ (b1 : Nat) (h1 : Heap), h.size ≤ b1 -> Fr (In []) h h1 -> Vars h1 [(b1, [g0.v])] ->
 callM P 91 #[(.agg #[g0.v])] h1 fun r1 h2 => ∃ s8 : Bool, r1 = (VB s8) /\ Vars h2 [(b1, [g0.v])] /\
 ((!s8) = true ->
 K (.tuple #[(VI 0), (VB false)]) h2) /\
 ((!s8) = false ->
 ∃ J1 : Nat -> Int -> Int -> Heap -> Prop, (∃ n0 : Nat, J1 n0 0 0 h2) /\
 ∀ (n1 : Nat) (q4 : Int) (s13 : Int) (h3 : Heap), J1 n1 q4 s13 h3 -> Vars h3 [(b1, [g0.v])] ->
 ((decide (s13 < (g0.n : Int))) = true ->
 InB g0 s13 /\
 ∃ s17 : Sl, hcell h3 (Sl.at g0 s13 1) = some s17.v /\
 ((decide (0 < (s17.n : Int))) = true ->
 callM P 93 #[(.agg #[g0.v]), (VI s13)] h3 fun r2 h4 => ∃ s24 : Sl, r2 = s24.v /\ Vars h4 [(b1, [g0.v])] /\
 callM P 92 #[s24.v] h4 fun r3 h5 => ∃ s25 : Int, r3 = (VI s25) /\ Vars h5 [(b1, [g0.v])] /\
 ∃ m : Nat, m < n1 /\ J1 m (w64 (q4 + (w64 (s25 * (s17.n : Int))))) (w64 (s13 + 1)) h5) /\
 ((decide (0 < (s17.n : Int))) = false ->
 ∃ m : Nat, m < n1 /\ J1 m q4 (w64 (s13 + 1)) h3)) /\
 ((decide (s13 < (g0.n : Int))) = false ->
 K (.tuple #[(VI q4), (VB true)]) h3))
theorem v42 (g0 : Sl) (h : Heap) (K : KQ) (H : u42 Tryz.prog g0 h K) : callM Tryz.prog 42 #[(Value.agg #[g0.v])] h K := by
 refine c42 (Value.agg #[g0.v]) h K ?_
 unfold u42 at H
 unfold t42
 have hL : Vars h [] := .nil
 refine eop_box 26 (Value.agg #[g0.v]) rfl hL (fun b1 h1 hb1 hf1 hL1 => ?_)
 refine ra agg26 hL1 0 0 [g0.v] ?_
 refine (H b1 h1 hb1 (fo hf1) hL1).mono ?_
 rintro _ h2 ⟨s8, rfl, hL2, H⟩
 refine pop_not s8 ?_
 refine condM_b (fun hb2 => ?_) (fun hb2 => ?_)
 ·exact H.1 hb2
 have H := H.2 hb2
 refine pop_field 0 fld26_0 b1 0 ?_
 refine rl one24 hL2 0 0 g0.v ?_
 refine pop_len g0 _ _ sli24 ?_
 obtain ⟨J1, ⟨n2, h0⟩, HB1⟩ := H
 refine loop_intro (J := fun (n : Nat) (vs : List Value) (h' : Heap) => ∃ q4 : Int, ∃ s13 : Int, vs = [(VI q4), (VI s13)] /\ J1 n q4 s13 h' /\ Vars h' [(b1, [g0.v])]) n2 ⟨0, 0, rfl, h0, hL2⟩ ?_
 intro I1 mu1 hI1 junk1 tv1 tv2 h3 hi1
 obtain ⟨n1, ⟨q4, s13, hv, hJ1, hL3⟩, hn1⟩ := hI1 _ _ hi1
 cases hv
 have H := HB1 n1 q4 s13 h3 hJ1 hL3
 refine pop_lss .i64 s13 (g0.n : Int) ?_
 refine condM_b (fun hb3 => ?_) (fun hb3 => ?_)
 rotate_left
 ·exact H.2 hb3
 have H := H.1 hb3
 obtain ⟨hi2, H⟩ := H
 refine pop_index sli24 siz29 .i64 g0 s13 hi2 ?_
 obtain ⟨s17, hc1, H⟩ := H
 refine rop_one one29 s17.v hc1 ?_
 refine pop_len s17 _ _ sli29 ?_
 refine pop_gtr .i64 (s17.n : Int) 0 ?_
 refine condM_b (fun hb4 => ?_) (fun hb4 => ?_)
 rotate_left
 ·have H := H.2 hb4
  refine pop_add .i64 s13 1 ?_
  obtain ⟨m_2, hm_2, H⟩ := H
  exact hn1 _ _ ⟨m_2, hm_2, q4, (w64 (s13 + 1)), rfl, H, hL3⟩
 have H := H.1 hb4
 refine ra agg26 hL3 0 0 [g0.v] ?_
 refine H.mono ?_
 rintro _ h4 ⟨s24, rfl, hL4, H⟩
 refine H.mono ?_
 rintro _ h5 ⟨s25, rfl, hL5, H⟩
 refine pop_len s17 _ _ sli29 ?_
 refine pop_mul .i64 s25 (s17.n : Int) ?_
 refine pop_add .i64 q4 (w64 (s25 * (s17.n : Int))) ?_
 refine pop_add .i64 s13 1 ?_
 obtain ⟨m_1, hm_1, H⟩ := H
 exact hn1 _ _ ⟨m_1, hm_1, (w64 (q4 + (w64 (s25 * (s17.n : Int))))), (w64 (s13 + 1)), rfl, H, hL5⟩
def u43 (P : Program) (g0 : Sl) (p1 : Int) (h : Heap) (K : KQ) : Prop :=
 ∀ (b1 : Nat) (b2 : Nat) (h2 : Heap), h.size ≤ b1 -> h.size ≤ b2 -> Fr (In []) h h2 -> Vars h2 [(b2, [(VI p1)]), (b1, [g0.v])] ->
 eop P (buildSlice 29 1 #[(0, (VI p1))]) h2 fun r1 h3 => ∃ s9 : Sl, r1 = s9.v /\ Vars h3 [(b2, [(VI p1)]), (b1, [g0.v])] /\
 callM P 94 #[(.agg #[g0.v]), s9.v] h3 fun r2 h4 => ∃ s10 : Bool, r2 = (VB s10) /\ Vars h4 [(b2, [(VI p1)]), (b1, [g0.v])] /\
 ((!s10) = true ->
 K (.tuple #[nilSl.v, (VB false)]) h4) /\
 ((!s10) = false ->
 callM P 90 #[(.agg #[g0.v]), (VI p1)] h4 fun r3 h5 => ∃ s15 : Int, r3 = (VI s15) /\ Vars h5 [(b2, [(VI p1)]), (b1, [g0.v])] /\
 ((decide (300 < s15)) = true ->
 K (.tuple #[nilSl.v, (VB false)]) h5) /\
 ((decide (300 < s15)) = false ->
 eop P (buildSlice 62 0 #[]) h5 fun r4 h6 => ∃ s18 : Sl, r4 = s18.v /\ Vars h6 [(b2, [(VI p1)]), (b1, [g0.v])] /\
 ∀ (b3 : Nat) (h8 : Heap), h6.size ≤ b3 -> Fr (In []) h6 h8 -> Vars h8 [(b3, [s18.v]), (b2, [(VI p1)]), (b1, [g0.v])] ->
 callM P 95 #[(.agg #[g0.v]), (VI (-1)), (Value.func (Fn.func 96) #[] #[(VP b2 0), (VP b1 0), (VP b3 0)])] h8 fun r5 h9 => ∃ y1 : Sl, ∃ y2 : Int, ∃ y3 : Sl, Vars h9 [(b3, [y1.v]), (b2, [(VI y2)]), (b1, [y3.v])] /\
 K (.tuple #[y1.v, (VB true)]) h9))
theorem v43 (g0 : Sl) (p1 : Int) (h : Heap) (K : KQ) (H : u43 Tryz.prog g0 p1 h K) : callM Tryz.prog 43 #[(Value.agg #[g0.v]), (VI p1)] h K := by
 refine c43 (Value.agg #[g0.v]) (VI p1) h K ?_
 unfold u43 at H
 unfold t43
 have hL : Vars h [] := .nil
 refine eop_box 26 (Value.agg #[g0.v]) rfl hL (fun b1 h1 hb1 hf1 hL1 => ?_)
 refine eop_box 3 (VI p1) rfl hL1 (fun b2 h2 hb2 hf2 hL2 => ?_)
 refine ra agg26 hL2 1 0 [g0.v] ?_
 refine rl one3 hL2 0 0 (VI p1) ?_
 refine (H b1 b2 h2 hb1 (Nat.le_trans (Fr.size (fo hf1)) hb2) (Fr.no' (fo hf1) hf2) hL2).mono ?_
 rintro _ h3 ⟨s9, rfl, hL3, H⟩
 refine H.mono ?_
 rintro _ h4 ⟨s10, rfl, hL4, H⟩
 refine pop_not s10 ?_
 refine guardM_sf (fun hb3 => ?_) (fun hb3 => ?_)
 rotate_left
 ·have H := H.1 hb3
  refine gm hb3 ?_
  refine gm hb3 ?_
  refine gm hb3 ?_
  refine pop_pickt' hb3 ?_
  refine condM_t ?_
  exact H
 have H := H.2 hb3
 refine ra agg26 hL4 1 0 [g0.v] ?_
 refine gy hb3 ?_
 refine rl one3 hL4 0 0 (VI p1) ?_
 refine gy hb3 ?_
 refine H.mono ?_
 rintro _ h5 ⟨s15, rfl, hL5, H⟩
 refine gy hb3 ?_
 refine pop_gtr .i64 s15 300 ?_
 refine pop_pickf' hb3 ?_
 refine condM_b (fun hb4 => ?_) (fun hb4 => ?_)
 ·exact H.1 hb4
 have H := H.2 hb4
 refine H.mono ?_
 rintro _ h6 ⟨s18, rfl, hL6, H⟩
 refine eop_alloc 62 zer62 rfl hL6 (fun b3 h7 hb5 hf3 hL7 => ?_)
 refine ul siz62 hL7 0 0 [s18.v] [(b3, [s18.v]), (b2, [(VI p1)]), (b1, [g0.v])] (fun h8 hf4 hL8 => ?_)
 refine ra agg26 hL8 2 0 [g0.v] ?_
 refine pop_func _ _ _ ?_
 refine (H b3 h8 hb5 (Fr.new (fo hf3) hb5 hf4) hL8).mono fun r5 h9 H => ?_
 obtain ⟨y1, y2, y3, hL9, H⟩ := H
 refine rl one62 hL9 0 0 y1.v ?_
 exact H
def u44 (P : Program) (a0 : Sl) (z1 : Sl) (h : Heap) (K : KQ) : Prop :=
 ∃ J1 : Nat -> Int -> Heap -> Prop, (∃ n0 : Nat, J1 n0 0 h) /\
 ∀ (n1 : Nat) (s8 : Int) (h1 : Heap), J1 n1 s8 h1 -> Vars h1 [] ->
 ((decide (s8 < (a0.n : Int))) = true ->
 InB a0 s8 /\
 ∃ s14 : Int, hcell h1 (Sl.at a0 s8 1) = some (VI s14) /\
 InB z1 s8 /\
 ∃ s18 : Int, hcell h1 (Sl.at z1 s8 1) = some (VI s18) /\
 ((!decide (s14 = s18)) = true ->
 InB a0 s8 /\
 ∃ s23 : Int, hcell h1 (Sl.at a0 s8 1) = some (VI s23) /\
 InB z1 s8 /\
 ∃ s27 : Int, hcell h1 (Sl.at z1 s8 1) = some (VI s27) /\
 K (VB (decide (s23 < s27))) h1) /\
 ((!decide (s14 = s18)) = false ->
 ∃ m : Nat, m < n1 /\ J1 m (w64 (s8 + 1)) h1)) /\
 ((decide (s8 < (a0.n : Int))) = false ->
 K (VB false) h1)
theorem v44 (a0 : Sl) (z1 : Sl) (h : Heap) (K : KQ) (H : u44 Tryz.prog a0 z1 h K) : callM Tryz.prog 44 #[a0.v, z1.v] h K := by
 refine c44 a0.v z1.v h K ?_
 unfold u44 at H
 unfold t44
 have hL : Vars h [] := .nil
 refine pop_len a0 _ _ sli29 ?_
 obtain ⟨J1, ⟨n2, h0⟩, HB1⟩ := H
 refine loop_intro (J := fun (n : Nat) (vs : List Value) (h' : Heap) => ∃ s8 : Int, vs = [(VI s8)] /\ J1 n s8 h' /\ Vars h' []) n2 ⟨0, rfl, h0, hL⟩ ?_
 intro I1 mu1 hI1 junk1 tv1 h1 hi1
 obtain ⟨n1, ⟨s8, hv, hJ1, hL1⟩, hn1⟩ := hI1 _ _ hi1
 cases hv
 have H := HB1 n1 s8 h1 hJ1 hL1
 refine pop_lss .i64 s8 (a0.n : Int) ?_
 refine condM_b (fun hb1 => ?_) (fun hb1 => ?_)
 rotate_left
 ·exact H.2 hb1
 have H := H.1 hb1
 obtain ⟨hi2, H⟩ := H
 refine pop_index sli29 siz3 .i64 a0 s8 hi2 ?_
 obtain ⟨s14, hc4, H⟩ := H
 refine rop_one one3 (VI s14) hc4 ?_
 obtain ⟨hi3, H⟩ := H
 refine pop_index sli29 siz3 .i64 z1 s8 hi3 ?_
 obtain ⟨s18, hc3, H⟩ := H
 refine rop_one one3 (VI s18) hc3 ?_
 refine pop_ine .i64 _ _ s14 s18 ?_
 refine condM_b (fun hb2 => ?_) (fun hb2 => ?_)
 rotate_left
 ·have H := H.2 hb2
  refine pop_add .i64 s8 1 ?_
  obtain ⟨m_1, hm_1, H⟩ := H
  exact hn1 _ _ ⟨m_1, hm_1, (w64 (s8 + 1)), rfl, H, hL1⟩
 have H := H.1 hb2
 obtain ⟨hi4, H⟩ := H
 refine pop_index sli29 siz3 .i64 a0 s8 hi4 ?_
 obtain ⟨s23, hc2, H⟩ := H
 refine rop_one one3 (VI s23) hc2 ?_
 obtain ⟨hi5, H⟩ := H
 refine pop_index sli29 siz3 .i64 z1 s8 hi5 ?_
 obtain ⟨s27, hc1, H⟩ := H
 refine rop_one one3 (VI s27) hc1 ?_
 refine pop_lss .i64 s23 s27 ?_
 exact H
def u45 (P : Program) (z0 : Sl) (h : Heap) (K : KQ) : Prop :=
 ∀ (b1 : Nat) (h1 : Heap), h.size ≤ b1 -> Fr (In []) h h1 -> Vars h1 [(b1, [nilSl.v])] ->
 callM P 97 #[z0.v] h1 fun r1 h2 => ∃ s5 : Sl, ∃ s5b : Int, r1 = (.tuple #[(.agg #[s5.v]), (VI s5b)]) /\ Vars h2 [(b1, [nilSl.v])] /\
 ∀ (h3 : Heap), Fr (In [b1]) h2 h3 -> Vars h3 [(b1, [s5.v])] ->
 K (.tuple #[(.agg #[s5.v]), (VI s5b)]) h3
theorem v45 (z0 : Sl) (h : Heap) (K : KQ) (H : u45 Tryz.prog z0 h K) : callM Tryz.prog 45 #[z0.v] h K := by
 refine c45 z0.v h K ?_
 unfold u45 at H
 unfold t45
 have hL : Vars h [] := .nil
 refine eop_alloc 26 zer26 rfl hL (fun b1 h1 hb1 hf1 hL1 => ?_)
 refine (H b1 h1 hb1 (fo hf1) hL1).mono ?_
 rintro _ h2 ⟨s5, s5b, rfl, hL2, H⟩
 refine pop_ext (v := (Value.agg #[s5.v])) rfl ?_
 refine pop_ext (v := (VI s5b)) rfl ?_
 refine ul siz26 hL2 0 0 [s5.v] [(b1, [s5.v])] (fun h3 hf2 hL3 => ?_)
 refine ra agg26 hL3 0 0 [s5.v] ?_
 exact H  h3  (fq hf2) hL3
def u46 (P : Program) (g0 : Sl) (p1 : Int) (h : Heap) (K : KQ) : Prop :=
 ∀ (b1 : Nat) (h1 : Heap), h.size ≤ b1 -> Fr (In []) h h1 -> Vars h1 [(b1, [g0.v])] ->
 callM P 98 #[(.agg #[g0.v]), (VI p1)] h1 fun r1 h2 => ∃ s15 : Bool, r1 = (VB s15) /\ Vars h2 [(b1, [g0.v])] /\
 ((!s15) = true ->
 K (.tuple #[nilSl.v, (VB false)]) h2) /\
 ((!s15) = false ->
 InB g0 p1 /\
 ∃ s26 : Sl, hcell h2 (Sl.at g0 p1 1) = some s26.v /\
 callM P 93 #[(.agg #[g0.v]), (VI p1)] h2 fun r2 h3 => ∃ s20 : Sl, r2 = s20.v /\ Vars h3 [(b1, [g0.v])] /\
 hcell h3 (Sl.at g0 p1 1) = some s26.v /\
 callM P 92 #[s20.v] h3 fun r3 h4 => ∃ s21 : Int, r3 = (VI s21) /\ Vars h4 [(b1, [g0.v])] /\
 hcell h4 (Sl.at g0 p1 1) = some s26.v /\
 ((decide (300 < (w64 (s21 * (s26.n : Int))))) = true ->
 K (.tuple #[nilSl.v, (VB false)]) h4) /\
 ((decide (300 < (w64 (s21 * (s26.n : Int))))) = false ->
 callM P 99 #[(.agg #[g0.v]), (VI p1), (VI 300)] h4 fun r4 h5 => ∃ s33 : Sl, r4 = s33.v /\ Vars h5 [(b1, [g0.v])] /\
 ∃ J1 : Nat -> Sl -> Int -> Heap -> Prop, (∃ n0 : Nat, J1 n0 nilSl 0 h5) /\
 ∀ (n1 : Nat) (o6 : Sl) (s35 : Int) (h6 : Heap), J1 n1 o6 s35 h6 -> Vars h6 [(b1, [g0.v])] ->
 ((decide (s35 < (s33.n : Int))) = true ->
 InB s33 s35 /\
 ∃ s38 : Sl, hcell h6 (Sl.at s33 s35 1) = some s38.v /\
 InB g0 p1 /\
 ∃ s43 : Sl, hcell h6 (Sl.at g0 p1 1) = some s43.v /\
 ∃ J2 : Nat -> Sl -> Int -> Heap -> Prop, (∃ n0 : Nat, J2 n0 o6 0 h6) /\
 ∀ (n2 : Nat) (o6a : Sl) (s45 : Int) (h7 : Heap), J2 n2 o6a s45 h7 -> Vars h7 [(b1, [g0.v])] ->
 ((decide (s45 < (s43.n : Int))) = true ->
 callM P 79 #[s38.v] h7 fun r5 h8 => ∃ s49 : Sl, r5 = s49.v /\ Vars h8 [(b1, [g0.v])] /\
 InB s49 p1 /\
 ∀ (b2 : Nat) (h10 : Heap), h8.size ≤ b2 -> Fr (In []) h8 h10 -> Vars h10 [(b2, [s49.v, (VI p1)]), (b1, [g0.v])] ->
 Writable h10 (Sl.at s49 p1 1) /\ Vars (hset h10 (Sl.at s49 p1 1) (VI s45)) [(b2, [s49.v, (VI p1)]), (b1, [g0.v])] /\
 ∀ h11 : Heap, h11 = hset h10 (Sl.at s49 p1 1) (VI s45) -> Vars h11 [(b2, [s49.v, (VI p1)]), (b1, [g0.v])] ->
 ∃ J3 : Nat -> Int -> Heap -> Prop, (∃ n0 : Nat, J3 n0 0 h11) /\
 ∀ (n3 : Nat) (i11 : Int) (h12 : Heap), J3 n3 i11 h12 -> Vars h12 [(b2, [s49.v, (VI p1)]), (b1, [g0.v])] ->
 ((decide (i11 < (o6a.n : Int))) = true ->
 InB o6a i11 /\
 ∃ s66 : Sl, hcell h12 (Addr.add (Sl.at o6a i11 2) 0) = some s66.v /\
 callM P 100 #[s66.v, s49.v] h12 fun r6 h13 => ∃ s69 : Bool, r6 = (VB s69) /\ Vars h13 [(b2, [s49.v, (VI p1)]), (b1, [g0.v])] /\
 (s69 = true ->
 ∃ m : Nat, m < n3 /\ J3 m (w64 (i11 + 1)) h13) /\
 (s69 = false ->
 ∃ J4 : Sl -> Heap -> Prop, (pop P (Instr.sliceAt 62 o6a.v none (some (VI i11)) none) fun r7 => ∃ s76 : Sl, r7 = s76.v /\ 
 (eop P (buildSlice 62 0 #[]) h13 fun r8 h14 => ∃ s73 : Sl, r8 = s73.v /\ Vars h14 [(b2, [s49.v, (VI p1)]), (b1, [g0.v])] /\
 (eop P (appS 62 62 62 s73.v s76.v) h14 fun r9 h15 => ∃ s77 : Sl, r9 = s77.v /\ Vars h15 [(b2, [s49.v, (VI p1)]), (b1, [g0.v])] /\
 eop P (buildSlice 62 1 #[(0, (.agg #[s49.v, (VI p1)]))]) h15 fun r10 h16 => ∃ s79 : Sl, r10 = s79.v /\ Vars h16 [(b2, [s49.v, (VI p1)]), (b1, [g0.v])] /\
 eop P (appS 62 62 62 s77.v s79.v) h16 fun r11 h17 => ∃ s80 : Sl, r11 = s80.v /\ Vars h17 [(b2, [s49.v, (VI p1)]), (b1, [g0.v])] /\
 J4 s80 h17) /\
 (eop P (buildSlice 62 1 #[(0, (.agg #[s49.v, (VI p1)]))]) h14 fun r12 h18 => ∃ s79b : Sl, r12 = s79b.v /\ Vars h18 [(b2, [s49.v, (VI p1)]), (b1, [g0.v])] /\
 eop P (appS 62 62 62 s73.v s76.v) h18 fun r13 h19 => ∃ s77b : Sl, r13 = s77b.v /\ Vars h19 [(b2, [s49.v, (VI p1)]), (b1, [g0.v])] /\
 eop P (appS 62 62 62 s77b.v s79b.v) h19 fun r14 h20 => ∃ s80b : Sl, r14 = s80b.v /\ Vars h20 [(b2, [s49.v, (VI p1)]), (b1, [g0.v])] /\
 J4 s80b h20)) /\
 (eop P (buildSlice 62 1 #[(0, (.agg #[s49.v, (VI p1)]))]) h13 fun r15 h21 => ∃ s79c : Sl, r15 = s79c.v /\ Vars h21 [(b2, [s49.v, (VI p1)]), (b1, [g0.v])] /\
 eop P (buildSlice 62 0 #[]) h21 fun r16 h22 => ∃ s73b : Sl, r16 = s73b.v /\ Vars h22 [(b2, [s49.v, (VI p1)]), (b1, [g0.v])] /\
 eop P (appS 62 62 62 s73b.v s76.v) h22 fun r17 h23 => ∃ s77c : Sl, r17 = s77c.v /\ Vars h23 [(b2, [s49.v, (VI p1)]), (b1, [g0.v])] /\
 eop P (appS 62 62 62 s77c.v s79c.v) h23 fun r18 h24 => ∃ s80c : Sl, r18 = s80c.v /\ Vars h24 [(b2, [s49.v, (VI p1)]), (b1, [g0.v])] /\
 J4 s80c h24)) /\
 ∀ (y1 : Sl) (h25 : Heap), J4 y1 h25 -> Vars h25 [(b2, [s49.v, (VI p1)]), (b1, [g0.v])] ->
 pop P (Instr.sliceAt 62 o6a.v (some (VI i11)) none none) fun r19 => ∃ s84 : Sl, r19 = s84.v /\ 
 eop P (appS 62 62 62 y1.v s84.v) h25 fun r20 h26 => ∃ s85 : Sl, r20 = s85.v /\ Vars h26 [(b2, [s49.v, (VI p1)]), (b1, [g0.v])] /\
 ∃ m : Nat, m < n2 /\ J2 m s85 (w64 (s45 + 1)) h26)) /\
 ((decide (i11 < (o6a.n : Int))) = false ->
 ∃ J5 : Sl -> Heap -> Prop, (pop P (Instr.sliceAt 62 o6a.v none (some (VI i11)) none) fun r21 => ∃ s76b : Sl, r21 = s76b.v /\ 
 (eop P (buildSlice 62 0 #[]) h12 fun r22 h27 => ∃ s73c : Sl, r22 = s73c.v /\ Vars h27 [(b2, [s49.v, (VI p1)]), (b1, [g0.v])] /\
 (eop P (appS 62 62 62 s73c.v s76b.v) h27 fun r23 h28 => ∃ s77d : Sl, r23 = s77d.v /\ Vars h28 [(b2, [s49.v, (VI p1)]), (b1, [g0.v])] /\
 eop P (buildSlice 62 1 #[(0, (.agg #[s49.v, (VI p1)]))]) h28 fun r24 h29 => ∃ s79d : Sl, r24 = s79d.v /\ Vars h29 [(b2, [s49.v, (VI p1)]), (b1, [g0.v])] /\
 eop P (appS 62 62 62 s77d.v s79d.v) h29 fun r25 h30 => ∃ s80d : Sl, r25 = s80d.v /\ Vars h30 [(b2, [s49.v, (VI p1)]), (b1, [g0.v])] /\
 J5 s80d h30) /\
 (eop P (buildSlice 62 1 #[(0, (.agg #[s49.v, (VI p1)]))]) h27 fun r26 h31 => ∃ s79e : Sl, r26 = s79e.v /\ Vars h31 [(b2, [s49.v, (VI p1)]), (b1, [g0.v])] /\
 eop P (appS 62 62 62 s73c.v s76b.v) h31 fun r27 h32 => ∃ s77e : Sl, r27 = s77e.v /\ Vars h32 [(b2, [s49.v, (VI p1)]), (b1, [g0.v])] /\
 eop P (appS 62 62 62 s77e.v s79e.v) h32 fun r28 h33 => ∃ s80e : Sl, r28 = s80e.v /\ Vars h33 [(b2, [s49.v, (VI p1)]), (b1, [g0.v])] /\
 J5 s80e h33)) /\
 (eop P (buildSlice 62 1 #[(0, (.agg #[s49.v, (VI p1)]))]) h12 fun r29 h34 => ∃ s79f : Sl, r29 = s79f.v /\ Vars h34 [(b2, [s49.v, (VI p1)]), (b1, [g0.v])] /\
 eop P (buildSlice 62 0 #[]) h34 fun r30 h35 => ∃ s73d : Sl, r30 = s73d.v /\ Vars h35 [(b2, [s49.v, (VI p1)]), (b1, [g0.v])] /\
 eop P (appS 62 62 62 s73d.v s76b.v) h35 fun r31 h36 => ∃ s77f : Sl, r31 = s77f.v /\ Vars h36 [(b2, [s49.v, (VI p1)]), (b1, [g0.v])] /\
 eop P (appS 62 62 62 s77f.v s79f.v) h36 fun r32 h37 => ∃ s80f : Sl, r32 = s80f.v /\ Vars h37 [(b2, [s49.v, (VI p1)]), (b1, [g0.v])] /\
 J5 s80f h37)) /\
 ∀ (y2 : Sl) (h38 : Heap), J5 y2 h38 -> Vars h38 [(b2, [s49.v, (VI p1)]), (b1, [g0.v])] ->
 pop P (Instr.sliceAt 62 o6a.v (some (VI i11)) none none) fun r33 => ∃ s84b : Sl, r33 = s84b.v /\ 
 eop P (appS 62 62 62 y2.v s84b.v) h38 fun r34 h39 => ∃ s85b : Sl, r34 = s85b.v /\ Vars h39 [(b2, [s49.v, (VI p1)]), (b1, [g0.v])] /\
 ∃ m : Nat, m < n2 /\ J2 m s85b (w64 (s45 + 1)) h39)) /\
 ((decide (s45 < (s43.n : Int))) = false ->
 ∃ m : Nat, m < n1 /\ J1 m o6a (w64 (s35 + 1)) h7)) /\
 ((decide (s35 < (s33.n : Int))) = false ->
 K (.tuple #[o6.v, (VB true)]) h6)))
theorem v46 (g0 : Sl) (p1 : Int) (h : Heap) (K : KQ) (H : u46 Tryz.prog g0 p1 h K) : callM Tryz.prog 46 #[(Value.agg #[g0.v]), (VI p1)] h K := by
 refine c46 (Value.agg #[g0.v]) (VI p1) h K ?_
 unfold u46 at H
 unfold t46
 have hL : Vars h [] := .nil
 refine eop_box 26 (Value.agg #[g0.v]) rfl hL (fun b1 h1 hb1 hf1 hL1 => ?_)
 refine ra agg26 hL1 0 0 [g0.v] ?_
 refine (H b1 h1 hb1 (fo hf1) hL1).mono ?_
 rintro _ h2 ⟨s15, rfl, hL2, H⟩
 refine pop_not s15 ?_
 refine guardM_sf (fun hb2 => ?_) (fun hb2 => ?_)
 rotate_left
 ·have H := H.1 hb2
  refine gm hb2 ?_
  refine gm hb2 ?_
  refine gm hb2 ?_
  refine gm hb2 ?_
  refine gm hb2 ?_
  refine gm hb2 ?_
  refine gm hb2 ?_
  refine gm hb2 ?_
  refine ⟨⟨_, rfl, fun h => absurd (h.symm.trans hb2) (by decide), fun _ => rfl⟩, ?_⟩
  refine ⟨⟨_, rfl, fun h => absurd (h.symm.trans hb2) (by decide), fun _ => rfl⟩, ?_⟩
  refine gm hb2 ?_
  refine ⟨⟨_, rfl, fun h => absurd (h.symm.trans hb2) (by decide), fun _ => rfl⟩, ?_⟩
  refine ⟨⟨_, rfl, fun h => absurd (h.symm.trans hb2) (by decide), fun _ => rfl⟩, ?_⟩
  refine gm hb2 ?_
  refine gm hb2 ?_
  refine pop_pickt' hb2 ?_
  refine condM_t ?_
  exact H
 have H := H.2 hb2
 refine ra agg26 hL2 0 0 [g0.v] ?_
 refine gy hb2 ?_
 refine gy hb2 ?_
 refine pop_field 0 fld26_0 b1 0 ?_
 refine gy hb2 ?_
 refine rl one24 hL2 0 0 g0.v ?_
 refine gy hb2 ?_
 refine gy hb2 ?_
 obtain ⟨hi1, H⟩ := H
 refine pop_index sli24 siz29 .i64 g0 p1 hi1 ?_
 refine gy hb2 ?_
 obtain ⟨s26, hc6, H⟩ := H
 refine rop_one one29 s26.v hc6 ?_
 refine gy hb2 ?_
 refine pop_len s26 _ _ sli29 ?_
 refine gy hb2 ?_
 refine H.mono ?_
 rintro _ h3 ⟨s20, rfl, hL3, H⟩
 refine ⟨⟨_, rfl, fun _ => ?_, fun h => absurd hb2 h⟩, ?_⟩
 ·exact still_one one29 H.1
 obtain ⟨hc1, H⟩ := H
 refine ⟨⟨_, rfl, fun _ => ?_, fun h => absurd hb2 h⟩, ?_⟩
 ·exact still_loc one24 hL3 0 rfl 0 (v := g0.v) rfl
 refine gy hb2 ?_
 refine H.mono ?_
 rintro _ h4 ⟨s21, rfl, hL4, H⟩
 refine ⟨⟨_, rfl, fun _ => ?_, fun h => absurd hb2 h⟩, ?_⟩
 ·exact still_one one29 H.1
 obtain ⟨hc2, H⟩ := H
 refine ⟨⟨_, rfl, fun _ => ?_, fun h => absurd hb2 h⟩, ?_⟩
 ·exact still_loc one24 hL4 0 rfl 0 (v := g0.v) rfl
 refine gy hb2 ?_
 refine pop_mul .i64 s21 (s26.n : Int) ?_
 refine gy hb2 ?_
 refine pop_gtr .i64 (w64 (s21 * (s26.n : Int))) 300 ?_
 refine pop_pickf' hb2 ?_
 refine condM_b (fun hb3 => ?_) (fun hb3 => ?_)
 ·exact H.1 hb3
 have H := H.2 hb3
 refine ra agg26 hL4 0 0 [g0.v] ?_
 refine H.mono ?_
 rintro _ h5 ⟨s33, rfl, hL5, H⟩
 refine pop_len s33 _ _ sli24 ?_
 obtain ⟨J1, ⟨n6, h0b⟩, HB5⟩ := H
 refine loop_intro (J := fun (n : Nat) (vs : List Value) (h' : Heap) => ∃ o6 : Sl, ∃ s35 : Int, vs = [o6.v, (VI s35)] /\ J1 n o6 s35 h' /\ Vars h' [(b1, [g0.v])]) n6 ⟨nilSl, 0, rfl, h0b, hL5⟩ ?_
 intro I3 mu3 hI3 junk1 tv6 tv7 h6 hi2
 obtain ⟨n1, ⟨o6, s35, hv, hJ1, hL6⟩, hn1⟩ := hI3 _ _ hi2
 cases hv
 have H := HB5 n1 o6 s35 h6 hJ1 hL6
 refine pop_lss .i64 s35 (s33.n : Int) ?_
 refine condM_b (fun hb4 => ?_) (fun hb4 => ?_)
 rotate_left
 ·exact H.2 hb4
 have H := H.1 hb4
 obtain ⟨hi3, H⟩ := H
 refine pop_index sli24 siz29 .i64 s33 s35 hi3 ?_
 obtain ⟨s38, hc5, H⟩ := H
 refine rop_one one29 s38.v hc5 ?_
 refine pop_field 0 fld26_0 b1 0 ?_
 refine rl one24 hL6 0 0 g0.v ?_
 obtain ⟨hi4, H⟩ := H
 refine pop_index sli24 siz29 .i64 g0 p1 hi4 ?_
 obtain ⟨s43, hc4, H⟩ := H
 refine rop_one one29 s43.v hc4 ?_
 refine pop_len s43 _ _ sli29 ?_
 obtain ⟨J2, ⟨n5, h0a⟩, HB4⟩ := H
 refine loop_intro (J := fun (n : Nat) (vs : List Value) (h' : Heap) => ∃ o6a : Sl, ∃ s45 : Int, vs = [o6a.v, (VI s45)] /\ J2 n o6a s45 h' /\ Vars h' [(b1, [g0.v])]) n5 ⟨o6, 0, rfl, h0a, hL6⟩ ?_
 intro I2 mu2 hI2 junk2 tv4 tv5 h7 hi5
 obtain ⟨n2, ⟨o6a, s45, hv, hJ2, hL7⟩, hn2⟩ := hI2 _ _ hi5
 cases hv
 have H := HB4 n2 o6a s45 h7 hJ2 hL7
 refine pop_lss .i64 s45 (s43.n : Int) ?_
 refine condM_b (fun hb5 => ?_) (fun hb5 => ?_)
 rotate_left
 ·have H := H.2 hb5
  refine pop_add .i64 s35 1 ?_
  obtain ⟨m_4, hm_4, H⟩ := H
  exact hn1 _ _ ⟨m_4, hm_4, o6a, (w64 (s35 + 1)), rfl, H, hL7⟩
 have H := H.1 hb5
 refine H.mono ?_
 rintro _ h8 ⟨s49, rfl, hL8, H⟩
 refine pop.mk' (v := (Value.agg #[s49.v, (VI p1)])) (fun w => by kernel_rfl) ?_
 refine eop_alloc 48 zer48 rfl hL8 (fun b2 h9 hb6 hf2 hL9 => ?_)
 refine ul siz48 hL9 0 0 [s49.v, (VI p1)] [(b2, [s49.v, (VI p1)]), (b1, [g0.v])] (fun h10 hf3 hL10 => ?_)
 refine pop_field 0 fld48_0 b2 0 ?_
 refine rl one29 hL10 0 0 s49.v ?_
 obtain ⟨hi6, H⟩ := H
 refine pop_index sli29 siz3 .i64 s49 p1 hi6 ?_
 have H := H b2 h10 hb6 (Fr.new (fo hf2) hb6 hf3) hL10
 obtain ⟨hw_1, hL11, H⟩ := H
 refine uop_cell (v := (VI s45)) siz3 hw_1 rfl (fun h11 he_1 => ?_)
 rw [← he_1] at hL11
 have H := H h11 he_1 hL11
 obtain ⟨J3, ⟨n4, h0⟩, HB3⟩ := H
 refine loop_intro (J := fun (n : Nat) (vs : List Value) (h' : Heap) => ∃ i11 : Int, vs = [(VI i11)] /\ J3 n i11 h' /\ Vars h' [(b2, [s49.v, (VI p1)]), (b1, [g0.v])]) n4 ⟨0, rfl, h0, hL11⟩ ?_
 intro I1 mu1 hI1 junk3 tv3 h12 hi7
 obtain ⟨n3, ⟨i11, hv, hJ3, hL12⟩, hn3⟩ := hI1 _ _ hi7
 cases hv
 have H := HB3 n3 i11 h12 hJ3 hL12
 refine pop_len o6a _ _ sli62 ?_
 refine pop_lss .i64 i11 (o6a.n : Int) ?_
 refine guardM_st (fun hb7 => ?_) (fun hb7 => ?_)
 rotate_left
 ·have H := H.2 hb7
  refine gm hb7 ?_
  refine gm hb7 ?_
  refine gm hb7 ?_
  refine gm hb7 ?_
  refine gm hb7 ?_
  refine gm hb7 ?_
  refine gm hb7 ?_
  refine pop_pickf' hb7 ?_
  refine condM_f ?_
  obtain ⟨J5, H, HB2⟩ := H
  refine ⟨fun (vs : List Value) (h' : Heap) => ∃ y2 : Sl, vs = [y2.v] /\ J5 y2 h' /\ Vars h' [(b2, [s49.v, (VI p1)]), (b1, [g0.v])], ?_, ?_⟩
  ·refine H.mono fun r21 H => ?_
   obtain ⟨s76b, rfl, H⟩ := H
   refine ra agg48 hL12 0 0 [s49.v, (VI p1)] ?_
   refine ⟨?_, ?_⟩
   rotate_left
   ·have H := H.2
    refine H.mono ?_
    rintro _ h34 ⟨s79f, rfl, hL34, H⟩
    refine H.mono ?_
    rintro _ h35 ⟨s73d, rfl, hL35, H⟩
    refine H.mono ?_
    rintro _ h36 ⟨s77f, rfl, hL36, H⟩
    refine H.mono ?_
    rintro _ h37 ⟨s80f, rfl, hL37, H⟩
    exact ⟨s80f, rfl, H, hL37⟩
   have H := H.1
   refine H.mono ?_
   rintro _ h27 ⟨s73c, rfl, hL27, H⟩
   refine ⟨?_, ?_⟩
   ·exact still_locA agg48 hL27 0 rfl 0 (vs := [s49.v, (VI p1)]) rfl rfl
   refine ⟨?_, ?_⟩
   rotate_left
   ·have H := H.2
    refine H.mono ?_
    rintro _ h31 ⟨s79e, rfl, hL31, H⟩
    refine H.mono ?_
    rintro _ h32 ⟨s77e, rfl, hL32, H⟩
    refine H.mono ?_
    rintro _ h33 ⟨s80e, rfl, hL33, H⟩
    exact ⟨s80e, rfl, H, hL33⟩
   have H := H.1
   refine H.mono ?_
   rintro _ h28 ⟨s77d, rfl, hL28, H⟩
   refine ⟨?_, ?_⟩
   ·exact still_locA agg48 hL28 0 rfl 0 (vs := [s49.v, (VI p1)]) rfl rfl
   refine H.mono ?_
   rintro _ h29 ⟨s79d, rfl, hL29, H⟩
   refine H.mono ?_
   rintro _ h30 ⟨s80d, rfl, hL30, H⟩
   exact ⟨s80d, rfl, H, hL30⟩
  intro junk5 tv2 h38
  rintro ⟨y2, hv, hJ5, hL38⟩
  cases hv
  have H := HB2 y2 h38 hJ5 hL38
  refine H.mono fun r33 H => ?_
  obtain ⟨s84b, rfl, H⟩ := H
  refine H.mono ?_
  rintro _ h39 ⟨s85b, rfl, hL39, H⟩
  refine pop_add .i64 s45 1 ?_
  obtain ⟨m_3, hm_3, H⟩ := H
  exact hn2 _ _ ⟨m_3, hm_3, s85b, (w64 (s45 + 1)), rfl, H, (Vars.tail hL39)⟩
 have H := H.1 hb7
 refine gy hb7 ?_
 refine gy hb7 ?_
 obtain ⟨hi8, H⟩ := H
 refine pop_index sli62 siz48 .i64 o6a i11 hi8 ?_
 refine gy hb7 ?_
 refine pop_fieldA 0 fld48_0 (Sl.at o6a i11 2) ?_
 refine gy hb7 ?_
 obtain ⟨s66, hc3, H⟩ := H
 refine rop_one one29 s66.v hc3 ?_
 refine gy hb7 ?_
 refine pop_field 0 fld48_0 b2 0 ?_
 refine gy hb7 ?_
 refine rl one29 hL12 0 0 s49.v ?_
 refine gy hb7 ?_
 refine H.mono ?_
 rintro _ h13 ⟨s69, rfl, hL13, H⟩
 refine pop_pickt' hb7 ?_
 refine condM_b (fun hb8 => ?_) (fun hb8 => ?_)
 ·have H := H.1 hb8
  refine pop_add .i64 i11 1 ?_
  obtain ⟨m_1, hm_1, H⟩ := H
  exact hn3 _ _ ⟨m_1, hm_1, (w64 (i11 + 1)), rfl, H, hL13⟩
 have H := H.2 hb8
 obtain ⟨J4, H, HB1⟩ := H
 refine ⟨fun (vs : List Value) (h' : Heap) => ∃ y1 : Sl, vs = [y1.v] /\ J4 y1 h' /\ Vars h' [(b2, [s49.v, (VI p1)]), (b1, [g0.v])], ?_, ?_⟩
 ·refine H.mono fun r7 H => ?_
  obtain ⟨s76, rfl, H⟩ := H
  refine ra agg48 hL13 0 0 [s49.v, (VI p1)] ?_
  refine ⟨?_, ?_⟩
  rotate_left
  ·have H := H.2
   refine H.mono ?_
   rintro _ h21 ⟨s79c, rfl, hL21, H⟩
   refine H.mono ?_
   rintro _ h22 ⟨s73b, rfl, hL22, H⟩
   refine H.mono ?_
   rintro _ h23 ⟨s77c, rfl, hL23, H⟩
   refine H.mono ?_
   rintro _ h24 ⟨s80c, rfl, hL24, H⟩
   exact ⟨s80c, rfl, H, hL24⟩
  have H := H.1
  refine H.mono ?_
  rintro _ h14 ⟨s73, rfl, hL14, H⟩
  refine ⟨?_, ?_⟩
  ·exact still_locA agg48 hL14 0 rfl 0 (vs := [s49.v, (VI p1)]) rfl rfl
  refine ⟨?_, ?_⟩
  rotate_left
  ·have H := H.2
   refine H.mono ?_
   rintro _ h18 ⟨s79b, rfl, hL18, H⟩
   refine H.mono ?_
   rintro _ h19 ⟨s77b, rfl, hL19, H⟩
   refine H.mono ?_
   rintro _ h20 ⟨s80b, rfl, hL20, H⟩
   exact ⟨s80b, rfl, H, hL20⟩
  have H := H.1
  refine H.mono ?_
  rintro _ h15 ⟨s77, rfl, hL15, H⟩
  refine ⟨?_, ?_⟩
  ·exact still_locA agg48 hL15 0 rfl 0 (vs := [s49.v, (VI p1)]) rfl rfl
  refine H.mono ?_
  rintro _ h16 ⟨s79, rfl, hL16, H⟩
  refine H.mono ?_
  rintro _ h17 ⟨s80, rfl, hL17, H⟩
  exact ⟨s80, rfl, H, hL17⟩
 intro junk4 tv1 h25
 rintro ⟨y1, hv, hJ4, hL25⟩
 cases hv
 have H := HB1 y1 h25 hJ4 hL25
 refine H.mono fun r19 H => ?_
 obtain ⟨s84, rfl, H⟩ := H
 refine H.mono ?_
 rintro _ h26 ⟨s85, rfl, hL26, H⟩
 refine pop_add .i64 s45 1 ?_
 obtain ⟨m_2, hm_2, H⟩ := H
 exact hn2 _ _ ⟨m_2, hm_2, s85, (w64 (s45 + 1)), rfl, H, (Vars.tail hL26)⟩
def u47 (P : Program) (z0 : Sl) (h : Heap) (K : KQ) : Prop :=
 ∀ (b1 : Nat) (b2 : Nat) (h2 : Heap), h.size ≤ b1 -> h.size ≤ b2 -> Fr (In []) h h2 -> Vars h2 [(b2, [z0.v, (VI 0), (Value.int .u64 0)]), (b1, [nilSl.v])] ->
 callM P 101 #[(VP b2 0)] h2 fun r1 h3 => ∃ y1 : Sl, ∃ y2 : Int, ∃ y3 : Int, ∃ s15 : Sl, ∃ s15b : Int, ∃ s15c : Sl, r1 = (.tuple #[(.agg #[s15.v]), (VI s15b), s15c.v]) /\ Vars h3 [(b2, [y1.v, (VI y2), (Value.int .u64 y3)]), (b1, [nilSl.v])] /\
 ∀ (b3 : Nat) (h5 : Heap), h3.size ≤ b3 -> Fr (In []) h3 h5 -> Vars h5 [(b3, [s15.v]), (b2, [y1.v, (VI y2), (Value.int .u64 y3)]), (b1, [nilSl.v])] ->
 callM P 52 #[(VP b2 0), (VI 5)] h5 fun r2 h6 => ∃ y4 : Sl, ∃ y5 : Int, ∃ y6 : Int, ∃ s23 : Int, r2 = (VI s23) /\ Vars h6 [(b3, [s15.v]), (b2, [y4.v, (VI y5), (Value.int .u64 y6)]), (b1, [nilSl.v])] /\
 callM P 52 #[(VP b2 0), (VI 9)] h6 fun r3 h7 => ∃ y7 : Sl, ∃ y8 : Int, ∃ y9 : Int, ∃ s25 : Int, r3 = (VI s25) /\ Vars h7 [(b3, [s15.v]), (b2, [y7.v, (VI y8), (Value.int .u64 y9)]), (b1, [nilSl.v])] /\
 ∀ (h8 : Heap), Fr (In [b1]) h7 h8 -> Vars h8 [(b3, [s15.v]), (b2, [y7.v, (VI y8), (Value.int .u64 y9)]), (b1, [s15.v])] ->
 K (.tuple #[(.agg #[s15.v]), (VI s15b), s15c.v, (VI (w64 (s23 - (w64 (Int.tdiv s25 8)))))]) h8
theorem v47 (z0 : Sl) (h : Heap) (K : KQ) (H : u47 Tryz.prog z0 h K) : callM Tryz.prog 47 #[z0.v] h K := by
 refine c47 z0.v h K ?_
 unfold u47 at H
 unfold t47
 have hL : Vars h [] := .nil
 refine eop_alloc 26 zer26 rfl hL (fun b1 h1 hb1 hf1 hL1 => ?_)
 refine pop.mk' (v := (Value.agg #[z0.v, (VI 0), (Value.int .u64 0)])) (fun w => by kernel_rfl) ?_
 refine eop_box 74 (Value.agg #[z0.v, (VI 0), (Value.int .u64 0)]) rfl hL1 (fun b2 h2 hb2 hf2 hL2 => ?_)
 refine (H b1 b2 h2 hb1 (Nat.le_trans (Fr.size (fo hf1)) hb2) (Fr.no' (fo hf1) hf2) hL2).mono ?_
 rintro _ h3 ⟨y1, y2, y3, s15, s15b, s15c, rfl, hL3, H⟩
 refine pop_ext (v := (Value.agg #[s15.v])) rfl ?_
 refine pop_ext (v := (VI s15b)) rfl ?_
 refine pop_ext (v := s15c.v) rfl ?_
 refine eop_alloc 26 zer26 rfl hL3 (fun b3 h4 hb3 hf3 hL4 => ?_)
 refine ul siz26 hL4 0 0 [s15.v] [(b3, [s15.v]), (b2, [y1.v, (VI y2), (Value.int .u64 y3)]), (b1, [nilSl.v])] (fun h5 hf4 hL5 => ?_)
 refine ra agg26 hL5 0 0 [s15.v] ?_
 refine (H b3 h5 hb3 (Fr.new (fo hf3) hb3 hf4) hL5).mono ?_
 rintro _ h6 ⟨y4, y5, y6, s23, rfl, hL6, H⟩
 refine ⟨?_, ?_⟩
 ·exact still_locA agg26 hL6 0 rfl 0 (vs := [s15.v]) rfl rfl
 refine H.mono ?_
 rintro _ h7 ⟨y7, y8, y9, s25, rfl, hL7, H⟩
 refine ⟨?_, ?_⟩
 ·exact still_locA agg26 hL7 0 rfl 0 (vs := [s15.v]) rfl rfl
 refine pop_quo .i64 s25 8 (by decide) ?_
 refine pop_sub .i64 s23 (w64 (Int.tdiv s25 8)) ?_
 refine ul siz26 hL7 2 0 [s15.v] [(b3, [s15.v]), (b2, [y7.v, (VI y8), (Value.int .u64 y9)]), (b1, [s15.v])] (fun h8 hf5 hL8 => ?_)
 refine ra agg26 hL8 2 0 [s15.v] ?_
 exact H  h8  (fq hf5) hL8
def u48 (P : Program) (g0 : Sl) (e1 : Int) (a2 : Sl) (k3 : Int) (h : Heap) (K : KQ) : Prop :=
 ∀ (b1 : Nat) (b2 : Nat) (h2 : Heap), h.size ≤ b1 -> h.size ≤ b2 -> Fr (In []) h h2 -> Vars h2 [(b2, [nilSl.v, (VI 0)]), (b1, [g0.v])] ->
 callM P 102 #[(.agg #[g0.v]), (VI e1), a2.v] h2 fun r1 h3 => ∃ s14 : Bool, r1 = (VB s14) /\ Vars h3 [(b2, [nilSl.v, (VI 0)]), (b1, [g0.v])] /\
 ((!s14) = true ->
 ∀ (h13 : Heap), Fr (In [b2]) h3 h13 -> Vars h13 [(b2, [nilSl.v, (VI 0)]), (b1, [g0.v])] ->
 K (.tuple #[(.agg #[nilSl.v, (VI 0)]), (VB false)]) h13) /\
 ((!s14) = false ->
 callM P 103 #[(.agg #[g0.v]), (VI e1), a2.v] h3 fun r2 h4 => ∃ s20 : Bool, r2 = (VB s20) /\ Vars h4 [(b2, [nilSl.v, (VI 0)]), (b1, [g0.v])] /\
 ((!s20) = true ->
 ∀ (h12 : Heap), Fr (In [b2]) h4 h12 -> Vars h12 [(b2, [nilSl.v, (VI 0)]), (b1, [g0.v])] ->
 K (.tuple #[(.agg #[nilSl.v, (VI 0)]), (VB false)]) h12) /\
 ((!s20) = false ->
 InB g0 e1 /\
 ∃ s29 : Sl, hcell h4 (Sl.at g0 e1 1) = some s29.v /\
 callM P 104 #[(VI k3), (VI 0), (VI (w64 ((s29.n : Int) - 1)))] h4 fun r3 h5 => ∃ s32 : Bool, r3 = (VB s32) /\ Vars h5 [(b2, [nilSl.v, (VI 0)]), (b1, [g0.v])] /\
 ((!s32) = true ->
 ∀ (h6 : Heap), Fr (In [b2]) h5 h6 -> Vars h6 [(b2, [nilSl.v, (VI 0)]), (b1, [g0.v])] ->
 K (.tuple #[(.agg #[nilSl.v, (VI 0)]), (VB false)]) h6) /\
 ((!s32) = false ->
 callM P 79 #[a2.v] h5 fun r4 h7 => ∃ s37 : Sl, r4 = s37.v /\ Vars h7 [(b2, [nilSl.v, (VI 0)]), (b1, [g0.v])] /\
 InB s37 e1 /\
 ∀ (b3 : Nat) (h9 : Heap), h7.size ≤ b3 -> Fr (In []) h7 h9 -> Vars h9 [(b3, [s37.v, (VI e1)]), (b2, [nilSl.v, (VI 0)]), (b1, [g0.v])] ->
 Writable h9 (Sl.at s37 e1 1) /\ Vars (hset h9 (Sl.at s37 e1 1) (VI k3)) [(b3, [s37.v, (VI e1)]), (b2, [nilSl.v, (VI 0)]), (b1, [g0.v])] /\
 ∀ h10 : Heap, h10 = hset h9 (Sl.at s37 e1 1) (VI k3) -> Vars h10 [(b3, [s37.v, (VI e1)]), (b2, [nilSl.v, (VI 0)]), (b1, [g0.v])] ->
 ∀ (h11 : Heap), Fr (In [b2]) h10 h11 -> Vars h11 [(b3, [s37.v, (VI e1)]), (b2, [s37.v, (VI e1)]), (b1, [g0.v])] ->
 K (.tuple #[(.agg #[s37.v, (VI e1)]), (VB true)]) h11)))
theorem v48 (g0 : Sl) (e1 : Int) (a2 : Sl) (k3 : Int) (h : Heap) (K : KQ) (H : u48 Tryz.prog g0 e1 a2 k3 h K) : callM Tryz.prog 48 #[(Value.agg #[g0.v]), (VI e1), a2.v, (VI k3)] h K := by
 refine c48 (Value.agg #[g0.v]) (VI e1) a2.v (VI k3) h K ?_
 unfold u48 at H
 unfold t48
 have hL : Vars h [] := .nil
 refine eop_box 26 (Value.agg #[g0.v]) rfl hL (fun b1 h1 hb1 hf1 hL1 => ?_)
 refine eop_alloc 48 zer48 rfl hL1 (fun b2 h2 hb2 hf2 hL2 => ?_)
 refine ra agg26 hL2 1 0 [g0.v] ?_
 refine (H b1 b2 h2 hb1 (Nat.le_trans (Fr.size (fo hf1)) hb2) (Fr.no' (fo hf1) hf2) hL2).mono ?_
 rintro _ h3 ⟨s14, rfl, hL3, H⟩
 refine pop_not s14 ?_
 refine guardM_sf (fun hb3 => ?_) (fun hb3 => ?_)
 rotate_left
 ·have H := H.1 hb3
  refine gm hb3 ?_
  refine gm hb3 ?_
  refine gm hb3 ?_
  refine gm hb3 ?_
  refine pop_pickt' hb3 ?_
  refine gn ?_
  refine gn ?_
  refine gn ?_
  refine gn ?_
  refine gn ?_
  refine gn ?_
  refine gn ?_
  refine gn ?_
  refine gn ?_
  refine gn ?_
  refine pop_pickt _ _ ?_
  refine condM_t ?_
  refine pop.mk' (v := (Value.agg #[nilSl.v, (VI 0)])) (fun w => by kernel_rfl) ?_
  refine ul siz48 hL3 0 0 [nilSl.v, (VI 0)] [(b2, [nilSl.v, (VI 0)]), (b1, [g0.v])] (fun h13 hf8 hL13 => ?_)
  refine ra agg48 hL13 0 0 [nilSl.v, (VI 0)] ?_
  exact H  h13  (fq hf8) hL13
 have H := H.2 hb3
 refine ra agg26 hL3 1 0 [g0.v] ?_
 refine gy hb3 ?_
 refine gy hb3 ?_
 refine gy hb3 ?_
 refine H.mono ?_
 rintro _ h4 ⟨s20, rfl, hL4, H⟩
 refine gy hb3 ?_
 refine pop_not s20 ?_
 refine pop_pickf' hb3 ?_
 refine guardM_sf (fun hb4 => ?_) (fun hb4 => ?_)
 rotate_left
 ·have H := H.1 hb4
  refine gm hb4 ?_
  refine gm hb4 ?_
  refine gm hb4 ?_
  refine gm hb4 ?_
  refine gm hb4 ?_
  refine gm hb4 ?_
  refine gm hb4 ?_
  refine gm hb4 ?_
  refine gm hb4 ?_
  refine pop_pickt' hb4 ?_
  refine condM_t ?_
  refine pop.mk' (v := (Value.agg #[nilSl.v, (VI 0)])) (fun w => by kernel_rfl) ?_
  refine ul siz48 hL4 0 0 [nilSl.v, (VI 0)] [(b2, [nilSl.v, (VI 0)]), (b1, [g0.v])] (fun h12 hf7 hL12 => ?_)
  refine ra agg48 hL12 0 0 [nilSl.v, (VI 0)] ?_
  exact H  h12  (fq hf7) hL12
 have H := H.2 hb4
 refine gy hb4 ?_
 refine pop_field 0 fld26_0 b1 0 ?_
 refine gy hb4 ?_
 refine rl one24 hL4 1 0 g0.v ?_
 refine gy hb4 ?_
 refine gy hb4 ?_
 obtain ⟨hi1, H⟩ := H
 refine pop_index sli24 siz29 .i64 g0 e1 hi1 ?_
 refine gy hb4 ?_
 obtain ⟨s29, hc1, H⟩ := H
 refine rop_one one29 s29.v hc1 ?_
 refine gy hb4 ?_
 refine pop_len s29 _ _ sli29 ?_
 refine gy hb4 ?_
 refine pop_sub .i64 (s29.n : Int) 1 ?_
 refine gy hb4 ?_
 refine H.mono ?_
 rintro _ h5 ⟨s32, rfl, hL5, H⟩
 refine gy hb4 ?_
 refine pop_not s32 ?_
 refine pop_pickf' hb4 ?_
 refine condM_b (fun hb5 => ?_) (fun hb5 => ?_)
 ·have H := H.1 hb5
  refine pop.mk' (v := (Value.agg #[nilSl.v, (VI 0)])) (fun w => by kernel_rfl) ?_
  refine ul siz48 hL5 0 0 [nilSl.v, (VI 0)] [(b2, [nilSl.v, (VI 0)]), (b1, [g0.v])] (fun h6 hf3 hL6 => ?_)
  refine ra agg48 hL6 0 0 [nilSl.v, (VI 0)] ?_
  exact H  h6  (fq hf3) hL6
 have H := H.2 hb5
 refine H.mono ?_
 rintro _ h7 ⟨s37, rfl, hL7, H⟩
 refine pop.mk' (v := (Value.agg #[s37.v, (VI e1)])) (fun w => by kernel_rfl) ?_
 refine eop_alloc 48 zer48 rfl hL7 (fun b3 h8 hb6 hf4 hL8 => ?_)
 refine ul siz48 hL8 0 0 [s37.v, (VI e1)] [(b3, [s37.v, (VI e1)]), (b2, [nilSl.v, (VI 0)]), (b1, [g0.v])] (fun h9 hf5 hL9 => ?_)
 refine pop_field 0 fld48_0 b3 0 ?_
 refine rl one29 hL9 0 0 s37.v ?_
 obtain ⟨hi2, H⟩ := H
 refine pop_index sli29 siz3 .i64 s37 e1 hi2 ?_
 have H := H b3 h9 hb6 (Fr.new (fo hf4) hb6 hf5) hL9
 obtain ⟨hw_1, hL10, H⟩ := H
 refine uop_cell (v := (VI k3)) siz3 hw_1 rfl (fun h10 he_1 => ?_)
 rw [← he_1] at hL10
 have H := H h10 he_1 hL10
 refine ra agg48 hL10 0 0 [s37.v, (VI e1)] ?_
 refine ul siz48 hL10 1 0 [s37.v, (VI e1)] [(b3, [s37.v, (VI e1)]), (b2, [s37.v, (VI e1)]), (b1, [g0.v])] (fun h11 hf6 hL11 => ?_)
 refine ra agg48 hL11 1 0 [s37.v, (VI e1)] ?_
 exact H  h11  (fq hf6) hL11
def u49 (P : Program) (a0 : Sl) (z1 : Sl) (h : Heap) (K : KQ) : Prop :=
 ((!decide ((a0.n : Int) = (z1.n : Int))) = true ->
 K (VB false) h) /\
 ((!decide ((a0.n : Int) = (z1.n : Int))) = false ->
 ∃ J1 : Nat -> Int -> Heap -> Prop, (∃ n0 : Nat, J1 n0 0 h) /\
 ∀ (n1 : Nat) (s13 : Int) (h1 : Heap), J1 n1 s13 h1 -> Vars h1 [] ->
 ((decide (s13 < (a0.n : Int))) = true ->
 InB a0 s13 /\
 ∃ s19 : Sl, ∃ s19b : Int, CellsAt h1 (Sl.at a0 s13 2) [s19.v, (VI s19b)] /\
 InB z1 s13 /\
 ∃ s23 : Sl, ∃ s23b : Int, CellsAt h1 (Sl.at z1 s13 2) [s23.v, (VI s23b)] /\
 callM P 37 #[(.agg #[s19.v, (VI s19b)]), (.agg #[s23.v, (VI s23b)])] h1 fun r1 h2 => ∃ s24 : Bool, r1 = (VB s24) /\ Vars h2 [] /\
 ((!s24) = true ->
 K (VB false) h2) /\
 ((!s24) = false ->
 ∃ m : Nat, m < n1 /\ J1 m (w64 (s13 + 1)) h2)) /\
 ((decide (s13 < (a0.n : Int))) = false ->
 K (VB true) h1))
theorem v49 (a0 : Sl) (z1 : Sl) (h : Heap) (K : KQ) (H : u49 Tryz.prog a0 z1 h K) : callM Tryz.prog 49 #[a0.v, z1.v] h K := by
 refine c49 a0.v z1.v h K ?_
 unfold u49 at H
 unfold t49
 have hL : Vars h [] := .nil
 refine pop_len a0 _ _ sli62 ?_
 refine pop_len z1 _ _ sli62 ?_
 refine pop_ine .i64 _ _ (a0.n : Int) (z1.n : Int) ?_
 refine condM_b (fun hb1 => ?_) (fun hb1 => ?_)
 ·exact H.1 hb1
 have H := H.2 hb1
 refine pop_len a0 _ _ sli62 ?_
 obtain ⟨J1, ⟨n2, h0⟩, HB1⟩ := H
 refine loop_intro (J := fun (n : Nat) (vs : List Value) (h' : Heap) => ∃ s13 : Int, vs = [(VI s13)] /\ J1 n s13 h' /\ Vars h' []) n2 ⟨0, rfl, h0, hL⟩ ?_
 intro I1 mu1 hI1 junk1 tv1 h1 hi1
 obtain ⟨n1, ⟨s13, hv, hJ1, hL1⟩, hn1⟩ := hI1 _ _ hi1
 cases hv
 have H := HB1 n1 s13 h1 hJ1 hL1
 refine pop_lss .i64 s13 (a0.n : Int) ?_
 refine condM_b (fun hb2 => ?_) (fun hb2 => ?_)
 rotate_left
 ·exact H.2 hb2
 have H := H.1 hb2
 obtain ⟨hi2, H⟩ := H
 refine pop_index sli62 siz48 .i64 a0 s13 hi2 ?_
 obtain ⟨s19, s19b, hc2, H⟩ := H
 refine rop_agg agg48 [s19.v, (VI s19b)] rfl hc2 ?_
 obtain ⟨hi3, H⟩ := H
 refine pop_index sli62 siz48 .i64 z1 s13 hi3 ?_
 obtain ⟨s23, s23b, hc1, H⟩ := H
 refine rop_agg agg48 [s23.v, (VI s23b)] rfl hc1 ?_
 refine H.mono ?_
 rintro _ h2 ⟨s24, rfl, hL2, H⟩
 refine pop_not s24 ?_
 refine condM_b (fun hb3 => ?_) (fun hb3 => ?_)
 ·exact H.1 hb3
 have H := H.2 hb3
 refine pop_add .i64 s13 1 ?_
 obtain ⟨m_1, hm_1, H⟩ := H
 exact hn1 _ _ ⟨m_1, hm_1, (w64 (s13 + 1)), rfl, H, hL2⟩
def u50 (P : Program) (g0 : Sl) (w1 : Sl) (w1a : Int) (h : Heap) (K : KQ) : Prop :=
 ∀ (b1 : Nat) (b2 : Nat) (h2 : Heap), h.size ≤ b1 -> h.size ≤ b2 -> Fr (In []) h h2 -> Vars h2 [(b2, [w1.v, (VI w1a)]), (b1, [g0.v])] ->
 callM P 74 #[(.agg #[g0.v]), (.agg #[w1.v, (VI w1a)])] h2 fun r1 h3 => ∃ s7 : Bool, r1 = (VB s7) /\ Vars h3 [(b2, [w1.v, (VI w1a)]), (b1, [g0.v])] /\
 K (VB s7) h3
theorem v50 (g0 : Sl) (w1 : Sl) (w1a : Int) (h : Heap) (K : KQ) (H : u50 Tryz.prog g0 w1 w1a h K) : callM Tryz.prog 50 #[(Value.agg #[g0.v]), (Value.agg #[w1.v, (VI w1a)])] h K := by
 refine c50 (Value.agg #[g0.v]) (Value.agg #[w1.v, (VI w1a)]) h K ?_
 unfold u50 at H
 unfold t50
 have hL : Vars h [] := .nil
 refine eop_box 26 (Value.agg #[g0.v]) rfl hL (fun b1 h1 hb1 hf1 hL1 => ?_)
 refine eop_box 48 (Value.agg #[w1.v, (VI w1a)]) rfl hL1 (fun b2 h2 hb2 hf2 hL2 => ?_)
 refine ra agg26 hL2 1 0 [g0.v] ?_
 refine ra agg48 hL2 0 0 [w1.v, (VI w1a)] ?_
 refine (H b1 b2 h2 hb1 (Nat.le_trans (Fr.size (fo hf1)) hb2) (Fr.no' (fo hf1) hf2) hL2).mono ?_
 rintro _ h3 ⟨s7, rfl, hL3, H⟩
 exact H
def u52 (P : Program) (b1 : Nat) (c0 : Sl) (c0a : Int) (c0b : Int) (a1 : Int) (h : Heap) (K : KQ) : Prop :=
 ((decide (a1 ≤ 1)) = true ->
 K (VI 0) h) /\
 ((decide (a1 ≤ 1)) = false ->
 callM P 106 #[(VP b1 0)] h fun r1 h1 => ∃ y1 : Sl, ∃ y2 : Int, ∃ y3 : Int, ∃ s9 : Int, r1 = (VI s9) /\ Vars h1 [(b1, [y1.v, (VI y2), (Value.int .u64 y3)])] /\
 ∃ J1 : Int -> Sl -> Int -> Int -> Heap -> Prop, (((decide (200 < a1)) = true ->
 callM P 106 #[(VP b1 0)] h1 fun r2 h2 => ∃ y8 : Sl, ∃ y9 : Int, ∃ y10 : Int, ∃ s15 : Int, r2 = (VI s15) /\ Vars h2 [(b1, [y8.v, (VI y9), (Value.int .u64 y10)])] /\
 J1 (w64 ((w64 (s9 * 256)) + s15)) y8 y9 y10 h2) /\
 ((decide (200 < a1)) = false ->
 J1 s9 y1 y2 y3 h1)) /\
 ∀ (y4 : Int) (y5 : Sl) (y6 : Int) (y7 : Int) (h3 : Heap), J1 y4 y5 y6 y7 h3 -> Vars h3 [(b1, [y5.v, (VI y6), (Value.int .u64 y7)])] ->
 a1 ≠ 0 /\
 K (VI (Int.tmod y4 a1)) h3)
theorem v52 (b1 : Nat) (c0 : Sl) (c0a : Int) (c0b : Int) (a1 : Int) (h : Heap) (K : KQ) (hL : Vars h [(b1, [c0.v, (VI c0a), (Value.int .u64 c0b)])]) (H : u52 Tryz.prog b1 c0 c0a c0b a1 h K) : callM Tryz.prog 52 #[(VP b1 0), (VI a1)] h K := by
 refine c52 (VP b1 0) (VI a1) h K ?_
 unfold u52 at H
 unfold t52
 refine pop_leq .i64 a1 1 ?_
 refine condM_b (fun hb1 => ?_) (fun hb1 => ?_)
 ·exact H.1 hb1
 have H := H.2 hb1
 refine H.mono ?_
 rintro _ h1 ⟨y1, y2, y3, s9, rfl, hL1, H⟩
 obtain ⟨J1, H, HB1⟩ := H
 refine ⟨fun (vs : List Value) (h' : Heap) => ∃ y4 : Int, ∃ y5 : Sl, ∃ y6 : Int, ∃ y7 : Int, vs = [(VI y4)] /\ J1 y4 y5 y6 y7 h' /\ Vars h' [(b1, [y5.v, (VI y6), (Value.int .u64 y7)])], ?_, ?_⟩
 ·refine pop_gtr .i64 a1 200 ?_
  refine condM_b (fun hb2 => ?_) (fun hb2 => ?_)
  rotate_left
  ·have H := H.2 hb2
   exact ⟨s9, y1, y2, y3, rfl, H, hL1⟩
  have H := H.1 hb2
  refine pop_mul .i64 s9 256 ?_
  refine H.mono ?_
  rintro _ h2 ⟨y8, y9, y10, s15, rfl, hL2, H⟩
  refine pop_add .i64 (w64 (s9 * 256)) s15 ?_
  exact ⟨(w64 ((w64 (s9 * 256)) + s15)), y8, y9, y10, rfl, H, hL2⟩
 intro junk1 tv1 h3
 rintro ⟨y4, y5, y6, y7, hv, hJ1, hL3⟩
 cases hv
 have H := HB1 y4 y5 y6 y7 h3 hJ1 hL3
 obtain ⟨hz_1, H⟩ := H
 refine pop_rem .i64 y4 a1 hz_1 ?_
 exact H
def u53 (P : Program) (b1 : Nat) (c0 : Sl) (c0a : Int) (c0b : Int) (l1 : Sl) (h : Heap) (K : KQ) : Prop :=
 callM P 52 #[(VP b1 0), (VI (l1.n : Int))] h fun r1 h1 => ∃ y1 : Sl, ∃ y2 : Int, ∃ y3 : Int, ∃ s9 : Int, r1 = (VI s9) /\ Vars h1 [(b1, [y1.v, (VI y2), (Value.int .u64 y3)])] /\
 InB l1 s9 /\
 ∃ s11 : Int, hcell h1 (Sl.at l1 s9 1) = some (VI s11) /\
 K (VI s11) h1
theorem v53 (b1 : Nat) (c0 : Sl) (c0a : Int) (c0b : Int) (l1 : Sl) (h : Heap) (K : KQ) (hL : Vars h [(b1, [c0.v, (VI c0a), (Value.int .u64 c0b)])]) (H : u53 Tryz.prog b1 c0 c0a c0b l1 h K) : callM Tryz.prog 53 #[(VP b1 0), l1.v] h K := by
 refine c53 (VP b1 0) l1.v h K ?_
 unfold u53 at H
 unfold t53
 refine pop_len l1 _ _ sli29 ?_
 refine H.mono ?_
 rintro _ h1 ⟨y1, y2, y3, s9, rfl, hL1, H⟩
 obtain ⟨hi1, H⟩ := H
 refine pop_index sli29 siz3 .i64 l1 s9 hi1 ?_
 obtain ⟨s11, hc1, H⟩ := H
 refine rop_one one3 (VI s11) hc1 ?_
 exact H
def u56 (P : Program) (l0 : Sl) (q1 : Int) (z2 : Int) (h : Heap) (K : KQ) : Prop :=
 ∃ J1 : Nat -> Int -> Heap -> Prop, (∃ n0 : Nat, J1 n0 0 h) /\
 ∀ (n1 : Nat) (s11 : Int) (h1 : Heap), J1 n1 s11 h1 -> Vars h1 [] ->
 ((decide (s11 < (l0.n : Int))) = true ->
 InB l0 s11 /\
 ∃ s14 : Int, hcell h1 (Sl.at l0 s11 1) = some (VI s14) /\
 callM P 104 #[(VI s14), (VI q1), (VI z2)] h1 fun r1 h2 => ∃ s18 : Bool, r1 = (VB s18) /\ Vars h2 [] /\
 ((!s18) = true ->
 K (VB false) h2) /\
 ((!s18) = false ->
 ∃ m : Nat, m < n1 /\ J1 m (w64 (s11 + 1)) h2)) /\
 ((decide (s11 < (l0.n : Int))) = false ->
 K (VB true) h1)
theorem v56 (l0 : Sl) (q1 : Int) (z2 : Int) (h : Heap) (K : KQ) (H : u56 Tryz.prog l0 q1 z2 h K) : callM Tryz.prog 56 #[l0.v, (VI q1), (VI z2)] h K := by
 refine c56 l0.v (VI q1) (VI z2) h K ?_
 unfold u56 at H
 unfold t56
 have hL : Vars h [] := .nil
 refine pop_len l0 _ _ sli29 ?_
 obtain ⟨J1, ⟨n2, h0⟩, HB1⟩ := H
 refine loop_intro (J := fun (n : Nat) (vs : List Value) (h' : Heap) => ∃ s11 : Int, vs = [(VI s11)] /\ J1 n s11 h' /\ Vars h' []) n2 ⟨0, rfl, h0, hL⟩ ?_
 intro I1 mu1 hI1 junk1 tv1 h1 hi1
 obtain ⟨n1, ⟨s11, hv, hJ1, hL1⟩, hn1⟩ := hI1 _ _ hi1
 cases hv
 have H := HB1 n1 s11 h1 hJ1 hL1
 refine pop_lss .i64 s11 (l0.n : Int) ?_
 refine condM_b (fun hb1 => ?_) (fun hb1 => ?_)
 rotate_left
 ·exact H.2 hb1
 have H := H.1 hb1
 obtain ⟨hi2, H⟩ := H
 refine pop_index sli29 siz3 .i64 l0 s11 hi2 ?_
 obtain ⟨s14, hc1, H⟩ := H
 refine rop_one one3 (VI s14) hc1 ?_
 refine H.mono ?_
 rintro _ h2 ⟨s18, rfl, hL2, H⟩
 refine pop_not s18 ?_
 refine condM_b (fun hb2 => ?_) (fun hb2 => ?_)
 ·exact H.1 hb2
 have H := H.2 hb2
 refine pop_add .i64 s11 1 ?_
 obtain ⟨m_1, hm_1, H⟩ := H
 exact hn1 _ _ ⟨m_1, hm_1, (w64 (s11 + 1)), rfl, H, hL2⟩
def u62 (P : Program) (g0 : Sl) (e1 : Int) (a2 : Sl) (h : Heap) (K : KQ) : Prop :=
 ∀ (b1 : Nat) (h1 : Heap), h.size ≤ b1 -> Fr (In []) h h1 -> Vars h1 [(b1, [g0.v])] ->
 eop P (buildSlice 29 1 #[(0, (VI e1))]) h1 fun r1 h2 => ∃ s9 : Sl, r1 = s9.v /\ Vars h2 [(b1, [g0.v])] /\
 callM P 94 #[(.agg #[g0.v]), s9.v] h2 fun r2 h3 => ∃ s10 : Bool, r2 = (VB s10) /\ Vars h3 [(b1, [g0.v])] /\
 (s10 = true ->
 callM P 113 #[(.agg #[g0.v]), a2.v] h3 fun r3 h4 => ∃ s14 : Bool, r3 = (VB s14) /\ Vars h4 [(b1, [g0.v])] /\
 (s14 = true ->
 InB a2 e1 /\
 ∃ s20 : Int, hcell h4 (Sl.at a2 e1 1) = some (VI s20) /\
 K (VB (decide (s20 = 0))) h4) /\
 (s14 = false ->
 K (VB false) h4)) /\
 (s10 = false ->
 K (VB false) h3)
theorem v62 (g0 : Sl) (e1 : Int) (a2 : Sl) (h : Heap) (K : KQ) (H : u62 Tryz.prog g0 e1 a2 h K) : callM Tryz.prog 62 #[(Value.agg #[g0.v]), (VI e1), a2.v] h K := by
 refine c62 (Value.agg #[g0.v]) (VI e1) a2.v h K ?_
 unfold u62 at H
 unfold t62
 have hL : Vars h [] := .nil
 refine eop_box 26 (Value.agg #[g0.v]) rfl hL (fun b1 h1 hb1 hf1 hL1 => ?_)
 refine ra agg26 hL1 0 0 [g0.v] ?_
 refine (H b1 h1 hb1 (fo hf1) hL1).mono ?_
 rintro _ h2 ⟨s9, rfl, hL2, H⟩
 refine H.mono ?_
 rintro _ h3 ⟨s10, rfl, hL3, H⟩
 refine guardM_st (fun hb2 => ?_) (fun hb2 => ?_)
 rotate_left
 ·have H := H.2 hb2
  refine gm hb2 ?_
  refine gm hb2 ?_
  refine pop_pickf' hb2 ?_
  refine gn ?_
  refine gn ?_
  refine gn ?_
  refine gn ?_
  refine gn ?_
  refine pop_pickf _ _ ?_
  exact H
 have H := H.1 hb2
 refine ra agg26 hL3 0 0 [g0.v] ?_
 refine gy hb2 ?_
 refine gy hb2 ?_
 refine H.mono ?_
 rintro _ h4 ⟨s14, rfl, hL4, H⟩
 refine pop_pickt' hb2 ?_
 refine guardM_st (fun hb3 => ?_) (fun hb3 => ?_)
 rotate_left
 ·have H := H.2 hb3
  refine gm hb3 ?_
  refine gm hb3 ?_
  refine gm hb3 ?_
  refine gm hb3 ?_
  refine pop_pickf' hb3 ?_
  exact H
 have H := H.1 hb3
 refine gy hb3 ?_
 refine gy hb3 ?_
 obtain ⟨hi1, H⟩ := H
 refine pop_index sli29 siz3 .i64 a2 e1 hi1 ?_
 refine gy hb3 ?_
 obtain ⟨s20, hc1, H⟩ := H
 refine rop_one one3 (VI s20) hc1 ?_
 refine gy hb3 ?_
 refine pop_ieq .i64 _ _ s20 0 ?_
 refine pop_pickt' hb3 ?_
 exact H
def u63 (P : Program) (g0 : Sl) (e1 : Int) (a2 : Sl) (h : Heap) (K : KQ) : Prop :=
 ∀ (b1 : Nat) (h1 : Heap), h.size ≤ b1 -> Fr (In []) h h1 -> Vars h1 [(b1, [g0.v])] ->
 callM P 114 #[(.agg #[g0.v]), (VI e1), a2.v] h1 fun r1 h2 => ∃ s13 : Sl, ∃ s13b : Bool, r1 = (.tuple #[s13.v, (VB s13b)]) /\ Vars h2 [(b1, [g0.v])] /\
 K (VB s13b) h2
theorem v63 (g0 : Sl) (e1 : Int) (a2 : Sl) (h : Heap) (K : KQ) (H : u63 Tryz.prog g0 e1 a2 h K) : callM Tryz.prog 63 #[(Value.agg #[g0.v]), (VI e1), a2.v] h K := by
 refine c63 (Value.agg #[g0.v]) (VI e1) a2.v h K ?_
 unfold u63 at H
 unfold t63
 have hL : Vars h [] := .nil
 refine eop_box 26 (Value.agg #[g0.v]) rfl hL (fun b1 h1 hb1 hf1 hL1 => ?_)
 refine ra agg26 hL1 0 0 [g0.v] ?_
 refine (H b1 h1 hb1 (fo hf1) hL1).mono ?_
 rintro _ h2 ⟨s13, s13b, rfl, hL2, H⟩
 refine pop_ext (v := s13.v) rfl ?_
 refine pop_ext (v := (VB s13b)) rfl ?_
 exact H
def u66 (P : Program) (b1 : Nat) (c0 : Sl) (c0a : Int) (c0b : Int) (a1 : Int) (h : Heap) (K : KQ) : Prop :=
 ∃ J1 : Nat -> Sl -> Int -> Heap -> Prop, (∃ n0 : Nat, J1 n0 nilSl 0 h) /\
 ∀ (n1 : Nat) (o5 : Sl) (p6 : Int) (h1 : Heap), J1 n1 o5 p6 h1 -> Vars h1 [(b1, [c0.v, (VI c0a), (Value.int .u64 c0b)])] ->
 ((decide (p6 < a1)) = true ->
 eop P (buildSlice 29 1 #[(0, (VI p6))]) h1 fun r1 h2 => ∃ s17 : Sl, r1 = s17.v /\ Vars h2 [(b1, [c0.v, (VI c0a), (Value.int .u64 c0b)])] /\
 eop P (appS 29 29 29 o5.v s17.v) h2 fun r2 h3 => ∃ s18 : Sl, r2 = s18.v /\ Vars h3 [(b1, [c0.v, (VI c0a), (Value.int .u64 c0b)])] /\
 ∃ m : Nat, m < n1 /\ J1 m s18 (w64 (p6 + 1)) h3) /\
 ((decide (p6 < a1)) = false ->
 ∃ J2 : Nat -> Int -> Sl -> Int -> Int -> Heap -> Prop, (∃ n0 : Nat, J2 n0 0 c0 c0a c0b h1) /\
 ∀ (n2 : Nat) (s21 : Int) (y1 : Sl) (y2 : Int) (y3 : Int) (h4 : Heap), J2 n2 s21 y1 y2 y3 h4 -> Vars h4 [(b1, [y1.v, (VI y2), (Value.int .u64 y3)])] ->
 ((decide (s21 < (o5.n : Int))) = true ->
 callM P 52 #[(VP b1 0), (VI a1)] h4 fun r3 h5 => ∃ y4 : Sl, ∃ y5 : Int, ∃ y6 : Int, ∃ s26 : Int, r3 = (VI s26) /\ Vars h5 [(b1, [y4.v, (VI y5), (Value.int .u64 y6)])] /\
 InB o5 s21 /\
 ∃ s30 : Int, hcell h5 (Sl.at o5 s21 1) = some (VI s30) /\
 InB o5 s26 /\
 ∃ s36 : Int, hcell h5 (Sl.at o5 s26 1) = some (VI s36) /\
 InB o5 s21 /\
 Writable h5 (Sl.at o5 s21 1) /\ Vars (hset h5 (Sl.at o5 s21 1) (VI s36)) [(b1, [y4.v, (VI y5), (Value.int .u64 y6)])] /\
 ∀ h6 : Heap, h6 = hset h5 (Sl.at o5 s21 1) (VI s36) -> Vars h6 [(b1, [y4.v, (VI y5), (Value.int .u64 y6)])] ->
 InB o5 s26 /\
 Writable h6 (Sl.at o5 s26 1) /\ Vars (hset h6 (Sl.at o5 s26 1) (VI s30)) [(b1, [y4.v, (VI y5), (Value.int .u64 y6)])] /\
 ∀ h7 : Heap, h7 = hset h6 (Sl.at o5 s26 1) (VI s30) -> Vars h7 [(b1, [y4.v, (VI y5), (Value.int .u64 y6)])] ->
 ∃ m : Nat, m < n2 /\ J2 m (w64 (s21 + 1)) y4 y5 y6 h7) /\
 ((decide (s21 < (o5.n : Int))) = false ->
 K o5.v h4))
theorem v66 (b1 : Nat) (c0 : Sl) (c0a : Int) (c0b : Int) (a1 : Int) (h : Heap) (K : KQ) (hL : Vars h [(b1, [c0.v, (VI c0a), (Value.int .u64 c0b)])]) (H : u66 Tryz.prog b1 c0 c0a c0b a1 h K) : callM Tryz.prog 66 #[(VP b1 0), (VI a1)] h K := by
 refine c66 (VP b1 0) (VI a1) h K ?_
 unfold u66 at H
 unfold t66
 obtain ⟨J1, ⟨n4, h0a⟩, HB2⟩ := H
 refine loop_intro (J := fun (n : Nat) (vs : List Value) (h' : Heap) => ∃ o5 : Sl, ∃ p6 : Int, vs = [o5.v, (VI p6)] /\ J1 n o5 p6 h' /\ Vars h' [(b1, [c0.v, (VI c0a), (Value.int .u64 c0b)])]) n4 ⟨nilSl, 0, rfl, h0a, hL⟩ ?_
 intro I2 mu2 hI2 junk1 tv2 tv3 h1 hi1
 obtain ⟨n1, ⟨o5, p6, hv, hJ1, hL1⟩, hn1⟩ := hI2 _ _ hi1
 cases hv
 have H := HB2 n1 o5 p6 h1 hJ1 hL1
 refine pop_lss .i64 p6 a1 ?_
 refine condM_b (fun hb1 => ?_) (fun hb1 => ?_)
 ·have H := H.1 hb1
  refine H.mono ?_
  rintro _ h2 ⟨s17, rfl, hL2, H⟩
  refine H.mono ?_
  rintro _ h3 ⟨s18, rfl, hL3, H⟩
  refine pop_add .i64 p6 1 ?_
  obtain ⟨m_1, hm_1, H⟩ := H
  exact hn1 _ _ ⟨m_1, hm_1, s18, (w64 (p6 + 1)), rfl, H, hL3⟩
 have H := H.2 hb1
 refine pop_len o5 _ _ sli29 ?_
 obtain ⟨J2, ⟨n3, h0⟩, HB1⟩ := H
 refine loop_intro (J := fun (n : Nat) (vs : List Value) (h' : Heap) => ∃ s21 : Int, ∃ y1 : Sl, ∃ y2 : Int, ∃ y3 : Int, vs = [(VI s21)] /\ J2 n s21 y1 y2 y3 h' /\ Vars h' [(b1, [y1.v, (VI y2), (Value.int .u64 y3)])]) n3 ⟨0, c0, c0a, c0b, rfl, h0, hL1⟩ ?_
 intro I1 mu1 hI1 junk2 tv1 h4 hi2
 obtain ⟨n2, ⟨s21, y1, y2, y3, hv, hJ2, hL4⟩, hn2⟩ := hI1 _ _ hi2
 cases hv
 have H := HB1 n2 s21 y1 y2 y3 h4 hJ2 hL4
 refine pop_lss .i64 s21 (o5.n : Int) ?_
 refine condM_b (fun hb2 => ?_) (fun hb2 => ?_)
 rotate_left
 ·exact H.2 hb2
 have H := H.1 hb2
 refine H.mono ?_
 rintro _ h5 ⟨y4, y5, y6, s26, rfl, hL5, H⟩
 obtain ⟨hi3, H⟩ := H
 refine pop_index sli29 siz3 .i64 o5 s21 hi3 ?_
 obtain ⟨s30, hc2, H⟩ := H
 refine rop_one one3 (VI s30) hc2 ?_
 obtain ⟨hi4, H⟩ := H
 refine pop_index sli29 siz3 .i64 o5 s26 hi4 ?_
 obtain ⟨s36, hc1, H⟩ := H
 refine rop_one one3 (VI s36) hc1 ?_
 obtain ⟨hi5, H⟩ := H
 refine pop_index sli29 siz3 .i64 o5 s21 hi5 ?_
 obtain ⟨hw_1, hL6, H⟩ := H
 refine uop_cell (v := (VI s36)) siz3 hw_1 rfl (fun h6 he_1 => ?_)
 rw [← he_1] at hL6
 have H := H h6 he_1 hL6
 obtain ⟨hi6, H⟩ := H
 refine pop_index sli29 siz3 .i64 o5 s26 hi6 ?_
 obtain ⟨hw_2, hL7, H⟩ := H
 refine uop_cell (v := (VI s30)) siz3 hw_2 rfl (fun h7 he_2 => ?_)
 rw [← he_2] at hL7
 have H := H h7 he_2 hL7
 refine pop_add .i64 s21 1 ?_
 obtain ⟨m_2, hm_2, H⟩ := H
 exact hn2 _ _ ⟨m_2, hm_2, (w64 (s21 + 1)), y4, y5, y6, rfl, H, hL7⟩
def u67 (P : Program) (b1 : Nat) (c0 : Sl) (c0a : Int) (c0b : Int) (a1 : Int) (h : Heap) (K : KQ) : Prop :=
 callM P 52 #[(VP b1 0), (VI a1)] h fun r1 h1 => ∃ y1 : Sl, ∃ y2 : Int, ∃ y3 : Int, ∃ s7 : Int, r1 = (VI s7) /\ Vars h1 [(b1, [y1.v, (VI y2), (Value.int .u64 y3)])] /\
 K (VB (decide (s7 = 0))) h1
theorem v67 (b1 : Nat) (c0 : Sl) (c0a : Int) (c0b : Int) (a1 : Int) (h : Heap) (K : KQ) (hL : Vars h [(b1, [c0.v, (VI c0a), (Value.int .u64 c0b)])]) (H : u67 Tryz.prog b1 c0 c0a c0b a1 h K) : callM Tryz.prog 67 #[(VP b1 0), (VI a1)] h K := by
 refine c67 (VP b1 0) (VI a1) h K ?_
 unfold u67 at H
 unfold t67
 refine H.mono ?_
 rintro _ h1 ⟨y1, y2, y3, s7, rfl, hL1, H⟩
 refine pop_ieq .i64 _ _ s7 0 ?_
 exact H
def u68 (P : Program) (g0 : Sl) (h : Heap) (K : KQ) : Prop :=
 ∀ (b1 : Nat) (b2 : Nat) (h3 : Heap), h.size ≤ b1 -> h.size ≤ b2 -> Fr (In []) h h3 -> Vars h3 [(b2, [(VI (g0.n : Int))]), (b1, [g0.v])] ->
 callM P 84 #[(VI (g0.n : Int)), (VI 1), (VI 8)] h3 fun r1 h4 => ∃ s10 : Bool, r1 = (VB s10) /\ Vars h4 [(b2, [(VI (g0.n : Int))]), (b1, [g0.v])] /\
 ((!s10) = true ->
 K (VB false) h4) /\
 ((!s10) = false ->
 ∃ J1 : Nat -> Int -> Int -> Heap -> Prop, (∃ n0 : Nat, J1 n0 0 (g0.n : Int) h4) /\
 ∀ (n1 : Nat) (s15 : Int) (y1 : Int) (h5 : Heap), J1 n1 s15 y1 h5 -> Vars h5 [(b2, [(VI y1)]), (b1, [g0.v])] ->
 ((decide (s15 < (g0.n : Int))) = true ->
 InB g0 s15 /\
 ∃ s18 : Sl, hcell h5 (Sl.at g0 s15 1) = some s18.v /\
 ((decide (5 < (s18.n : Int))) = true ->
 K (VB false) h5) /\
 ((decide (5 < (s18.n : Int))) = false ->
 callM P 107 #[s18.v, (Value.func (Fn.func 117) #[] #[(VP b2 0)])] h5 fun r2 h6 => ∃ y2 : Int, ∃ s25 : Bool, r2 = (VB s25) /\ Vars h6 [(b2, [(VI y2)]), (b1, [g0.v])] /\
 (s25 = true ->
 K (VB false) h6) /\
 (s25 = false ->
 ∃ m : Nat, m < n1 /\ J1 m (w64 (s15 + 1)) y2 h6))) /\
 ((decide (s15 < (g0.n : Int))) = false ->
 K (VB true) h5))
theorem v68 (g0 : Sl) (h : Heap) (K : KQ) (H : u68 Tryz.prog g0 h K) : callM Tryz.prog 68 #[(Value.agg #[g0.v])] h K := by
 refine c68 (Value.agg #[g0.v]) h K ?_
 unfold u68 at H
 unfold t68
 have hL : Vars h [] := .nil
 refine eop_box 26 (Value.agg #[g0.v]) rfl hL (fun b1 h1 hb1 hf1 hL1 => ?_)
 refine pop_field 0 fld26_0 b1 0 ?_
 refine rl one24 hL1 0 0 g0.v ?_
 refine pop_len g0 _ _ sli24 ?_
 refine eop_alloc 3 zer3 rfl hL1 (fun b2 h2 hb2 hf2 hL2 => ?_)
 refine ul siz3 hL2 0 0 [(VI (g0.n : Int))] [(b2, [(VI (g0.n : Int))]), (b1, [g0.v])] (fun h3 hf3 hL3 => ?_)
 refine rl one3 hL3 0 0 (VI (g0.n : Int)) ?_
 refine (H b1 b2 h3 hb1 (Nat.le_trans (Fr.size (fo hf1)) hb2) (Fr.new (Fr.no' (fo hf1) hf2) (Nat.le_trans (Fr.size (fo hf1)) hb2) hf3) hL3).mono ?_
 rintro _ h4 ⟨s10, rfl, hL4, H⟩
 refine pop_not s10 ?_
 refine condM_b (fun hb3 => ?_) (fun hb3 => ?_)
 ·exact H.1 hb3
 have H := H.2 hb3
 refine pop_field 0 fld26_0 b1 0 ?_
 refine rl one24 hL4 1 0 g0.v ?_
 refine pop_len g0 _ _ sli24 ?_
 obtain ⟨J1, ⟨n2, h0⟩, HB1⟩ := H
 refine loop_intro (J := fun (n : Nat) (vs : List Value) (h' : Heap) => ∃ s15 : Int, ∃ y1 : Int, vs = [(VI s15)] /\ J1 n s15 y1 h' /\ Vars h' [(b2, [(VI y1)]), (b1, [g0.v])]) n2 ⟨0, (g0.n : Int), rfl, h0, hL4⟩ ?_
 intro I1 mu1 hI1 junk1 tv1 h5 hi1
 obtain ⟨n1, ⟨s15, y1, hv, hJ1, hL5⟩, hn1⟩ := hI1 _ _ hi1
 cases hv
 have H := HB1 n1 s15 y1 h5 hJ1 hL5
 refine pop_lss .i64 s15 (g0.n : Int) ?_
 refine condM_b (fun hb4 => ?_) (fun hb4 => ?_)
 rotate_left
 ·exact H.2 hb4
 have H := H.1 hb4
 obtain ⟨hi2, H⟩ := H
 refine pop_index sli24 siz29 .i64 g0 s15 hi2 ?_
 obtain ⟨s18, hc1, H⟩ := H
 refine rop_one one29 s18.v hc1 ?_
 refine pop_len s18 _ _ sli29 ?_
 refine pop_gtr .i64 (s18.n : Int) 5 ?_
 refine guardM_sf (fun hb5 => ?_) (fun hb5 => ?_)
 rotate_left
 ·have H := H.1 hb5
  refine gm hb5 ?_
  refine gm hb5 ?_
  refine pop_pickt' hb5 ?_
  refine condM_t ?_
  exact H
 have H := H.2 hb5
 refine gy hb5 ?_
 refine pop_func _ _ _ ?_
 refine gy hb5 ?_
 refine H.mono ?_
 rintro _ h6 ⟨y2, s25, rfl, hL6, H⟩
 refine pop_pickf' hb5 ?_
 refine condM_b (fun hb6 => ?_) (fun hb6 => ?_)
 ·exact H.1 hb6
 have H := H.2 hb6
 refine pop_add .i64 s15 1 ?_
 obtain ⟨m_1, hm_1, H⟩ := H
 exact hn1 _ _ ⟨m_1, hm_1, (w64 (s15 + 1)), y2, rfl, H, hL6⟩
def u73 (P : Program) (z0 : Sl) (h : Heap) (K : KQ) : Prop :=
 ∀ (b1 : Nat) (b2 : Nat) (b3 : Nat) (h3 : Heap), h.size ≤ b1 -> h.size ≤ b2 -> h.size ≤ b3 -> Fr (In []) h h3 -> Vars h3 [(b3, [z0.v, (VI 0), (Value.int .u64 0)]), (b2, [nilSl.v, (VI 0)]), (b1, [nilSl.v])] ->
 callM P 122 #[(VP b3 0)] h3 fun r1 h4 => ∃ y1 : Sl, ∃ y2 : Int, ∃ y3 : Int, ∃ s9 : Sl, ∃ s9b : Sl, ∃ s9c : Int, r1 = (.tuple #[(.agg #[s9.v]), (.agg #[s9b.v, (VI s9c)])]) /\ Vars h4 [(b3, [y1.v, (VI y2), (Value.int .u64 y3)]), (b2, [nilSl.v, (VI 0)]), (b1, [nilSl.v])] /\
 ∀ (h6 : Heap), Fr (In [b2, b1]) h4 h6 -> Vars h6 [(b3, [y1.v, (VI y2), (Value.int .u64 y3)]), (b2, [s9b.v, (VI s9c)]), (b1, [s9.v])] ->
 K (.tuple #[(.agg #[s9.v]), (.agg #[s9b.v, (VI s9c)])]) h6
theorem v73 (z0 : Sl) (h : Heap) (K : KQ) (H : u73 Tryz.prog z0 h K) : callM Tryz.prog 73 #[z0.v] h K := by
 refine c73 z0.v h K ?_
 unfold u73 at H
 unfold t73
 have hL : Vars h [] := .nil
 refine eop_alloc 26 zer26 rfl hL (fun b1 h1 hb1 hf1 hL1 => ?_)
 refine eop_alloc 48 zer48 rfl hL1 (fun b2 h2 hb2 hf2 hL2 => ?_)
 refine pop.mk' (v := (Value.agg #[z0.v, (VI 0), (Value.int .u64 0)])) (fun w => by kernel_rfl) ?_
 refine eop_box 74 (Value.agg #[z0.v, (VI 0), (Value.int .u64 0)]) rfl hL2 (fun b3 h3 hb3 hf3 hL3 => ?_)
 refine (H b1 b2 b3 h3 hb1 (Nat.le_trans (Fr.size (fo hf1)) hb2) (Nat.le_trans (Fr.size (Fr.no' (fo hf1) hf2)) hb3) (Fr.no' (Fr.no' (fo hf1) hf2) hf3) hL3).mono ?_
 rintro _ h4 ⟨y1, y2, y3, s9, s9b, s9c, rfl, hL4, H⟩
 refine pop_ext (v := (Value.agg #[s9.v])) rfl ?_
 refine pop_ext (v := (Value.agg #[s9b.v, (VI s9c)])) rfl ?_
 refine ul siz26 hL4 2 0 [s9.v] [(b3, [y1.v, (VI y2), (Value.int .u64 y3)]), (b2, [nilSl.v, (VI 0)]), (b1, [s9.v])] (fun h5 hf4 hL5 => ?_)
 refine ul siz48 hL5 1 0 [s9b.v, (VI s9c)] [(b3, [y1.v, (VI y2), (Value.int .u64 y3)]), (b2, [s9b.v, (VI s9c)]), (b1, [s9.v])] (fun h6 hf5 hL6 => ?_)
 refine ra agg26 hL6 2 0 [s9.v] ?_
 refine ra agg48 hL6 1 0 [s9b.v, (VI s9c)] ?_
 exact H  h6  (Fr.old (fq hf4) hf5) hL6
def u74 (P : Program) (g0 : Sl) (w1 : Sl) (w1a : Int) (h : Heap) (K : KQ) : Prop :=
 ∀ (b1 : Nat) (b2 : Nat) (h2 : Heap), h.size ≤ b1 -> h.size ≤ b2 -> Fr (In []) h h2 -> Vars h2 [(b2, [w1.v, (VI w1a)]), (b1, [g0.v])] ->
 eop P (buildSlice 29 1 #[(0, (VI w1a))]) h2 fun r1 h3 => ∃ s10 : Sl, r1 = s10.v /\ Vars h3 [(b2, [w1.v, (VI w1a)]), (b1, [g0.v])] /\
 callM P 94 #[(.agg #[g0.v]), s10.v] h3 fun r2 h4 => ∃ s11 : Bool, r2 = (VB s11) /\ Vars h4 [(b2, [w1.v, (VI w1a)]), (b1, [g0.v])] /\
 ((!s11) = true ->
 K (VB false) h4) /\
 ((!s11) = false ->
 ((!decide ((w1.n : Int) = (g0.n : Int))) = true ->
 K (VB false) h4) /\
 ((!decide ((w1.n : Int) = (g0.n : Int))) = false ->
 ∃ J1 : Nat -> Int -> Heap -> Prop, (∃ n0 : Nat, J1 n0 0 h4) /\
 ∀ (n1 : Nat) (s25 : Int) (h5 : Heap), J1 n1 s25 h5 -> Vars h5 [(b2, [w1.v, (VI w1a)]), (b1, [g0.v])] ->
 ((decide (s25 < (w1.n : Int))) = true ->
 InB w1 s25 /\
 ∃ s29 : Int, hcell h5 (Sl.at w1 s25 1) = some (VI s29) /\
 InB g0 s25 /\
 ∃ s35 : Sl, hcell h5 (Sl.at g0 s25 1) = some s35.v /\
 pop P (Builtin.max_ #[3, 3] 3 #[(VI (w64 ((s35.n : Int) - 1))), (.int .i64 0)]) fun r3 => ∃ s38 : Int, r3 = (VI s38) /\ 
 callM P 84 #[(VI s29), (VI 0), (VI s38)] h5 fun r4 h6 => ∃ s39 : Bool, r4 = (VB s39) /\ Vars h6 [(b2, [w1.v, (VI w1a)]), (b1, [g0.v])] /\
 ((!s39) = true ->
 K (VB false) h6) /\
 ((!s39) = false ->
 ∃ m : Nat, m < n1 /\ J1 m (w64 (s25 + 1)) h6)) /\
 ((decide (s25 < (w1.n : Int))) = false ->
 K (VB true) h5)))
theorem v74 (g0 : Sl) (w1 : Sl) (w1a : Int) (h : Heap) (K : KQ) (H : u74 Tryz.prog g0 w1 w1a h K) : callM Tryz.prog 74 #[(Value.agg #[g0.v]), (Value.agg #[w1.v, (VI w1a)])] h K := by
 refine c74 (Value.agg #[g0.v]) (Value.agg #[w1.v, (VI w1a)]) h K ?_
 unfold u74 at H
 unfold t74
 have hL : Vars h [] := .nil
 refine eop_box 26 (Value.agg #[g0.v]) rfl hL (fun b1 h1 hb1 hf1 hL1 => ?_)
 refine eop_box 48 (Value.agg #[w1.v, (VI w1a)]) rfl hL1 (fun b2 h2 hb2 hf2 hL2 => ?_)
 refine ra agg26 hL2 1 0 [g0.v] ?_
 refine pop_field 1 fld48_1 b2 0 ?_
 refine rl one3 hL2 0 1 (VI w1a) ?_
 refine (H b1 b2 h2 hb1 (Nat.le_trans (Fr.size (fo hf1)) hb2) (Fr.no' (fo hf1) hf2) hL2).mono ?_
 rintro _ h3 ⟨s10, rfl, hL3, H⟩
 refine H.mono ?_
 rintro _ h4 ⟨s11, rfl, hL4, H⟩
 refine pop_not s11 ?_
 refine guardM_sf (fun hb3 => ?_) (fun hb3 => ?_)
 rotate_left
 ·have H := H.1 hb3
  refine gm hb3 ?_
  refine gm hb3 ?_
  refine gm hb3 ?_
  refine gm hb3 ?_
  refine gm hb3 ?_
  refine gm hb3 ?_
  refine pop_pickt' hb3 ?_
  refine condM_t ?_
  exact H
 have H := H.2 hb3
 refine pop_field 0 fld48_0 b2 0 ?_
 refine gy hb3 ?_
 refine rl one29 hL4 0 0 w1.v ?_
 refine gy hb3 ?_
 refine pop_len w1 _ _ sli29 ?_
 refine gy hb3 ?_
 refine pop_field 0 fld26_0 b1 0 ?_
 refine gy hb3 ?_
 refine rl one24 hL4 1 0 g0.v ?_
 refine gy hb3 ?_
 refine pop_len g0 _ _ sli24 ?_
 refine gy hb3 ?_
 refine pop_ine .i64 _ _ (w1.n : Int) (g0.n : Int) ?_
 refine pop_pickf' hb3 ?_
 refine condM_b (fun hb4 => ?_) (fun hb4 => ?_)
 ·exact H.1 hb4
 have H := H.2 hb4
 refine pop_field 0 fld48_0 b2 0 ?_
 refine rl one29 hL4 0 0 w1.v ?_
 refine pop_len w1 _ _ sli29 ?_
 obtain ⟨J1, ⟨n2, h0⟩, HB1⟩ := H
 refine loop_intro (J := fun (n : Nat) (vs : List Value) (h' : Heap) => ∃ s25 : Int, vs = [(VI s25)] /\ J1 n s25 h' /\ Vars h' [(b2, [w1.v, (VI w1a)]), (b1, [g0.v])]) n2 ⟨0, rfl, h0, hL4⟩ ?_
 intro I1 mu1 hI1 junk1 tv1 h5 hi1
 obtain ⟨n1, ⟨s25, hv, hJ1, hL5⟩, hn1⟩ := hI1 _ _ hi1
 cases hv
 have H := HB1 n1 s25 h5 hJ1 hL5
 refine pop_lss .i64 s25 (w1.n : Int) ?_
 refine condM_b (fun hb5 => ?_) (fun hb5 => ?_)
 rotate_left
 ·exact H.2 hb5
 have H := H.1 hb5
 obtain ⟨hi2, H⟩ := H
 refine pop_index sli29 siz3 .i64 w1 s25 hi2 ?_
 obtain ⟨s29, hc2, H⟩ := H
 refine rop_one one3 (VI s29) hc2 ?_
 refine pop_field 0 fld26_0 b1 0 ?_
 refine rl one24 hL5 1 0 g0.v ?_
 obtain ⟨hi3, H⟩ := H
 refine pop_index sli24 siz29 .i64 g0 s25 hi3 ?_
 obtain ⟨s35, hc1, H⟩ := H
 refine rop_one one29 s35.v hc1 ?_
 refine pop_len s35 _ _ sli29 ?_
 refine pop_sub .i64 (s35.n : Int) 1 ?_
 refine H.mono fun r3 H => ?_
 obtain ⟨s38, rfl, H⟩ := H
 refine H.mono ?_
 rintro _ h6 ⟨s39, rfl, hL6, H⟩
 refine pop_not s39 ?_
 refine condM_b (fun hb6 => ?_) (fun hb6 => ?_)
 ·exact H.1 hb6
 have H := H.2 hb6
 refine pop_add .i64 s25 1 ?_
 obtain ⟨m_1, hm_1, H⟩ := H
 exact hn1 _ _ ⟨m_1, hm_1, (w64 (s25 + 1)), rfl, H, hL6⟩
def u75 (P : Program) (g0 : Sl) (w1 : Sl) (w1a : Int) (h : Heap) (K : KQ) : Prop :=
 ∀ (b1 : Nat) (b2 : Nat) (h2 : Heap), h.size ≤ b1 -> h.size ≤ b2 -> Fr (In []) h h2 -> Vars h2 [(b2, [w1.v, (VI w1a)]), (b1, [g0.v])] ->
 ∃ J1 : Nat -> Int -> Heap -> Prop, (∃ n0 : Nat, J1 n0 0 h2) /\
 ∀ (n1 : Nat) (s11 : Int) (h3 : Heap), J1 n1 s11 h3 -> Vars h3 [(b2, [w1.v, (VI w1a)]), (b1, [g0.v])] ->
 ((decide (s11 < (g0.n : Int))) = true ->
 callM P 80 #[(.agg #[g0.v]), w1.v, (VI s11)] h3 fun r1 h4 => ∃ s19 : Sl, ∃ s19b : Bool, r1 = (.tuple #[s19.v, (VB s19b)]) /\ Vars h4 [(b2, [w1.v, (VI w1a)]), (b1, [g0.v])] /\
 ((!s19b) = true ->
 K (VB false) h4) /\
 ((!s19b) = false ->
 callM P 123 #[s19.v, (VI w1a)] h4 fun r2 h5 => ∃ s28 : Bool, r2 = (VB s28) /\ Vars h5 [(b2, [w1.v, (VI w1a)]), (b1, [g0.v])] /\
 ((!s28) = true ->
 K (VB false) h5) /\
 ((!s28) = false ->
 ∃ m : Nat, m < n1 /\ J1 m (w64 (s11 + 1)) h5))) /\
 ((decide (s11 < (g0.n : Int))) = false ->
 K (VB true) h3)
theorem v75 (g0 : Sl) (w1 : Sl) (w1a : Int) (h : Heap) (K : KQ) (H : u75 Tryz.prog g0 w1 w1a h K) : callM Tryz.prog 75 #[(Value.agg #[g0.v]), (Value.agg #[w1.v, (VI w1a)])] h K := by
 refine c75 (Value.agg #[g0.v]) (Value.agg #[w1.v, (VI w1a)]) h K ?_
 unfold u75 at H
 unfold t75
 have hL : Vars h [] := .nil
 refine eop_box 26 (Value.agg #[g0.v]) rfl hL (fun b1 h1 hb1 hf1 hL1 => ?_)
 refine eop_box 48 (Value.agg #[w1.v, (VI w1a)]) rfl hL1 (fun b2 h2 hb2 hf2 hL2 => ?_)
 refine pop_field 0 fld26_0 b1 0 ?_
 refine rl one24 hL2 1 0 g0.v ?_
 refine pop_len g0 _ _ sli24 ?_
 have H := H b1 b2 h2 hb1 (Nat.le_trans (Fr.size (fo hf1)) hb2) (Fr.no' (fo hf1) hf2) hL2
 obtain ⟨J1, ⟨n2, h0⟩, HB1⟩ := H
 refine loop_intro (J := fun (n : Nat) (vs : List Value) (h' : Heap) => ∃ s11 : Int, vs = [(VI s11)] /\ J1 n s11 h' /\ Vars h' [(b2, [w1.v, (VI w1a)]), (b1, [g0.v])]) n2 ⟨0, rfl, h0, hL2⟩ ?_
 intro I1 mu1 hI1 junk1 tv1 h3 hi1
 obtain ⟨n1, ⟨s11, hv, hJ1, hL3⟩, hn1⟩ := hI1 _ _ hi1
 cases hv
 have H := HB1 n1 s11 h3 hJ1 hL3
 refine pop_lss .i64 s11 (g0.n : Int) ?_
 refine condM_b (fun hb3 => ?_) (fun hb3 => ?_)
 rotate_left
 ·exact H.2 hb3
 have H := H.1 hb3
 refine ra agg26 hL3 1 0 [g0.v] ?_
 refine pop_field 0 fld48_0 b2 0 ?_
 refine rl one29 hL3 0 0 w1.v ?_
 refine H.mono ?_
 rintro _ h4 ⟨s19, s19b, rfl, hL4, H⟩
 refine pop_ext (v := s19.v) rfl ?_
 refine pop_ext (v := (VB s19b)) rfl ?_
 refine pop_not s19b ?_
 refine guardM_sf (fun hb4 => ?_) (fun hb4 => ?_)
 rotate_left
 ·have H := H.1 hb4
  refine gm hb4 ?_
  refine gm hb4 ?_
  refine gm hb4 ?_
  refine gm hb4 ?_
  refine pop_pickt' hb4 ?_
  refine condM_t ?_
  exact H
 have H := H.2 hb4
 refine gy hb4 ?_
 refine pop_field 1 fld48_1 b2 0 ?_
 refine gy hb4 ?_
 refine rl one3 hL4 0 1 (VI w1a) ?_
 refine gy hb4 ?_
 refine H.mono ?_
 rintro _ h5 ⟨s28, rfl, hL5, H⟩
 refine gy hb4 ?_
 refine pop_not s28 ?_
 refine pop_pickf' hb4 ?_
 refine condM_b (fun hb5 => ?_) (fun hb5 => ?_)
 ·exact H.1 hb5
 have H := H.2 hb5
 refine pop_add .i64 s11 1 ?_
 obtain ⟨m_1, hm_1, H⟩ := H
 exact hn1 _ _ ⟨m_1, hm_1, (w64 (s11 + 1)), rfl, H, hL5⟩
def u76 (P : Program) (g0 : Sl) (w1 : Sl) (w1a : Int) (h : Heap) (K : KQ) : Prop :=
 ∀ (b1 : Nat) (b2 : Nat) (h2 : Heap), h.size ≤ b1 -> h.size ≤ b2 -> Fr (In []) h h2 -> Vars h2 [(b2, [w1.v, (VI w1a)]), (b1, [g0.v])] ->
 callM P 98 #[(.agg #[g0.v]), (VI w1a)] h2 fun r1 h3 => ∃ s10 : Bool, r1 = (VB s10) /\ Vars h3 [(b2, [w1.v, (VI w1a)]), (b1, [g0.v])] /\
 ((!s10) = true ->
 K (VB false) h3) /\
 ((!s10) = false ->
 ((!decide ((w1.n : Int) = (g0.n : Int))) = true ->
 K (VB false) h3) /\
 ((!decide ((w1.n : Int) = (g0.n : Int))) = false ->
 ∃ J1 : Nat -> Int -> Heap -> Prop, (∃ n0 : Nat, J1 n0 0 h3) /\
 ∀ (n1 : Nat) (s24 : Int) (h4 : Heap), J1 n1 s24 h4 -> Vars h4 [(b2, [w1.v, (VI w1a)]), (b1, [g0.v])] ->
 ((decide (s24 < (g0.n : Int))) = true ->
 InB g0 s24 /\
 ∃ s28 : Sl, hcell h4 (Sl.at g0 s24 1) = some s28.v /\
 InB w1 s24 /\
 ∃ s33 : Int, hcell h4 (Sl.at w1 s24 1) = some (VI s33) /\
 callM P 124 #[(VI 0), (VI (w64 ((s28.n : Int) - 1)))] h4 fun r2 h5 => ∃ s37 : Int, r2 = (VI s37) /\ Vars h5 [(b2, [w1.v, (VI w1a)]), (b1, [g0.v])] /\
 hcell h5 (Sl.at w1 s24 1) = some (VI s33) /\
 callM P 104 #[(VI s33), (VI 0), (VI s37)] h5 fun r3 h6 => ∃ s38 : Bool, r3 = (VB s38) /\ Vars h6 [(b2, [w1.v, (VI w1a)]), (b1, [g0.v])] /\
 ((!s38) = true ->
 K (VB false) h6) /\
 ((!s38) = false ->
 ∃ m : Nat, m < n1 /\ J1 m (w64 (s24 + 1)) h6)) /\
 ((decide (s24 < (g0.n : Int))) = false ->
 K (VB true) h4)))
theorem v76 (g0 : Sl) (w1 : Sl) (w1a : Int) (h : Heap) (K : KQ) (H : u76 Tryz.prog g0 w1 w1a h K) : callM Tryz.prog 76 #[(Value.agg #[g0.v]), (Value.agg #[w1.v, (VI w1a)])] h K := by
 refine c76 (Value.agg #[g0.v]) (Value.agg #[w1.v, (VI w1a)]) h K ?_
 unfold u76 at H
 unfold t76
 have hL : Vars h [] := .nil
 refine eop_box 26 (Value.agg #[g0.v]) rfl hL (fun b1 h1 hb1 hf1 hL1 => ?_)
 refine eop_box 48 (Value.agg #[w1.v, (VI w1a)]) rfl hL1 (fun b2 h2 hb2 hf2 hL2 => ?_)
 refine ra agg26 hL2 1 0 [g0.v] ?_
 refine pop_field 1 fld48_1 b2 0 ?_
 refine rl one3 hL2 0 1 (VI w1a) ?_
 refine (H b1 b2 h2 hb1 (Nat.le_trans (Fr.size (fo hf1)) hb2) (Fr.no' (fo hf1) hf2) hL2).mono ?_
 rintro _ h3 ⟨s10, rfl, hL3, H⟩
 refine pop_not s10 ?_
 refine guardM_sf (fun hb3 => ?_) (fun hb3 => ?_)
 rotate_left
 ·have H := H.1 hb3
  refine gm hb3 ?_
  refine gm hb3 ?_
  refine gm hb3 ?_
  refine gm hb3 ?_
  refine gm hb3 ?_
  refine gm hb3 ?_
  refine pop_pickt' hb3 ?_
  refine condM_t ?_
  exact H
 have H := H.2 hb3
 refine pop_field 0 fld48_0 b2 0 ?_
 refine gy hb3 ?_
 refine rl one29 hL3 0 0 w1.v ?_
 refine gy hb3 ?_
 refine pop_len w1 _ _ sli29 ?_
 refine gy hb3 ?_
 refine pop_field 0 fld26_0 b1 0 ?_
 refine gy hb3 ?_
 refine rl one24 hL3 1 0 g0.v ?_
 refine gy hb3 ?_
 refine pop_len g0 _ _ sli24 ?_
 refine gy hb3 ?_
 refine pop_ine .i64 _ _ (w1.n : Int) (g0.n : Int) ?_
 refine pop_pickf' hb3 ?_
 refine condM_b (fun hb4 => ?_) (fun hb4 => ?_)
 ·exact H.1 hb4
 have H := H.2 hb4
 refine pop_field 0 fld26_0 b1 0 ?_
 refine rl one24 hL3 1 0 g0.v ?_
 refine pop_len g0 _ _ sli24 ?_
 obtain ⟨J1, ⟨n2, h0⟩, HB1⟩ := H
 refine loop_intro (J := fun (n : Nat) (vs : List Value) (h' : Heap) => ∃ s24 : Int, vs = [(VI s24)] /\ J1 n s24 h' /\ Vars h' [(b2, [w1.v, (VI w1a)]), (b1, [g0.v])]) n2 ⟨0, rfl, h0, hL3⟩ ?_
 intro I1 mu1 hI1 junk1 tv1 h4 hi1
 obtain ⟨n1, ⟨s24, hv, hJ1, hL4⟩, hn1⟩ := hI1 _ _ hi1
 cases hv
 have H := HB1 n1 s24 h4 hJ1 hL4
 refine pop_lss .i64 s24 (g0.n : Int) ?_
 refine condM_b (fun hb5 => ?_) (fun hb5 => ?_)
 rotate_left
 ·exact H.2 hb5
 have H := H.1 hb5
 obtain ⟨hi2, H⟩ := H
 refine pop_index sli24 siz29 .i64 g0 s24 hi2 ?_
 obtain ⟨s28, hc3, H⟩ := H
 refine rop_one one29 s28.v hc3 ?_
 refine pop_field 0 fld48_0 b2 0 ?_
 refine rl one29 hL4 0 0 w1.v ?_
 obtain ⟨hi3, H⟩ := H
 refine pop_index sli29 siz3 .i64 w1 s24 hi3 ?_
 obtain ⟨s33, hc2, H⟩ := H
 refine rop_one one3 (VI s33) hc2 ?_
 refine pop_len s28 _ _ sli29 ?_
 refine pop_sub .i64 (s28.n : Int) 1 ?_
 refine H.mono ?_
 rintro _ h5 ⟨s37, rfl, hL5, H⟩
 refine ⟨?_, ?_⟩
 ·exact still_one one3 H.1
 obtain ⟨hc1, H⟩ := H
 refine ⟨?_, ?_⟩
 ·exact still_loc one29 hL5 0 rfl 0 (v := w1.v) rfl
 refine H.mono ?_
 rintro _ h6 ⟨s38, rfl, hL6, H⟩
 refine ⟨?_, ?_⟩
 ·exact still_loc one29 hL6 0 rfl 0 (v := w1.v) rfl
 refine pop_not s38 ?_
 refine condM_b (fun hb6 => ?_) (fun hb6 => ?_)
 ·exact H.1 hb6
 have H := H.2 hb6
 refine pop_add .i64 s24 1 ?_
 obtain ⟨m_1, hm_1, H⟩ := H
 exact hn1 _ _ ⟨m_1, hm_1, (w64 (s24 + 1)), rfl, H, hL6⟩
def u77 (P : Program) (g0 : Sl) (w1 : Sl) (w1a : Int) (h : Heap) (K : KQ) : Prop :=
 ∀ (b1 : Nat) (b2 : Nat) (h2 : Heap), h.size ≤ b1 -> h.size ≤ b2 -> Fr (In []) h h2 -> Vars h2 [(b2, [w1.v, (VI w1a)]), (b1, [g0.v])] ->
 callM P 125 #[(.agg #[g0.v]), w1.v, (VI w1a)] h2 fun r1 h3 => ∃ s16 : Sl, ∃ s16b : Bool, r1 = (.tuple #[s16.v, (VB s16b)]) /\ Vars h3 [(b2, [w1.v, (VI w1a)]), (b1, [g0.v])] /\
 ((!s16b) = true ->
 K (VB false) h3) /\
 ((!s16b) = false ->
 callM P 112 #[s16.v, (VI w1a)] h3 fun r2 h4 => ∃ s25 : Bool, r2 = (VB s25) /\ Vars h4 [(b2, [w1.v, (VI w1a)]), (b1, [g0.v])] /\
 ((!s25) = true ->
 K (VB false) h4) /\
 ((!s25) = false ->
 ∃ J1 : Nat -> Int -> Heap -> Prop, (∃ n0 : Nat, J1 n0 0 h4) /\
 ∀ (n1 : Nat) (s31 : Int) (h5 : Heap), J1 n1 s31 h5 -> Vars h5 [(b2, [w1.v, (VI w1a)]), (b1, [g0.v])] ->
 ((decide (s31 < (g0.n : Int))) = true ->
 callM P 125 #[(.agg #[g0.v]), w1.v, (VI s31)] h5 fun r3 h6 => ∃ s39 : Sl, ∃ s39b : Bool, r3 = (.tuple #[s39.v, (VB s39b)]) /\ Vars h6 [(b2, [w1.v, (VI w1a)]), (b1, [g0.v])] /\
 ((!s39b) = true ->
 K (VB false) h6) /\
 ((!s39b) = false ->
 callM P 112 #[s39.v, (VI w1a)] h6 fun r4 h7 => ∃ s48 : Bool, r4 = (VB s48) /\ Vars h7 [(b2, [w1.v, (VI w1a)]), (b1, [g0.v])] /\
 ((!s48) = true ->
 K (VB false) h7) /\
 ((!s48) = false ->
 ∃ m : Nat, m < n1 /\ J1 m (w64 (s31 + 1)) h7))) /\
 ((decide (s31 < (g0.n : Int))) = false ->
 K (VB true) h5)))
theorem v77 (g0 : Sl) (w1 : Sl) (w1a : Int) (h : Heap) (K : KQ) (H : u77 Tryz.prog g0 w1 w1a h K) : callM Tryz.prog 77 #[(Value.agg #[g0.v]), (Value.agg #[w1.v, (VI w1a)])] h K := by
 refine c77 (Value.agg #[g0.v]) (Value.agg #[w1.v, (VI w1a)]) h K ?_
 unfold u77 at H
 unfold t77
 have hL : Vars h [] := .nil
 refine eop_box 26 (Value.agg #[g0.v]) rfl hL (fun b1 h1 hb1 hf1 hL1 => ?_)
 refine eop_box 48 (Value.agg #[w1.v, (VI w1a)]) rfl hL1 (fun b2 h2 hb2 hf2 hL2 => ?_)
 refine ra agg26 hL2 1 0 [g0.v] ?_
 refine pop_field 0 fld48_0 b2 0 ?_
 refine rl one29 hL2 0 0 w1.v ?_
 refine pop_field 1 fld48_1 b2 0 ?_
 refine rl one3 hL2 0 1 (VI w1a) ?_
 refine (H b1 b2 h2 hb1 (Nat.le_trans (Fr.size (fo hf1)) hb2) (Fr.no' (fo hf1) hf2) hL2).mono ?_
 rintro _ h3 ⟨s16, s16b, rfl, hL3, H⟩
 refine pop_ext (v := s16.v) rfl ?_
 refine pop_ext (v := (VB s16b)) rfl ?_
 refine pop_not s16b ?_
 refine guardM_sf (fun hb3 => ?_) (fun hb3 => ?_)
 rotate_left
 ·have H := H.1 hb3
  refine gm hb3 ?_
  refine gm hb3 ?_
  refine gm hb3 ?_
  refine gm hb3 ?_
  refine pop_pickt' hb3 ?_
  refine condM_t ?_
  exact H
 have H := H.2 hb3
 refine gy hb3 ?_
 refine pop_field 1 fld48_1 b2 0 ?_
 refine gy hb3 ?_
 refine rl one3 hL3 0 1 (VI w1a) ?_
 refine gy hb3 ?_
 refine H.mono ?_
 rintro _ h4 ⟨s25, rfl, hL4, H⟩
 refine gy hb3 ?_
 refine pop_not s25 ?_
 refine pop_pickf' hb3 ?_
 refine condM_b (fun hb4 => ?_) (fun hb4 => ?_)
 ·exact H.1 hb4
 have H := H.2 hb4
 refine pop_field 0 fld26_0 b1 0 ?_
 refine rl one24 hL4 1 0 g0.v ?_
 refine pop_len g0 _ _ sli24 ?_
 obtain ⟨J1, ⟨n2, h0⟩, HB1⟩ := H
 refine loop_intro (J := fun (n : Nat) (vs : List Value) (h' : Heap) => ∃ s31 : Int, vs = [(VI s31)] /\ J1 n s31 h' /\ Vars h' [(b2, [w1.v, (VI w1a)]), (b1, [g0.v])]) n2 ⟨0, rfl, h0, hL4⟩ ?_
 intro I1 mu1 hI1 junk1 tv1 h5 hi1
 obtain ⟨n1, ⟨s31, hv, hJ1, hL5⟩, hn1⟩ := hI1 _ _ hi1
 cases hv
 have H := HB1 n1 s31 h5 hJ1 hL5
 refine pop_lss .i64 s31 (g0.n : Int) ?_
 refine condM_b (fun hb5 => ?_) (fun hb5 => ?_)
 rotate_left
 ·exact H.2 hb5
 have H := H.1 hb5
 refine ra agg26 hL5 1 0 [g0.v] ?_
 refine pop_field 0 fld48_0 b2 0 ?_
 refine rl one29 hL5 0 0 w1.v ?_
 refine H.mono ?_
 rintro _ h6 ⟨s39, s39b, rfl, hL6, H⟩
 refine pop_ext (v := s39.v) rfl ?_
 refine pop_ext (v := (VB s39b)) rfl ?_
 refine pop_not s39b ?_
 refine guardM_sf (fun hb6 => ?_) (fun hb6 => ?_)
 rotate_left
 ·have H := H.1 hb6
  refine gm hb6 ?_
  refine gm hb6 ?_
  refine gm hb6 ?_
  refine gm hb6 ?_
  refine pop_pickt' hb6 ?_
  refine condM_t ?_
  exact H
 have H := H.2 hb6
 refine gy hb6 ?_
 refine pop_field 1 fld48_1 b2 0 ?_
 refine gy hb6 ?_
 refine rl one3 hL6 0 1 (VI w1a) ?_
 refine gy hb6 ?_
 refine H.mono ?_
 rintro _ h7 ⟨s48, rfl, hL7, H⟩
 refine gy hb6 ?_
 refine pop_not s48 ?_
 refine pop_pickf' hb6 ?_
 refine condM_b (fun hb7 => ?_) (fun hb7 => ?_)
 ·exact H.1 hb7
 have H := H.2 hb7
 refine pop_add .i64 s31 1 ?_
 obtain ⟨m_1, hm_1, H⟩ := H
 exact hn1 _ _ ⟨m_1, hm_1, (w64 (s31 + 1)), rfl, H, hL7⟩
def u78 (P : Program) (v0 : Sl) (h : Heap) (K : KQ) : Prop :=
 pop P (binE .eql 29 (.tmp 3) (.const (Value.slice none 0 0)) v0.v (Value.slice none 0 0)) fun r1 => ∃ s4 : Bool, r1 = (VB s4) /\ 
 (s4 = true ->
 K nilSl.v h) /\
 (s4 = false ->
 eop P (buildSlice 29 0 #[]) h fun r2 h1 => ∃ s5 : Sl, r2 = s5.v /\ Vars h1 [] /\
 eop P (appS 29 29 29 s5.v v0.v) h1 fun r3 h2 => ∃ s7 : Sl, r3 = s7.v /\ Vars h2 [] /\
 K s7.v h2)
theorem v78 (v0 : Sl) (h : Heap) (K : KQ) (H : u78 Tryz.prog v0 h K) : callM Tryz.prog 78 #[v0.v] h K := by
 refine c78 v0.v h K ?_
 unfold u78 at H
 unfold t78
 have hL : Vars h [] := .nil
 refine H.mono fun r1 H => ?_
 obtain ⟨s4, rfl, H⟩ := H
 refine condM_b (fun hb1 => ?_) (fun hb1 => ?_)
 ·exact H.1 hb1
 have H := H.2 hb1
 refine H.mono ?_
 rintro _ h1 ⟨s5, rfl, hL1, H⟩
 refine H.mono ?_
 rintro _ h2 ⟨s7, rfl, hL2, H⟩
 exact H
def u79 (P : Program) (l0 : Sl) (h : Heap) (K : KQ) : Prop :=
 eop P (buildSlice 29 0 #[]) h fun r1 h1 => ∃ s3 : Sl, r1 = s3.v /\ Vars h1 [] /\
 eop P (appS 29 29 29 s3.v l0.v) h1 fun r2 h2 => ∃ s5 : Sl, r2 = s5.v /\ Vars h2 [] /\
 K s5.v h2
theorem v79 (l0 : Sl) (h : Heap) (K : KQ) (H : u79 Tryz.prog l0 h K) : callM Tryz.prog 79 #[l0.v] h K := by
 refine c79 l0.v h K ?_
 unfold u79 at H
 unfold t79
 have hL : Vars h [] := .nil
 refine H.mono ?_
 rintro _ h1 ⟨s3, rfl, hL1, H⟩
 refine H.mono ?_
 rintro _ h2 ⟨s5, rfl, hL2, H⟩
 exact H
def u80 (P : Program) (g0 : Sl) (d1 : Sl) (p2 : Int) (h : Heap) (K : KQ) : Prop :=
 ∀ (b1 : Nat) (h1 : Heap), h.size ≤ b1 -> Fr (In []) h h1 -> Vars h1 [(b1, [g0.v])] ->
 eop P (buildSlice 29 0 #[]) h1 fun r1 h2 => ∃ s9 : Sl, r1 = s9.v /\ Vars h2 [(b1, [g0.v])] /\
 ∃ J1 : Nat -> Int -> Sl -> Heap -> Prop, (∃ n0 : Nat, J1 n0 p2 s9 h2) /\
 ∀ (n1 : Nat) (p2a : Int) (m8 : Sl) (h3 : Heap), J1 n1 p2a m8 h3 -> Vars h3 [(b1, [g0.v])] ->
 callM P 123 #[m8.v, (VI p2a)] h3 fun r2 h4 => ∃ s12 : Bool, r2 = (VB s12) /\ Vars h4 [(b1, [g0.v])] /\
 ((!s12) = true ->
 eop P (buildSlice 29 1 #[(0, (VI p2a))]) h4 fun r3 h5 => ∃ s16 : Sl, r3 = s16.v /\ Vars h5 [(b1, [g0.v])] /\
 eop P (appS 29 29 29 m8.v s16.v) h5 fun r4 h6 => ∃ s17 : Sl, r4 = s17.v /\ Vars h6 [(b1, [g0.v])] /\
 callM P 126 #[(.agg #[g0.v]), d1.v, (VI p2a)] h6 fun r5 h7 => ∃ s21 : Int, r5 = (VI s21) /\ Vars h7 [(b1, [g0.v])] /\
 ((decide (s21 < 0)) = true ->
 K (.tuple #[nilSl.v, (VB false)]) h7) /\
 ((decide (s21 < 0)) = false ->
 ∃ m : Nat, m < n1 /\ J1 m s21 s17 h7)) /\
 ((!s12) = false ->
 callM P 127 #[m8.v, (VI p2a)] h4 fun r6 h8 => ∃ s27 : Int, r6 = (VI s27) /\ Vars h8 [(b1, [g0.v])] /\
 pop P (Instr.sliceAt 29 m8.v (some (VI s27)) none none) fun r7 => ∃ s28 : Sl, r7 = s28.v /\ 
 K (.tuple #[s28.v, (VB true)]) h8)
theorem v80 (g0 : Sl) (d1 : Sl) (p2 : Int) (h : Heap) (K : KQ) (H : u80 Tryz.prog g0 d1 p2 h K) : callM Tryz.prog 80 #[(Value.agg #[g0.v]), d1.v, (VI p2)] h K := by
 refine c80 (Value.agg #[g0.v]) d1.v (VI p2) h K ?_
 unfold u80 at H
 unfold t80
 have hL : Vars h [] := .nil
 refine eop_box 26 (Value.agg #[g0.v]) rfl hL (fun b1 h1 hb1 hf1 hL1 => ?_)
 refine (H b1 h1 hb1 (fo hf1) hL1).mono ?_
 rintro _ h2 ⟨s9, rfl, hL2, H⟩
 obtain ⟨J1, ⟨n2, h0⟩, HB1⟩ := H
 refine loop_intro (J := fun (n : Nat) (vs : List Value) (h' : Heap) => ∃ p2a : Int, ∃ m8 : Sl, vs = [(VI p2a), m8.v] /\ J1 n p2a m8 h' /\ Vars h' [(b1, [g0.v])]) n2 ⟨p2, s9, rfl, h0, hL2⟩ ?_
 intro I1 mu1 hI1 junk1 tv1 tv2 h3 hi1
 obtain ⟨n1, ⟨p2a, m8, hv, hJ1, hL3⟩, hn1⟩ := hI1 _ _ hi1
 cases hv
 have H := HB1 n1 p2a m8 h3 hJ1 hL3
 refine H.mono ?_
 rintro _ h4 ⟨s12, rfl, hL4, H⟩
 refine pop_not s12 ?_
 refine condM_b (fun hb2 => ?_) (fun hb2 => ?_)
 rotate_left
 ·have H := H.2 hb2
  refine H.mono ?_
  rintro _ h8 ⟨s27, rfl, hL8, H⟩
  refine H.mono fun r7 H => ?_
  obtain ⟨s28, rfl, H⟩ := H
  exact H
 have H := H.1 hb2
 refine H.mono ?_
 rintro _ h5 ⟨s16, rfl, hL5, H⟩
 refine H.mono ?_
 rintro _ h6 ⟨s17, rfl, hL6, H⟩
 refine ra agg26 hL6 0 0 [g0.v] ?_
 refine H.mono ?_
 rintro _ h7 ⟨s21, rfl, hL7, H⟩
 refine pop_lss .i64 s21 0 ?_
 refine condM_b (fun hb3 => ?_) (fun hb3 => ?_)
 ·exact H.1 hb3
 have H := H.2 hb3
 obtain ⟨m_1, hm_1, H⟩ := H
 exact hn1 _ _ ⟨m_1, hm_1, s21, s17, rfl, H, hL7⟩
def u81 (P : Program) (g0 : Sl) (w1 : Sl) (w1a : Int) (h : Heap) (K : KQ) : Prop :=
 ∀ (b1 : Nat) (b2 : Nat) (h2 : Heap), h.size ≤ b1 -> h.size ≤ b2 -> Fr (In []) h h2 -> Vars h2 [(b2, [w1.v, (VI w1a)]), (b1, [g0.v])] ->
 callM P 125 #[(.agg #[g0.v]), w1.v, (VI w1a)] h2 fun r1 h3 => ∃ s15 : Sl, ∃ s15b : Bool, r1 = (.tuple #[s15.v, (VB s15b)]) /\ Vars h3 [(b2, [w1.v, (VI w1a)]), (b1, [g0.v])] /\
 ((!s15b) = true ->
 K (.tuple #[nilSl.v, (VB false)]) h3) /\
 ((!s15b) = false ->
 ∃ J1 : Nat -> Int -> Heap -> Prop, (∃ n0 : Nat, J1 n0 w1a h3) /\
 ∀ (n1 : Nat) (p8 : Int) (h4 : Heap), J1 n1 p8 h4 -> Vars h4 [(b2, [w1.v, (VI w1a)]), (b1, [g0.v])] ->
 callM P 112 #[s15.v, (VI p8)] h4 fun r2 h5 => ∃ s24 : Bool, r2 = (VB s24) /\ Vars h5 [(b2, [w1.v, (VI w1a)]), (b1, [g0.v])] /\
 ((!s24) = true ->
 callM P 128 #[(.agg #[g0.v]), w1.v, (VI p8)] h5 fun r3 h6 => ∃ s30 : Int, r3 = (VI s30) /\ Vars h6 [(b2, [w1.v, (VI w1a)]), (b1, [g0.v])] /\
 ∃ m : Nat, m < n1 /\ J1 m s30 h6) /\
 ((!s24) = false ->
 callM P 129 #[(.agg #[g0.v]), w1.v, (VI p8)] h5 fun r4 h7 => ∃ s35 : Sl, r4 = s35.v /\ Vars h7 [(b2, [w1.v, (VI w1a)]), (b1, [g0.v])] /\
 K (.tuple #[s35.v, (VB true)]) h7))
theorem v81 (g0 : Sl) (w1 : Sl) (w1a : Int) (h : Heap) (K : KQ) (H : u81 Tryz.prog g0 w1 w1a h K) : callM Tryz.prog 81 #[(Value.agg #[g0.v]), (Value.agg #[w1.v, (VI w1a)])] h K := by
 refine c81 (Value.agg #[g0.v]) (Value.agg #[w1.v, (VI w1a)]) h K ?_
 unfold u81 at H
 unfold t81
 have hL : Vars h [] := .nil
 refine eop_box 26 (Value.agg #[g0.v]) rfl hL (fun b1 h1 hb1 hf1 hL1 => ?_)
 refine eop_box 48 (Value.agg #[w1.v, (VI w1a)]) rfl hL1 (fun b2 h2 hb2 hf2 hL2 => ?_)
 refine ra agg26 hL2 1 0 [g0.v] ?_
 refine pop_field 0 fld48_0 b2 0 ?_
 refine rl one29 hL2 0 0 w1.v ?_
 refine pop_field 1 fld48_1 b2 0 ?_
 refine rl one3 hL2 0 1 (VI w1a) ?_
 refine (H b1 b2 h2 hb1 (Nat.le_trans (Fr.size (fo hf1)) hb2) (Fr.no' (fo hf1) hf2) hL2).mono ?_
 rintro _ h3 ⟨s15, s15b, rfl, hL3, H⟩
 refine pop_ext (v := s15.v) rfl ?_
 refine pop_ext (v := (VB s15b)) rfl ?_
 refine pop_not s15b ?_
 refine condM_b (fun hb3 => ?_) (fun hb3 => ?_)
 ·exact H.1 hb3
 have H := H.2 hb3
 refine pop_field 1 fld48_1 b2 0 ?_
 refine rl one3 hL3 0 1 (VI w1a) ?_
 obtain ⟨J1, ⟨n2, h0⟩, HB1⟩ := H
 refine loop_intro (J := fun (n : Nat) (vs : List Value) (h' : Heap) => ∃ p8 : Int, vs = [(VI p8)] /\ J1 n p8 h' /\ Vars h' [(b2, [w1.v, (VI w1a)]), (b1, [g0.v])]) n2 ⟨w1a, rfl, h0, hL3⟩ ?_
 intro I1 mu1 hI1 junk1 tv1 h4 hi1
 obtain ⟨n1, ⟨p8, hv, hJ1, hL4⟩, hn1⟩ := hI1 _ _ hi1
 cases hv
 have H := HB1 n1 p8 h4 hJ1 hL4
 refine H.mono ?_
 rintro _ h5 ⟨s24, rfl, hL5, H⟩
 refine pop_not s24 ?_
 refine condM_b (fun hb4 => ?_) (fun hb4 => ?_)
 rotate_left
 ·have H := H.2 hb4
  refine ra agg26 hL5 1 0 [g0.v] ?_
  refine pop_field 0 fld48_0 b2 0 ?_
  refine rl one29 hL5 0 0 w1.v ?_
  refine H.mono ?_
  rintro _ h7 ⟨s35, rfl, hL7, H⟩
  exact H
 have H := H.1 hb4
 refine ra agg26 hL5 1 0 [g0.v] ?_
 refine pop_field 0 fld48_0 b2 0 ?_
 refine rl one29 hL5 0 0 w1.v ?_
 refine H.mono ?_
 rintro _ h6 ⟨s30, rfl, hL6, H⟩
 obtain ⟨m_1, hm_1, H⟩ := H
 exact hn1 _ _ ⟨m_1, hm_1, s30, rfl, H, hL6⟩
def u82 (P : Program) (g0 : Sl) (w1 : Sl) (w1a : Int) (f2 : Int) (z3 : Value) (h : Heap) (K : KQ) : Prop :=
 ∀ (b1 : Nat) (b2 : Nat) (h2 : Heap), h.size ≤ b1 -> h.size ≤ b2 -> Fr (In []) h h2 -> Vars h2 [(b2, [w1.v, (VI w1a)]), (b1, [g0.v])] ->
 callM P 86 #[(.agg #[w1.v, (VI w1a)])] h2 fun r1 h3 => ∃ s13 : Sl, ∃ s13b : Int, r1 = (.agg #[s13.v, (VI s13b)]) /\ Vars h3 [(b2, [w1.v, (VI w1a)]), (b1, [g0.v])] /\
 ∀ (b3 : Nat) (h5 : Heap), h3.size ≤ b3 -> Fr (In []) h3 h5 -> Vars h5 [(b3, [s13.v, (VI s13b)]), (b2, [w1.v, (VI w1a)]), (b1, [g0.v])] ->
 ∃ J1 : Nat -> Int -> Sl -> Int -> Heap -> Prop, (∃ n0 : Nat, J1 n0 0 s13 s13b h5) /\
 ∀ (n1 : Nat) (n11 : Int) (y1 : Sl) (y2 : Int) (h6 : Heap), J1 n1 n11 y1 y2 h6 -> Vars h6 [(b3, [y1.v, (VI y2)]), (b2, [w1.v, (VI w1a)]), (b1, [g0.v])] ->
 ((decide (n11 ≤ 2000)) = true ->
 ((decide (f2 ≤ n11)) = true ->
 callV P z3 [(.agg #[y1.v, (VI y2)])] h6 fun r2 h7 => ∃ s24 : Bool, r2 = (VB s24) /\ Vars h7 [(b3, [y1.v, (VI y2)]), (b2, [w1.v, (VI w1a)]), (b1, [g0.v])] /\
 (s24 = true ->
 K (.tuple #[(VI n11), (VB true)]) h7) /\
 (s24 = false ->
 callM P 130 #[(.agg #[g0.v]), (VP b3 0)] h7 fun r3 h8 => ∃ y3 : Sl, ∃ y4 : Int, ∃ s28 : Bool, r3 = (VB s28) /\ Vars h8 [(b3, [y3.v, (VI y4)]), (b2, [w1.v, (VI w1a)]), (b1, [g0.v])] /\
 ((!s28) = true ->
 K (.tuple #[(VI 0), (VB false)]) h8) /\
 ((!s28) = false ->
 ∃ m : Nat, m < n1 /\ J1 m (w64 (n11 + 1)) y3 y4 h8))) /\
 ((decide (f2 ≤ n11)) = false ->
 callM P 130 #[(.agg #[g0.v]), (VP b3 0)] h6 fun r4 h9 => ∃ y5 : Sl, ∃ y6 : Int, ∃ s28b : Bool, r4 = (VB s28b) /\ Vars h9 [(b3, [y5.v, (VI y6)]), (b2, [w1.v, (VI w1a)]), (b1, [g0.v])] /\
 ((!s28b) = true ->
 K (.tuple #[(VI 0), (VB false)]) h9) /\
 ((!s28b) = false ->
 ∃ m : Nat, m < n1 /\ J1 m (w64 (n11 + 1)) y5 y6 h9))) /\
 ((decide (n11 ≤ 2000)) = false ->
 K (.tuple #[(VI 0), (VB false)]) h6)
theorem v82 (g0 : Sl) (w1 : Sl) (w1a : Int) (f2 : Int) (z3 : Value) (h : Heap) (K : KQ) (H : u82 Tryz.prog g0 w1 w1a f2 z3 h K) : callM Tryz.prog 82 #[(Value.agg #[g0.v]), (Value.agg #[w1.v, (VI w1a)]), (VI f2), z3] h K := by
 refine c82 (Value.agg #[g0.v]) (Value.agg #[w1.v, (VI w1a)]) (VI f2) z3 h K ?_
 unfold u82 at H
 unfold t82
 have hL : Vars h [] := .nil
 refine eop_box 26 (Value.agg #[g0.v]) rfl hL (fun b1 h1 hb1 hf1 hL1 => ?_)
 refine eop_box 48 (Value.agg #[w1.v, (VI w1a)]) rfl hL1 (fun b2 h2 hb2 hf2 hL2 => ?_)
 refine ra agg48 hL2 0 0 [w1.v, (VI w1a)] ?_
 refine (H b1 b2 h2 hb1 (Nat.le_trans (Fr.size (fo hf1)) hb2) (Fr.no' (fo hf1) hf2) hL2).mono ?_
 rintro _ h3 ⟨s13, s13b, rfl, hL3, H⟩
 refine eop_alloc 48 zer48 rfl hL3 (fun b3 h4 hb3 hf3 hL4 => ?_)
 refine ul siz48 hL4 0 0 [s13.v, (VI s13b)] [(b3, [s13.v, (VI s13b)]), (b2, [w1.v, (VI w1a)]), (b1, [g0.v])] (fun h5 hf4 hL5 => ?_)
 have H := H b3 h5 hb3 (Fr.new (fo hf3) hb3 hf4) hL5
 obtain ⟨J1, ⟨n2, h0⟩, HB1⟩ := H
 refine loop_intro (J := fun (n : Nat) (vs : List Value) (h' : Heap) => ∃ n11 : Int, ∃ y1 : Sl, ∃ y2 : Int, vs = [(VI n11)] /\ J1 n n11 y1 y2 h' /\ Vars h' [(b3, [y1.v, (VI y2)]), (b2, [w1.v, (VI w1a)]), (b1, [g0.v])]) n2 ⟨0, s13, s13b, rfl, h0, hL5⟩ ?_
 intro I1 mu1 hI1 junk1 tv1 h6 hi1
 obtain ⟨n1, ⟨n11, y1, y2, hv, hJ1, hL6⟩, hn1⟩ := hI1 _ _ hi1
 cases hv
 have H := HB1 n1 n11 y1 y2 h6 hJ1 hL6
 refine pop_leq .i64 n11 2000 ?_
 refine condM_b (fun hb4 => ?_) (fun hb4 => ?_)
 rotate_left
 ·exact H.2 hb4
 have H := H.1 hb4
 refine pop_geq .i64 n11 f2 ?_
 refine guardM_st (fun hb5 => ?_) (fun hb5 => ?_)
 rotate_left
 ·have H := H.2 hb5
  refine gm hb5 ?_
  refine gm hb5 ?_
  refine pop_pickf' hb5 ?_
  refine condM_f ?_
  refine ra agg26 hL6 2 0 [g0.v] ?_
  refine H.mono ?_
  rintro _ h9 ⟨y5, y6, s28b, rfl, hL9, H⟩
  refine pop_not s28b ?_
  refine condM_b (fun hb8 => ?_) (fun hb8 => ?_)
  ·exact H.1 hb8
  have H := H.2 hb8
  refine pop_add .i64 n11 1 ?_
  obtain ⟨m_2, hm_2, H⟩ := H
  exact hn1 _ _ ⟨m_2, hm_2, (w64 (n11 + 1)), y5, y6, rfl, H, hL9⟩
 have H := H.1 hb5
 refine gy hb5 ?_
 refine ra agg48 hL6 0 0 [y1.v, (VI y2)] ?_
 refine gy hb5 ?_
 refine H.mono ?_
 rintro _ h7 ⟨s24, rfl, hL7, H⟩
 refine pop_pickt' hb5 ?_
 refine condM_b (fun hb6 => ?_) (fun hb6 => ?_)
 ·exact H.1 hb6
 have H := H.2 hb6
 refine ra agg26 hL7 2 0 [g0.v] ?_
 refine H.mono ?_
 rintro _ h8 ⟨y3, y4, s28, rfl, hL8, H⟩
 refine pop_not s28 ?_
 refine condM_b (fun hb7 => ?_) (fun hb7 => ?_)
 ·exact H.1 hb7
 have H := H.2 hb7
 refine pop_add .i64 n11 1 ?_
 obtain ⟨m_1, hm_1, H⟩ := H
 exact hn1 _ _ ⟨m_1, hm_1, (w64 (n11 + 1)), y3, y4, rfl, H, hL8⟩
def u83 (P : Program) (g0 : Sl) (w1 : Sl) (w1a : Int) (h : Heap) (K : KQ) : Prop :=
 InB g0 w1a /\
 ∀ (b1 : Nat) (b2 : Nat) (b3 : Nat) (h3 : Heap), h.size ≤ b1 -> h.size ≤ b2 -> h.size ≤ b3 -> Fr (In []) h h3 -> Vars h3 [(b3, [nilSl.v, (VI 0)]), (b2, [w1.v, (VI w1a)]), (b1, [g0.v])] ->
 ∃ s14 : Sl, hcell h3 (Sl.at g0 w1a 1) = some s14.v /\
 ((decide ((s14.n : Int) = 0)) = true ->
 ∀ (h4 : Heap), Fr (In [b3]) h3 h4 -> Vars h4 [(b3, [w1.v, (VI w1a)]), (b2, [w1.v, (VI w1a)]), (b1, [g0.v])] ->
 K (.tuple #[(.agg #[w1.v, (VI w1a)]), (VB false)]) h4) /\
 ((decide ((s14.n : Int) = 0)) = false ->
 callM P 79 #[w1.v] h3 fun r1 h5 => ∃ s21 : Sl, r1 = s21.v /\ Vars h5 [(b3, [nilSl.v, (VI 0)]), (b2, [w1.v, (VI w1a)]), (b1, [g0.v])] /\
 InB w1 w1a /\
 ∀ (b4 : Nat) (h7 : Heap), h5.size ≤ b4 -> Fr (In []) h5 h7 -> Vars h7 [(b4, [s21.v, (VI 0)]), (b3, [nilSl.v, (VI 0)]), (b2, [w1.v, (VI w1a)]), (b1, [g0.v])] ->
 ∃ s28 : Int, hcell h7 (Sl.at w1 w1a 1) = some (VI s28) /\
 (s14.n : Int) ≠ 0 /\
 InB s21 w1a /\
 Writable h7 (Sl.at s21 w1a 1) /\ Vars (hset h7 (Sl.at s21 w1a 1) (VI (Int.tmod (w64 (s28 + 1)) (s14.n : Int)))) [(b4, [s21.v, (VI 0)]), (b3, [nilSl.v, (VI 0)]), (b2, [w1.v, (VI w1a)]), (b1, [g0.v])] /\
 ∀ h8 : Heap, h8 = hset h7 (Sl.at s21 w1a 1) (VI (Int.tmod (w64 (s28 + 1)) (s14.n : Int))) -> Vars h8 [(b4, [s21.v, (VI 0)]), (b3, [nilSl.v, (VI 0)]), (b2, [w1.v, (VI w1a)]), (b1, [g0.v])] ->
 InB s14 (Int.tmod (w64 (s28 + 1)) (s14.n : Int)) /\
 ∃ s42 : Int, hcell h8 (Sl.at s14 (Int.tmod (w64 (s28 + 1)) (s14.n : Int)) 1) = some (VI s42) /\
 ∀ (h10 : Heap), Fr (In [b3, b4]) h8 h10 -> Vars h10 [(b4, [s21.v, (VI s42)]), (b3, [s21.v, (VI s42)]), (b2, [w1.v, (VI w1a)]), (b1, [g0.v])] ->
 K (.tuple #[(.agg #[s21.v, (VI s42)]), (VB true)]) h10)
theorem v83 (g0 : Sl) (w1 : Sl) (w1a : Int) (h : Heap) (K : KQ) (H : u83 Tryz.prog g0 w1 w1a h K) : callM Tryz.prog 83 #[(Value.agg #[g0.v]), (Value.agg #[w1.v, (VI w1a)])] h K := by
 refine c83 (Value.agg #[g0.v]) (Value.agg #[w1.v, (VI w1a)]) h K ?_
 unfold u83 at H
 unfold t83
 have hL : Vars h [] := .nil
 refine eop_box 26 (Value.agg #[g0.v]) rfl hL (fun b1 h1 hb1 hf1 hL1 => ?_)
 refine eop_box 48 (Value.agg #[w1.v, (VI w1a)]) rfl hL1 (fun b2 h2 hb2 hf2 hL2 => ?_)
 refine eop_alloc 48 zer48 rfl hL2 (fun b3 h3 hb3 hf3 hL3 => ?_)
 refine pop_field 0 fld26_0 b1 0 ?_
 refine rl one24 hL3 2 0 g0.v ?_
 refine pop_field 1 fld48_1 b2 0 ?_
 refine rl one3 hL3 1 1 (VI w1a) ?_
 obtain ⟨hi1, H⟩ := H
 refine pop_index sli24 siz29 .i64 g0 w1a hi1 ?_
 have H := H b1 b2 b3 h3 hb1 (Nat.le_trans (Fr.size (fo hf1)) hb2) (Nat.le_trans (Fr.size (Fr.no' (fo hf1) hf2)) hb3) (Fr.no' (Fr.no' (fo hf1) hf2) hf3) hL3
 obtain ⟨s14, hc3, H⟩ := H
 refine rop_one one29 s14.v hc3 ?_
 refine pop_len s14 _ _ sli29 ?_
 refine pop_ieq .i64 _ _ (s14.n : Int) 0 ?_
 refine condM_b (fun hb4 => ?_) (fun hb4 => ?_)
 ·have H := H.1 hb4
  refine ra agg48 hL3 1 0 [w1.v, (VI w1a)] ?_
  refine ul siz48 hL3 0 0 [w1.v, (VI w1a)] [(b3, [w1.v, (VI w1a)]), (b2, [w1.v, (VI w1a)]), (b1, [g0.v])] (fun h4 hf4 hL4 => ?_)
  refine ra agg48 hL4 0 0 [w1.v, (VI w1a)] ?_
  exact H  h4  (fq hf4) hL4
 have H := H.2 hb4
 refine pop_field 0 fld48_0 b2 0 ?_
 refine rl one29 hL3 1 0 w1.v ?_
 refine H.mono ?_
 rintro _ h5 ⟨s21, rfl, hL5, H⟩
 refine pop.mk' (v := (Value.agg #[s21.v, (VI 0)])) (fun w => by kernel_rfl) ?_
 refine eop_alloc 48 zer48 rfl hL5 (fun b4 h6 hb5 hf5 hL6 => ?_)
 refine ul siz48 hL6 0 0 [s21.v, (VI 0)] [(b4, [s21.v, (VI 0)]), (b3, [nilSl.v, (VI 0)]), (b2, [w1.v, (VI w1a)]), (b1, [g0.v])] (fun h7 hf6 hL7 => ?_)
 refine pop_field 0 fld48_0 b2 0 ?_
 refine rl one29 hL7 2 0 w1.v ?_
 refine pop_field 1 fld48_1 b2 0 ?_
 refine rl one3 hL7 2 1 (VI w1a) ?_
 obtain ⟨hi2, H⟩ := H
 refine pop_index sli29 siz3 .i64 w1 w1a hi2 ?_
 have H := H b4 h7 hb5 (Fr.new (fo hf5) hb5 hf6) hL7
 obtain ⟨s28, hc2, H⟩ := H
 refine rop_one one3 (VI s28) hc2 ?_
 refine pop_add .i64 s28 1 ?_
 refine pop_len s14 _ _ sli29 ?_
 obtain ⟨hz_1, H⟩ := H
 refine pop_rem .i64 (w64 (s28 + 1)) (s14.n : Int) hz_1 ?_
 refine pop_field 0 fld48_0 b4 0 ?_
 refine rl one29 hL7 0 0 s21.v ?_
 refine pop_field 1 fld48_1 b2 0 ?_
 refine rl one3 hL7 2 1 (VI w1a) ?_
 obtain ⟨hi3, H⟩ := H
 refine pop_index sli29 siz3 .i64 s21 w1a hi3 ?_
 obtain ⟨hw_1, hL8, H⟩ := H
 refine uop_cell (v := (VI (Int.tmod (w64 (s28 + 1)) (s14.n : Int)))) siz3 hw_1 rfl (fun h8 he_1 => ?_)
 rw [← he_1] at hL8
 have H := H h8 he_1 hL8
 obtain ⟨hi4, H⟩ := H
 refine pop_index sli29 siz3 .i64 s14 (Int.tmod (w64 (s28 + 1)) (s14.n : Int)) hi4 ?_
 obtain ⟨s42, hc1, H⟩ := H
 refine rop_one one3 (VI s42) hc1 ?_
 refine pop_field 1 fld48_1 b4 0 ?_
 refine ul siz3 hL8 0 1 [(VI s42)] [(b4, [s21.v, (VI s42)]), (b3, [nilSl.v, (VI 0)]), (b2, [w1.v, (VI w1a)]), (b1, [g0.v])] (fun h9 hf7 hL9 => ?_)
 refine ra agg48 hL9 0 0 [s21.v, (VI s42)] ?_
 refine ul siz48 hL9 1 0 [s21.v, (VI s42)] [(b4, [s21.v, (VI s42)]), (b3, [s21.v, (VI s42)]), (b2, [w1.v, (VI w1a)]), (b1, [g0.v])] (fun h10 hf8 hL10 => ?_)
 refine ra agg48 hL10 1 0 [s21.v, (VI s42)] ?_
 exact H  h10  (Fr.old (fq hf7) hf8) hL10
def u84 (P : Program) (y0 : Int) (v1 : Int) (q2 : Int) (h : Heap) (K : KQ) : Prop :=
 ((decide (v1 ≤ y0)) = true ->
 K (VB (decide (y0 ≤ q2))) h) /\
 ((decide (v1 ≤ y0)) = false ->
 K (VB false) h)
theorem v84 (y0 : Int) (v1 : Int) (q2 : Int) (h : Heap) (K : KQ) (H : u84 Tryz.prog y0 v1 q2 h K) : callM Tryz.prog 84 #[(VI y0), (VI v1), (VI q2)] h K := by
 refine c84 (VI y0) (VI v1) (VI q2) h K ?_
 unfold u84 at H
 unfold t84
 have hL : Vars h [] := .nil
 refine pop_leq .i64 v1 y0 ?_
 refine guardM_st (fun hb1 => ?_) (fun hb1 => ?_)
 rotate_left
 ·have H := H.2 hb1
  refine gm hb1 ?_
  refine gm hb1 ?_
  refine pop_pickf' hb1 ?_
  exact H
 have H := H.1 hb1
 refine gy hb1 ?_
 refine gy hb1 ?_
 refine pop_leq .i64 y0 q2 ?_
 refine pop_pickt' hb1 ?_
 exact H
def u85 (P : Program) (g0 : Sl) (w1 : Sl) (w1a : Int) (v2 : Int) (m3 : Int) (h : Heap) (K : KQ) : Prop :=
 ∀ (b1 : Nat) (b2 : Nat) (h2 : Heap), h.size ≤ b1 -> h.size ≤ b2 -> Fr (In []) h h2 -> Vars h2 [(b2, [w1.v, (VI w1a)]), (b1, [g0.v])] ->
 callM P 74 #[(.agg #[g0.v]), (.agg #[w1.v, (VI w1a)])] h2 fun r1 h3 => ∃ s11 : Bool, r1 = (VB s11) /\ Vars h3 [(b2, [w1.v, (VI w1a)]), (b1, [g0.v])] /\
 (s11 = true ->
 callM P 84 #[(VI v2), (VI 0), (VI m3)] h3 fun r2 h4 => ∃ s15 : Bool, r2 = (VB s15) /\ Vars h4 [(b2, [w1.v, (VI w1a)]), (b1, [g0.v])] /\
 K (VB s15) h4) /\
 (s11 = false ->
 K (VB false) h3)
theorem v85 (g0 : Sl) (w1 : Sl) (w1a : Int) (v2 : Int) (m3 : Int) (h : Heap) (K : KQ) (H : u85 Tryz.prog g0 w1 w1a v2 m3 h K) : callM Tryz.prog 85 #[(Value.agg #[g0.v]), (Value.agg #[w1.v, (VI w1a)]), (VI v2), (VI m3)] h K := by
 refine c85 (Value.agg #[g0.v]) (Value.agg #[w1.v, (VI w1a)]) (VI v2) (VI m3) h K ?_
 unfold u85 at H
 unfold t85
 have hL : Vars h [] := .nil
 refine eop_box 26 (Value.agg #[g0.v]) rfl hL (fun b1 h1 hb1 hf1 hL1 => ?_)
 refine eop_box 48 (Value.agg #[w1.v, (VI w1a)]) rfl hL1 (fun b2 h2 hb2 hf2 hL2 => ?_)
 refine ra agg26 hL2 1 0 [g0.v] ?_
 refine ra agg48 hL2 0 0 [w1.v, (VI w1a)] ?_
 refine (H b1 b2 h2 hb1 (Nat.le_trans (Fr.size (fo hf1)) hb2) (Fr.no' (fo hf1) hf2) hL2).mono ?_
 rintro _ h3 ⟨s11, rfl, hL3, H⟩
 refine guardM_st (fun hb3 => ?_) (fun hb3 => ?_)
 rotate_left
 ·have H := H.2 hb3
  refine gm hb3 ?_
  refine gm hb3 ?_
  refine pop_pickf' hb3 ?_
  exact H
 have H := H.1 hb3
 refine gy hb3 ?_
 refine gy hb3 ?_
 refine H.mono ?_
 rintro _ h4 ⟨s15, rfl, hL4, H⟩
 refine pop_pickt' hb3 ?_
 exact H
def u86 (P : Program) (w0 : Sl) (w0a : Int) (h : Heap) (K : KQ) : Prop :=
 ∀ (b1 : Nat) (b2 : Nat) (h2 : Heap), h.size ≤ b1 -> h.size ≤ b2 -> Fr (In []) h h2 -> Vars h2 [(b2, [nilSl.v, (VI 0)]), (b1, [w0.v, (VI w0a)])] ->
 callM P 78 #[w0.v] h2 fun r1 h3 => ∃ s5 : Sl, r1 = s5.v /\ Vars h3 [(b2, [nilSl.v, (VI 0)]), (b1, [w0.v, (VI w0a)])] /\
 ∀ (h4 : Heap), Fr (In [b2]) h3 h4 -> Vars h4 [(b2, [s5.v, (VI w0a)]), (b1, [w0.v, (VI w0a)])] ->
 K (.agg #[s5.v, (VI w0a)]) h4
theorem v86 (w0 : Sl) (w0a : Int) (h : Heap) (K : KQ) (H : u86 Tryz.prog w0 w0a h K) : callM Tryz.prog 86 #[(Value.agg #[w0.v, (VI w0a)])] h K := by
 refine c86 (Value.agg #[w0.v, (VI w0a)]) h K ?_
 unfold u86 at H
 unfold t86
 have hL : Vars h [] := .nil
 refine eop_box 48 (Value.agg #[w0.v, (VI w0a)]) rfl hL (fun b1 h1 hb1 hf1 hL1 => ?_)
 refine eop_alloc 48 zer48 rfl hL1 (fun b2 h2 hb2 hf2 hL2 => ?_)
 refine pop_field 0 fld48_0 b1 0 ?_
 refine rl one29 hL2 1 0 w0.v ?_
 refine pop_field 1 fld48_1 b1 0 ?_
 refine rl one3 hL2 1 1 (VI w0a) ?_
 refine (H b1 b2 h2 hb1 (Nat.le_trans (Fr.size (fo hf1)) hb2) (Fr.no' (fo hf1) hf2) hL2).mono ?_
 rintro _ h3 ⟨s5, rfl, hL3, H⟩
 refine ⟨?_, ?_⟩
 ·exact still_loc one3 hL3 1 rfl 1 (v := (VI w0a)) rfl
 refine pop.mk' (v := (Value.agg #[s5.v, (VI w0a)])) (fun w => by kernel_rfl) ?_
 refine ul siz48 hL3 0 0 [s5.v, (VI w0a)] [(b2, [s5.v, (VI w0a)]), (b1, [w0.v, (VI w0a)])] (fun h4 hf3 hL4 => ?_)
 refine ra agg48 hL4 0 0 [s5.v, (VI w0a)] ?_
 exact H  h4  (fq hf3) hL4
def u87 (P : Program) (g0 : Sl) (b1 : Nat) (w1 : Sl) (w1a : Int) (v2 : Int) (w3 : Value) (h : Heap) (K : KQ) : Prop :=
 ∀ (b2 : Nat) (h1 : Heap), h.size ≤ b2 -> Fr (In []) h h1 -> Vars h1 [(b2, [g0.v]), (b1, [w1.v, (VI w1a)])] ->
 ∃ J1 : Nat -> Int -> Sl -> Int -> Heap -> Prop, (∃ n0 : Nat, J1 n0 0 w1 w1a h1) /\
 ∀ (n1 : Nat) (s11 : Int) (y1 : Sl) (y2 : Int) (h2 : Heap), J1 n1 s11 y1 y2 h2 -> Vars h2 [(b2, [g0.v]), (b1, [y1.v, (VI y2)])] ->
 ((decide (s11 < v2)) = true ->
 callM P 130 #[(.agg #[g0.v]), (VP b1 0)] h2 fun r1 h3 => ∃ y3 : Sl, ∃ y4 : Int, ∃ s19 : Bool, r1 = (VB s19) /\ Vars h3 [(b2, [g0.v]), (b1, [y3.v, (VI y4)])] /\
 ((!s19) = true ->
 K (VB false) h3) /\
 ((!s19) = false ->
 callV P w3 [(VI y2)] h3 fun r2 h4 => Vars h4 [(b2, [g0.v]), (b1, [y3.v, (VI y4)])] /\
 ∃ m : Nat, m < n1 /\ J1 m (w64 (s11 + 1)) y3 y4 h4)) /\
 ((decide (s11 < v2)) = false ->
 K (VB true) h2)
theorem v87 (g0 : Sl) (b1 : Nat) (w1 : Sl) (w1a : Int) (v2 : Int) (w3 : Value) (h : Heap) (K : KQ) (hL : Vars h [(b1, [w1.v, (VI w1a)])]) (H : u87 Tryz.prog g0 b1 w1 w1a v2 w3 h K) : callM Tryz.prog 87 #[(Value.agg #[g0.v]), (VP b1 0), (VI v2), w3] h K := by
 refine c87 (Value.agg #[g0.v]) (VP b1 0) (VI v2) w3 h K ?_
 unfold u87 at H
 unfold t87
 refine eop_box 26 (Value.agg #[g0.v]) rfl hL (fun b2 h1 hb1 hf1 hL1 => ?_)
 have H := H b2 h1 hb1 (fo hf1) hL1
 obtain ⟨J1, ⟨n2, h0⟩, HB1⟩ := H
 refine loop_intro (J := fun (n : Nat) (vs : List Value) (h' : Heap) => ∃ s11 : Int, ∃ y1 : Sl, ∃ y2 : Int, vs = [(VI s11)] /\ J1 n s11 y1 y2 h' /\ Vars h' [(b2, [g0.v]), (b1, [y1.v, (VI y2)])]) n2 ⟨0, w1, w1a, rfl, h0, hL1⟩ ?_
 intro I1 mu1 hI1 junk1 tv1 h2 hi1
 obtain ⟨n1, ⟨s11, y1, y2, hv, hJ1, hL2⟩, hn1⟩ := hI1 _ _ hi1
 cases hv
 have H := HB1 n1 s11 y1 y2 h2 hJ1 hL2
 refine pop_lss .i64 s11 v2 ?_
 refine condM_b (fun hb2 => ?_) (fun hb2 => ?_)
 rotate_left
 ·exact H.2 hb2
 have H := H.1 hb2
 refine pop_nil _ ?_
 refine pop_field 1 fld48_1 b1 0 ?_
 refine rl one3 hL2 1 1 (VI y2) ?_
 refine ra agg26 hL2 0 0 [g0.v] ?_
 refine H.mono ?_
 rintro _ h3 ⟨y3, y4, s19, rfl, hL3, H⟩
 refine pop_not s19 ?_
 refine condM_b (fun hb3 => ?_) (fun hb3 => ?_)
 ·exact H.1 hb3
 have H := H.2 hb3
 refine H.mono fun r2 h4 H => ?_
 obtain ⟨hL4, H⟩ := H
 refine pop_add .i64 s11 1 ?_
 obtain ⟨m_1, hm_1, H⟩ := H
 exact hn1 _ _ ⟨m_1, hm_1, (w64 (s11 + 1)), y3, y4, rfl, H, hL4⟩
def u88 (P : Program) (s0 : Int) (h : Heap) (K : KQ) : Prop :=
 K (.tuple #[]) h
theorem v88 (s0 : Int) (h : Heap) (K : KQ) (H : u88 Tryz.prog s0 h K) : callM Tryz.prog 88 #[(VI s0)] h K := by
 refine c88 (VI s0) h K ?_
 unfold u88 at H
 unfold t88
 have hL : Vars h [] := .nil
 exact H
def u89 (P : Program) (z0 : Sl) (h : Heap) (K : KQ) : Prop :=
 ∀ (b1 : Nat) (b2 : Nat) (h2 : Heap), h.size ≤ b1 -> h.size ≤ b2 -> Fr (In []) h h2 -> Vars h2 [(b2, [z0.v, (VI 0), (Value.int .u64 0)]), (b1, [nilSl.v])] ->
 callM P 131 #[(VP b2 0)] h2 fun r1 h3 => ∃ y1 : Sl, ∃ y2 : Int, ∃ y3 : Int, ∃ s8 : Sl, r1 = (.agg #[s8.v]) /\ Vars h3 [(b2, [y1.v, (VI y2), (Value.int .u64 y3)]), (b1, [nilSl.v])] /\
 ∀ (h4 : Heap), Fr (In [b1]) h3 h4 -> Vars h4 [(b2, [y1.v, (VI y2), (Value.int .u64 y3)]), (b1, [s8.v])] ->
 K (.agg #[s8.v]) h4
theorem v89 (z0 : Sl) (h : Heap) (K : KQ) (H : u89 Tryz.prog z0 h K) : callM Tryz.prog 89 #[z0.v] h K := by
 refine c89 z0.v h K ?_
 unfold u89 at H
 unfold t89
 have hL : Vars h [] := .nil
 refine eop_alloc 26 zer26 rfl hL (fun b1 h1 hb1 hf1 hL1 => ?_)
 refine pop.mk' (v := (Value.agg #[z0.v, (VI 0), (Value.int .u64 0)])) (fun w => by kernel_rfl) ?_
 refine eop_box 74 (Value.agg #[z0.v, (VI 0), (Value.int .u64 0)]) rfl hL1 (fun b2 h2 hb2 hf2 hL2 => ?_)
 refine (H b1 b2 h2 hb1 (Nat.le_trans (Fr.size (fo hf1)) hb2) (Fr.no' (fo hf1) hf2) hL2).mono ?_
 rintro _ h3 ⟨y1, y2, y3, s8, rfl, hL3, H⟩
 refine ul siz26 hL3 1 0 [s8.v] [(b2, [y1.v, (VI y2), (Value.int .u64 y3)]), (b1, [s8.v])] (fun h4 hf3 hL4 => ?_)
 refine ra agg26 hL4 1 0 [s8.v] ?_
 exact H  h4  (fq hf3) hL4
def u90 (P : Program) (g0 : Sl) (p1 : Int) (h : Heap) (K : KQ) : Prop :=
 InB g0 p1 /\
 ∀ (b1 : Nat) (h1 : Heap), h.size ≤ b1 -> Fr (In []) h h1 -> Vars h1 [(b1, [g0.v])] ->
 ∃ s13 : Sl, hcell h1 (Sl.at g0 p1 1) = some s13.v /\
 callM P 133 #[(.agg #[g0.v]), (VI p1)] h1 fun r1 h2 => ∃ s7 : Sl, r1 = s7.v /\ Vars h2 [(b1, [g0.v])] /\
 hcell h2 (Sl.at g0 p1 1) = some s13.v /\
 callM P 132 #[s7.v] h2 fun r2 h3 => ∃ s8 : Int, r2 = (VI s8) /\ Vars h3 [(b1, [g0.v])] /\
 hcell h3 (Sl.at g0 p1 1) = some s13.v /\
 K (VI (w64 (s8 * (s13.n : Int)))) h3
theorem v90 (g0 : Sl) (p1 : Int) (h : Heap) (K : KQ) (H : u90 Tryz.prog g0 p1 h K) : callM Tryz.prog 90 #[(Value.agg #[g0.v]), (VI p1)] h K := by
 refine c90 (Value.agg #[g0.v]) (VI p1) h K ?_
 unfold u90 at H
 unfold t90
 have hL : Vars h [] := .nil
 refine eop_box 26 (Value.agg #[g0.v]) rfl hL (fun b1 h1 hb1 hf1 hL1 => ?_)
 refine ra agg26 hL1 0 0 [g0.v] ?_
 refine pop_field 0 fld26_0 b1 0 ?_
 refine rl one24 hL1 0 0 g0.v ?_
 obtain ⟨hi1, H⟩ := H
 refine pop_index sli24 siz29 .i64 g0 p1 hi1 ?_
 have H := H b1 h1 hb1 (fo hf1) hL1
 obtain ⟨s13, hc3, H⟩ := H
 refine rop_one one29 s13.v hc3 ?_
 refine pop_len s13 _ _ sli29 ?_
 refine H.mono ?_
 rintro _ h2 ⟨s7, rfl, hL2, H⟩
 refine ⟨?_, ?_⟩
 ·exact still_one one29 H.1
 obtain ⟨hc1, H⟩ := H
 refine ⟨?_, ?_⟩
 ·exact still_loc one24 hL2 0 rfl 0 (v := g0.v) rfl
 refine H.mono ?_
 rintro _ h3 ⟨s8, rfl, hL3, H⟩
 refine ⟨?_, ?_⟩
 ·exact still_one one29 H.1
 obtain ⟨hc2, H⟩ := H
 refine ⟨?_, ?_⟩
 ·exact still_loc one24 hL3 0 rfl 0 (v := g0.v) rfl
 refine pop_mul .i64 s8 (s13.n : Int) ?_
 exact H
def u91 (P : Program) (g0 : Sl) (h : Heap) (K : KQ) : Prop :=
 ∀ (b1 : Nat) (h1 : Heap), h.size ≤ b1 -> Fr (In []) h h1 -> Vars h1 [(b1, [g0.v])] ->
 callM P 104 #[(VI (g0.n : Int)), (VI 1), (VI 8)] h1 fun r1 h2 => ∃ s10 : Bool, r1 = (VB s10) /\ Vars h2 [(b1, [g0.v])] /\
 ((!s10) = true ->
 K (VB false) h2) /\
 ((!s10) = false ->
 ∃ J1 : Nat -> Int -> Heap -> Prop, (∃ n0 : Nat, J1 n0 0 h2) /\
 ∀ (n1 : Nat) (s15 : Int) (h3 : Heap), J1 n1 s15 h3 -> Vars h3 [(b1, [g0.v])] ->
 ((decide (s15 < (g0.n : Int))) = true ->
 InB g0 s15 /\
 ∃ s18 : Sl, hcell h3 (Sl.at g0 s15 1) = some s18.v /\
 ((decide (5 < (s18.n : Int))) = true ->
 K (VB false) h3) /\
 ((decide (5 < (s18.n : Int))) = false ->
 callM P 56 #[s18.v, (VI 0), (VI (w64 ((g0.n : Int) - 1)))] h3 fun r2 h4 => ∃ s26 : Bool, r2 = (VB s26) /\ Vars h4 [(b1, [g0.v])] /\
 ((!s26) = true ->
 K (VB false) h4) /\
 ((!s26) = false ->
 ∃ m : Nat, m < n1 /\ J1 m (w64 (s15 + 1)) h4))) /\
 ((decide (s15 < (g0.n : Int))) = false ->
 K (VB true) h3))
theorem v91 (g0 : Sl) (h : Heap) (K : KQ) (H : u91 Tryz.prog g0 h K) : callM Tryz.prog 91 #[(Value.agg #[g0.v])] h K := by
 refine c91 (Value.agg #[g0.v]) h K ?_
 unfold u91 at H
 unfold t91
 have hL : Vars h [] := .nil
 refine eop_box 26 (Value.agg #[g0.v]) rfl hL (fun b1 h1 hb1 hf1 hL1 => ?_)
 refine pop_field 0 fld26_0 b1 0 ?_
 refine rl one24 hL1 0 0 g0.v ?_
 refine pop_len g0 _ _ sli24 ?_
 refine (H b1 h1 hb1 (fo hf1) hL1).mono ?_
 rintro _ h2 ⟨s10, rfl, hL2, H⟩
 refine pop_not s10 ?_
 refine condM_b (fun hb2 => ?_) (fun hb2 => ?_)
 ·exact H.1 hb2
 have H := H.2 hb2
 refine pop_field 0 fld26_0 b1 0 ?_
 refine rl one24 hL2 0 0 g0.v ?_
 refine pop_len g0 _ _ sli24 ?_
 obtain ⟨J1, ⟨n2, h0⟩, HB1⟩ := H
 refine loop_intro (J := fun (n : Nat) (vs : List Value) (h' : Heap) => ∃ s15 : Int, vs = [(VI s15)] /\ J1 n s15 h' /\ Vars h' [(b1, [g0.v])]) n2 ⟨0, rfl, h0, hL2⟩ ?_
 intro I1 mu1 hI1 junk1 tv1 h3 hi1
 obtain ⟨n1, ⟨s15, hv, hJ1, hL3⟩, hn1⟩ := hI1 _ _ hi1
 cases hv
 have H := HB1 n1 s15 h3 hJ1 hL3
 refine pop_lss .i64 s15 (g0.n : Int) ?_
 refine condM_b (fun hb3 => ?_) (fun hb3 => ?_)
 rotate_left
 ·exact H.2 hb3
 have H := H.1 hb3
 obtain ⟨hi2, H⟩ := H
 refine pop_index sli24 siz29 .i64 g0 s15 hi2 ?_
 obtain ⟨s18, hc1, H⟩ := H
 refine rop_one one29 s18.v hc1 ?_
 refine pop_len s18 _ _ sli29 ?_
 refine pop_gtr .i64 (s18.n : Int) 5 ?_
 refine guardM_sf (fun hb4 => ?_) (fun hb4 => ?_)
 rotate_left
 ·have H := H.1 hb4
  refine gm hb4 ?_
  refine gm hb4 ?_
  refine gm hb4 ?_
  refine gm hb4 ?_
  refine pop_pickt' hb4 ?_
  refine condM_t ?_
  exact H
 have H := H.2 hb4
 refine gy hb4 ?_
 refine gy hb4 ?_
 refine pop_sub .i64 (g0.n : Int) 1 ?_
 refine gy hb4 ?_
 refine H.mono ?_
 rintro _ h4 ⟨s26, rfl, hL4, H⟩
 refine gy hb4 ?_
 refine pop_not s26 ?_
 refine pop_pickf' hb4 ?_
 refine condM_b (fun hb5 => ?_) (fun hb5 => ?_)
 ·exact H.1 hb5
 have H := H.2 hb5
 refine pop_add .i64 s15 1 ?_
 obtain ⟨m_1, hm_1, H⟩ := H
 exact hn1 _ _ ⟨m_1, hm_1, (w64 (s15 + 1)), rfl, H, hL4⟩
def u92 (P : Program) (m0 : Sl) (h : Heap) (K : KQ) : Prop :=
 ((decide ((m0.n : Int) = 0)) = true ->
 K (VI 1) h) /\
 ((decide ((m0.n : Int) = 0)) = false ->
 InB m0 0 /\
 ∃ s15 : Sl, hcell h (Sl.at m0 0 1) = some s15.v /\
 ∃ J1 : Nat -> Int -> Int -> Int -> Heap -> Prop, (∃ n0 : Nat, J1 n0 0 1 0 h) /\
 ∀ (n1 : Nat) (q3 : Int) (z4 : Int) (s17 : Int) (h1 : Heap), J1 n1 q3 z4 s17 h1 -> Vars h1 [] ->
 ((decide (s17 < (s15.n : Int))) = true ->
 InB s15 s17 /\
 ∃ s21 : Int, hcell h1 (Sl.at s15 s17 1) = some (VI s21) /\
 ∃ J2 : Int -> Heap -> Prop, (((!decide (s21 = 0)) = true ->
 pop P (Instr.sliceAt 24 m0.v (some (.int .i64 1)) none none) fun r1 => ∃ s25 : Sl, r1 = s25.v /\ 
 ∃ J3 : Nat -> Sl -> Int -> Heap -> Prop, (∃ n0 : Nat, J3 n0 nilSl 0 h1) /\
 ∀ (n2 : Nat) (z7 : Sl) (s27 : Int) (h2 : Heap), J3 n2 z7 s27 h2 -> Vars h2 [] ->
 ((decide (s27 < (s25.n : Int))) = true ->
 InB s25 s27 /\
 ∃ s30 : Sl, hcell h2 (Sl.at s25 s27 1) = some s30.v /\
 pop P (Instr.sliceAt 29 s30.v none (some (VI s17)) none) fun r2 => ∃ s34 : Sl, r2 = s34.v /\ 
 pop P (Instr.sliceAt 29 s30.v (some (VI (w64 (s17 + 1)))) none none) fun r3 => ∃ s39 : Sl, r3 = s39.v /\ 
 callM P 79 #[s34.v] h2 fun r4 h3 => ∃ s35 : Sl, r4 = s35.v /\ Vars h3 [] /\
 eop P (appS 29 29 29 s35.v s39.v) h3 fun r5 h4 => ∃ s40 : Sl, r5 = s40.v /\ Vars h4 [] /\
 eop P (buildSlice 24 1 #[(0, s40.v)]) h4 fun r6 h5 => ∃ s41 : Sl, r6 = s41.v /\ Vars h5 [] /\
 eop P (appS 24 24 24 z7.v s41.v) h5 fun r7 h6 => ∃ s42 : Sl, r7 = s42.v /\ Vars h6 [] /\
 ∃ m : Nat, m < n2 /\ J3 m s42 (w64 (s27 + 1)) h6) /\
 ((decide (s27 < (s25.n : Int))) = false ->
 callM P 92 #[z7.v] h2 fun r8 h7 => ∃ s49 : Int, r8 = (VI s49) /\ Vars h7 [] /\
 J2 (w64 (q3 + (w64 ((w64 (z4 * s21)) * s49)))) h7)) /\
 ((!decide (s21 = 0)) = false ->
 J2 q3 h1)) /\
 ∀ (y1 : Int) (h8 : Heap), J2 y1 h8 -> Vars h8 [] ->
 ∃ m : Nat, m < n1 /\ J1 m y1 (w64 (0 - z4)) (w64 (s17 + 1)) h8) /\
 ((decide (s17 < (s15.n : Int))) = false ->
 K (VI q3) h1))
theorem v92 (m0 : Sl) (h : Heap) (K : KQ) (H : u92 Tryz.prog m0 h K) : callM Tryz.prog 92 #[m0.v] h K := by
 refine c92 m0.v h K ?_
 unfold u92 at H
 unfold t92
 have hL : Vars h [] := .nil
 refine pop_len m0 _ _ sli24 ?_
 refine pop_ieq .i64 _ _ (m0.n : Int) 0 ?_
 refine condM_b (fun hb1 => ?_) (fun hb1 => ?_)
 ·exact H.1 hb1
 have H := H.2 hb1
 obtain ⟨hi1, H⟩ := H
 refine pop_index sli24 siz29 .i64 m0 0 hi1 ?_
 obtain ⟨s15, hc3, H⟩ := H
 refine rop_one one29 s15.v hc3 ?_
 refine pop_len s15 _ _ sli29 ?_
 obtain ⟨J1, ⟨n4, h0a⟩, HB3⟩ := H
 refine loop_intro (J := fun (n : Nat) (vs : List Value) (h' : Heap) => ∃ q3 : Int, ∃ z4 : Int, ∃ s17 : Int, vs = [(VI q3), (VI z4), (VI s17)] /\ J1 n q3 z4 s17 h' /\ Vars h' []) n4 ⟨0, 1, 0, rfl, h0a, hL⟩ ?_
 intro I2 mu2 hI2 junk1 tv4 tv5 tv6 h1 hi2
 obtain ⟨n1, ⟨q3, z4, s17, hv, hJ1, hL1⟩, hn1⟩ := hI2 _ _ hi2
 cases hv
 have H := HB3 n1 q3 z4 s17 h1 hJ1 hL1
 refine pop_lss .i64 s17 (s15.n : Int) ?_
 refine condM_b (fun hb2 => ?_) (fun hb2 => ?_)
 rotate_left
 ·exact H.2 hb2
 have H := H.1 hb2
 obtain ⟨hi3, H⟩ := H
 refine pop_index sli29 siz3 .i64 s15 s17 hi3 ?_
 obtain ⟨s21, hc2, H⟩ := H
 refine rop_one one3 (VI s21) hc2 ?_
 obtain ⟨J2, H, HB2⟩ := H
 refine ⟨fun (vs : List Value) (h' : Heap) => ∃ y1 : Int, vs = [(VI y1)] /\ J2 y1 h' /\ Vars h' [], ?_, ?_⟩
 ·refine pop_ine .i64 _ _ s21 0 ?_
  refine condM_b (fun hb3 => ?_) (fun hb3 => ?_)
  rotate_left
  ·have H := H.2 hb3
   exact ⟨q3, rfl, H, hL1⟩
  have H := H.1 hb3
  refine H.mono fun r1 H => ?_
  obtain ⟨s25, rfl, H⟩ := H
  refine pop_len s25 _ _ sli24 ?_
  obtain ⟨J3, ⟨n3, h0⟩, HB1⟩ := H
  refine loop_intro (J := fun (n : Nat) (vs : List Value) (h' : Heap) => ∃ z7 : Sl, ∃ s27 : Int, vs = [z7.v, (VI s27)] /\ J3 n z7 s27 h' /\ Vars h' []) n3 ⟨nilSl, 0, rfl, h0, hL1⟩ ?_
  intro I1 mu1 hI1 junk2 tv1 tv2 h2 hi4
  obtain ⟨n2, ⟨z7, s27, hv, hJ2, hL2⟩, hn2⟩ := hI1 _ _ hi4
  cases hv
  have H := HB1 n2 z7 s27 h2 hJ2 hL2
  refine pop_lss .i64 s27 (s25.n : Int) ?_
  refine condM_b (fun hb4 => ?_) (fun hb4 => ?_)
  rotate_left
  ·have H := H.2 hb4
   refine pop_mul .i64 z4 s21 ?_
   refine H.mono ?_
   rintro _ h7 ⟨s49, rfl, hL7, H⟩
   refine pop_mul .i64 (w64 (z4 * s21)) s49 ?_
   refine pop_add .i64 q3 (w64 ((w64 (z4 * s21)) * s49)) ?_
   exact ⟨(w64 (q3 + (w64 ((w64 (z4 * s21)) * s49)))), rfl, H, hL7⟩
  have H := H.1 hb4
  obtain ⟨hi5, H⟩ := H
  refine pop_index sli24 siz29 .i64 s25 s27 hi5 ?_
  obtain ⟨s30, hc1, H⟩ := H
  refine rop_one one29 s30.v hc1 ?_
  refine H.mono fun r2 H => ?_
  obtain ⟨s34, rfl, H⟩ := H
  refine pop_add .i64 s17 1 ?_
  refine H.mono fun r3 H => ?_
  obtain ⟨s39, rfl, H⟩ := H
  refine H.mono ?_
  rintro _ h3 ⟨s35, rfl, hL3, H⟩
  refine H.mono ?_
  rintro _ h4 ⟨s40, rfl, hL4, H⟩
  refine H.mono ?_
  rintro _ h5 ⟨s41, rfl, hL5, H⟩
  refine H.mono ?_
  rintro _ h6 ⟨s42, rfl, hL6, H⟩
  refine pop_add .i64 s27 1 ?_
  obtain ⟨m_1, hm_1, H⟩ := H
  exact hn2 _ _ ⟨m_1, hm_1, s42, (w64 (s27 + 1)), rfl, H, hL6⟩
 intro junk3 tv3 h8
 rintro ⟨y1, hv, hJ3, hL8⟩
 cases hv
 have H := HB2 y1 h8 hJ3 hL8
 refine pop_neg .i64 z4 ?_
 refine pop_add .i64 s17 1 ?_
 obtain ⟨m_2, hm_2, H⟩ := H
 exact hn1 _ _ ⟨m_2, hm_2, y1, (w64 (0 - z4)), (w64 (s17 + 1)), rfl, H, hL8⟩
def u93 (P : Program) (g0 : Sl) (e1 : Int) (h : Heap) (K : KQ) : Prop :=
 ∀ (b1 : Nat) (h1 : Heap), h.size ≤ b1 -> Fr (In []) h h1 -> Vars h1 [(b1, [g0.v])] ->
 ∃ J1 : Nat -> Sl -> Int -> Heap -> Prop, (∃ n0 : Nat, J1 n0 nilSl 0 h1) /\
 ∀ (n1 : Nat) (o5 : Sl) (s14 : Int) (h2 : Heap), J1 n1 o5 s14 h2 -> Vars h2 [(b1, [g0.v])] ->
 ((decide (s14 < (g0.n : Int))) = true ->
 InB g0 s14 /\
 ∃ s18 : Sl, hcell h2 (Sl.at g0 s14 1) = some s18.v /\
 ((decide (s14 = e1)) = true ->
 ∃ m : Nat, m < n1 /\ J1 m o5 (w64 (s14 + 1)) h2) /\
 ((decide (s14 = e1)) = false ->
 eop P (Instr.makeSlice 29 (VI (g0.n : Int)) (VI (g0.n : Int))) h2 fun r1 h3 => ∃ s25 : Sl, r1 = s25.v /\ Vars h3 [(b1, [g0.v])] /\
 InB s25 s14 /\
 Writable h3 (Sl.at s25 s14 1) /\ Vars (hset h3 (Sl.at s25 s14 1) (VI (s18.n : Int))) [(b1, [g0.v])] /\
 ∀ h4 : Heap, h4 = hset h3 (Sl.at s25 s14 1) (VI (s18.n : Int)) -> Vars h4 [(b1, [g0.v])] ->
 ∃ J2 : Nat -> Int -> Heap -> Prop, (∃ n0 : Nat, J2 n0 0 h4) /\
 ∀ (n2 : Nat) (s33 : Int) (h5 : Heap), J2 n2 s33 h5 -> Vars h5 [(b1, [g0.v])] ->
 ((decide (s33 < (s18.n : Int))) = true ->
 InB s18 s33 /\
 ∃ s36 : Int, hcell h5 (Sl.at s18 s33 1) = some (VI s36) /\
 InB s25 s36 /\
 ∃ s40 : Int, hcell h5 (Sl.at s25 s36 1) = some (VI s40) /\
 InB s25 s36 /\
 Writable h5 (Sl.at s25 s36 1) /\ Vars (hset h5 (Sl.at s25 s36 1) (VI (w64 (s40 - 1)))) [(b1, [g0.v])] /\
 ∀ h6 : Heap, h6 = hset h5 (Sl.at s25 s36 1) (VI (w64 (s40 - 1))) -> Vars h6 [(b1, [g0.v])] ->
 ∃ m : Nat, m < n2 /\ J2 m (w64 (s33 + 1)) h6) /\
 ((decide (s33 < (s18.n : Int))) = false ->
 pop P (Instr.sliceAt 29 s25.v none (some (VI e1)) none) fun r2 => ∃ s47 : Sl, r2 = s47.v /\ 
 pop P (Instr.sliceAt 29 s25.v (some (VI (w64 (e1 + 1)))) none none) fun r3 => ∃ s52 : Sl, r3 = s52.v /\ 
 callM P 79 #[s47.v] h5 fun r4 h7 => ∃ s48 : Sl, r4 = s48.v /\ Vars h7 [(b1, [g0.v])] /\
 eop P (appS 29 29 29 s48.v s52.v) h7 fun r5 h8 => ∃ s53 : Sl, r5 = s53.v /\ Vars h8 [(b1, [g0.v])] /\
 eop P (buildSlice 24 1 #[(0, s53.v)]) h8 fun r6 h9 => ∃ s54 : Sl, r6 = s54.v /\ Vars h9 [(b1, [g0.v])] /\
 eop P (appS 24 24 24 o5.v s54.v) h9 fun r7 h10 => ∃ s55 : Sl, r7 = s55.v /\ Vars h10 [(b1, [g0.v])] /\
 ∃ m : Nat, m < n1 /\ J1 m s55 (w64 (s14 + 1)) h10))) /\
 ((decide (s14 < (g0.n : Int))) = false ->
 K o5.v h2)
theorem v93 (g0 : Sl) (e1 : Int) (h : Heap) (K : KQ) (H : u93 Tryz.prog g0 e1 h K) : callM Tryz.prog 93 #[(Value.agg #[g0.v]), (VI e1)] h K := by
 refine c93 (Value.agg #[g0.v]) (VI e1) h K ?_
 unfold u93 at H
 unfold t93
 have hL : Vars h [] := .nil
 refine eop_box 26 (Value.agg #[g0.v]) rfl hL (fun b1 h1 hb1 hf1 hL1 => ?_)
 refine pop_field 0 fld26_0 b1 0 ?_
 refine rl one24 hL1 0 0 g0.v ?_
 refine pop_len g0 _ _ sli24 ?_
 have H := H b1 h1 hb1 (fo hf1) hL1
 obtain ⟨J1, ⟨n4, h0a⟩, HB2⟩ := H
 refine loop_intro (J := fun (n : Nat) (vs : List Value) (h' : Heap) => ∃ o5 : Sl, ∃ s14 : Int, vs = [o5.v, (VI s14)] /\ J1 n o5 s14 h' /\ Vars h' [(b1, [g0.v])]) n4 ⟨nilSl, 0, rfl, h0a, hL1⟩ ?_
 intro I2 mu2 hI2 junk1 tv2 tv3 h2 hi1
 obtain ⟨n1, ⟨o5, s14, hv, hJ1, hL2⟩, hn1⟩ := hI2 _ _ hi1
 cases hv
 have H := HB2 n1 o5 s14 h2 hJ1 hL2
 refine pop_lss .i64 s14 (g0.n : Int) ?_
 refine condM_b (fun hb2 => ?_) (fun hb2 => ?_)
 rotate_left
 ·exact H.2 hb2
 have H := H.1 hb2
 obtain ⟨hi2, H⟩ := H
 refine pop_index sli24 siz29 .i64 g0 s14 hi2 ?_
 obtain ⟨s18, hc3, H⟩ := H
 refine rop_one one29 s18.v hc3 ?_
 refine pop_ieq .i64 _ _ s14 e1 ?_
 refine condM_b (fun hb3 => ?_) (fun hb3 => ?_)
 ·have H := H.1 hb3
  refine pop_add .i64 s14 1 ?_
  obtain ⟨m_1, hm_1, H⟩ := H
  exact hn1 _ _ ⟨m_1, hm_1, o5, (w64 (s14 + 1)), rfl, H, hL2⟩
 have H := H.2 hb3
 refine pop_field 0 fld26_0 b1 0 ?_
 refine rl one24 hL2 0 0 g0.v ?_
 refine pop_len g0 _ _ sli24 ?_
 refine H.mono ?_
 rintro _ h3 ⟨s25, rfl, hL3, H⟩
 refine pop_len s18 _ _ sli29 ?_
 obtain ⟨hi3, H⟩ := H
 refine pop_index sli29 siz3 .i64 s25 s14 hi3 ?_
 obtain ⟨hw_1, hL4, H⟩ := H
 refine uop_cell (v := (VI (s18.n : Int))) siz3 hw_1 rfl (fun h4 he_1 => ?_)
 rw [← he_1] at hL4
 have H := H h4 he_1 hL4
 refine pop_len s18 _ _ sli29 ?_
 obtain ⟨J2, ⟨n3, h0⟩, HB1⟩ := H
 refine loop_intro (J := fun (n : Nat) (vs : List Value) (h' : Heap) => ∃ s33 : Int, vs = [(VI s33)] /\ J2 n s33 h' /\ Vars h' [(b1, [g0.v])]) n3 ⟨0, rfl, h0, hL4⟩ ?_
 intro I1 mu1 hI1 junk2 tv1 h5 hi4
 obtain ⟨n2, ⟨s33, hv, hJ2, hL5⟩, hn2⟩ := hI1 _ _ hi4
 cases hv
 have H := HB1 n2 s33 h5 hJ2 hL5
 refine pop_lss .i64 s33 (s18.n : Int) ?_
 refine condM_b (fun hb4 => ?_) (fun hb4 => ?_)
 rotate_left
 ·have H := H.2 hb4
  refine H.mono fun r2 H => ?_
  obtain ⟨s47, rfl, H⟩ := H
  refine pop_add .i64 e1 1 ?_
  refine H.mono fun r3 H => ?_
  obtain ⟨s52, rfl, H⟩ := H
  refine H.mono ?_
  rintro _ h7 ⟨s48, rfl, hL7, H⟩
  refine H.mono ?_
  rintro _ h8 ⟨s53, rfl, hL8, H⟩
  refine H.mono ?_
  rintro _ h9 ⟨s54, rfl, hL9, H⟩
  refine H.mono ?_
  rintro _ h10 ⟨s55, rfl, hL10, H⟩
  refine pop_add .i64 s14 1 ?_
  obtain ⟨m_3, hm_3, H⟩ := H
  exact hn1 _ _ ⟨m_3, hm_3, s55, (w64 (s14 + 1)), rfl, H, hL10⟩
 have H := H.1 hb4
 obtain ⟨hi5, H⟩ := H
 refine pop_index sli29 siz3 .i64 s18 s33 hi5 ?_
 obtain ⟨s36, hc2, H⟩ := H
 refine rop_one one3 (VI s36) hc2 ?_
 obtain ⟨hi6, H⟩ := H
 refine pop_index sli29 siz3 .i64 s25 s36 hi6 ?_
 obtain ⟨s40, hc1, H⟩ := H
 refine rop_one one3 (VI s40) hc1 ?_
 refine pop_sub .i64 s40 1 ?_
 obtain ⟨hi7, H⟩ := H
 refine pop_index sli29 siz3 .i64 s25 s36 hi7 ?_
 obtain ⟨hw_2, hL6, H⟩ := H
 refine uop_cell (v := (VI (w64 (s40 - 1)))) siz3 hw_2 rfl (fun h6 he_2 => ?_)
 rw [← he_2] at hL6
 have H := H h6 he_2 hL6
 refine pop_add .i64 s33 1 ?_
 obtain ⟨m_2, hm_2, H⟩ := H
 exact hn2 _ _ ⟨m_2, hm_2, (w64 (s33 + 1)), rfl, H, hL6⟩
def u94 (P : Program) (g0 : Sl) (c1 : Sl) (h : Heap) (K : KQ) : Prop :=
 ∀ (b1 : Nat) (h1 : Heap), h.size ≤ b1 -> Fr (In []) h h1 -> Vars h1 [(b1, [g0.v])] ->
 callM P 68 #[(.agg #[g0.v])] h1 fun r1 h2 => ∃ s6 : Bool, r1 = (VB s6) /\ Vars h2 [(b1, [g0.v])] /\
 (s6 = true ->
 callM P 107 #[c1.v, (Value.func (Fn.func 134) #[] #[(VP b1 0)])] h2 fun r2 h3 => ∃ y1 : Sl, ∃ s10 : Bool, r2 = (VB s10) /\ Vars h3 [(b1, [y1.v])] /\
 K (VB (!s10)) h3) /\
 (s6 = false ->
 K (VB false) h2)
theorem v94 (g0 : Sl) (c1 : Sl) (h : Heap) (K : KQ) (H : u94 Tryz.prog g0 c1 h K) : callM Tryz.prog 94 #[(Value.agg #[g0.v]), c1.v] h K := by
 refine c94 (Value.agg #[g0.v]) c1.v h K ?_
 unfold u94 at H
 unfold t94
 have hL : Vars h [] := .nil
 refine eop_box 26 (Value.agg #[g0.v]) rfl hL (fun b1 h1 hb1 hf1 hL1 => ?_)
 refine ra agg26 hL1 0 0 [g0.v] ?_
 refine (H b1 h1 hb1 (fo hf1) hL1).mono ?_
 rintro _ h2 ⟨s6, rfl, hL2, H⟩
 refine guardM_st (fun hb2 => ?_) (fun hb2 => ?_)
 rotate_left
 ·have H := H.2 hb2
  refine gm hb2 ?_
  refine gm hb2 ?_
  refine gm hb2 ?_
  refine pop_pickf' hb2 ?_
  exact H
 have H := H.1 hb2
 refine gy hb2 ?_
 refine pop_func _ _ _ ?_
 refine gy hb2 ?_
 refine H.mono ?_
 rintro _ h3 ⟨y1, s10, rfl, hL3, H⟩
 refine gy hb2 ?_
 refine pop_not s10 ?_
 refine pop_pickt' hb2 ?_
 exact H
def u95 (P : Program) (g0 : Sl) (g1 : Int) (w2 : Value) (h : Heap) (K : KQ) : Prop :=
 ∀ (b1 : Nat) (h1 : Heap), h.size ≤ b1 -> Fr (In []) h h1 -> Vars h1 [(b1, [g0.v])] ->
 eop P (Instr.makeSlice 29 (VI (g0.n : Int)) (VI (g0.n : Int))) h1 fun r1 h2 => ∃ s11 : Sl, r1 = s11.v /\ Vars h2 [(b1, [g0.v])] /\
 ∃ J1 : Nat -> Heap -> Prop, (∃ n0 : Nat, J1 n0  h2) /\
 ∀ (n1 : Nat) (h3 : Heap), J1 n1  h3 -> Vars h3 [(b1, [g0.v])] ->
 callV P w2 [s11.v] h3 fun r2 h4 => ∃ s14 : Bool, r2 = (VB s14) /\ Vars h4 [(b1, [g0.v])] /\
 ((!s14) = true ->
 K (.tuple #[]) h4) /\
 ((!s14) = false ->
 ∃ J2 : Nat -> Int -> Heap -> Prop, (∃ n0 : Nat, J2 n0 (w64 ((s11.n : Int) - 1)) h4) /\
 ∀ (n2 : Nat) (p7 : Int) (h5 : Heap), J2 n2 p7 h5 -> Vars h5 [(b1, [g0.v])] ->
 ((decide (0 ≤ p7)) = true ->
 ((decide (p7 = g1)) = true ->
 InB s11 p7 /\
 Writable h5 (Sl.at s11 p7 1) /\ Vars (hset h5 (Sl.at s11 p7 1) (VI 0)) [(b1, [g0.v])] /\
 ∀ h8 : Heap, h8 = hset h5 (Sl.at s11 p7 1) (VI 0) -> Vars h8 [(b1, [g0.v])] ->
 ∃ m : Nat, m < n2 /\ J2 m (w64 (p7 - 1)) h8) /\
 ((decide (p7 = g1)) = false ->
 InB s11 p7 /\
 ∃ s29 : Int, hcell h5 (Sl.at s11 p7 1) = some (VI s29) /\
 InB g0 p7 /\
 ∃ s34 : Sl, hcell h5 (Sl.at g0 p7 1) = some s34.v /\
 ((decide ((w64 ((s34.n : Int) - 1)) ≤ s29)) = true ->
 InB s11 p7 /\
 Writable h5 (Sl.at s11 p7 1) /\ Vars (hset h5 (Sl.at s11 p7 1) (VI 0)) [(b1, [g0.v])] /\
 ∀ h6 : Heap, h6 = hset h5 (Sl.at s11 p7 1) (VI 0) -> Vars h6 [(b1, [g0.v])] ->
 ∃ m : Nat, m < n2 /\ J2 m (w64 (p7 - 1)) h6) /\
 ((decide ((w64 ((s34.n : Int) - 1)) ≤ s29)) = false ->
 ((decide (p7 < 0)) = true ->
 K (.tuple #[]) h5) /\
 ((decide (p7 < 0)) = false ->
 InB s11 p7 /\
 ∃ s50 : Int, hcell h5 (Sl.at s11 p7 1) = some (VI s50) /\
 InB s11 p7 /\
 Writable h5 (Sl.at s11 p7 1) /\ Vars (hset h5 (Sl.at s11 p7 1) (VI (w64 (s50 + 1)))) [(b1, [g0.v])] /\
 ∀ h7 : Heap, h7 = hset h5 (Sl.at s11 p7 1) (VI (w64 (s50 + 1))) -> Vars h7 [(b1, [g0.v])] ->
 ∃ m : Nat, m < n1 /\ J1 m  h7)))) /\
 ((decide (0 ≤ p7)) = false ->
 ((decide (p7 < 0)) = true ->
 K (.tuple #[]) h5) /\
 ((decide (p7 < 0)) = false ->
 InB s11 p7 /\
 ∃ s50b : Int, hcell h5 (Sl.at s11 p7 1) = some (VI s50b) /\
 InB s11 p7 /\
 Writable h5 (Sl.at s11 p7 1) /\ Vars (hset h5 (Sl.at s11 p7 1) (VI (w64 (s50b + 1)))) [(b1, [g0.v])] /\
 ∀ h9 : Heap, h9 = hset h5 (Sl.at s11 p7 1) (VI (w64 (s50b + 1))) -> Vars h9 [(b1, [g0.v])] ->
 ∃ m : Nat, m < n1 /\ J1 m  h9)))
theorem v95 (g0 : Sl) (g1 : Int) (w2 : Value) (h : Heap) (K : KQ) (H : u95 Tryz.prog g0 g1 w2 h K) : callM Tryz.prog 95 #[(Value.agg #[g0.v]), (VI g1), w2] h K := by
 refine c95 (Value.agg #[g0.v]) (VI g1) w2 h K ?_
 unfold u95 at H
 unfold t95
 have hL : Vars h [] := .nil
 refine eop_box 26 (Value.agg #[g0.v]) rfl hL (fun b1 h1 hb1 hf1 hL1 => ?_)
 refine pop_field 0 fld26_0 b1 0 ?_
 refine rl one24 hL1 0 0 g0.v ?_
 refine pop_len g0 _ _ sli24 ?_
 refine (H b1 h1 hb1 (fo hf1) hL1).mono ?_
 rintro _ h2 ⟨s11, rfl, hL2, H⟩
 obtain ⟨J1, ⟨n4, h0a⟩, HB2⟩ := H
 refine loop_intro (J := fun (n : Nat) (vs : List Value) (h' : Heap) => vs = [] /\ J1 n  h' /\ Vars h' [(b1, [g0.v])]) n4 ⟨rfl, h0a, hL2⟩ ?_
 intro I2 mu2 hI2 junk1  h3 hi1
 obtain ⟨n1, ⟨hv, hJ1, hL3⟩, hn1⟩ := hI2 _ _ hi1
 cases hv
 have H := HB2 n1  h3 hJ1 hL3
 refine H.mono ?_
 rintro _ h4 ⟨s14, rfl, hL4, H⟩
 refine pop_not s14 ?_
 refine condM_b (fun hb2 => ?_) (fun hb2 => ?_)
 ·exact H.1 hb2
 have H := H.2 hb2
 refine pop_len s11 _ _ sli29 ?_
 refine pop_sub .i64 (s11.n : Int) 1 ?_
 obtain ⟨J2, ⟨n3, h0⟩, HB1⟩ := H
 refine loop_intro (J := fun (n : Nat) (vs : List Value) (h' : Heap) => ∃ p7 : Int, vs = [(VI p7)] /\ J2 n p7 h' /\ Vars h' [(b1, [g0.v])]) n3 ⟨(w64 ((s11.n : Int) - 1)), rfl, h0, hL4⟩ ?_
 intro I1 mu1 hI1 junk2 tv1 h5 hi2
 obtain ⟨n2, ⟨p7, hv, hJ2, hL5⟩, hn2⟩ := hI1 _ _ hi2
 cases hv
 have H := HB1 n2 p7 h5 hJ2 hL5
 refine pop_geq .i64 p7 0 ?_
 refine guardM_st (fun hb3 => ?_) (fun hb3 => ?_)
 rotate_left
 ·have H := H.2 hb3
  refine gm hb3 ?_
  refine gm hb3 ?_
  refine gm hb3 ?_
  refine gn ?_
  refine gn ?_
  refine gn ?_
  refine gn ?_
  refine gn ?_
  refine gn ?_
  refine gn ?_
  refine gn ?_
  refine gn ?_
  refine gn ?_
  refine gn ?_
  refine gn ?_
  refine gm hb3 ?_
  refine pop_pickf' hb3 ?_
  refine condM_f ?_
  refine pop_lss .i64 p7 0 ?_
  refine condM_b (fun hb7 => ?_) (fun hb7 => ?_)
  ·exact H.1 hb7
  have H := H.2 hb7
  obtain ⟨hi9, H⟩ := H
  refine pop_index sli29 siz3 .i64 s11 p7 hi9 ?_
  obtain ⟨s50b, hc4, H⟩ := H
  refine rop_one one3 (VI s50b) hc4 ?_
  refine pop_add .i64 s50b 1 ?_
  obtain ⟨hi10, H⟩ := H
  refine pop_index sli29 siz3 .i64 s11 p7 hi10 ?_
  obtain ⟨hw_4, hL9, H⟩ := H
  refine uop_cell (v := (VI (w64 (s50b + 1)))) siz3 hw_4 rfl (fun h9 he_4 => ?_)
  rw [← he_4] at hL9
  have H := H h9 he_4 hL9
  obtain ⟨m_4, hm_4, H⟩ := H
  exact hn1 _ _ ⟨m_4, hm_4, rfl, H, hL9⟩
 have H := H.1 hb3
 refine gy hb3 ?_
 refine gy hb3 ?_
 refine pop_ieq .i64 _ _ p7 g1 ?_
 refine gy hb3 ?_
 refine guardM_sf (fun hb4 => ?_) (fun hb4 => ?_)
 rotate_left
 ·have H := H.1 hb4
  refine gm hb4 ?_
  refine gm hb4 ?_
  refine gm hb4 ?_
  refine gm hb4 ?_
  refine gm hb4 ?_
  refine gm hb4 ?_
  refine gm hb4 ?_
  refine gm hb4 ?_
  refine gm hb4 ?_
  refine gm hb4 ?_
  refine gm hb4 ?_
  refine gy hb3 ?_
  refine pop_pickt' hb4 ?_
  refine pop_pickt' hb3 ?_
  refine condM_t ?_
  obtain ⟨hi8, H⟩ := H
  refine pop_index sli29 siz3 .i64 s11 p7 hi8 ?_
  obtain ⟨hw_3, hL8, H⟩ := H
  refine uop_cell (v := (VI 0)) siz3 hw_3 rfl (fun h8 he_3 => ?_)
  rw [← he_3] at hL8
  have H := H h8 he_3 hL8
  refine pop_sub .i64 p7 1 ?_
  obtain ⟨m_3, hm_3, H⟩ := H
  exact hn2 _ _ ⟨m_3, hm_3, (w64 (p7 - 1)), rfl, H, hL8⟩
 have H := H.2 hb4
 refine gy hb4 ?_
 refine gy hb4 ?_
 obtain ⟨hi3, H⟩ := H
 refine pop_index sli29 siz3 .i64 s11 p7 hi3 ?_
 refine gy hb4 ?_
 obtain ⟨s29, hc3, H⟩ := H
 refine rop_one one3 (VI s29) hc3 ?_
 refine gy hb4 ?_
 refine pop_field 0 fld26_0 b1 0 ?_
 refine gy hb4 ?_
 refine rl one24 hL5 0 0 g0.v ?_
 refine gy hb4 ?_
 refine gy hb4 ?_
 obtain ⟨hi4, H⟩ := H
 refine pop_index sli24 siz29 .i64 g0 p7 hi4 ?_
 refine gy hb4 ?_
 obtain ⟨s34, hc2, H⟩ := H
 refine rop_one one29 s34.v hc2 ?_
 refine gy hb4 ?_
 refine pop_len s34 _ _ sli29 ?_
 refine gy hb4 ?_
 refine pop_sub .i64 (s34.n : Int) 1 ?_
 refine gy hb4 ?_
 refine pop_geq .i64 s29 (w64 ((s34.n : Int) - 1)) ?_
 refine gy hb3 ?_
 refine pop_pickf' hb4 ?_
 refine pop_pickt' hb3 ?_
 refine condM_b (fun hb5 => ?_) (fun hb5 => ?_)
 ·have H := H.1 hb5
  obtain ⟨hi5, H⟩ := H
  refine pop_index sli29 siz3 .i64 s11 p7 hi5 ?_
  obtain ⟨hw_1, hL6, H⟩ := H
  refine uop_cell (v := (VI 0)) siz3 hw_1 rfl (fun h6 he_1 => ?_)
  rw [← he_1] at hL6
  have H := H h6 he_1 hL6
  refine pop_sub .i64 p7 1 ?_
  obtain ⟨m_1, hm_1, H⟩ := H
  exact hn2 _ _ ⟨m_1, hm_1, (w64 (p7 - 1)), rfl, H, hL6⟩
 have H := H.2 hb5
 refine pop_lss .i64 p7 0 ?_
 refine condM_b (fun hb6 => ?_) (fun hb6 => ?_)
 ·exact H.1 hb6
 have H := H.2 hb6
 obtain ⟨hi6, H⟩ := H
 refine pop_index sli29 siz3 .i64 s11 p7 hi6 ?_
 obtain ⟨s50, hc1, H⟩ := H
 refine rop_one one3 (VI s50) hc1 ?_
 refine pop_add .i64 s50 1 ?_
 obtain ⟨hi7, H⟩ := H
 refine pop_index sli29 siz3 .i64 s11 p7 hi7 ?_
 obtain ⟨hw_2, hL7, H⟩ := H
 refine uop_cell (v := (VI (w64 (s50 + 1)))) siz3 hw_2 rfl (fun h7 he_2 => ?_)
 rw [← he_2] at hL7
 have H := H h7 he_2 hL7
 obtain ⟨m_2, hm_2, H⟩ := H
 exact hn1 _ _ ⟨m_2, hm_2, rfl, H, hL7⟩
def u96 (P : Program) (r0 : Sl) (b1 : Nat) (s1 : Int) (b2 : Nat) (s2 : Sl) (b3 : Nat) (s3 : Sl) (h : Heap) (K : KQ) : Prop :=
 ∀ (b4 : Nat) (h2 : Heap), h.size ≤ b4 -> Fr (In []) h h2 -> Vars h2 [(b4, [r0.v, (VI s1)]), (b1, [(VI s1)]), (b2, [s2.v]), (b3, [s3.v])] ->
 callM P 75 #[(.agg #[s2.v]), (.agg #[r0.v, (VI s1)])] h2 fun r1 h3 => ∃ s12 : Bool, r1 = (VB s12) /\ Vars h3 [(b4, [r0.v, (VI s1)]), (b1, [(VI s1)]), (b2, [s2.v]), (b3, [s3.v])] /\
 (s12 = true ->
 callM P 86 #[(.agg #[r0.v, (VI s1)])] h3 fun r2 h4 => ∃ s15 : Sl, ∃ s15b : Int, r2 = (.agg #[s15.v, (VI s15b)]) /\ Vars h4 [(b4, [r0.v, (VI s1)]), (b1, [(VI s1)]), (b2, [s2.v]), (b3, [s3.v])] /\
 eop P (buildSlice 62 1 #[(0, (.agg #[s15.v, (VI s15b)]))]) h4 fun r3 h5 => ∃ s16 : Sl, r3 = s16.v /\ Vars h5 [(b4, [r0.v, (VI s1)]), (b1, [(VI s1)]), (b2, [s2.v]), (b3, [s3.v])] /\
 eop P (appS 62 62 62 s3.v s16.v) h5 fun r4 h6 => ∃ s17 : Sl, r4 = s17.v /\ Vars h6 [(b4, [r0.v, (VI s1)]), (b1, [(VI s1)]), (b2, [s2.v]), (b3, [s3.v])] /\
 ∀ (h7 : Heap), Fr (In [b3]) h6 h7 -> Vars h7 [(b4, [r0.v, (VI s1)]), (b1, [(VI s1)]), (b2, [s2.v]), (b3, [s17.v])] ->
 K (VB true) h7) /\
 (s12 = false ->
 K (VB true) h3)
theorem v96 (r0 : Sl) (b1 : Nat) (s1 : Int) (b2 : Nat) (s2 : Sl) (b3 : Nat) (s3 : Sl) (h : Heap) (K : KQ) (hL : Vars h [(b1, [(VI s1)]), (b2, [s2.v]), (b3, [s3.v])]) (H : u96 Tryz.prog r0 b1 s1 b2 s2 b3 s3 h K) : callM Tryz.prog 96 #[r0.v, (VP b1 0), (VP b2 0), (VP b3 0)] h K := by
 refine c96 r0.v (VP b1 0) (VP b2 0) (VP b3 0) h K ?_
 unfold u96 at H
 unfold t96
 refine rl one3 hL 0 0 (VI s1) ?_
 refine pop.mk' (v := (Value.agg #[r0.v, (VI s1)])) (fun w => by kernel_rfl) ?_
 refine eop_alloc 48 zer48 rfl hL (fun b4 h1 hb1 hf1 hL1 => ?_)
 refine ul siz48 hL1 0 0 [r0.v, (VI s1)] [(b4, [r0.v, (VI s1)]), (b1, [(VI s1)]), (b2, [s2.v]), (b3, [s3.v])] (fun h2 hf2 hL2 => ?_)
 refine ra agg26 hL2 2 0 [s2.v] ?_
 refine ra agg48 hL2 0 0 [r0.v, (VI s1)] ?_
 refine (H b4 h2 hb1 (Fr.new (fo hf1) hb1 hf2) hL2).mono ?_
 rintro _ h3 ⟨s12, rfl, hL3, H⟩
 refine condM_b (fun hb2 => ?_) (fun hb2 => ?_)
 rotate_left
 ·exact H.2 hb2
 have H := H.1 hb2
 refine rl one62 hL3 3 0 s3.v ?_
 refine ra agg48 hL3 0 0 [r0.v, (VI s1)] ?_
 refine H.mono ?_
 rintro _ h4 ⟨s15, s15b, rfl, hL4, H⟩
 refine ⟨?_, ?_⟩
 ·exact still_loc one62 hL4 3 rfl 0 (v := s3.v) rfl
 refine H.mono ?_
 rintro _ h5 ⟨s16, rfl, hL5, H⟩
 refine ⟨?_, ?_⟩
 ·exact still_loc one62 hL5 3 rfl 0 (v := s3.v) rfl
 refine H.mono ?_
 rintro _ h6 ⟨s17, rfl, hL6, H⟩
 refine ul siz62 hL6 3 0 [s17.v] [(b4, [r0.v, (VI s1)]), (b1, [(VI s1)]), (b2, [s2.v]), (b3, [s17.v])] (fun h7 hf3 hL7 => ?_)
 exact H  h7  (fq hf3) hL7
def u97 (P : Program) (z0 : Sl) (h : Heap) (K : KQ) : Prop :=
 ∀ (b1 : Nat) (b2 : Nat) (h2 : Heap), h.size ≤ b1 -> h.size ≤ b2 -> Fr (In []) h h2 -> Vars h2 [(b2, [z0.v, (VI 0), (Value.int .u64 0)]), (b1, [nilSl.v])] ->
 callM P 105 #[(VP b2 0)] h2 fun r1 h3 => ∃ y1 : Sl, ∃ y2 : Int, ∃ y3 : Int, ∃ s9 : Sl, ∃ s9b : Int, r1 = (.tuple #[(.agg #[s9.v]), (VI s9b)]) /\ Vars h3 [(b2, [y1.v, (VI y2), (Value.int .u64 y3)]), (b1, [nilSl.v])] /\
 ∀ (h4 : Heap), Fr (In [b1]) h3 h4 -> Vars h4 [(b2, [y1.v, (VI y2), (Value.int .u64 y3)]), (b1, [s9.v])] ->
 K (.tuple #[(.agg #[s9.v]), (VI s9b)]) h4
theorem v97 (z0 : Sl) (h : Heap) (K : KQ) (H : u97 Tryz.prog z0 h K) : callM Tryz.prog 97 #[z0.v] h K := by
 refine c97 z0.v h K ?_
 unfold u97 at H
 unfold t97
 have hL : Vars h [] := .nil
 refine eop_alloc 26 zer26 rfl hL (fun b1 h1 hb1 hf1 hL1 => ?_)
 refine pop.mk' (v := (Value.agg #[z0.v, (VI 0), (Value.int .u64 0)])) (fun w => by kernel_rfl) ?_
 refine eop_box 74 (Value.agg #[z0.v, (VI 0), (Value.int .u64 0)]) rfl hL1 (fun b2 h2 hb2 hf2 hL2 => ?_)
 refine (H b1 b2 h2 hb1 (Nat.le_trans (Fr.size (fo hf1)) hb2) (Fr.no' (fo hf1) hf2) hL2).mono ?_
 rintro _ h3 ⟨y1, y2, y3, s9, s9b, rfl, hL3, H⟩
 refine pop_ext (v := (Value.agg #[s9.v])) rfl ?_
 refine pop_ext (v := (VI s9b)) rfl ?_
 refine ul siz26 hL3 1 0 [s9.v] [(b2, [y1.v, (VI y2), (Value.int .u64 y3)]), (b1, [s9.v])] (fun h4 hf3 hL4 => ?_)
 refine ra agg26 hL4 1 0 [s9.v] ?_
 exact H  h4  (fq hf3) hL4
def u98 (P : Program) (g0 : Sl) (p1 : Int) (h : Heap) (K : KQ) : Prop :=
 ∀ (b1 : Nat) (h1 : Heap), h.size ≤ b1 -> Fr (In []) h h1 -> Vars h1 [(b1, [g0.v])] ->
 callM P 91 #[(.agg #[g0.v])] h1 fun r1 h2 => ∃ s6 : Bool, r1 = (VB s6) /\ Vars h2 [(b1, [g0.v])] /\
 (s6 = true ->
 callM P 104 #[(VI p1), (VI 0), (VI (w64 ((g0.n : Int) - 1)))] h2 fun r2 h3 => ∃ s13 : Bool, r2 = (VB s13) /\ Vars h3 [(b1, [g0.v])] /\
 K (VB s13) h3) /\
 (s6 = false ->
 K (VB false) h2)
theorem v98 (g0 : Sl) (p1 : Int) (h : Heap) (K : KQ) (H : u98 Tryz.prog g0 p1 h K) : callM Tryz.prog 98 #[(Value.agg #[g0.v]), (VI p1)] h K := by
 refine c98 (Value.agg #[g0.v]) (VI p1) h K ?_
 unfold u98 at H
 unfold t98
 have hL : Vars h [] := .nil
 refine eop_box 26 (Value.agg #[g0.v]) rfl hL (fun b1 h1 hb1 hf1 hL1 => ?_)
 refine ra agg26 hL1 0 0 [g0.v] ?_
 refine (H b1 h1 hb1 (fo hf1) hL1).mono ?_
 rintro _ h2 ⟨s6, rfl, hL2, H⟩
 refine guardM_st (fun hb2 => ?_) (fun hb2 => ?_)
 rotate_left
 ·have H := H.2 hb2
  refine gm hb2 ?_
  refine gm hb2 ?_
  refine gm hb2 ?_
  refine gm hb2 ?_
  refine gm hb2 ?_
  refine pop_pickf' hb2 ?_
  exact H
 have H := H.1 hb2
 refine gy hb2 ?_
 refine pop_field 0 fld26_0 b1 0 ?_
 refine gy hb2 ?_
 refine rl one24 hL2 0 0 g0.v ?_
 refine gy hb2 ?_
 refine pop_len g0 _ _ sli24 ?_
 refine gy hb2 ?_
 refine pop_sub .i64 (g0.n : Int) 1 ?_
 refine gy hb2 ?_
 refine H.mono ?_
 rintro _ h3 ⟨s13, rfl, hL3, H⟩
 refine pop_pickt' hb2 ?_
 exact H
def u99 (P : Program) (g0 : Sl) (e1 : Int) (m2 : Int) (h : Heap) (K : KQ) : Prop :=
 ∀ (b1 : Nat) (h1 : Heap), h.size ≤ b1 -> Fr (In []) h h1 -> Vars h1 [(b1, [g0.v])] ->
 eop P (Instr.makeSlice 29 (VI (g0.n : Int)) (VI (g0.n : Int))) h1 fun r1 h2 => ∃ s13 : Sl, r1 = s13.v /\ Vars h2 [(b1, [g0.v])] /\
 ∀ (b2 : Nat) (h3 : Heap), h2.size ≤ b2 -> Fr (In []) h2 h3 -> Vars h3 [(b2, [g0.v, (VI e1), s13.v, nilSl.v, (VI m2)]), (b1, [g0.v])] ->
 callM P 135 #[(VP b2 0), (VI 0)] h3 fun r2 h4 => ∃ y1 : Sl, ∃ y2 : Int, ∃ y3 : Sl, ∃ y4 : Sl, ∃ y5 : Int, Vars h4 [(b2, [y1.v, (VI y2), y3.v, y4.v, (VI y5)]), (b1, [g0.v])] /\
 K y4.v h4
theorem v99 (g0 : Sl) (e1 : Int) (m2 : Int) (h : Heap) (K : KQ) (H : u99 Tryz.prog g0 e1 m2 h K) : callM Tryz.prog 99 #[(Value.agg #[g0.v]), (VI e1), (VI m2)] h K := by
 refine c99 (Value.agg #[g0.v]) (VI e1) (VI m2) h K ?_
 unfold u99 at H
 unfold t99
 have hL : Vars h [] := .nil
 refine eop_box 26 (Value.agg #[g0.v]) rfl hL (fun b1 h1 hb1 hf1 hL1 => ?_)
 refine ra agg26 hL1 0 0 [g0.v] ?_
 refine pop_field 0 fld26_0 b1 0 ?_
 refine rl one24 hL1 0 0 g0.v ?_
 refine pop_len g0 _ _ sli24 ?_
 refine (H b1 h1 hb1 (fo hf1) hL1).mono ?_
 rintro _ h2 ⟨s13, rfl, hL2, H⟩
 refine ⟨?_, ?_⟩
 ·exact still_loc one24 hL2 0 rfl 0 (v := g0.v) rfl
 refine ⟨?_, ?_⟩
 ·exact still_locA agg26 hL2 0 rfl 0 (vs := [g0.v]) rfl rfl
 refine pop.mk' (v := (Value.agg #[g0.v, (VI e1), s13.v, nilSl.v, (VI m2)])) (fun w => by kernel_rfl) ?_
 refine eop_box 138 (Value.agg #[g0.v, (VI e1), s13.v, nilSl.v, (VI m2)]) rfl hL2 (fun b2 h3 hb2 hf2 hL3 => ?_)
 have H := H b2 h3 hb2 (fo hf2) hL3
 refine ⟨?_, ?_⟩
 ·exact still_loc one24 hL3 1 rfl 0 (v := g0.v) rfl
 refine ⟨?_, ?_⟩
 ·exact still_locA agg26 hL3 1 rfl 0 (vs := [g0.v]) rfl rfl
 refine H.mono fun r2 h4 H => ?_
 obtain ⟨y1, y2, y3, y4, y5, hL4, H⟩ := H
 refine pop_nil _ ?_
 refine pop_field 3 fld138_3 b2 0 ?_
 refine rl one24 hL4 0 3 y4.v ?_
 exact H
def u100 (P : Program) (a0 : Sl) (z1 : Sl) (h : Heap) (K : KQ) : Prop :=
 ∃ J1 : Nat -> Int -> Heap -> Prop, (∃ n0 : Nat, J1 n0 0 h) /\
 ∀ (n1 : Nat) (s9 : Int) (h1 : Heap), J1 n1 s9 h1 -> Vars h1 [] ->
 ((decide (s9 < (a0.n : Int))) = true ->
 InB a0 s9 /\
 ∃ s13 : Int, hcell h1 (Sl.at a0 s9 1) = some (VI s13) /\
 InB z1 s9 /\
 ∃ s18 : Int, hcell h1 (Sl.at z1 s9 1) = some (VI s18) /\
 ((!decide (s13 = s18)) = true ->
 InB z1 s9 /\
 ∃ s24 : Int, hcell h1 (Sl.at z1 s9 1) = some (VI s24) /\
 K (VB (decide (s13 < s24))) h1) /\
 ((!decide (s13 = s18)) = false ->
 ∃ m : Nat, m < n1 /\ J1 m (w64 (s9 + 1)) h1)) /\
 ((decide (s9 < (a0.n : Int))) = false ->
 K (VB false) h1)
theorem v100 (a0 : Sl) (z1 : Sl) (h : Heap) (K : KQ) (H : u100 Tryz.prog a0 z1 h K) : callM Tryz.prog 100 #[a0.v, z1.v] h K := by
 refine c100 a0.v z1.v h K ?_
 unfold u100 at H
 unfold t100
 have hL : Vars h [] := .nil
 refine pop_len a0 _ _ sli29 ?_
 obtain ⟨J1, ⟨n2, h0⟩, HB1⟩ := H
 refine loop_intro (J := fun (n : Nat) (vs : List Value) (h' : Heap) => ∃ s9 : Int, vs = [(VI s9)] /\ J1 n s9 h' /\ Vars h' []) n2 ⟨0, rfl, h0, hL⟩ ?_
 intro I1 mu1 hI1 junk1 tv1 h1 hi1
 obtain ⟨n1, ⟨s9, hv, hJ1, hL1⟩, hn1⟩ := hI1 _ _ hi1
 cases hv
 have H := HB1 n1 s9 h1 hJ1 hL1
 refine pop_lss .i64 s9 (a0.n : Int) ?_
 refine condM_b (fun hb1 => ?_) (fun hb1 => ?_)
 rotate_left
 ·exact H.2 hb1
 have H := H.1 hb1
 obtain ⟨hi2, H⟩ := H
 refine pop_index sli29 siz3 .i64 a0 s9 hi2 ?_
 obtain ⟨s13, hc3, H⟩ := H
 refine rop_one one3 (VI s13) hc3 ?_
 obtain ⟨hi3, H⟩ := H
 refine pop_index sli29 siz3 .i64 z1 s9 hi3 ?_
 obtain ⟨s18, hc2, H⟩ := H
 refine rop_one one3 (VI s18) hc2 ?_
 refine pop_ine .i64 _ _ s13 s18 ?_
 refine condM_b (fun hb2 => ?_) (fun hb2 => ?_)
 rotate_left
 ·have H := H.2 hb2
  refine pop_add .i64 s9 1 ?_
  obtain ⟨m_1, hm_1, H⟩ := H
  exact hn1 _ _ ⟨m_1, hm_1, (w64 (s9 + 1)), rfl, H, hL1⟩
 have H := H.1 hb2
 obtain ⟨hi4, H⟩ := H
 refine pop_index sli29 siz3 .i64 z1 s9 hi4 ?_
 obtain ⟨s24, hc1, H⟩ := H
 refine rop_one one3 (VI s24) hc1 ?_
 refine pop_lss .i64 s13 s24 ?_
 exact H
def u101 (P : Program) (b1 : Nat) (c0 : Sl) (c0a : Int) (c0b : Int) (h : Heap) (K : KQ) : Prop :=
 ∀ (b2 : Nat) (h1 : Heap), h.size ≤ b2 -> Fr (In []) h h1 -> Vars h1 [(b2, [nilSl.v]), (b1, [c0.v, (VI c0a), (Value.int .u64 c0b)])] ->
 callM P 105 #[(VP b1 0)] h1 fun r1 h2 => ∃ y1 : Sl, ∃ y2 : Int, ∃ y3 : Int, ∃ s11 : Sl, ∃ s11b : Int, r1 = (.tuple #[(.agg #[s11.v]), (VI s11b)]) /\ Vars h2 [(b2, [nilSl.v]), (b1, [y1.v, (VI y2), (Value.int .u64 y3)])] /\
 ∀ (b3 : Nat) (h4 : Heap), h2.size ≤ b3 -> Fr (In []) h2 h4 -> Vars h4 [(b3, [s11.v]), (b2, [nilSl.v]), (b1, [y1.v, (VI y2), (Value.int .u64 y3)])] ->
 callM P 98 #[(.agg #[s11.v]), (VI s11b)] h4 fun r2 h5 => ∃ s16 : Bool, r2 = (VB s16) /\ Vars h5 [(b3, [s11.v]), (b2, [nilSl.v]), (b1, [y1.v, (VI y2), (Value.int .u64 y3)])] /\
 ((!s16) = true ->
 ∀ (h6 : Heap), Fr (In [b2]) h5 h6 -> Vars h6 [(b3, [s11.v]), (b2, [s11.v]), (b1, [y1.v, (VI y2), (Value.int .u64 y3)])] ->
 K (.tuple #[(.agg #[s11.v]), (VI s11b), nilSl.v]) h6) /\
 ((!s16) = false ->
 callM P 136 #[(.agg #[s11.v]), (VI s11b)] h5 fun r3 h7 => ∃ s22 : Bool, r3 = (VB s22) /\ Vars h7 [(b3, [s11.v]), (b2, [nilSl.v]), (b1, [y1.v, (VI y2), (Value.int .u64 y3)])] /\
 (s22 = true ->
 callM P 67 #[(VP b1 0), (VI 3)] h7 fun r4 h8 => ∃ y4 : Sl, ∃ y5 : Int, ∃ y6 : Int, ∃ s25 : Bool, r4 = (VB s25) /\ Vars h8 [(b3, [s11.v]), (b2, [nilSl.v]), (b1, [y4.v, (VI y5), (Value.int .u64 y6)])] /\
 ((!s25) = true ->
 callM P 99 #[(.agg #[s11.v]), (VI s11b), (VI 20)] h8 fun r5 h9 => ∃ s30 : Sl, r5 = s30.v /\ Vars h9 [(b3, [s11.v]), (b2, [nilSl.v]), (b1, [y4.v, (VI y5), (Value.int .u64 y6)])] /\
 callM P 52 #[(VP b1 0), (VI (s30.n : Int))] h9 fun r6 h10 => ∃ y7 : Sl, ∃ y8 : Int, ∃ y9 : Int, ∃ s37 : Int, r6 = (VI s37) /\ Vars h10 [(b3, [s11.v]), (b2, [nilSl.v]), (b1, [y7.v, (VI y8), (Value.int .u64 y9)])] /\
 InB s30 s37 /\
 ∃ s39 : Sl, hcell h10 (Sl.at s30 s37 1) = some s39.v /\
 callM P 79 #[s39.v] h10 fun r7 h11 => ∃ s40 : Sl, r7 = s40.v /\ Vars h11 [(b3, [s11.v]), (b2, [nilSl.v]), (b1, [y7.v, (VI y8), (Value.int .u64 y9)])] /\
 ∀ (h12 : Heap), Fr (In [b2]) h11 h12 -> Vars h12 [(b3, [s11.v]), (b2, [s11.v]), (b1, [y7.v, (VI y8), (Value.int .u64 y9)])] ->
 K (.tuple #[(.agg #[s11.v]), (VI s11b), s40.v]) h12) /\
 ((!s25) = false ->
 callM P 137 #[(VP b1 0), (.agg #[s11.v])] h8 fun r8 h13 => ∃ y10 : Sl, ∃ y11 : Int, ∃ y12 : Int, ∃ s43 : Sl, ∃ s43b : Int, r8 = (.agg #[s43.v, (VI s43b)]) /\ Vars h13 [(b3, [s11.v]), (b2, [nilSl.v]), (b1, [y10.v, (VI y11), (Value.int .u64 y12)])] /\
 ∀ (b4 : Nat) (h15 : Heap), h13.size ≤ b4 -> Fr (In []) h13 h15 -> Vars h15 [(b4, [s43.v, (VI s43b)]), (b3, [s11.v]), (b2, [nilSl.v]), (b1, [y10.v, (VI y11), (Value.int .u64 y12)])] ->
 ∃ J1 : Sl -> Int -> Int -> Heap -> Prop, (callM P 67 #[(VP b1 0), (VI 8)] h15 fun r9 h16 => ∃ y16 : Sl, ∃ y17 : Int, ∃ y18 : Int, ∃ s45 : Bool, r9 = (VB s45) /\ Vars h16 [(b4, [s43.v, (VI s43b)]), (b3, [s11.v]), (b2, [nilSl.v]), (b1, [y16.v, (VI y17), (Value.int .u64 y18)])] /\
 ((!s45) = true ->
 InB s43 s11b /\
 Writable h16 (Sl.at s43 s11b 1) /\ Vars (hset h16 (Sl.at s43 s11b 1) (VI 0)) [(b4, [s43.v, (VI s43b)]), (b3, [s11.v]), (b2, [nilSl.v]), (b1, [y16.v, (VI y17), (Value.int .u64 y18)])] /\
 ∀ h17 : Heap, h17 = hset h16 (Sl.at s43 s11b 1) (VI 0) -> Vars h17 [(b4, [s43.v, (VI s43b)]), (b3, [s11.v]), (b2, [nilSl.v]), (b1, [y16.v, (VI y17), (Value.int .u64 y18)])] ->
 J1 y16 y17 y18 h17) /\
 ((!s45) = false ->
 J1 y16 y17 y18 h16)) /\
 ∀ (y13 : Sl) (y14 : Int) (y15 : Int) (h18 : Heap), J1 y13 y14 y15 h18 -> Vars h18 [(b4, [s43.v, (VI s43b)]), (b3, [s11.v]), (b2, [nilSl.v]), (b1, [y13.v, (VI y14), (Value.int .u64 y15)])] ->
 ∀ (h19 : Heap), Fr (In [b2]) h18 h19 -> Vars h19 [(b4, [s43.v, (VI s43b)]), (b3, [s11.v]), (b2, [s11.v]), (b1, [y13.v, (VI y14), (Value.int .u64 y15)])] ->
 K (.tuple #[(.agg #[s11.v]), (VI s11b), s43.v]) h19)) /\
 (s22 = false ->
 callM P 137 #[(VP b1 0), (.agg #[s11.v])] h7 fun r10 h20 => ∃ y19 : Sl, ∃ y20 : Int, ∃ y21 : Int, ∃ s43c : Sl, ∃ s43d : Int, r10 = (.agg #[s43c.v, (VI s43d)]) /\ Vars h20 [(b3, [s11.v]), (b2, [nilSl.v]), (b1, [y19.v, (VI y20), (Value.int .u64 y21)])] /\
 ∀ (b5 : Nat) (h22 : Heap), h20.size ≤ b5 -> Fr (In []) h20 h22 -> Vars h22 [(b5, [s43c.v, (VI s43d)]), (b3, [s11.v]), (b2, [nilSl.v]), (b1, [y19.v, (VI y20), (Value.int .u64 y21)])] ->
 ∃ J2 : Sl -> Int -> Int -> Heap -> Prop, (callM P 67 #[(VP b1 0), (VI 8)] h22 fun r11 h23 => ∃ y25 : Sl, ∃ y26 : Int, ∃ y27 : Int, ∃ s45b : Bool, r11 = (VB s45b) /\ Vars h23 [(b5, [s43c.v, (VI s43d)]), (b3, [s11.v]), (b2, [nilSl.v]), (b1, [y25.v, (VI y26), (Value.int .u64 y27)])] /\
 ((!s45b) = true ->
 InB s43c s11b /\
 Writable h23 (Sl.at s43c s11b 1) /\ Vars (hset h23 (Sl.at s43c s11b 1) (VI 0)) [(b5, [s43c.v, (VI s43d)]), (b3, [s11.v]), (b2, [nilSl.v]), (b1, [y25.v, (VI y26), (Value.int .u64 y27)])] /\
 ∀ h24 : Heap, h24 = hset h23 (Sl.at s43c s11b 1) (VI 0) -> Vars h24 [(b5, [s43c.v, (VI s43d)]), (b3, [s11.v]), (b2, [nilSl.v]), (b1, [y25.v, (VI y26), (Value.int .u64 y27)])] ->
 J2 y25 y26 y27 h24) /\
 ((!s45b) = false ->
 J2 y25 y26 y27 h23)) /\
 ∀ (y22 : Sl) (y23 : Int) (y24 : Int) (h25 : Heap), J2 y22 y23 y24 h25 -> Vars h25 [(b5, [s43c.v, (VI s43d)]), (b3, [s11.v]), (b2, [nilSl.v]), (b1, [y22.v, (VI y23), (Value.int .u64 y24)])] ->
 ∀ (h26 : Heap), Fr (In [b2]) h25 h26 -> Vars h26 [(b5, [s43c.v, (VI s43d)]), (b3, [s11.v]), (b2, [s11.v]), (b1, [y22.v, (VI y23), (Value.int .u64 y24)])] ->
 K (.tuple #[(.agg #[s11.v]), (VI s11b), s43c.v]) h26))
theorem v101 (b1 : Nat) (c0 : Sl) (c0a : Int) (c0b : Int) (h : Heap) (K : KQ) (hL : Vars h [(b1, [c0.v, (VI c0a), (Value.int .u64 c0b)])]) (H : u101 Tryz.prog b1 c0 c0a c0b h K) : callM Tryz.prog 101 #[(VP b1 0)] h K := by
 refine c101 (VP b1 0) h K ?_
 unfold u101 at H
 unfold t101
 refine eop_alloc 26 zer26 rfl hL (fun b2 h1 hb1 hf1 hL1 => ?_)
 refine (H b2 h1 hb1 (fo hf1) hL1).mono ?_
 rintro _ h2 ⟨y1, y2, y3, s11, s11b, rfl, hL2, H⟩
 refine pop_ext (v := (Value.agg #[s11.v])) rfl ?_
 refine pop_ext (v := (VI s11b)) rfl ?_
 refine eop_alloc 26 zer26 rfl hL2 (fun b3 h3 hb2 hf2 hL3 => ?_)
 refine ul siz26 hL3 0 0 [s11.v] [(b3, [s11.v]), (b2, [nilSl.v]), (b1, [y1.v, (VI y2), (Value.int .u64 y3)])] (fun h4 hf3 hL4 => ?_)
 refine ra agg26 hL4 0 0 [s11.v] ?_
 refine (H b3 h4 hb2 (Fr.new (fo hf2) hb2 hf3) hL4).mono ?_
 rintro _ h5 ⟨s16, rfl, hL5, H⟩
 refine pop_not s16 ?_
 refine condM_b (fun hb3 => ?_) (fun hb3 => ?_)
 ·have H := H.1 hb3
  refine ra agg26 hL5 0 0 [s11.v] ?_
  refine ul siz26 hL5 1 0 [s11.v] [(b3, [s11.v]), (b2, [s11.v]), (b1, [y1.v, (VI y2), (Value.int .u64 y3)])] (fun h6 hf4 hL6 => ?_)
  refine ra agg26 hL6 1 0 [s11.v] ?_
  exact H  h6  (fq hf4) hL6
 have H := H.2 hb3
 refine ra agg26 hL5 0 0 [s11.v] ?_
 refine H.mono ?_
 rintro _ h7 ⟨s22, rfl, hL7, H⟩
 refine guardM_st (fun hb4 => ?_) (fun hb4 => ?_)
 rotate_left
 ·have H := H.2 hb4
  refine gm hb4 ?_
  refine gm hb4 ?_
  refine pop_pickf' hb4 ?_
  refine condM_f ?_
  refine ra agg26 hL7 0 0 [s11.v] ?_
  refine H.mono ?_
  rintro _ h20 ⟨y19, y20, y21, s43c, s43d, rfl, hL20, H⟩
  refine eop_alloc 48 zer48 rfl hL20 (fun b5 h21 hb8 hf9 hL21 => ?_)
  refine ul siz48 hL21 0 0 [s43c.v, (VI s43d)] [(b5, [s43c.v, (VI s43d)]), (b3, [s11.v]), (b2, [nilSl.v]), (b1, [y19.v, (VI y20), (Value.int .u64 y21)])] (fun h22 hf10 hL22 => ?_)
  have H := H b5 h22 hb8 (Fr.new (fo hf9) hb8 hf10) hL22
  obtain ⟨J2, H, HB2⟩ := H
  refine ⟨fun (vs : List Value) (h' : Heap) => ∃ y22 : Sl, ∃ y23 : Int, ∃ y24 : Int, vs = [] /\ J2 y22 y23 y24 h' /\ Vars h' [(b5, [s43c.v, (VI s43d)]), (b3, [s11.v]), (b2, [nilSl.v]), (b1, [y22.v, (VI y23), (Value.int .u64 y24)])], ?_, ?_⟩
  ·refine H.mono ?_
   rintro _ h23 ⟨y25, y26, y27, s45b, rfl, hL23, H⟩
   refine pop_not s45b ?_
   refine condM_b (fun hb9 => ?_) (fun hb9 => ?_)
   rotate_left
   ·have H := H.2 hb9
    exact ⟨y25, y26, y27, rfl, H, hL23⟩
   have H := H.1 hb9
   refine pop_field 0 fld48_0 b5 0 ?_
   refine rl one29 hL23 0 0 s43c.v ?_
   obtain ⟨hi3, H⟩ := H
   refine pop_index sli29 siz3 .i64 s43c s11b hi3 ?_
   obtain ⟨hw_2, hL24, H⟩ := H
   refine uop_cell (v := (VI 0)) siz3 hw_2 rfl (fun h24 he_2 => ?_)
   rw [← he_2] at hL24
   have H := H h24 he_2 hL24
   exact ⟨y25, y26, y27, rfl, H, hL24⟩
  intro junk2  h25
  rintro ⟨y22, y23, y24, hv, hJ2, hL25⟩
  have H := HB2 y22 y23 y24 h25 hJ2 hL25
  refine ra agg26 hL25 1 0 [s11.v] ?_
  refine pop_field 0 fld48_0 b5 0 ?_
  refine rl one29 hL25 0 0 s43c.v ?_
  refine ul siz26 hL25 2 0 [s11.v] [(b5, [s43c.v, (VI s43d)]), (b3, [s11.v]), (b2, [s11.v]), (b1, [y22.v, (VI y23), (Value.int .u64 y24)])] (fun h26 hf11 hL26 => ?_)
  have H := H  h26  (fq hf11) hL26
  refine ⟨?_, ?_⟩
  ·exact still_loc one29 hL26 0 rfl 0 (v := s43c.v) rfl
  refine ra agg26 hL26 2 0 [s11.v] ?_
  exact H
 have H := H.1 hb4
 refine gy hb4 ?_
 refine H.mono ?_
 rintro _ h8 ⟨y4, y5, y6, s25, rfl, hL8, H⟩
 refine gy hb4 ?_
 refine pop_not s25 ?_
 refine pop_pickt' hb4 ?_
 refine condM_b (fun hb5 => ?_) (fun hb5 => ?_)
 ·have H := H.1 hb5
  refine ra agg26 hL8 0 0 [s11.v] ?_
  refine H.mono ?_
  rintro _ h9 ⟨s30, rfl, hL9, H⟩
  refine ra agg26 hL9 0 0 [s11.v] ?_
  refine pop_len s30 _ _ sli24 ?_
  refine H.mono ?_
  rintro _ h10 ⟨y7, y8, y9, s37, rfl, hL10, H⟩
  refine ⟨?_, ?_⟩
  ·exact still_locA agg26 hL10 0 rfl 0 (vs := [s11.v]) rfl rfl
  obtain ⟨hi1, H⟩ := H
  refine pop_index sli24 siz29 .i64 s30 s37 hi1 ?_
  obtain ⟨s39, hc1, H⟩ := H
  refine rop_one one29 s39.v hc1 ?_
  refine H.mono ?_
  rintro _ h11 ⟨s40, rfl, hL11, H⟩
  refine ⟨?_, ?_⟩
  ·exact still_locA agg26 hL11 0 rfl 0 (vs := [s11.v]) rfl rfl
  refine ul siz26 hL11 1 0 [s11.v] [(b3, [s11.v]), (b2, [s11.v]), (b1, [y7.v, (VI y8), (Value.int .u64 y9)])] (fun h12 hf5 hL12 => ?_)
  refine ra agg26 hL12 1 0 [s11.v] ?_
  exact H  h12  (fq hf5) hL12
 have H := H.2 hb5
 refine ra agg26 hL8 0 0 [s11.v] ?_
 refine H.mono ?_
 rintro _ h13 ⟨y10, y11, y12, s43, s43b, rfl, hL13, H⟩
 refine eop_alloc 48 zer48 rfl hL13 (fun b4 h14 hb6 hf6 hL14 => ?_)
 refine ul siz48 hL14 0 0 [s43.v, (VI s43b)] [(b4, [s43.v, (VI s43b)]), (b3, [s11.v]), (b2, [nilSl.v]), (b1, [y10.v, (VI y11), (Value.int .u64 y12)])] (fun h15 hf7 hL15 => ?_)
 have H := H b4 h15 hb6 (Fr.new (fo hf6) hb6 hf7) hL15
 obtain ⟨J1, H, HB1⟩ := H
 refine ⟨fun (vs : List Value) (h' : Heap) => ∃ y13 : Sl, ∃ y14 : Int, ∃ y15 : Int, vs = [] /\ J1 y13 y14 y15 h' /\ Vars h' [(b4, [s43.v, (VI s43b)]), (b3, [s11.v]), (b2, [nilSl.v]), (b1, [y13.v, (VI y14), (Value.int .u64 y15)])], ?_, ?_⟩
 ·refine H.mono ?_
  rintro _ h16 ⟨y16, y17, y18, s45, rfl, hL16, H⟩
  refine pop_not s45 ?_
  refine condM_b (fun hb7 => ?_) (fun hb7 => ?_)
  rotate_left
  ·have H := H.2 hb7
   exact ⟨y16, y17, y18, rfl, H, hL16⟩
  have H := H.1 hb7
  refine pop_field 0 fld48_0 b4 0 ?_
  refine rl one29 hL16 0 0 s43.v ?_
  obtain ⟨hi2, H⟩ := H
  refine pop_index sli29 siz3 .i64 s43 s11b hi2 ?_
  obtain ⟨hw_1, hL17, H⟩ := H
  refine uop_cell (v := (VI 0)) siz3 hw_1 rfl (fun h17 he_1 => ?_)
  rw [← he_1] at hL17
  have H := H h17 he_1 hL17
  exact ⟨y16, y17, y18, rfl, H, hL17⟩
 intro junk1  h18
 rintro ⟨y13, y14, y15, hv, hJ1, hL18⟩
 have H := HB1 y13 y14 y15 h18 hJ1 hL18
 refine ra agg26 hL18 1 0 [s11.v] ?_
 refine pop_field 0 fld48_0 b4 0 ?_
 refine rl one29 hL18 0 0 s43.v ?_
 refine ul siz26 hL18 2 0 [s11.v] [(b4, [s43.v, (VI s43b)]), (b3, [s11.v]), (b2, [s11.v]), (b1, [y13.v, (VI y14), (Value.int .u64 y15)])] (fun h19 hf8 hL19 => ?_)
 have H := H  h19  (fq hf8) hL19
 refine ⟨?_, ?_⟩
 ·exact still_loc one29 hL19 0 rfl 0 (v := s43.v) rfl
 refine ra agg26 hL19 2 0 [s11.v] ?_
 exact H
def u102 (P : Program) (g0 : Sl) (e1 : Int) (a2 : Sl) (h : Heap) (K : KQ) : Prop :=
 ∀ (b1 : Nat) (h1 : Heap), h.size ≤ b1 -> Fr (In []) h h1 -> Vars h1 [(b1, [g0.v])] ->
 callM P 98 #[(.agg #[g0.v]), (VI e1)] h1 fun r1 h2 => ∃ s9 : Bool, r1 = (VB s9) /\ Vars h2 [(b1, [g0.v])] /\
 (s9 = true ->
 callM P 76 #[(.agg #[g0.v]), (.agg #[a2.v, (VI e1)])] h2 fun r2 h3 => ∃ s15 : Bool, r2 = (VB s15) /\ Vars h3 [(b1, [g0.v])] /\
 (s15 = true ->
 InB a2 e1 /\
 ∃ s21 : Int, hcell h3 (Sl.at a2 e1 1) = some (VI s21) /\
 K (VB (decide (s21 = 0))) h3) /\
 (s15 = false ->
 K (VB false) h3)) /\
 (s9 = false ->
 K (VB false) h2)
theorem v102 (g0 : Sl) (e1 : Int) (a2 : Sl) (h : Heap) (K : KQ) (H : u102 Tryz.prog g0 e1 a2 h K) : callM Tryz.prog 102 #[(Value.agg #[g0.v]), (VI e1), a2.v] h K := by
 refine c102 (Value.agg #[g0.v]) (VI e1) a2.v h K ?_
 unfold u102 at H
 unfold t102
 have hL : Vars h [] := .nil
 refine eop_box 26 (Value.agg #[g0.v]) rfl hL (fun b1 h1 hb1 hf1 hL1 => ?_)
 refine ra agg26 hL1 0 0 [g0.v] ?_
 refine (H b1 h1 hb1 (fo hf1) hL1).mono ?_
 rintro _ h2 ⟨s9, rfl, hL2, H⟩
 refine guardM_st (fun hb2 => ?_) (fun hb2 => ?_)
 rotate_left
 ·have H := H.2 hb2
  refine gm hb2 ?_
  refine gm hb2 ?_
  refine gm hb2 ?_
  refine gm hb2 ?_
  refine pop_pickf' hb2 ?_
  refine gn ?_
  refine gn ?_
  refine gn ?_
  refine gn ?_
  refine gn ?_
  refine pop_pickf _ _ ?_
  exact H
 have H := H.1 hb2
 refine ra agg26 hL2 0 0 [g0.v] ?_
 refine gy hb2 ?_
 refine gy hb2 ?_
 refine gy hb2 ?_
 refine pop.mk' (v := (Value.agg #[a2.v, (VI e1)])) (fun w => by kernel_rfl) ?_
 refine gy hb2 ?_
 refine H.mono ?_
 rintro _ h3 ⟨s15, rfl, hL3, H⟩
 refine pop_pickt' hb2 ?_
 refine guardM_st (fun hb3 => ?_) (fun hb3 => ?_)
 rotate_left
 ·have H := H.2 hb3
  refine gm hb3 ?_
  refine gm hb3 ?_
  refine gm hb3 ?_
  refine gm hb3 ?_
  refine pop_pickf' hb3 ?_
  exact H
 have H := H.1 hb3
 refine gy hb3 ?_
 refine gy hb3 ?_
 obtain ⟨hi1, H⟩ := H
 refine pop_index sli29 siz3 .i64 a2 e1 hi1 ?_
 refine gy hb3 ?_
 obtain ⟨s21, hc1, H⟩ := H
 refine rop_one one3 (VI s21) hc1 ?_
 refine gy hb3 ?_
 refine pop_ieq .i64 _ _ s21 0 ?_
 refine pop_pickt' hb3 ?_
 exact H
def u103 (P : Program) (g0 : Sl) (e1 : Int) (a2 : Sl) (h : Heap) (K : KQ) : Prop :=
 ∀ (b1 : Nat) (h1 : Heap), h.size ≤ b1 -> Fr (In []) h h1 -> Vars h1 [(b1, [g0.v])] ->
 ∃ J1 : Nat -> Int -> Heap -> Prop, (∃ n0 : Nat, J1 n0 0 h1) /\
 ∀ (n1 : Nat) (s11 : Int) (h2 : Heap), J1 n1 s11 h2 -> Vars h2 [(b1, [g0.v])] ->
 ((decide (s11 < (g0.n : Int))) = true ->
 callM P 138 #[(.agg #[g0.v]), (VI e1), a2.v, (VI s11)] h2 fun r1 h3 => ∃ s18 : Int, r1 = (VI s18) /\ Vars h3 [(b1, [g0.v])] /\
 ((decide (s18 < 0)) = true ->
 K (VB false) h3) /\
 ((decide (s18 < 0)) = false ->
 ∃ m : Nat, m < n1 /\ J1 m (w64 (s11 + 1)) h3)) /\
 ((decide (s11 < (g0.n : Int))) = false ->
 K (VB true) h2)
theorem v103 (g0 : Sl) (e1 : Int) (a2 : Sl) (h : Heap) (K : KQ) (H : u103 Tryz.prog g0 e1 a2 h K) : callM Tryz.prog 103 #[(Value.agg #[g0.v]), (VI e1), a2.v] h K := by
 refine c103 (Value.agg #[g0.v]) (VI e1) a2.v h K ?_
 unfold u103 at H
 unfold t103
 have hL : Vars h [] := .nil
 refine eop_box 26 (Value.agg #[g0.v]) rfl hL (fun b1 h1 hb1 hf1 hL1 => ?_)
 refine pop_field 0 fld26_0 b1 0 ?_
 refine rl one24 hL1 0 0 g0.v ?_
 refine pop_len g0 _ _ sli24 ?_
 have H := H b1 h1 hb1 (fo hf1) hL1
 obtain ⟨J1, ⟨n2, h0⟩, HB1⟩ := H
 refine loop_intro (J := fun (n : Nat) (vs : List Value) (h' : Heap) => ∃ s11 : Int, vs = [(VI s11)] /\ J1 n s11 h' /\ Vars h' [(b1, [g0.v])]) n2 ⟨0, rfl, h0, hL1⟩ ?_
 intro I1 mu1 hI1 junk1 tv1 h2 hi1
 obtain ⟨n1, ⟨s11, hv, hJ1, hL2⟩, hn1⟩ := hI1 _ _ hi1
 cases hv
 have H := HB1 n1 s11 h2 hJ1 hL2
 refine pop_lss .i64 s11 (g0.n : Int) ?_
 refine condM_b (fun hb2 => ?_) (fun hb2 => ?_)
 rotate_left
 ·exact H.2 hb2
 have H := H.1 hb2
 refine ra agg26 hL2 0 0 [g0.v] ?_
 refine H.mono ?_
 rintro _ h3 ⟨s18, rfl, hL3, H⟩
 refine pop_lss .i64 s18 0 ?_
 refine condM_b (fun hb3 => ?_) (fun hb3 => ?_)
 ·exact H.1 hb3
 have H := H.2 hb3
 refine pop_add .i64 s11 1 ?_
 obtain ⟨m_1, hm_1, H⟩ := H
 exact hn1 _ _ ⟨m_1, hm_1, (w64 (s11 + 1)), rfl, H, hL3⟩
def u104 (P : Program) (y0 : Int) (q1 : Int) (z2 : Int) (h : Heap) (K : KQ) : Prop :=
 ((decide (q1 ≤ y0)) = true ->
 K (VB (decide (y0 ≤ z2))) h) /\
 ((decide (q1 ≤ y0)) = false ->
 K (VB false) h)
theorem v104 (y0 : Int) (q1 : Int) (z2 : Int) (h : Heap) (K : KQ) (H : u104 Tryz.prog y0 q1 z2 h K) : callM Tryz.prog 104 #[(VI y0), (VI q1), (VI z2)] h K := by
 refine c104 (VI y0) (VI q1) (VI z2) h K ?_
 unfold u104 at H
 unfold t104
 have hL : Vars h [] := .nil
 refine pop_geq .i64 y0 q1 ?_
 refine guardM_st (fun hb1 => ?_) (fun hb1 => ?_)
 rotate_left
 ·have H := H.2 hb1
  refine gm hb1 ?_
  refine gm hb1 ?_
  refine pop_pickf' hb1 ?_
  exact H
 have H := H.1 hb1
 refine gy hb1 ?_
 refine gy hb1 ?_
 refine pop_leq .i64 y0 z2 ?_
 refine pop_pickt' hb1 ?_
 exact H
def u105 (P : Program) (b1 : Nat) (c0 : Sl) (c0a : Int) (c0b : Int) (h : Heap) (K : KQ) : Prop :=
 ∀ (b2 : Nat) (h1 : Heap), h.size ≤ b2 -> Fr (In []) h h1 -> Vars h1 [(b2, [nilSl.v]), (b1, [c0.v, (VI c0a), (Value.int .u64 c0b)])] ->
 callM P 131 #[(VP b1 0)] h1 fun r1 h2 => ∃ y1 : Sl, ∃ y2 : Int, ∃ y3 : Int, ∃ s6 : Sl, r1 = (.agg #[s6.v]) /\ Vars h2 [(b2, [nilSl.v]), (b1, [y1.v, (VI y2), (Value.int .u64 y3)])] /\
 ∀ (b3 : Nat) (h4 : Heap), h2.size ≤ b3 -> Fr (In []) h2 h4 -> Vars h4 [(b3, [s6.v]), (b2, [nilSl.v]), (b1, [y1.v, (VI y2), (Value.int .u64 y3)])] ->
 ∃ J1 : Sl -> Sl -> Int -> Int -> Heap -> Prop, (callM P 67 #[(VP b1 0), (VI 3)] h4 fun r2 h5 => ∃ y8 : Sl, ∃ y9 : Int, ∃ y10 : Int, ∃ s8 : Bool, r2 = (VB s8) /\ Vars h5 [(b3, [s6.v]), (b2, [nilSl.v]), (b1, [y8.v, (VI y9), (Value.int .u64 y10)])] /\
 (s8 = true ->
 callM P 139 #[(VP b1 0)] h5 fun r3 h6 => ∃ y11 : Sl, ∃ y12 : Int, ∃ y13 : Int, ∃ s10 : Sl, r3 = (.agg #[s10.v]) /\ Vars h6 [(b3, [s6.v]), (b2, [nilSl.v]), (b1, [y11.v, (VI y12), (Value.int .u64 y13)])] /\
 ∀ (h7 : Heap), Fr (In [b3]) h6 h7 -> Vars h7 [(b3, [s10.v]), (b2, [nilSl.v]), (b1, [y11.v, (VI y12), (Value.int .u64 y13)])] ->
 J1 s10 y11 y12 y13 h7) /\
 (s8 = false ->
 J1 s6 y8 y9 y10 h5)) /\
 ∀ (y4 : Sl) (y5 : Sl) (y6 : Int) (y7 : Int) (h8 : Heap), J1 y4 y5 y6 y7 h8 -> Vars h8 [(b3, [y4.v]), (b2, [nilSl.v]), (b1, [y5.v, (VI y6), (Value.int .u64 y7)])] ->
 callM P 140 #[(VP b1 0), (.agg #[y4.v])] h8 fun r4 h9 => ∃ y14 : Sl, ∃ y15 : Int, ∃ y16 : Int, ∃ s14 : Int, r4 = (VI s14) /\ Vars h9 [(b3, [y4.v]), (b2, [nilSl.v]), (b1, [y14.v, (VI y15), (Value.int .u64 y16)])] /\
 ∀ (h10 : Heap), Fr (In [b2]) h9 h10 -> Vars h10 [(b3, [y4.v]), (b2, [y4.v]), (b1, [y14.v, (VI y15), (Value.int .u64 y16)])] ->
 K (.tuple #[(.agg #[y4.v]), (VI s14)]) h10
theorem v105 (b1 : Nat) (c0 : Sl) (c0a : Int) (c0b : Int) (h : Heap) (K : KQ) (hL : Vars h [(b1, [c0.v, (VI c0a), (Value.int .u64 c0b)])]) (H : u105 Tryz.prog b1 c0 c0a c0b h K) : callM Tryz.prog 105 #[(VP b1 0)] h K := by
 refine c105 (VP b1 0) h K ?_
 unfold u105 at H
 unfold t105
 refine eop_alloc 26 zer26 rfl hL (fun b2 h1 hb1 hf1 hL1 => ?_)
 refine (H b2 h1 hb1 (fo hf1) hL1).mono ?_
 rintro _ h2 ⟨y1, y2, y3, s6, rfl, hL2, H⟩
 refine eop_alloc 26 zer26 rfl hL2 (fun b3 h3 hb2 hf2 hL3 => ?_)
 refine ul siz26 hL3 0 0 [s6.v] [(b3, [s6.v]), (b2, [nilSl.v]), (b1, [y1.v, (VI y2), (Value.int .u64 y3)])] (fun h4 hf3 hL4 => ?_)
 have H := H b3 h4 hb2 (Fr.new (fo hf2) hb2 hf3) hL4
 obtain ⟨J1, H, HB1⟩ := H
 refine ⟨fun (vs : List Value) (h' : Heap) => ∃ y4 : Sl, ∃ y5 : Sl, ∃ y6 : Int, ∃ y7 : Int, vs = [] /\ J1 y4 y5 y6 y7 h' /\ Vars h' [(b3, [y4.v]), (b2, [nilSl.v]), (b1, [y5.v, (VI y6), (Value.int .u64 y7)])], ?_, ?_⟩
 ·refine H.mono ?_
  rintro _ h5 ⟨y8, y9, y10, s8, rfl, hL5, H⟩
  refine condM_b (fun hb3 => ?_) (fun hb3 => ?_)
  rotate_left
  ·have H := H.2 hb3
   exact ⟨s6, y8, y9, y10, rfl, H, hL5⟩
  have H := H.1 hb3
  refine H.mono ?_
  rintro _ h6 ⟨y11, y12, y13, s10, rfl, hL6, H⟩
  refine ul siz26 hL6 0 0 [s10.v] [(b3, [s10.v]), (b2, [nilSl.v]), (b1, [y11.v, (VI y12), (Value.int .u64 y13)])] (fun h7 hf4 hL7 => ?_)
  have H := H  h7  (fq hf4) hL7
  exact ⟨s10, y11, y12, y13, rfl, H, hL7⟩
 intro junk1  h8
 rintro ⟨y4, y5, y6, y7, hv, hJ1, hL8⟩
 have H := HB1 y4 y5 y6 y7 h8 hJ1 hL8
 refine ra agg26 hL8 0 0 [y4.v] ?_
 refine ra agg26 hL8 0 0 [y4.v] ?_
 refine H.mono ?_
 rintro _ h9 ⟨y14, y15, y16, s14, rfl, hL9, H⟩
 refine ⟨?_, ?_⟩
 ·exact still_locA agg26 hL9 0 rfl 0 (vs := [y4.v]) rfl rfl
 refine ul siz26 hL9 1 0 [y4.v] [(b3, [y4.v]), (b2, [y4.v]), (b1, [y14.v, (VI y15), (Value.int .u64 y16)])] (fun h10 hf5 hL10 => ?_)
 refine ra agg26 hL10 1 0 [y4.v] ?_
 exact H  h10  (fq hf5) hL10
def u106 (P : Program) (b1 : Nat) (c0 : Sl) (c0a : Int) (c0b : Int) (h : Heap) (K : KQ) : Prop :=
 ∃ J1 : Int -> Heap -> Prop, (((decide (c0a < (c0.n : Int))) = true ->
 InB c0 c0a /\
 ∃ s23 : Int, hcell h (Sl.at c0 c0a 1) = some (Value.int .u8 s23) /\
 rop P (convert 5 3 (Value.int .u8 s23)) h fun r1 => ∃ s24 : Int, r1 = (VI s24) /\ 
 J1 s24 h) /\
 ((decide (c0a < (c0.n : Int))) = false ->
 J1 0 h)) /\
 ∀ (y1 : Int) (h1 : Heap), J1 y1 h1 -> Vars h1 [(b1, [c0.v, (VI c0a), (Value.int .u64 c0b)])] ->
 ∀ (h2 : Heap), Fr (In [b1]) h1 h2 -> Vars h2 [(b1, [c0.v, (VI (w64 (c0a + 1))), (Value.int .u64 c0b)])] ->
 rop P (convert 3 72 (VI y1)) h2 fun r2 => ∃ s39 : Int, r2 = (Value.int .u64 s39) /\ 
 ((decide ((w64 (c0a + 1)) ≤ (c0.n : Int))) = true ->
 ∀ (h3 : Heap), Fr (In [b1]) h2 h3 -> Vars h3 [(b1, [c0.v, (VI (w64 (c0a + 1))), (Value.int .u64 (IntKind.wrap .u64 ((IntKind.wrap .u64 ((IntKind.wrap .u64 (c0b * 6364136223846793005)) + s39)) + 1442695040888963407)))])] ->
 K (VI y1) h3) /\
 ((decide ((w64 (c0a + 1)) ≤ (c0.n : Int))) = false ->
 pop P (binA .shr 72 (Value.int .u64 (IntKind.wrap .u64 ((IntKind.wrap .u64 ((IntKind.wrap .u64 (c0b * 6364136223846793005)) + s39)) + 1442695040888963407))) (Value.int IntKind.u64 40)) fun r3 => ∃ s59 : Int, r3 = (Value.int .u64 s59) /\ 
 pop P (binA .and 72 (Value.int .u64 s59) (Value.int IntKind.u64 255)) fun r4 => ∃ s60 : Int, r4 = (Value.int .u64 s60) /\ 
 ∀ (h3 : Heap), Fr (In [b1]) h2 h3 -> Vars h3 [(b1, [c0.v, (VI (w64 (c0a + 1))), (Value.int .u64 (IntKind.wrap .u64 ((IntKind.wrap .u64 ((IntKind.wrap .u64 (c0b * 6364136223846793005)) + s39)) + 1442695040888963407)))])] ->
 rop P (convert 72 3 (Value.int .u64 s60)) h3 fun r5 => ∃ s61 : Int, r5 = (VI s61) /\ 
 K (VI s61) h3)
theorem v106 (b1 : Nat) (c0 : Sl) (c0a : Int) (c0b : Int) (h : Heap) (K : KQ) (hL : Vars h [(b1, [c0.v, (VI c0a), (Value.int .u64 c0b)])]) (H : u106 Tryz.prog b1 c0 c0a c0b h K) : callM Tryz.prog 106 #[(VP b1 0)] h K := by
 refine c106 (VP b1 0) h K ?_
 unfold u106 at H
 unfold t106
 obtain ⟨J1, H, HB1⟩ := H
 refine ⟨fun (vs : List Value) (h' : Heap) => ∃ y1 : Int, vs = [(VI y1)] /\ J1 y1 h' /\ Vars h' [(b1, [c0.v, (VI c0a), (Value.int .u64 c0b)])], ?_, ?_⟩
 ·refine pop_nil _ ?_
  refine pop_field 1 fld74_1 b1 0 ?_
  refine rl one3 hL 0 1 (VI c0a) ?_
  refine pop_nil _ ?_
  refine pop_field 0 fld74_0 b1 0 ?_
  refine rl one22 hL 0 0 c0.v ?_
  refine pop_len c0 _ _ sli22 ?_
  refine pop_lss .i64 c0a (c0.n : Int) ?_
  refine condM_b (fun hb1 => ?_) (fun hb1 => ?_)
  rotate_left
  ·have H := H.2 hb1
   exact ⟨0, rfl, H, hL⟩
  have H := H.1 hb1
  refine pop_nil _ ?_
  refine pop_field 0 fld74_0 b1 0 ?_
  refine rl one22 hL 0 0 c0.v ?_
  refine pop_nil _ ?_
  refine pop_field 1 fld74_1 b1 0 ?_
  refine rl one3 hL 0 1 (VI c0a) ?_
  obtain ⟨hi1, H⟩ := H
  refine pop_index sli22 siz5 .i64 c0 c0a hi1 ?_
  obtain ⟨s23, hc1, H⟩ := H
  refine rop_one one5 (Value.int .u8 s23) hc1 ?_
  refine H.mono fun r1 H => ?_
  obtain ⟨s24, rfl, H⟩ := H
  exact ⟨s24, rfl, H, hL⟩
 intro junk1 tv1 h1
 rintro ⟨y1, hv, hJ1, hL1⟩
 cases hv
 have H := HB1 y1 h1 hJ1 hL1
 refine pop_nil _ ?_
 refine pop_field 1 fld74_1 b1 0 ?_
 refine rl one3 hL1 0 1 (VI c0a) ?_
 refine pop_add .i64 c0a 1 ?_
 refine pop_nil _ ?_
 refine pop_field 1 fld74_1 b1 0 ?_
 refine ul siz3 hL1 0 1 [(VI (w64 (c0a + 1)))] [(b1, [c0.v, (VI (w64 (c0a + 1))), (Value.int .u64 c0b)])] (fun h2 hf1 hL2 => ?_)
 refine pop_nil _ ?_
 refine pop_field 2 fld74_2 b1 0 ?_
 refine rl one72 hL2 0 2 (Value.int .u64 c0b) ?_
 refine pop_mul .u64 c0b 6364136223846793005 ?_
 refine (H  h2  (fq hf1) hL2).mono fun r2 H => ?_
 obtain ⟨s39, rfl, H⟩ := H
 refine pop_add .u64 (IntKind.wrap .u64 (c0b * 6364136223846793005)) s39 ?_
 refine pop_add .u64 (IntKind.wrap .u64 ((IntKind.wrap .u64 (c0b * 6364136223846793005)) + s39)) 1442695040888963407 ?_
 refine pop_nil _ ?_
 refine pop_field 2 fld74_2 b1 0 ?_
 refine ul siz72 hL2 0 2 [(Value.int .u64 (IntKind.wrap .u64 ((IntKind.wrap .u64 ((IntKind.wrap .u64 (c0b * 6364136223846793005)) + s39)) + 1442695040888963407)))] [(b1, [c0.v, (VI (w64 (c0a + 1))), (Value.int .u64 (IntKind.wrap .u64 ((IntKind.wrap .u64 ((IntKind.wrap .u64 (c0b * 6364136223846793005)) + s39)) + 1442695040888963407)))])] (fun h3 hf2 hL3 => ?_)
 refine pop_nil _ ?_
 refine pop_field 1 fld74_1 b1 0 ?_
 refine rl one3 hL3 0 1 (VI (w64 (c0a + 1))) ?_
 refine pop_nil _ ?_
 refine pop_field 0 fld74_0 b1 0 ?_
 refine rl one22 hL3 0 0 c0.v ?_
 refine pop_len c0 _ _ sli22 ?_
 refine pop_leq .i64 (w64 (c0a + 1)) (c0.n : Int) ?_
 refine condM_b (fun hb2 => ?_) (fun hb2 => ?_)
 ·have H := H.1 hb2
  exact H  h3  (fq hf2) hL3
 have H := H.2 hb2
 refine pop_nil _ ?_
 refine pop_field 2 fld74_2 b1 0 ?_
 refine rl one72 hL3 0 2 (Value.int .u64 (IntKind.wrap .u64 ((IntKind.wrap .u64 ((IntKind.wrap .u64 (c0b * 6364136223846793005)) + s39)) + 1442695040888963407))) ?_
 refine H.mono fun r3 H => ?_
 obtain ⟨s59, rfl, H⟩ := H
 refine H.mono fun r4 H => ?_
 obtain ⟨s60, rfl, H⟩ := H
 refine (H  h3  (fq hf2) hL3).mono fun r5 H => ?_
 obtain ⟨s61, rfl, H⟩ := H
 exact H
def u107 (P : Program) (v0 : Sl) (f1 : Value) (h : Heap) (K : KQ) : Prop :=
 callM P 141 #[v0.v, f1] h fun r1 h1 => ∃ s7 : Int, r1 = (VI s7) /\ Vars h1 [] /\
 K (VB (decide (0 ≤ s7))) h1
theorem v107 (v0 : Sl) (f1 : Value) (h : Heap) (K : KQ) (H : u107 Tryz.prog v0 f1 h K) : callM Tryz.prog 107 #[v0.v, f1] h K := by
 refine c107 v0.v f1 h K ?_
 unfold u107 at H
 unfold t107
 have hL : Vars h [] := .nil
 refine H.mono ?_
 rintro _ h1 ⟨s7, rfl, hL1, H⟩
 refine pop_geq .i64 s7 0 ?_
 exact H
def u112 (P : Program) (l0 : Sl) (a1 : Int) (h : Heap) (K : KQ) : Prop :=
 ∃ J1 : Nat -> Int -> Heap -> Prop, (∃ n0 : Nat, J1 n0 0 h) /\
 ∀ (n1 : Nat) (s9 : Int) (h1 : Heap), J1 n1 s9 h1 -> Vars h1 [] ->
 ((decide (s9 < (l0.n : Int))) = true ->
 InB l0 s9 /\
 ∃ s12 : Int, hcell h1 (Sl.at l0 s9 1) = some (VI s12) /\
 ((decide (s12 = a1)) = true ->
 K (VB true) h1) /\
 ((decide (s12 = a1)) = false ->
 ∃ m : Nat, m < n1 /\ J1 m (w64 (s9 + 1)) h1)) /\
 ((decide (s9 < (l0.n : Int))) = false ->
 K (VB false) h1)
theorem v112 (l0 : Sl) (a1 : Int) (h : Heap) (K : KQ) (H : u112 Tryz.prog l0 a1 h K) : callM Tryz.prog 112 #[l0.v, (VI a1)] h K := by
 refine c112 l0.v (VI a1) h K ?_
 unfold u112 at H
 unfold t112
 have hL : Vars h [] := .nil
 refine pop_len l0 _ _ sli29 ?_
 obtain ⟨J1, ⟨n2, h0⟩, HB1⟩ := H
 refine loop_intro (J := fun (n : Nat) (vs : List Value) (h' : Heap) => ∃ s9 : Int, vs = [(VI s9)] /\ J1 n s9 h' /\ Vars h' []) n2 ⟨0, rfl, h0, hL⟩ ?_
 intro I1 mu1 hI1 junk1 tv1 h1 hi1
 obtain ⟨n1, ⟨s9, hv, hJ1, hL1⟩, hn1⟩ := hI1 _ _ hi1
 cases hv
 have H := HB1 n1 s9 h1 hJ1 hL1
 refine pop_lss .i64 s9 (l0.n : Int) ?_
 refine condM_b (fun hb1 => ?_) (fun hb1 => ?_)
 rotate_left
 ·exact H.2 hb1
 have H := H.1 hb1
 obtain ⟨hi2, H⟩ := H
 refine pop_index sli29 siz3 .i64 l0 s9 hi2 ?_
 obtain ⟨s12, hc1, H⟩ := H
 refine rop_one one3 (VI s12) hc1 ?_
 refine pop_ieq .i64 _ _ s12 a1 ?_
 refine condM_b (fun hb2 => ?_) (fun hb2 => ?_)
 ·exact H.1 hb2
 have H := H.2 hb2
 refine pop_add .i64 s9 1 ?_
 obtain ⟨m_1, hm_1, H⟩ := H
 exact hn1 _ _ ⟨m_1, hm_1, (w64 (s9 + 1)), rfl, H, hL1⟩
def u113 (P : Program) (g0 : Sl) (d1 : Sl) (h : Heap) (K : KQ) : Prop :=
 ∀ (b1 : Nat) (h1 : Heap), h.size ≤ b1 -> Fr (In []) h h1 -> Vars h1 [(b1, [g0.v])] ->
 callM P 74 #[(.agg #[g0.v]), (.agg #[d1.v, (VI 0)])] h1 fun r1 h2 => ∃ s8 : Bool, r1 = (VB s8) /\ Vars h2 [(b1, [g0.v])] /\
 K (VB s8) h2
theorem v113 (g0 : Sl) (d1 : Sl) (h : Heap) (K : KQ) (H : u113 Tryz.prog g0 d1 h K) : callM Tryz.prog 113 #[(Value.agg #[g0.v]), d1.v] h K := by
 refine c113 (Value.agg #[g0.v]) d1.v h K ?_
 unfold u113 at H
 unfold t113
 have hL : Vars h [] := .nil
 refine eop_box 26 (Value.agg #[g0.v]) rfl hL (fun b1 h1 hb1 hf1 hL1 => ?_)
 refine ra agg26 hL1 0 0 [g0.v] ?_
 refine pop.mk' (v := (Value.agg #[d1.v, (VI 0)])) (fun w => by kernel_rfl) ?_
 refine (H b1 h1 hb1 (fo hf1) hL1).mono ?_
 rintro _ h2 ⟨s8, rfl, hL2, H⟩
 exact H
def u114 (P : Program) (g0 : Sl) (e1 : Int) (a2 : Sl) (h : Heap) (K : KQ) : Prop :=
 ∀ (b1 : Nat) (h1 : Heap), h.size ≤ b1 -> Fr (In []) h h1 -> Vars h1 [(b1, [g0.v])] ->
 eop P (buildSlice 29 0 #[]) h1 fun r1 h2 => ∃ s12 : Sl, r1 = s12.v /\ Vars h2 [(b1, [g0.v])] /\
 ∃ J1 : Nat -> Sl -> Int -> Heap -> Prop, (∃ n0 : Nat, J1 n0 s12 0 h2) /\
 ∀ (n1 : Nat) (o8 : Sl) (s16 : Int) (h3 : Heap), J1 n1 o8 s16 h3 -> Vars h3 [(b1, [g0.v])] ->
 ((decide (s16 < (g0.n : Int))) = true ->
 ∃ J2 : Nat -> Int -> Int -> Heap -> Prop, (∃ n0 : Nat, J2 n0 0 s16 h3) /\
 ∀ (n2 : Nat) (m10 : Int) (a11 : Int) (h4 : Heap), J2 n2 m10 a11 h4 -> Vars h4 [(b1, [g0.v])] ->
 ((!decide (a11 = e1)) = true ->
 callM P 126 #[(.agg #[g0.v]), a2.v, (VI a11)] h4 fun r2 h5 => ∃ s28 : Int, r2 = (VI s28) /\ Vars h5 [(b1, [g0.v])] /\
 ((decide (s28 < 0)) = true ->
 K (.tuple #[nilSl.v, (VB false)]) h5) /\
 ((decide (s28 < 0)) = false ->
 ((decide ((g0.n : Int) < m10)) = true ->
 K (.tuple #[nilSl.v, (VB false)]) h5) /\
 ((decide ((g0.n : Int) < m10)) = false ->
 ∃ m : Nat, m < n2 /\ J2 m (w64 (m10 + 1)) s28 h5))) /\
 ((!decide (a11 = e1)) = false ->
 eop P (buildSlice 29 1 #[(0, (VI m10))]) h4 fun r3 h6 => ∃ s40 : Sl, r3 = s40.v /\ Vars h6 [(b1, [g0.v])] /\
 eop P (appS 29 29 29 o8.v s40.v) h6 fun r4 h7 => ∃ s41 : Sl, r4 = s41.v /\ Vars h7 [(b1, [g0.v])] /\
 ∃ m : Nat, m < n1 /\ J1 m s41 (w64 (s16 + 1)) h7)) /\
 ((decide (s16 < (g0.n : Int))) = false ->
 K (.tuple #[o8.v, (VB true)]) h3)
theorem v114 (g0 : Sl) (e1 : Int) (a2 : Sl) (h : Heap) (K : KQ) (H : u114 Tryz.prog g0 e1 a2 h K) : callM Tryz.prog 114 #[(Value.agg #[g0.v]), (VI e1), a2.v] h K := by
 refine c114 (Value.agg #[g0.v]) (VI e1) a2.v h K ?_
 unfold u114 at H
 unfold t114
 have hL : Vars h [] := .nil
 refine eop_box 26 (Value.agg #[g0.v]) rfl hL (fun b1 h1 hb1 hf1 hL1 => ?_)
 refine (H b1 h1 hb1 (fo hf1) hL1).mono ?_
 rintro _ h2 ⟨s12, rfl, hL2, H⟩
 refine pop_field 0 fld26_0 b1 0 ?_
 refine rl one24 hL2 0 0 g0.v ?_
 refine pop_len g0 _ _ sli24 ?_
 obtain ⟨J1, ⟨n4, h0a⟩, HB2⟩ := H
 refine loop_intro (J := fun (n : Nat) (vs : List Value) (h' : Heap) => ∃ o8 : Sl, ∃ s16 : Int, vs = [o8.v, (VI s16)] /\ J1 n o8 s16 h' /\ Vars h' [(b1, [g0.v])]) n4 ⟨s12, 0, rfl, h0a, hL2⟩ ?_
 intro I2 mu2 hI2 junk1 tv3 tv4 h3 hi1
 obtain ⟨n1, ⟨o8, s16, hv, hJ1, hL3⟩, hn1⟩ := hI2 _ _ hi1
 cases hv
 have H := HB2 n1 o8 s16 h3 hJ1 hL3
 refine pop_lss .i64 s16 (g0.n : Int) ?_
 refine condM_b (fun hb2 => ?_) (fun hb2 => ?_)
 rotate_left
 ·exact H.2 hb2
 have H := H.1 hb2
 obtain ⟨J2, ⟨n3, h0⟩, HB1⟩ := H
 refine loop_intro (J := fun (n : Nat) (vs : List Value) (h' : Heap) => ∃ m10 : Int, ∃ a11 : Int, vs = [(VI m10), (VI a11)] /\ J2 n m10 a11 h' /\ Vars h' [(b1, [g0.v])]) n3 ⟨0, s16, rfl, h0, hL3⟩ ?_
 intro I1 mu1 hI1 junk2 tv1 tv2 h4 hi2
 obtain ⟨n2, ⟨m10, a11, hv, hJ2, hL4⟩, hn2⟩ := hI1 _ _ hi2
 cases hv
 have H := HB1 n2 m10 a11 h4 hJ2 hL4
 refine pop_ine .i64 _ _ a11 e1 ?_
 refine condM_b (fun hb3 => ?_) (fun hb3 => ?_)
 rotate_left
 ·have H := H.2 hb3
  refine H.mono ?_
  rintro _ h6 ⟨s40, rfl, hL6, H⟩
  refine H.mono ?_
  rintro _ h7 ⟨s41, rfl, hL7, H⟩
  refine pop_add .i64 s16 1 ?_
  obtain ⟨m_2, hm_2, H⟩ := H
  exact hn1 _ _ ⟨m_2, hm_2, s41, (w64 (s16 + 1)), rfl, H, hL7⟩
 have H := H.1 hb3
 refine ra agg26 hL4 0 0 [g0.v] ?_
 refine H.mono ?_
 rintro _ h5 ⟨s28, rfl, hL5, H⟩
 refine pop_lss .i64 s28 0 ?_
 refine guardM_sf (fun hb4 => ?_) (fun hb4 => ?_)
 rotate_left
 ·have H := H.1 hb4
  refine gm hb4 ?_
  refine gm hb4 ?_
  refine gm hb4 ?_
  refine gm hb4 ?_
  refine pop_pickt' hb4 ?_
  refine condM_t ?_
  exact H
 have H := H.2 hb4
 refine gy hb4 ?_
 refine pop_field 0 fld26_0 b1 0 ?_
 refine gy hb4 ?_
 refine rl one24 hL5 0 0 g0.v ?_
 refine gy hb4 ?_
 refine pop_len g0 _ _ sli24 ?_
 refine gy hb4 ?_
 refine pop_gtr .i64 m10 (g0.n : Int) ?_
 refine pop_pickf' hb4 ?_
 refine condM_b (fun hb5 => ?_) (fun hb5 => ?_)
 ·exact H.1 hb5
 have H := H.2 hb5
 refine pop_add .i64 m10 1 ?_
 obtain ⟨m_1, hm_1, H⟩ := H
 exact hn2 _ _ ⟨m_1, hm_1, (w64 (m10 + 1)), s28, rfl, H, hL5⟩
def u117 (P : Program) (q0 : Int) (b1 : Nat) (s1 : Int) (h : Heap) (K : KQ) : Prop :=
 callM P 84 #[(VI q0), (VI 0), (VI (w64 (s1 - 1)))] h fun r1 h1 => ∃ s7 : Bool, r1 = (VB s7) /\ Vars h1 [(b1, [(VI s1)])] /\
 K (VB (!s7)) h1
theorem v117 (q0 : Int) (b1 : Nat) (s1 : Int) (h : Heap) (K : KQ) (hL : Vars h [(b1, [(VI s1)])]) (H : u117 Tryz.prog q0 b1 s1 h K) : callM Tryz.prog 117 #[(VI q0), (VP b1 0)] h K := by
 refine c117 (VI q0) (VP b1 0) h K ?_
 unfold u117 at H
 unfold t117
 refine rl one3 hL 0 0 (VI s1) ?_
 refine pop_sub .i64 s1 1 ?_
 refine H.mono ?_
 rintro _ h1 ⟨s7, rfl, hL1, H⟩
 refine pop_not s7 ?_
 exact H
def u122 (P : Program) (b1 : Nat) (c0 : Sl) (c0a : Int) (c0b : Int) (h : Heap) (K : KQ) : Prop :=
 ∀ (b2 : Nat) (b3 : Nat) (h2 : Heap), h.size ≤ b2 -> h.size ≤ b3 -> Fr (In []) h h2 -> Vars h2 [(b3, [nilSl.v, (VI 0)]), (b2, [nilSl.v]), (b1, [c0.v, (VI c0a), (Value.int .u64 c0b)])] ->
 callM P 67 #[(VP b1 0), (VI 3)] h2 fun r1 h3 => ∃ y1 : Sl, ∃ y2 : Int, ∃ y3 : Int, ∃ s10 : Bool, r1 = (VB s10) /\ Vars h3 [(b3, [nilSl.v, (VI 0)]), (b2, [nilSl.v]), (b1, [y1.v, (VI y2), (Value.int .u64 y3)])] /\
 (s10 = true ->
 callM P 148 #[(VP b1 0)] h3 fun r2 h4 => ∃ y4 : Sl, ∃ y5 : Int, ∃ y6 : Int, ∃ s12 : Sl, ∃ s12b : Sl, ∃ s12c : Int, r2 = (.tuple #[(.agg #[s12.v]), (.agg #[s12b.v, (VI s12c)])]) /\ Vars h4 [(b3, [nilSl.v, (VI 0)]), (b2, [nilSl.v]), (b1, [y4.v, (VI y5), (Value.int .u64 y6)])] /\
 ∀ (h6 : Heap), Fr (In [b3, b2]) h4 h6 -> Vars h6 [(b3, [s12b.v, (VI s12c)]), (b2, [s12.v]), (b1, [y4.v, (VI y5), (Value.int .u64 y6)])] ->
 K (.tuple #[(.agg #[s12.v]), (.agg #[s12b.v, (VI s12c)])]) h6) /\
 (s10 = false ->
 callM P 101 #[(VP b1 0)] h3 fun r3 h7 => ∃ y7 : Sl, ∃ y8 : Int, ∃ y9 : Int, ∃ s17 : Sl, ∃ s17b : Int, ∃ s17c : Sl, r3 = (.tuple #[(.agg #[s17.v]), (VI s17b), s17c.v]) /\ Vars h7 [(b3, [nilSl.v, (VI 0)]), (b2, [nilSl.v]), (b1, [y7.v, (VI y8), (Value.int .u64 y9)])] /\
 ∀ (b4 : Nat) (h9 : Heap), h7.size ≤ b4 -> Fr (In []) h7 h9 -> Vars h9 [(b4, [s17.v]), (b3, [nilSl.v, (VI 0)]), (b2, [nilSl.v]), (b1, [y7.v, (VI y8), (Value.int .u64 y9)])] ->
 callM P 102 #[(.agg #[s17.v]), (VI s17b), s17c.v] h9 fun r4 h10 => ∃ s24 : Bool, r4 = (VB s24) /\ Vars h10 [(b4, [s17.v]), (b3, [nilSl.v, (VI 0)]), (b2, [nilSl.v]), (b1, [y7.v, (VI y8), (Value.int .u64 y9)])] /\
 ((!s24) = true ->
 ∀ (h12 : Heap), Fr (In [b3, b2]) h10 h12 -> Vars h12 [(b4, [s17.v]), (b3, [s17c.v, (VI s17b)]), (b2, [s17.v]), (b1, [y7.v, (VI y8), (Value.int .u64 y9)])] ->
 K (.tuple #[(.agg #[s17.v]), (.agg #[s17c.v, (VI s17b)])]) h12) /\
 ((!s24) = false ->
 ∀ (b5 : Nat) (h14 : Heap), h10.size ≤ b5 -> Fr (In []) h10 h14 -> Vars h14 [(b5, [s17c.v, (VI s17b)]), (b4, [s17.v]), (b3, [nilSl.v, (VI 0)]), (b2, [nilSl.v]), (b1, [y7.v, (VI y8), (Value.int .u64 y9)])] ->
 ∃ J1 : Sl -> Int -> Int -> Heap -> Prop, (InB s17 s17b /\
 ∃ s37 : Sl, hcell h14 (Sl.at s17 s17b 1) = some s37.v /\
 ((decide (0 < (s37.n : Int))) = true ->
 callM P 52 #[(VP b1 0), (VI (s37.n : Int))] h14 fun r5 h15 => ∃ y13 : Sl, ∃ y14 : Int, ∃ y15 : Int, ∃ s46 : Int, r5 = (VI s46) /\ Vars h15 [(b5, [s17c.v, (VI s17b)]), (b4, [s17.v]), (b3, [nilSl.v, (VI 0)]), (b2, [nilSl.v]), (b1, [y13.v, (VI y14), (Value.int .u64 y15)])] /\
 InB s17c s17b /\
 Writable h15 (Sl.at s17c s17b 1) /\ Vars (hset h15 (Sl.at s17c s17b 1) (VI s46)) [(b5, [s17c.v, (VI s17b)]), (b4, [s17.v]), (b3, [nilSl.v, (VI 0)]), (b2, [nilSl.v]), (b1, [y13.v, (VI y14), (Value.int .u64 y15)])] /\
 ∀ h16 : Heap, h16 = hset h15 (Sl.at s17c s17b 1) (VI s46) -> Vars h16 [(b5, [s17c.v, (VI s17b)]), (b4, [s17.v]), (b3, [nilSl.v, (VI 0)]), (b2, [nilSl.v]), (b1, [y13.v, (VI y14), (Value.int .u64 y15)])] ->
 J1 y13 y14 y15 h16) /\
 ((decide (0 < (s37.n : Int))) = false ->
 J1 y7 y8 y9 h14)) /\
 ∀ (y10 : Sl) (y11 : Int) (y12 : Int) (h17 : Heap), J1 y10 y11 y12 h17 -> Vars h17 [(b5, [s17c.v, (VI s17b)]), (b4, [s17.v]), (b3, [nilSl.v, (VI 0)]), (b2, [nilSl.v]), (b1, [y10.v, (VI y11), (Value.int .u64 y12)])] ->
 ∀ (h18 : Heap), Fr (In [b2]) h17 h18 -> Vars h18 [(b5, [s17c.v, (VI s17b)]), (b4, [s17.v]), (b3, [nilSl.v, (VI 0)]), (b2, [s17.v]), (b1, [y10.v, (VI y11), (Value.int .u64 y12)])] ->
 ∀ (h19 : Heap), Fr (In [b3]) h18 h19 -> Vars h19 [(b5, [s17c.v, (VI s17b)]), (b4, [s17.v]), (b3, [s17c.v, (VI s17b)]), (b2, [s17.v]), (b1, [y10.v, (VI y11), (Value.int .u64 y12)])] ->
 K (.tuple #[(.agg #[s17.v]), (.agg #[s17c.v, (VI s17b)])]) h19))
theorem v122 (b1 : Nat) (c0 : Sl) (c0a : Int) (c0b : Int) (h : Heap) (K : KQ) (hL : Vars h [(b1, [c0.v, (VI c0a), (Value.int .u64 c0b)])]) (H : u122 Tryz.prog b1 c0 c0a c0b h K) : callM Tryz.prog 122 #[(VP b1 0)] h K := by
 refine c122 (VP b1 0) h K ?_
 unfold u122 at H
 unfold t122
 refine eop_alloc 26 zer26 rfl hL (fun b2 h1 hb1 hf1 hL1 => ?_)
 refine eop_alloc 48 zer48 rfl hL1 (fun b3 h2 hb2 hf2 hL2 => ?_)
 refine (H b2 b3 h2 hb1 (Nat.le_trans (Fr.size (fo hf1)) hb2) (Fr.no' (fo hf1) hf2) hL2).mono ?_
 rintro _ h3 ⟨y1, y2, y3, s10, rfl, hL3, H⟩
 refine condM_b (fun hb3 => ?_) (fun hb3 => ?_)
 ·have H := H.1 hb3
  refine H.mono ?_
  rintro _ h4 ⟨y4, y5, y6, s12, s12b, s12c, rfl, hL4, H⟩
  refine pop_ext (v := (Value.agg #[s12.v])) rfl ?_
  refine pop_ext (v := (Value.agg #[s12b.v, (VI s12c)])) rfl ?_
  refine ul siz26 hL4 1 0 [s12.v] [(b3, [nilSl.v, (VI 0)]), (b2, [s12.v]), (b1, [y4.v, (VI y5), (Value.int .u64 y6)])] (fun h5 hf3 hL5 => ?_)
  refine ul siz48 hL5 0 0 [s12b.v, (VI s12c)] [(b3, [s12b.v, (VI s12c)]), (b2, [s12.v]), (b1, [y4.v, (VI y5), (Value.int .u64 y6)])] (fun h6 hf4 hL6 => ?_)
  refine ra agg26 hL6 1 0 [s12.v] ?_
  refine ra agg48 hL6 0 0 [s12b.v, (VI s12c)] ?_
  exact H  h6  (Fr.old (fq hf3) hf4) hL6
 have H := H.2 hb3
 refine H.mono ?_
 rintro _ h7 ⟨y7, y8, y9, s17, s17b, s17c, rfl, hL7, H⟩
 refine pop_ext (v := (Value.agg #[s17.v])) rfl ?_
 refine pop_ext (v := (VI s17b)) rfl ?_
 refine pop_ext (v := s17c.v) rfl ?_
 refine eop_alloc 26 zer26 rfl hL7 (fun b4 h8 hb4 hf5 hL8 => ?_)
 refine ul siz26 hL8 0 0 [s17.v] [(b4, [s17.v]), (b3, [nilSl.v, (VI 0)]), (b2, [nilSl.v]), (b1, [y7.v, (VI y8), (Value.int .u64 y9)])] (fun h9 hf6 hL9 => ?_)
 refine ra agg26 hL9 0 0 [s17.v] ?_
 refine (H b4 h9 hb4 (Fr.new (fo hf5) hb4 hf6) hL9).mono ?_
 rintro _ h10 ⟨s24, rfl, hL10, H⟩
 refine pop_not s24 ?_
 refine condM_b (fun hb5 => ?_) (fun hb5 => ?_)
 ·have H := H.1 hb5
  refine ra agg26 hL10 0 0 [s17.v] ?_
  refine pop.mk' (v := (Value.agg #[s17c.v, (VI s17b)])) (fun w => by kernel_rfl) ?_
  refine ul siz26 hL10 2 0 [s17.v] [(b4, [s17.v]), (b3, [nilSl.v, (VI 0)]), (b2, [s17.v]), (b1, [y7.v, (VI y8), (Value.int .u64 y9)])] (fun h11 hf7 hL11 => ?_)
  refine ul siz48 hL11 1 0 [s17c.v, (VI s17b)] [(b4, [s17.v]), (b3, [s17c.v, (VI s17b)]), (b2, [s17.v]), (b1, [y7.v, (VI y8), (Value.int .u64 y9)])] (fun h12 hf8 hL12 => ?_)
  refine ra agg26 hL12 2 0 [s17.v] ?_
  refine ra agg48 hL12 1 0 [s17c.v, (VI s17b)] ?_
  exact H  h12  (Fr.old (fq hf7) hf8) hL12
 have H := H.2 hb5
 refine pop.mk' (v := (Value.agg #[s17c.v, (VI s17b)])) (fun w => by kernel_rfl) ?_
 refine eop_alloc 48 zer48 rfl hL10 (fun b5 h13 hb6 hf9 hL13 => ?_)
 refine ul siz48 hL13 0 0 [s17c.v, (VI s17b)] [(b5, [s17c.v, (VI s17b)]), (b4, [s17.v]), (b3, [nilSl.v, (VI 0)]), (b2, [nilSl.v]), (b1, [y7.v, (VI y8), (Value.int .u64 y9)])] (fun h14 hf10 hL14 => ?_)
 have H := H b5 h14 hb6 (Fr.new (fo hf9) hb6 hf10) hL14
 obtain ⟨J1, H, HB1⟩ := H
 refine ⟨fun (vs : List Value) (h' : Heap) => ∃ y10 : Sl, ∃ y11 : Int, ∃ y12 : Int, vs = [] /\ J1 y10 y11 y12 h' /\ Vars h' [(b5, [s17c.v, (VI s17b)]), (b4, [s17.v]), (b3, [nilSl.v, (VI 0)]), (b2, [nilSl.v]), (b1, [y10.v, (VI y11), (Value.int .u64 y12)])], ?_, ?_⟩
 ·refine pop_field 0 fld26_0 b4 0 ?_
  refine rl one24 hL14 1 0 s17.v ?_
  obtain ⟨hi1, H⟩ := H
  refine pop_index sli24 siz29 .i64 s17 s17b hi1 ?_
  obtain ⟨s37, hc1, H⟩ := H
  refine rop_one one29 s37.v hc1 ?_
  refine pop_len s37 _ _ sli29 ?_
  refine pop_gtr .i64 (s37.n : Int) 0 ?_
  refine condM_b (fun hb7 => ?_) (fun hb7 => ?_)
  rotate_left
  ·have H := H.2 hb7
   exact ⟨y7, y8, y9, rfl, H, hL14⟩
  have H := H.1 hb7
  refine pop_field 0 fld48_0 b5 0 ?_
  refine rl one29 hL14 0 0 s17c.v ?_
  refine H.mono ?_
  rintro _ h15 ⟨y13, y14, y15, s46, rfl, hL15, H⟩
  refine ⟨?_, ?_⟩
  ·exact still_loc one29 hL15 0 rfl 0 (v := s17c.v) rfl
  obtain ⟨hi2, H⟩ := H
  refine pop_index sli29 siz3 .i64 s17c s17b hi2 ?_
  obtain ⟨hw_1, hL16, H⟩ := H
  refine uop_cell (v := (VI s46)) siz3 hw_1 rfl (fun h16 he_1 => ?_)
  rw [← he_1] at hL16
  have H := H h16 he_1 hL16
  exact ⟨y13, y14, y15, rfl, H, hL16⟩
 intro junk1  h17
 rintro ⟨y10, y11, y12, hv, hJ1, hL17⟩
 have H := HB1 y10 y11 y12 h17 hJ1 hL17
 refine ra agg26 hL17 1 0 [s17.v] ?_
 refine ra agg48 hL17 0 0 [s17c.v, (VI s17b)] ?_
 refine ul siz26 hL17 3 0 [s17.v] [(b5, [s17c.v, (VI s17b)]), (b4, [s17.v]), (b3, [nilSl.v, (VI 0)]), (b2, [s17.v]), (b1, [y10.v, (VI y11), (Value.int .u64 y12)])] (fun h18 hf11 hL18 => ?_)
 have H := H  h18  (fq hf11) hL18
 refine ⟨?_, ?_⟩
 ·exact still_locA agg48 hL18 0 rfl 0 (vs := [s17c.v, (VI s17b)]) rfl rfl
 refine ul siz48 hL18 2 0 [s17c.v, (VI s17b)] [(b5, [s17c.v, (VI s17b)]), (b4, [s17.v]), (b3, [s17c.v, (VI s17b)]), (b2, [s17.v]), (b1, [y10.v, (VI y11), (Value.int .u64 y12)])] (fun h19 hf12 hL19 => ?_)
 refine ra agg26 hL19 3 0 [s17.v] ?_
 refine ra agg48 hL19 2 0 [s17c.v, (VI s17b)] ?_
 exact H  h19  (fq hf12) hL19
def u123 (P : Program) (v0 : Sl) (i1 : Int) (h : Heap) (K : KQ) : Prop :=
 callM P 127 #[v0.v, (VI i1)] h fun r1 h1 => ∃ s7 : Int, r1 = (VI s7) /\ Vars h1 [] /\
 K (VB (decide (0 ≤ s7))) h1
end Go.Proofs.YtkjkfjkapbpgiaaGreat
