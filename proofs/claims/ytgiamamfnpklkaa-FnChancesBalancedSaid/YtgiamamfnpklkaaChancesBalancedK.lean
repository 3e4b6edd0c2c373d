import Derived.Test.YtgiamamfnpklkaaChancesBalancedK1
set_option linter.unusedVariables false
set_option linter.unusedSimpArgs false
namespace Go.Proofs.Ytgiamamfnpklkaa
open Go Go.Mx
theorem mulB {a b A B : Int} (a0 : 0 ≤ a) (a1 : a ≤ A) (b0 : 0 ≤ b) (b1 : b ≤ B) : 0 ≤ a * b /\ a * b ≤ A * B := ⟨Int.mul_nonneg a0 b0, Int.mul_le_mul a1 b1 b0 (Int.le_trans a0 a1)⟩
theorem ratP_cross {x d : Int} : (ratP x d).2 * x = (ratP x d).1 * d := by
  have h := ratP_mul (x := x) (d := d)
  generalize (Int.gcd x d : Int) = g at h
  generalize (ratP x d).1 = a at *
  generalize (ratP x d).2 = b at *
  rw [← h.1, ← h.2]
  rw [Int.mul_left_comm, Int.mul_left_comm a, Int.mul_comm b]
theorem ratP_nonneg {x d : Int} (h : 0 < d) (hx : 0 ≤ x) : 0 ≤ (ratP x d).1 := by
  have hg := gcd_pos (x := x) h
  exact Int.ediv_nonneg hx (by omega)
theorem ratP_num_pos {x d : Int} (h : 0 < d) (hx : 0 < x) : 0 < (ratP x d).1 := by
  have h0 := ratP_nonneg h (x := x) (by omega)
  have hm := (ratP_mul (x := x) (d := d)).1
  refine Classical.byContradiction fun hn => ?_
  rw [show (ratP x d).1 = 0 by omega, Int.mul_zero] at hm
  omega
theorem ratP_le {x d : Int} (h : 0 < d) (hx : x ≤ d) : (ratP x d).1 ≤ (ratP x d).2 := Int.ediv_le_ediv (by have := gcd_pos (x := x) h; omega) hx
theorem ratP_co {x d : Int} : ratP (d - x) d = ((ratP x d).2 - (ratP x d).1, (ratP x d).2) := by
  have e : Int.gcd (d - x) d = Int.gcd x d := by
    rw [Int.gcd_comm, Int.gcd_comm x]
    exact Nat.dvd_antisymm
      (Int.dvd_gcd (Int.gcd_dvd_left ..) (by
        have h1 := Int.gcd_dvd_left (a := d) (b := d - x)
        have h2 := Int.gcd_dvd_right (a := d) (b := d - x)
        have := Int.dvd_sub h1 h2
        rwa [show d - (d - x) = x by omega] at this))
      (Int.dvd_gcd (Int.gcd_dvd_left ..) (Int.dvd_sub (Int.gcd_dvd_left ..) (Int.gcd_dvd_right ..)))
  unfold ratP
  rw [e, Int.sub_ediv_of_dvd _ (Int.gcd_dvd_left ..)]
theorem mean_step {num den S D nq dq N : Int} (h : num * D = den * S) (hq : dq * N = nq * D) : (num * dq + nq * den) * D = den * dq * (S + N) := by
  rw [Int.add_mul, Int.mul_assoc num, Int.mul_comm dq D, ← Int.mul_assoc, h, Int.mul_assoc nq, Int.mul_comm den D, ← Int.mul_assoc nq, ← hq, Int.mul_add, Int.mul_assoc den S, Int.mul_comm S dq, ← Int.mul_assoc den]
  congr 1
  ac_rfl
theorem mean_end {num den S D xn xd N len : Int} (hD : 0 < D) (h : num * D = den * S) (hx : xd * N = xn * D) (hN : len * N = S) : num * xd = xn * den * len := by
  refine Int.eq_of_mul_eq_mul_right (show D ≠ 0 by omega) ?_
  rw [show num * xd * D = num * D * xd by simp only [Int.mul_assoc, Int.mul_comm, Int.mul_left_comm], h, ← hN, show den * (len * N) * xd = den * len * (xd * N) by simp only [Int.mul_assoc, Int.mul_comm, Int.mul_left_comm], hx]
  simp only [Int.mul_assoc, Int.mul_comm, Int.mul_left_comm]
theorem steps_end {tot wh T D sn sd E len : Int} (hD : 0 < D) (h : tot * D = wh * T) (hs : sd * E = sn * D) (hE : len * E = T + len * D) : (tot + wh * len) * sd = sn * wh * len := by
  refine mean_end (S := T + len * D) (N := E) hD ?_ hs hE
  rw [Int.add_mul, h, Int.mul_add, Int.mul_assoc wh len D]
theorem chsP_t {g : List (List Int)} {a b : Int} (h : (chsP g a b).2 = true) : Can g a b /\ (chsP g a b).1 = chR g a b := by
  unfold chsP at h ⊢
  split at h
  · rename_i e
    rw [if_pos e]
    exact ⟨can_o e, rfl⟩
  · cases h
theorem chsP_2 (g : List (List Int)) (a b : Int) : (chsP g a b).2 = canB g a b := by
  unfold chsP
  split
  · rename_i h; exact h.symm
  · rename_i h; rw [Bool.not_eq_true] at h; exact h.symm
theorem can_goal {g : List (List Int)} {a b : Int} (h : goalB g a b = false) : canB g a b = false := by unfold canB; rw [h]; rfl
theorem occ_pos {x : Int} : ∀ {l : List Int}, x ∈ l -> 1 ≤ occ x l
  | y :: l, h => by
    have := occ_bound x l
    rw [occ]
    rcases List.mem_cons.1 h with rfl | h
    · rw [if_pos rfl]; omega
    · have := occ_pos h
      split <;> omega
theorem shP_told {g : List (List Int)} {p k : Int} (h : (shP g p k).2 = true) : 1 ≤ (shP g p k).1.1 /\ (shP g p k).1.1 ≤ (shP g p k).1.2 := by
  unfold shP at h ⊢
  split at h
  · rename_i e
    rw [if_pos e]
    rw [Bool.and_eq_true] at e
    have kr := inR_iff.1 e.2
    have hb := occ_bound ((g.getD p.toNat []).getD k.toNat 0) (g.getD p.toNat [])
    have ho : 1 ≤ occ ((g.getD p.toNat []).getD k.toNat 0) (g.getD p.toNat []) := occ_pos (by rw [getD_getI (by omega)]; exact List.getElem_mem _)
    have h1 := ratP_num_pos (x := occ ((g.getD p.toNat []).getD k.toNat 0) (g.getD p.toNat [])) (d := ((g.getD p.toNat []).length : Int)) (by omega) (by omega)
    exact ⟨by show 1 ≤ (ratP _ _).1; omega, ratP_le (by omega) (by omega)⟩
  · cases h
structure Plc (g : List (List Int)) (a b : Int) (p : Nat) (x y s : Rat2) : Prop where
  num : 0 ≤ x.1
  le : x.1 ≤ x.2
  den : 1 ≤ x.2
  top : x.2 ≤ 15625
  turn : y = (x.2 - x.1, x.2)
  cross : x.2 * chN g a b p = x.1 * hiD g a b
  snum : 0 ≤ s.1
  shi : s.1 ≤ 50400000000
  sden : 1 ≤ s.2
  stop : s.2 ≤ 15625
  szero : s.1 = 0 ↔ (p : Int) = a ∨ (p : Int) = b
  scross : s.2 * stN g a b p = s.1 * hiD g a b
theorem Can.plc {g : List (List Int)} {a b : Int} (C : Can g a b) {p : Nat} (hp : p < g.length) : Plc g a b p (ratP (chN g a b p) (hiD g a b)) (ratP (chN g b a p) (hiD g b a)) (ratP (stN g a b p) (hiD g a b)) := by
  have hd := C.den
  have hc := C.ch_rng hp
  have hs := C.st_rng hp
  have hx := ratP_abs (x := chN g a b p) (d := hiD g a b) (by omega)
  have hp2 := ratP_pos (x := chN g a b p) (d := hiD g a b) (by omega)
  have hy := ratP_abs (x := stN g a b p) (d := hiD g a b) (by omega)
  have hy2 := ratP_pos (x := stN g a b p) (d := hiD g a b) (by omega)
  have hsn := ratP_nonneg (x := stN g a b p) (d := hiD g a b) (by omega) hs.1
  have hsb := C.x_bound (own := oL g) (.inl rfl) (.inl rfl) C.hrL p
  refine ⟨ratP_nonneg (by omega) hc.1, ratP_le (by omega) hc.2, by omega, by omega, ?_, ratP_cross, hsn, ?_, by omega, by omega, ⟨fun h => ?_, fun h => ?_⟩, ratP_cross⟩
  · rw [C.ch_turn hp, hiD_turn]
    exact ratP_co
  · have : (stN g a b p).natAbs ≤ 50400000000 := hsb
    omega
  · refine Classical.byContradiction fun hn => ?_
    have h1 := hs.2 (fun e => hn (.inl e)) (fun e => hn (.inr e))
    have := ratP_num_pos (x := stN g a b p) (d := hiD g a b) (by omega) (by omega)
    omega
  · rw [stN_goal g a b p h, ratP_zero (by omega)]
theorem sumX_snoc (f : Int -> Int) (x : Int) : ∀ l : List Int, sumX f (l ++ [x]) = sumX f l + f x
  | [] => by rw [List.nil_append, sumX_cons, sumX_nil]; omega
  | y :: l => by rw [List.cons_append, sumX_cons, sumX_cons, sumX_snoc f x l]; omega
def w3_2 (P : Program) (h_23 : Heap) (t283_1 : Int) (t283_2 : Int) (b_5 : Nat) (t180_1 : Int) (t180_2 : Int) (b_4 : Nat) (t172_1 : Int) (t172_2 : Int) (b_3 : Nat) (t166_1 : Int) (t166_2 : Int) (b_2 : Nat) (t162_1 : Int) (t162_2 : Int) (b_1 : Nat) (t58_1 : Sl) (J_3 : Int -> Int -> Int -> Int -> Heap -> Prop) (num26_1 : Int) (t261_1 : Int) (t267_1 : Int) (den27_1 : Int) (total28_1 : Int) (whole29_1 : Int) (K : Value -> Heap -> Prop) : Prop :=
  ∀ (b_6 : Nat) (h_25 : Heap), h_23.size ≤ b_6 -> Fr (In []) h_23 h_25 -> Vars h_25 [(b_6, [(VI t283_1), (VI t283_2)]), (b_5, [(VI t180_1), (VI t180_2)]), (b_4, [(VI t172_1), (VI t172_2)]), (b_3, [(VI t166_1), (VI t166_2)]), (b_2, [(VI t162_1), (VI t162_2)]), (b_1, [(Sl.v t58_1)])] →
  J_3 (w64 ((w64 (num26_1 * t261_1)) + (w64 (t267_1 * den27_1)))) 0 (w64 ((w64 (total28_1 * t283_2)) + (w64 (t283_1 * whole29_1)))) (w64 (whole29_1 * t283_2)) h_25
def w3_4 (P : Program) (t436_3 : Bool) (t444_3 : Bool) (h_49 : Heap) (t444_1 : Int) (t444_2 : Int) (b_13 : Nat) (t436_1 : Int) (t436_2 : Int) (b_12 : Nat) (t428_1 : Int) (t428_2 : Int) (b_11 : Nat) (t420_1 : Int) (t420_2 : Int) (b_10 : Nat) (t410_1 : Sl) (b_9 : Nat) (t382_1 : Int) (t382_2 : Int) (b_8 : Nat) (t375_1 : Int) (t375_2 : Int) (b_7 : Nat) (t367_1 : Sl) (b_1 : Nat) (t58_1 : Sl) (K : Value -> Heap -> Prop) : Prop :=
  ((t436_3 == t444_3) = false →
  ∀ (b_14 : Nat) (h_51 : Heap), h_49.size ≤ b_14 -> Fr (In []) h_49 h_51 -> Vars h_51 [(b_14, [(VI t444_1), (VI t444_2)]), (b_13, [(VI t436_1), (VI t436_2)]), (b_12, [(VI t428_1), (VI t428_2)]), (b_11, [(VI t420_1), (VI t420_2)]), (b_10, [(Sl.v t410_1)]), (b_9, [(VI t382_1), (VI t382_2)]), (b_8, [(VI t375_1), (VI t375_2)]), (b_7, [(Sl.v t367_1)]), (b_1, [(Sl.v t58_1)])] →
  K (VB false) h_51)
def w3_5 (P : Program) (h_49 : Heap) (t444_1 : Int) (t444_2 : Int) (b_13 : Nat) (t436_1 : Int) (t436_2 : Int) (b_12 : Nat) (t428_1 : Int) (t428_2 : Int) (b_11 : Nat) (t420_1 : Int) (t420_2 : Int) (b_10 : Nat) (t410_1 : Sl) (b_9 : Nat) (t382_1 : Int) (t382_2 : Int) (b_8 : Nat) (t375_1 : Int) (t375_2 : Int) (b_7 : Nat) (t367_1 : Sl) (b_1 : Nat) (t58_1 : Sl) (K : Value -> Heap -> Prop) : Prop :=
  ∀ (b_14 : Nat) (h_51 : Heap), h_49.size ≤ b_14 -> Fr (In []) h_49 h_51 -> Vars h_51 [(b_14, [(VI t444_1), (VI t444_2)]), (b_13, [(VI t436_1), (VI t436_2)]), (b_12, [(VI t428_1), (VI t428_2)]), (b_11, [(VI t420_1), (VI t420_2)]), (b_10, [(Sl.v t410_1)]), (b_9, [(VI t382_1), (VI t382_2)]), (b_8, [(VI t375_1), (VI t375_2)]), (b_7, [(Sl.v t367_1)]), (b_1, [(Sl.v t58_1)])] →
  K (VB false) h_51
def w3_3 (P : Program) (h_34 : Heap) (t382_1 : Int) (t382_2 : Int) (b_8 : Nat) (t375_1 : Int) (t375_2 : Int) (b_7 : Nat) (t367_1 : Sl) (b_1 : Nat) (t58_1 : Sl) (more1_1 : Sl) (K : Value -> Heap -> Prop) : Prop :=
  ∀ (b_9 : Nat) (h_36 : Heap), h_34.size ≤ b_9 -> Fr (In []) h_34 h_36 -> Vars h_36 [(b_9, [(VI t382_1), (VI t382_2)]), (b_8, [(VI t375_1), (VI t375_2)]), (b_7, [(Sl.v t367_1)]), (b_1, [(Sl.v t58_1)])] →
  callM P 18 #[(Sl.v more1_1)] h_36 fun rv_19 h_37 => ∃ t410_1 : Sl, ∃ t410_2 : Int, ∃ t410_3 : Int, ∃ t410_4 : Int, rv_19 = (Value.tuple #[(Value.agg #[(Sl.v t410_1)]), (VI t410_2), (VI t410_3), (VI t410_4)]) /\ Vars h_37 [(b_9, [(VI t382_1), (VI t382_2)]), (b_8, [(VI t375_1), (VI t375_2)]), (b_7, [(Sl.v t367_1)]), (b_1, [(Sl.v t58_1)])] ∧
  ∀ (b_10 : Nat) (h_39 : Heap), h_37.size ≤ b_10 -> Fr (In []) h_37 h_39 -> Vars h_39 [(b_10, [(Sl.v t410_1)]), (b_9, [(VI t382_1), (VI t382_2)]), (b_8, [(VI t375_1), (VI t375_2)]), (b_7, [(Sl.v t367_1)]), (b_1, [(Sl.v t58_1)])] →
  callM P 14 #[(Value.agg #[(Sl.v t410_1)]), (VI t410_2), (VI t410_3), (VI t410_4)] h_39 fun rv_20 h_40 => ∃ t420_1 : Int, ∃ t420_2 : Int, ∃ t420_3 : Bool, rv_20 = (Value.tuple #[(Value.agg #[(VI t420_1), (VI t420_2)]), (VB t420_3)]) /\ Vars h_40 [(b_10, [(Sl.v t410_1)]), (b_9, [(VI t382_1), (VI t382_2)]), (b_8, [(VI t375_1), (VI t375_2)]), (b_7, [(Sl.v t367_1)]), (b_1, [(Sl.v t58_1)])] ∧
  ∀ (b_11 : Nat) (h_42 : Heap), h_40.size ≤ b_11 -> Fr (In []) h_40 h_42 -> Vars h_42 [(b_11, [(VI t420_1), (VI t420_2)]), (b_10, [(Sl.v t410_1)]), (b_9, [(VI t382_1), (VI t382_2)]), (b_8, [(VI t375_1), (VI t375_2)]), (b_7, [(Sl.v t367_1)]), (b_1, [(Sl.v t58_1)])] →
  callM P 19 #[(Value.agg #[(Sl.v t410_1)]), (VI t410_2), (VI t410_3), (VI t410_4)] h_42 fun rv_21 h_43 => ∃ t428_1 : Int, ∃ t428_2 : Int, ∃ t428_3 : Bool, rv_21 = (Value.tuple #[(Value.agg #[(VI t428_1), (VI t428_2)]), (VB t428_3)]) /\ Vars h_43 [(b_11, [(VI t420_1), (VI t420_2)]), (b_10, [(Sl.v t410_1)]), (b_9, [(VI t382_1), (VI t382_2)]), (b_8, [(VI t375_1), (VI t375_2)]), (b_7, [(Sl.v t367_1)]), (b_1, [(Sl.v t58_1)])] ∧
  ∀ (b_12 : Nat) (h_45 : Heap), h_43.size ≤ b_12 -> Fr (In []) h_43 h_45 -> Vars h_45 [(b_12, [(VI t428_1), (VI t428_2)]), (b_11, [(VI t420_1), (VI t420_2)]), (b_10, [(Sl.v t410_1)]), (b_9, [(VI t382_1), (VI t382_2)]), (b_8, [(VI t375_1), (VI t375_2)]), (b_7, [(Sl.v t367_1)]), (b_1, [(Sl.v t58_1)])] →
  callM P 13 #[(Value.agg #[(Sl.v t410_1)]), (VI t410_2), (VI t410_3), (VI t410_4)] h_45 fun rv_22 h_46 => ∃ t436_1 : Int, ∃ t436_2 : Int, ∃ t436_3 : Bool, rv_22 = (Value.tuple #[(Value.agg #[(VI t436_1), (VI t436_2)]), (VB t436_3)]) /\ Vars h_46 [(b_12, [(VI t428_1), (VI t428_2)]), (b_11, [(VI t420_1), (VI t420_2)]), (b_10, [(Sl.v t410_1)]), (b_9, [(VI t382_1), (VI t382_2)]), (b_8, [(VI t375_1), (VI t375_2)]), (b_7, [(Sl.v t367_1)]), (b_1, [(Sl.v t58_1)])] ∧
  ∀ (b_13 : Nat) (h_48 : Heap), h_46.size ≤ b_13 -> Fr (In []) h_46 h_48 -> Vars h_48 [(b_13, [(VI t436_1), (VI t436_2)]), (b_12, [(VI t428_1), (VI t428_2)]), (b_11, [(VI t420_1), (VI t420_2)]), (b_10, [(Sl.v t410_1)]), (b_9, [(VI t382_1), (VI t382_2)]), (b_8, [(VI t375_1), (VI t375_2)]), (b_7, [(Sl.v t367_1)]), (b_1, [(Sl.v t58_1)])] →
  callM P 20 #[(Value.agg #[(Sl.v t410_1)]), (VI t410_2), (VI t410_3), (VI t410_4)] h_48 fun rv_23 h_49 => ∃ t444_1 : Int, ∃ t444_2 : Int, ∃ t444_3 : Bool, rv_23 = (Value.tuple #[(Value.agg #[(VI t444_1), (VI t444_2)]), (VB t444_3)]) /\ Vars h_49 [(b_13, [(VI t436_1), (VI t436_2)]), (b_12, [(VI t428_1), (VI t428_2)]), (b_11, [(VI t420_1), (VI t420_2)]), (b_10, [(Sl.v t410_1)]), (b_9, [(VI t382_1), (VI t382_2)]), (b_8, [(VI t375_1), (VI t375_2)]), (b_7, [(Sl.v t367_1)]), (b_1, [(Sl.v t58_1)])] ∧
  ((t420_3 == t428_3) = true →
  pop P (binE .eql 36 (.tmp 451) (.tmp 452) (Value.agg #[(VI t420_1), (VI t420_2)]) (Value.agg #[(VI t428_1), (VI t428_2)])) fun rv_24 => ∃ t453_1 : Bool, rv_24 = (VB t453_1) ∧
  (t453_1 = true →
  ((t436_3 == t444_3) = true →
  pop P (binE .eql 36 (.tmp 461) (.tmp 462) (Value.agg #[(VI t436_1), (VI t436_2)]) (Value.agg #[(VI t444_1), (VI t444_2)])) fun rv_25 => ∃ t463_1 : Bool, rv_25 = (VB t463_1) ∧
  ∀ (b_14 : Nat) (h_51 : Heap), h_49.size ≤ b_14 -> Fr (In []) h_49 h_51 -> Vars h_51 [(b_14, [(VI t444_1), (VI t444_2)]), (b_13, [(VI t436_1), (VI t436_2)]), (b_12, [(VI t428_1), (VI t428_2)]), (b_11, [(VI t420_1), (VI t420_2)]), (b_10, [(Sl.v t410_1)]), (b_9, [(VI t382_1), (VI t382_2)]), (b_8, [(VI t375_1), (VI t375_2)]), (b_7, [(Sl.v t367_1)]), (b_1, [(Sl.v t58_1)])] →
  K (VB t463_1) h_51) ∧
  w3_4 P t436_3 t444_3 h_49 t444_1 t444_2 b_13 t436_1 t436_2 b_12 t428_1 t428_2 b_11 t420_1 t420_2 b_10 t410_1 b_9 t382_1 t382_2 b_8 t375_1 t375_2 b_7 t367_1 b_1 t58_1 K) ∧
  (t453_1 = false →
  w3_5 P h_49 t444_1 t444_2 b_13 t436_1 t436_2 b_12 t428_1 t428_2 b_11 t420_1 t420_2 b_10 t410_1 b_9 t382_1 t382_2 b_8 t375_1 t375_2 b_7 t367_1 b_1 t58_1 K)) ∧
  w3_4 P t420_3 t428_3 h_49 t444_1 t444_2 b_13 t436_1 t436_2 b_12 t428_1 t428_2 b_11 t420_1 t420_2 b_10 t410_1 b_9 t382_1 t382_2 b_8 t375_1 t375_2 b_7 t367_1 b_1 t58_1 K
def w3_1 (P : Program) (t66_2 : Bool) (t58_1 : Sl) (t58_3 : Int) (t58_2 : Int) (h_9 : Heap) (b_1 : Nat) (t66_1 : Sl) (more1_1 : Sl) (K : Value -> Heap -> Prop) : Prop :=
  ∃ J_1 : Heap -> Prop, ((t66_2 = true →
  callM P 8 #[(Value.agg #[(Sl.v t58_1)]), (VI t58_3), (VI t58_2)] h_9 fun rv_8 h_10 => ∃ t122_1 : Sl, ∃ t122_2 : Bool, rv_8 = (Value.tuple #[(Sl.v t122_1), (VB t122_2)]) /\ Vars h_10 [(b_1, [(Sl.v t58_1)])] ∧
  ((!t122_2) = true →
  K (VB false) h_10) ∧
  ((!t122_2) = false →
  ((!decide ((t66_1.n : Int) = (t58_1.n : Int))) = true →
  K (VB false) h_10) ∧
  ((!decide ((t66_1.n : Int) = (t58_1.n : Int))) = false →
  InB t66_1 t58_2 ∧
  ∃ t139_1 : Int, ∃ t139_2 : Int, CellsAt h_10 (Sl.at t66_1 t58_2 2) [(VI t139_1), (VI t139_2)] ∧
  pop P (binE .neq 36 (.tmp 139) (.tmp 140) (Value.agg #[(VI t139_1), (VI t139_2)]) (Value.agg #[(VI 1), (VI 1)])) fun rv_9 => ∃ t141_1 : Bool, rv_9 = (VB t141_1) ∧
  (t141_1 = true →
  K (VB false) h_10) ∧
  (t141_1 = false →
  InB t66_1 t58_3 ∧
  ∃ t147_1 : Int, ∃ t147_2 : Int, CellsAt h_10 (Sl.at t66_1 t58_3 2) [(VI t147_1), (VI t147_2)] ∧
  pop P (binE .neq 36 (.tmp 147) (.tmp 148) (Value.agg #[(VI t147_1), (VI t147_2)]) (Value.agg #[(VI 0), (VI 1)])) fun rv_10 => ∃ t149_1 : Bool, rv_10 = (VB t149_1) ∧
  (t149_1 = true →
  K (VB false) h_10) ∧
  (t149_1 = false →
  ∃ J_2 : Nat -> Int -> Heap -> Prop, (∃ n0 : Nat, J_2 n0 0 h_10) ∧
  ∀ (n_1 : Nat) (t154_1 : Int) (h_11 : Heap), J_2 n_1 t154_1 h_11 -> Vars h_11 [(b_1, [(Sl.v t58_1)])] →
  ((decide (t154_1 < (t58_1.n : Int))) = true →
  InB t58_1 t154_1 ∧
  ∃ t158_1 : Sl, hcell h_11 (Sl.at t58_1 t154_1 1) = some (Sl.v t158_1) ∧
  InB t66_1 t154_1 ∧
  ∃ t162_1 : Int, ∃ t162_2 : Int, CellsAt h_11 (Sl.at t66_1 t154_1 2) [(VI t162_1), (VI t162_2)] ∧
  InB t122_1 t154_1 ∧
  ∀ (b_2 : Nat) (h_13 : Heap), h_11.size ≤ b_2 -> Fr (In []) h_11 h_13 -> Vars h_13 [(b_2, [(VI t162_1), (VI t162_2)]), (b_1, [(Sl.v t58_1)])] →
  ∃ t166_1 : Int, ∃ t166_2 : Int, CellsAt h_13 (Sl.at t122_1 t154_1 2) [(VI t166_1), (VI t166_2)] ∧
  ∀ (b_3 : Nat) (h_15 : Heap), h_13.size ≤ b_3 -> Fr (In []) h_13 h_15 -> Vars h_15 [(b_3, [(VI t166_1), (VI t166_2)]), (b_2, [(VI t162_1), (VI t162_2)]), (b_1, [(Sl.v t58_1)])] →
  callM P 13 #[(Value.agg #[(Sl.v t58_1)]), (VI t154_1), (VI t58_2), (VI t58_3)] h_15 fun rv_11 h_16 => ∃ t172_1 : Int, ∃ t172_2 : Int, ∃ t172_3 : Bool, rv_11 = (Value.tuple #[(Value.agg #[(VI t172_1), (VI t172_2)]), (VB t172_3)]) /\ Vars h_16 [(b_3, [(VI t166_1), (VI t166_2)]), (b_2, [(VI t162_1), (VI t162_2)]), (b_1, [(Sl.v t58_1)])] ∧
  ∀ (b_4 : Nat) (h_18 : Heap), h_16.size ≤ b_4 -> Fr (In []) h_16 h_18 -> Vars h_18 [(b_4, [(VI t172_1), (VI t172_2)]), (b_3, [(VI t166_1), (VI t166_2)]), (b_2, [(VI t162_1), (VI t162_2)]), (b_1, [(Sl.v t58_1)])] →
  callM P 14 #[(Value.agg #[(Sl.v t58_1)]), (VI t154_1), (VI t58_2), (VI t58_3)] h_18 fun rv_12 h_19 => ∃ t180_1 : Int, ∃ t180_2 : Int, ∃ t180_3 : Bool, rv_12 = (Value.tuple #[(Value.agg #[(VI t180_1), (VI t180_2)]), (VB t180_3)]) /\ Vars h_19 [(b_4, [(VI t172_1), (VI t172_2)]), (b_3, [(VI t166_1), (VI t166_2)]), (b_2, [(VI t162_1), (VI t162_2)]), (b_1, [(Sl.v t58_1)])] ∧
  ((!t172_3) = true →
  ∀ (b_5 : Nat) (h_21 : Heap), h_19.size ≤ b_5 -> Fr (In []) h_19 h_21 -> Vars h_21 [(b_5, [(VI t180_1), (VI t180_2)]), (b_4, [(VI t172_1), (VI t172_2)]), (b_3, [(VI t166_1), (VI t166_2)]), (b_2, [(VI t162_1), (VI t162_2)]), (b_1, [(Sl.v t58_1)])] →
  K (VB false) h_21) ∧
  ((!t172_3) = false →
  pop P (binE .neq 36 (.tmp 186) (.tmp 187) (Value.agg #[(VI t172_1), (VI t172_2)]) (Value.agg #[(VI t162_1), (VI t162_2)])) fun rv_13 => ∃ t188_1 : Bool, rv_13 = (VB t188_1) ∧
  (t188_1 = true →
  ∀ (b_5 : Nat) (h_21 : Heap), h_19.size ≤ b_5 -> Fr (In []) h_19 h_21 -> Vars h_21 [(b_5, [(VI t180_1), (VI t180_2)]), (b_4, [(VI t172_1), (VI t172_2)]), (b_3, [(VI t166_1), (VI t166_2)]), (b_2, [(VI t162_1), (VI t162_2)]), (b_1, [(Sl.v t58_1)])] →
  K (VB false) h_21) ∧
  (t188_1 = false →
  ((!t180_3) = true →
  ∀ (b_5 : Nat) (h_21 : Heap), h_19.size ≤ b_5 -> Fr (In []) h_19 h_21 -> Vars h_21 [(b_5, [(VI t180_1), (VI t180_2)]), (b_4, [(VI t172_1), (VI t172_2)]), (b_3, [(VI t166_1), (VI t166_2)]), (b_2, [(VI t162_1), (VI t162_2)]), (b_1, [(Sl.v t58_1)])] →
  K (VB false) h_21) ∧
  ((!t180_3) = false →
  ((decide (t162_1 < 0)) = true →
  ∀ (b_5 : Nat) (h_21 : Heap), h_19.size ≤ b_5 -> Fr (In []) h_19 h_21 -> Vars h_21 [(b_5, [(VI t180_1), (VI t180_2)]), (b_4, [(VI t172_1), (VI t172_2)]), (b_3, [(VI t166_1), (VI t166_2)]), (b_2, [(VI t162_1), (VI t162_2)]), (b_1, [(Sl.v t58_1)])] →
  K (VB false) h_21) ∧
  ((decide (t162_1 < 0)) = false →
  ((decide (t162_2 < t162_1)) = true →
  ∀ (b_5 : Nat) (h_21 : Heap), h_19.size ≤ b_5 -> Fr (In []) h_19 h_21 -> Vars h_21 [(b_5, [(VI t180_1), (VI t180_2)]), (b_4, [(VI t172_1), (VI t172_2)]), (b_3, [(VI t166_1), (VI t166_2)]), (b_2, [(VI t162_1), (VI t162_2)]), (b_1, [(Sl.v t58_1)])] →
  K (VB false) h_21) ∧
  ((decide (t162_2 < t162_1)) = false →
  ((decide (t162_2 < 1)) = true →
  ∀ (b_5 : Nat) (h_21 : Heap), h_19.size ≤ b_5 -> Fr (In []) h_19 h_21 -> Vars h_21 [(b_5, [(VI t180_1), (VI t180_2)]), (b_4, [(VI t172_1), (VI t172_2)]), (b_3, [(VI t166_1), (VI t166_2)]), (b_2, [(VI t162_1), (VI t162_2)]), (b_1, [(Sl.v t58_1)])] →
  K (VB false) h_21) ∧
  ((decide (t162_2 < 1)) = false →
  ((!decide (t166_2 = t162_2)) = true →
  ∀ (b_5 : Nat) (h_21 : Heap), h_19.size ≤ b_5 -> Fr (In []) h_19 h_21 -> Vars h_21 [(b_5, [(VI t180_1), (VI t180_2)]), (b_4, [(VI t172_1), (VI t172_2)]), (b_3, [(VI t166_1), (VI t166_2)]), (b_2, [(VI t162_1), (VI t162_2)]), (b_1, [(Sl.v t58_1)])] →
  K (VB false) h_21) ∧
  ((!decide (t166_2 = t162_2)) = false →
  ((!decide (t166_1 = (w64 (t162_2 - t162_1)))) = true →
  ∀ (b_5 : Nat) (h_21 : Heap), h_19.size ≤ b_5 -> Fr (In []) h_19 h_21 -> Vars h_21 [(b_5, [(VI t180_1), (VI t180_2)]), (b_4, [(VI t172_1), (VI t172_2)]), (b_3, [(VI t166_1), (VI t166_2)]), (b_2, [(VI t162_1), (VI t162_2)]), (b_1, [(Sl.v t58_1)])] →
  K (VB false) h_21) ∧
  ((!decide (t166_1 = (w64 (t162_2 - t162_1)))) = false →
  ((decide (t154_1 = t58_2)) = true →
  ((!((decide (t180_1 = 0)) == true)) = true →
  ∀ (b_5 : Nat) (h_21 : Heap), h_19.size ≤ b_5 -> Fr (In []) h_19 h_21 -> Vars h_21 [(b_5, [(VI t180_1), (VI t180_2)]), (b_4, [(VI t172_1), (VI t172_2)]), (b_3, [(VI t166_1), (VI t166_2)]), (b_2, [(VI t162_1), (VI t162_2)]), (b_1, [(Sl.v t58_1)])] →
  K (VB false) h_21) ∧
  ((!((decide (t180_1 = 0)) == true)) = false →
  ∀ (b_5 : Nat) (h_21 : Heap), h_19.size ≤ b_5 -> Fr (In []) h_19 h_21 -> Vars h_21 [(b_5, [(VI t180_1), (VI t180_2)]), (b_4, [(VI t172_1), (VI t172_2)]), (b_3, [(VI t166_1), (VI t166_2)]), (b_2, [(VI t162_1), (VI t162_2)]), (b_1, [(Sl.v t58_1)])] →
  ∃ m : Nat, m < n_1 /\ J_2 m (w64 (t154_1 + 1)) h_21)) ∧
  ((decide (t154_1 = t58_2)) = false →
  ((!((decide (t180_1 = 0)) == (decide (t154_1 = t58_3)))) = true →
  ∀ (b_5 : Nat) (h_21 : Heap), h_19.size ≤ b_5 -> Fr (In []) h_19 h_21 -> Vars h_21 [(b_5, [(VI t180_1), (VI t180_2)]), (b_4, [(VI t172_1), (VI t172_2)]), (b_3, [(VI t166_1), (VI t166_2)]), (b_2, [(VI t162_1), (VI t162_2)]), (b_1, [(Sl.v t58_1)])] →
  K (VB false) h_21) ∧
  ((!((decide (t180_1 = 0)) == (decide (t154_1 = t58_3)))) = false →
  ((decide (t154_1 = t58_3)) = true →
  ∀ (b_5 : Nat) (h_21 : Heap), h_19.size ≤ b_5 -> Fr (In []) h_19 h_21 -> Vars h_21 [(b_5, [(VI t180_1), (VI t180_2)]), (b_4, [(VI t172_1), (VI t172_2)]), (b_3, [(VI t166_1), (VI t166_2)]), (b_2, [(VI t162_1), (VI t162_2)]), (b_1, [(Sl.v t58_1)])] →
  ∃ m : Nat, m < n_1 /\ J_2 m (w64 (t154_1 + 1)) h_21) ∧
  ((decide (t154_1 = t58_3)) = false →
  ∀ (b_5 : Nat) (h_21 : Heap), h_19.size ≤ b_5 -> Fr (In []) h_19 h_21 -> Vars h_21 [(b_5, [(VI t180_1), (VI t180_2)]), (b_4, [(VI t172_1), (VI t172_2)]), (b_3, [(VI t166_1), (VI t166_2)]), (b_2, [(VI t162_1), (VI t162_2)]), (b_1, [(Sl.v t58_1)])] →
  ∃ J_3 : Int -> Int -> Int -> Int -> Heap -> Prop, (∃ J_4 : Nat -> Int -> Int -> Int -> Int -> Int -> Heap -> Prop, (∃ n0 : Nat, J_4 n0 0 1 0 1 0 h_21) ∧
  ∀ (n_2 : Nat) (num26_1 : Int) (den27_1 : Int) (total28_1 : Int) (whole29_1 : Int) (t252_1 : Int) (h_22 : Heap), J_4 n_2 num26_1 den27_1 total28_1 whole29_1 t252_1 h_22 -> Vars h_22 [(b_5, [(VI t180_1), (VI t180_2)]), (b_4, [(VI t172_1), (VI t172_2)]), (b_3, [(VI t166_1), (VI t166_2)]), (b_2, [(VI t162_1), (VI t162_2)]), (b_1, [(Sl.v t58_1)])] →
  ((decide (t252_1 < (t158_1.n : Int))) = true →
  InB t158_1 t252_1 ∧
  ∃ t255_1 : Int, hcell h_22 (Sl.at t158_1 t252_1 1) = some (VI t255_1) ∧
  InB t66_1 t255_1 ∧
  ∃ t261_1 : Int, hcell h_22 (Addr.add (Sl.at t66_1 t255_1 2) 1) = some (VI t261_1) ∧
  InB t66_1 t255_1 ∧
  ∃ t267_1 : Int, hcell h_22 (Addr.add (Sl.at t66_1 t255_1 2) 0) = some (VI t267_1) ∧
  InB t66_1 t255_1 ∧
  ∃ t276_1 : Int, hcell h_22 (Addr.add (Sl.at t66_1 t255_1 2) 1) = some (VI t276_1) ∧
  callM P 14 #[(Value.agg #[(Sl.v t58_1)]), (VI t255_1), (VI t58_2), (VI t58_3)] h_22 fun rv_14 h_23 => ∃ t283_1 : Int, ∃ t283_2 : Int, ∃ t283_3 : Bool, rv_14 = (Value.tuple #[(Value.agg #[(VI t283_1), (VI t283_2)]), (VB t283_3)]) /\ Vars h_23 [(b_5, [(VI t180_1), (VI t180_2)]), (b_4, [(VI t172_1), (VI t172_2)]), (b_3, [(VI t166_1), (VI t166_2)]), (b_2, [(VI t162_1), (VI t162_2)]), (b_1, [(Sl.v t58_1)])] ∧
  ((!t283_3) = true →
  ∀ (b_6 : Nat) (h_25 : Heap), h_23.size ≤ b_6 -> Fr (In []) h_23 h_25 -> Vars h_25 [(b_6, [(VI t283_1), (VI t283_2)]), (b_5, [(VI t180_1), (VI t180_2)]), (b_4, [(VI t172_1), (VI t172_2)]), (b_3, [(VI t166_1), (VI t166_2)]), (b_2, [(VI t162_1), (VI t162_2)]), (b_1, [(Sl.v t58_1)])] →
  K (VB false) h_25) ∧
  ((!t283_3) = false →
  ((decide (1048576 < (w64 (den27_1 * t276_1)))) = true →
  w3_2 P h_23 t283_1 t283_2 b_5 t180_1 t180_2 b_4 t172_1 t172_2 b_3 t166_1 t166_2 b_2 t162_1 t162_2 b_1 t58_1 J_3 num26_1 t261_1 t267_1 den27_1 total28_1 whole29_1 K) ∧
  ((decide (1048576 < (w64 (den27_1 * t276_1)))) = false →
  ((decide (1048576 < (w64 (whole29_1 * t283_2)))) = true →
  w3_2 P h_23 t283_1 t283_2 b_5 t180_1 t180_2 b_4 t172_1 t172_2 b_3 t166_1 t166_2 b_2 t162_1 t162_2 b_1 t58_1 J_3 num26_1 t261_1 t267_1 den27_1 total28_1 whole29_1 K) ∧
  ((decide (1048576 < (w64 (whole29_1 * t283_2)))) = false →
  ((decide (1073741824 < (w64 ((w64 (num26_1 * t261_1)) + (w64 (t267_1 * den27_1)))))) = true →
  w3_2 P h_23 t283_1 t283_2 b_5 t180_1 t180_2 b_4 t172_1 t172_2 b_3 t166_1 t166_2 b_2 t162_1 t162_2 b_1 t58_1 J_3 num26_1 t261_1 t267_1 den27_1 total28_1 whole29_1 K) ∧
  ((decide (1073741824 < (w64 ((w64 (num26_1 * t261_1)) + (w64 (t267_1 * den27_1)))))) = false →
  ((decide (1073741824 < (w64 ((w64 (total28_1 * t283_2)) + (w64 (t283_1 * whole29_1)))))) = true →
  w3_2 P h_23 t283_1 t283_2 b_5 t180_1 t180_2 b_4 t172_1 t172_2 b_3 t166_1 t166_2 b_2 t162_1 t162_2 b_1 t58_1 J_3 num26_1 t261_1 t267_1 den27_1 total28_1 whole29_1 K) ∧
  ((decide (1073741824 < (w64 ((w64 (total28_1 * t283_2)) + (w64 (t283_1 * whole29_1)))))) = false →
  ∀ (b_6 : Nat) (h_25 : Heap), h_23.size ≤ b_6 -> Fr (In []) h_23 h_25 -> Vars h_25 [(b_6, [(VI t283_1), (VI t283_2)]), (b_5, [(VI t180_1), (VI t180_2)]), (b_4, [(VI t172_1), (VI t172_2)]), (b_3, [(VI t166_1), (VI t166_2)]), (b_2, [(VI t162_1), (VI t162_2)]), (b_1, [(Sl.v t58_1)])] →
  ∃ m : Nat, m < n_2 /\ J_4 m (w64 ((w64 (num26_1 * t261_1)) + (w64 (t267_1 * den27_1)))) (w64 (den27_1 * t276_1)) (w64 ((w64 (total28_1 * t283_2)) + (w64 (t283_1 * whole29_1)))) (w64 (whole29_1 * t283_2)) (w64 (t252_1 + 1)) h_25)))))) ∧
  ((decide (t252_1 < (t158_1.n : Int))) = false →
  J_3 num26_1 den27_1 total28_1 whole29_1 h_22)) ∧
  ∀ (x_1 : Int) (x_2 : Int) (x_3 : Int) (x_4 : Int) (h_26 : Heap), J_3 x_1 x_2 x_3 x_4 h_26 -> Vars h_26 [(b_5, [(VI t180_1), (VI t180_2)]), (b_4, [(VI t172_1), (VI t172_2)]), (b_3, [(VI t166_1), (VI t166_2)]), (b_2, [(VI t162_1), (VI t162_2)]), (b_1, [(Sl.v t58_1)])] →
  ((decide (x_2 = 0)) = true →
  ∃ m : Nat, m < n_1 /\ J_2 m (w64 (t154_1 + 1)) h_26) ∧
  ((decide (x_2 = 0)) = false →
  ((decide (1048576 < t162_2)) = true →
  ∃ m : Nat, m < n_1 /\ J_2 m (w64 (t154_1 + 1)) h_26) ∧
  ((decide (1048576 < t162_2)) = false →
  ((decide (1048576 < t180_2)) = true →
  ∃ m : Nat, m < n_1 /\ J_2 m (w64 (t154_1 + 1)) h_26) ∧
  ((decide (1048576 < t180_2)) = false →
  ((decide (1073741824 < t180_1)) = true →
  ∃ m : Nat, m < n_1 /\ J_2 m (w64 (t154_1 + 1)) h_26) ∧
  ((decide (1073741824 < t180_1)) = false →
  ((!decide ((w64 (x_1 * t162_2)) = (w64 ((w64 (t162_1 * x_2)) * (t158_1.n : Int))))) = true →
  K (VB false) h_26) ∧
  ((!decide ((w64 (x_1 * t162_2)) = (w64 ((w64 (t162_1 * x_2)) * (t158_1.n : Int))))) = false →
  ((!decide ((w64 ((w64 (x_3 + (w64 (x_4 * (t158_1.n : Int))))) * t180_2)) = (w64 ((w64 (t180_1 * x_4)) * (t158_1.n : Int))))) = true →
  K (VB false) h_26) ∧
  ((!decide ((w64 ((w64 (x_3 + (w64 (x_4 * (t158_1.n : Int))))) * t180_2)) = (w64 ((w64 (t180_1 * x_4)) * (t158_1.n : Int))))) = false →
  ∃ m : Nat, m < n_1 /\ J_2 m (w64 (t154_1 + 1)) h_26)))))))))))))))))) ∧
  ((decide (t154_1 < (t58_1.n : Int))) = false →
  J_1  h_11)))))) ∧
  (t66_2 = false →
  J_1  h_9)) ∧
  ∀ (h_27 : Heap), J_1  h_27 -> Vars h_27 [(b_1, [(Sl.v t58_1)])] →
  callM P 15 #[(Sl.v more1_1)] h_27 fun rv_15 h_28 => ∃ t367_1 : Sl, ∃ t367_2 : Int, ∃ t367_3 : Int, rv_15 = (Value.tuple #[(Value.agg #[(Sl.v t367_1)]), (VI t367_2), (VI t367_3)]) /\ Vars h_28 [(b_1, [(Sl.v t58_1)])] ∧
  ∀ (b_7 : Nat) (h_30 : Heap), h_28.size ≤ b_7 -> Fr (In []) h_28 h_30 -> Vars h_30 [(b_7, [(Sl.v t367_1)]), (b_1, [(Sl.v t58_1)])] →
  callM P 16 #[(Value.agg #[(Sl.v t367_1)]), (VI t367_2), (VI t367_3)] h_30 fun rv_16 h_31 => ∃ t375_1 : Int, ∃ t375_2 : Int, ∃ t375_3 : Bool, rv_16 = (Value.tuple #[(Value.agg #[(VI t375_1), (VI t375_2)]), (VB t375_3)]) /\ Vars h_31 [(b_7, [(Sl.v t367_1)]), (b_1, [(Sl.v t58_1)])] ∧
  ∀ (b_8 : Nat) (h_33 : Heap), h_31.size ≤ b_8 -> Fr (In []) h_31 h_33 -> Vars h_33 [(b_8, [(VI t375_1), (VI t375_2)]), (b_7, [(Sl.v t367_1)]), (b_1, [(Sl.v t58_1)])] →
  callM P 17 #[(Value.agg #[(Sl.v t367_1)]), (VI t367_2), (VI t367_3)] h_33 fun rv_17 h_34 => ∃ t382_1 : Int, ∃ t382_2 : Int, ∃ t382_3 : Bool, rv_17 = (Value.tuple #[(Value.agg #[(VI t382_1), (VI t382_2)]), (VB t382_3)]) /\ Vars h_34 [(b_8, [(VI t375_1), (VI t375_2)]), (b_7, [(Sl.v t367_1)]), (b_1, [(Sl.v t58_1)])] ∧
  ((!(t375_3 == t382_3)) = true →
  ∀ (b_9 : Nat) (h_36 : Heap), h_34.size ≤ b_9 -> Fr (In []) h_34 h_36 -> Vars h_36 [(b_9, [(VI t382_1), (VI t382_2)]), (b_8, [(VI t375_1), (VI t375_2)]), (b_7, [(Sl.v t367_1)]), (b_1, [(Sl.v t58_1)])] →
  K (VB false) h_36) ∧
  ((!(t375_3 == t382_3)) = false →
  pop P (binE .neq 36 (.tmp 389) (.tmp 390) (Value.agg #[(VI t375_1), (VI t375_2)]) (Value.agg #[(VI t382_1), (VI t382_2)])) fun rv_18 => ∃ t391_1 : Bool, rv_18 = (VB t391_1) ∧
  (t391_1 = true →
  ∀ (b_9 : Nat) (h_36 : Heap), h_34.size ≤ b_9 -> Fr (In []) h_34 h_36 -> Vars h_36 [(b_9, [(VI t382_1), (VI t382_2)]), (b_8, [(VI t375_1), (VI t375_2)]), (b_7, [(Sl.v t367_1)]), (b_1, [(Sl.v t58_1)])] →
  K (VB false) h_36) ∧
  (t391_1 = false →
  (t375_3 = true →
  ((decide (t375_1 < 1)) = true →
  ∀ (b_9 : Nat) (h_36 : Heap), h_34.size ≤ b_9 -> Fr (In []) h_34 h_36 -> Vars h_36 [(b_9, [(VI t382_1), (VI t382_2)]), (b_8, [(VI t375_1), (VI t375_2)]), (b_7, [(Sl.v t367_1)]), (b_1, [(Sl.v t58_1)])] →
  K (VB false) h_36) ∧
  ((decide (t375_1 < 1)) = false →
  ((decide (t375_2 < t375_1)) = true →
  ∀ (b_9 : Nat) (h_36 : Heap), h_34.size ≤ b_9 -> Fr (In []) h_34 h_36 -> Vars h_36 [(b_9, [(VI t382_1), (VI t382_2)]), (b_8, [(VI t375_1), (VI t375_2)]), (b_7, [(Sl.v t367_1)]), (b_1, [(Sl.v t58_1)])] →
  K (VB false) h_36) ∧
  ((decide (t375_2 < t375_1)) = false →
  w3_3 P h_34 t382_1 t382_2 b_8 t375_1 t375_2 b_7 t367_1 b_1 t58_1 more1_1 K))) ∧
  (t375_3 = false →
  w3_3 P h_34 t382_1 t382_2 b_8 t375_1 t375_2 b_7 t367_1 b_1 t58_1 more1_1 K)))
def w3 (P : Program) (code0_1 : Sl) (more1_1 : Sl) (h : Heap) (K : Value -> Heap -> Prop) : Prop :=
  callM P 6 #[(Sl.v code0_1), (Sl.v more1_1)] h fun rv_1 h_1 => ∃ t55_1 : Bool, rv_1 = (VB t55_1) /\ Vars h_1 [] ∧
  (t55_1 = true →
  K (VB true) h_1) ∧
  (t55_1 = false →
  callM P 7 #[(Sl.v code0_1)] h_1 fun rv_2 h_2 => ∃ t58_1 : Sl, ∃ t58_2 : Int, ∃ t58_3 : Int, rv_2 = (Value.tuple #[(Value.agg #[(Sl.v t58_1)]), (VI t58_2), (VI t58_3)]) /\ Vars h_2 [] ∧
  ∀ (b_1 : Nat) (h_4 : Heap), h_2.size ≤ b_1 -> Fr (In []) h_2 h_4 -> Vars h_4 [(b_1, [(Sl.v t58_1)])] →
  callM P 8 #[(Value.agg #[(Sl.v t58_1)]), (VI t58_2), (VI t58_3)] h_4 fun rv_3 h_5 => ∃ t66_1 : Sl, ∃ t66_2 : Bool, rv_3 = (Value.tuple #[(Sl.v t66_1), (VB t66_2)]) /\ Vars h_5 [(b_1, [(Sl.v t58_1)])] ∧
  callM P 9 #[(Value.agg #[(Sl.v t58_1)]), (VI t58_2), (VI t58_3)] h_5 fun rv_4 h_6 => ∃ t73_1 : Sl, ∃ t73_2 : Bool, rv_4 = (Value.tuple #[(Sl.v t73_1), (VB t73_2)]) /\ Vars h_6 [(b_1, [(Sl.v t58_1)])] ∧
  callM P 10 #[(Value.agg #[(Sl.v t58_1)]), (VI t58_2), (VI t58_3)] h_6 fun rv_5 h_7 => ∃ t80_1 : Bool, ∃ t80_2 : Bool, rv_5 = (Value.tuple #[(VB t80_1), (VB t80_2)]) /\ Vars h_7 [(b_1, [(Sl.v t58_1)])] ∧
  callM P 11 #[(Value.agg #[(Sl.v t58_1)]), (VI t58_2), (VI t58_3)] h_7 fun rv_6 h_8 => ∃ t87_1 : Bool, ∃ t87_2 : Bool, rv_6 = (Value.tuple #[(VB t87_1), (VB t87_2)]) /\ Vars h_8 [(b_1, [(Sl.v t58_1)])] ∧
  ((!(t66_2 == t73_2)) = true →
  K (VB false) h_8) ∧
  ((!(t66_2 == t73_2)) = false →
  callM P 12 #[(Sl.v t66_1), (Sl.v t73_1)] h_8 fun rv_7 h_9 => ∃ t96_1 : Bool, rv_7 = (VB t96_1) /\ Vars h_9 [(b_1, [(Sl.v t58_1)])] ∧
  ((!t96_1) = true →
  K (VB false) h_9) ∧
  ((!t96_1) = false →
  ((!(t80_2 == t87_2)) = true →
  K (VB false) h_9) ∧
  ((!(t80_2 == t87_2)) = false →
  ((!(t80_1 == t87_1)) = true →
  K (VB false) h_9) ∧
  ((!(t80_1 == t87_1)) = false →
  (t80_2 = true →
  ((!(t66_2 == t80_1)) = true →
  K (VB false) h_9) ∧
  ((!(t66_2 == t80_1)) = false →
  w3_1 P t66_2 t58_1 t58_3 t58_2 h_9 b_1 t66_1 more1_1 K)) ∧
  (t80_2 = false →
  ((!(t66_2 == false)) = true →
  K (VB false) h_9) ∧
  ((!(t66_2 == false)) = false →
  w3_1 P t66_2 t58_1 t58_3 t58_2 h_9 b_1 t66_1 more1_1 K)))))))
theorem x3 (code0_1 : Sl) (more1_1 : Sl) (h : Heap) (K : Value -> Heap -> Prop) (H : w3 Try.prog code0_1 more1_1 h K) : callM Try.prog 3 #[(Sl.v code0_1), (Sl.v more1_1)] h K := v3 code0_1 more1_1 h K H
theorem cb_3 {X : Heap} {S : Nat -> Prop} {mo : Sl} {vs : List Value} (C : RdV S X 1 mo vs) (B : ∀ v, v ∈ vs -> ∃ m : Int, v = Value.int .u8 m /\ 0 ≤ m /\ m ≤ 255) {K : Value -> Heap -> Prop} (HK : ∀ h', Fr No X h' -> K (VB true) h') (u1 u2 : Int) (b8 : Nat) (u3 u4 : Int) (b7 : Nat) (t : Sl) (b1 : Nat) (g : Sl) : w3_3 Try.prog X u1 u2 b8 u3 u4 b7 t b1 g mo K := by
  unfold w3_3
  intro b9 h36 hb9 f36 hL36
  have f36 := f36.in_nil
  refine k_DrawExpectedSteps (C.no f36) B _ fun t gs r p q h37 G37 f37 => ⟨t, r, p, q, rfl, hL36.of_no f37, fun b10 h39 _ f39 hL39 => ?_⟩
  have f39 := f39.in_nil
  have F39 := f36.no_trans (f37.no_trans f39)
  have G39 := G37.no f39
  refine k_ExpectedSteps G39 r p q _ fun h40 f40 => ⟨_, _, _, rfl, hL39.of_no f40, fun b11 h42 _ f42 hL42 => ?_⟩
  have f42 := f40.no_trans f42.in_nil
  refine k_spec_ExpectedSteps (G39.no f42) r p q _ fun h43 f43 => ⟨_, _, _, rfl, hL42.of_no f43, fun b12 h45 _ f45 hL45 => ?_⟩
  have f45 := f42.no_trans (f43.no_trans f45.in_nil)
  refine k_HitChance (G39.no f45) r p q _ fun h46 f46 => ⟨_, _, _, rfl, hL45.of_no f46, fun b13 h48 _ f48 hL48 => ?_⟩
  have f48 := f45.no_trans (f46.no_trans f48.in_nil)
  refine k_spec_HitChance (G39.no f48) r p q _ fun h49 f49 => ⟨_, _, _, rfl, hL48.of_no f49, fun _ => ?_, fun e => by simp at e⟩
  have f49 := f48.no_trans f49
  refine pop_req _ _ _ _ _ _ ⟨_, rfl, fun _ => ⟨fun _ => pop_req _ _ _ _ _ _ ⟨_, rfl, fun b14 h51 _ f51 _ => ?_⟩, fun e => by simp at e⟩, fun e => by simp at e⟩
  rw [decide_eq_true rfl]
  exact HK h51 (F39.no_trans (f49.no_trans f51.in_nil))
structure Sm (g : List (List Int)) (a b : Int) (l : List Int) (num den tot wh : Int) : Prop where
  n0 : 0 ≤ num
  n1 : num ≤ 1073741824
  d0 : 1 ≤ den
  d1 : den ≤ 1048576
  t0 : 0 ≤ tot
  t1 : tot ≤ 1073741824
  w0 : 1 ≤ wh
  w1 : wh ≤ 1048576
  nd : num * hiD g a b = den * sumX (chN g a b) l
  tw : tot * hiD g a b = wh * sumX (stN g a b) l
theorem Sm.next {g : List (List Int)} {a b : Int} {l : List Int} {num den tot wh : Int} (H : Sm g a b l num den tot wh) {q : Nat} {x y s : Rat2} (Q : Plc g a b q x y s) : w64 (w64 (num * x.2) + w64 (x.1 * den)) = num * x.2 + x.1 * den /\ w64 (den * x.2) = den * x.2 /\ w64 (w64 (tot * s.2) + w64 (s.1 * wh)) = tot * s.2 + s.1 * wh /\ w64 (wh * s.2) = wh * s.2 ∧
    (den * x.2 ≤ 1048576 -> wh * s.2 ≤ 1048576 -> num * x.2 + x.1 * den ≤ 1073741824 -> tot * s.2 + s.1 * wh ≤ 1073741824 -> Sm g a b (l ++ [(q : Int)]) (num * x.2 + x.1 * den) (den * x.2) (tot * s.2 + s.1 * wh) (wh * s.2)) := by
  have e1 := mulB H.n0 H.n1 (show 0 ≤ x.2 by have := Q.den; omega) Q.top
  have e2 := mulB Q.num (Int.le_trans Q.le Q.top) (show 0 ≤ den by have := H.d0; omega) H.d1
  have e3 := mulB (show 0 ≤ den by have := H.d0; omega) H.d1 (show 0 ≤ x.2 by have := Q.den; omega) Q.top
  have e4 := mulB H.t0 H.t1 (show 0 ≤ s.2 by have := Q.sden; omega) Q.stop
  have e5 := mulB Q.snum Q.shi (show 0 ≤ wh by have := H.w0; omega) H.w1
  have e6 := mulB (show 0 ≤ wh by have := H.w0; omega) H.w1 (show 0 ≤ s.2 by have := Q.sden; omega) Q.stop
  have p3 : 0 < den * x.2 := Int.mul_pos (by have := H.d0; omega) (by have := Q.den; omega)
  have p6 : 0 < wh * s.2 := Int.mul_pos (by have := H.w0; omega) (by have := Q.sden; omega)
  refine ⟨?_, w64_eq _ (by omega) (by omega), ?_, w64_eq _ (by omega) (by omega), fun a1 a2 a3 a4 => ⟨by omega, a3, by omega, a1, by omega, a4, by omega, a2, ?_, ?_⟩⟩
  · rw [w64_eq (num * x.2) (by omega) (by omega), w64_eq (x.1 * den) (by omega) (by omega), w64_eq _ (by omega) (by omega)]
  · rw [w64_eq (tot * s.2) (by omega) (by omega), w64_eq (s.1 * wh) (by omega) (by omega), w64_eq _ (by omega) (by omega)]
  · rw [sumX_snoc]
    exact mean_step H.nd Q.cross
  · rw [sumX_snoc]
    exact mean_step H.tw Q.scross
theorem Sm.last {g : List (List Int)} {a b : Int} {num den tot wh : Int} (C : Can g a b) {p : Nat} (hp : p < g.length) (pa : (p : Int) ≠ a) (pb : (p : Int) ≠ b) (H : Sm g a b (g.getD p []) num den tot wh) {x y s : Rat2} (Q : Plc g a b p x y s) (s1 : s.1 ≤ 1073741824) (s2 : s.2 ≤ 1048576) : w64 (num * x.2) = w64 (w64 (x.1 * den) * ((g.getD p []).length : Int)) /\ w64 (w64 (tot + w64 (wh * ((g.getD p []).length : Int))) * s.2) = w64 (w64 (s.1 * wh) * ((g.getD p []).length : Int)) := by
  have hd := C.den
  have hl : ((g.getD p []).length : Int) ≤ 5 := by
    rw [getD_get hp]
    have := (graph_mem C.graph (List.getElem_mem hp)).1
    omega
  have m1 := mean_end (by omega) H.nd Q.cross (C.ch hp pa pb)
  have m2 := steps_end (by omega) H.tw Q.scross (C.st hp pa pb)
  have hl0 : (0 : Int) ≤ ((g.getD p []).length : Int) := by omega
  generalize ((g.getD p []).length : Int) = len at *
  have e1 := mulB H.n0 H.n1 (show 0 ≤ x.2 by have := Q.den; omega) Q.top
  have e2 := mulB Q.num (Int.le_trans Q.le Q.top) (show 0 ≤ den by have := H.d0; omega) H.d1
  have e3 := mulB (show 0 ≤ wh by have := H.w0; omega) H.w1 hl0 hl
  have e4 := mulB Q.snum s1 (show 0 ≤ wh by have := H.w0; omega) H.w1
  have t1 := H.t1
  have t0 := H.t0
  have e5 := mulB (a := tot + wh * len) (A := 1079000000) (by omega) (by omega) (show 0 ≤ s.2 by have := Q.sden; omega) Q.stop
  have e6 := mulB (a := x.1 * den) (A := 16384000000) e2.1 (by omega) hl0 hl
  have e7 := mulB (a := s.1 * wh) (A := 1125899906842624) e4.1 (by omega) hl0 hl
  rw [w64_eq (num * x.2) (by omega) (by omega), w64_eq (x.1 * den) (by omega) (by omega), w64_eq (x.1 * den * len) (by omega) (by omega), w64_eq (wh * len) (by omega) (by omega), w64_eq (tot + wh * len) (by omega) (by omega), w64_eq ((tot + wh * len) * s.2) (by omega) (by omega), w64_eq (s.1 * wh) (by omega) (by omega), w64_eq (s.1 * wh * len) (by omega) (by omega)]
  exact ⟨m1, m2⟩
theorem hcP_t {g : List (List Int)} {a b p : Int} (C : Can g a b) (p0 : 0 ≤ p) (p1 : p < (g.length : Int)) : hcP g p a b = (ratP (chN g a b p) (hiD g a b), true) := by
  unfold hcP
  rw [can_i C, inR_iff.2 ⟨p0, by omega⟩]
  rfl
theorem esP_t {g : List (List Int)} {a b p : Int} (C : Can g a b) (p0 : 0 ≤ p) (p1 : p < (g.length : Int)) : esP g p a b = (ratP (stN g a b p) (hiD g a b), true) := by
  unfold esP
  rw [can_i C, inR_iff.2 ⟨p0, by omega⟩]
  rfl
set_option maxHeartbeats 4000000 in
theorem cb_1 {X : Heap} {S S2 S3 : Nat -> Prop} {g c mo : Sl} {gs : List (List Int)} {vs : List Value} {a b : Int} (G : RdR S X g gs) (Q : RdQ S2 X c (chsP gs a b).1) (M : RdV S3 X 1 mo vs) (B : ∀ v, v ∈ vs -> ∃ m : Int, v = Value.int .u8 m /\ 0 ≤ m /\ m ≤ 255) {K : Value -> Heap -> Prop} (HK : ∀ h', Fr No X h' -> K (VB true) h') {b1 : Nat} (hL : Vars X [(b1, [g.v])]) : w3_1 Try.prog (chsP gs a b).2 g b a X b1 c mo K := by
  unfold w3_1
  refine ⟨fun h' => Fr No X h', ⟨fun e => ?_, fun _ => Fr.refl _ _⟩, fun h27 F27 hL27 => ?_⟩
  · obtain ⟨C, e2⟩ := chsP_t e
    rw [e2] at Q
    have gl := graph_len C.graph
    have gn := G.len
    have cn := Q.len
    have hd := C.den
    rw [chR_len] at cn
    have ct : (chsP gs b a).2 = true := by rw [chsP_2]; exact can_i C.turn
    have ct1 := (chsP_t ct).2
    refine k_ChancesOf G b a _ fun t h10 Q10 f10 => ⟨t, _, rfl, hL.of_no f10, fun e => by rw [ct] at e; simp at e, fun _ => ⟨fun e => ?_, fun _ => ?_⟩⟩
    · have e := not_t e
      simp only [decide_eq_false_iff_not] at e
      omega
    rw [ct1] at Q10
    have Qh := Q.no f10
    obtain ⟨ia, ca⟩ := Qh.get C.a0 (by rw [chR_len]; exact C.a1)
    rw [chR_get, show (((a.toNat : Nat) : Int)) = a by have := C.a0; omega, chN_a, ratP_one (by omega)] at ca
    refine ⟨ia, _, _, ca, pop_rne _ _ _ _ _ _ ⟨_, rfl, fun e => by simp at e, fun _ => ?_⟩⟩
    obtain ⟨ib, cb⟩ := Qh.get C.b0 (by rw [chR_len]; exact C.b1)
    rw [chR_get, show (((b.toNat : Nat) : Int)) = b by have := C.b0; omega, chN_b gs C.ne, ratP_zero (by omega)] at cb
    refine ⟨ib, _, _, cb, pop_rne _ _ _ _ _ _ ⟨_, rfl, fun e => by simp at e, fun _ => ?_⟩⟩
    refine ⟨fun n i h' => 0 ≤ i /\ i + n = (gs.length : Int) /\ Fr No h10 h', ⟨gs.length, by omega, by omega, Fr.refl _ _⟩, ?_⟩
    rintro n i h11 ⟨i0, i1, f11⟩ hL11
    refine ⟨fun e3 => ?_, fun _ => f10.no_trans f11⟩
    simp only [decide_eq_true_eq] at e3
    have hi : i < (gs.length : Int) := by omega
    have G11 := G.no (f10.no_trans f11)
    obtain ⟨si, ci, ri⟩ := G11.get i0 hi
    have ln := ri.len
    obtain ⟨jx, cx⟩ := (Qh.no f11).get i0 (by rw [chR_len]; exact hi)
    rw [chR_get, show (((i.toNat : Nat) : Int)) = i by omega] at cx
    have P := C.plc (p := i.toNat) (by omega)
    rw [show (((i.toNat : Nat) : Int)) = i by omega] at P
    have hx := hcP_t C i0 hi
    have hs := esP_t C i0 hi
    obtain ⟨jy, cy⟩ := (Q10.no f11).get i0 (by rw [chR_len]; exact hi)
    rw [chR_get, show (((i.toNat : Nat) : Int)) = i by omega, P.turn] at cy
    have P' := P
    generalize ratP (chN gs a b i) (hiD gs a b) = x at cx P hx cy
    generalize ratP (stN gs a b i) (hiD gs a b) = s at P hs
    have eg : gs.getD i.toNat [] = gs[i.toNat]'(by omega) := getD_get (by omega)
    refine ⟨G11.inb i0 hi, si, ci, jx, _, _, cx, jy, fun b2 h13 _ f13 hL13 => ?_⟩
    have f13 := f13.in_nil
    refine ⟨_, _, fun j hj => hcell_fr (cy j hj) f13 fun h => h, fun b3 h15 _ f15 hL15 => ?_⟩
    have f15 := f13.no_trans f15.in_nil
    refine k_HitChance (G11.no f15) i a b _ fun h16 f16 => ⟨_, _, _, rfl, hL15.of_no f16, fun b4 h18 _ f18 hL18 => ?_⟩
    have f18 := f15.no_trans (f16.no_trans f18.in_nil)
    refine k_ExpectedSteps (G11.no f18) i a b _ fun h19 f19 => ⟨_, _, _, rfl, hL18.of_no f19, ?_⟩
    have f19 := f18.no_trans f19
    rw [hx, hs]
    have next : ∀ h', Fr No h19 h' -> ∃ m : Nat, m < n /\ (0 ≤ w64 (i + 1) /\ w64 (i + 1) + m = (gs.length : Int) /\ Fr No h10 h') := fun h' f => by
      rw [w64_eq _ (by omega) (by omega)]
      exact ⟨n - 1, by omega, by omega, by omega, f11.no_trans (f19.no_trans f)⟩
    refine ⟨fun e => by simp at e, fun _ => pop_rne _ _ _ _ _ _ ⟨_, rfl, fun e => by simp at e, fun _ => ⟨fun e => by simp at e, fun _ => ⟨fun e => ?_, fun _ => ⟨fun e => ?_, fun _ => ⟨fun e => ?_, fun _ => ⟨fun e => ?_, fun _ => ⟨fun e => ?_, fun _ => ⟨fun e4 => ⟨fun e => ?_, fun _ => fun b5 h21 _ f21 _ => next h21 f21.in_nil⟩, fun e4 => ⟨fun e => ?_, fun _ => ⟨fun e5 => fun b5 h21 _ f21 _ => next h21 f21.in_nil, fun e5 => fun b5 h21 _ f21 hL21 => ?_⟩⟩⟩⟩⟩⟩⟩⟩⟩⟩⟩
    · simp only [decide_eq_true_eq] at e
      have := P.num
      omega
    · simp only [decide_eq_true_eq] at e
      have := P.le
      omega
    · simp only [decide_eq_true_eq] at e
      have := P.den
      omega
    · simp at e
    · have e := not_t e
      simp only [decide_eq_false_iff_not] at e
      have h1 := P.num
      have h2 := P.top
      have h3 := P.le
      rw [w64_eq _ (by omega) (by omega)] at e
      exact absurd rfl e
    · simp only [decide_eq_true_eq] at e4
      have hz := P.szero.2 (.inl (by omega))
      rw [hz] at e
      simp at e
    · simp only [decide_eq_false_iff_not] at e4
      have : decide (s.1 = 0) = decide (i = b) := decide_eq_decide.2 ⟨fun h => by have := P.szero.1 h; omega, fun h => P.szero.2 (.inr (by omega))⟩
      rw [this] at e
      simp at e
    · simp only [decide_eq_false_iff_not] at e4 e5
      have g21 := f21.in_nil
      have f21 := f19.no_trans g21
      have r21 := ri.no f21
      have gm := graph_mem C.graph (List.getElem_mem (show i.toNat < gs.length by omega))
      have ib4 : ((i.toNat : Nat) : Int) ≠ a := by omega
      have ib5 : ((i.toNat : Nat) : Int) ≠ b := by omega
      have fin := fun {num den tot wh : Int} (H : Sm gs a b (gs.getD i.toNat []) num den tot wh) (s1 : s.1 ≤ 1073741824) (s2 : s.2 ≤ 1048576) => Sm.last C (show i.toNat < gs.length by omega) ib4 ib5 H P s1 s2
      rw [eg] at fin
      generalize gs[i.toNat]'(by omega) = ex at ri r21 ln gm fin
      refine ⟨fun x1 x2 x3 x4 h' => Fr No h19 h' /\ (x2 = 0 ∨ Sm gs a b ex x1 x2 x3 x4), ⟨fun n num den tot wh j h' => 0 ≤ j /\ j + n = (ex.length : Int) /\ Sm gs a b (ex.take j.toNat) num den tot wh /\ Fr No h11 h' /\ Fr No h19 h', ⟨ex.length, by omega, by omega, ⟨by omega, by omega, by omega, by omega, by omega, by omega, by omega, by omega, by simp [sumX], by simp [sumX]⟩, f21, g21⟩, ?_⟩, ?_⟩
      · rintro n2 num den tot wh j h22 ⟨j0, j1, H, f22, g22⟩ hL22
        have r22 := ri.no f22
        have Q22 := Qh.no (f11.no_trans f22)
        refine ⟨fun e6 => ?_, fun e6 => ?_⟩
        · have hj := r22.lt e6
          have hc := r22.get j0 hj
          have tk : ex.take (j + 1).toNat = _ := take_snoc _ j0 hj
          have hv := gm.2 _ (List.getElem_mem (show j.toNat < ex.length by omega))
          generalize ex[j.toNat]'(by omega) = q at hc tk hv
          obtain ⟨iq, cq⟩ := Q22.get (i := q) hv.1 (by rw [chR_len]; exact hv.2)
          rw [chR_get, show (((q.toNat : Nat) : Int)) = q by omega] at cq
          have PQ := C.plc (p := q.toNat) (by omega)
          rw [show (((q.toNat : Nat) : Int)) = q by omega] at PQ
          have hsq := esP_t C hv.1 hv.2
          generalize ratP (chN gs a b q) (hiD gs a b) = x2 at cq PQ
          generalize ratP (stN gs a b q) (hiD gs a b) = s2 at PQ hsq
          obtain ⟨w1, w2, w3, w4, nx⟩ := H.next PQ
          have c1 := cq 1 (by simp)
          have c0 := cq 0 (by simp)
          refine ⟨r22.inb j0 hj, _, hc, iq, _, c1, iq, _, c0, iq, _, c1, k_ExpectedSteps (G.no (f10.no_trans (f11.no_trans f22))) q a b _ fun h23 f23 => ⟨_, _, _, rfl, hL22.of_no f23, ?_⟩⟩
          have g23 := g22.no_trans f23
          rw [hsq, r22.succ j0 hj, w1, w2, w3, w4]
          have stop : w3_2 Try.prog h23 s2.1 s2.2 b5 s.1 s.2 b4 x.1 x.2 b3 (x.2 - x.1) x.2 b2 x.1 x.2 b1 g (fun x1 x2 x3 x4 h' => Fr No h19 h' /\ (x2 = 0 ∨ Sm gs a b ex x1 x2 x3 x4)) num x2.2 x2.1 den tot wh K := by
            unfold w3_2
            exact fun b6 h25 _ f25 _ => ⟨g23.no_trans f25.in_nil, .inl rfl⟩
          refine ⟨fun e => by simp at e, fun _ => ⟨fun _ => stop, fun a1 => ⟨fun _ => stop, fun a2 => ⟨fun _ => stop, fun a3 => ⟨fun _ => stop, fun a4 b6 h25 _ f25 _ => ?_⟩⟩⟩⟩⟩
          simp only [decide_eq_false_iff_not] at a1 a2 a3 a4
          refine ⟨n2 - 1, by omega, by omega, by omega, ?_, f22.no_trans (f23.no_trans f25.in_nil), g23.no_trans f25.in_nil⟩
          have := nx (by omega) (by omega) (by omega) (by omega)
          rw [tk]
          rw [show (((q.toNat : Nat) : Int)) = q by omega] at this
          exact this
        · have hj := r22.ge e6
          rw [List.take_of_length_le (by omega)] at H
          exact ⟨g22, .inr H⟩
      · rintro x1 x2 x3 x4 h26 ⟨g26, hS⟩ hL26
        refine ⟨fun _ => next h26 g26, fun a0 => ⟨fun _ => next h26 g26, fun a1 => ⟨fun _ => next h26 g26, fun a2 => ⟨fun _ => next h26 g26, fun a3 => ?_⟩⟩⟩⟩
        simp only [decide_eq_false_iff_not] at a0 a1 a2 a3
        obtain ⟨m1, m2⟩ := fin (hS.resolve_left a0) (by omega) (by omega)
        rw [ln, m1, m2]
        exact ⟨fun e => by simp at e, fun _ => ⟨fun e => by simp at e, fun _ => next h26 g26⟩⟩
  · refine k_DrawShareOfExit (M.no F27) B _ fun t ts p k h28 T28 f28 => ⟨t, p, k, rfl, hL27.of_no f28, fun b7 h30 _ f30 hL30 => ?_⟩
    have f30 := f30.in_nil
    have F30 := F27.no_trans (f28.no_trans f30)
    have T30 := T28.no f30
    refine k_ShareOfExit T30 p k _ fun h31 f31 => ⟨_, _, _, rfl, hL30.of_no f31, fun b8 h33 _ f33 hL33 => ?_⟩
    have f33 := f31.no_trans f33.in_nil
    refine k_spec_ShareOfExit (T30.no f33) p k _ fun h34 f34 => ⟨_, _, _, rfl, hL33.of_no f34, fun e => by simp at e, fun _ => ?_⟩
    have F34 := F30.no_trans (f33.no_trans f34)
    have tl := fun (u1 u2 : Int) (b8 : Nat) (u3 u4 : Int) (b7 : Nat) => cb_3 (K := K) (M.no F34) B (fun h' f => HK h' (F34.no_trans f)) u1 u2 b8 u3 u4 b7 t b1 g
    refine pop_rne _ _ _ _ _ _ ⟨_, rfl, fun e => by simp at e, fun _ => ⟨fun e2 => ?_, fun _ => tl _ _ _ _ _ _⟩⟩
    have ht := shP_told e2
    refine ⟨fun e => ?_, fun _ => ⟨fun e => ?_, fun _ => tl _ _ _ _ _ _⟩⟩
    · simp only [decide_eq_true_eq] at e
      omega
    · simp only [decide_eq_true_eq] at e
      omega
set_option maxHeartbeats 4000000 in
theorem k_lawChancesBalanced {h : Heap} {S0 S1 : Nat -> Prop} {s0 s1 : Sl} {x0 x1 : List Value} (G0 : RdV S0 h 1 s0 x0) (B0 : ∀ v, v ∈ x0 -> ∃ m : Int, v = Value.int .u8 m /\ 0 ≤ m /\ m ≤ 255) (G1 : RdV S1 h 1 s1 x1) (B1 : ∀ v, v ∈ x1 -> ∃ m : Int, v = Value.int .u8 m /\ 0 ≤ m /\ m ≤ 255) : Ret Try.prog 3 #[s0.v, s1.v] h (VB true) := by
  intro K HK
  refine x3 s0 s1 h K ?_
  unfold w3
  refine k_big s0 s1 h _ fun b0 => ⟨b0, rfl, .nil, fun _ => HK h (Fr.refl _ _), fun _ => ?_⟩
  refine k_DrawChancesOf G0 B0 _ fun t gs a b h2 hl2 G2 f2 => ⟨t, a, b, rfl, .nil, fun b1 h4 _ f4 hL4 => ?_⟩
  have f4 := f4.in_nil
  have F4 := f2.no_trans f4
  have G4 := G2.no f4
  refine k_ChancesOf G4 a b _ fun a5 h5 q5 f5 => ⟨a5, _, rfl, hL4.of_no f5, ?_⟩
  refine k_spec_ChancesOf (G4.no f5) a b _ fun a6 h6 q6 f6 => ⟨a6, _, rfl, (hL4.of_no f5).of_no f6, ?_⟩
  have f46 := f5.no_trans f6
  have hL6 := (hL4.of_no f5).of_no f6
  refine k_CanEnd (G4.no f46) a b _ fun h7 f7 => ⟨_, _, rfl, hL6.of_no f7, ?_⟩
  have f47 := f46.no_trans f7
  refine k_spec_CanEnd (G4.no f47) a b _ fun h8 f8 => ⟨_, _, rfl, (hL6.of_no f7).of_no f8, fun e => by simp at e, fun _ => ?_⟩
  have f48 := f47.no_trans f8
  have hL8 := (hL6.of_no f7).of_no f8
  have p5 := q5.no (f6.no_trans (f7.no_trans f8))
  have p6 := q6.no (f7.no_trans f8)
  have cl : (chsP gs a b).1.length ≤ 1000 := by
    unfold chsP
    split
    · show (chR gs a b).length ≤ 1000
      rw [chR_len]; omega
    · exact Nat.zero_le _
  refine k_wRatios p5 p6 cl _ ⟨_, rfl, hL8, fun e => by simp at e, fun _ => ⟨fun e => by simp at e, fun _ => ⟨fun e => by simp at e, fun _ => ?_⟩⟩⟩
  have F8 := F4.no_trans f48
  have main := cb_1 (K := K) (G4.no f48) p5 (G1.no F8) B1 (fun h' f => HK h' (F8.no_trans f)) hL8
  have c2 := chsP_2 gs a b
  refine ⟨fun e => ⟨fun e2 => ?_, fun _ => main⟩, fun e => ⟨fun e2 => ?_, fun _ => main⟩⟩
  · rw [c2] at e2; simp at e2
  · rw [c2, can_goal e] at e2; simp at e2
end Go.Proofs.Ytgiamamfnpklkaa
