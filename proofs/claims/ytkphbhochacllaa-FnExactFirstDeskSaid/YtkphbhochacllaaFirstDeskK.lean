/-
  What each function that the law 'FnExactFirstDesk' comes to does: the contracts.
-/
import Derived.Test.YtkphbhochacllaaFirstDeskU
import Derived.Test.YtkphbhochacllaaM4
set_option linter.unusedVariables false
set_option linter.unusedSimpArgs false
namespace Go.Proofs.Ytkphbhochacllaa
open Go Go.Mx
@[reducible] def tI : TypeId := 3
@[reducible] def tIs : TypeId := 25
@[reducible] def tIss : TypeId := 22
theorem rIs : rowC Try.prog tIs = some (tI, 1, 8, [VI 0]) := by kernel_rfl
theorem rIss : rowC Try.prog tIss = some (tIs, 1, 24, [nilSl.v]) := by kernel_rfl
@[reducible] def OwI (h : Heap) (F : Nat → Prop) (s : Sl) (xs : List Int) : Prop := Ow h F tI 1 s (xs.map VI)
@[reducible] def OwX (h : Heap) (F : Nat → Prop) (s : Sl) (xss : List (List Int)) : Prop := OwR h F tIs tI s xss
theorem plainVI (xs : List Int) : (xs.map VI).all plainV = true := by simp [List.all_eq_true, plainV]

theorem k_bool {f : FuncId} {args : Array Value} {h : Heap} {v w : Value} (H : Ret Try.prog f args h v) (e : v = w) : Ret Try.prog f args h w := e ▸ H

def inR (lo hi x : Int) : Bool := decide (lo ≤ x) && decide (x ≤ hi)
def graphB (g : List (List Int)) : Bool := inR 1 8 g.length && g.all fun l => !decide (5 < (l.length : Int)) && l.all (inR 0 ((g.length : Int) - 1))
theorem not_t {b : Bool} (h : (!b) = true) : b = false := by simpa using h
theorem not_f {b : Bool} (h : (!b) = false) : b = true := by simpa using h

theorem loopI {S : Nat → Prop} {h : Heap} {s : Sl} {xs : List Int} (H : RdI S h s xs) : (xs.length : Int) ≤ maxLen := by have := H.len; have := H.big; omega

theorem k_eqIntS {S S' : Nat → Prop} {h : Heap} {a b : Sl} {xs ys : List Int} (H : RdI S h a xs) (H' : RdI S' h b ys) (K : Value → Heap → Prop) (HK : K (VB (decide (xs = ys))) h) : callM Try.prog 53 #[a.v, b.v] h K := by
  refine v53 a b h K ⟨fun e => ?_, fun e => ?_⟩
  · have e1 := not_t e
    rw [H.len, H'.len] at e1
    have : ¬ xs = ys := fun e2 => by subst e2; simp at e1
    rw [decide_eq_false this] at HK
    exact HK
  · have e1 := not_f e
    rw [H.len, H'.len] at e1
    have hl : xs.length = ys.length := by simp at e1; omega
    refine ⟨fun n i h' => h' = h ∧ 0 ≤ i ∧ i + n = (xs.length : Int) ∧ decide (xs = ys) = decide (xs.drop i.toNat = ys.drop i.toNat), ⟨xs.length, rfl, by omega, by omega, by simp⟩, ?_⟩
    rintro n i _ ⟨rfl, h0, h1, h2⟩ hL
    refine ⟨fun e => ?_, fun e => ?_⟩
    · have hi := H.lt e
      have hi' : i < (ys.length : Int) := by omega
      refine ⟨H.inb h0 hi, _, H.get h0 hi, H'.inb h0 hi', _, H'.get h0 hi', fun e => ?_, fun e => ?_⟩
      · rw [drop_cons xs h0 hi, drop_cons ys h0 hi'] at h2
        have e3 := not_t e
        simp only [decide_eq_false_iff_not] at e3
        rw [h2, decide_eq_false (fun e4 => e3 (List.cons.inj e4).1)] at HK
        exact HK
      · rw [drop_cons xs h0 hi, drop_cons ys h0 hi'] at h2
        have e3 := not_f e
        simp only [decide_eq_true_eq] at e3
        rw [H.succ h0 hi]
        refine ⟨n - 1, by omega, rfl, by omega, by omega, h2.trans ?_⟩
        rw [e3]
        simp
    · have hi := H.ge e
      rw [List.drop_of_length_le (by omega), List.drop_of_length_le (by omega)] at h2
      rw [h2] at HK
      exact HK

theorem k_eqIntSS {S S' : Nat → Prop} {h : Heap} {a b : Sl} {xs ys : List (List Int)} (H : RdR S h a xs) (H' : RdR S' h b ys) (K : Value → Heap → Prop) (HK : K (VB (decide (xs = ys))) h) : callM Try.prog 71 #[a.v, b.v] h K := by
  refine v71 a b h K ⟨fun e => ?_, fun e => ?_⟩
  · have e1 := not_t e
    rw [H.len, H'.len] at e1
    have : ¬ xs = ys := fun e2 => by subst e2; simp at e1
    rw [decide_eq_false this] at HK
    exact HK
  · have e1 := not_f e
    rw [H.len, H'.len] at e1
    have hl : xs.length = ys.length := by simp at e1; omega
    refine ⟨fun n i h' => h' = h ∧ 0 ≤ i ∧ i + n = (xs.length : Int) ∧ decide (xs = ys) = decide (xs.drop i.toNat = ys.drop i.toNat), ⟨xs.length, rfl, by omega, by omega, by simp⟩, ?_⟩
    rintro n i _ ⟨rfl, h0, h1, h2⟩ hL
    refine ⟨fun e => ?_, fun e => ?_⟩
    · have hi := H.lt e
      have hi' : i < (ys.length : Int) := by omega
      obtain ⟨x, cx, rx⟩ := H.get h0 hi
      obtain ⟨y, cy, ry⟩ := H'.get h0 hi'
      refine ⟨H.inb h0 hi, x, cx, H'.inb h0 hi', y, cy, k_eqIntS rx ry _ ⟨_, rfl, hL, fun e => ?_, fun e => ?_⟩⟩
      · rw [drop_cons xs h0 hi, drop_cons ys h0 hi'] at h2
        have e3 := not_t e
        simp only [decide_eq_false_iff_not] at e3
        rw [h2, decide_eq_false (fun e4 => e3 (List.cons.inj e4).1)] at HK
        exact HK
      · rw [drop_cons xs h0 hi, drop_cons ys h0 hi'] at h2
        have e3 := not_f e
        simp only [decide_eq_true_eq] at e3
        rw [H.succ h0 hi]
        refine ⟨n - 1, by omega, rfl, by omega, by omega, h2.trans ?_⟩
        rw [e3]
        simp
    · have hi := H.ge e
      rw [List.drop_of_length_le (by omega), List.drop_of_length_le (by omega)] at h2
      rw [h2] at HK
      exact HK

theorem k_eqGraph {S S' : Nat → Prop} {h : Heap} {a b : Sl} {xs ys : List (List Int)} (H : RdR S h a xs) (H' : RdR S' h b ys) : Ret Try.prog 28 #[.agg #[a.v], .agg #[b.v]] h (VB (decide (xs = ys))) := by
  intro K HK
  refine v28 a b h K fun b1 b2 h1 hb1 hb2 f1 hL1 => ?_
  refine k_eqIntSS (H.no f1.in_nil) (H'.no f1.in_nil) _ ⟨_, rfl, hL1, fun e => ?_, fun e => ?_⟩
  · rw [← not_t e]; exact HK _ f1.in_nil
  · rw [← not_f e]; exact HK _ f1.in_nil

theorem k_eqWalk {S S' : Nat → Prop} {h : Heap} {a b : Sl} {xs ys : List Int} (H : RdI S h a xs) (H' : RdI S' h b ys) (p q : Int) : Ret Try.prog 37 #[.agg #[a.v, VI p], .agg #[b.v, VI q]] h (VB (decide (xs = ys ∧ p = q))) := by
  intro K HK
  refine v37 a p b q h K fun b1 b2 h1 hb1 hb2 f1 hL1 => ?_
  refine k_eqIntS (H.no f1.in_nil) (H'.no f1.in_nil) _ ⟨_, rfl, hL1, fun e => ?_, fun e => ?_⟩
  · have e3 := not_t e
    simp only [decide_eq_false_iff_not] at e3
    rw [decide_eq_false fun e4 => e3 e4.1] at HK
    exact HK _ f1.in_nil
  · have e3 := not_f e
    simp only [decide_eq_true_eq] at e3
    refine ⟨fun e => ?_, fun e => ?_⟩
    · have e5 := not_t e
      simp only [decide_eq_false_iff_not] at e5
      rw [decide_eq_false fun e4 => e5 e4.2] at HK
      exact HK _ f1.in_nil
    · have e5 := not_f e
      simp only [decide_eq_true_eq] at e5
      rw [decide_eq_true ⟨e3, e5⟩] at HK
      exact HK _ f1.in_nil

theorem k_eqDesk {S S' T T' : Nat → Prop} {h : Heap} {a b c d : Sl} {xss yss : List (List Int)} {xs ys : List Int} (G : RdR S h a xss) (G' : RdR S' h b yss) (H : RdI T h c xs) (H' : RdI T' h d ys) (p q : Int) : Ret Try.prog 17 #[.agg #[a.v, c.v, VI p], .agg #[b.v, d.v, VI q]] h (VB (decide (xss = yss ∧ xs = ys ∧ p = q))) := by
  intro K HK
  refine v17 a c p b d q h K fun b1 b2 h1 hb1 hb2 f1 hL1 => ?_
  have f1 := f1.in_nil
  refine k_eqGraph (G.no f1) (G'.no f1) _ fun h2 f2 => ⟨_, rfl, hL1.of_no f2, fun e => ?_, fun e => ?_⟩
  · have e3 := not_t e
    simp only [decide_eq_false_iff_not] at e3
    rw [decide_eq_false fun e4 => e3 e4.1] at HK
    exact HK _ (f1.trans f2)
  · have e3 := not_f e
    simp only [decide_eq_true_eq] at e3
    have f12 := f1.no_trans f2
    refine k_eqWalk (H.no f12) (H'.no f12) p q _ fun h3 f3 => ⟨_, rfl, (hL1.of_no f2).of_no f3, fun e => ?_, fun e => ?_⟩
    · have e5 := not_t e
      simp only [decide_eq_false_iff_not] at e5
      rw [decide_eq_false fun e4 => e5 e4.2] at HK
      exact HK _ (f12.trans f3)
    · have e5 := not_f e
      simp only [decide_eq_true_eq] at e5
      rw [decide_eq_true ⟨e3, e5⟩] at HK
      exact HK _ (f12.trans f3)

def numI (k : Int) : List Int → List Int
  | [] => []
  | _ :: xs => k :: numI (k + 1) xs
theorem numI_length : ∀ (k : Int) (xs : List Int), (numI k xs).length = xs.length
  | _, [] => rfl
  | k, _ :: xs => by simp [numI, numI_length (k + 1) xs]
theorem numI_get : ∀ (xs : List Int) (k : Int) (i : Nat) (h : i < (numI k xs).length), (numI k xs)[i] = k + i
  | [], k, i, h => by simp [numI] at h
  | x :: xs, k, 0, h => by simp [numI]
  | x :: xs, k, i + 1, h => by
    simp only [numI, List.getElem_cons_succ]
    rw [numI_get xs (k + 1) i]
    omega
def totR (xss : List (List Int)) : Nat := (xss.map List.length).sum
def numR (k : Int) : List (List Int) → List (List Int)
  | [] => []
  | xs :: xss => numI k xs :: numR (k + xs.length) xss
theorem numR_length : ∀ (k : Int) (xss : List (List Int)), (numR k xss).length = xss.length
  | _, [] => rfl
  | k, xs :: xss => by simp [numR, numR_length (k + xs.length) xss]
theorem numR_get : ∀ (xss : List (List Int)) (k : Int) (i : Nat) (h : i < (numR k xss).length) (h' : i < xss.length), (numR k xss)[i] = numI (k + totR (xss.take i)) xss[i]
  | [], k, i, h, _ => by simp [numR] at h
  | x :: xs, k, 0, h, _ => by simp [numR, totR]
  | x :: xs, k, i + 1, h, h' => by
    simp only [numR, List.getElem_cons_succ]
    rw [numR_get xs _ i (by simpa [numR] using h) (by simpa using h')]
    congr 1
    simp [totR]
    omega
theorem totR_take_le : ∀ (xss : List (List Int)) (i : Nat), totR (xss.take i) ≤ totR xss
  | [], i => by simp [totR]
  | x :: xs, 0 => by simp [totR]
  | x :: xs, i + 1 => by
    have := totR_take_le xs i
    simp only [totR, List.take_succ_cons, List.map_cons, List.sum_cons] at *
    omega
theorem totR_snoc (xss : List (List Int)) (i : Nat) (h : i < xss.length) : totR (xss.take (i + 1)) = totR (xss.take i) + xss[i].length := by
  rw [List.take_succ_eq_append_getElem h]
  simp only [totR, List.map_append, List.sum_append, List.map_cons, List.map_nil, List.sum_cons, List.sum_nil]
  omega

theorem k_markIntS {F : Nat → Prop} {h : Heap} {s : Sl} {xs : List Int} (H : OwI h F s xs) (k : Int) (h0 : 0 ≤ k) (hk : k ≤ 1000000000000000) (hn : xs.length ≤ 1000000000000) (K : Value → Heap → Prop) (HK : ∀ h', OwI h' F s (numI k xs) → Fr s.own h h' → K (VI (k + xs.length)) h') : callM Try.prog 54 #[s.v, VI k] h K := by
  have hl : s.n = xs.length := by have := H.len; simp at this; omega
  refine v54 s k h K ⟨fun n k' i h' => 0 ≤ i ∧ i + n = (xs.length : Int) ∧ k' = k + i ∧ OwI h' F s ((numI k xs).take i.toNat ++ xs.drop i.toNat) ∧ Fr s.own h h', ⟨xs.length, by omega, by omega, by omega, by simpa using H, Fr.refl _ _⟩, ?_⟩
  rintro n k' i h' ⟨i0, i1, rfl, H', f⟩ hL
  refine ⟨fun e => ?_, fun e => ?_⟩
  · have hi : i < (s.n : Int) := by simpa using e
    have ws : w64 (i + 1) = i + 1 := w64_eq _ (by omega) (by omega)
    have wk : w64 (k + i + 1) = k + i + 1 := w64_eq _ (by omega) (by omega)
    obtain ⟨w1, w2, w3⟩ := H'.store1 i0 hi (VI (k + i))
    refine ⟨H'.inb i0 hi, w1, .nil, fun h2 e2 _ => ?_⟩
    rw [ws, wk]
    refine ⟨n - 1, by omega, by omega, by omega, by omega, ?_, ?_⟩
    · subst e2
      have e3 : VI (k + i) = VI ((numI k xs)[i.toNat]'(by rw [numI_length]; omega)) := by rw [numI_get]; congr 1; omega
      rw [e3] at w2 ⊢
      rw [← List.map_set, set_mid _ _ _ _ (by omega)] at w2
      rw [toNat_succ i0]
      exact w2
    · subst e2; exact f.trans w3
  · have hi : ¬ i < (s.n : Int) := by simpa using e
    have e4 : i = xs.length := by omega
    subst e4
    have := HK h' (by simpa [List.take_of_length_le, numI_length] using H') f
    exact this

theorem k_markIntSS {F : Nat → Prop} {h : Heap} {s : Sl} {xss : List (List Int)} (H : OwX h F s xss) (k : Int) (h0 : 0 ≤ k) (hk : k ≤ 100000000000) (hn : totR xss ≤ 100000000000) (K : Value → Heap → Prop) (HK : ∀ h', OwX h' F s (numR k xss) → Fr F h h' → K (VI (k + totR xss)) h') : callM Try.prog 72 #[s.v, VI k] h K := by
  have hl : s.n = xss.length := H.len
  have hbig := H.rd.big
  refine v72 s k h K ⟨fun n k' i h' => 0 ≤ i ∧ i + n = (xss.length : Int) ∧ k' = k + totR (xss.take i.toNat) ∧ OwX h' F s ((numR k xss).take i.toNat ++ xss.drop i.toNat) ∧ Fr F h h', ⟨xss.length, by omega, by omega, by simp [totR], by simpa using H, Fr.refl _ _⟩, ?_⟩
  rintro n k' i h' ⟨i0, i1, rfl, H', f⟩ hL
  refine ⟨fun e => ?_, fun e => ?_⟩
  · have hi : i < (s.n : Int) := by simpa using e
    have hlen : ((numR k xss).take i.toNat ++ xss.drop i.toNat).length = xss.length := by simp [numR_length]; omega
    have hlen2 : ((numR k xss).take i.toNat).length = i.toNat := by simp [numR_length]; omega
    obtain ⟨si, c1, c2, c3⟩ := H'.inner i0 (by omega)
    have e1 : ((numR k xss).take i.toNat ++ xss.drop i.toNat)[i.toNat]'(by omega) = xss[i.toNat]'(by omega) := by
      rw [List.getElem_append_right (by omega)]
      simp [hlen2]
    rw [e1] at c2
    have hle := totR_take_le xss i.toNat
    have hle2 := totR_take_le xss (i.toNat + 1)
    have hsn := totR_snoc xss i.toNat (by omega)
    refine ⟨H'.rd.inb i0 (by omega), si, c1, k_markIntS c2 _ (by omega) (by omega) (by omega) _ fun h2 o2 f2 => ⟨_, rfl, .nil, n - 1, by omega, ?_, ?_, ?_, ?_, ?_⟩⟩
    · rw [w64_succ i0 hi hbig]; omega
    · rw [w64_succ i0 hi hbig]; omega
    · rw [w64_succ i0 hi hbig, toNat_succ i0, hsn]; omega
    · rw [w64_succ i0 hi hbig]
      have := c3 h2 _ f2 o2
      rw [← numR_get xss k i.toNat (by rw [numR_length]; omega) (by omega), set_mid _ _ _ _ (by omega)] at this
      rw [toNat_succ i0]
      exact this
    · exact f.trans (f2.mono fun k _ hk => (c2.foot hk).1)
  · have hi : ¬ i < (s.n : Int) := by simpa using e
    have e4 : i = xss.length := by omega
    subst e4
    have := HK h' (by simpa [List.take_of_length_le, numR_length] using H') f
    simpa using this

theorem k_heldIntS {S : Nat → Prop} {h : Heap} {s : Sl} {xs : List Int} (k : Int) (H : RdI S h s (numI k xs)) (h0 : 0 ≤ k) (hk : k ≤ 1000000000000000) (hn : xs.length ≤ 1000000000000) (K : Value → Heap → Prop) (HK : K (VI (k + xs.length)) h) : callM Try.prog 55 #[s.v, VI k] h K := by
  have hl : s.n = xs.length := by have := H.len; rw [numI_length] at this; exact this
  refine v55 s k h K ⟨fun n k' i h' => h' = h ∧ 0 ≤ i ∧ i + n = (xs.length : Int) ∧ k' = k + i, ⟨xs.length, rfl, by omega, by omega, by omega⟩, ?_⟩
  rintro n k' i _ ⟨rfl, i0, i1, rfl⟩ hL
  refine ⟨fun e => ?_, fun e => ?_⟩
  · have hi := H.lt e
    refine ⟨H.inb i0 hi, _, H.get i0 hi, fun e => ?_, fun e => ?_⟩
    · have e5 := not_t e
      simp only [decide_eq_false_iff_not] at e5
      rw [numI_get] at e5
      omega
    · rw [H.succ i0 hi, w64_eq _ (by omega) (by rw [numI_length] at hi; omega)]
      rw [numI_length] at hi
      exact ⟨n - 1, by omega, rfl, by omega, by omega, by omega⟩
  · have hi := H.ge e
    rw [numI_length] at hi
    have e4 : i = xs.length := by omega
    rw [e4]
    exact HK

theorem k_heldIntSS {S : Nat → Prop} {h : Heap} {s : Sl} {xss : List (List Int)} (k : Int) (H : RdR S h s (numR k xss)) (h0 : 0 ≤ k) (hk : k ≤ 100000000000) (hn : totR xss ≤ 100000000000) (K : Value → Heap → Prop) (HK : K (VI (k + totR xss)) h) : callM Try.prog 73 #[s.v, VI k] h K := by
  have hl : s.n = xss.length := by have := H.len; rw [numR_length] at this; exact this
  refine v73 s k h K ⟨fun n k' i h' => h' = h ∧ 0 ≤ i ∧ i + n = (xss.length : Int) ∧ k' = k + totR (xss.take i.toNat), ⟨xss.length, rfl, by omega, by omega, by simp [totR]⟩, ?_⟩
  rintro n k' i _ ⟨rfl, i0, i1, rfl⟩ hL
  refine ⟨fun e => ?_, fun e => ?_⟩
  · have hi := H.lt e
    have hi' : i < (xss.length : Int) := by rw [numR_length] at hi; exact hi
    obtain ⟨si, c1, c2⟩ := H.get i0 hi
    rw [numR_get xss k i.toNat _ (by omega)] at c2
    have hle := totR_take_le xss i.toNat
    have hle2 := totR_take_le xss (i.toNat + 1)
    have hsn := totR_snoc xss i.toNat (by omega)
    refine ⟨H.inb i0 hi, si, c1, k_heldIntS _ c2 (by omega) (by omega) (by omega) _ ⟨_, rfl, .nil, fun e => ?_, fun e => ?_⟩⟩
    · simp only [decide_eq_true_eq] at e
      omega
    · rw [H.succ i0 hi]
      exact ⟨n - 1, by omega, rfl, by omega, by omega, by rw [toNat_succ i0, hsn]; omega⟩
  · have hi := H.ge e
    rw [numR_length] at hi
    have e4 : i = xss.length := by omega
    rw [e4]
    simpa using HK

theorem k_markGraph {F : Nat → Prop} {h : Heap} {s : Sl} {xss : List (List Int)} (H : OwX h F s xss) (k : Int) (h0 : 0 ≤ k) (hk : k ≤ 100000000000) (hn : totR xss ≤ 100000000000) (K : Value → Heap → Prop) (HK : ∀ h', OwX h' F s (numR k xss) → Fr F h h' → K (VI (k + totR xss)) h') : callM Try.prog 29 #[.agg #[s.v], VI k] h K := by
  refine v29 s k h K fun b1 h1 hb1 f1 hL1 => ?_
  have H1 : OwX h1 (fun k => F k ∧ k < h.size) s xss := (H.mono fun k hk hF => ⟨hF, hk⟩ : OwX h _ s xss).no f1.in_nil
  refine k_markIntSS H1 k h0 hk hn _ fun h2 o2 f2 => ?_
  refine ⟨_, rfl, hL1.fr f2 (fun p hp hk => ?_), ?_⟩
  · obtain rfl : p = (b1, [s.v]) := by simpa using hp
    have := hk.2
    simp only at this
    omega
  · exact HK _ (o2.mono fun k _ hk => hk.1) (f1.in_nil.of_no.trans (f2.mono fun k _ hk => hk.1))

theorem k_markWalk {F : Nat → Prop} {h : Heap} {s : Sl} {xs : List Int} (H : OwI h F s xs) (p k : Int) (h0 : 0 ≤ k) (hk : k ≤ 1000000000000000) (hn : xs.length ≤ 1000000000000) (K : Value → Heap → Prop) (HK : ∀ h', OwI h' F s (numI k xs) → Fr s.own h h' → K (VI (k + xs.length)) h') : callM Try.prog 45 #[.agg #[s.v, VI p], VI k] h K := by
  refine v45 s p k h K fun b1 h1 hb1 f1 hL1 => ?_
  refine k_markIntS (Ow.no H f1.in_nil) k h0 hk hn _ fun h2 o2 f2 => ?_
  refine ⟨_, rfl, hL1.fr f2 (fun p hp hk => ?_), ?_⟩
  · obtain rfl : p = (b1, [s.v, _]) := by simpa using hp
    have := (H.foot hk).2
    simp only at this
    omega
  · exact HK _ o2 (f1.in_nil.of_no.trans f2)

theorem k_markDesk {F F' : Nat → Prop} {h : Heap} {s t : Sl} {xss : List (List Int)} {xs : List Int} (G : OwX h F s xss) (H : OwI h F' t xs) (hd : ∀ k, F k → ¬ F' k) (p k : Int) (h0 : 0 ≤ k) (hk : k ≤ 100000000000) (hn : totR xss ≤ 100000000000) (hm : xs.length ≤ 1000000000000) (K : Value → Heap → Prop)
    (HK : ∀ h', OwX h' F s (numR k xss) → OwI h' F' t (numI (k + totR xss) xs) → Fr (fun k => F k ∨ F' k) h h' → K (VI (k + totR xss + xs.length)) h') : callM Try.prog 18 #[.agg #[s.v, t.v, VI p], VI k] h K := by
  refine v18 s t p k h K fun b1 h1 hb1 f1 hL1 => ?_
  have G1 : OwX h1 (fun k => F k ∧ k < h.size) s xss := (G.mono fun k hk hF => ⟨hF, hk⟩ : OwX h _ s xss).no f1.in_nil
  have H1 : OwI h1 (fun k => F' k ∧ k < h.size) t xs := Ow.no (H.mono fun k hk hF => ⟨hF, (H.foot hk).2⟩) f1.in_nil
  refine k_markGraph G1 k h0 hk hn _ fun h2 o2 f2 => ?_
  have hL2 := hL1.fr f2 fun p hp hk => by
    obtain rfl : p = (b1, [s.v, t.v, _]) := by simpa using hp
    have := hk.2
    simp only at this
    omega
  have H2 := H1.fr f2 fun k hk hk2 => hd k hk2.1 (H1.foot hk).1.1
  refine ⟨_, rfl, hL2, ?_⟩
  refine k_markWalk H2 p _ (by omega) (by omega) (by omega) _ fun h3 o3 f3 => ?_
  refine ⟨_, rfl, hL2.fr f3 (fun p hp hk => ?_), ?_⟩
  · obtain rfl : p = (b1, [s.v, t.v, _]) := by simpa using hp
    have := (H1.foot hk).1.2
    simp only at this
    omega
  · refine HK _ ((o2.fr f3 fun k _ hk hk2 => hd k hk.1 (H2.foot hk2).1.1).mono fun k _ hk => hk.1) (o3.mono fun k _ hk => hk.1) ?_
    exact (f1.in_nil.of_no.trans (f2.mono fun k _ hk => .inl hk.1)).trans (f3.mono fun k _ hk => .inr (H2.foot hk).1.1)

theorem k_heldGraph {S : Nat → Prop} {h : Heap} {s : Sl} {xss : List (List Int)} (k : Int) (H : RdR S h s (numR k xss)) (h0 : 0 ≤ k) (hk : k ≤ 100000000000) (hn : totR xss ≤ 100000000000) : Ret Try.prog 30 #[.agg #[s.v], VI k] h (VI (k + totR xss)) := by
  intro K HK
  refine v30 s k h K fun b1 h1 hb1 f1 hL1 => ?_
  refine k_heldIntSS k (H.no f1.in_nil) h0 hk hn _ ⟨_, rfl, hL1, fun e => ?_, fun e => HK _ f1.in_nil⟩
  simp only [decide_eq_true_eq] at e
  omega

theorem k_heldWalk {S : Nat → Prop} {h : Heap} {s : Sl} {xs : List Int} (p k : Int) (H : RdI S h s (numI k xs)) (h0 : 0 ≤ k) (hk : k ≤ 1000000000000000) (hn : xs.length ≤ 1000000000000) : Ret Try.prog 50 #[.agg #[s.v, VI p], VI k] h (VI (k + xs.length)) := by
  intro K HK
  refine v50 s p k h K fun b1 h1 hb1 f1 hL1 => ?_
  refine k_heldIntS k (H.no f1.in_nil) h0 hk hn _ ⟨_, rfl, hL1, fun e => ?_, fun e => HK _ f1.in_nil⟩
  simp only [decide_eq_true_eq] at e
  omega

theorem k_heldDesk {S S' : Nat → Prop} {h : Heap} {s t : Sl} {xss : List (List Int)} {xs : List Int} (p k : Int) (G : RdR S h s (numR k xss)) (H : RdI S' h t (numI (k + totR xss) xs)) (h0 : 0 ≤ k) (hk : k ≤ 100000000000) (hn : totR xss ≤ 100000000000) (hm : xs.length ≤ 1000000000000) : Ret Try.prog 19 #[.agg #[s.v, t.v, VI p], VI k] h (VI (k + totR xss + xs.length)) := by
  intro K HK
  refine v19 s t p k h K fun b1 h1 hb1 f1 hL1 => ?_
  have f1 := f1.in_nil
  refine k_heldGraph k (G.no f1) h0 hk hn _ fun h2 f2 => ⟨_, rfl, hL1.of_no f2, fun e => ?_, fun e => ?_⟩
  · simp only [decide_eq_true_eq] at e
    omega
  · refine k_heldWalk p _ ((H.no f1).no f2) (by omega) (by omega) (by omega) _ fun h3 f3 => ⟨_, rfl, (hL1.of_no f2).of_no f3, fun e => ?_, fun e => HK _ ((f1.no_trans f2).trans f3)⟩
    simp only [decide_eq_true_eq] at e
    omega

def firstXs : List (List Int) := [[1, 2], [0, 2], [0]]
def DeskIs (h h' : Heap) (v : Value) : Prop := ∃ (g w : Sl) (m : Nat), v = .agg #[g.v, w.v, VI 0] ∧ OwX h' (fun k => h.size ≤ k ∧ k < m) g firstXs ∧ OwI h' (fun k => h.size ≤ k ∧ m ≤ k) w [0, 0, 0] ∧ Fr No h h'
theorem own_lt {h : Heap} {F : Nat → Prop} {e : TypeId} {sz : Nat} {s : Sl} {vs : List Value} (H : Ow h F e sz s vs) {n : Nat} (hn : h.size ≤ n) : ∀ k, s.own k → k < n := fun k hk => Nat.lt_of_lt_of_le (H.foot hk).2 hn
theorem lit_first {h1 : Heap} {K : Value → Heap → Prop} (HK : ∀ (g : Sl) (h' : Heap), OwX h' (fun k => h1.size ≤ k) g firstXs → Fr No h1 h' → K g.v h') :
    eop Try.prog (Instr.buildSlice tIs 2 #[(0, VI 1), (1, VI 2)]) h1 fun rv_1 h_2 => ∃ t1_1 : Sl, rv_1 = t1_1.v ∧ Fr No h1 h_2 ∧
    eop Try.prog (Instr.buildSlice tIs 2 #[(0, VI 0), (1, VI 2)]) h_2 fun rv_2 h_3 => ∃ t2_1 : Sl, rv_2 = t2_1.v ∧ Fr No h_2 h_3 ∧
    eop Try.prog (Instr.buildSlice tIs 1 #[(0, VI 0)]) h_3 fun rv_3 h_4 => ∃ t3_1 : Sl, rv_3 = t3_1.v ∧ Fr No h_3 h_4 ∧
    eop Try.prog (Instr.buildSlice tIss 3 #[(0, t1_1.v), (1, t2_1.v), (2, t3_1.v)]) h_4 K := by
  refine eop_lit rIs (fun k => h1.size ≤ k) (fun _ h => h) 2 (by omega) [VI 1, VI 2] rfl rfl fun t1 h2 n1 c1 o1 f1 l1 _ => ⟨t1, rfl, f1, ?_⟩
  refine eop_lit rIs (fun k => h1.size ≤ k) (fun _ h => Nat.le_trans f1.size h) 2 (by omega) [VI 0, VI 2] rfl rfl fun t2 h3 n2 c2 o2 f2 l2 _ => ⟨t2, rfl, f2, ?_⟩
  have f13 := f1.no_trans f2
  refine eop_lit rIs (fun k => h1.size ≤ k) (fun _ h => Nat.le_trans f13.size h) 1 (by omega) [VI 0] rfl rfl fun t3 h4 n3 c3 o3 f3 l3 _ => ⟨t3, rfl, f3, ?_⟩
  have f14 := f13.no_trans f3
  refine eop_lit rIss (fun k => h1.size ≤ k) (fun _ h => Nat.le_trans f14.size h) 3 (by omega) [t1.v, t2.v, t3.v] rfl rfl fun t4 h5 n4 c4 o4 f4 l4 _ => ?_
  have g1 := own_lt o1 (Nat.le_refl _)
  have g2 := own_lt o2 (Nat.le_refl _)
  have g3 := own_lt o3 (Nat.le_refl _)
  have s3 := f2.size
  have s4 := f3.size
  refine HK t4 h5 (OwR.of [t1, t2, t3] rfl o4 ?_ ?_ ?_) (f14.trans f4)
  · intro p hp
    simp only [firstXs, List.zip_cons_cons, List.zip_nil_right, List.mem_cons, List.not_mem_nil, or_false] at hp
    rcases hp with rfl | rfl | rfl
    · exact ((o1.no f2).no f3).no f4
    · exact (o2.no f3).no f4
    · exact o3.no f4
  · simp only [List.pairwise_cons, List.mem_cons, List.not_mem_nil, or_false, forall_eq_or_imp, forall_eq, List.Pairwise.nil, and_true]
    refine ⟨⟨fun k a b => ?_, fun k a b => ?_⟩, fun k a b => ?_, by simp⟩
    · have := g1 k a; have := l2 k b; omega
    · have := g1 k a; have := l3 k b; omega
    · have := g2 k a; have := l3 k b; omega
  · intro a ha k hk hk2
    have := l4 k hk
    simp only [List.mem_cons, List.not_mem_nil, or_false] at ha
    rcases ha with rfl | rfl | rfl
    · have := g1 k hk2; omega
    · have := g2 k hk2; omega
    · have := g3 k hk2; omega

theorem k_specFirstDesk (h : Heap) (K : Value → Heap → Prop) (HK : ∀ v h', DeskIs h h' v → K v h') : callM Try.prog 15 #[] h K := by
  refine v15 h K fun b1 h1 hb1 f1 hL1 => ?_
  have f1 := f1.in_nil
  refine (lit_first (K := fun v h' => ∃ g : Sl, v = g.v ∧ OwX h' (fun k => h1.size ≤ k) g firstXs ∧ Fr No h1 h') fun g h' a b => ⟨g, rfl, a, b⟩).mono ?_
  rintro _ h2 ⟨t1, rfl, f2, H⟩
  refine ⟨t1, rfl, hL1.of_no f2, H.mono ?_⟩
  rintro _ h3 ⟨t2, rfl, f3, H⟩
  refine ⟨t2, rfl, (hL1.of_no f2).of_no f3, H.mono ?_⟩
  rintro _ h4 ⟨t3, rfl, f4, H⟩
  refine ⟨t3, rfl, ((hL1.of_no f2).of_no f3).of_no f4, H.mono ?_⟩
  rintro _ h5 ⟨t4, rfl, o5, f5⟩
  have hL5 := hL1.of_no f5
  refine ⟨t4, rfl, hL5, ?_⟩
  refine eop_lit rIs (fun k => h5.size ≤ k) (fun _ h => h) 3 (by omega) [VI 0, VI 0, VI 0] rfl rfl fun t6 h6 n6 c6 o6 f6 l6 _ => ⟨t6, rfl, hL5.of_no f6, fun h7 f7 hL7 => ?_⟩
  have hb : b1 < h1.size := hL1.head.lt
  have s5 := f5.size
  have s1 := f1.size
  have f67 : Fr (In [b1]) h5 h7 := f6.of_no.trans f7
  refine HK _ _ ⟨t4, t6, h5.size, rfl, ?_, ?_, ?_⟩
  · refine (OwR.mono (F' := fun k => h1.size ≤ k ∧ k < h5.size) o5 fun k hk hF => ⟨hF, hk⟩ : OwX h5 _ t4 firstXs).fr f67 (fun k _ hk hk2 => ?_) |>.mono fun k _ hk => ⟨by omega, hk.2⟩
    simp [In] at hk2
    omega
  · refine (Ow.fr o6 f7 fun k hk hk2 => ?_).mono fun k _ hk => ⟨by omega, hk⟩
    have := l6 k hk
    simp [In] at hk2
    omega
  · have f17 : Fr (In [b1]) h1 h7 := f5.of_no.trans f67
    refine ⟨Nat.le_trans s1 f17.size, fun k hk _ => (f17.same k (by omega) fun hk2 => ?_).trans (f1.same k hk fun h => h)⟩
    simp [In] at hk2
    omega

theorem k_deskOf {F : Nat → Prop} {h : Heap} {g : Sl} {xss : List (List Int)} (H : OwX h F g xss) (hn : xss.length ≤ 1000000000000) (K : Value → Heap → Prop) (HK : ∀ w h', OwX h' (fun k => F k ∧ k < h.size) g xss → OwI h' (fun k => h.size ≤ k) w (List.replicate xss.length 0) → Fr No h h' → K (.agg #[g.v, w.v, VI 0]) h') : callM Try.prog 60 #[.agg #[g.v]] h K := by
  refine v60 g h K fun b1 b2 h1 hb1 hb2 f1 hL1 => ?_
  have f1 := f1.in_nil
  have s1 := f1.size
  refine eop_make rIs (fun k => h1.size ≤ k) (fun _ h => h) .i64 .i64 g.n g.n (Nat.le_refl _) (by rw [H.len]; exact hn) fun t7 h3 n3 c3 o3 f3 l3 _ => ⟨t7, rfl, hL1.of_no f3, fun h4 f4 hL4 => ?_⟩
  have hb : b2 < h1.size := hL1.head.lt
  have f13 := f1.no_trans f3
  refine HK _ _ ((((H.mono fun k hk hF => ⟨hF, hk⟩ : OwX h (fun k => F k ∧ k < h.size) g xss).no f13).fr f4 fun k _ hk hk2 => ?_)) ?_ ?_
  · simp [In] at hk2
    omega
  · have e : (List.replicate g.n [VI 0]).flatten = (List.replicate xss.length (0 : Int)).map VI := by rw [H.len]; simp [List.flatten_replicate_singleton]
    rw [e] at o3
    refine (Ow.fr o3 f4 fun k hk hk2 => ?_).mono fun k _ hk => by omega
    have := l3 k hk
    simp [In] at hk2
    omega
  · have f14 : Fr (In [b2]) h h4 := f13.of_no.trans f4
    refine ⟨f14.size, fun k hk _ => f14.same k hk fun hk2 => ?_⟩
    simp [In] at hk2
    omega

theorem k_implFirstDesk (h : Heap) (K : Value → Heap → Prop) (HK : ∀ v h', DeskIs h h' v → K v h') : callM Try.prog 16 #[] h K := by
  refine v16 h K fun b1 h1 hb1 f1 hL1 => ?_
  have f1 := f1.in_nil
  refine (lit_first (K := fun v h' => ∃ g : Sl, v = g.v ∧ OwX h' (fun k => h1.size ≤ k) g firstXs ∧ Fr No h1 h') fun g h' a b => ⟨g, rfl, a, b⟩).mono ?_
  rintro _ h2 ⟨t1, rfl, f2, H⟩
  refine ⟨t1, rfl, hL1.of_no f2, H.mono ?_⟩
  rintro _ h3 ⟨t2, rfl, f3, H⟩
  refine ⟨t2, rfl, (hL1.of_no f2).of_no f3, H.mono ?_⟩
  rintro _ h4 ⟨t3, rfl, f4, H⟩
  refine ⟨t3, rfl, ((hL1.of_no f2).of_no f3).of_no f4, H.mono ?_⟩
  rintro _ h5 ⟨t4, rfl, o5, f5⟩
  have hL5 := hL1.of_no f5
  refine ⟨t4, rfl, hL5, ?_⟩
  refine k_deskOf o5 (by simp [firstXs]) _ fun t6 h6 o6 p6 f6 => ⟨t4, t6, 0, rfl, hL5.of_no f6, fun h7 f7 hL7 => ?_⟩
  have hb : b1 < h1.size := hL1.head.lt
  have s5 := f5.size
  have s1 := f1.size
  have f67 : Fr (In [b1]) h5 h7 := f6.of_no.trans f7
  refine HK _ _ ⟨t4, t6, h5.size, rfl, ?_, ?_, ?_⟩
  · refine (OwR.fr o6 f7 (fun k _ hk hk2 => ?_)).mono fun k _ hk => ⟨by omega, hk.2⟩
    simp [In] at hk2
    omega
  · refine (Ow.fr p6 f7 fun k hk hk2 => ?_).mono fun k _ hk => ⟨by omega, hk⟩
    have := (p6.foot hk).1
    simp [In] at hk2
    omega
  · have f17 : Fr (In [b1]) h1 h7 := f5.of_no.trans f67
    refine ⟨Nat.le_trans s1 f17.size, fun k hk _ => (f17.same k (by omega) fun hk2 => ?_).trans (f1.same k hk fun h => h)⟩
    simp [In] at hk2
    omega

theorem k_lawFirstDesk (h : Heap) (K : Value → Heap → Prop) (HK : ∀ h', Fr No h h' → K (VB true) h') : callM Try.prog 3 #[] h K := by
  refine v3 h K ?_
  refine k_specFirstDesk _ _ fun v h1 D => ?_
  obtain ⟨wg, ww, wm, rfl, wG, wW, f1⟩ := D
  refine ⟨wg, ww, 0, rfl, .nil, fun b1 h3 hb1 f3 hL3 => ?_⟩
  have f3 := f3.in_nil
  have wG3 := (wG.rd.no f3)
  have wW3 := (Ow.rd wW).no f3
  have wWl : ∀ k, ww.own k → k < h1.size := fun k hk => (wW.foot hk).2
  have s1 := f1.size
  have s3 := f3.size
  refine k_implFirstDesk _ _ fun v h4 D => ?_
  obtain ⟨g, w, m, rfl, G, W, f4⟩ := D
  have s4 := f4.size
  refine ⟨g, w, 0, rfl, hL3.of_no f4, fun b2 h6 hb2 f6 hL6 => ?_⟩
  have f6 := f6.in_nil
  have s6 := f6.size
  have wG6 := (wG3.no f4).no f6
  have wW6 := (wW3.no f4).no f6
  have G6 := (G.mono (F' := fun k => h3.size ≤ k ∧ k < m ∧ k < h4.size) fun k hk hF => ⟨hF.1, hF.2, hk⟩).no f6
  have W6 := Ow.no (W.mono (F' := fun k => h3.size ≤ k ∧ m ≤ k ∧ k < h4.size) fun k hk hF => ⟨hF.1, hF.2, (W.foot hk).2⟩) f6
  refine k_eqDesk G6.rd wG6 W6.rd wW6 0 0 _ fun h7 f7 => ⟨_, rfl, hL6.of_no f7, fun e => ?_, fun e => ?_⟩
  · simp at e
  have s7 := f7.size
  have hb1l : b1 < h3.size := hL3.head.lt
  have G7 := G6.no f7
  have W7 := Ow.no W6 f7
  refine k_markDesk G7 W7 (fun k a b => by omega) 0 1 (by omega) (by omega) (by simp [totR, firstXs]) (by simp) _ fun h8 G8 W8 f8 => ?_
  have hL8 := (hL6.of_no f7).fr f8 fun p hp hk => by
    rcases List.mem_cons.1 hp with rfl | hp
    · simp only at hk
      omega
    · obtain rfl : p = (b1, [wg.v, ww.v, VI 0]) := by simpa using hp
      simp only at hk
      omega
  refine ⟨_, rfl, hL8, ?_⟩
  have wG8 := (wG6.no f7).fr f8 fun k hk hk2 => by omega
  have wW8 := (wW6.no f7).fr f8 fun k hk hk2 => by have := wWl k hk; omega
  have s8 := f8.size
  refine k_heldDesk 0 1 G8.rd W8.rd (by omega) (by omega) (by simp [totR, firstXs]) (by simp) _ fun h9 f9 => ⟨_, rfl, hL8.of_no f9, fun e => ?_, fun e => ⟨fun e => ?_, fun e => ?_⟩⟩
  · simp only [decide_eq_true_eq] at e
    omega
  · simp at e
  have s9 := f9.size
  refine k_implFirstDesk _ _ fun v h10 D => ?_
  obtain ⟨g', w', m', rfl, G', W', f10⟩ := D
  have hL10 := (hL8.of_no f9).of_no f10
  refine ⟨g', w', 0, rfl, hL10, fun b3 h12 hb3 f12 hL12 => ?_⟩
  have f12 := f12.in_nil
  have f8_12 := (f9.no_trans f10).no_trans f12
  refine k_eqDesk (G'.rd.no f12) (wG8.no f8_12) ((Ow.rd W').no f12) (wW8.no f8_12) 0 0 _ fun h13 f13 => ⟨_, rfl, hL12.of_no f13, fun e => ?_, fun e => ?_⟩
  · simp at e
  have f8_13 := f8_12.no_trans f13
  refine k_heldDesk 0 1 (G8.rd.no f8_13) (W8.rd.no f8_13) (by omega) (by omega) (by simp [totR, firstXs]) (by simp) _ fun h14 f14 => ⟨_, rfl, (hL12.of_no f13).of_no f14, fun e => ?_, fun e => ⟨fun e => ?_, fun e => ?_⟩⟩
  · simp only [decide_eq_true_eq] at e
    omega
  · simp at e
  refine HK _ ?_
  have f7_14 := f8.trans ((f8_13.no_trans f14).of_no)
  have f0_7 := ((((f1.no_trans f3).no_trans f4).no_trans f6).no_trans f7)
  refine ⟨by have := f7_14.size; omega, fun k hk _ => (f7_14.same k (by omega) fun hk2 => ?_).trans (f0_7.same k hk fun h => h)⟩
  omega
end Go.Proofs.Ytkphbhochacllaa
