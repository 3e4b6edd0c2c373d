/-
  What each function that the law 'FnExactTurnExits' comes to does: the contracts.
-/
import Derived.Test.YtkphbhochacllaaTurnExitsU
import Derived.Test.YtkphbhochacllaaM4
set_option linter.unusedVariables false
set_option linter.unusedSimpArgs false
namespace Go.Proofs.Ytkphbhochacllaa
open Go Go.Mx
@[reducible] def tI : TypeId := 3
@[reducible] def tIs : TypeId := 25
@[reducible] def tIss : TypeId := 22
theorem rIs : rowC Try.prog tIs = some (tI, 1, 8, [VI 0]) := by kernel_rfl
theorem rIss : rowC Try.prog tIss = some (tIs, 1, 24, [nilSl.v]) := by kernel_rfl
@[reducible] def OwI (h : Heap) (F : Nat → Prop) (s : Sl) (xs : List Int) : Prop := Ow h F tI 1 s (xs.map VI)
@[reducible] def OwX (h : Heap) (F : Nat → Prop) (s : Sl) (xss : List (List Int)) : Prop := OwR h F tIs tI s xss
theorem plainVI (xs : List Int) : (xs.map VI).all plainV = true := by simp [List.all_eq_true, plainV]

theorem k_bool {f : FuncId} {args : Array Value} {h : Heap} {v w : Value} (H : Ret Try.prog f args h v) (e : v = w) : Ret Try.prog f args h w := e ▸ H

theorem k_impl_in (n lo hi : Int) (h : Heap) (K : Value → Heap → Prop) (H : K (VB (decide (lo ≤ n) && decide (n ≤ hi))) h) : callM Try.prog 75 #[VI n, VI lo, VI hi] h K := by
  refine v75 n lo hi h K ⟨fun e => ?_, fun e => ?_⟩
  · rw [e, Bool.true_and] at H; exact H
  · rw [e, Bool.false_and] at H; exact H

theorem k_spec_l1In (n lo hi : Int) (h : Heap) (K : Value → Heap → Prop) (H : K (VB (decide (lo ≤ n) && decide (n ≤ hi))) h) : callM Try.prog 74 #[VI n, VI lo, VI hi] h K := by
  refine v74 n lo hi h K ⟨fun e => ?_, fun e => ?_⟩
  · rw [e, Bool.true_and] at H; exact H
  · rw [e, Bool.false_and] at H; exact H

def inR (lo hi x : Int) : Bool := decide (lo ≤ x) && decide (x ≤ hi)
def graphB (g : List (List Int)) : Bool := inR 1 8 g.length && g.all fun l => !decide (5 < (l.length : Int)) && l.all (inR 0 ((g.length : Int) - 1))
theorem not_t {b : Bool} (h : (!b) = true) : b = false := by simpa using h
theorem not_f {b : Bool} (h : (!b) = false) : b = true := by simpa using h

theorem k_spec_l1All {S : Nat → Prop} {h : Heap} {l : Sl} {xs : List Int} (H : RdI S h l xs) (lo hi_1 : Int) (K : Value → Heap → Prop) (HK : K (VB (xs.all (inR lo hi_1))) h) : callM Try.prog 108 #[l.v, VI lo, VI hi_1] h K := by
  refine v108 l lo hi_1 h K ?_
  refine ⟨fun n i h' => h' = h ∧ 0 ≤ i ∧ i + n = (xs.length : Int) ∧ xs.all (inR lo hi_1) = (xs.drop i.toNat).all (inR lo hi_1), ⟨xs.length, rfl, by omega, by omega, by simp⟩, ?_⟩
  rintro n i _ ⟨rfl, h0, h1, h2⟩ hL
  refine ⟨fun e => ?_, fun e => ?_⟩
  · have hi := H.lt e
    refine ⟨H.inb h0 hi, _, H.get h0 hi, ?_⟩
    rw [drop_cons xs h0 hi, List.all_cons] at h2
    refine k_spec_l1In _ _ _ _ _ ⟨_, rfl, hL, fun e2 => ?_, fun e2 => ?_⟩
    · have e3 : inR lo hi_1 (xs[i.toNat]'(by omega)) = false := not_t e2
      rw [h2, e3] at HK
      exact HK
    · have e3 : inR lo hi_1 (xs[i.toNat]'(by omega)) = true := not_f e2
      rw [e3, Bool.true_and] at h2
      rw [H.succ h0 hi]
      exact ⟨n - 1, by omega, rfl, by omega, by omega, h2⟩
  · have hi := H.ge e
    rw [List.drop_of_length_le (by omega)] at h2
    rw [h2] at HK
    exact HK

theorem k_spec_grGood {S : Nat → Prop} {h : Heap} {g : Sl} {xss : List (List Int)} (H : RdR S h g xss) : Ret Try.prog 97 #[.agg #[g.v]] h (VB (graphB xss)) := by
  intro K HK
  refine v97 g h K ?_
  intro b1 h1 hb1 hf1 hL1
  have f1 := hf1.in_nil
  have hlen := H.len
  refine k_spec_l1In _ _ _ _ _ ⟨_, rfl, hL1, fun e => ?_, fun e => ?_⟩
  · have e3 : inR 1 8 xss.length = false := by have := not_t e; rw [hlen] at this; exact this
    have : graphB xss = false := by unfold graphB; rw [e3]; rfl
    rw [← this]; exact HK _ f1
  · have e3 : inR 1 8 xss.length = true := by have := not_f e; rw [hlen] at this; exact this
    have hw : w64 ((g.n : Int) - 1) = (xss.length : Int) - 1 := by rw [hlen]; exact w64_eq _ (by omega) (by have := maxLen_lt H.big; omega)
    have hg : graphB xss = xss.all fun l => !decide (5 < (l.length : Int)) && l.all (inR 0 ((xss.length : Int) - 1)) := by unfold graphB; rw [e3]; rfl
    rw [hw]
    refine ⟨fun n i h' => Fr No h1 h' ∧ 0 ≤ i ∧ i + n = (xss.length : Int) ∧ graphB xss = (xss.drop i.toNat).all (fun l => !decide (5 < (l.length : Int)) && l.all (inR 0 ((xss.length : Int) - 1))), ⟨xss.length, Fr.refl _ _, by omega, by omega, by simp [hg]⟩, ?_⟩
    rintro n i h3 ⟨f3, h0, h2, h4⟩ hL
    have H3 := (H.no f1).no f3
    refine ⟨fun e => ?_, fun e => ?_⟩
    · have hi := H.lt e
      obtain ⟨si, hc, Hi⟩ := H3.get h0 hi
      refine ⟨H3.inb h0 hi, si, hc, fun e5 => ?_, fun e5 => ?_⟩
      · rw [drop_cons xss h0 hi, List.all_cons] at h4
        rw [Hi.len] at e5
        rw [e5] at h4
        have h5 : graphB xss = false := by rw [h4]; rfl
        rw [← h5]; exact HK _ (f1.trans f3)
      · rw [drop_cons xss h0 hi, List.all_cons] at h4
        rw [Hi.len] at e5
        rw [e5] at h4
        refine k_spec_l1All Hi _ _ _ ⟨_, rfl, hL, fun e6 => ?_, fun e6 => ?_⟩
        · rw [not_t e6] at h4
          have h5 : graphB xss = false := by rw [h4]; rfl
          rw [← h5]; exact HK _ (f1.trans f3)
        · rw [not_f e6] at h4
          rw [H.succ h0 hi]
          exact ⟨n - 1, by omega, f3, by omega, by omega, by rw [h4]; rfl⟩
    · have hi := H.ge e
      rw [List.drop_of_length_le (by omega)] at h4
      have h5 : graphB xss = true := by rw [h4]; rfl
      rw [← h5]; exact HK _ (f1.trans f3)

theorem k_IndexFunc {S : Nat → Prop} {h : Heap} {s : Sl} {xs : List Int} (H : RdI S h s xs) (f : Value) (p : Int → Bool) (hf : ∀ (x : Int) (K : Value → Heap → Prop), K (VB (p x)) h → callV Try.prog f [VI x] h K) (K : Value → Heap → Prop) (HK : ∀ r : Int, decide (0 ≤ r) = xs.any p → K (VI r) h) : callM Try.prog 110 #[s.v, f] h K := by
  refine v110 s f h K ⟨fun n i h' => h' = h ∧ 0 ≤ i ∧ i + n = (xs.length : Int) ∧ xs.any p = (xs.drop i.toNat).any p, ⟨xs.length, rfl, by omega, by omega, by simp⟩, ?_⟩
  rintro n i _ ⟨rfl, i0, i1, i2⟩ hL
  refine ⟨fun e => ?_, fun e => ?_⟩
  · have hi := H.lt e
    rw [drop_cons xs i0 hi, List.any_cons] at i2
    refine ⟨H.inb i0 hi, _, H.get i0 hi, hf _ _ ⟨_, rfl, .nil, fun e => ?_, fun e => ?_⟩⟩
    · rw [e, Bool.true_or] at i2
      exact HK _ (by rw [i2]; simpa using i0)
    · rw [e, Bool.false_or] at i2
      rw [H.succ i0 hi]
      exact ⟨n - 1, by omega, rfl, by omega, by omega, i2⟩
  · have hi := H.ge e
    rw [List.drop_of_length_le (by omega)] at i2
    exact HK _ (by rw [i2]; rfl)

theorem k_ContainsFunc {S : Nat → Prop} {h : Heap} {s : Sl} {xs : List Int} (H : RdI S h s xs) (f : Value) (p : Int → Bool) (hf : ∀ (x : Int) (K : Value → Heap → Prop), K (VB (p x)) h → callV Try.prog f [VI x] h K) (K : Value → Heap → Prop) (HK : K (VB (xs.any p)) h) : callM Try.prog 99 #[s.v, f] h K := by
  refine v99 s f h K (k_IndexFunc H f p hf _ fun r hr => ⟨r, rfl, .nil, ?_⟩)
  rw [hr]; exact HK

theorem k_isGraph1 {h : Heap} {b : Nat} {n : Int} (x : Int) {L : List (Nat × List Value)} (hL : Vars h ((b, [VI n]) :: L)) (K : Value → Heap → Prop) (HK : K (VB (!inR 0 (w64 (n - 1)) x)) h) : callV Try.prog (.func (.func 109) #[] #[VP b 0]) [VI x] h K := by
  refine v109 x b n h K (.cons hL.head (by simp) .nil) ?_
  refine k_impl_in _ _ _ _ _ ⟨_, rfl, .cons hL.head (by simp) .nil, ?_⟩
  exact HK

theorem k_has1 {h : Heap} {b : Nat} {g : Sl} (x : Int) {L : List (Nat × List Value)} (hL : Vars h ((b, [g.v]) :: L)) (K : Value → Heap → Prop) (HK : K (VB (!inR 0 (w64 (g.n - 1)) x)) h) : callV Try.prog (.func (.func 100) #[] #[VP b 0]) [VI x] h K := by
  refine v100 x b g h K (.cons hL.head (by simp) .nil) ?_
  refine k_impl_in _ _ _ _ _ ⟨_, rfl, .cons hL.head (by simp) .nil, ?_⟩
  exact HK

theorem graphB_eq {xss : List (List Int)} (e3 : inR 1 8 xss.length = true) : graphB xss = xss.all fun l => !decide (5 < (l.length : Int)) && l.all (inR 0 ((xss.length : Int) - 1)) := by unfold graphB; rw [e3]; rfl
theorem graphB_no {xss : List (List Int)} (e3 : inR 1 8 xss.length = false) : graphB xss = false := by unfold graphB; rw [e3]; rfl
theorem any_not {xs : List Int} {p : Int → Bool} : xs.any (fun x => !p x) = !xs.all p := by
  induction xs with
  | nil => rfl
  | cons x xs ih => simp only [List.any_cons, List.all_cons, ih, Bool.not_and]
theorem len_w64 {S : Nat → Prop} {h : Heap} {g : Sl} {xss : List (List Int)} (H : RdR S h g xss) : w64 ((g.n : Int) - 1) = (xss.length : Int) - 1 := by
  rw [H.len]
  have h1 := maxLen_lt H.big
  have h2 := H.len
  exact w64_eq _ (by omega) (by omega)

theorem k_isGraph {S : Nat → Prop} {h : Heap} {g : Sl} {xss : List (List Int)} (H : RdR S h g xss) : Ret Try.prog 98 #[.agg #[g.v]] h (VB (graphB xss)) := by
  intro K HK
  refine v98 g h K fun b1 b2 h1 hb1 hb2 hf1 hL1 => ?_
  have f1 := hf1.in_nil
  have hlen := H.len
  refine k_impl_in _ _ _ _ _ ⟨_, rfl, hL1, fun e => ?_, fun e => ?_⟩
  · have e3 : inR 1 8 xss.length = false := by have := not_t e; rw [hlen] at this; exact this
    rw [← graphB_no e3]; exact HK _ f1
  · have e3 : inR 1 8 xss.length = true := by have := not_f e; rw [hlen] at this; exact this
    have hg := graphB_eq e3
    refine ⟨fun n i x h' => h' = h1 ∧ x = (g.n : Int) ∧ 0 ≤ i ∧ i + n = (xss.length : Int) ∧ graphB xss = (xss.drop i.toNat).all (fun l => !decide (5 < (l.length : Int)) && l.all (inR 0 ((xss.length : Int) - 1))), ⟨xss.length, rfl, rfl, by omega, by omega, by simp [hg]⟩, ?_⟩
    rintro n i x _ ⟨rfl, rfl, h0, h2, h4⟩ hL
    have H3 := H.no f1
    refine ⟨fun e => ?_, fun e => ?_⟩
    · have hi := H.lt e
      obtain ⟨si, hc, Hi⟩ := H3.get h0 hi
      rw [drop_cons xss h0 hi, List.all_cons] at h4
      refine ⟨H3.inb h0 hi, si, hc, fun e5 => ?_, fun e5 => ?_⟩
      · rw [Hi.len] at e5
        rw [e5] at h4
        have h5 : graphB xss = false := by rw [h4]; rfl
        rw [← h5]; exact HK _ f1
      · rw [Hi.len] at e5
        rw [e5] at h4
        refine k_ContainsFunc Hi _ _ (fun x K HK => k_isGraph1 x hL K HK) _ ?_
        refine ⟨_, _, rfl, hL, fun e6 => ?_, fun e6 => ?_⟩
        · rw [any_not, len_w64 H] at e6
          rw [not_t e6] at h4
          have h5 : graphB xss = false := by rw [h4]; rfl
          rw [← h5]; exact HK _ f1
        · rw [any_not, len_w64 H] at e6
          rw [not_f e6] at h4
          rw [H.succ h0 hi]
          exact ⟨n - 1, by omega, rfl, rfl, by omega, by omega, by rw [h4]; rfl⟩
    · have hi := H.ge e
      rw [List.drop_of_length_le (by omega)] at h4
      have h5 : graphB xss = true := by rw [h4]; rfl
      rw [← h5]; exact HK _ f1

theorem k_has {S S' : Nat → Prop} {h : Heap} {g s : Sl} {xss : List (List Int)} {ps : List Int} (H : RdR S h g xss) (Hp : RdI S' h s ps) : Ret Try.prog 68 #[.agg #[g.v], s.v] h (VB (graphB xss && ps.all (inR 0 ((xss.length : Int) - 1)))) := by
  intro K HK
  refine v68 g s h K fun b1 h1 hb1 f1 hL1 => ?_
  have f1 := f1.in_nil
  refine k_isGraph (H.no f1) _ fun h2 f2 => ⟨_, rfl, hL1.of_no f2, fun e => ?_, fun e => ?_⟩
  · rw [e, Bool.true_and] at HK
    have hL2 := hL1.of_no f2
    refine k_ContainsFunc ((Hp.no f1).no f2) _ _ (fun x K HK => k_has1 x hL2 K HK) _ ?_
    refine ⟨_, _, rfl, hL2, ?_⟩
    rw [any_not, len_w64 H, Bool.not_not]
    exact HK _ (f1.trans f2)
  · rw [e, Bool.false_and] at HK
    exact HK _ (f1.trans f2)

theorem k_spec_grPlace {S : Nat → Prop} {h : Heap} {g : Sl} {xss : List (List Int)} (H : RdR S h g xss) (p : Int) : Ret Try.prog 64 #[.agg #[g.v], VI p] h (VB (graphB xss && inR 0 ((xss.length : Int) - 1) p)) := by
  intro K HK
  refine v64 g p h K fun b1 h1 hb1 f1 hL1 => ?_
  have f1 := f1.in_nil
  refine k_spec_grGood (H.no f1) _ fun h2 f2 => ⟨_, rfl, hL1.of_no f2, fun e => ?_, fun e => ?_⟩
  · rw [e, Bool.true_and] at HK
    refine k_spec_l1In _ _ _ _ _ ⟨_, rfl, hL1.of_no f2, ?_⟩
    rw [len_w64 H]
    exact HK _ (f1.trans f2)
  · rw [e, Bool.false_and] at HK
    exact HK _ (f1.trans f2)

def rotB (l : List Int) (r : Int) : Bool := inR 0 (max ((l.length : Int) - 1) 0) r
def walkB (g : List (List Int)) (rs : List Int) (p : Int) : Bool := graphB g && inR 0 ((g.length : Int) - 1) p && decide (rs.length = g.length) && (g.zip rs).all fun q => rotB q.1 q.2
theorem walkB_no1 {g : List (List Int)} {rs : List Int} {p : Int} (e : (graphB g && inR 0 ((g.length : Int) - 1) p) = false) : walkB g rs p = false := by unfold walkB; rw [e]; rfl
theorem walkB_no2 {g : List (List Int)} {rs : List Int} {p : Int} (e : ¬ rs.length = g.length) : walkB g rs p = false := by unfold walkB; rw [decide_eq_false e]; simp
theorem walkB_eq {g : List (List Int)} {rs : List Int} {p : Int} (e : (graphB g && inR 0 ((g.length : Int) - 1) p) = true) (e2 : rs.length = g.length) : walkB g rs p = (g.zip rs).all fun q => rotB q.1 q.2 := by unfold walkB; rw [e, decide_eq_true e2]; rfl
theorem zip_drop (g : List (List Int)) (rs : List Int) {i : Int} (h0 : 0 ≤ i) (h1 : i < (g.length : Int)) (h2 : i < (rs.length : Int)) : (g.zip rs).drop i.toNat = (g[i.toNat]'(by omega), rs[i.toNat]'(by omega)) :: (g.zip rs).drop (i + 1).toNat := by
  have := drop_cons (g.zip rs) h0 (by simp; omega)
  simpa using this
theorem len_w64I {S : Nat → Prop} {h : Heap} {g : Sl} {xs : List Int} (H : RdI S h g xs) : w64 ((g.n : Int) - 1) = (xs.length : Int) - 1 := by
  rw [H.len]
  have h1 := maxLen_lt (RdV.big H)
  have h2 := H.len
  exact w64_eq _ (by omega) (by omega)

theorem loopI {S : Nat → Prop} {h : Heap} {s : Sl} {xs : List Int} (H : RdI S h s xs) : (xs.length : Int) ≤ maxLen := by have := H.len; have := H.big; omega

theorem k_eqIntS {S S' : Nat → Prop} {h : Heap} {a b : Sl} {xs ys : List Int} (H : RdI S h a xs) (H' : RdI S' h b ys) (K : Value → Heap → Prop) (HK : K (VB (decide (xs = ys))) h) : callM Try.prog 53 #[a.v, b.v] h K := by
  refine v53 a b h K ⟨fun e => ?_, fun e => ?_⟩
  · have e1 := not_t e
    rw [H.len, H'.len] at e1
    have : ¬ xs = ys := fun e2 => by subst e2; simp at e1
    rw [decide_eq_false this] at HK
    exact HK
  · have e1 := not_f e
    rw [H.len, H'.len] at e1
    have hl : xs.length = ys.length := by simp at e1; omega
    refine ⟨fun n i h' => h' = h ∧ 0 ≤ i ∧ i + n = (xs.length : Int) ∧ decide (xs = ys) = decide (xs.drop i.toNat = ys.drop i.toNat), ⟨xs.length, rfl, by omega, by omega, by simp⟩, ?_⟩
    rintro n i _ ⟨rfl, h0, h1, h2⟩ hL
    refine ⟨fun e => ?_, fun e => ?_⟩
    · have hi := H.lt e
      have hi' : i < (ys.length : Int) := by omega
      refine ⟨H.inb h0 hi, _, H.get h0 hi, H'.inb h0 hi', _, H'.get h0 hi', fun e => ?_, fun e => ?_⟩
      · rw [drop_cons xs h0 hi, drop_cons ys h0 hi'] at h2
        have e3 := not_t e
        simp only [decide_eq_false_iff_not] at e3
        rw [h2, decide_eq_false (fun e4 => e3 (List.cons.inj e4).1)] at HK
        exact HK
      · rw [drop_cons xs h0 hi, drop_cons ys h0 hi'] at h2
        have e3 := not_f e
        simp only [decide_eq_true_eq] at e3
        rw [H.succ h0 hi]
        refine ⟨n - 1, by omega, rfl, by omega, by omega, h2.trans ?_⟩
        rw [e3]
        simp
    · have hi := H.ge e
      rw [List.drop_of_length_le (by omega), List.drop_of_length_le (by omega)] at h2
      rw [h2] at HK
      exact HK

theorem k_eqIntSS {S S' : Nat → Prop} {h : Heap} {a b : Sl} {xs ys : List (List Int)} (H : RdR S h a xs) (H' : RdR S' h b ys) (K : Value → Heap → Prop) (HK : K (VB (decide (xs = ys))) h) : callM Try.prog 71 #[a.v, b.v] h K := by
  refine v71 a b h K ⟨fun e => ?_, fun e => ?_⟩
  · have e1 := not_t e
    rw [H.len, H'.len] at e1
    have : ¬ xs = ys := fun e2 => by subst e2; simp at e1
    rw [decide_eq_false this] at HK
    exact HK
  · have e1 := not_f e
    rw [H.len, H'.len] at e1
    have hl : xs.length = ys.length := by simp at e1; omega
    refine ⟨fun n i h' => h' = h ∧ 0 ≤ i ∧ i + n = (xs.length : Int) ∧ decide (xs = ys) = decide (xs.drop i.toNat = ys.drop i.toNat), ⟨xs.length, rfl, by omega, by omega, by simp⟩, ?_⟩
    rintro n i _ ⟨rfl, h0, h1, h2⟩ hL
    refine ⟨fun e => ?_, fun e => ?_⟩
    · have hi := H.lt e
      have hi' : i < (ys.length : Int) := by omega
      obtain ⟨x, cx, rx⟩ := H.get h0 hi
      obtain ⟨y, cy, ry⟩ := H'.get h0 hi'
      refine ⟨H.inb h0 hi, x, cx, H'.inb h0 hi', y, cy, k_eqIntS rx ry _ ⟨_, rfl, hL, fun e => ?_, fun e => ?_⟩⟩
      · rw [drop_cons xs h0 hi, drop_cons ys h0 hi'] at h2
        have e3 := not_t e
        simp only [decide_eq_false_iff_not] at e3
        rw [h2, decide_eq_false (fun e4 => e3 (List.cons.inj e4).1)] at HK
        exact HK
      · rw [drop_cons xs h0 hi, drop_cons ys h0 hi'] at h2
        have e3 := not_f e
        simp only [decide_eq_true_eq] at e3
        rw [H.succ h0 hi]
        refine ⟨n - 1, by omega, rfl, by omega, by omega, h2.trans ?_⟩
        rw [e3]
        simp
    · have hi := H.ge e
      rw [List.drop_of_length_le (by omega), List.drop_of_length_le (by omega)] at h2
      rw [h2] at HK
      exact HK

theorem k_eqGraph {S S' : Nat → Prop} {h : Heap} {a b : Sl} {xs ys : List (List Int)} (H : RdR S h a xs) (H' : RdR S' h b ys) : Ret Try.prog 28 #[.agg #[a.v], .agg #[b.v]] h (VB (decide (xs = ys))) := by
  intro K HK
  refine v28 a b h K fun b1 b2 h1 hb1 hb2 f1 hL1 => ?_
  refine k_eqIntSS (H.no f1.in_nil) (H'.no f1.in_nil) _ ⟨_, rfl, hL1, fun e => ?_, fun e => ?_⟩
  · rw [← not_t e]; exact HK _ f1.in_nil
  · rw [← not_f e]; exact HK _ f1.in_nil

def numI (k : Int) : List Int → List Int
  | [] => []
  | _ :: xs => k :: numI (k + 1) xs
theorem numI_length : ∀ (k : Int) (xs : List Int), (numI k xs).length = xs.length
  | _, [] => rfl
  | k, _ :: xs => by simp [numI, numI_length (k + 1) xs]
theorem numI_get : ∀ (xs : List Int) (k : Int) (i : Nat) (h : i < (numI k xs).length), (numI k xs)[i] = k + i
  | [], k, i, h => by simp [numI] at h
  | x :: xs, k, 0, h => by simp [numI]
  | x :: xs, k, i + 1, h => by
    simp only [numI, List.getElem_cons_succ]
    rw [numI_get xs (k + 1) i]
    omega
def totR (xss : List (List Int)) : Nat := (xss.map List.length).sum
def numR (k : Int) : List (List Int) → List (List Int)
  | [] => []
  | xs :: xss => numI k xs :: numR (k + xs.length) xss
theorem numR_length : ∀ (k : Int) (xss : List (List Int)), (numR k xss).length = xss.length
  | _, [] => rfl
  | k, xs :: xss => by simp [numR, numR_length (k + xs.length) xss]
theorem numR_get : ∀ (xss : List (List Int)) (k : Int) (i : Nat) (h : i < (numR k xss).length) (h' : i < xss.length), (numR k xss)[i] = numI (k + totR (xss.take i)) xss[i]
  | [], k, i, h, _ => by simp [numR] at h
  | x :: xs, k, 0, h, _ => by simp [numR, totR]
  | x :: xs, k, i + 1, h, h' => by
    simp only [numR, List.getElem_cons_succ]
    rw [numR_get xs _ i (by simpa [numR] using h) (by simpa using h')]
    congr 1
    simp [totR]
    omega
theorem totR_take_le : ∀ (xss : List (List Int)) (i : Nat), totR (xss.take i) ≤ totR xss
  | [], i => by simp [totR]
  | x :: xs, 0 => by simp [totR]
  | x :: xs, i + 1 => by
    have := totR_take_le xs i
    simp only [totR, List.take_succ_cons, List.map_cons, List.sum_cons] at *
    omega
theorem totR_snoc (xss : List (List Int)) (i : Nat) (h : i < xss.length) : totR (xss.take (i + 1)) = totR (xss.take i) + xss[i].length := by
  rw [List.take_succ_eq_append_getElem h]
  simp only [totR, List.map_append, List.sum_append, List.map_cons, List.map_nil, List.sum_cons, List.sum_nil]
  omega

theorem k_markIntS {F : Nat → Prop} {h : Heap} {s : Sl} {xs : List Int} (H : OwI h F s xs) (k : Int) (h0 : 0 ≤ k) (hk : k ≤ 1000000000000000) (hn : xs.length ≤ 1000000000000) (K : Value → Heap → Prop) (HK : ∀ h', OwI h' F s (numI k xs) → Fr s.own h h' → K (VI (k + xs.length)) h') : callM Try.prog 54 #[s.v, VI k] h K := by
  have hl : s.n = xs.length := by have := H.len; simp at this; omega
  refine v54 s k h K ⟨fun n k' i h' => 0 ≤ i ∧ i + n = (xs.length : Int) ∧ k' = k + i ∧ OwI h' F s ((numI k xs).take i.toNat ++ xs.drop i.toNat) ∧ Fr s.own h h', ⟨xs.length, by omega, by omega, by omega, by simpa using H, Fr.refl _ _⟩, ?_⟩
  rintro n k' i h' ⟨i0, i1, rfl, H', f⟩ hL
  refine ⟨fun e => ?_, fun e => ?_⟩
  · have hi : i < (s.n : Int) := by simpa using e
    have ws : w64 (i + 1) = i + 1 := w64_eq _ (by omega) (by omega)
    have wk : w64 (k + i + 1) = k + i + 1 := w64_eq _ (by omega) (by omega)
    obtain ⟨w1, w2, w3⟩ := H'.store1 i0 hi (VI (k + i))
    refine ⟨H'.inb i0 hi, w1, .nil, fun h2 e2 _ => ?_⟩
    rw [ws, wk]
    refine ⟨n - 1, by omega, by omega, by omega, by omega, ?_, ?_⟩
    · subst e2
      have e3 : VI (k + i) = VI ((numI k xs)[i.toNat]'(by rw [numI_length]; omega)) := by rw [numI_get]; congr 1; omega
      rw [e3] at w2 ⊢
      rw [← List.map_set, set_mid _ _ _ _ (by omega)] at w2
      rw [toNat_succ i0]
      exact w2
    · subst e2; exact f.trans w3
  · have hi : ¬ i < (s.n : Int) := by simpa using e
    have e4 : i = xs.length := by omega
    subst e4
    have := HK h' (by simpa [List.take_of_length_le, numI_length] using H') f
    exact this

theorem k_markIntSS {F : Nat → Prop} {h : Heap} {s : Sl} {xss : List (List Int)} (H : OwX h F s xss) (k : Int) (h0 : 0 ≤ k) (hk : k ≤ 100000000000) (hn : totR xss ≤ 100000000000) (K : Value → Heap → Prop) (HK : ∀ h', OwX h' F s (numR k xss) → Fr F h h' → K (VI (k + totR xss)) h') : callM Try.prog 72 #[s.v, VI k] h K := by
  have hl : s.n = xss.length := H.len
  have hbig := H.rd.big
  refine v72 s k h K ⟨fun n k' i h' => 0 ≤ i ∧ i + n = (xss.length : Int) ∧ k' = k + totR (xss.take i.toNat) ∧ OwX h' F s ((numR k xss).take i.toNat ++ xss.drop i.toNat) ∧ Fr F h h', ⟨xss.length, by omega, by omega, by simp [totR], by simpa using H, Fr.refl _ _⟩, ?_⟩
  rintro n k' i h' ⟨i0, i1, rfl, H', f⟩ hL
  refine ⟨fun e => ?_, fun e => ?_⟩
  · have hi : i < (s.n : Int) := by simpa using e
    have hlen : ((numR k xss).take i.toNat ++ xss.drop i.toNat).length = xss.length := by simp [numR_length]; omega
    have hlen2 : ((numR k xss).take i.toNat).length = i.toNat := by simp [numR_length]; omega
    obtain ⟨si, c1, c2, c3⟩ := H'.inner i0 (by omega)
    have e1 : ((numR k xss).take i.toNat ++ xss.drop i.toNat)[i.toNat]'(by omega) = xss[i.toNat]'(by omega) := by
      rw [List.getElem_append_right (by omega)]
      simp [hlen2]
    rw [e1] at c2
    have hle := totR_take_le xss i.toNat
    have hle2 := totR_take_le xss (i.toNat + 1)
    have hsn := totR_snoc xss i.toNat (by omega)
    refine ⟨H'.rd.inb i0 (by omega), si, c1, k_markIntS c2 _ (by omega) (by omega) (by omega) _ fun h2 o2 f2 => ⟨_, rfl, .nil, n - 1, by omega, ?_, ?_, ?_, ?_, ?_⟩⟩
    · rw [w64_succ i0 hi hbig]; omega
    · rw [w64_succ i0 hi hbig]; omega
    · rw [w64_succ i0 hi hbig, toNat_succ i0, hsn]; omega
    · rw [w64_succ i0 hi hbig]
      have := c3 h2 _ f2 o2
      rw [← numR_get xss k i.toNat (by rw [numR_length]; omega) (by omega), set_mid _ _ _ _ (by omega)] at this
      rw [toNat_succ i0]
      exact this
    · exact f.trans (f2.mono fun k _ hk => (c2.foot hk).1)
  · have hi : ¬ i < (s.n : Int) := by simpa using e
    have e4 : i = xss.length := by omega
    subst e4
    have := HK h' (by simpa [List.take_of_length_le, numR_length] using H') f
    simpa using this

theorem k_heldIntS {S : Nat → Prop} {h : Heap} {s : Sl} {xs : List Int} (k : Int) (H : RdI S h s (numI k xs)) (h0 : 0 ≤ k) (hk : k ≤ 1000000000000000) (hn : xs.length ≤ 1000000000000) (K : Value → Heap → Prop) (HK : K (VI (k + xs.length)) h) : callM Try.prog 55 #[s.v, VI k] h K := by
  have hl : s.n = xs.length := by have := H.len; rw [numI_length] at this; exact this
  refine v55 s k h K ⟨fun n k' i h' => h' = h ∧ 0 ≤ i ∧ i + n = (xs.length : Int) ∧ k' = k + i, ⟨xs.length, rfl, by omega, by omega, by omega⟩, ?_⟩
  rintro n k' i _ ⟨rfl, i0, i1, rfl⟩ hL
  refine ⟨fun e => ?_, fun e => ?_⟩
  · have hi := H.lt e
    refine ⟨H.inb i0 hi, _, H.get i0 hi, fun e => ?_, fun e => ?_⟩
    · have e5 := not_t e
      simp only [decide_eq_false_iff_not] at e5
      rw [numI_get] at e5
      omega
    · rw [H.succ i0 hi, w64_eq _ (by omega) (by rw [numI_length] at hi; omega)]
      rw [numI_length] at hi
      exact ⟨n - 1, by omega, rfl, by omega, by omega, by omega⟩
  · have hi := H.ge e
    rw [numI_length] at hi
    have e4 : i = xs.length := by omega
    rw [e4]
    exact HK

theorem k_heldIntSS {S : Nat → Prop} {h : Heap} {s : Sl} {xss : List (List Int)} (k : Int) (H : RdR S h s (numR k xss)) (h0 : 0 ≤ k) (hk : k ≤ 100000000000) (hn : totR xss ≤ 100000000000) (K : Value → Heap → Prop) (HK : K (VI (k + totR xss)) h) : callM Try.prog 73 #[s.v, VI k] h K := by
  have hl : s.n = xss.length := by have := H.len; rw [numR_length] at this; exact this
  refine v73 s k h K ⟨fun n k' i h' => h' = h ∧ 0 ≤ i ∧ i + n = (xss.length : Int) ∧ k' = k + totR (xss.take i.toNat), ⟨xss.length, rfl, by omega, by omega, by simp [totR]⟩, ?_⟩
  rintro n k' i _ ⟨rfl, i0, i1, rfl⟩ hL
  refine ⟨fun e => ?_, fun e => ?_⟩
  · have hi := H.lt e
    have hi' : i < (xss.length : Int) := by rw [numR_length] at hi; exact hi
    obtain ⟨si, c1, c2⟩ := H.get i0 hi
    rw [numR_get xss k i.toNat _ (by omega)] at c2
    have hle := totR_take_le xss i.toNat
    have hle2 := totR_take_le xss (i.toNat + 1)
    have hsn := totR_snoc xss i.toNat (by omega)
    refine ⟨H.inb i0 hi, si, c1, k_heldIntS _ c2 (by omega) (by omega) (by omega) _ ⟨_, rfl, .nil, fun e => ?_, fun e => ?_⟩⟩
    · simp only [decide_eq_true_eq] at e
      omega
    · rw [H.succ i0 hi]
      exact ⟨n - 1, by omega, rfl, by omega, by omega, by rw [toNat_succ i0, hsn]; omega⟩
  · have hi := H.ge e
    rw [numR_length] at hi
    have e4 : i = xss.length := by omega
    rw [e4]
    simpa using HK

theorem k_markGraph {F : Nat → Prop} {h : Heap} {s : Sl} {xss : List (List Int)} (H : OwX h F s xss) (k : Int) (h0 : 0 ≤ k) (hk : k ≤ 100000000000) (hn : totR xss ≤ 100000000000) (K : Value → Heap → Prop) (HK : ∀ h', OwX h' F s (numR k xss) → Fr F h h' → K (VI (k + totR xss)) h') : callM Try.prog 29 #[.agg #[s.v], VI k] h K := by
  refine v29 s k h K fun b1 h1 hb1 f1 hL1 => ?_
  have H1 : OwX h1 (fun k => F k ∧ k < h.size) s xss := (H.mono fun k hk hF => ⟨hF, hk⟩ : OwX h _ s xss).no f1.in_nil
  refine k_markIntSS H1 k h0 hk hn _ fun h2 o2 f2 => ?_
  refine ⟨_, rfl, hL1.fr f2 (fun p hp hk => ?_), ?_⟩
  · obtain rfl : p = (b1, [s.v]) := by simpa using hp
    have := hk.2
    simp only at this
    omega
  · exact HK _ (o2.mono fun k _ hk => hk.1) (f1.in_nil.of_no.trans (f2.mono fun k _ hk => hk.1))

theorem k_heldGraph {S : Nat → Prop} {h : Heap} {s : Sl} {xss : List (List Int)} (k : Int) (H : RdR S h s (numR k xss)) (h0 : 0 ≤ k) (hk : k ≤ 100000000000) (hn : totR xss ≤ 100000000000) : Ret Try.prog 30 #[.agg #[s.v], VI k] h (VI (k + totR xss)) := by
  intro K HK
  refine v30 s k h K fun b1 h1 hb1 f1 hL1 => ?_
  refine k_heldIntSS k (H.no f1.in_nil) h0 hk hn _ ⟨_, rfl, hL1, fun e => ?_, fun e => HK _ f1.in_nil⟩
  simp only [decide_eq_true_eq] at e
  omega

def firstXs : List (List Int) := [[1, 2], [0, 2], [0]]
def DeskIs (h h' : Heap) (v : Value) : Prop := ∃ (g w : Sl) (m : Nat), v = .agg #[g.v, w.v, VI 0] ∧ OwX h' (fun k => h.size ≤ k ∧ k < m) g firstXs ∧ OwI h' (fun k => h.size ≤ k ∧ m ≤ k) w [0, 0, 0] ∧ Fr No h h'
theorem own_lt {h : Heap} {F : Nat → Prop} {e : TypeId} {sz : Nat} {s : Sl} {vs : List Value} (H : Ow h F e sz s vs) {n : Nat} (hn : h.size ≤ n) : ∀ k, s.own k → k < n := fun k hk => Nat.lt_of_lt_of_le (H.foot hk).2 hn
theorem lit_first {h1 : Heap} {K : Value → Heap → Prop} (HK : ∀ (g : Sl) (h' : Heap), OwX h' (fun k => h1.size ≤ k) g firstXs → Fr No h1 h' → K g.v h') :
    eop Try.prog (Instr.buildSlice tIs 2 #[(0, VI 1), (1, VI 2)]) h1 fun rv_1 h_2 => ∃ t1_1 : Sl, rv_1 = t1_1.v ∧ Fr No h1 h_2 ∧
    eop Try.prog (Instr.buildSlice tIs 2 #[(0, VI 0), (1, VI 2)]) h_2 fun rv_2 h_3 => ∃ t2_1 : Sl, rv_2 = t2_1.v ∧ Fr No h_2 h_3 ∧
    eop Try.prog (Instr.buildSlice tIs 1 #[(0, VI 0)]) h_3 fun rv_3 h_4 => ∃ t3_1 : Sl, rv_3 = t3_1.v ∧ Fr No h_3 h_4 ∧
    eop Try.prog (Instr.buildSlice tIss 3 #[(0, t1_1.v), (1, t2_1.v), (2, t3_1.v)]) h_4 K := by
  refine eop_lit rIs (fun k => h1.size ≤ k) (fun _ h => h) 2 (by omega) [VI 1, VI 2] rfl rfl fun t1 h2 n1 c1 o1 f1 l1 _ => ⟨t1, rfl, f1, ?_⟩
  refine eop_lit rIs (fun k => h1.size ≤ k) (fun _ h => Nat.le_trans f1.size h) 2 (by omega) [VI 0, VI 2] rfl rfl fun t2 h3 n2 c2 o2 f2 l2 _ => ⟨t2, rfl, f2, ?_⟩
  have f13 := f1.no_trans f2
  refine eop_lit rIs (fun k => h1.size ≤ k) (fun _ h => Nat.le_trans f13.size h) 1 (by omega) [VI 0] rfl rfl fun t3 h4 n3 c3 o3 f3 l3 _ => ⟨t3, rfl, f3, ?_⟩
  have f14 := f13.no_trans f3
  refine eop_lit rIss (fun k => h1.size ≤ k) (fun _ h => Nat.le_trans f14.size h) 3 (by omega) [t1.v, t2.v, t3.v] rfl rfl fun t4 h5 n4 c4 o4 f4 l4 _ => ?_
  have g1 := own_lt o1 (Nat.le_refl _)
  have g2 := own_lt o2 (Nat.le_refl _)
  have g3 := own_lt o3 (Nat.le_refl _)
  have s3 := f2.size
  have s4 := f3.size
  refine HK t4 h5 (OwR.of [t1, t2, t3] rfl o4 ?_ ?_ ?_) (f14.trans f4)
  · intro p hp
    simp only [firstXs, List.zip_cons_cons, List.zip_nil_right, List.mem_cons, List.not_mem_nil, or_false] at hp
    rcases hp with rfl | rfl | rfl
    · exact ((o1.no f2).no f3).no f4
    · exact (o2.no f3).no f4
    · exact o3.no f4
  · simp only [List.pairwise_cons, List.mem_cons, List.not_mem_nil, or_false, forall_eq_or_imp, forall_eq, List.Pairwise.nil, and_true]
    refine ⟨⟨fun k a b => ?_, fun k a b => ?_⟩, fun k a b => ?_, by simp⟩
    · have := g1 k a; have := l2 k b; omega
    · have := g1 k a; have := l3 k b; omega
    · have := g2 k a; have := l3 k b; omega
  · intro a ha k hk hk2
    have := l4 k hk
    simp only [List.mem_cons, List.not_mem_nil, or_false] at ha
    rcases ha with rfl | rfl | rfl
    · have := g1 k hk2; omega
    · have := g2 k hk2; omega
    · have := g3 k hk2; omega

theorem k_szIntS {S : Nat → Prop} {h : Heap} {s : Sl} {xs : List Int} (H : RdI S h s xs) (left : Int) (h0 : 0 ≤ left) (h1 : left ≤ 1048576) (K : Value → Heap → Prop) (HK : ∀ r : Int, r = -1 ∨ (0 ≤ r ∧ r = left - xs.length) → K (VI r) h) : callM Try.prog 77 #[s.v, VI left] h K := by
  have hb := maxLen_lt (RdV.big H)
  have e := H.len
  have hw : w64 (left - s.n) = left - s.n := w64_eq _ (by omega) (by omega)
  refine v77 s left h K ⟨fun _ => HK _ (.inl rfl), fun e2 => HK _ (.inr ?_)⟩
  rw [hw] at e2 ⊢
  simp only [decide_eq_false_iff_not] at e2
  omega

theorem k_szIntSS {S : Nat → Prop} {h : Heap} {s : Sl} {xss : List (List Int)} (H : RdR S h s xss) (left : Int) (h0 : 0 ≤ left) (h1 : left ≤ 1048576) (K : Value → Heap → Prop) (HK : ∀ r : Int, r = -1 ∨ (0 ≤ r ∧ r = left - xss.length - totR xss) → K (VI r) h) : callM Try.prog 63 #[s.v, VI left] h K := by
  have hb := maxLen_lt H.big
  have e := H.len
  have hw : w64 (left - s.n) = left - s.n := w64_eq _ (by omega) (by omega)
  refine v63 s left h K ⟨fun _ => HK _ (.inl rfl), fun e2 => ?_⟩
  rw [hw] at e2 ⊢
  simp only [decide_eq_false_iff_not] at e2
  refine ⟨fun n l i h' => h' = h ∧ 0 ≤ i ∧ i + n = (xss.length : Int) ∧ l = left - xss.length - totR (xss.take i.toNat) ∧ 0 ≤ l, ⟨xss.length, rfl, by omega, by omega, by simp [totR]; omega, by omega⟩, ?_⟩
  rintro n l i _ ⟨rfl, i0, i1, rfl, l0⟩ hL
  refine ⟨fun e => ?_, fun e => ?_⟩
  · have hi := H.lt e
    obtain ⟨si, c1, c2⟩ := H.get i0 hi
    have hsn := totR_snoc xss i.toNat (by omega)
    refine ⟨H.inb i0 hi, si, c1, k_szIntS c2 _ l0 (by omega) _ fun r hr => ⟨r, rfl, .nil, fun _ => HK _ (.inl rfl), fun e3 => ?_⟩⟩
    simp only [decide_eq_false_iff_not] at e3
    rw [H.succ i0 hi]
    exact ⟨n - 1, by omega, rfl, by omega, by omega, by rw [toNat_succ i0, hsn]; omega, by omega⟩
  · have hi := H.ge e
    have e4 : i = xss.length := by omega
    refine HK _ (.inr ⟨l0, ?_⟩)
    rw [e4]
    simp

theorem k_szGraph {S : Nat → Prop} {h : Heap} {s : Sl} {xss : List (List Int)} (H : RdR S h s xss) (left : Int) (h0 : 0 ≤ left) (h1 : left ≤ 1048576) (K : Value → Heap → Prop) (HK : ∀ (h' : Heap) (r : Int), Fr No h h' → r = -1 ∨ (0 ≤ r ∧ r = left - xss.length - totR xss) → K (VI r) h') : callM Try.prog 24 #[.agg #[s.v], VI left] h K := by
  refine v24 s left h K fun b1 h1' hb1 f1 hL1 => ?_
  refine k_szIntSS (H.no f1.in_nil) left h0 h1 _ fun r hr => ⟨r, rfl, hL1, fun e => HK _ _ f1.in_nil (.inl rfl), fun e => HK _ _ f1.in_nil hr⟩

theorem k_toIntS {S : Nat → Prop} {h : Heap} {s : Sl} {xs : List Int} (H : RdI S h s xs) (hn : xs.length ≤ 1000000000000) (K : Value → Heap → Prop) (HK : ∀ t h', OwI h' (fun k => h.size ≤ k) t xs → Fr No h h' → K t.v h') : callM Try.prog 80 #[s.v] h K := by
  have hl := H.len
  refine v80 s h K ?_
  refine eop_make rIs (fun k => h.size ≤ k) (fun _ h => h) .i64 .i64 s.n s.n (Nat.le_refl _) (by omega) fun t h1 n1 c1 o1 f1 l1 _ => ⟨t, rfl, .nil, ?_⟩
  have o1 : OwI h1 (fun k => h.size ≤ k) t (List.replicate xs.length 0) := by
    have e : (List.replicate s.n [VI 0]).flatten = (List.replicate xs.length (0 : Int)).map VI := by rw [H.len]; simp [List.flatten_replicate_singleton]
    rw [e] at o1; exact o1
  refine ⟨fun n i h' => 0 ≤ i ∧ i + n = (xs.length : Int) ∧ OwI h' (fun k => h.size ≤ k) t (xs.take i.toNat ++ (List.replicate xs.length (0 : Int)).drop i.toNat) ∧ Fr t.own h1 h', ⟨xs.length, by omega, by omega, by simpa using o1, Fr.refl _ _⟩, ?_⟩
  rintro n i h2 ⟨i0, i1, o2, f2⟩ hL
  have H2 := H.on f1 f2 l1
  refine ⟨fun e => ?_, fun e => ?_⟩
  · have hi := H.lt e
    obtain ⟨w1, w2, w3⟩ := o2.store1 i0 (by omega) (VI (xs[i.toNat]'(by omega)))
    refine ⟨H2.inb i0 hi, _, H2.get i0 hi, o2.inb i0 (by omega), w1, .nil, fun h3 e3 _ => ?_⟩
    subst e3
    rw [← List.map_set, set_mid _ _ _ _ (by simp; omega)] at w2
    rw [H.succ i0 hi]
    exact ⟨n - 1, by omega, by omega, by omega, by rw [toNat_succ i0]; exact w2, f2.trans w3⟩
  · have hi := H.ge e
    have e4 : i = xs.length := by omega
    subst e4
    exact HK t h2 (by simpa using o2) (f1.fresh f2 l1)

theorem k_toIntSS {S : Nat → Prop} {h : Heap} {s : Sl} {xss : List (List Int)} (H : RdR S h s xss) (hn : xss.length ≤ 1000000000000) (hm : totR xss ≤ 1000000000000) (K : Value → Heap → Prop) (HK : ∀ t h', OwX h' (fun k => h.size ≤ k) t xss → Fr No h h' → K t.v h') : callM Try.prog 67 #[s.v] h K := by
  have hl := H.len
  refine v67 s h K ?_
  refine eop_make rIss (fun k => h.size ≤ k) (fun _ h => h) .i64 .i64 s.n s.n (Nat.le_refl _) (by omega) fun t h1 n1 c1 o1 f1 l1 _ => ⟨t, rfl, .nil, ?_⟩
  have o1 : OwX h1 (fun k => h.size ≤ k) t (List.replicate xss.length []) := OwR.zeros _ (by rw [hl] at o1; exact o1)
  refine ⟨fun n i h' => 0 ≤ i ∧ i + n = (xss.length : Int) ∧ OwX h' (fun k => h.size ≤ k) t (xss.take i.toNat ++ (List.replicate xss.length []).drop i.toNat) ∧ Fr No h h', ⟨xss.length, by omega, by omega, by simpa using o1, f1⟩, ?_⟩
  rintro n i h2 ⟨i0, i1, o2, f2⟩ hL
  have H2 := H.no f2
  refine ⟨fun e => ?_, fun e => ?_⟩
  · have hi := H.lt e
    obtain ⟨si, c1, c2⟩ := H2.get i0 hi
    have hlen : (xss.take i.toNat ++ (List.replicate xss.length ([] : List Int)).drop i.toNat).length = xss.length := by simp; omega
    have hsz : (xss[i.toNat]'(by omega)).length ≤ totR xss := by
      have h1 := totR_snoc xss i.toNat (by omega)
      have h2 := totR_take_le xss (i.toNat + 1)
      omega
    refine ⟨H2.inb i0 hi, si, c1, k_toIntS c2 (by omega) _ fun x h3 o3 f3 => ⟨x, rfl, .nil, ?_⟩⟩
    have o2' := (o2.mono (F' := fun k => h.size ≤ k ∧ k < h2.size) fun k hk hF => ⟨hF, hk⟩).no f3
    obtain ⟨sj, d1, d2, _⟩ := o2'.inner i0 (by omega)
    have s2 := f2.size
    obtain ⟨w1, w2, w3⟩ := o2'.outer i0 (by omega) d1 (F' := fun k => h.size ≤ k) (o3.mono fun k _ hk => by omega) (fun k _ hk => hk.1) (fun k hk => .inr fun hk2 => by have := (o3.foot hk).1; omega)
    refine ⟨o2'.rd.inb i0 (by omega), w1, .nil, fun h4 e4 _ => ?_⟩
    subst e4
    rw [set_mid _ _ _ _ (by simp; omega)] at w2
    rw [H.succ i0 hi]
    exact ⟨n - 1, by omega, by omega, by omega, by rw [toNat_succ i0]; exact w2, (f2.no_trans f3).fresh w3 fun k hk => by
      obtain ⟨ss, _, h5, _⟩ := o2'.out
      exact (h5.foot hk).1.1⟩
  · have hi := H.ge e
    have e4 : i = xss.length := by omega
    subst e4
    exact HK t h2 (by simpa using o2) f2

theorem k_toGraph {S : Nat → Prop} {h : Heap} {s : Sl} {xss : List (List Int)} (H : RdR S h s xss) (hn : xss.length ≤ 1000000000000) (hm : totR xss ≤ 1000000000000) (K : Value → Heap → Prop) (HK : ∀ t h', OwX h' (fun k => h.size ≤ k) t xss → Fr No h h' → K (.agg #[t.v]) h') : callM Try.prog 26 #[.agg #[s.v]] h K := by
  refine v26 s h K fun b1 b2 b3 h1 hb1 hb2 hb3 f1 hL1 => ?_
  have f1 := f1.in_nil
  refine k_toIntSS (H.no f1) hn hm _ fun t h2 o2 f2 => ⟨t, rfl, hL1.of_no f2, fun h3 f3 hL3 => ?_⟩
  have l3 : b3 < h1.size := hL1.head.lt
  have l2 : b2 < h1.size := hL1.tail.head.lt
  have s1 := f1.size
  refine HK t h3 ((o2.fr f3 fun k _ hk => In.off (n := h1.size) (by simp; omega) hk).mono fun k _ hk => by omega) ((f1.no_trans f2).fresh f3 (in_ge (by simp; omega)))

theorem frOwn {h h' : Heap} {F : Nat → Prop} {e : TypeId} {sz : Nat} {s : Sl} {vs : List Value} {b : Heap} (H : Ow h F e sz s vs) (f : Fr s.own h h') : Fr F h h' := f.mono fun _ _ hk => (H.foot hk).1

theorem g_szIntS {S : Nat → Prop} {h : Heap} {s : Sl} {xs : List Int} (H : RdI S h s xs) (left : Int) (h0 : 0 ≤ left) (h1 : left ≤ 1048576) (K : Value → Heap → Prop) (HK : ∀ (h' : Heap) (r : Int), Fr No h h' → r = -1 ∨ (0 ≤ r ∧ r = left - xs.length) → K (VI r) h') : callM Try.prog 77 #[s.v, VI left] h K := k_szIntS H left h0 h1 K fun r hr => HK h r (Fr.refl _ _) hr

theorem g_szGraph {S : Nat → Prop} {h : Heap} {s : Sl} {xss : List (List Int)} (H : RdR S h s xss) (left : Int) (h0 : 0 ≤ left) (h1 : left ≤ 1048576) (K : Value → Heap → Prop) (HK : ∀ (h' : Heap) (r : Int), Fr No h h' → r = -1 ∨ (0 ≤ r ∧ r = left - xss.length - totR xss) → K (VI r) h') : callM Try.prog 24 #[.agg #[s.v], VI left] h K := k_szGraph H left h0 h1 K HK

theorem g_toIntS {S : Nat → Prop} {h : Heap} {s : Sl} {xs : List Int} (H : RdI S h s xs) (hn : xs.length ≤ 1048576) (K : Value → Heap → Prop) (HK : ∀ t h', OwI h' (Iv h.size h'.size) t xs → Fr No h h' → K t.v h') : callM Try.prog 80 #[s.v] h K := k_toIntS H (by omega) K fun t h' o f => HK t h' o.toIv f

theorem g_toGraph {S : Nat → Prop} {h : Heap} {s : Sl} {xss : List (List Int)} (H : RdR S h s xss) (hn : xss.length + totR xss ≤ 1048576) (K : Value → Heap → Prop) (HK : ∀ t h', OwX h' (Iv h.size h'.size) t xss → Fr No h h' → K (.agg #[t.v]) h') : callM Try.prog 26 #[.agg #[s.v]] h K := k_toGraph H (by omega) (by omega) K fun t h' o f => HK t h' o.toIv f

theorem g_eqIntS {S S' : Nat → Prop} {h : Heap} {a b : Sl} {xs : List Int} (H : RdI S h a xs) (H' : RdI S' h b xs) : Ret Try.prog 53 #[a.v, b.v] h (VB true) := fun K HK => k_eqIntS H H' K (by rw [decide_eq_true rfl]; exact HK h (Fr.refl _ _))

theorem g_eqIntSS {S S' : Nat → Prop} {h : Heap} {a b : Sl} {xs : List (List Int)} (H : RdR S h a xs) (H' : RdR S' h b xs) : Ret Try.prog 71 #[a.v, b.v] h (VB true) := fun K HK => k_eqIntSS H H' K (by rw [decide_eq_true rfl]; exact HK h (Fr.refl _ _))

theorem g_eqGraph {S S' : Nat → Prop} {h : Heap} {a b : Sl} {xs : List (List Int)} (H : RdR S h a xs) (H' : RdR S' h b xs) : Ret Try.prog 28 #[.agg #[a.v], .agg #[b.v]] h (VB true) := by have := k_eqGraph H H'; rwa [decide_eq_true rfl] at this

theorem g_markIntS {a b : Nat} {h : Heap} {s : Sl} {xs : List Int} (H : OwI h (Iv a b) s xs) (hn : xs.length ≤ 1048576) (k : Int) (h0 : 1 ≤ k) (hk : k ≤ 10000000000) (K : Value → Heap → Prop) (HK : ∀ h', OwI h' (Iv a b) s (numI k xs) → Fr (Iv a b) h h' → K (VI (k + xs.length)) h') : callM Try.prog 54 #[s.v, VI k] h K := k_markIntS H k (by omega) (by omega) (by omega) K fun h' o f => HK h' o (f.mono fun _ _ hk => (H.foot hk).1)

theorem g_markIntSS {a b : Nat} {h : Heap} {s : Sl} {xss : List (List Int)} (H : OwX h (Iv a b) s xss) (hn : totR xss ≤ 1048576) (k : Int) (h0 : 1 ≤ k) (hk : k ≤ 10000000000) (K : Value → Heap → Prop) (HK : ∀ h', OwX h' (Iv a b) s (numR k xss) → Fr (Iv a b) h h' → K (VI (k + totR xss)) h') : callM Try.prog 72 #[s.v, VI k] h K := k_markIntSS H k (by omega) (by omega) (by omega) K HK

theorem g_markGraph {a b : Nat} {h : Heap} {s : Sl} {xss : List (List Int)} (H : OwX h (Iv a b) s xss) (hn : totR xss ≤ 1048576) (k : Int) (h0 : 1 ≤ k) (hk : k ≤ 10000000000) (K : Value → Heap → Prop) (HK : ∀ h', OwX h' (Iv a b) s (numR k xss) → Fr (Iv a b) h h' → K (VI (k + totR xss)) h') : callM Try.prog 29 #[.agg #[s.v], VI k] h K := k_markGraph H k (by omega) (by omega) (by omega) K HK

theorem g_heldIntS {S : Nat → Prop} {h : Heap} {s : Sl} {k : Int} {xs : List Int} (H : RdI S h s (numI k xs)) (hn : xs.length ≤ 1048576) (h0 : 1 ≤ k) (hk : k ≤ 10000000000) : Ret Try.prog 55 #[s.v, VI k] h (VI (k + xs.length)) := fun K HK => k_heldIntS k H (by omega) (by omega) (by omega) K (HK h (Fr.refl _ _))

theorem g_heldIntSS {S : Nat → Prop} {h : Heap} {s : Sl} {k : Int} {xss : List (List Int)} (H : RdR S h s (numR k xss)) (hn : totR xss ≤ 1048576) (h0 : 1 ≤ k) (hk : k ≤ 10000000000) : Ret Try.prog 73 #[s.v, VI k] h (VI (k + totR xss)) := fun K HK => k_heldIntSS k H (by omega) (by omega) (by omega) K (HK h (Fr.refl _ _))

theorem g_heldGraph {S : Nat → Prop} {h : Heap} {s : Sl} {k : Int} {xss : List (List Int)} (H : RdR S h s (numR k xss)) (hn : totR xss ≤ 1048576) (h0 : 1 ≤ k) (hk : k ≤ 10000000000) : Ret Try.prog 30 #[.agg #[s.v], VI k] h (VI (k + totR xss)) := k_heldGraph k H (by omega) (by omega) (by omega)

theorem nil_of_none {S : Nat → Prop} {h : Heap} {s : Sl} {xs : List Int} (H : RdI S h s xs) (hn : s.a = none) : xs = [] := by
  cases xs with
  | nil => rfl
  | cons x xs =>
    obtain ⟨a, ha, _⟩ := RdV.cell H 0 (by simp)
    rw [hn] at ha
    cases ha

theorem k_Clone {S : Nat → Prop} {h : Heap} {s : Sl} {xs : List Int} (H : RdI S h s xs) (hn : xs.length ≤ 1000000000) (K : Value → Heap → Prop) (HK : ∀ t h', OwI h' (Iv h.size h'.size) t xs → Fr No h h' → K t.v h') : callM Try.prog 101 #[s.v] h K := by
  refine v101 s h K (pop_isnil rIs _ _ ⟨_, rfl, fun e => ?_, fun e => ?_⟩)
  · have : xs = [] := nil_of_none H (by simpa using e)
    subst this
    exact HK nilSl h (Ow.nil _ _ _ _) (Fr.refl _ _)
  · refine eop_lit rIs (fun k => h.size ≤ k) (fun _ h => h) 0 (by omega) [] rfl rfl fun t h1 n1 c1 o1 f1 l1 _ => ⟨t, rfl, .nil, ?_⟩
    refine eop_append rIs o1 (fun k hk => Nat.le_trans f1.size hk) (H.no f1) (plainVI _) (by have := H.len; omega) fun t' h2 n2 o2 f2 l2 => ⟨t', rfl, .nil, ?_⟩
    exact HK t' h2 (Ow.toIv (by simpa using o2)) (f1.fresh f2 l1)

theorem k_l1Own {S : Nat → Prop} {h : Heap} {s : Sl} {xs : List Int} (H : RdI S h s xs) (hn : xs.length ≤ 1000000000) (K : Value → Heap → Prop) (HK : ∀ t h', OwI h' (Iv h.size h'.size) t xs → Fr No h h' → K t.v h') : callM Try.prog 88 #[s.v] h K := by
  refine v88 s h K ?_
  refine eop_lit rIs (fun k => h.size ≤ k) (fun _ h => h) 0 (by omega) [] rfl rfl fun t h1 n1 c1 o1 f1 l1 _ => ⟨t, rfl, .nil, ?_⟩
  refine eop_append rIs o1 (fun k hk => Nat.le_trans f1.size hk) (H.no f1) (plainVI _) (by have := H.len; omega) fun t' h2 n2 o2 f2 l2 => ⟨t', rfl, .nil, ?_⟩
  exact HK t' h2 (Ow.toIv (by simpa using o2)) (f1.fresh f2 l1)

/-- Every list of these is short. -/
def shortR (n : Nat) (xss : List (List Int)) : Prop := xss.length ≤ n ∧ ∀ l, l ∈ xss → l.length ≤ n
theorem tot_short {n : Nat} : ∀ {xss : List (List Int)} {m : Nat}, xss.length ≤ m → (∀ l, l ∈ xss → l.length ≤ n) → totR xss ≤ m * n
  | [], m, _, _ => by simp [totR]
  | x :: xs, 0, h, _ => by simp at h
  | x :: xs, m + 1, h, h2 => by
    have h3 := tot_short (n := n) (xss := xs) (m := m) (by simpa using h) fun l hl => h2 l (List.mem_cons_of_mem _ hl)
    have h4 := h2 x (by simp)
    have h5 : totR (x :: xs) = x.length + totR xs := by simp [totR]
    rw [h5, Nat.add_mul]
    omega
theorem short_of_tot {xss : List (List Int)} : ∀ l, l ∈ xss → l.length ≤ totR xss := by
  induction xss with
  | nil => intro l h; simp at h
  | cons x xs ih =>
    intro l hl
    have h5 : totR (x :: xs) = x.length + totR xs := by simp [totR]
    rcases List.mem_cons.1 hl with rfl | hl
    · omega
    · have := ih l hl; omega

theorem k_copied {S : Nat → Prop} {h : Heap} {g : Sl} {xss : List (List Int)} (H : RdR S h g xss) (hn : xss.length + totR xss ≤ 1000000000) (K : Value → Heap → Prop) (HK : ∀ t h', OwX h' (Iv h.size h'.size) t xss → Fr No h h' → K (.agg #[t.v]) h') : callM Try.prog 69 #[.agg #[g.v]] h K := by
  refine v69 g h K fun b1 b2 b3 h4 hb1 hb2 hb3 f4 hL4 => ?_
  have f4 := f4.in_nil
  have l3 : b3 < h4.size := hL4.head.lt
  have l2 : b2 < h4.size := hL4.tail.head.lt
  have l1 : b1 < h4.size := hL4.tail.tail.head.lt
  have s4 := f4.size
  refine ⟨fun n i x h' => 0 ≤ i ∧ i + n = (xss.length : Int) ∧ OwX h' (fun k => h4.size ≤ k) x (xss.take i.toNat) ∧ Fr No h h' ∧ h4.size ≤ h'.size, ⟨xss.length, by omega, by omega, by simpa using OwR.nil _ _ _ _, f4, Nat.le_refl _⟩, ?_⟩
  rintro n i x h5 ⟨i0, i1, o5, f5, z5⟩ hL5
  have H5 := H.no f5
  refine ⟨fun e => ?_, fun e => ?_⟩
  · have hi := H.lt e
    obtain ⟨si, c1, c2⟩ := H5.get i0 hi
    have hsi := short_of_tot (xss[i.toNat]'(by omega)) (List.getElem_mem (by omega))
    refine ⟨H5.inb i0 hi, si, c1, k_Clone c2 (by omega) _ fun t h6 o6 f6 => ⟨t, rfl, hL5.of_no f6, ?_⟩⟩
    refine eop_lit rIss (fun k => h6.size ≤ k) (fun _ h => h) 1 (by omega) [t.v] rfl rfl fun u h7 n7 c7 o7 f7 l7 _ => ⟨u, rfl, (hL5.of_no f6).of_no f7, ?_⟩
    have s6 := f6.size
    have s7 := f7.size
    refine OwR.snoc rIss ((o5.toIv.no f6).no f7) (F' := fun k => h4.size ≤ k) (fun k _ hk => hk.1) (fun k hk => by omega) ((Ow.no o6 f7).mono fun k _ hk => Nat.le_trans z5 hk.1) (fun k hk hk2 => by have := (o6.foot hk).1.1; have := hk2.2; omega) o7.rd (by simp; omega) fun y h8 o8 f8 => ⟨y, rfl, ((hL5.of_no f6).of_no f7).iv f8 ⟨.inl l3, .inl l2, .inl l1, trivial⟩, fun h9 f9 hL9 => ?_⟩
    have s8 := f8.size
    have f9 := f9.inIv (lo := h.size) (hi := h4.size) ⟨⟨hb3, l3⟩, trivial⟩
    have s9 := f9.size
    rw [H.succ i0 hi]
    refine ⟨n - 1, by omega, by omega, by omega, ?_, ?_, by omega⟩
    · rw [take_snoc xss i0 hi]
      exact (o8.toIv.iv f9 (.inr (Nat.le_refl _))).mono fun k _ hk => hk.1
    · exact ((((f5.no_trans f6).no_trans f7).ivFresh f8 (by omega))).ivFresh f9 (Nat.le_refl _)
  · have hi := H.ge e
    rw [List.take_of_length_le (by omega)] at o5
    intro h10 f10 hL10
    have f10 := f10.inIv (lo := h.size) (hi := h4.size) ⟨⟨hb2, l2⟩, trivial⟩
    exact HK x h10 ((o5.toIv.iv f10 (.inr (Nat.le_refl _))).mono fun k hk2 hk => ⟨Nat.le_trans s4 hk.1, hk2⟩) (f5.ivFresh f10 (Nat.le_refl _))

theorem k_grCopy {S : Nat → Prop} {h : Heap} {g : Sl} {xss : List (List Int)} (H : RdR S h g xss) (hn : xss.length + totR xss ≤ 1000000000) (K : Value → Heap → Prop) (HK : ∀ t h', OwX h' (Iv h.size h'.size) t xss → Fr No h h' → K (.agg #[t.v]) h') : callM Try.prog 65 #[.agg #[g.v]] h K := by
  refine v65 g h K fun b1 b2 b3 h4 hb1 hb2 hb3 f4 hL4 => ?_
  have f4 := f4.in_nil
  have l3 : b3 < h4.size := hL4.head.lt
  have l2 : b2 < h4.size := hL4.tail.head.lt
  have l1 : b1 < h4.size := hL4.tail.tail.head.lt
  have s4 := f4.size
  refine ⟨fun n i x h' => 0 ≤ i ∧ i + n = (xss.length : Int) ∧ OwX h' (fun k => h4.size ≤ k) x (xss.take i.toNat) ∧ Fr No h h' ∧ h4.size ≤ h'.size, ⟨xss.length, by omega, by omega, by simpa using OwR.nil _ _ _ _, f4, Nat.le_refl _⟩, ?_⟩
  rintro n i x h5 ⟨i0, i1, o5, f5, z5⟩ hL5
  have H5 := H.no f5
  refine ⟨fun e => ?_, fun e => ?_⟩
  · have hi := H.lt e
    obtain ⟨si, c1, c2⟩ := H5.get i0 hi
    have hsi := short_of_tot (xss[i.toNat]'(by omega)) (List.getElem_mem (by omega))
    refine ⟨H5.inb i0 hi, si, c1, k_l1Own c2 (by omega) _ fun t h6 o6 f6 => ⟨t, rfl, hL5.of_no f6, ?_⟩⟩
    refine eop_lit rIss (fun k => h6.size ≤ k) (fun _ h => h) 1 (by omega) [t.v] rfl rfl fun u h7 n7 c7 o7 f7 l7 _ => ⟨u, rfl, (hL5.of_no f6).of_no f7, ?_⟩
    have s6 := f6.size
    have s7 := f7.size
    refine OwR.snoc rIss ((o5.toIv.no f6).no f7) (F' := fun k => h4.size ≤ k) (fun k _ hk => hk.1) (fun k hk => by omega) ((Ow.no o6 f7).mono fun k _ hk => Nat.le_trans z5 hk.1) (fun k hk hk2 => by have := (o6.foot hk).1.1; have := hk2.2; omega) o7.rd (by simp; omega) fun y h8 o8 f8 => ⟨y, rfl, ((hL5.of_no f6).of_no f7).iv f8 ⟨.inl l3, .inl l2, .inl l1, trivial⟩, fun h9 f9 hL9 => ?_⟩
    have s8 := f8.size
    have f9 := f9.inIv (lo := h.size) (hi := h4.size) ⟨⟨hb3, l3⟩, trivial⟩
    have s9 := f9.size
    rw [H.succ i0 hi]
    refine ⟨n - 1, by omega, by omega, by omega, ?_, ?_, by omega⟩
    · rw [take_snoc xss i0 hi]
      exact (o8.toIv.iv f9 (.inr (Nat.le_refl _))).mono fun k _ hk => hk.1
    · exact ((((f5.no_trans f6).no_trans f7).ivFresh f8 (by omega))).ivFresh f9 (Nat.le_refl _)
  · have hi := H.ge e
    rw [List.take_of_length_le (by omega)] at o5
    intro h10 f10 hL10
    have f10 := f10.inIv (lo := h.size) (hi := h4.size) ⟨⟨hb2, l2⟩, trivial⟩
    exact HK x h10 ((o5.toIv.iv f10 (.inr (Nat.le_refl _))).mono fun k hk2 hk => ⟨Nat.le_trans s4 hk.1, hk2⟩) (f5.ivFresh f10 (Nat.le_refl _))

def toldP (xss : List (List Int)) : List (List Int) := if graphB xss then xss else []
def addP (g : List (List Int)) (p q : Int) : List (List Int) × Bool :=
  if graphB g && inR 0 ((g.length : Int) - 1) p && inR 0 ((g.length : Int) - 1) q then (toldP (g.set p.toNat (g.getD p.toNat [] ++ [q])), graphB (g.set p.toNat (g.getD p.toNat [] ++ [q]))) else ([], false)
theorem inR_iff {lo hi x : Int} : inR lo hi x = true ↔ lo ≤ x ∧ x ≤ hi := by simp [inR]
theorem graph_len {g : List (List Int)} (h : graphB g = true) : 1 ≤ g.length ∧ g.length ≤ 8 := by
  unfold graphB at h
  rw [Bool.and_eq_true, inR_iff] at h
  omega
theorem graph_mem {g : List (List Int)} (h : graphB g = true) {l : List Int} (hl : l ∈ g) : l.length ≤ 5 ∧ ∀ x, x ∈ l → 0 ≤ x ∧ x < (g.length : Int) := by
  unfold graphB at h
  rw [Bool.and_eq_true] at h
  have := List.all_eq_true.1 h.2 l hl
  rw [Bool.and_eq_true] at this
  obtain ⟨h1, h2⟩ := this
  simp only [Bool.not_eq_true', decide_eq_false_iff_not] at h1
  refine ⟨by omega, fun x hx => ?_⟩
  have := List.all_eq_true.1 h2 x hx
  rw [inR_iff] at this
  omega
theorem graph_tot {g : List (List Int)} (h : graphB g = true) : totR g ≤ 40 := by
  have := tot_short (n := 5) (xss := g) (m := 8) (graph_len h).2 fun l hl => (graph_mem h hl).1
  omega
theorem toldP_tot (g : List (List Int)) : (toldP g).length + totR (toldP g) ≤ 48 := by
  unfold toldP
  split
  · rename_i h
    have := graph_tot h
    have := graph_len h
    omega
  · simp [totR]
theorem addP_tot (g : List (List Int)) (p q : Int) : (addP g p q).1.length + totR (addP g p q).1 ≤ 48 := by
  unfold addP
  split
  · exact toldP_tot _
  · simp [totR]
theorem getD_get {g : List (List Int)} {i : Nat} (h : i < g.length) : g.getD i [] = g[i] := by simp [List.getD, List.getElem?_eq_getElem h]

theorem k_Grow0 (h : Heap) (n : Nat) (hn : n ≤ 1000000000) (K : Value → Heap → Prop) (HK : ∀ t h', OwI h' (Iv h.size h'.size) t [] → Fr No h h' → K t.v h') : callM Try.prog 102 #[nilSl.v, VI n] h K := by
  refine v102 nilSl n h K ⟨fun h' => h' = h, ⟨fun e => ?_, fun _ => rfl⟩, ?_⟩
  · simp only [decide_eq_true_eq] at e
    omega
  rintro hh rfl hL
  have e0 : w64 ((nilSl.c : Int) - (nilSl.n : Int)) = 0 := by decide
  refine pop_cap rIs ⟨_, rfl, ?_⟩
  rw [e0, show w64 ((n : Int) - 0) = n from w64_eq _ (by omega) (by omega)]
  refine ⟨fun e => ?_, fun e => ?_⟩
  · simp only [decide_eq_true_eq] at e
    refine pop_cap rIs ⟨_, rfl, pop_cut_h rIs .i64 (by simp [nilSl]) (Int.le_refl _) ⟨_, rfl, ?_⟩⟩
    have e2 : nilSl.cut 1 0 ((nilSl.c : Int)).toNat nilSl.c = nilSl := rfl
    rw [e2]
    refine eop_zeros rIs (show Try.prog.underlying tI = some (.int .i64) by kernel_rfl) (fun k => hh.size ≤ k) (fun _ h => h) _ n (by omega) (by omega) fun t h2 n2 o2 f2 l2 => ⟨t, rfl, .nil, ?_⟩
    refine pop_cut_h rIs .i64 (by simp [nilSl]) (by have := o2.cap; simp [nilSl]) ⟨_, rfl, ?_⟩
    have o3 := o2.cut (l := 0) (m := 0) (Nat.le_refl _) (Nat.zero_le _)
    have e3 : ((0 : Nat) - 0) * 1 = 0 := rfl
    rw [e3, List.take_zero] at o3
    exact HK _ h2 (Ow.toIv o3) f2
  · exact HK nilSl _ (Ow.nil _ _ _ _) (Fr.refl _ _)

theorem totR_flat (xss : List (List Int)) : xss.flatten.length = totR xss := by simp [totR, List.length_flatten]

theorem k_Concat {S : Nat → Prop} {h : Heap} {s : Sl} {xss : List (List Int)} (H : RdR S h s xss) (hn : xss.length + totR xss ≤ 1000000000) (K : Value → Heap → Prop) (HK : ∀ t h', OwI h' (Iv h.size h'.size) t xss.flatten → Fr No h h' → K t.v h') : callM Try.prog 76 #[s.v] h K := by
  refine v76 s h K ⟨fun n z i h' => h' = h ∧ 0 ≤ i ∧ i + n = (xss.length : Int) ∧ z = totR (xss.take i.toNat), ⟨xss.length, rfl, by omega, by omega, by simp [totR]⟩, ?_⟩
  rintro n z i hh ⟨rfl, i0, i1, rfl⟩ hL
  refine ⟨fun e => ?_, fun e => ?_⟩
  · have hi := H.lt e
    obtain ⟨si, c1, c2⟩ := H.get i0 hi
    have hsn := totR_snoc xss i.toNat (by omega)
    have hle := totR_take_le xss (i.toNat + 1)
    have hw : w64 ((totR (xss.take i.toNat) : Int) + si.n) = totR (xss.take (i.toNat + 1)) := by rw [c2.len, hsn]; exact w64_eq _ (by omega) (by omega)
    refine ⟨H.inb i0 hi, si, c1, ?_⟩
    rw [hw]
    refine ⟨fun e => ?_, fun e => ?_⟩
    · simp only [decide_eq_true_eq] at e
      omega
    · rw [H.succ i0 hi]
      exact ⟨n - 1, by omega, rfl, by omega, by omega, by rw [toNat_succ i0]⟩
  · have hi := H.ge e
    rw [List.take_of_length_le (by omega)]
    refine k_Grow0 _ (totR xss) (by omega) _ fun t h2 o2 f2 => ⟨t, rfl, .nil, ?_⟩
    refine ⟨fun n x i h' => 0 ≤ i ∧ i + n = (xss.length : Int) ∧ OwI h' (fun k => hh.size ≤ k) x (xss.take i.toNat).flatten ∧ Fr No hh h', ⟨xss.length, by omega, by omega, Ow.mono o2 fun k _ hk => hk.1, f2⟩, ?_⟩
    rintro n x i h3 ⟨i0, i1, o3, f3⟩ hL
    have H3 := H.no f3
    refine ⟨fun e => ?_, fun e => ?_⟩
    · have hi := H.lt e
      obtain ⟨si, c1, c2⟩ := H3.get i0 hi
      have hsn := totR_snoc xss i.toNat (by omega)
      have hle := totR_take_le xss (i.toNat + 1)
      have hfl := totR_flat (xss.take i.toNat)
      refine ⟨H3.inb i0 hi, si, c1, eop_append rIs o3 (fun k hk => Nat.le_trans f3.size hk) c2 (plainVI _) (by have h1 := c2.len; have h2 := RdI.len o3.rdF; omega) fun y h4 n4 o4 f4 d4 => ⟨y, rfl, .nil, ?_⟩⟩
      rw [H.succ i0 hi]
      refine ⟨n - 1, by omega, by omega, by omega, ?_, f3.fresh f4 fun k hk => (o3.foot hk).1⟩
      rw [take_snoc xss i0 hi, List.flatten_append, List.flatten_cons, List.flatten_nil, List.append_nil]
      rw [← List.map_append] at o4
      exact o4
    · have hi := H.ge e
      rw [List.take_of_length_le (by omega)] at o3
      exact HK x h3 o3.toIv f3

def rotL (l : List Int) (k : Nat) : List Int := l.drop (k % l.length) ++ l.take (k % l.length)
def turnP (g : List (List Int)) (p k : Int) : List (List Int) × Bool :=
  if graphB g && inR 0 ((g.length : Int) - 1) p && inR 0 1000 k then (g.set p.toNat (rotL (g.getD p.toNat []) k.toNat), true) else ([], false)
theorem rotL_length (l : List Int) (k : Nat) : (rotL l k).length = l.length := by
  unfold rotL
  simp
  rcases Nat.eq_zero_or_pos l.length with h | h
  · simp [h]
  · have := Nat.mod_lt k h
    omega
theorem rot_get (l : List Int) (j i : Nat) (h : i < l.length) (hj : j < l.length) : (l.drop j ++ l.take j)[i]? = l[(i + j) % l.length]? := by
  by_cases h1 : i < (l.drop j).length
  · rw [List.getElem?_append_left h1]
    simp only [List.length_drop] at h1
    rw [Nat.mod_eq_of_lt (by omega), List.getElem?_drop]
    congr 1
    omega
  · rw [List.getElem?_append_right (by omega)]
    simp only [List.length_drop] at h1 ⊢
    rw [Nat.mod_eq_sub_mod (by omega), Nat.mod_eq_of_lt (by omega), List.getElem?_take, if_pos (by omega)]
    congr 1
    omega
theorem rotL_get (l : List Int) (k i : Nat) (h : i < l.length) : (rotL l k)[i]'(by rw [rotL_length]; exact h) = l[(i + k) % l.length]'(Nat.mod_lt _ (by omega)) := by
  have hm := Nat.mod_lt k (show 0 < l.length by omega)
  have := rot_get l (k % l.length) i h hm
  rw [Nat.add_mod_mod, List.getElem?_eq_getElem (by simp; omega), List.getElem?_eq_getElem (Nat.mod_lt _ (by omega))] at this
  exact Option.some.inj this
theorem totR_set (xss : List (List Int)) (i : Nat) (ys : List Int) : totR (xss.set i ys) ≤ totR xss + ys.length := by
  induction xss generalizing i with
  | nil => simp [totR]
  | cons x xs ih =>
    cases i with
    | zero => simp [totR]; omega
    | succ i =>
      have := ih i
      simp only [totR, List.set_cons_succ, List.map_cons, List.sum_cons] at *
      omega
theorem turnP_tot (g : List (List Int)) (p k : Int) : (turnP g p k).1.length + totR (turnP g p k).1 ≤ 100 := by
  unfold turnP
  split
  · rename_i h
    rw [Bool.and_eq_true, Bool.and_eq_true, inR_iff, inR_iff] at h
    obtain ⟨⟨h1, h2, h3⟩, _⟩ := h
    have a := graph_tot h1
    have b := graph_len h1
    have c := totR_set g p.toNat (rotL (g.getD p.toNat []) k.toNat)
    rw [rotL_length, getD_get (by omega)] at c
    have d := (graph_mem h1 (List.getElem_mem (show p.toNat < g.length by omega))).1
    simp only [List.length_set]
    rw [getD_get (by omega)]
    omega
  · simp [totR]
theorem tmod_nat {k n : Int} (h0 : 0 ≤ k) (hn : 0 ≤ n) : Int.tmod k n = ((k.toNat % n.toNat : Nat) : Int) := by
  obtain ⟨a, rfl⟩ := Int.eq_ofNat_of_zero_le h0
  obtain ⟨b, rfl⟩ := Int.eq_ofNat_of_zero_le hn
  rfl

theorem k_TurnExits {S : Nat → Prop} {h : Heap} {g : Sl} {xss : List (List Int)} (H : RdR S h g xss) (p k : Int) (K : Value → Heap → Prop) (HK : ∀ t h', OwX h' (Iv h.size h'.size) t (turnP xss p k).1 → Fr No h h' → K (.tuple #[.agg #[t.v], VB (turnP xss p k).2]) h') : callM Try.prog 32 #[.agg #[g.v], VI p, VI k] h K := by
  refine v32 g p k h K fun b1 b2 h2 hb1 hb2 f2 hL2 => ?_
  have f2 := f2.in_nil
  have l2 : b2 < h2.size := hL2.head.lt
  have l1 : b1 < h2.size := hL2.tail.head.lt
  have s2 := f2.size
  refine eop_lit rIs (fun k => h2.size ≤ k) (fun _ h => h) 1 (by omega) [VI p] rfl rfl fun t h3 n3 c3 o3 f3 m3 _ => ⟨t, rfl, hL2.of_no f3, ?_⟩
  have o3 : RdI (fun k => h2.size ≤ k) h3 t [p] := o3.rdF
  have hL3 := hL2.of_no f3
  have s3 := f3.size
  refine k_has ((H.no f2).no f3) o3 _ fun h4 f4 => ⟨_, rfl, hL3.of_no f4, fun e h5 f5 hL5 => ?_, fun e => ?_⟩
  all_goals simp only [List.all_cons, List.all_nil, Bool.and_true] at e
  · have f5 := f5.inIv (lo := h.size) (hi := h2.size) ⟨⟨hb2, l2⟩, trivial⟩
    have e2 : turnP xss p k = ([], false) := by unfold turnP; rw [not_t e]; rfl
    have := HK nilSl h5 (by rw [e2]; exact OwR.nil _ _ _ _) (((f2.no_trans f3).no_trans f4).ivFresh f5 (Nat.le_refl _))
    rw [e2] at this
    exact this
  have e := not_f e
  have hL4 := hL3.of_no f4
  refine k_impl_in _ _ _ _ _ ⟨_, rfl, hL4, fun e1 h5 f5 hL5 => ?_, fun e1 => ?_⟩
  · have f5 := f5.inIv (lo := h.size) (hi := h2.size) ⟨⟨hb2, l2⟩, trivial⟩
    have e1 : inR 0 1000 k = false := not_t e1
    have e2 : turnP xss p k = ([], false) := by unfold turnP; rw [e, e1]; rfl
    have := HK nilSl h5 (by rw [e2]; exact OwR.nil _ _ _ _) (((f2.no_trans f3).no_trans f4).ivFresh f5 (Nat.le_refl _))
    rw [e2] at this
    exact this
  have e1 : inR 0 1000 k = true := not_f e1
  have e2 : turnP xss p k = (xss.set p.toNat (rotL (xss.getD p.toNat []) k.toNat), true) := by unfold turnP; rw [e, e1]; rfl
  rw [Bool.and_eq_true, inR_iff] at e
  rw [inR_iff] at e1
  obtain ⟨hg, hp0, hp1⟩ := e
  obtain ⟨hk0, hk1⟩ := e1
  have hlen := graph_len hg
  have htot := graph_tot hg
  have hpl : p.toNat < xss.length := by omega
  rw [e2, getD_get hpl] at HK
  have hsi := (graph_mem hg (List.getElem_mem hpl)).1
  have f24 := (f2.no_trans f3).no_trans f4
  have s4 := f4.size
  refine k_copied (H.no f24) (by omega) _ fun u h6 o6 f6 => ⟨u, rfl, hL4.of_no f6, fun b3 h8 hb3 f8 hL8 => ?_⟩
  have f8 := f8.in_nil
  have s6 := f6.size
  have s8 := f8.size
  have l3 : b3 < h8.size := hL8.head.lt
  have o8 := o6.no f8
  have f28 := (f24.no_trans f6).no_trans f8
  have H8 := H.no f28
  obtain ⟨si, c1, c2⟩ := H8.get hp0 (by omega)
  have hlq := c2.len
  refine ⟨fun h' => OwX h' (fun k => h4.size ≤ k) u (xss.set p.toNat (rotL (xss[p.toNat]'hpl) k.toNat)) ∧ Fr No h h' ∧ h4.size ≤ h'.size, ⟨H8.inb hp0 (by omega), si, c1, fun e3 => ?_, fun e3 => ?_⟩, ?_⟩
  · simp only [decide_eq_true_eq] at e3
    have hq : 0 < (xss[p.toNat]'hpl).length := by omega
    have hmod := Nat.mod_lt k.toNat hq
    have hj : Int.tmod k (si.n : Int) = ((k.toNat % (xss[p.toNat]'hpl).length : Nat) : Int) := by rw [tmod_nat hk0 (by omega), hlq]; simp
    refine ⟨by omega, ?_⟩
    rw [hj]
    refine pop_cut_l rIs .i64 (by omega) (by omega) ⟨_, rfl, pop_cut_h rIs .i64 (by omega) (by have := RdV.cap c2; omega) ⟨_, rfl, ?_⟩⟩
    simp only [Int.toNat_natCast]
    have r1 := c2.cut (l := k.toNat % (xss[p.toNat]'hpl).length) (m := si.n) (by omega) (by omega)
    have r2 := c2.cut (l := 0) (m := k.toNat % (xss[p.toNat]'hpl).length) (by omega) (by omega)
    rw [List.take_of_length_le (by simp; omega)] at r1
    rw [List.drop_zero, Nat.sub_zero] at r2
    refine eop_lit rIss (fun k => h8.size ≤ k) (fun _ h => h) 2 (by omega) [(si.cut 1 (k.toNat % (xss[p.toNat]'hpl).length) si.n si.c).v, (si.cut 1 0 (k.toNat % (xss[p.toNat]'hpl).length) si.c).v] rfl rfl fun v h10 n10 c10 o10 f10 m10 _ => ⟨v, rfl, hL8.of_no f10, ?_⟩
    have s10 := f10.size
    have R10 : RdR (fun _ => True) h10 v [(xss[p.toNat]'hpl).drop (k.toNat % (xss[p.toNat]'hpl).length), (xss[p.toNat]'hpl).take (k.toNat % (xss[p.toNat]'hpl).length)] := by
      refine ⟨[si.cut 1 (k.toNat % (xss[p.toNat]'hpl).length) si.n si.c, si.cut 1 0 (k.toNat % (xss[p.toNat]'hpl).length) si.c], rfl, o10.rd.mono fun _ _ => trivial, fun i a b => ?_⟩
      match i, a with
      | 0, _ => exact (r1.no f10).mono fun _ _ => trivial
      | 1, _ => exact (r2.no f10).mono fun _ _ => trivial
    refine k_Concat R10 (by simp [totR]; omega) _ fun w h11 o11 f11 => ⟨w, rfl, (hL8.of_no f10).of_no f11, ?_⟩
    have s11 := f11.size
    have o11' : OwI h11 (fun k => h4.size ≤ k) w (rotL (xss[p.toNat]'hpl) k.toNat) := by
      have e4 : [(xss[p.toNat]'hpl).drop (k.toNat % (xss[p.toNat]'hpl).length), (xss[p.toNat]'hpl).take (k.toNat % (xss[p.toNat]'hpl).length)].flatten = rotL (xss[p.toNat]'hpl) k.toNat := by simp [rotL]
      rw [e4] at o11
      exact Ow.mono o11 fun k _ hk => by have := hk.1; omega
    have o8' := (o8.no f10).no f11
    obtain ⟨sj, d1, d2, _⟩ := o8'.inner hp0 (by omega)
    obtain ⟨i12, w12, o12, f12⟩ := o8'.outer2 hp0 (by omega) d1 (Fr.refl _ _) (F' := fun k => h4.size ≤ k) o11' (fun k _ hk => hk.1) fun k hk => .inr fun hk2 => by have := (o11.foot hk).1.1; have := hk2.2; omega
    have f12' : Fr (Iv h4.size h6.size) h11 _ := o8'.ownF f12
    have hL12 := ((hL8.of_no f10).of_no f11).iv f12' ⟨.inr hb3, .inl (by omega), .inl (by omega), trivial⟩
    refine ⟨i12, w12, hL12, fun h13 e13 _ => ?_⟩
    subst e13
    exact ⟨o12, ((f28.no_trans f10).no_trans f11).ivFresh f12' (by omega), by have := f12.size; omega⟩
  · simp only [decide_eq_false_iff_not] at e3
    have hz : xss[p.toNat]'hpl = [] := List.eq_nil_of_length_eq_zero (by omega)
    have e4 : xss.set p.toNat (rotL (xss[p.toNat]'hpl) k.toNat) = xss := by
      have : rotL (xss[p.toNat]'hpl) k.toNat = xss[p.toNat]'hpl := by rw [hz]; simp [rotL]
      rw [this, List.set_getElem_self]
    show OwX h8 (fun k => h4.size ≤ k) u (xss.set p.toNat (rotL (xss[p.toNat]'hpl) k.toNat)) ∧ Fr No h h8 ∧ h4.size ≤ h8.size
    rw [e4]
    exact ⟨o8.mono fun k _ hk => hk.1, f28, by omega⟩
  · rintro h13 ⟨o13, f13, s13⟩ hL13 h14 f14 hL14
    have f14 := f14.inIv (lo := h.size) (hi := h2.size) ⟨⟨hb2, l2⟩, trivial⟩
    exact HK u h14 ((o13.toIv.iv f14 (.inr (by omega))).mono fun k hk hF => ⟨by have := hF.1; omega, hk⟩) (f13.ivFresh f14 (Nat.le_refl _))

theorem k_spec_TurnExits {S : Nat → Prop} {h : Heap} {g : Sl} {xss : List (List Int)} (H : RdR S h g xss) (p k : Int) (K : Value → Heap → Prop) (HK : ∀ t h', OwX h' (Iv h.size h'.size) t (turnP xss p k).1 → Fr No h h' → K (.tuple #[.agg #[t.v], VB (turnP xss p k).2]) h') : callM Try.prog 31 #[.agg #[g.v], VI p, VI k] h K := by
  refine v31 g p k h K fun b1 b2 h2 hb1 hb2 f2 hL2 => ?_
  have f2 := f2.in_nil
  have l2 : b2 < h2.size := hL2.head.lt
  have l1 : b1 < h2.size := hL2.tail.head.lt
  have s2 := f2.size
  refine k_spec_grPlace (H.no f2) p _ fun h3 f3 => ⟨_, rfl, hL2.of_no f3, fun e h5 f5 hL5 => ?_, fun e => ?_⟩
  · have f5 := f5.inIv (lo := h.size) (hi := h2.size) ⟨⟨hb2, l2⟩, trivial⟩
    have e2 : turnP xss p k = ([], false) := by unfold turnP; rw [not_t e]; rfl
    have := HK nilSl h5 (by rw [e2]; exact OwR.nil _ _ _ _) ((f2.no_trans f3).ivFresh f5 (Nat.le_refl _))
    rw [e2] at this
    exact this
  have e := not_f e
  have hL3 := hL2.of_no f3
  refine k_spec_l1In _ _ _ _ _ ⟨_, rfl, hL3, fun e1 h5 f5 hL5 => ?_, fun e1 => ?_⟩
  · have f5 := f5.inIv (lo := h.size) (hi := h2.size) ⟨⟨hb2, l2⟩, trivial⟩
    have e1 : inR 0 1000 k = false := not_t e1
    have e2 : turnP xss p k = ([], false) := by unfold turnP; rw [e, e1]; rfl
    have := HK nilSl h5 (by rw [e2]; exact OwR.nil _ _ _ _) ((f2.no_trans f3).ivFresh f5 (Nat.le_refl _))
    rw [e2] at this
    exact this
  have e1 : inR 0 1000 k = true := not_f e1
  have e2 : turnP xss p k = (xss.set p.toNat (rotL (xss.getD p.toNat []) k.toNat), true) := by unfold turnP; rw [e, e1]; rfl
  rw [Bool.and_eq_true, inR_iff] at e
  rw [inR_iff] at e1
  obtain ⟨hg, hp0, hp1⟩ := e
  obtain ⟨hk0, hk1⟩ := e1
  have hlen := graph_len hg
  have htot := graph_tot hg
  have hpl : p.toNat < xss.length := by omega
  rw [e2, getD_get hpl] at HK
  have hsi := (graph_mem hg (List.getElem_mem hpl)).1
  have f23 := f2.no_trans f3
  have s3 := f3.size
  refine k_grCopy (H.no f23) (by omega) _ fun u h6 o6 f6 => ⟨u, rfl, hL3.of_no f6, H.inb hp0 (by omega), fun b3 h8 hb3 f8 hL8 => ?_⟩
  have f8 := f8.in_nil
  have s6 := f6.size
  have s8 := f8.size
  have l3 : b3 < h8.size := hL8.head.lt
  have o8 := o6.no f8
  have f28 := (f23.no_trans f6).no_trans f8
  have H8 := H.low.no f28
  obtain ⟨si, c1, c2⟩ := H8.get hp0 (by omega)
  have hlq := c2.len
  refine ⟨si, c1, fun n i h' => 0 ≤ i ∧ i + n = ((xss[p.toNat]'hpl).length : Int) ∧ OwX h' (Iv h3.size h6.size) u (xss.set p.toNat ((rotL (xss[p.toNat]'hpl) k.toNat).take i.toNat ++ (xss[p.toNat]'hpl).drop i.toNat)) ∧ Fr (Iv h3.size h6.size) h8 h', ⟨(xss[p.toNat]'hpl).length, by omega, by omega, by simpa using o8, Fr.refl _ _⟩, ?_⟩
  rintro n i h9 ⟨i0, i1, o9, f9⟩ hL9
  have c2' := c2.fr f9 fun k hk hk2 => by have := hk2.1; have := f23.size; omega
  refine ⟨fun e3 => ?_, fun e3 => ?_⟩
  · have hi := c2'.lt e3
    have hz : ∀ (L : List Int), (xss.set p.toNat L)[p.toNat]'(by simpa using hpl) = L := fun L => by simp
    obtain ⟨sj, d1, d2, d3⟩ := o9.inner hp0 (by simp; omega)
    rw [hz] at d2
    have hjl : sj.n = (xss[p.toNat]'hpl).length := by have := RdI.len d2.rdF; simp [rotL_length] at this; omega
    have hw : w64 (i + k) = i + k := w64_eq _ (by omega) (by omega)
    have hm : Int.tmod (i + k) (si.n : Int) = (((i.toNat + k.toNat) % (xss[p.toNat]'hpl).length : Nat) : Int) := by
      rw [tmod_nat (by omega) (by omega), hlq]
      congr 2
      omega
    have hml := Nat.mod_lt (i.toNat + k.toNat) (show 0 < (xss[p.toNat]'hpl).length by omega)
    rw [hw, hm]
    have hrl : (rotL (xss[p.toNat]'hpl) k.toNat).length = (xss[p.toNat]'hpl).length := rotL_length _ _
    obtain ⟨w1, w2, w3⟩ := d2.store1 i0 (by omega) (VI ((rotL (xss[p.toNat]'hpl) k.toNat)[i.toNat]'(by omega)))
    have hv := c2'.get (i := (((i.toNat + k.toNat) % (xss[p.toNat]'hpl).length : Nat) : Int)) (by omega) (by omega)
    have hv2 : (xss[p.toNat]'hpl)[((((i.toNat + k.toNat) % (xss[p.toNat]'hpl).length : Nat) : Int)).toNat]'(by rw [Int.toNat_natCast]; exact hml) = (rotL (xss[p.toNat]'hpl) k.toNat)[i.toNat]'(by omega) := by
      rw [rotL_get _ _ _ (by omega)]
      congr 1
    rw [hv2] at hv
    have f10 : Fr (Iv h3.size h6.size) h9 _ := w3.mono fun k _ hk => (d2.foot hk).1
    have hL10 := hL9.iv f10 ⟨.inr hb3, .inl (by omega), .inl (by omega), trivial⟩
    refine ⟨o9.rd.inb hp0 (by simp; omega), sj, d1, by omega, c2'.inb (by omega) (by omega), _, hv, d2.inb i0 (by omega), w1, hL10, fun h10 e10 _ => ?_⟩
    subst e10
    rw [← List.map_set, set_mid _ _ _ _ (by omega)] at w2
    have o10 := d3 _ _ w3 w2
    rw [List.set_set] at o10
    rw [c2'.succ i0 hi]
    exact ⟨n - 1, by omega, by omega, by omega, by rw [toNat_succ i0]; exact o10, f9.trans f10⟩
  · have hi := c2'.ge e3
    have hrl : (rotL (xss[p.toNat]'hpl) k.toNat).length = (xss[p.toNat]'hpl).length := rotL_length _ _
    rw [List.take_of_length_le (by omega), List.drop_of_length_le (by omega), List.append_nil] at o9
    intro h11 f11 hL11
    have f11 := f11.inIv (lo := h.size) (hi := h2.size) ⟨⟨hb2, l2⟩, trivial⟩
    have s9 := f9.size
    have s11 := f11.size
    have := f23.size
    exact HK u h11 ((o9.iv f11 (.inr (by omega))).mono fun k hk hF => ⟨by have := hF.1; omega, hk⟩) ((f28.ivFresh f9 (by omega)).ivFresh f11 (Nat.le_refl _))

theorem k_lawTurnExits {h : Heap} {S0 : Nat → Prop} {s0 : Sl} {x0 : List (List Int)} (G0 : RdR S0 h s0 x0) (n1 : Int) (n2 : Int) : Ret Try.prog 6 #[.agg #[s0.v], VI n1, VI n2] h (VB true) := by
  intro K HK
  replace G0 := RdR.toIv G0
  have fz : Fr No h h := Fr.refl _ _
  have := turnP_tot x0 n1 n2
  refine v6 s0 n1 n2 h K ?_
  have hL : Vars h [] := .nil
  intro b_1 h_1 hb_b_1 f1 hL
  replace f1 := f1.in_nil
  have lt_b_1 : b_1 < h_1.size := (hL).head.lt
  have z_f1 := f1.size
  replace G0 := RdR.no G0 f1
  replace fz := fz.no_trans f1
  refine g_szGraph G0 _ (by omega) (by omega) _ fun h_2 r2 f2 hr2 => ⟨r2, rfl, hL.of_no f2, ?_⟩
  replace hL := hL.of_no f2
  have z_f2 := f2.size
  replace G0 := RdR.no G0 f2
  replace fz := fz.no_trans f2
  refine ⟨fun e => ?_, fun e => ?_⟩
  · exact HK _ fz
  (try simp only [decide_eq_false_iff_not] at e)
  refine g_toGraph G0 (by omega) _ fun u3_0 h_3 O3_0 f3 => ⟨u3_0, rfl, hL.of_no f3, ?_⟩
  replace hL := hL.of_no f3
  have z_f3 := f3.size
  replace G0 := RdR.no G0 f3
  replace fz := fz.no_trans f3
  refine k_spec_TurnExits (OwR.rdI O3_0) _ _ _ fun u4_0 h_4 O4_0 f4 => ⟨u4_0, _, rfl, hL.of_no f4, ?_⟩
  replace hL := hL.of_no f4
  have z_f4 := f4.size
  replace G0 := RdR.no G0 f4
  replace O3_0 := OwR.no O3_0 f4
  replace fz := fz.no_trans f4
  intro b_2 h_6 hb_b_2 f5 hL
  replace f5 := f5.in_nil
  have lt_b_2 : b_2 < h_6.size := (hL).head.lt
  have z_f5 := f5.size
  replace G0 := RdR.no G0 f5
  replace O3_0 := OwR.no O3_0 f5
  replace O4_0 := OwR.no O4_0 f5
  replace fz := fz.no_trans f5
  refine g_toGraph G0 (by omega) _ fun u6_0 h_7 O6_0 f6 => ⟨u6_0, rfl, hL.of_no f6, ?_⟩
  replace hL := hL.of_no f6
  have z_f6 := f6.size
  replace G0 := RdR.no G0 f6
  replace O3_0 := OwR.no O3_0 f6
  replace O4_0 := OwR.no O4_0 f6
  replace fz := fz.no_trans f6
  intro b_3 h_9 hb_b_3 f7 hL
  replace f7 := f7.in_nil
  have lt_b_3 : b_3 < h_9.size := (hL).head.lt
  have z_f7 := f7.size
  replace G0 := RdR.no G0 f7
  replace O3_0 := OwR.no O3_0 f7
  replace O4_0 := OwR.no O4_0 f7
  replace O6_0 := OwR.no O6_0 f7
  replace fz := fz.no_trans f7
  refine k_TurnExits (OwR.rdI O6_0) _ _ _ fun u8_0 h_10 O8_0 f8 => ⟨u8_0, _, rfl, hL.of_no f8, ?_⟩
  replace hL := hL.of_no f8
  have z_f8 := f8.size
  replace G0 := RdR.no G0 f8
  replace O3_0 := OwR.no O3_0 f8
  replace O4_0 := OwR.no O4_0 f8
  replace O6_0 := OwR.no O6_0 f8
  replace fz := fz.no_trans f8
  intro b_4 h_12 hb_b_4 f9 hL
  replace f9 := f9.in_nil
  have lt_b_4 : b_4 < h_12.size := (hL).head.lt
  have z_f9 := f9.size
  replace G0 := RdR.no G0 f9
  replace O3_0 := OwR.no O3_0 f9
  replace O4_0 := OwR.no O4_0 f9
  replace O6_0 := OwR.no O6_0 f9
  replace O8_0 := OwR.no O8_0 f9
  replace fz := fz.no_trans f9
  refine g_eqGraph (OwR.rdI O8_0) (OwR.rdI O4_0) _ fun h_13 f10 => ⟨_, rfl, hL.of_no f10, ?_⟩
  replace hL := hL.of_no f10
  have z_f10 := f10.size
  replace G0 := RdR.no G0 f10
  replace O3_0 := OwR.no O3_0 f10
  replace O4_0 := OwR.no O4_0 f10
  replace O6_0 := OwR.no O6_0 f10
  replace O8_0 := OwR.no O8_0 f10
  replace fz := fz.no_trans f10
  refine ⟨fun e => ?_, fun e => ?_⟩
  · first | (simp at e; done) | (simp only [decide_eq_true_eq] at e; omega)
  (try simp only [decide_eq_false_iff_not] at e)
  refine ⟨fun e => ?_, fun e => ?_⟩
  · first | (simp at e; done) | (simp only [decide_eq_true_eq] at e; omega)
  (try simp only [decide_eq_false_iff_not] at e)
  refine g_toGraph G0 (by omega) _ fun u11_0 h_14 O11_0 f11 => ⟨u11_0, rfl, hL.of_no f11, ?_⟩
  replace hL := hL.of_no f11
  have z_f11 := f11.size
  replace G0 := RdR.no G0 f11
  replace O3_0 := OwR.no O3_0 f11
  replace O4_0 := OwR.no O4_0 f11
  replace O6_0 := OwR.no O6_0 f11
  replace O8_0 := OwR.no O8_0 f11
  replace fz := fz.no_trans f11
  refine g_eqGraph (OwR.rdI O6_0) (OwR.rdI O11_0) _ fun h_15 f12 => ⟨_, rfl, hL.of_no f12, ?_⟩
  replace hL := hL.of_no f12
  have z_f12 := f12.size
  replace G0 := RdR.no G0 f12
  replace O3_0 := OwR.no O3_0 f12
  replace O4_0 := OwR.no O4_0 f12
  replace O6_0 := OwR.no O6_0 f12
  replace O8_0 := OwR.no O8_0 f12
  replace O11_0 := OwR.no O11_0 f12
  replace fz := fz.no_trans f12
  refine ⟨fun e => ?_, fun e => ?_⟩
  · first | (simp at e; done) | (simp only [decide_eq_true_eq] at e; omega)
  (try simp only [decide_eq_false_iff_not] at e)
  refine g_markGraph O6_0 (by omega) _ (by omega) (by omega) _ fun h_16 N13_0 f13 => ⟨_, rfl, hL.iv f13 ⟨show b_4 < h_6.size ∨ h_7.size ≤ b_4 by omega, show b_3 < h_6.size ∨ h_7.size ≤ b_3 by omega, show b_2 < h_6.size ∨ h_7.size ≤ b_2 by omega, show b_1 < h_6.size ∨ h_7.size ≤ b_1 by omega, trivial⟩, ?_⟩
  replace hL := hL.iv f13 ⟨show b_4 < h_6.size ∨ h_7.size ≤ b_4 by omega, show b_3 < h_6.size ∨ h_7.size ≤ b_3 by omega, show b_2 < h_6.size ∨ h_7.size ≤ b_2 by omega, show b_1 < h_6.size ∨ h_7.size ≤ b_1 by omega, trivial⟩
  have z_f13 := f13.size
  replace G0 := RdR.iv G0 f13 (by omega)
  replace O3_0 := OwR.iv O3_0 f13 (by omega)
  replace O4_0 := OwR.iv O4_0 f13 (by omega)
  replace O8_0 := OwR.iv O8_0 f13 (by omega)
  replace O11_0 := OwR.iv O11_0 f13 (by omega)
  replace fz := fz.ivFresh f13 (by omega)
  refine ⟨fun e => ?_, fun e => ?_⟩
  · first | (simp at e; done) | (simp only [decide_eq_true_eq] at e; omega)
  (try simp only [decide_eq_false_iff_not] at e)
  refine g_eqGraph (OwR.rdI O8_0) (OwR.rdI O4_0) _ fun h_17 f14 => ⟨_, rfl, hL.of_no f14, ?_⟩
  replace hL := hL.of_no f14
  have z_f14 := f14.size
  replace G0 := RdR.no G0 f14
  replace O3_0 := OwR.no O3_0 f14
  replace O4_0 := OwR.no O4_0 f14
  replace O8_0 := OwR.no O8_0 f14
  replace O11_0 := OwR.no O11_0 f14
  replace N13_0 := OwR.no N13_0 f14
  replace fz := fz.no_trans f14
  refine ⟨fun e => ?_, fun e => ?_⟩
  · first | (simp at e; done) | (simp only [decide_eq_true_eq] at e; omega)
  (try simp only [decide_eq_false_iff_not] at e)
  refine g_markGraph O8_0 (by omega) _ (by omega) (by omega) _ fun h_18 N15_0 f15 => ⟨_, rfl, hL.iv f15 ⟨show b_4 < h_9.size ∨ h_10.size ≤ b_4 by omega, show b_3 < h_9.size ∨ h_10.size ≤ b_3 by omega, show b_2 < h_9.size ∨ h_10.size ≤ b_2 by omega, show b_1 < h_9.size ∨ h_10.size ≤ b_1 by omega, trivial⟩, ?_⟩
  replace hL := hL.iv f15 ⟨show b_4 < h_9.size ∨ h_10.size ≤ b_4 by omega, show b_3 < h_9.size ∨ h_10.size ≤ b_3 by omega, show b_2 < h_9.size ∨ h_10.size ≤ b_2 by omega, show b_1 < h_9.size ∨ h_10.size ≤ b_1 by omega, trivial⟩
  have z_f15 := f15.size
  replace G0 := RdR.iv G0 f15 (by omega)
  replace O3_0 := OwR.iv O3_0 f15 (by omega)
  replace O4_0 := OwR.iv O4_0 f15 (by omega)
  replace O11_0 := OwR.iv O11_0 f15 (by omega)
  replace N13_0 := OwR.iv N13_0 f15 (by omega)
  replace fz := fz.ivFresh f15 (by omega)
  refine g_heldGraph (OwR.rdI N15_0) (by omega) (by omega) (by omega) _ fun h_19 f16 => ⟨_, rfl, hL.of_no f16, ?_⟩
  replace hL := hL.of_no f16
  have z_f16 := f16.size
  replace G0 := RdR.no G0 f16
  replace O3_0 := OwR.no O3_0 f16
  replace O4_0 := OwR.no O4_0 f16
  replace O11_0 := OwR.no O11_0 f16
  replace N13_0 := OwR.no N13_0 f16
  replace N15_0 := OwR.no N15_0 f16
  replace fz := fz.no_trans f16
  refine ⟨fun e => ?_, fun e => ?_⟩
  · first | (simp at e; done) | (simp only [decide_eq_true_eq] at e; omega)
  (try simp only [decide_eq_false_iff_not] at e)
  refine ⟨fun e => ?_, fun e => ?_⟩
  · first | (simp at e; done) | (simp only [decide_eq_true_eq] at e; omega)
  (try simp only [decide_eq_false_iff_not] at e)
  refine g_toGraph G0 (by omega) _ fun u17_0 h_20 O17_0 f17 => ⟨u17_0, rfl, hL.of_no f17, ?_⟩
  replace hL := hL.of_no f17
  have z_f17 := f17.size
  replace G0 := RdR.no G0 f17
  replace O3_0 := OwR.no O3_0 f17
  replace O4_0 := OwR.no O4_0 f17
  replace O11_0 := OwR.no O11_0 f17
  replace N13_0 := OwR.no N13_0 f17
  replace N15_0 := OwR.no N15_0 f17
  replace fz := fz.no_trans f17
  refine k_TurnExits (OwR.rdI O17_0) _ _ _ fun u18_0 h_21 O18_0 f18 => ⟨u18_0, _, rfl, hL.of_no f18, ?_⟩
  replace hL := hL.of_no f18
  have z_f18 := f18.size
  replace G0 := RdR.no G0 f18
  replace O3_0 := OwR.no O3_0 f18
  replace O4_0 := OwR.no O4_0 f18
  replace O11_0 := OwR.no O11_0 f18
  replace N13_0 := OwR.no N13_0 f18
  replace N15_0 := OwR.no N15_0 f18
  replace O17_0 := OwR.no O17_0 f18
  replace fz := fz.no_trans f18
  intro b_5 h_23 hb_b_5 f19 hL
  replace f19 := f19.in_nil
  have lt_b_5 : b_5 < h_23.size := (hL).head.lt
  have z_f19 := f19.size
  replace G0 := RdR.no G0 f19
  replace O3_0 := OwR.no O3_0 f19
  replace O4_0 := OwR.no O4_0 f19
  replace O11_0 := OwR.no O11_0 f19
  replace N13_0 := OwR.no N13_0 f19
  replace N15_0 := OwR.no N15_0 f19
  replace O17_0 := OwR.no O17_0 f19
  replace O18_0 := OwR.no O18_0 f19
  replace fz := fz.no_trans f19
  refine g_eqGraph (OwR.rdI O18_0) (OwR.rdI O4_0) _ fun h_24 f20 => ⟨_, rfl, hL.of_no f20, ?_⟩
  replace hL := hL.of_no f20
  have z_f20 := f20.size
  replace G0 := RdR.no G0 f20
  replace O3_0 := OwR.no O3_0 f20
  replace O4_0 := OwR.no O4_0 f20
  replace O11_0 := OwR.no O11_0 f20
  replace N13_0 := OwR.no N13_0 f20
  replace N15_0 := OwR.no N15_0 f20
  replace O17_0 := OwR.no O17_0 f20
  replace O18_0 := OwR.no O18_0 f20
  replace fz := fz.no_trans f20
  refine ⟨fun e => ?_, fun e => ?_⟩
  · first | (simp at e; done) | (simp only [decide_eq_true_eq] at e; omega)
  (try simp only [decide_eq_false_iff_not] at e)
  refine ⟨fun e => ?_, fun e => ?_⟩
  · first | (simp at e; done) | (simp only [decide_eq_true_eq] at e; omega)
  (try simp only [decide_eq_false_iff_not] at e)
  refine g_heldGraph (OwR.rdI N15_0) (by omega) (by omega) (by omega) _ fun h_25 f21 => ⟨_, rfl, hL.of_no f21, ?_⟩
  replace hL := hL.of_no f21
  have z_f21 := f21.size
  replace G0 := RdR.no G0 f21
  replace O3_0 := OwR.no O3_0 f21
  replace O4_0 := OwR.no O4_0 f21
  replace O11_0 := OwR.no O11_0 f21
  replace N13_0 := OwR.no N13_0 f21
  replace N15_0 := OwR.no N15_0 f21
  replace O17_0 := OwR.no O17_0 f21
  replace O18_0 := OwR.no O18_0 f21
  replace fz := fz.no_trans f21
  refine ⟨fun e => ?_, fun e => ?_⟩
  · first | (simp at e; done) | (simp only [decide_eq_true_eq] at e; omega)
  (try simp only [decide_eq_false_iff_not] at e)
  refine ⟨fun e => ?_, fun e => ?_⟩
  · first | (simp at e; done) | (simp only [decide_eq_true_eq] at e; omega)
  (try simp only [decide_eq_false_iff_not] at e)
  exact HK _ fz
end Go.Proofs.Ytkphbhochacllaa
