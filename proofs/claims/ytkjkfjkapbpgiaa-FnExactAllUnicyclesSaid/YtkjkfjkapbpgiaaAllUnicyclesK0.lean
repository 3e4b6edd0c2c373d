/-
  What each function that the law 'FnExactAllUnicycles' comes to does: the contracts.
-/
import Derived.Test.YtkjkfjkapbpgiaaAllUnicyclesU
import Derived.Test.YtkjkfjkapbpgiaaM4
import Derived.Laws.IdiomCopy
import Derived.Deep.Draws
import Derived.Test.YtkjkfjkapbpgiaaAllUnicyclesH
set_option linter.unusedVariables false
set_option linter.unusedSimpArgs false
namespace Go.Proofs.Ytkjkfjkapbpgiaa
open Go Go.Mx
@[reducible] def tI : TypeId := 3
@[reducible] def tIs : TypeId := 27
@[reducible] def tIss : TypeId := 22
theorem rIs : rowC Try.prog tIs = some (tI, 1, 8, [VI 0]) := by kernel_rfl
theorem rIss : rowC Try.prog tIss = some (tIs, 1, 24, [nilSl.v]) := by kernel_rfl
@[reducible] def OwI (h : Heap) (F : Nat → Prop) (s : Sl) (xs : List Int) : Prop := Ow h F tI 1 s (xs.map VI)
@[reducible] def OwX (h : Heap) (F : Nat → Prop) (s : Sl) (xss : List (List Int)) : Prop := OwR h F tIs tI s xss
theorem plainVI (xs : List Int) : (xs.map VI).all plainV = true := by simp [List.all_eq_true, plainV]

theorem k_bool {f : FuncId} {args : Array Value} {h : Heap} {v w : Value} (H : Ret Try.prog f args h v) (e : v = w) : Ret Try.prog f args h w := e ▸ H

theorem k_impl_in (n lo hi : Int) (h : Heap) (K : Value → Heap → Prop) (H : K (VB (decide (lo ≤ n) && decide (n ≤ hi))) h) : callM Try.prog 102 #[VI n, VI lo, VI hi] h K := by
  refine v102 n lo hi h K ⟨fun e => ?_, fun e => ?_⟩
  · rw [e, Bool.true_and] at H; exact H
  · rw [e, Bool.false_and] at H; exact H

theorem k_spec_l1In (n lo hi : Int) (h : Heap) (K : Value → Heap → Prop) (H : K (VB (decide (lo ≤ n) && decide (n ≤ hi))) h) : callM Try.prog 113 #[VI n, VI lo, VI hi] h K := by
  refine v113 n lo hi h K ⟨fun e => ?_, fun e => ?_⟩
  · rw [e, Bool.true_and] at H; exact H
  · rw [e, Bool.false_and] at H; exact H

def inR (lo hi x : Int) : Bool := decide (lo ≤ x) && decide (x ≤ hi)
def graphB (g : List (List Int)) : Bool := inR 1 8 g.length && g.all fun l => !decide (5 < (l.length : Int)) && l.all (inR 0 ((g.length : Int) - 1))
theorem not_t {b : Bool} (h : (!b) = true) : b = false := by simpa using h
theorem not_f {b : Bool} (h : (!b) = false) : b = true := by simpa using h

theorem k_spec_l1All {S : Nat → Prop} {h : Heap} {l : Sl} {xs : List Int} (H : RdI S h l xs) (lo hi_1 : Int) (K : Value → Heap → Prop) (HK : K (VB (xs.all (inR lo hi_1))) h) : callM Try.prog 96 #[l.v, VI lo, VI hi_1] h K := by
  refine v96 l lo hi_1 h K ?_
  refine ⟨fun n i h' => h' = h ∧ 0 ≤ i ∧ i + n = (xs.length : Int) ∧ xs.all (inR lo hi_1) = (xs.drop i.toNat).all (inR lo hi_1), ⟨xs.length, rfl, by omega, by omega, by simp⟩, ?_⟩
  rintro n i _ ⟨rfl, h0, h1, h2⟩ hL
  refine ⟨fun e => ?_, fun e => ?_⟩
  · have hi := H.lt e
    refine ⟨H.inb h0 hi, _, H.get h0 hi, ?_⟩
    rw [drop_cons xs h0 hi, List.all_cons] at h2
    refine k_spec_l1In _ _ _ _ _ ⟨_, rfl, hL, fun e2 => ?_, fun e2 => ?_⟩
    · have e3 : inR lo hi_1 (xs[i.toNat]'(by omega)) = false := not_t e2
      rw [h2, e3] at HK
      exact HK
    · have e3 : inR lo hi_1 (xs[i.toNat]'(by omega)) = true := not_f e2
      rw [e3, Bool.true_and] at h2
      rw [H.succ h0 hi]
      exact ⟨n - 1, by omega, rfl, by omega, by omega, h2⟩
  · have hi := H.ge e
    rw [List.drop_of_length_le (by omega)] at h2
    rw [h2] at HK
    exact HK

theorem k_spec_grGood {S : Nat → Prop} {h : Heap} {g : Sl} {xss : List (List Int)} (H : RdR S h g xss) : Ret Try.prog 73 #[.agg #[g.v]] h (VB (graphB xss)) := by
  intro K HK
  refine v73 g h K ?_
  intro b1 h1 hb1 hf1 hL1
  have f1 := hf1.in_nil
  have hlen := H.len
  refine k_spec_l1In _ _ _ _ _ ⟨_, rfl, hL1, fun e => ?_, fun e => ?_⟩
  · have e3 : inR 1 8 xss.length = false := by have := not_t e; rw [hlen] at this; exact this
    have : graphB xss = false := by unfold graphB; rw [e3]; rfl
    rw [← this]; exact HK _ f1
  · have e3 : inR 1 8 xss.length = true := by have := not_f e; rw [hlen] at this; exact this
    have hw : w64 ((g.n : Int) - 1) = (xss.length : Int) - 1 := by rw [hlen]; exact w64_eq _ (by omega) (by have := maxLen_lt H.big; omega)
    have hg : graphB xss = xss.all fun l => !decide (5 < (l.length : Int)) && l.all (inR 0 ((xss.length : Int) - 1)) := by unfold graphB; rw [e3]; rfl
    rw [hw]
    refine ⟨fun n i h' => Fr No h1 h' ∧ 0 ≤ i ∧ i + n = (xss.length : Int) ∧ graphB xss = (xss.drop i.toNat).all (fun l => !decide (5 < (l.length : Int)) && l.all (inR 0 ((xss.length : Int) - 1))), ⟨xss.length, Fr.refl _ _, by omega, by omega, by simp [hg]⟩, ?_⟩
    rintro n i h3 ⟨f3, h0, h2, h4⟩ hL
    have H3 := (H.no f1).no f3
    refine ⟨fun e => ?_, fun e => ?_⟩
    · have hi := H.lt e
      obtain ⟨si, hc, Hi⟩ := H3.get h0 hi
      refine ⟨H3.inb h0 hi, si, hc, fun e5 => ?_, fun e5 => ?_⟩
      · rw [drop_cons xss h0 hi, List.all_cons] at h4
        rw [Hi.len] at e5
        rw [e5] at h4
        have h5 : graphB xss = false := by rw [h4]; rfl
        rw [← h5]; exact HK _ (f1.trans f3)
      · rw [drop_cons xss h0 hi, List.all_cons] at h4
        rw [Hi.len] at e5
        rw [e5] at h4
        refine k_spec_l1All Hi _ _ _ ⟨_, rfl, hL, fun e6 => ?_, fun e6 => ?_⟩
        · rw [not_t e6] at h4
          have h5 : graphB xss = false := by rw [h4]; rfl
          rw [← h5]; exact HK _ (f1.trans f3)
        · rw [not_f e6] at h4
          rw [H.succ h0 hi]
          exact ⟨n - 1, by omega, f3, by omega, by omega, by rw [h4]; rfl⟩
    · have hi := H.ge e
      rw [List.drop_of_length_le (by omega)] at h4
      have h5 : graphB xss = true := by rw [h4]; rfl
      rw [← h5]; exact HK _ (f1.trans f3)

theorem k_IndexFunc {S : Nat → Prop} {h : Heap} {s : Sl} {xs : List Int} (H : RdI S h s xs) (f : Value) (p : Int → Bool) (hf : ∀ (x : Int) (K : Value → Heap → Prop), K (VB (p x)) h → callV Try.prog f [VI x] h K) (K : Value → Heap → Prop) (HK : ∀ r : Int, decide (0 ≤ r) = xs.any p → K (VI r) h) : callM Try.prog 121 #[s.v, f] h K := by
  refine v121 s f h K ⟨fun n i h' => h' = h ∧ 0 ≤ i ∧ i + n = (xs.length : Int) ∧ xs.any p = (xs.drop i.toNat).any p, ⟨xs.length, rfl, by omega, by omega, by simp⟩, ?_⟩
  rintro n i _ ⟨rfl, i0, i1, i2⟩ hL
  refine ⟨fun e => ?_, fun e => ?_⟩
  · have hi := H.lt e
    rw [drop_cons xs i0 hi, List.any_cons] at i2
    refine ⟨H.inb i0 hi, _, H.get i0 hi, hf _ _ ⟨_, rfl, .nil, fun e => ?_, fun e => ?_⟩⟩
    · rw [e, Bool.true_or] at i2
      exact HK _ (by rw [i2]; simpa using i0)
    · rw [e, Bool.false_or] at i2
      rw [H.succ i0 hi]
      exact ⟨n - 1, by omega, rfl, by omega, by omega, i2⟩
  · have hi := H.ge e
    rw [List.drop_of_length_le (by omega)] at i2
    exact HK _ (by rw [i2]; rfl)

theorem k_ContainsFunc {S : Nat → Prop} {h : Heap} {s : Sl} {xs : List Int} (H : RdI S h s xs) (f : Value) (p : Int → Bool) (hf : ∀ (x : Int) (K : Value → Heap → Prop), K (VB (p x)) h → callV Try.prog f [VI x] h K) (K : Value → Heap → Prop) (HK : K (VB (xs.any p)) h) : callM Try.prog 103 #[s.v, f] h K := by
  refine v103 s f h K (k_IndexFunc H f p hf _ fun r hr => ⟨r, rfl, .nil, ?_⟩)
  rw [hr]; exact HK

theorem k_isGraph1 {h : Heap} {b : Nat} {n : Int} (x : Int) {L : List (Nat × List Value)} (hL : Vars h ((b, [VI n]) :: L)) (K : Value → Heap → Prop) (HK : K (VB (!inR 0 (w64 (n - 1)) x)) h) : callV Try.prog (.func (.func 104) #[] #[VP b 0]) [VI x] h K := by
  refine v104 x b n h K (.cons hL.head (by simp) .nil) ?_
  refine k_impl_in _ _ _ _ _ ⟨_, rfl, .cons hL.head (by simp) .nil, ?_⟩
  exact HK

theorem k_has1 {h : Heap} {b : Nat} {g : Sl} (x : Int) {L : List (Nat × List Value)} (hL : Vars h ((b, [g.v]) :: L)) (K : Value → Heap → Prop) (HK : K (VB (!inR 0 (w64 (g.n - 1)) x)) h) : callV Try.prog (.func (.func 111) #[] #[VP b 0]) [VI x] h K := by
  refine v111 x b g h K (.cons hL.head (by simp) .nil) ?_
  refine k_impl_in _ _ _ _ _ ⟨_, rfl, .cons hL.head (by simp) .nil, ?_⟩
  exact HK

theorem graphB_eq {xss : List (List Int)} (e3 : inR 1 8 xss.length = true) : graphB xss = xss.all fun l => !decide (5 < (l.length : Int)) && l.all (inR 0 ((xss.length : Int) - 1)) := by unfold graphB; rw [e3]; rfl
theorem graphB_no {xss : List (List Int)} (e3 : inR 1 8 xss.length = false) : graphB xss = false := by unfold graphB; rw [e3]; rfl
theorem any_not {xs : List Int} {p : Int → Bool} : xs.any (fun x => !p x) = !xs.all p := by
  induction xs with
  | nil => rfl
  | cons x xs ih => simp only [List.any_cons, List.all_cons, ih, Bool.not_and]
theorem len_w64 {S : Nat → Prop} {h : Heap} {g : Sl} {xss : List (List Int)} (H : RdR S h g xss) : w64 ((g.n : Int) - 1) = (xss.length : Int) - 1 := by
  rw [H.len]
  have h1 := maxLen_lt H.big
  have h2 := H.len
  exact w64_eq _ (by omega) (by omega)

theorem k_isGraph {S : Nat → Prop} {h : Heap} {g : Sl} {xss : List (List Int)} (H : RdR S h g xss) : Ret Try.prog 56 #[.agg #[g.v]] h (VB (graphB xss)) := by
  intro K HK
  refine v56 g h K fun b1 b2 h1 hb1 hb2 hf1 hL1 => ?_
  have f1 := hf1.in_nil
  have hlen := H.len
  refine k_impl_in _ _ _ _ _ ⟨_, rfl, hL1, fun e => ?_, fun e => ?_⟩
  · have e3 : inR 1 8 xss.length = false := by have := not_t e; rw [hlen] at this; exact this
    rw [← graphB_no e3]; exact HK _ f1
  · have e3 : inR 1 8 xss.length = true := by have := not_f e; rw [hlen] at this; exact this
    have hg := graphB_eq e3
    refine ⟨fun n i x h' => h' = h1 ∧ x = (g.n : Int) ∧ 0 ≤ i ∧ i + n = (xss.length : Int) ∧ graphB xss = (xss.drop i.toNat).all (fun l => !decide (5 < (l.length : Int)) && l.all (inR 0 ((xss.length : Int) - 1))), ⟨xss.length, rfl, rfl, by omega, by omega, by simp [hg]⟩, ?_⟩
    rintro n i x _ ⟨rfl, rfl, h0, h2, h4⟩ hL
    have H3 := H.no f1
    refine ⟨fun e => ?_, fun e => ?_⟩
    · have hi := H.lt e
      obtain ⟨si, hc, Hi⟩ := H3.get h0 hi
      rw [drop_cons xss h0 hi, List.all_cons] at h4
      refine ⟨H3.inb h0 hi, si, hc, fun e5 => ?_, fun e5 => ?_⟩
      · rw [Hi.len] at e5
        rw [e5] at h4
        have h5 : graphB xss = false := by rw [h4]; rfl
        rw [← h5]; exact HK _ f1
      · rw [Hi.len] at e5
        rw [e5] at h4
        refine k_ContainsFunc Hi _ _ (fun x K HK => k_isGraph1 x hL K HK) _ ?_
        refine ⟨_, _, rfl, hL, fun e6 => ?_, fun e6 => ?_⟩
        · rw [any_not, len_w64 H] at e6
          rw [not_t e6] at h4
          have h5 : graphB xss = false := by rw [h4]; rfl
          rw [← h5]; exact HK _ f1
        · rw [any_not, len_w64 H] at e6
          rw [not_f e6] at h4
          rw [H.succ h0 hi]
          exact ⟨n - 1, by omega, rfl, rfl, by omega, by omega, by rw [h4]; rfl⟩
    · have hi := H.ge e
      rw [List.drop_of_length_le (by omega)] at h4
      have h5 : graphB xss = true := by rw [h4]; rfl
      rw [← h5]; exact HK _ f1

theorem k_has {S S' : Nat → Prop} {h : Heap} {g s : Sl} {xss : List (List Int)} {ps : List Int} (H : RdR S h g xss) (Hp : RdI S' h s ps) : Ret Try.prog 65 #[.agg #[g.v], s.v] h (VB (graphB xss && ps.all (inR 0 ((xss.length : Int) - 1)))) := by
  intro K HK
  refine v65 g s h K fun b1 h1 hb1 f1 hL1 => ?_
  have f1 := f1.in_nil
  refine k_isGraph (H.no f1) _ fun h2 f2 => ⟨_, rfl, hL1.of_no f2, fun e => ?_, fun e => ?_⟩
  · rw [e, Bool.true_and] at HK
    have hL2 := hL1.of_no f2
    refine k_ContainsFunc ((Hp.no f1).no f2) _ _ (fun x K HK => k_has1 x hL2 K HK) _ ?_
    refine ⟨_, _, rfl, hL2, ?_⟩
    rw [any_not, len_w64 H, Bool.not_not]
    exact HK _ (f1.trans f2)
  · rw [e, Bool.false_and] at HK
    exact HK _ (f1.trans f2)

theorem k_spec_grPlace {S : Nat → Prop} {h : Heap} {g : Sl} {xss : List (List Int)} (H : RdR S h g xss) (p : Int) : Ret Try.prog 67 #[.agg #[g.v], VI p] h (VB (graphB xss && inR 0 ((xss.length : Int) - 1) p)) := by
  intro K HK
  refine v67 g p h K fun b1 h1 hb1 f1 hL1 => ?_
  have f1 := f1.in_nil
  refine k_spec_grGood (H.no f1) _ fun h2 f2 => ⟨_, rfl, hL1.of_no f2, fun e => ?_, fun e => ?_⟩
  · rw [e, Bool.true_and] at HK
    refine k_spec_l1In _ _ _ _ _ ⟨_, rfl, hL1.of_no f2, ?_⟩
    rw [len_w64 H]
    exact HK _ (f1.trans f2)
  · rw [e, Bool.false_and] at HK
    exact HK _ (f1.trans f2)

def rotB (l : List Int) (r : Int) : Bool := inR 0 (max ((l.length : Int) - 1) 0) r
def walkB (g : List (List Int)) (rs : List Int) (p : Int) : Bool := graphB g && inR 0 ((g.length : Int) - 1) p && decide (rs.length = g.length) && (g.zip rs).all fun q => rotB q.1 q.2
theorem walkB_no1 {g : List (List Int)} {rs : List Int} {p : Int} (e : (graphB g && inR 0 ((g.length : Int) - 1) p) = false) : walkB g rs p = false := by unfold walkB; rw [e]; rfl
theorem walkB_no2 {g : List (List Int)} {rs : List Int} {p : Int} (e : ¬ rs.length = g.length) : walkB g rs p = false := by unfold walkB; rw [decide_eq_false e]; simp
theorem walkB_eq {g : List (List Int)} {rs : List Int} {p : Int} (e : (graphB g && inR 0 ((g.length : Int) - 1) p) = true) (e2 : rs.length = g.length) : walkB g rs p = (g.zip rs).all fun q => rotB q.1 q.2 := by unfold walkB; rw [e, decide_eq_true e2]; rfl
theorem zip_drop (g : List (List Int)) (rs : List Int) {i : Int} (h0 : 0 ≤ i) (h1 : i < (g.length : Int)) (h2 : i < (rs.length : Int)) : (g.zip rs).drop i.toNat = (g[i.toNat]'(by omega), rs[i.toNat]'(by omega)) :: (g.zip rs).drop (i + 1).toNat := by
  have := drop_cons (g.zip rs) h0 (by simp; omega)
  simpa using this
theorem len_w64I {S : Nat → Prop} {h : Heap} {g : Sl} {xs : List Int} (H : RdI S h g xs) : w64 ((g.n : Int) - 1) = (xs.length : Int) - 1 := by
  rw [H.len]
  have h1 := maxLen_lt (RdV.big H)
  have h2 := H.len
  exact w64_eq _ (by omega) (by omega)

theorem loopI {S : Nat → Prop} {h : Heap} {s : Sl} {xs : List Int} (H : RdI S h s xs) : (xs.length : Int) ≤ maxLen := by have := H.len; have := H.big; omega

theorem k_eqIntS {S S' : Nat → Prop} {h : Heap} {a b : Sl} {xs ys : List Int} (H : RdI S h a xs) (H' : RdI S' h b ys) (K : Value → Heap → Prop) (HK : K (VB (decide (xs = ys))) h) : callM Try.prog 14 #[a.v, b.v] h K := by
  refine v14 a b h K ⟨fun e => ?_, fun e => ?_⟩
  · have e1 := not_t e
    rw [H.len, H'.len] at e1
    have : ¬ xs = ys := fun e2 => by subst e2; simp at e1
    rw [decide_eq_false this] at HK
    exact HK
  · have e1 := not_f e
    rw [H.len, H'.len] at e1
    have hl : xs.length = ys.length := by simp at e1; omega
    refine ⟨fun n i h' => h' = h ∧ 0 ≤ i ∧ i + n = (xs.length : Int) ∧ decide (xs = ys) = decide (xs.drop i.toNat = ys.drop i.toNat), ⟨xs.length, rfl, by omega, by omega, by simp⟩, ?_⟩
    rintro n i _ ⟨rfl, h0, h1, h2⟩ hL
    refine ⟨fun e => ?_, fun e => ?_⟩
    · have hi := H.lt e
      have hi' : i < (ys.length : Int) := by omega
      refine ⟨H.inb h0 hi, _, H.get h0 hi, H'.inb h0 hi', _, H'.get h0 hi', fun e => ?_, fun e => ?_⟩
      · rw [drop_cons xs h0 hi, drop_cons ys h0 hi'] at h2
        have e3 := not_t e
        simp only [decide_eq_false_iff_not] at e3
        rw [h2, decide_eq_false (fun e4 => e3 (List.cons.inj e4).1)] at HK
        exact HK
      · rw [drop_cons xs h0 hi, drop_cons ys h0 hi'] at h2
        have e3 := not_f e
        simp only [decide_eq_true_eq] at e3
        rw [H.succ h0 hi]
        refine ⟨n - 1, by omega, rfl, by omega, by omega, h2.trans ?_⟩
        rw [e3]
        simp
    · have hi := H.ge e
      rw [List.drop_of_length_le (by omega), List.drop_of_length_le (by omega)] at h2
      rw [h2] at HK
      exact HK

theorem k_eqIntSS {S S' : Nat → Prop} {h : Heap} {a b : Sl} {xs ys : List (List Int)} (H : RdR S h a xs) (H' : RdR S' h b ys) (K : Value → Heap → Prop) (HK : K (VB (decide (xs = ys))) h) : callM Try.prog 59 #[a.v, b.v] h K := by
  refine v59 a b h K ⟨fun e => ?_, fun e => ?_⟩
  · have e1 := not_t e
    rw [H.len, H'.len] at e1
    have : ¬ xs = ys := fun e2 => by subst e2; simp at e1
    rw [decide_eq_false this] at HK
    exact HK
  · have e1 := not_f e
    rw [H.len, H'.len] at e1
    have hl : xs.length = ys.length := by simp at e1; omega
    refine ⟨fun n i h' => h' = h ∧ 0 ≤ i ∧ i + n = (xs.length : Int) ∧ decide (xs = ys) = decide (xs.drop i.toNat = ys.drop i.toNat), ⟨xs.length, rfl, by omega, by omega, by simp⟩, ?_⟩
    rintro n i _ ⟨rfl, h0, h1, h2⟩ hL
    refine ⟨fun e => ?_, fun e => ?_⟩
    · have hi := H.lt e
      have hi' : i < (ys.length : Int) := by omega
      obtain ⟨x, cx, rx⟩ := H.get h0 hi
      obtain ⟨y, cy, ry⟩ := H'.get h0 hi'
      refine ⟨H.inb h0 hi, x, cx, H'.inb h0 hi', y, cy, k_eqIntS rx ry _ ⟨_, rfl, hL, fun e => ?_, fun e => ?_⟩⟩
      · rw [drop_cons xs h0 hi, drop_cons ys h0 hi'] at h2
        have e3 := not_t e
        simp only [decide_eq_false_iff_not] at e3
        rw [h2, decide_eq_false (fun e4 => e3 (List.cons.inj e4).1)] at HK
        exact HK
      · rw [drop_cons xs h0 hi, drop_cons ys h0 hi'] at h2
        have e3 := not_f e
        simp only [decide_eq_true_eq] at e3
        rw [H.succ h0 hi]
        refine ⟨n - 1, by omega, rfl, by omega, by omega, h2.trans ?_⟩
        rw [e3]
        simp
    · have hi := H.ge e
      rw [List.drop_of_length_le (by omega), List.drop_of_length_le (by omega)] at h2
      rw [h2] at HK
      exact HK

theorem k_eqGraph {S S' : Nat → Prop} {h : Heap} {a b : Sl} {xs ys : List (List Int)} (H : RdR S h a xs) (H' : RdR S' h b ys) : Ret Try.prog 15 #[.agg #[a.v], .agg #[b.v]] h (VB (decide (xs = ys))) := by
  intro K HK
  refine v15 a b h K fun b1 b2 h1 hb1 hb2 f1 hL1 => ?_
  refine k_eqIntSS (H.no f1.in_nil) (H'.no f1.in_nil) _ ⟨_, rfl, hL1, fun e => ?_, fun e => ?_⟩
  · rw [← not_t e]; exact HK _ f1.in_nil
  · rw [← not_f e]; exact HK _ f1.in_nil

theorem k_eqWalk {S S' : Nat → Prop} {h : Heap} {a b : Sl} {xs ys : List Int} (H : RdI S h a xs) (H' : RdI S' h b ys) (p q : Int) : Ret Try.prog 94 #[.agg #[a.v, VI p], .agg #[b.v, VI q]] h (VB (decide (xs = ys ∧ p = q))) := by
  intro K HK
  refine v94 a p b q h K fun b1 b2 h1 hb1 hb2 f1 hL1 => ?_
  refine k_eqIntS (H.no f1.in_nil) (H'.no f1.in_nil) _ ⟨_, rfl, hL1, fun e => ?_, fun e => ?_⟩
  · have e3 := not_t e
    simp only [decide_eq_false_iff_not] at e3
    rw [decide_eq_false fun e4 => e3 e4.1] at HK
    exact HK _ f1.in_nil
  · have e3 := not_f e
    simp only [decide_eq_true_eq] at e3
    refine ⟨fun e => ?_, fun e => ?_⟩
    · have e5 := not_t e
      simp only [decide_eq_false_iff_not] at e5
      rw [decide_eq_false fun e4 => e5 e4.2] at HK
      exact HK _ f1.in_nil
    · have e5 := not_f e
      simp only [decide_eq_true_eq] at e5
      rw [decide_eq_true ⟨e3, e5⟩] at HK
      exact HK _ f1.in_nil

def numI (k : Int) : List Int → List Int
  | [] => []
  | _ :: xs => k :: numI (k + 1) xs
theorem numI_length : ∀ (k : Int) (xs : List Int), (numI k xs).length = xs.length
  | _, [] => rfl
  | k, _ :: xs => by simp [numI, numI_length (k + 1) xs]
theorem numI_get : ∀ (xs : List Int) (k : Int) (i : Nat) (h : i < (numI k xs).length), (numI k xs)[i] = k + i
  | [], k, i, h => by simp [numI] at h
  | x :: xs, k, 0, h => by simp [numI]
  | x :: xs, k, i + 1, h => by
    simp only [numI, List.getElem_cons_succ]
    rw [numI_get xs (k + 1) i]
    omega
def totR (xss : List (List Int)) : Nat := (xss.map List.length).sum
def numR (k : Int) : List (List Int) → List (List Int)
  | [] => []
  | xs :: xss => numI k xs :: numR (k + xs.length) xss
theorem numR_length : ∀ (k : Int) (xss : List (List Int)), (numR k xss).length = xss.length
  | _, [] => rfl
  | k, xs :: xss => by simp [numR, numR_length (k + xs.length) xss]
theorem numR_get : ∀ (xss : List (List Int)) (k : Int) (i : Nat) (h : i < (numR k xss).length) (h' : i < xss.length), (numR k xss)[i] = numI (k + totR (xss.take i)) xss[i]
  | [], k, i, h, _ => by simp [numR] at h
  | x :: xs, k, 0, h, _ => by simp [numR, totR]
  | x :: xs, k, i + 1, h, h' => by
    simp only [numR, List.getElem_cons_succ]
    rw [numR_get xs _ i (by simpa [numR] using h) (by simpa using h')]
    congr 1
    simp [totR]
    omega
theorem totR_take_le : ∀ (xss : List (List Int)) (i : Nat), totR (xss.take i) ≤ totR xss
  | [], i => by simp [totR]
  | x :: xs, 0 => by simp [totR]
  | x :: xs, i + 1 => by
    have := totR_take_le xs i
    simp only [totR, List.take_succ_cons, List.map_cons, List.sum_cons] at *
    omega
theorem totR_snoc (xss : List (List Int)) (i : Nat) (h : i < xss.length) : totR (xss.take (i + 1)) = totR (xss.take i) + xss[i].length := by
  rw [List.take_succ_eq_append_getElem h]
  simp only [totR, List.map_append, List.sum_append, List.map_cons, List.map_nil, List.sum_cons, List.sum_nil]
  omega

theorem k_markIntS {F : Nat → Prop} {h : Heap} {s : Sl} {xs : List Int} (H : OwI h F s xs) (k : Int) (h0 : 0 ≤ k) (hk : k ≤ 1000000000000000) (hn : xs.length ≤ 1000000000000) (K : Value → Heap → Prop) (HK : ∀ h', OwI h' F s (numI k xs) → Fr s.own h h' → K (VI (k + xs.length)) h') : callM Try.prog 19 #[s.v, VI k] h K := by
  have hl : s.n = xs.length := by have := H.len; simp at this; omega
  refine v19 s k h K ⟨fun n k' i h' => 0 ≤ i ∧ i + n = (xs.length : Int) ∧ k' = k + i ∧ OwI h' F s ((numI k xs).take i.toNat ++ xs.drop i.toNat) ∧ Fr s.own h h', ⟨xs.length, by omega, by omega, by omega, by simpa using H, Fr.refl _ _⟩, ?_⟩
  rintro n k' i h' ⟨i0, i1, rfl, H', f⟩ hL
  refine ⟨fun e => ?_, fun e => ?_⟩
  · have hi : i < (s.n : Int) := by simpa using e
    have ws : w64 (i + 1) = i + 1 := w64_eq _ (by omega) (by omega)
    have wk : w64 (k + i + 1) = k + i + 1 := w64_eq _ (by omega) (by omega)
    obtain ⟨w1, w2, w3⟩ := H'.store1 i0 hi (VI (k + i))
    refine ⟨H'.inb i0 hi, w1, .nil, fun h2 e2 _ => ?_⟩
    rw [ws, wk]
    refine ⟨n - 1, by omega, by omega, by omega, by omega, ?_, ?_⟩
    · subst e2
      have e3 : VI (k + i) = VI ((numI k xs)[i.toNat]'(by rw [numI_length]; omega)) := by rw [numI_get]; congr 1; omega
      rw [e3] at w2 ⊢
      rw [← List.map_set, set_mid _ _ _ _ (by omega)] at w2
      rw [toNat_succ i0]
      exact w2
    · subst e2; exact f.trans w3
  · have hi : ¬ i < (s.n : Int) := by simpa using e
    have e4 : i = xs.length := by omega
    subst e4
    have := HK h' (by simpa [List.take_of_length_le, numI_length] using H') f
    exact this

theorem k_markIntSS {F : Nat → Prop} {h : Heap} {s : Sl} {xss : List (List Int)} (H : OwX h F s xss) (k : Int) (h0 : 0 ≤ k) (hk : k ≤ 100000000000) (hn : totR xss ≤ 100000000000) (K : Value → Heap → Prop) (HK : ∀ h', OwX h' F s (numR k xss) → Fr F h h' → K (VI (k + totR xss)) h') : callM Try.prog 60 #[s.v, VI k] h K := by
  have hl : s.n = xss.length := H.len
  have hbig := H.rd.big
  refine v60 s k h K ⟨fun n k' i h' => 0 ≤ i ∧ i + n = (xss.length : Int) ∧ k' = k + totR (xss.take i.toNat) ∧ OwX h' F s ((numR k xss).take i.toNat ++ xss.drop i.toNat) ∧ Fr F h h', ⟨xss.length, by omega, by omega, by simp [totR], by simpa using H, Fr.refl _ _⟩, ?_⟩
  rintro n k' i h' ⟨i0, i1, rfl, H', f⟩ hL
  refine ⟨fun e => ?_, fun e => ?_⟩
  · have hi : i < (s.n : Int) := by simpa using e
    have hlen : ((numR k xss).take i.toNat ++ xss.drop i.toNat).length = xss.length := by simp [numR_length]; omega
    have hlen2 : ((numR k xss).take i.toNat).length = i.toNat := by simp [numR_length]; omega
    obtain ⟨si, c1, c2, c3⟩ := H'.inner i0 (by omega)
    have e1 : ((numR k xss).take i.toNat ++ xss.drop i.toNat)[i.toNat]'(by omega) = xss[i.toNat]'(by omega) := by
      rw [List.getElem_append_right (by omega)]
      simp [hlen2]
    rw [e1] at c2
    have hle := totR_take_le xss i.toNat
    have hle2 := totR_take_le xss (i.toNat + 1)
    have hsn := totR_snoc xss i.toNat (by omega)
    refine ⟨H'.rd.inb i0 (by omega), si, c1, k_markIntS c2 _ (by omega) (by omega) (by omega) _ fun h2 o2 f2 => ⟨_, rfl, .nil, n - 1, by omega, ?_, ?_, ?_, ?_, ?_⟩⟩
    · rw [w64_succ i0 hi hbig]; omega
    · rw [w64_succ i0 hi hbig]; omega
    · rw [w64_succ i0 hi hbig, toNat_succ i0, hsn]; omega
    · rw [w64_succ i0 hi hbig]
      have := c3 h2 _ f2 o2
      rw [← numR_get xss k i.toNat (by rw [numR_length]; omega) (by omega), set_mid _ _ _ _ (by omega)] at this
      rw [toNat_succ i0]
      exact this
    · exact f.trans (f2.mono fun k _ hk => (c2.foot hk).1)
  · have hi : ¬ i < (s.n : Int) := by simpa using e
    have e4 : i = xss.length := by omega
    subst e4
    have := HK h' (by simpa [List.take_of_length_le, numR_length] using H') f
    simpa using this

theorem k_heldIntS {S : Nat → Prop} {h : Heap} {s : Sl} {xs : List Int} (k : Int) (H : RdI S h s (numI k xs)) (h0 : 0 ≤ k) (hk : k ≤ 1000000000000000) (hn : xs.length ≤ 1000000000000) (K : Value → Heap → Prop) (HK : K (VI (k + xs.length)) h) : callM Try.prog 20 #[s.v, VI k] h K := by
  have hl : s.n = xs.length := by have := H.len; rw [numI_length] at this; exact this
  refine v20 s k h K ⟨fun n k' i h' => h' = h ∧ 0 ≤ i ∧ i + n = (xs.length : Int) ∧ k' = k + i, ⟨xs.length, rfl, by omega, by omega, by omega⟩, ?_⟩
  rintro n k' i _ ⟨rfl, i0, i1, rfl⟩ hL
  refine ⟨fun e => ?_, fun e => ?_⟩
  · have hi := H.lt e
    refine ⟨H.inb i0 hi, _, H.get i0 hi, fun e => ?_, fun e => ?_⟩
    · have e5 := not_t e
      simp only [decide_eq_false_iff_not] at e5
      rw [numI_get] at e5
      omega
    · rw [H.succ i0 hi, w64_eq _ (by omega) (by rw [numI_length] at hi; omega)]
      rw [numI_length] at hi
      exact ⟨n - 1, by omega, rfl, by omega, by omega, by omega⟩
  · have hi := H.ge e
    rw [numI_length] at hi
    have e4 : i = xs.length := by omega
    rw [e4]
    exact HK

theorem k_markGraph {F : Nat → Prop} {h : Heap} {s : Sl} {xss : List (List Int)} (H : OwX h F s xss) (k : Int) (h0 : 0 ≤ k) (hk : k ≤ 100000000000) (hn : totR xss ≤ 100000000000) (K : Value → Heap → Prop) (HK : ∀ h', OwX h' F s (numR k xss) → Fr F h h' → K (VI (k + totR xss)) h') : callM Try.prog 17 #[.agg #[s.v], VI k] h K := by
  refine v17 s k h K fun b1 h1 hb1 f1 hL1 => ?_
  have H1 : OwX h1 (fun k => F k ∧ k < h.size) s xss := (H.mono fun k hk hF => ⟨hF, hk⟩ : OwX h _ s xss).no f1.in_nil
  refine k_markIntSS H1 k h0 hk hn _ fun h2 o2 f2 => ?_
  refine ⟨_, rfl, hL1.fr f2 (fun p hp hk => ?_), ?_⟩
  · obtain rfl : p = (b1, [s.v]) := by simpa using hp
    have := hk.2
    simp only at this
    omega
  · exact HK _ (o2.mono fun k _ hk => hk.1) (f1.in_nil.of_no.trans (f2.mono fun k _ hk => hk.1))

def firstXs : List (List Int) := [[1, 2], [0, 2], [0]]
def DeskIs (h h' : Heap) (v : Value) : Prop := ∃ (g w : Sl) (m : Nat), v = .agg #[g.v, w.v, VI 0] ∧ OwX h' (fun k => h.size ≤ k ∧ k < m) g firstXs ∧ OwI h' (fun k => h.size ≤ k ∧ m ≤ k) w [0, 0, 0] ∧ Fr No h h'
theorem own_lt {h : Heap} {F : Nat → Prop} {e : TypeId} {sz : Nat} {s : Sl} {vs : List Value} (H : Ow h F e sz s vs) {n : Nat} (hn : h.size ≤ n) : ∀ k, s.own k → k < n := fun k hk => Nat.lt_of_lt_of_le (H.foot hk).2 hn
theorem lit_first {h1 : Heap} {K : Value → Heap → Prop} (HK : ∀ (g : Sl) (h' : Heap), OwX h' (fun k => h1.size ≤ k) g firstXs → Fr No h1 h' → K g.v h') :
    eop Try.prog (Instr.buildSlice tIs 2 #[(0, VI 1), (1, VI 2)]) h1 fun rv_1 h_2 => ∃ t1_1 : Sl, rv_1 = t1_1.v ∧ Fr No h1 h_2 ∧
    eop Try.prog (Instr.buildSlice tIs 2 #[(0, VI 0), (1, VI 2)]) h_2 fun rv_2 h_3 => ∃ t2_1 : Sl, rv_2 = t2_1.v ∧ Fr No h_2 h_3 ∧
    eop Try.prog (Instr.buildSlice tIs 1 #[(0, VI 0)]) h_3 fun rv_3 h_4 => ∃ t3_1 : Sl, rv_3 = t3_1.v ∧ Fr No h_3 h_4 ∧
    eop Try.prog (Instr.buildSlice tIss 3 #[(0, t1_1.v), (1, t2_1.v), (2, t3_1.v)]) h_4 K := by
  refine eop_lit rIs (fun k => h1.size ≤ k) (fun _ h => h) 2 (by omega) [VI 1, VI 2] rfl rfl fun t1 h2 n1 c1 o1 f1 l1 _ => ⟨t1, rfl, f1, ?_⟩
  refine eop_lit rIs (fun k => h1.size ≤ k) (fun _ h => Nat.le_trans f1.size h) 2 (by omega) [VI 0, VI 2] rfl rfl fun t2 h3 n2 c2 o2 f2 l2 _ => ⟨t2, rfl, f2, ?_⟩
  have f13 := f1.no_trans f2
  refine eop_lit rIs (fun k => h1.size ≤ k) (fun _ h => Nat.le_trans f13.size h) 1 (by omega) [VI 0] rfl rfl fun t3 h4 n3 c3 o3 f3 l3 _ => ⟨t3, rfl, f3, ?_⟩
  have f14 := f13.no_trans f3
  refine eop_lit rIss (fun k => h1.size ≤ k) (fun _ h => Nat.le_trans f14.size h) 3 (by omega) [t1.v, t2.v, t3.v] rfl rfl fun t4 h5 n4 c4 o4 f4 l4 _ => ?_
  have g1 := own_lt o1 (Nat.le_refl _)
  have g2 := own_lt o2 (Nat.le_refl _)
  have g3 := own_lt o3 (Nat.le_refl _)
  have s3 := f2.size
  have s4 := f3.size
  refine HK t4 h5 (OwR.of [t1, t2, t3] rfl o4 ?_ ?_ ?_) (f14.trans f4)
  · intro p hp
    simp only [firstXs, List.zip_cons_cons, List.zip_nil_right, List.mem_cons, List.not_mem_nil, or_false] at hp
    rcases hp with rfl | rfl | rfl
    · exact ((o1.no f2).no f3).no f4
    · exact (o2.no f3).no f4
    · exact o3.no f4
  · simp only [List.pairwise_cons, List.mem_cons, List.not_mem_nil, or_false, forall_eq_or_imp, forall_eq, List.Pairwise.nil, and_true]
    refine ⟨⟨fun k a b => ?_, fun k a b => ?_⟩, fun k a b => ?_, by simp⟩
    · have := g1 k a; have := l2 k b; omega
    · have := g1 k a; have := l3 k b; omega
    · have := g2 k a; have := l3 k b; omega
  · intro a ha k hk hk2
    have := l4 k hk
    simp only [List.mem_cons, List.not_mem_nil, or_false] at ha
    rcases ha with rfl | rfl | rfl
    · have := g1 k hk2; omega
    · have := g2 k hk2; omega
    · have := g3 k hk2; omega

theorem k_szIntS {S : Nat → Prop} {h : Heap} {s : Sl} {xs : List Int} (H : RdI S h s xs) (left : Int) (h0 : 0 ≤ left) (h1 : left ≤ 1048576) (K : Value → Heap → Prop) (HK : ∀ r : Int, r = -1 ∨ (0 ≤ r ∧ r = left - xs.length) → K (VI r) h) : callM Try.prog 95 #[s.v, VI left] h K := by
  have hb := maxLen_lt (RdV.big H)
  have e := H.len
  have hw : w64 (left - s.n) = left - s.n := w64_eq _ (by omega) (by omega)
  refine v95 s left h K ⟨fun _ => HK _ (.inl rfl), fun e2 => HK _ (.inr ?_)⟩
  rw [hw] at e2 ⊢
  simp only [decide_eq_false_iff_not] at e2
  omega

theorem k_szIntSS {S : Nat → Prop} {h : Heap} {s : Sl} {xss : List (List Int)} (H : RdR S h s xss) (left : Int) (h0 : 0 ≤ left) (h1 : left ≤ 1048576) (K : Value → Heap → Prop) (HK : ∀ r : Int, r = -1 ∨ (0 ≤ r ∧ r = left - xss.length - totR xss) → K (VI r) h) : callM Try.prog 50 #[s.v, VI left] h K := by
  have hb := maxLen_lt H.big
  have e := H.len
  have hw : w64 (left - s.n) = left - s.n := w64_eq _ (by omega) (by omega)
  refine v50 s left h K ⟨fun _ => HK _ (.inl rfl), fun e2 => ?_⟩
  rw [hw] at e2 ⊢
  simp only [decide_eq_false_iff_not] at e2
  refine ⟨fun n l i h' => h' = h ∧ 0 ≤ i ∧ i + n = (xss.length : Int) ∧ l = left - xss.length - totR (xss.take i.toNat) ∧ 0 ≤ l, ⟨xss.length, rfl, by omega, by omega, by simp [totR]; omega, by omega⟩, ?_⟩
  rintro n l i _ ⟨rfl, i0, i1, rfl, l0⟩ hL
  refine ⟨fun e => ?_, fun e => ?_⟩
  · have hi := H.lt e
    obtain ⟨si, c1, c2⟩ := H.get i0 hi
    have hsn := totR_snoc xss i.toNat (by omega)
    refine ⟨H.inb i0 hi, si, c1, k_szIntS c2 _ l0 (by omega) _ fun r hr => ⟨r, rfl, .nil, fun _ => HK _ (.inl rfl), fun e3 => ?_⟩⟩
    simp only [decide_eq_false_iff_not] at e3
    rw [H.succ i0 hi]
    exact ⟨n - 1, by omega, rfl, by omega, by omega, by rw [toNat_succ i0, hsn]; omega, by omega⟩
  · have hi := H.ge e
    have e4 : i = xss.length := by omega
    refine HK _ (.inr ⟨l0, ?_⟩)
    rw [e4]
    simp

theorem k_szGraph {S : Nat → Prop} {h : Heap} {s : Sl} {xss : List (List Int)} (H : RdR S h s xss) (left : Int) (h0 : 0 ≤ left) (h1 : left ≤ 1048576) (K : Value → Heap → Prop) (HK : ∀ (h' : Heap) (r : Int), Fr No h h' → r = -1 ∨ (0 ≤ r ∧ r = left - xss.length - totR xss) → K (VI r) h') : callM Try.prog 7 #[.agg #[s.v], VI left] h K := by
  refine v7 s left h K fun b1 h1' hb1 f1 hL1 => ?_
  refine k_szIntSS (H.no f1.in_nil) left h0 h1 _ fun r hr => ⟨r, rfl, hL1, fun e => HK _ _ f1.in_nil (.inl rfl), fun e => HK _ _ f1.in_nil hr⟩

theorem k_toIntS {S : Nat → Prop} {h : Heap} {s : Sl} {xs : List Int} (H : RdI S h s xs) (hn : xs.length ≤ 1000000000000) (K : Value → Heap → Prop) (HK : ∀ t h', OwI h' (fun k => h.size ≤ k) t xs → Fr No h h' → K t.v h') : callM Try.prog 12 #[s.v] h K := by
  have hl := H.len
  refine v12 s h K ?_
  refine eop_make rIs (fun k => h.size ≤ k) (fun _ h => h) .i64 .i64 s.n s.n (Nat.le_refl _) (by omega) fun t h1 n1 c1 o1 f1 l1 _ => ⟨t, rfl, .nil, ?_⟩
  have o1 : OwI h1 (fun k => h.size ≤ k) t (List.replicate xs.length 0) := by
    have e : (List.replicate s.n [VI 0]).flatten = (List.replicate xs.length (0 : Int)).map VI := by rw [H.len]; simp [List.flatten_replicate_singleton]
    rw [e] at o1; exact o1
  refine ⟨fun n i h' => 0 ≤ i ∧ i + n = (xs.length : Int) ∧ OwI h' (fun k => h.size ≤ k) t (xs.take i.toNat ++ (List.replicate xs.length (0 : Int)).drop i.toNat) ∧ Fr t.own h1 h', ⟨xs.length, by omega, by omega, by simpa using o1, Fr.refl _ _⟩, ?_⟩
  rintro n i h2 ⟨i0, i1, o2, f2⟩ hL
  have H2 := H.on f1 f2 l1
  refine ⟨fun e => ?_, fun e => ?_⟩
  · have hi := H.lt e
    obtain ⟨w1, w2, w3⟩ := o2.store1 i0 (by omega) (VI (xs[i.toNat]'(by omega)))
    refine ⟨H2.inb i0 hi, _, H2.get i0 hi, o2.inb i0 (by omega), w1, .nil, fun h3 e3 _ => ?_⟩
    subst e3
    rw [← List.map_set, set_mid _ _ _ _ (by simp; omega)] at w2
    rw [H.succ i0 hi]
    exact ⟨n - 1, by omega, by omega, by omega, by rw [toNat_succ i0]; exact w2, f2.trans w3⟩
  · have hi := H.ge e
    have e4 : i = xs.length := by omega
    subst e4
    exact HK t h2 (by simpa using o2) (f1.fresh f2 l1)

theorem k_toIntSS {S : Nat → Prop} {h : Heap} {s : Sl} {xss : List (List Int)} (H : RdR S h s xss) (hn : xss.length ≤ 1000000000000) (hm : totR xss ≤ 1000000000000) (K : Value → Heap → Prop) (HK : ∀ t h', OwX h' (fun k => h.size ≤ k) t xss → Fr No h h' → K t.v h') : callM Try.prog 55 #[s.v] h K := by
  have hl := H.len
  refine v55 s h K ?_
  refine eop_make rIss (fun k => h.size ≤ k) (fun _ h => h) .i64 .i64 s.n s.n (Nat.le_refl _) (by omega) fun t h1 n1 c1 o1 f1 l1 _ => ⟨t, rfl, .nil, ?_⟩
  have o1 : OwX h1 (fun k => h.size ≤ k) t (List.replicate xss.length []) := OwR.zeros _ (by rw [hl] at o1; exact o1)
  refine ⟨fun n i h' => 0 ≤ i ∧ i + n = (xss.length : Int) ∧ OwX h' (fun k => h.size ≤ k) t (xss.take i.toNat ++ (List.replicate xss.length []).drop i.toNat) ∧ Fr No h h', ⟨xss.length, by omega, by omega, by simpa using o1, f1⟩, ?_⟩
  rintro n i h2 ⟨i0, i1, o2, f2⟩ hL
  have H2 := H.no f2
  refine ⟨fun e => ?_, fun e => ?_⟩
  · have hi := H.lt e
    obtain ⟨si, c1, c2⟩ := H2.get i0 hi
    have hlen : (xss.take i.toNat ++ (List.replicate xss.length ([] : List Int)).drop i.toNat).length = xss.length := by simp; omega
    have hsz : (xss[i.toNat]'(by omega)).length ≤ totR xss := by
      have h1 := totR_snoc xss i.toNat (by omega)
      have h2 := totR_take_le xss (i.toNat + 1)
      omega
    refine ⟨H2.inb i0 hi, si, c1, k_toIntS c2 (by omega) _ fun x h3 o3 f3 => ⟨x, rfl, .nil, ?_⟩⟩
    have o2' := (o2.mono (F' := fun k => h.size ≤ k ∧ k < h2.size) fun k hk hF => ⟨hF, hk⟩).no f3
    obtain ⟨sj, d1, d2, _⟩ := o2'.inner i0 (by omega)
    have s2 := f2.size
    obtain ⟨w1, w2, w3⟩ := o2'.outer i0 (by omega) d1 (F' := fun k => h.size ≤ k) (o3.mono fun k _ hk => by omega) (fun k _ hk => hk.1) (fun k hk => .inr fun hk2 => by have := (o3.foot hk).1; omega)
    refine ⟨o2'.rd.inb i0 (by omega), w1, .nil, fun h4 e4 _ => ?_⟩
    subst e4
    rw [set_mid _ _ _ _ (by simp; omega)] at w2
    rw [H.succ i0 hi]
    exact ⟨n - 1, by omega, by omega, by omega, by rw [toNat_succ i0]; exact w2, (f2.no_trans f3).fresh w3 fun k hk => by
      obtain ⟨ss, _, h5, _⟩ := o2'.out
      exact (h5.foot hk).1.1⟩
  · have hi := H.ge e
    have e4 : i = xss.length := by omega
    subst e4
    exact HK t h2 (by simpa using o2) f2

theorem k_toGraph {S : Nat → Prop} {h : Heap} {s : Sl} {xss : List (List Int)} (H : RdR S h s xss) (hn : xss.length ≤ 1000000000000) (hm : totR xss ≤ 1000000000000) (K : Value → Heap → Prop) (HK : ∀ t h', OwX h' (fun k => h.size ≤ k) t xss → Fr No h h' → K (.agg #[t.v]) h') : callM Try.prog 10 #[.agg #[s.v]] h K := by
  refine v10 s h K fun b1 b2 b3 h1 hb1 hb2 hb3 f1 hL1 => ?_
  have f1 := f1.in_nil
  refine k_toIntSS (H.no f1) hn hm _ fun t h2 o2 f2 => ⟨t, rfl, hL1.of_no f2, fun h3 f3 hL3 => ?_⟩
  have l3 : b3 < h1.size := hL1.head.lt
  have l2 : b2 < h1.size := hL1.tail.head.lt
  have s1 := f1.size
  refine HK t h3 ((o2.fr f3 fun k _ hk => In.off (n := h1.size) (by simp; omega) hk).mono fun k _ hk => by omega) ((f1.no_trans f2).fresh f3 (in_ge (by simp; omega)))

theorem frOwn {h h' : Heap} {F : Nat → Prop} {e : TypeId} {sz : Nat} {s : Sl} {vs : List Value} {b : Heap} (H : Ow h F e sz s vs) (f : Fr s.own h h') : Fr F h h' := f.mono fun _ _ hk => (H.foot hk).1

theorem g_szIntS {S : Nat → Prop} {h : Heap} {s : Sl} {xs : List Int} (H : RdI S h s xs) (left : Int) (h0 : 0 ≤ left) (h1 : left ≤ 1048576) (K : Value → Heap → Prop) (HK : ∀ (h' : Heap) (r : Int), Fr No h h' → r = -1 ∨ (0 ≤ r ∧ r = left - xs.length) → K (VI r) h') : callM Try.prog 95 #[s.v, VI left] h K := k_szIntS H left h0 h1 K fun r hr => HK h r (Fr.refl _ _) hr

theorem g_szGraph {S : Nat → Prop} {h : Heap} {s : Sl} {xss : List (List Int)} (H : RdR S h s xss) (left : Int) (h0 : 0 ≤ left) (h1 : left ≤ 1048576) (K : Value → Heap → Prop) (HK : ∀ (h' : Heap) (r : Int), Fr No h h' → r = -1 ∨ (0 ≤ r ∧ r = left - xss.length - totR xss) → K (VI r) h') : callM Try.prog 7 #[.agg #[s.v], VI left] h K := k_szGraph H left h0 h1 K HK

theorem g_toIntS {S : Nat → Prop} {h : Heap} {s : Sl} {xs : List Int} (H : RdI S h s xs) (hn : xs.length ≤ 1048576) (K : Value → Heap → Prop) (HK : ∀ t h', OwI h' (Iv h.size h'.size) t xs → Fr No h h' → K t.v h') : callM Try.prog 12 #[s.v] h K := k_toIntS H (by omega) K fun t h' o f => HK t h' o.toIv f

theorem g_toGraph {S : Nat → Prop} {h : Heap} {s : Sl} {xss : List (List Int)} (H : RdR S h s xss) (hn : xss.length + totR xss ≤ 1048576) (K : Value → Heap → Prop) (HK : ∀ t h', OwX h' (Iv h.size h'.size) t xss → Fr No h h' → K (.agg #[t.v]) h') : callM Try.prog 10 #[.agg #[s.v]] h K := k_toGraph H (by omega) (by omega) K fun t h' o f => HK t h' o.toIv f

theorem g_eqIntS {S S' : Nat → Prop} {h : Heap} {a b : Sl} {xs : List Int} (H : RdI S h a xs) (H' : RdI S' h b xs) : Ret Try.prog 14 #[a.v, b.v] h (VB true) := fun K HK => k_eqIntS H H' K (by rw [decide_eq_true rfl]; exact HK h (Fr.refl _ _))

theorem g_eqIntSS {S S' : Nat → Prop} {h : Heap} {a b : Sl} {xs : List (List Int)} (H : RdR S h a xs) (H' : RdR S' h b xs) : Ret Try.prog 59 #[a.v, b.v] h (VB true) := fun K HK => k_eqIntSS H H' K (by rw [decide_eq_true rfl]; exact HK h (Fr.refl _ _))

theorem g_eqGraph {S S' : Nat → Prop} {h : Heap} {a b : Sl} {xs : List (List Int)} (H : RdR S h a xs) (H' : RdR S' h b xs) : Ret Try.prog 15 #[.agg #[a.v], .agg #[b.v]] h (VB true) := by have := k_eqGraph H H'; rwa [decide_eq_true rfl] at this

theorem g_eqWalk {S S' : Nat → Prop} {h : Heap} {a b : Sl} {xs : List Int} {p : Int} (H : RdI S h a xs) (H' : RdI S' h b xs) : Ret Try.prog 94 #[.agg #[a.v, VI p], .agg #[b.v, VI p]] h (VB true) := by have := k_eqWalk H H' p p; rwa [decide_eq_true ⟨rfl, rfl⟩] at this

theorem g_markIntS {a b : Nat} {h : Heap} {s : Sl} {xs : List Int} (H : OwI h (Iv a b) s xs) (hn : xs.length ≤ 1048576) (k : Int) (h0 : 1 ≤ k) (hk : k ≤ 10000000000) (K : Value → Heap → Prop) (HK : ∀ h', OwI h' (Iv a b) s (numI k xs) → Fr (Iv a b) h h' → K (VI (k + xs.length)) h') : callM Try.prog 19 #[s.v, VI k] h K := k_markIntS H k (by omega) (by omega) (by omega) K fun h' o f => HK h' o (f.mono fun _ _ hk => (H.foot hk).1)

theorem g_markIntSS {a b : Nat} {h : Heap} {s : Sl} {xss : List (List Int)} (H : OwX h (Iv a b) s xss) (hn : totR xss ≤ 1048576) (k : Int) (h0 : 1 ≤ k) (hk : k ≤ 10000000000) (K : Value → Heap → Prop) (HK : ∀ h', OwX h' (Iv a b) s (numR k xss) → Fr (Iv a b) h h' → K (VI (k + totR xss)) h') : callM Try.prog 60 #[s.v, VI k] h K := k_markIntSS H k (by omega) (by omega) (by omega) K HK

theorem g_markGraph {a b : Nat} {h : Heap} {s : Sl} {xss : List (List Int)} (H : OwX h (Iv a b) s xss) (hn : totR xss ≤ 1048576) (k : Int) (h0 : 1 ≤ k) (hk : k ≤ 10000000000) (K : Value → Heap → Prop) (HK : ∀ h', OwX h' (Iv a b) s (numR k xss) → Fr (Iv a b) h h' → K (VI (k + totR xss)) h') : callM Try.prog 17 #[.agg #[s.v], VI k] h K := k_markGraph H k (by omega) (by omega) (by omega) K HK

theorem g_heldIntS {S : Nat → Prop} {h : Heap} {s : Sl} {k : Int} {xs : List Int} (H : RdI S h s (numI k xs)) (hn : xs.length ≤ 1048576) (h0 : 1 ≤ k) (hk : k ≤ 10000000000) : Ret Try.prog 20 #[s.v, VI k] h (VI (k + xs.length)) := fun K HK => k_heldIntS k H (by omega) (by omega) (by omega) K (HK h (Fr.refl _ _))

theorem nil_of_none {S : Nat → Prop} {h : Heap} {s : Sl} {xs : List Int} (H : RdI S h s xs) (hn : s.a = none) : xs = [] := by
  cases xs with
  | nil => rfl
  | cons x xs =>
    obtain ⟨a, ha, _⟩ := RdV.cell H 0 (by simp)
    rw [hn] at ha
    cases ha

theorem k_Clone {S : Nat → Prop} {h : Heap} {s : Sl} {xs : List Int} (H : RdI S h s xs) (hn : xs.length ≤ 1000000000) (K : Value → Heap → Prop) (HK : ∀ t h', OwI h' (Iv h.size h'.size) t xs → Fr No h h' → K t.v h') : callM Try.prog 119 #[s.v] h K := by
  refine v119 s h K (pop_isnil rIs _ _ ⟨_, rfl, fun e => ?_, fun e => ?_⟩)
  · have : xs = [] := nil_of_none H (by simpa using e)
    subst this
    exact HK nilSl h (Ow.nil _ _ _ _) (Fr.refl _ _)
  · refine eop_lit rIs (fun k => h.size ≤ k) (fun _ h => h) 0 (by omega) [] rfl rfl fun t h1 n1 c1 o1 f1 l1 _ => ⟨t, rfl, .nil, ?_⟩
    refine eop_append rIs o1 (fun k hk => Nat.le_trans f1.size hk) (H.no f1) (plainVI _) (by have := H.len; omega) fun t' h2 n2 o2 f2 l2 => ⟨t', rfl, .nil, ?_⟩
    exact HK t' h2 (Ow.toIv (by simpa using o2)) (f1.fresh f2 l1)

theorem k_l1Own {S : Nat → Prop} {h : Heap} {s : Sl} {xs : List Int} (H : RdI S h s xs) (hn : xs.length ≤ 1000000000) (K : Value → Heap → Prop) (HK : ∀ t h', OwI h' (Iv h.size h'.size) t xs → Fr No h h' → K t.v h') : callM Try.prog 87 #[s.v] h K := by
  refine v87 s h K ?_
  refine eop_lit rIs (fun k => h.size ≤ k) (fun _ h => h) 0 (by omega) [] rfl rfl fun t h1 n1 c1 o1 f1 l1 _ => ⟨t, rfl, .nil, ?_⟩
  refine eop_append rIs o1 (fun k hk => Nat.le_trans f1.size hk) (H.no f1) (plainVI _) (by have := H.len; omega) fun t' h2 n2 o2 f2 l2 => ⟨t', rfl, .nil, ?_⟩
  exact HK t' h2 (Ow.toIv (by simpa using o2)) (f1.fresh f2 l1)

/-- Every list of these is short. -/
def shortR (n : Nat) (xss : List (List Int)) : Prop := xss.length ≤ n ∧ ∀ l, l ∈ xss → l.length ≤ n
theorem tot_short {n : Nat} : ∀ {xss : List (List Int)} {m : Nat}, xss.length ≤ m → (∀ l, l ∈ xss → l.length ≤ n) → totR xss ≤ m * n
  | [], m, _, _ => by simp [totR]
  | x :: xs, 0, h, _ => by simp at h
  | x :: xs, m + 1, h, h2 => by
    have h3 := tot_short (n := n) (xss := xs) (m := m) (by simpa using h) fun l hl => h2 l (List.mem_cons_of_mem _ hl)
    have h4 := h2 x (by simp)
    have h5 : totR (x :: xs) = x.length + totR xs := by simp [totR]
    rw [h5, Nat.add_mul]
    omega
theorem short_of_tot {xss : List (List Int)} : ∀ l, l ∈ xss → l.length ≤ totR xss := by
  induction xss with
  | nil => intro l h; simp at h
  | cons x xs ih =>
    intro l hl
    have h5 : totR (x :: xs) = x.length + totR xs := by simp [totR]
    rcases List.mem_cons.1 hl with rfl | hl
    · omega
    · have := ih l hl; omega

def toldP (xss : List (List Int)) : List (List Int) := if graphB xss then xss else []
def addP (g : List (List Int)) (p q : Int) : List (List Int) × Bool :=
  if graphB g && inR 0 ((g.length : Int) - 1) p && inR 0 ((g.length : Int) - 1) q then (toldP (g.set p.toNat (g.getD p.toNat [] ++ [q])), graphB (g.set p.toNat (g.getD p.toNat [] ++ [q]))) else ([], false)
theorem inR_iff {lo hi x : Int} : inR lo hi x = true ↔ lo ≤ x ∧ x ≤ hi := by simp [inR]
theorem graph_len {g : List (List Int)} (h : graphB g = true) : 1 ≤ g.length ∧ g.length ≤ 8 := by
  unfold graphB at h
  rw [Bool.and_eq_true, inR_iff] at h
  omega
theorem graph_mem {g : List (List Int)} (h : graphB g = true) {l : List Int} (hl : l ∈ g) : l.length ≤ 5 ∧ ∀ x, x ∈ l → 0 ≤ x ∧ x < (g.length : Int) := by
  unfold graphB at h
  rw [Bool.and_eq_true] at h
  have := List.all_eq_true.1 h.2 l hl
  rw [Bool.and_eq_true] at this
  obtain ⟨h1, h2⟩ := this
  simp only [Bool.not_eq_true', decide_eq_false_iff_not] at h1
  refine ⟨by omega, fun x hx => ?_⟩
  have := List.all_eq_true.1 h2 x hx
  rw [inR_iff] at this
  omega
theorem graph_tot {g : List (List Int)} (h : graphB g = true) : totR g ≤ 40 := by
  have := tot_short (n := 5) (xss := g) (m := 8) (graph_len h).2 fun l hl => (graph_mem h hl).1
  omega
theorem toldP_tot (g : List (List Int)) : (toldP g).length + totR (toldP g) ≤ 48 := by
  unfold toldP
  split
  · rename_i h
    have := graph_tot h
    have := graph_len h
    omega
  · simp [totR]
theorem addP_tot (g : List (List Int)) (p q : Int) : (addP g p q).1.length + totR (addP g p q).1 ≤ 48 := by
  unfold addP
  split
  · exact toldP_tot _
  · simp [totR]
theorem getD_get {g : List (List Int)} {i : Nat} (h : i < g.length) : g.getD i [] = g[i] := by simp [List.getD, List.getElem?_eq_getElem h]

theorem totR_flat (xss : List (List Int)) : xss.flatten.length = totR xss := by simp [totR, List.length_flatten]

def rotL (l : List Int) (k : Nat) : List Int := l.drop (k % l.length) ++ l.take (k % l.length)
def turnP (g : List (List Int)) (p k : Int) : List (List Int) × Bool :=
  if graphB g && inR 0 ((g.length : Int) - 1) p && inR 0 1000 k then (g.set p.toNat (rotL (g.getD p.toNat []) k.toNat), true) else ([], false)
theorem rotL_length (l : List Int) (k : Nat) : (rotL l k).length = l.length := by
  unfold rotL
  simp
  rcases Nat.eq_zero_or_pos l.length with h | h
  · simp [h]
  · have := Nat.mod_lt k h
    omega
theorem rot_get (l : List Int) (j i : Nat) (h : i < l.length) (hj : j < l.length) : (l.drop j ++ l.take j)[i]? = l[(i + j) % l.length]? := by
  by_cases h1 : i < (l.drop j).length
  · rw [List.getElem?_append_left h1]
    simp only [List.length_drop] at h1
    rw [Nat.mod_eq_of_lt (by omega), List.getElem?_drop]
    congr 1
    omega
  · rw [List.getElem?_append_right (by omega)]
    simp only [List.length_drop] at h1 ⊢
    rw [Nat.mod_eq_sub_mod (by omega), Nat.mod_eq_of_lt (by omega), List.getElem?_take, if_pos (by omega)]
    congr 1
    omega
theorem rotL_get (l : List Int) (k i : Nat) (h : i < l.length) : (rotL l k)[i]'(by rw [rotL_length]; exact h) = l[(i + k) % l.length]'(Nat.mod_lt _ (by omega)) := by
  have hm := Nat.mod_lt k (show 0 < l.length by omega)
  have := rot_get l (k % l.length) i h hm
  rw [Nat.add_mod_mod, List.getElem?_eq_getElem (by simp; omega), List.getElem?_eq_getElem (Nat.mod_lt _ (by omega))] at this
  exact Option.some.inj this
theorem totR_set (xss : List (List Int)) (i : Nat) (ys : List Int) : totR (xss.set i ys) ≤ totR xss + ys.length := by
  induction xss generalizing i with
  | nil => simp [totR]
  | cons x xs ih =>
    cases i with
    | zero => simp [totR]; omega
    | succ i =>
      have := ih i
      simp only [totR, List.set_cons_succ, List.map_cons, List.sum_cons] at *
      omega
theorem turnP_tot (g : List (List Int)) (p k : Int) : (turnP g p k).1.length + totR (turnP g p k).1 ≤ 100 := by
  unfold turnP
  split
  · rename_i h
    rw [Bool.and_eq_true, Bool.and_eq_true, inR_iff, inR_iff] at h
    obtain ⟨⟨h1, h2, h3⟩, _⟩ := h
    have a := graph_tot h1
    have b := graph_len h1
    have c := totR_set g p.toNat (rotL (g.getD p.toNat []) k.toNat)
    rw [rotL_length, getD_get (by omega)] at c
    have d := (graph_mem h1 (List.getElem_mem (show p.toNat < g.length by omega))).1
    simp only [List.length_set]
    rw [getD_get (by omega)]
    omega
  · simp [totR]
theorem tmod_nat {k n : Int} (h0 : 0 ≤ k) (hn : 0 ≤ n) : Int.tmod k n = ((k.toNat % n.toNat : Nat) : Int) := by
  obtain ⟨a, rfl⟩ := Int.eq_ofNat_of_zero_le h0
  obtain ⟨b, rfl⟩ := Int.eq_ofNat_of_zero_le hn
  rfl

/-- A walk's state: its rotors and its place. -/
abbrev St := List Int × Int
def stepP (g : List (List Int)) (w : St) : Option St :=
  if (g.getD w.2.toNat []).length = 0 then none
  else some (w.1.set w.2.toNat ((((w.1.getD w.2.toNat 0).toNat + 1) % (g.getD w.2.toNat []).length : Nat) : Int), (g.getD w.2.toNat []).getD (((w.1.getD w.2.toNat 0).toNat + 1) % (g.getD w.2.toNat []).length) 0)
structure WOK (g : List (List Int)) (w : St) : Prop where
  graph : graphB g = true
  len : w.1.length = g.length
  lo : 0 ≤ w.2
  hi : w.2 < (g.length : Int)
  rot : ∀ i (h : i < w.1.length) (h' : i < g.length), 0 ≤ w.1[i] ∧ w.1[i] ≤ max ((g[i].length : Int) - 1) 0
theorem wok_of {g : List (List Int)} {rs : List Int} {p : Int} (h : walkB g rs p = true) : WOK g (rs, p) := by
  unfold walkB at h
  simp only [Bool.and_eq_true, decide_eq_true_eq] at h
  obtain ⟨⟨⟨h1, h2⟩, h3⟩, h4⟩ := h
  rw [inR_iff] at h2
  refine ⟨h1, h3, h2.1, by simp only; omega, fun i a b => ?_⟩
  have := List.all_eq_true.1 h4 (g[i], rs[i]) (by
    rw [show (g[i], rs[i]) = (g.zip rs)[i]'(by simp only [List.length_zip]; simp only at a; omega) by simp]
    exact List.getElem_mem _)
  unfold rotB at this
  rw [inR_iff] at this
  exact this
theorem stepP_none {g : List (List Int)} {w : St} (W : WOK g w) (hp : w.2.toNat < g.length) : (g[w.2.toNat]).length = 0 → stepP g w = none := fun h => by
  unfold stepP
  rw [getD_get hp, if_pos h]
theorem getD_getI {xs : List Int} {i : Nat} (h : i < xs.length) : xs.getD i 0 = xs[i] := by simp [List.getD, List.getElem?_eq_getElem h]
theorem stepP_some {g : List (List Int)} {w : St} (W : WOK g w) (hp : w.2.toNat < g.length) (hr : w.2.toNat < w.1.length) (h : (g[w.2.toNat]).length ≠ 0) :
    stepP g w = some (w.1.set w.2.toNat ((((w.1[w.2.toNat]).toNat + 1) % (g[w.2.toNat]).length : Nat) : Int), (g[w.2.toNat])[((w.1[w.2.toNat]).toNat + 1) % (g[w.2.toNat]).length]'(Nat.mod_lt _ (by omega))) := by
  unfold stepP
  rw [getD_get hp, if_neg h, getD_getI hr, getD_getI (Nat.mod_lt _ (by omega))]
theorem WOK.step {g : List (List Int)} {w w' : St} (W : WOK g w) (h : stepP g w = some w') : WOK g w' := by
  have hp : w.2.toNat < g.length := by have := W.hi; have := W.lo; omega
  have hr : w.2.toNat < w.1.length := by rw [W.len]; exact hp
  by_cases h0 : (g[w.2.toNat]).length = 0
  · rw [stepP_none W hp h0] at h; cases h
  · rw [stepP_some W hp hr h0] at h
    have hm := Nat.mod_lt ((w.1[w.2.toNat]).toNat + 1) (show 0 < (g[w.2.toNat]).length by omega)
    simp only [Option.some.injEq] at h
    subst h
    have hmem := (graph_mem W.graph (List.getElem_mem hp)).2 _ (List.getElem_mem hm)
    refine ⟨W.graph, by simpa using W.len, hmem.1, hmem.2, fun i a b => ?_⟩
    simp only [List.length_set] at a
    simp only [List.getElem_set]
    split
    · rename_i e
      subst e
      omega
    · exact W.rot i a b

theorem k_copiedW {S : Nat → Prop} {h : Heap} {s : Sl} {xs : List Int} (H : RdI S h s xs) (p : Int) (hn : xs.length ≤ 1000000000) (K : Value → Heap → Prop) (HK : ∀ t h', OwI h' (Iv h.size h'.size) t xs → Fr No h h' → K (.agg #[t.v, VI p]) h') : callM Try.prog 93 #[.agg #[s.v, VI p]] h K := by
  refine v93 s p h K fun b1 b2 h2 hb1 hb2 f2 hL2 => ?_
  have f2 := f2.in_nil
  have l2 : b2 < h2.size := hL2.head.lt
  have s2 := f2.size
  refine k_Clone (H.no f2) hn _ fun t h3 o3 f3 => ⟨t, rfl, hL2.of_no f3, fun h4 f4 hL4 => ?_⟩
  have f4 := f4.inIv (lo := h.size) (hi := h2.size) ⟨⟨hb2, l2⟩, trivial⟩
  exact HK t h4 ((Ow.iv o3 f4 (.inr (Nat.le_refl _))).mono fun k hk hF => ⟨Nat.le_trans s2 hF.1, Nat.lt_of_lt_of_le hF.2 f4.size⟩) ((f2.no_trans f3).ivFresh f4 (Nat.le_refl _))

def firstGo {τ : Type} (g : List (List Int)) (test : τ → St → Bool × τ) (frm : Int) : Nat → Int → τ → St → Int × Bool
  | 0, _, _, _ => (0, false)
  | f + 1, n, t, s =>
    if frm ≤ n then
      if (test t s).1 then (n, true)
      else match stepP g s with
        | none => (0, false)
        | some s' => firstGo g test frm f (n + 1) (test t s).2 s'
    else match stepP g s with
      | none => (0, false)
      | some s' => firstGo g test frm f (n + 1) t s'

def hitP (g : List (List Int)) (rs : List Int) (p q : Int) : Int × Bool :=
  if walkB g rs p && (graphB g && inR 0 ((g.length : Int) - 1) q) then firstGo g (fun (_ : Unit) s => (decide (s.2 = q), ())) 0 2001 0 () (rs, p) else (0, false)
theorem rdI_not {S : Nat → Prop} {h : Heap} {s : Sl} {xs : List Int} (H : RdI S h s xs) {b : Nat} (hb : h.size ≤ b) : RdI (fun k => k ≠ b) h s xs := H.low.mono fun k hk => by omega

def metT (met : List Bool) (s : St) : Bool × List Bool := (!((met.set s.2.toNat true).any (false == ·)), met.set s.2.toNat true)
def coverP (g : List (List Int)) (rs : List Int) (p : Int) : Int × Bool :=
  if walkB g rs p then firstGo g metT 0 2001 0 (List.replicate g.length false) (rs, p) else (0, false)

def sameT (rs : List Int) (p : Int) (_ : Unit) (s : St) : Bool × Unit := (decide (p = s.2 ∧ rs = s.1), ())
def recP (g : List (List Int)) (rs : List Int) (p : Int) : Bool × Bool :=
  if walkB g rs p then ((firstGo g (sameT rs p) 1 2001 0 () (rs, p)).2, true) else (false, false)
theorem first_pos (g : List (List Int)) (test : Unit → St → Bool × Unit) : ∀ (f : Nat) (n : Int) (s : St), 0 ≤ n → (firstGo g test 1 f n () s).2 = decide (0 < (firstGo g test 1 f n () s).1)
  | 0, n, s, _ => by simp [firstGo]
  | f + 1, n, s, h => by
    rw [firstGo]
    split
    · split
      · have : 0 < n := by omega
        simp [this]
      · split
        · simp
        · exact first_pos g test f (n + 1) _ (by omega)
    · split
      · simp
      · exact first_pos g test f (n + 1) _ (by omega)

def runT {τ : Type} (g : List (List Int)) (upd : τ → St → St → τ) : Nat → τ → St → Option (τ × St)
  | 0, t, s => some (t, s)
  | n + 1, t, s => match stepP g s with
    | none => none
    | some s' => runT g upd n (upd t s s') s'

theorem runT_snoc {τ : Type} {g : List (List Int)} {upd : τ → St → St → τ} {s'' : St} : ∀ (n : Nat) (t : τ) (s : St) (t' : τ) (s' : St), runT g upd n t s = some (t', s') → stepP g s' = some s'' → runT g upd (n + 1) t s = some (upd t' s' s'', s'')
  | 0, t, s, t', s', h, hs => by
    simp only [runT, Option.some.injEq, Prod.mk.injEq] at h
    obtain ⟨rfl, rfl⟩ := h
    rw [runT, hs]
    rfl
  | n + 1, t, s, t', s', h, hs => by
    rw [runT] at h
    rw [runT]
    split at h
    · cases h
    · rename_i s2 h2
      exact runT_snoc n _ _ _ _ h hs

def runOfP (g : List (List Int)) (rs : List Int) (p n : Int) : St × Bool :=
  if walkB g rs p && inR 0 2000 n then match runT g (fun (_ : Unit) _ _ => ()) n.toNat () (rs, p) with
    | none => (([], 0), false)
    | some (_, s) => (s, true)
  else (([], 0), false)
theorem run_len {τ : Type} {g : List (List Int)} {upd : τ → St → St → τ} : ∀ (n : Nat) (t : τ) (s : St), WOK g s → ∀ t' s', runT g upd n t s = some (t', s') → WOK g s'
  | 0, t, s, W, t', s', h => by
    simp only [runT, Option.some.injEq, Prod.mk.injEq] at h
    rw [← h.2]; exact W
  | n + 1, t, s, W, t', s', h => by
    rw [runT] at h
    split at h
    · cases h
    · rename_i s2 hs
      exact run_len n _ s2 (W.step hs) t' s' h
theorem runOfP_len (g : List (List Int)) (rs : List Int) (p n : Int) : (runOfP g rs p n).1.1.length ≤ 8 := by
  unfold runOfP
  split
  · rename_i h
    rw [Bool.and_eq_true] at h
    have W := wok_of h.1
    split
    · simp
    · rename_i s hs
      have W2 := run_len _ _ _ W _ _ hs
      have := graph_len W2.graph
      have := W2.len
      simp only
      omega
  · simp

/-- A run: its end, what was passed, visits, uses. -/
structure Rn where
  s : St
  ps : List Int
  vs : List Int
  us : List (List Int)
def bump (l : List Int) (i : Nat) : List Int := l.set i (l.getD i 0 + 1)
def goP (g : List (List Int)) : Nat → Rn → Option Rn
  | 0, r => some r
  | n + 1, r => match stepP g r.s with
    | none => none
    | some s' => goP g n ⟨s', r.ps ++ [s'.2], bump r.vs s'.2.toNat, r.us.set r.s.2.toNat (bump (r.us.getD r.s.2.toNat []) (s'.1.getD r.s.2.toNat 0).toNat)⟩
def zerosR (g : List (List Int)) : List (List Int) := g.map fun l => List.replicate l.length 0
def go0 (g : List (List Int)) (s : St) : Rn := ⟨s, [s.2], List.replicate g.length 0, zerosR g⟩
/-- What holds of a run on its way. -/
structure RnOK (g : List (List Int)) (m : Nat) (r : Rn) : Prop where
  w : WOK g r.s
  ps : r.ps.length = m + 1
  vs : r.vs.length = g.length
  us : r.us.length = g.length
  row : ∀ i (h : i < r.us.length) (h' : i < g.length), r.us[i].length = g[i].length
  vb : ∀ x, x ∈ r.vs → 0 ≤ x ∧ x ≤ m
  ub : ∀ l, l ∈ r.us → ∀ x, x ∈ l → 0 ≤ x ∧ x ≤ m
theorem bump_length (l : List Int) (i : Nat) : (bump l i).length = l.length := by simp [bump]
theorem bump_mem {l : List Int} {i m : Nat} (h : ∀ x, x ∈ l → 0 ≤ x ∧ x ≤ (m : Int)) : ∀ x, x ∈ bump l i → 0 ≤ x ∧ x ≤ ((m + 1 : Nat) : Int) := by
  intro x hx
  unfold bump at hx
  rcases List.mem_or_eq_of_mem_set hx with hx | rfl
  · have := h x hx; omega
  · by_cases hi : i < l.length
    · rw [getD_getI hi]
      have := h _ (List.getElem_mem hi)
      omega
    · rw [show l.getD i 0 = 0 by simp [List.getD, List.getElem?_eq_none (by omega : l.length ≤ i)]]
      omega
theorem RnOK.step {g : List (List Int)} {m : Nat} {r : Rn} (R : RnOK g m r) {s' : St} (hs : stepP g r.s = some s') : RnOK g (m + 1) ⟨s', r.ps ++ [s'.2], bump r.vs s'.2.toNat, r.us.set r.s.2.toNat (bump (r.us.getD r.s.2.toNat []) (s'.1.getD r.s.2.toNat 0).toNat)⟩ := by
  have hp : r.s.2.toNat < r.us.length := by rw [R.us]; have := R.w.hi; have := R.w.lo; omega
  refine ⟨R.w.step hs, by simp [R.ps], by simp [bump_length, R.vs], by simp [R.us], fun i a b => ?_, bump_mem R.vb, fun l hl => ?_⟩
  · simp only [List.length_set] at a
    simp only [List.getElem_set]
    split
    · rename_i e
      subst e
      rw [bump_length, getD_get hp]
      exact R.row _ a b
    · exact R.row i a b
  · rcases List.mem_or_eq_of_mem_set hl with hl | rfl
    · exact fun x hx => by have := R.ub l hl x hx; omega
    · rw [getD_get hp]
      exact bump_mem (R.ub _ (List.getElem_mem hp))
theorem go0_ok {g : List (List Int)} {s : St} (W : WOK g s) : RnOK g 0 (go0 g s) := by
  refine ⟨W, rfl, by simp [go0], by simp [go0, zerosR], fun i a b => by simp [go0, zerosR], fun x hx => ?_, fun l hl x hx => ?_⟩
  · simp only [go0, List.mem_replicate] at hx
    omega
  · simp only [go0, zerosR, List.mem_map] at hl
    obtain ⟨l', _, rfl⟩ := hl
    simp only [List.mem_replicate] at hx
    omega

def nextR (r : Rn) (s' : St) : Rn := ⟨s', r.ps ++ [s'.2], bump r.vs s'.2.toNat, r.us.set r.s.2.toNat (bump (r.us.getD r.s.2.toNat []) (s'.1.getD r.s.2.toNat 0).toNat)⟩
/-- A run that keeps one thing is the run that keeps all of them, seen from there. -/
theorem go_run {τ : Type} (g : List (List Int)) (f : Rn → τ) (upd : τ → St → St → τ) (hf : ∀ r s', f (nextR r s') = upd (f r) r.s s') : ∀ (n : Nat) (r : Rn), runT g upd n (f r) r.s = (goP g n r).map fun r => (f r, r.s)
  | 0, r => by simp [runT, goP]
  | n + 1, r => by
    rw [runT, goP]
    cases stepP g r.s with
    | none => rfl
    | some s' =>
      show runT g upd n (upd (f r) r.s s') s' = (goP g n (nextR r s')).map _
      rw [← go_run g f upd hf n (nextR r s'), hf]
      rfl

def passU (t : List Int) (_ s' : St) : List Int := t ++ [s'.2]
def passP (g : List (List Int)) (rs : List Int) (p n : Int) : List Int × Bool :=
  if walkB g rs p && inR 0 200 n then match runT g passU n.toNat [p] (rs, p) with
    | none => ([], false)
    | some (t, _) => (t, true)
  else ([], false)
def visU (t : List Int) (_ s' : St) : List Int := bump t s'.2.toNat
def visP (g : List (List Int)) (rs : List Int) (p n : Int) : List Int × Bool :=
  if walkB g rs p && inR 0 2000 n then match runT g visU n.toNat (List.replicate g.length 0) (rs, p) with
    | none => ([], false)
    | some (t, _) => (t, true)
  else ([], false)
def useU (t : List (List Int)) (s s' : St) : List (List Int) := t.set s.2.toNat (bump (t.getD s.2.toNat []) (s'.1.getD s.2.toNat 0).toNat)
def useP (g : List (List Int)) (rs : List Int) (p n : Int) : List (List Int) × Bool :=
  if walkB g rs p && inR 0 2000 n then match runT g useU n.toNat (zerosR g) (rs, p) with
    | none => ([], false)
    | some (t, _) => (t, true)
  else ([], false)

theorem passP_len (g : List (List Int)) (rs : List Int) (p n : Int) : (passP g rs p n).1.length ≤ 201 := by
  unfold passP
  split
  · rename_i h
    rw [Bool.and_eq_true, inR_iff] at h
    have key : ∀ (m : Nat) (t : List Int) (s : St) (t' : List Int) (s' : St), runT g passU m t s = some (t', s') → t'.length = t.length + m := by
      intro m
      induction m with
      | zero =>
        intro t s t' s' h
        simp only [runT, Option.some.injEq, Prod.mk.injEq] at h
        rw [h.1]
        rfl
      | succ m ih =>
        intro t s t' s' h
        rw [runT] at h
        split at h
        · cases h
        · have := ih _ _ _ _ h
          simp [passU] at this
          omega
    split
    · simp
    · rename_i t s hs
      have := key _ _ _ _ _ hs
      simp at this
      simp only
      omega
  · simp

theorem wf_ok {n : Int} (h0 : -9223372036854775808 ≤ n) (h1 : n < 9223372036854775808) : (Lit.int .i64 n).wf = true := by
  have a0 : IntKind.i64.min = -9223372036854775808 := rfl
  have a1 : IntKind.i64.max = 9223372036854775807 := rfl
  simp only [Lit.wf, Bool.and_eq_true, decide_eq_true_eq, a0, a1]
  omega

theorem eop_putI {L : List (Nat × List Value)} {F : Nat → Prop} {h : Heap} {o : Sl} {xs : List Int} {x : Int} (O : OwI h F o xs) (hF : ∀ k, h.size ≤ k → F k) (hL : Vars h L) (hoff : ∀ p, p ∈ L → ¬ F p.1) (hb : xs.length ≤ 1000000) (R : Sl → Heap → Prop) (HR : ∀ t h', OwI h' F t (xs ++ [x]) → Fr F h h' → Vars h' L → R t h') : eop Try.prog (Instr.buildSlice tIs 1 #[(0, VI x)]) h fun rv h1 => ∃ t : Sl, rv = t.v ∧ Vars h1 L ∧ eop Try.prog (appS tIs tIs tIs o.v t.v) h1 fun rv2 h2 => ∃ t2 : Sl, rv2 = t2.v ∧ Vars h2 L ∧ R t2 h2 := by
  refine eop_lit rIs (fun k => h.size ≤ k) (fun _ h => h) 1 (by omega) [VI x] rfl rfl fun t h1 n1 c1 o1 f1 m1 _ => ⟨t, rfl, hL.of_no f1, ?_⟩
  have z1 := f1.size
  have O1 : OwI h1 F o xs := Ow.no O f1
  have on := O1.rd.len
  have tn := o1.rd.len
  simp only [List.length_map, Nat.mul_one, List.length_cons, List.length_nil] at on tn
  refine eop_append rIs O1 (fun k hk => hF k (by omega)) o1.rd (plainVI [x]) (by omega) fun s' h2 n2 o2 f2 d2 => ?_
  have g2 : Fr F h1 h2 := f2.mono fun k _ hk => (O1.foot hk).1
  have V2 : Vars h2 L := (hL.of_no f1).fr g2 hoff
  exact ⟨s', rfl, V2, HR s' h2 (by rw [OwI, List.map_append]; exact o2) (f1.of_no.trans g2) V2⟩

theorem k_IndexI {S : Nat → Prop} {h : Heap} {s : Sl} {xs : List Int} (H : RdI S h s xs) (v : Int) (K : Value → Heap → Prop) (HN : v ∉ xs → K (VI (-1)) h) (HS : ∀ i : Nat, i < xs.length → xs.getD i 0 = v → (∀ j, j < i → xs.getD j 0 ≠ v) → K (VI i) h) : callM Try.prog 114 #[s.v, VI v] h K := by
  refine v114 s v h K ⟨fun n i h' => h' = h ∧ 0 ≤ i ∧ i + n = (xs.length : Int) ∧ ∀ j : Nat, (j : Int) < i → xs.getD j 0 ≠ v, ⟨xs.length, rfl, by omega, by omega, fun j hj => by omega⟩, ?_⟩
  rintro n i _ ⟨rfl, i0, i1, i2⟩ hL
  refine ⟨fun e => ?_, fun e => ?_⟩
  · have hi := H.lt e
    refine ⟨H.inb i0 hi, _, H.get i0 hi, fun e => ?_, fun e => ?_⟩
    · simp only [decide_eq_true_eq] at e
      have := HS i.toNat (by omega) (by rw [getD_getI (by omega)]; exact e.symm) fun j hj => i2 j (by omega)
      rwa [show ((i.toNat : Nat) : Int) = i by omega] at this
    · simp only [decide_eq_false_iff_not] at e
      rw [H.succ i0 hi]
      refine ⟨n - 1, by omega, rfl, by omega, by omega, fun j hj => ?_⟩
      by_cases hj2 : (j : Int) < i
      · exact i2 j hj2
      · have : j = i.toNat := by omega
        subst this
        rw [getD_getI (by omega)]
        exact fun h => e h.symm
  · have hi := H.ge e
    refine HN fun hm => ?_
    obtain ⟨j, hj, e2⟩ := List.getElem_of_mem hm
    exact i2 j (by omega) (by rw [getD_getI hj]; exact e2)

theorem k_ContainsI {S : Nat → Prop} {h : Heap} {s : Sl} {xs : List Int} (H : RdI S h s xs) (v : Int) (K : Value → Heap → Prop) (HK : K (VB (decide (v ∈ xs))) h) : callM Try.prog 72 #[s.v, VI v] h K := by
  refine v72 s v h K (k_IndexI H v _ (fun hn => ⟨_, rfl, .nil, ?_⟩) fun i hi e _ => ⟨_, rfl, .nil, ?_⟩)
  · rw [decide_eq_false hn] at HK
    exact HK
  · rw [decide_eq_true (by rw [← e, getD_getI hi]; exact List.getElem_mem _)] at HK
    rw [decide_eq_true (by omega)]
    exact HK

theorem php : ∀ (N : Nat) (f : Nat → Nat), (∀ i, i ≤ N → f i < N) → ∃ i j, i < j ∧ j ≤ N ∧ f i = f j
  | 0, f, h => by have := h 0 (Nat.le_refl _); omega
  | N + 1, f, h => by
    by_cases hx : ∃ i, i ≤ N ∧ f i = f (N + 1)
    · obtain ⟨i, h1, h2⟩ := hx
      exact ⟨i, N + 1, by omega, Nat.le_refl _, h2⟩
    · have hx : ∀ i, i ≤ N → f i ≠ f (N + 1) := fun i h1 h2 => hx ⟨i, h1, h2⟩
      obtain ⟨i, j, h1, h2, h3⟩ := php N (fun i => if f i = N then f (N + 1) else f i) fun i hi => by
        have a := h i (by omega)
        have b := h (N + 1) (by omega)
        have c := hx i hi
        (try simp only)
        split <;> omega
      refine ⟨i, j, h1, by omega, ?_⟩
      have a := hx i (by omega)
      have b := hx j h2
      (try simp only at h3)
      split at h3 <;> split at h3 <;> omega
def nx (g : List (List Int)) (rs : List Int) (p : Int) : Int := if p < 0 then -1 else if (g.getD p.toNat []).length = 0 then -1 else (g.getD p.toNat []).getD (rs.getD p.toNat 0).toNat 0
def itx (g : List (List Int)) (rs : List Int) (p : Int) : Nat → Int
  | 0 => p
  | k + 1 => nx g rs (itx g rs p k)
section
variable {g : List (List Int)} {rs : List Int} {a : Int}
theorem nx_some (W : WOK g (rs, a)) {p : Int} (h0 : 0 ≤ p) (h1 : p < (g.length : Int)) (hne : (g[p.toNat]'(by omega)).length ≠ 0) : ∃ (hr : p.toNat < rs.length) (hm : (rs[p.toNat]).toNat < (g[p.toNat]'(by omega)).length), 0 ≤ rs[p.toNat] ∧ nx g rs p = (g[p.toNat]'(by omega))[(rs[p.toNat]).toNat] := by
  have hl : rs.length = g.length := W.len
  have hr : p.toNat < rs.length := by omega
  have h := W.rot p.toNat hr (by omega)
  have h2 : 0 ≤ rs[p.toNat] := h.1
  have h3 : rs[p.toNat] ≤ max (((g[p.toNat]'(by omega)).length : Int) - 1) 0 := h.2
  refine ⟨hr, by omega, h2, ?_⟩
  unfold nx
  rw [if_neg (by omega), getD_get (by omega), if_neg hne, getD_getI hr, getD_getI (by omega)]
theorem nx_none {p : Int} (h0 : 0 ≤ p) (h1 : p < (g.length : Int)) (hne : (g[p.toNat]'(by omega)).length = 0) : nx g rs p = -1 := by
  unfold nx
  rw [if_neg (by omega), getD_get (by omega), if_pos hne]
theorem nx_neg {p : Int} (h : p < 0) : nx g rs p = -1 := by unfold nx; rw [if_pos h]
theorem nx_lt (W : WOK g (rs, a)) {p : Int} (h1 : p < (g.length : Int)) : -1 ≤ nx g rs p ∧ nx g rs p < (g.length : Int) := by
  by_cases h0 : p < 0
  · rw [nx_neg h0]; omega
  by_cases hne : (g[p.toNat]'(by omega)).length = 0
  · rw [nx_none (by omega) h1 hne]; omega
  · obtain ⟨hr, hm, h2, e⟩ := nx_some W (by omega) h1 hne
    rw [e]
    have := (graph_mem W.graph (List.getElem_mem (show p.toNat < g.length by omega))).2 _ (List.getElem_mem hm)
    omega
theorem itx_lt (W : WOK g (rs, a)) {p : Int} (h0 : 0 ≤ p) (h1 : p < (g.length : Int)) : ∀ k, -1 ≤ itx g rs p k ∧ itx g rs p k < (g.length : Int)
  | 0 => by simp only [itx]; omega
  | k + 1 => by simp only [itx]; exact nx_lt W (itx_lt W h0 h1 k).2
theorem itx_negs {p : Int} {k : Nat} (h : itx g rs p k < 0) : ∀ m, itx g rs p (k + m) < 0
  | 0 => h
  | m + 1 => by
    rw [← Nat.add_assoc, itx, nx_neg (itx_negs h m)]
    omega
theorem itx_neg_mono {p : Int} {k m : Nat} (h : itx g rs p k < 0) (hm : k ≤ m) : itx g rs p m < 0 := by
  have := itx_negs h (m - k)
  rwa [show k + (m - k) = m by omega] at this
theorem itx_shift {p : Int} {i j : Nat} (h : itx g rs p i = itx g rs p j) : ∀ m, itx g rs p (i + m) = itx g rs p (j + m)
  | 0 => h
  | m + 1 => by rw [← Nat.add_assoc, ← Nat.add_assoc, itx, itx, itx_shift h m]
theorem itx_per {p : Int} {i d : Nat} (h : itx g rs p i = itx g rs p (i + d)) (r : Nat) : ∀ c, itx g rs p (i + r + d * c) = itx g rs p (i + r)
  | 0 => rfl
  | c + 1 => by
    have := itx_shift h (r + d * c)
    rw [show i + r + d * (c + 1) = i + d + (r + d * c) by rw [Nat.mul_succ]; omega, ← this, ← Nat.add_assoc]
    exact itx_per h r c
theorem itx_mod {p : Int} {i d : Nat} (h : itx g rs p i = itx g rs p (i + d)) (r : Nat) : itx g rs p (i + r) = itx g rs p (i + r % d) := by
  have := itx_per h (r % d) (r / d)
  rw [Nat.add_assoc, Nat.mod_add_div] at this
  exact this
theorem itx_cyc (W : WOK g (rs, a)) {p : Int} (h0 : 0 ≤ p) (h1 : p < (g.length : Int)) (h : 0 ≤ itx g rs p g.length) : ∃ i d, 1 ≤ d ∧ i + d ≤ g.length ∧ itx g rs p i = itx g rs p (i + d) := by
  have hn : ∀ k, k ≤ g.length → 0 ≤ itx g rs p k := fun k hk => by
    by_cases hx : itx g rs p k < 0
    · have := itx_neg_mono hx hk; omega
    · omega
  obtain ⟨i, j, e1, e2, e3⟩ := php g.length (fun k => (itx g rs p k).toNat) fun k hk => by
    have := hn k hk
    have := (itx_lt W h0 h1 k).2
    (try simp only)
    omega
  refine ⟨i, j - i, by omega, by omega, ?_⟩
  rw [show i + (j - i) = j by omega]
  have := hn i (by omega)
  have := hn j e2
  (try simp only at e3)
  omega
theorem itx_nn (W : WOK g (rs, a)) {p : Int} (h0 : 0 ≤ p) (h1 : p < (g.length : Int)) (h : 0 ≤ itx g rs p g.length) (k : Nat) : 0 ≤ itx g rs p k := by
  have hn : ∀ k, k ≤ g.length → 0 ≤ itx g rs p k := fun k hk => by
    by_cases hx : itx g rs p k < 0
    · have := itx_neg_mono hx hk; omega
    · omega
  obtain ⟨i, d, e1, e2, e3⟩ := itx_cyc W h0 h1 h
  by_cases hk : k ≤ g.length
  · exact hn k hk
  · have := itx_mod e3 (k - i)
    rw [show i + (k - i) = k by omega] at this
    rw [this]
    have := Nat.mod_lt (k - i) (show 0 < d by omega)
    exact hn _ (by omega)
/-- The places of a cycle, from where it is closed. -/
theorem cyc_mem {p : Int} {i d n : Nat} (h : itx g rs p i = itx g rs p (i + d)) (hd : 1 ≤ d) (hi : i ≤ n) (x : Int) : x ∈ (List.range d).map (fun r => itx g rs p (i + r)) ↔ ∃ k, n ≤ k ∧ itx g rs p k = x := by
  simp only [List.mem_map, List.mem_range]
  constructor
  · rintro ⟨r, hr, rfl⟩
    refine ⟨i + r + d * n, ?_, itx_per h r n⟩
    have : 1 * n ≤ d * n := Nat.mul_le_mul_right _ hd
    omega
  · rintro ⟨k, hk, rfl⟩
    refine ⟨(k - i) % d, Nat.mod_lt _ hd, ?_⟩
    rw [← itx_mod h]
    congr 1
    omega
end
noncomputable def uniB (g : List (List Int)) (rs : List Int) (a : Int) : Bool := @decide (∀ p : Nat, p < g.length → 0 ≤ itx g rs p g.length ∧ ∃ k, g.length ≤ k ∧ itx g rs p k = a) (Classical.propDecidable _)
theorem uniB_t {g : List (List Int)} {rs : List Int} {a : Int} (h : ∀ p : Nat, p < g.length → 0 ≤ itx g rs p g.length ∧ ∃ k, g.length ≤ k ∧ itx g rs p k = a) : uniB g rs a = true := by unfold uniB; exact @decide_eq_true _ (Classical.propDecidable _) h
theorem uniB_f {g : List (List Int)} {rs : List Int} {a : Int} (h : ¬ ∀ p : Nat, p < g.length → 0 ≤ itx g rs p g.length ∧ ∃ k, g.length ≤ k ∧ itx g rs p k = a) : uniB g rs a = false := by unfold uniB; exact @decide_eq_false _ (Classical.propDecidable _) h

theorem k_trNext {S S' : Nat → Prop} {h : Heap} {g w : Sl} {xss : List (List Int)} {rs : List Int} {a : Int} (G : RdR S h g xss) (H : RdI S' h w rs) (W : WOK xss (rs, a)) {p : Int} (h0 : 0 ≤ p) (h1 : p < (xss.length : Int)) : Ret Try.prog 143 #[.agg #[g.v], w.v, VI p] h (VI (nx xss rs p)) := by
  intro K HK
  refine v143 g w p h K ⟨G.inb h0 h1, fun b1 h2 hb1 f2 hL2 => ?_⟩
  have f2 := f2.in_nil
  have G2 := G.no f2
  have H2 := H.no f2
  obtain ⟨si, c1, r1⟩ := G2.get h0 h1
  refine ⟨si, c1, fun e => ?_, fun e => ?_⟩
  · simp only [decide_eq_true_eq] at e
    rw [nx_none h0 h1 (by have := r1.len; omega)] at HK
    exact HK h2 f2
  · simp only [decide_eq_false_iff_not] at e
    obtain ⟨hr, hm, e2, e3⟩ := nx_some W h0 h1 (by have := r1.len; omega)
    rw [e3] at HK
    exact ⟨G2.inb h0 h1, si, c1, H2.inb h0 (by omega), _, H2.get h0 (by omega), r1.inb e2 (by omega), _, r1.get e2 (by omega), HK h2 f2⟩

theorem k_next {S S' : Nat → Prop} {h : Heap} {g w : Sl} {xss : List (List Int)} {rs : List Int} {a : Int} (G : RdR S h g xss) (H : RdI S' h w rs) (W : WOK xss (rs, a)) {p : Int} (h0 : 0 ≤ p) (h1 : p < (xss.length : Int)) : Ret Try.prog 135 #[.agg #[g.v], w.v, VI p] h (VI (nx xss rs p)) := by
  intro K HK
  refine v135 g w p h K ⟨G.inb h0 h1, fun b1 h2 hb1 f2 hL2 => ?_⟩
  have f2 := f2.in_nil
  have G2 := G.no f2
  have H2 := H.no f2
  obtain ⟨si, c1, r1⟩ := G2.get h0 h1
  refine ⟨si, c1, fun e => ?_, fun e => ?_⟩
  · simp only [decide_eq_true_eq] at e
    rw [nx_none h0 h1 (by have := r1.len; omega)] at HK
    exact HK h2 f2
  · simp only [decide_eq_false_iff_not] at e
    obtain ⟨hr, hm, e2, e3⟩ := nx_some W h0 h1 (by have := r1.len; omega)
    rw [e3] at HK
    exact ⟨G2.inb h0 h1, si, c1, H2.inb h0 (by omega), _, H2.get h0 (by omega), r1.inb e2 (by omega), _, r1.get e2 (by omega), HK h2 f2⟩

theorem k_cycleFrom {S S' : Nat → Prop} {h : Heap} {g w : Sl} {xss : List (List Int)} {rs : List Int} {a : Int} (G : RdR S h g xss) (H : RdI S' h w rs) (W : WOK xss (rs, a)) {p : Int} (h0 : 0 ≤ p) (h1 : p < (xss.length : Int)) (K : Value → Heap → Prop)
    (HN : itx xss rs p xss.length < 0 → ∀ h', Fr No h h' → K (.tuple #[nilSl.v, VB false]) h')
    (HS : 0 ≤ itx xss rs p xss.length → ∀ t xs h', (∀ x, x ∈ xs ↔ ∃ k, xss.length ≤ k ∧ itx xss rs p k = x) → RdI (fun _ => True) h' t xs → Fr No h h' → K (.tuple #[t.v, VB true]) h') : callM Try.prog 118 #[.agg #[g.v], w.v, VI p] h K := by
  refine v118 g w p h K fun b1 h2 hb1 f2 hL2 => ?_
  have f2 := f2.in_nil
  have l1 : b1 < h2.size := hL2.head.lt
  have z2 := f2.size
  have hgl := graph_len W.graph
  refine eop_lit rIs (fun k => h2.size ≤ k) (fun _ h => h) 0 (by omega) [] rfl rfl fun t0 h3 n3 c3 o3 f3 m3 _ => ⟨t0, rfl, hL2.of_no f3, ?_⟩
  have z3 := f3.size
  refine ⟨fun n p' x h' => ∃ m, m ≤ xss.length ∧ n = xss.length - m ∧ p' = itx xss rs p m ∧ (∀ k, k ≤ m → 0 ≤ itx xss rs p k) ∧ OwI h' (fun k => h2.size ≤ k) x ((List.range m).map fun r => itx xss rs p r) ∧ (∀ i j, i < j → j < m → itx xss rs p i ≠ itx xss rs p j) ∧ Fr No h h' ∧ h2.size ≤ h'.size, ⟨xss.length, 0, by omega, rfl, rfl, fun k hk => by obtain rfl : k = 0 := (by omega); exact h0, by show Ow _ _ _ _ _ _; simpa using o3, fun i j _ h => by omega, f2.no_trans f3, z3⟩, ?_⟩
  rintro n p' x h4 ⟨m, hm, rfl, rfl, hnn, o4, hd, f4, z4⟩ hL4
  have r4 : RdI (fun k => h2.size ≤ k) h4 x _ := o4.rdF
  refine k_ContainsI r4 _ _ ⟨_, rfl, hL4, fun e => ?_, fun e => ?_⟩
  · have e := not_t e
    simp only [decide_eq_false_iff_not, List.mem_map, List.mem_range] at e
    have hd2 : ∀ i j, i < j → j < m + 1 → itx xss rs p i ≠ itx xss rs p j := fun i j a b h => by
      by_cases hj : j < m
      · exact hd i j a hj h
      · obtain rfl : j = m := by omega
        exact e ⟨i, a, h⟩
    have hm2 : m + 1 ≤ xss.length := by
      by_cases hx : m + 1 ≤ xss.length
      · exact hx
      · exfalso
        obtain ⟨i, j, e1, e2, e3⟩ := php xss.length (fun k => (itx xss rs p k).toNat) fun k hk => by
          have := hnn k (by omega)
          have := (itx_lt W h0 h1 k).2
          (try simp only)
          omega
        have a1 := hnn i (by omega)
        have a2 := hnn j (by omega)
        (try simp only at e3)
        exact hd2 i j e1 (by omega) (by omega)
    refine eop_lit rIs (fun k => h4.size ≤ k) (fun _ h => h) 1 (by omega) [VI (itx xss rs p m)] rfl rfl fun u h5 n5 c5 o5 f5 m5 _ => ⟨u, rfl, hL4.of_no f5, ?_⟩
    have z5 := f5.size
    have r5 : RdI u.own h5 u [itx xss rs p m] := o5.rd
    have hxn : x.n = m := by have := r4.len; simpa using this
    refine eop_append rIs (Ow.no o4 f5) (fun k hk => by omega) r5 (plainVI _) (by have := r5.len; simp at this; omega) fun y h6 n6 o6 f6 d6 => ?_
    have hL6 := (hL4.of_no f5).fr f6 (fun p hp hk => by
      simp only [List.mem_cons, List.not_mem_nil, or_false] at hp
      subst hp
      have := (o4.foot hk).1
      simp only at this
      omega)
    have z6 := f6.size
    have f06 : Fr No h h6 := (f4.no_trans f5).fresh f6 fun k hk => by have := (o4.foot hk).1; omega
    refine ⟨y, rfl, hL6, k_next (G.no f06) (H.no f06) W (hnn m (Nat.le_refl _)) (itx_lt W h0 h1 _).2 _ fun h7 f7 => ⟨_, rfl, hL6.of_no f7, fun e2 => ?_, fun e2 => ?_⟩⟩
    · simp only [decide_eq_true_eq] at e2
      exact HN (itx_neg_mono (k := m + 1) (by rw [itx]; exact e2) hm2) h7 (f06.no_trans f7)
    · simp only [decide_eq_false_iff_not] at e2
      have z7 := f7.size
      rw [← List.map_append] at o6
      refine ⟨xss.length - (m + 1), by omega, m + 1, hm2, rfl, by rw [itx], fun k hk => ?_, ?_, hd2, f06.no_trans f7, by omega⟩
      · by_cases hk2 : k ≤ m
        · exact hnn k hk2
        · obtain rfl : k = m + 1 := by omega
          rw [itx]; omega
      · rw [List.range_succ, List.map_append, List.map_cons, List.map_nil]
        exact Ow.no o6 f7
  · have e := not_f e
    simp only [decide_eq_true_eq] at e
    refine k_IndexI r4 _ _ (fun hn => absurd e hn) fun i hi ei hj => ⟨_, rfl, hL4, pop_cut_l rIs .i64 (by omega) (by have := r4.len; omega) ⟨_, rfl, ?_⟩⟩
    have hi2 : i < m := by simpa using hi
    rw [getD_getI hi] at ei
    simp only [List.getElem_map, List.getElem_range] at ei
    have hper : itx xss rs p i = itx xss rs p (i + (m - i)) := by rw [show i + (m - i) = m by omega]; exact ei
    have hall : ∀ k, 0 ≤ itx xss rs p k := fun k => by
      by_cases hk : k ≤ m
      · exact hnn k hk
      · have := itx_mod hper (k - i)
        rw [show i + (k - i) = k by omega] at this
        rw [this]
        have := Nat.mod_lt (k - i) (show 0 < m - i by omega)
        exact hnn _ (by omega)
    have hx : ((((List.range m).map fun r => itx xss rs p r).drop i).take (x.n - i)) = (List.range (m - i)).map fun r => itx xss rs p (i + r) := by
      have hxn : x.n = m := by have := r4.len; simpa using this
      apply List.ext_getElem
      · simp; omega
      · intro j a b
        simp
    have hc := RdI.cut r4 (l := i) (m := x.n) (by have := r4.len; omega) (by have := r4.len; omega)
    rw [hx] at hc
    exact HS (hall _) _ _ h4 (cyc_mem hper (by omega) (by omega)) (hc.mono fun _ _ => trivial) f4

theorem k_isUnicycle {S S' : Nat → Prop} {h : Heap} {g w : Sl} {xss : List (List Int)} {rs : List Int} {a : Int} (G : RdR S h g xss) (H : RdI S' h w rs) (W : WOK xss (rs, a)) : Ret Try.prog 92 #[.agg #[g.v], .agg #[w.v, VI a]] h (VB (uniB xss rs a)) := by
  intro K HK
  refine v92 g w a h K fun b1 b2 h2 hb1 hb2 f2 hL2 => ?_
  have f2 := f2.in_nil
  refine ⟨fun n i h' => 0 ≤ i ∧ i + n = (xss.length : Int) ∧ (∀ p : Nat, (p : Int) < i → 0 ≤ itx xss rs p xss.length ∧ ∃ k, xss.length ≤ k ∧ itx xss rs p k = a) ∧ Fr No h h', ⟨xss.length, by omega, by omega, fun p hp => by omega, f2⟩, ?_⟩
  rintro n i h3 ⟨i0, i1, i2, f3⟩ hL3
  refine ⟨fun e => ?_, fun e => ?_⟩
  · have hi := (G.no f3).lt e
    have ei : ((i.toNat : Nat) : Int) = i := by omega
    refine k_cycleFrom (G.no f3) (H.no f3) W i0 hi _ (fun hn h4 f4 => ⟨nilSl, false, rfl, hL3.of_no f4, fun _ => ?_, fun e => by simp at e⟩) fun hn t xs h4 hx r4 f4 => ⟨t, true, rfl, hL3.of_no f4, fun e => by simp at e, fun _ => k_ContainsI r4 _ _ ⟨_, rfl, hL3.of_no f4, fun e => ?_, fun e => ?_⟩⟩
    · rw [uniB_f fun h => by have := (h i.toNat (by omega)).1; rw [ei] at this; omega] at HK
      exact HK h4 (f3.no_trans f4)
    · have e := not_t e
      simp only [decide_eq_false_iff_not] at e
      rw [uniB_f fun h => by have := (h i.toNat (by omega)).2; rw [ei] at this; exact e ((hx a).2 this)] at HK
      exact HK h4 (f3.no_trans f4)
    · have e := not_f e
      simp only [decide_eq_true_eq] at e
      rw [G.succ i0 hi]
      refine ⟨n - 1, by omega, by omega, by omega, fun p hp => ?_, f3.no_trans f4⟩
      by_cases hp2 : (p : Int) < i
      · exact i2 p hp2
      · have : (p : Int) = i := by omega
        rw [this]
        exact ⟨hn, (hx a).1 e⟩
  · have hi := (G.no f3).ge e
    rw [uniB_t fun p hp => i2 p (by omega)] at HK
    exact HK h3 f3

noncomputable def uniT (g : List (List Int)) (_ : Unit) (s : St) : Bool × Unit := (uniB g s.1 s.2, ())
noncomputable def toUniP (g : List (List Int)) (rs : List Int) (p : Int) : Int × Bool := if walkB g rs p then firstGo g (uniT g) 0 2001 0 () (rs, p) else (0, false)

theorem pop_and {P : Program} {t : TypeId} {K : Value → Prop} (k : IntKind) (a b : Int) (H : K (.int k (bits .and k a b))) : pop P (binA .and t (.int k a) (.int k b)) K :=
  .mk' (fun w => by simp [binA, eqGuard, binOp, intBits_and, bind, Sem.bind, pure, Sem.run]) H
theorem pop_shr {P : Program} {t : TypeId} {K : Value → Prop} (k : IntKind) (a b : Int) (hb : 0 ≤ b) (H : K (.int k (a.fdiv (2 ^ (min b.toNat k.bits))))) : pop P (binA .shr t (.int k a) (.int k b)) K :=
  .mk' (fun w => by simp [binA, eqGuard, binOp, Op.shift, show ¬ b < 0 by omega, bind, Sem.bind, pure, Sem.run]) H
theorem rop_conv {P : Program} {src dst : TypeId} {k k' : IntKind} (hs : P.underlying src = some (.int k)) (hd : P.underlying dst = some (.int k')) {h : Heap} {K : Value → Prop} (n : Int) (H : K (.int k' (k'.wrap n))) : rop P (convert src dst (.int k n)) h K := by
  have hk : P.intKind dst = k' := by simp [Program.intKind, hd]
  refine ⟨_, fun w hw => run_convert_int w src dst k n (by simp [hs]) (by rw [hk]; exact hd), ?_⟩
  rw [hk]
  exact H
theorem cut_zero {s : Sl} (h : s.n ≤ s.c) : s.cut 1 0 s.n s.c = s := by
  obtain ⟨a, n, c⟩ := s
  unfold Sl.cut
  cases a with
  | none => simp
  | some a => simp [at_add0]
/-- copy, to the cells from l on. -/
theorem eop_copy {P : Program} {t t2 e ty : TypeId} {bs : Nat} {z : List Value} (T : rowC P t = some (e, 1, bs, z)) {h : Heap} {F S : Nat → Prop} {s x : Sl} {vs us : List Value} (H : Ow h F e 1 s vs) (X : RdV S h 1 x us) (hp : us.all plainV = true) (l m : Nat) (hl : l ≤ s.n) (hm : m = min x.n (s.n - l))
    {K : Value → Heap → Prop} (HK : ∀ h', Ow h' F e 1 s (vs.take l ++ us.take m ++ vs.drop (l + m)) → Fr s.own h h' → K (VI m) h') : eop P (Builtin.copy_ #[t, t2] ty #[(s.cut 1 l s.n s.c).v, x.v]) h K := by
  obtain ⟨hu, i, zv, hi, hsz, rfl, hz, hzc, hzl, _, hbs, hb64, hsz8⟩ := rowC_spec T
  refine ⟨fun w hw => ?_⟩
  subst hw
  have hs1 : (P.info? e).map (·.size) = some 1 := by rw [hi]; simp [hsz]
  have hvl := H.len
  have hul := X.len
  by_cases h0 : m = 0
  · subst h0
    have hr := run_copy_none (P := P) w t t2 ty e (s.cut 1 l s.n s.c).a x.a (s.cut 1 l s.n s.c).n (s.cut 1 l s.n s.c).c x.n x.c hu hs1 (by simp only [Sl.cut]; exact hm.symm)
    refine ⟨_, w, hr, Same.refl w, HK w.heap ?_ (Fr.refl _ _)⟩
    simpa using H
  · rcases H.out with ⟨rfl, rfl⟩ | ⟨g, o, cur, ha, hF, hg, h1, h2, h3, h4⟩
    · simp [nilSl] at hm; omega
    · obtain ⟨a, hxa, _, _⟩ := X.cell 0 (by omega)
      have hcl : s.c ≠ l := by omega
      have hda : (s.cut 1 l s.n s.c).a = some ⟨g, o + l, none⟩ := by simp [Sl.cut, hcl, ha, add_mk]
      have hr := run_copy_row (P := P) w t t2 ty e g (o + l) (s.n - l) (s.c - l) a x.n x.c cur e (us.take m) hu hs1 hg (by rw [List.length_take, hm]; simp only [Nat.min_def]; split <;> split <;> omega) (fun j v hj => by
        obtain ⟨hjl, rfl⟩ := List.getElem?_eq_some_iff.1 hj
        have hjl2 : j < us.length := by simp at hjl; omega
        obtain ⟨a', ha', _, hc⟩ := X.cell j hjl2
        rw [hxa] at ha'
        obtain rfl : a = a' := by simpa using ha'
        simp only [List.getElem_take]
        exact hc) (by simp; omega) (fun u hu => by
        have := List.all_eq_true.1 hp u (List.mem_of_mem_take hu)
        cases u <;> simp [plainV] at this <;> rfl)
      have hml : (us.take m).length = m := by simp; omega
      rw [hml] at hr
      have hv : (s.cut 1 l s.n s.c).v = .slice (some ⟨g, o + l, none⟩) (s.n - l) (s.c - l) := by simp only [Sl.v, hda]; rfl
      have hxv : x.v = .slice (some a) x.n x.c := by simp only [Sl.v, hxa]
      rw [← hv, ← hxv] at hr
      refine ⟨_, _, hr, ⟨rfl, rfl, rfl⟩, HK _ ⟨?_, .inr ⟨g, o, _, ha, hF, setRow_heap w g cur _ e _ hg, h1, h2, ?_, ?_⟩⟩ ⟨by simp [World.setRow], fun k _ hk => setRow_other w g k _ (fun e => hk (by simp [Sl.own, ha, e]))⟩⟩
      · simp; omega
      · simp; omega
      · have hol : (cur.toList.take (o + l)).length = o + l := by simp; omega
        simp only [Nat.mul_one] at h4 hvl ⊢
        have e1 : (cur.toList.take (o + l) ++ us.take m ++ cur.toList.drop (o + l + m)).drop o = vs.take l ++ us.take m ++ cur.toList.drop (o + l + m) := by
          rw [List.append_assoc, List.drop_append_of_le_length (by omega), List.drop_take, show o + l - o = l by omega, ← h4, List.take_take, Nat.min_eq_left hl, List.append_assoc]
        (try simp only [List.toList_toArray])
        rw [e1, List.take_append, List.take_of_length_le (by simp; omega)]
        congr 1
        have e2 : (vs.take l ++ us.take m).length = l + m := by simp; omega
        rw [e2, ← h4, List.drop_take, List.drop_drop, Nat.add_assoc]
theorem eop_copy0 {P : Program} {t t2 e ty : TypeId} {bs : Nat} {z : List Value} (T : rowC P t = some (e, 1, bs, z)) {h : Heap} {F S : Nat → Prop} {s x : Sl} {vs us : List Value} (H : Ow h F e 1 s vs) (X : RdV S h 1 x us) (hp : us.all plainV = true) (m : Nat) (hm : m = min x.n s.n)
    {K : Value → Heap → Prop} (HK : ∀ h', Ow h' F e 1 s (us.take m ++ vs.drop m) → Fr s.own h h' → K (VI m) h') : eop P (Builtin.copy_ #[t, t2] ty #[s.v, x.v]) h K := by
  have := eop_copy (t2 := t2) (ty := ty) T H X hp 0 m (by omega) (by simpa using hm) (K := K) fun h' o f => HK h' (by simpa using o) f
  rw [cut_zero H.cap.1] at this
  exact this
theorem mul_small (a n : Int) (ha : a = 1) (h0 : 0 ≤ n) (h1 : n ≤ 8) : bits .and .u64 a 4294967295 = 1 ∧ bits .and .u64 n 4294967295 = n ∧ bits .and .u64 0 4294967295 = 0 := by
  subst ha
  refine ⟨by decide, ?_, by decide⟩
  have : n = 0 ∨ n = 1 ∨ n = 2 ∨ n = 3 ∨ n = 4 ∨ n = 5 ∨ n = 6 ∨ n = 7 ∨ n = 8 := by omega
  rcases this with rfl | rfl | rfl | rfl | rfl | rfl | rfl | rfl | rfl <;> decide
theorem u64_small {n : Int} (h0 : 0 ≤ n) (h1 : n < 18446744073709551616) : IntKind.u64.wrap n = n := by
  simp only [IntKind.wrap, IntKind.bits, IntKind.signed]
  simp
  omega
theorem fdiv_small {n : Int} (h0 : 0 ≤ n) (h1 : n < 4294967296) : n.fdiv (2 ^ (min (32 : Int).toNat IntKind.u64.bits)) = 0 := by
  have e : (2 : Int) ^ (min (32 : Int).toNat IntKind.u64.bits) = 4294967296 := by decide
  rw [e, Int.fdiv_eq_ediv_of_nonneg _ (by omega)]
  omega

/-- The places of a list that are not come to yet get the next number. -/
def bfsIn (x : Int) : List Int → List Int × List Int → List Int × List Int
  | [], s => s
  | q :: qs, s => bfsIn x qs (if s.1.getD q.toNat 0 < 0 then (s.1.set q.toNat (s.1.getD x.toNat 0 + 1), s.2 ++ [q]) else s)
def bfsP (g : List (List Int)) : Nat → List Int → List Int → List Int
  | 0, far, _ => far
  | _ + 1, far, [] => far
  | f + 1, far, x :: rest => bfsP g f (bfsIn x (g.getD x.toNat []) (far, [])).1 (rest ++ (bfsIn x (g.getD x.toNat []) (far, [])).2)
def farP (g : List (List Int)) (p : Int) : List Int := bfsP g g.length ((List.replicate g.length (-1)).set p.toNat 0) [p]
def negs (l : List Int) : Nat := (l.filter fun x => decide (x < 0)).length
theorem negs_set {l : List Int} {i : Nat} {v : Int} (h : i < l.length) (h1 : l[i] < 0) (h2 : 0 ≤ v) : negs (l.set i v) + 1 = negs l := by
  induction l generalizing i with
  | nil => simp at h
  | cons x xs ih =>
    cases i with
    | zero =>
      simp only [List.getElem_cons_zero] at h1
      simp only [negs, List.set_cons_zero, List.filter_cons, show ¬ v < 0 by omega, h1, decide_true, decide_false, if_true, Bool.false_eq_true, if_false, List.length_cons]
    | succ i =>
      have := ih (by simpa using h) (by simpa using h1)
      simp only [negs, List.set_cons_succ, List.filter_cons] at this ⊢
      split <;> (try simp only [List.length_cons]) <;> simp_all <;> omega
structure BOK (n : Nat) (far : List Int) : Prop where
  len : far.length = n
  lo : ∀ v, v ∈ far → -1 ≤ v
  hi : ∀ v, v ∈ far → v + negs far ≤ n
theorem BOK.step {n : Nat} {far : List Int} (B : BOK n far) {x q : Int} (hx : x.toNat < n) (hq : q.toNat < n) (hn : far.getD q.toNat 0 < 0) : BOK n (far.set q.toNat (far.getD x.toNat 0 + 1)) ∧ negs (far.set q.toNat (far.getD x.toNat 0 + 1)) + 1 = negs far := by
  have hl := B.len
  rw [getD_getI (by omega)] at hn
  rw [getD_getI (show x.toNat < far.length by omega)]
  have h1 := B.lo _ (List.getElem_mem (show x.toNat < far.length by omega))
  have h2 := B.hi _ (List.getElem_mem (show x.toNat < far.length by omega))
  have h3 := negs_set (show q.toNat < far.length by omega) hn (v := far[x.toNat]'(by omega) + 1) (by omega)
  refine ⟨⟨by simp [hl], fun v hv => ?_, fun v hv => ?_⟩, h3⟩
  · rcases List.mem_or_eq_of_mem_set hv with hv | rfl
    · exact B.lo v hv
    · omega
  · rcases List.mem_or_eq_of_mem_set hv with hv | rfl
    · have := B.hi v hv; omega
    · omega
theorem farP_none {g : List (List Int)} {p : Int} (h : g.getD p.toNat [] = []) : farP g p = (List.replicate g.length (-1)).set p.toNat 0 := by
  unfold farP
  cases hg : g.length with
  | zero => rfl
  | succ n =>
    rw [bfsP, h]
    cases n <;> rfl
theorem bok0 {n p : Nat} (hp : p < n) : BOK n ((List.replicate n (-1)).set p 0) ∧ negs ((List.replicate n (-1)).set p 0) + 1 = n := by
  have h1 : negs (List.replicate n (-1)) = n := by
    unfold negs
    rw [List.filter_replicate_of_pos (by decide)]
    simp
  have h2 := negs_set (l := List.replicate n (-1)) (i := p) (v := 0) (by simpa using hp) (by simp) (by omega)
  refine ⟨⟨by simp, fun v hv => ?_, fun v hv => ?_⟩, by omega⟩
  · rcases List.mem_or_eq_of_mem_set hv with hv | rfl
    · simp only [List.mem_replicate] at hv; omega
    · omega
  · rcases List.mem_or_eq_of_mem_set hv with hv | rfl
    · simp only [List.mem_replicate] at hv; omega
    · omega
theorem gq_mem {g : List (List Int)} (hg : graphB g = true) {x : Nat} (hx : x < g.length) {i : Nat} (hi : i < (g[x]).length) : 0 ≤ (g[x])[i] ∧ (g[x])[i] < (g.length : Int) := (graph_mem hg (List.getElem_mem hx)).2 _ (List.getElem_mem hi)

/-! What is drawn out of bytes: some value, in memory of its own. -/
structure CurD (a n : Nat) (h : Heap) (c : Sl) (i : Int) : Prop where
  code : ∃ vs, RdV (fun k => k < a) h 1 c vs ∧ ∀ v, v ∈ vs → ∃ m : Int, v = Value.int .u8 m ∧ 0 ≤ m ∧ m ≤ 255
  lo : 0 ≤ i
  hi : i ≤ (n : Int)
theorem CurD.fr {a n : Nat} {h h' : Heap} {c : Sl} {i : Int} {T : Nat → Prop} (D : CurD a n h c i) (f : Fr T h h') (hT : ∀ k, k < a → ¬ T k) : CurD a n h' c i := by
  obtain ⟨vs, h1, h2⟩ := D.code
  exact ⟨⟨vs, h1.fr f hT, h2⟩, D.lo, D.hi⟩
theorem CurD.no {a n : Nat} {h h' : Heap} {c : Sl} {i : Int} (D : CurD a n h c i) (f : Fr No h h') : CurD a n h' c i := D.fr f fun _ _ h => h
theorem CurD.up {a n m : Nat} {h : Heap} {c : Sl} {i : Int} (D : CurD a n h c i) (hm : n ≤ m) : CurD a m h c i := ⟨D.code, D.lo, by have := D.hi; omega⟩
theorem u64_rng (x : Int) : 0 ≤ IntKind.wrap .u64 x ∧ IntKind.wrap .u64 x < 18446744073709551616 := by
  rw [IntKind.wrap_u64]; omega
theorem and255 {x : Int} (h0 : 0 ≤ x) (h1 : x < 18446744073709551616) : 0 ≤ bits .and .u64 x 255 ∧ bits .and .u64 x 255 ≤ 255 := by
  have e := u64_and_nat x.toNat 255 (by omega) (by omega)
  rw [show ((x.toNat : Nat) : Int) = x by omega] at e
  have : x.toNat &&& 255 ≤ 255 := Nat.and_le_right
  rw [show ((255 : Nat) : Int) = 255 from rfl] at e
  rw [e]; omega
theorem vcur {h h' : Heap} {L : List (Nat × List Value)} (H : Vars h L) (i : Nat) {b : Nat} {cs cs' : List Value} (hi : nthL L i = some (b, cs)) (f : Fr (In [b]) h h') (V : IsVar h' b cs') : Vars h' (setL L i cs') :=
  H.set hi (f.mono fun k _ hk => by simpa [In] using hk) V

theorem eop_put {L : List (Nat × List Value)} {lo : Nat} {h : Heap} {o : Sl} {xs : List Int} {x : Int} (O : OwI h (fun k => lo ≤ k) o xs) (hlo : lo ≤ h.size) (hL : Vars h L) (hoff : ∀ p, p ∈ L → p.1 < lo) (hb : xs.length ≤ 1000000) (R : Sl → Heap → Prop) (HR : ∀ t h', OwI h' (fun k => lo ≤ k) t (xs ++ [x]) → Fr (fun k => lo ≤ k) h h' → Vars h' L → R t h') : eop Try.prog (Instr.buildSlice tIs 1 #[(0, VI x)]) h fun rv h1 => ∃ t : Sl, rv = t.v ∧ Vars h1 L ∧ eop Try.prog (appS tIs tIs tIs o.v t.v) h1 fun rv2 h2 => ∃ t2 : Sl, rv2 = t2.v ∧ Vars h2 L ∧ R t2 h2 := by
  refine eop_lit rIs (fun k => h.size ≤ k) (fun _ h => h) 1 (by omega) [VI x] rfl rfl fun t h1 n1 c1 o1 f1 m1 _ => ⟨t, rfl, hL.of_no f1, ?_⟩
  have z1 := f1.size
  have O1 : OwI h1 (fun k => lo ≤ k) o xs := Ow.no O f1
  have on := O1.rd.len
  have tn := o1.rd.len
  simp only [List.length_map, Nat.mul_one, List.length_cons, List.length_nil] at on tn
  refine eop_append rIs O1 (fun k hk => by omega) o1.rd (plainVI [x]) (by omega) fun s' h2 n2 o2 f2 d2 => ?_
  have g2 : Fr (fun k => lo ≤ k) h1 h2 := f2.mono fun k _ hk => (O1.foot hk).1
  have V2 : Vars h2 L := (hL.of_no f1).fr g2 fun p hp hk => by have := hoff p hp; omega
  exact ⟨s', rfl, V2, HR s' h2 (by rw [OwI, List.map_append]; exact o2) (f1.of_no.trans g2) V2⟩
theorem eop_putR {L : List (Nat × List Value)} {lo m : Nat} {h : Heap} {s x : Sl} {xss : List (List Int)} {ys : List Int} (O : OwX h (Iv lo m) s xss) (X : OwI h (fun k => m ≤ k) x ys) (hlo : lo ≤ m) (hm : m ≤ h.size) (hL : Vars h L) (hoff : ∀ p, p ∈ L → p.1 < lo) (hb : xss.length ≤ 1000000) (R : Sl → Heap → Prop) (HR : ∀ t h', OwX h' (fun k => lo ≤ k) t (xss ++ [ys]) → Fr (fun k => lo ≤ k) h h' → Vars h' L → R t h') : eop Try.prog (Instr.buildSlice tIss 1 #[(0, x.v)]) h fun rv h1 => ∃ t : Sl, rv = t.v ∧ Vars h1 L ∧ eop Try.prog (appS tIss tIss tIss s.v t.v) h1 fun rv2 h2 => ∃ t2 : Sl, rv2 = t2.v ∧ Vars h2 L ∧ R t2 h2 := by
  refine eop_lit rIss (fun k => h.size ≤ k) (fun _ h => h) 1 (by omega) [x.v] rfl rfl fun t h1 n1 c1 o1 f1 m1 _ => ⟨t, rfl, hL.of_no f1, ?_⟩
  have z1 := f1.size
  refine OwR.snoc rIss (OwR.no O f1) (F' := fun k => lo ≤ k) (fun k _ hk => hk.1) (fun k hk => by omega) ((Ow.no X f1).mono fun k _ hk => Nat.le_trans hlo hk) (fun k hk hk2 => by have := (X.foot hk).1; have := hk2.2; omega) o1.rd (by omega) fun y h2 o2 f2 => ?_
  have g2 : Fr (fun k => lo ≤ k) h1 h2 := f2.mono fun k _ hk => hk.1
  have V2 : Vars h2 L := (hL.of_no f1).fr g2 fun p hp hk => by have := hoff p hp; omega
  exact ⟨y, rfl, V2, HR y h2 o2 (f1.of_no.trans g2) V2⟩
def cycR (n : Int) (both : Bool) (p : Int) : List Int := [(p + 1).tmod n] ++ (if both then [(p + n - 1).tmod n] else [])
def cycL' (n : Int) (both : Bool) : Nat → List (List Int)
  | 0 => []
  | p + 1 => cycL' n both p ++ [cycR n both p]
theorem cycL_length (n : Int) (both : Bool) : ∀ p, (cycL' n both p).length = p
  | 0 => rfl
  | p + 1 => by rw [cycL', List.length_append, cycL_length n both p]; rfl
def cycP (n : Nat) (both : Bool) : List (List Int) := cycL' n both n

theorem row_put {L : List (Nat × List Value)} {lo : Nat} {h : Heap} {s : Sl} {xss : List (List Int)} {i : Int} (O : OwX h (fun k => lo ≤ k) s xss) (hlo : lo ≤ h.size) (h0 : 0 ≤ i) (h1 : i < (xss.length : Int)) (hL : Vars h L) (hoff : ∀ p, p ∈ L → p.1 < lo) (hb : (xss[i.toNat]'(by omega)).length ≤ 1000000) (x : Int) : ∃ si : Sl, hcell h (s.at i 1) = some si.v ∧ ∀ R : Heap → Prop, (∀ h', OwX h' (fun k => lo ≤ k) s (xss.set i.toNat (xss[i.toNat]'(by omega) ++ [x])) → Fr (fun k => lo ≤ k) h h' → Vars h' L → R h') → eop Try.prog (Instr.buildSlice tIs 1 #[(0, VI x)]) h fun rv h1 => ∃ t : Sl, rv = t.v ∧ Vars h1 L ∧ hcell h1 (s.at i 1) = some si.v ∧ eop Try.prog (appS tIs tIs tIs si.v t.v) h1 fun rv2 h2 => ∃ t2 : Sl, rv2 = t2.v ∧ Vars h2 L ∧ InB s i ∧ Writable h2 (s.at i 1) ∧ Vars (hset h2 (s.at i 1) t2.v) L ∧ ∀ h3, h3 = hset h2 (s.at i 1) t2.v → Vars h3 L → R h3 := by
  have Oi := OwR.toIv O
  obtain ⟨si, c1, c2, _⟩ := Oi.inner h0 h1
  refine ⟨si, c1, fun R HR => ?_⟩
  refine eop_lit rIs (fun k => h.size ≤ k) (fun _ h => h) 1 (by omega) [VI x] rfl rfl fun t h9 n9 c9 o9 f9 m9 _ => ⟨t, rfl, hL.of_no f9, hcell_fr c1 f9 (fun h => h), ?_⟩
  have s9 := f9.size
  have O9 := OwR.no Oi f9
  have c2' : OwI h9 (fun k => lo ≤ k) si (xss[i.toNat]'(by omega)) := (Ow.no c2 f9).mono fun k _ hk => hk.1
  have on := c2'.rd.len
  have tn := o9.rd.len
  simp only [List.length_map, Nat.mul_one, List.length_cons, List.length_nil] at on tn
  refine eop_append rIs c2' (fun k hk => by omega) o9.rd (plainVI [x]) (by omega) fun w h10 n10 o10 f10 d10 => ?_
  have g10 : Fr (fun k => lo ≤ k) h9 h10 := f10.mono fun k _ hk => (c2'.foot hk).1
  have V10 : Vars h10 L := (hL.of_no f9).fr g10 fun p hp hk => by have := hoff p hp; omega
  have o10' : OwI h10 (fun k => lo ≤ k) w (xss[i.toNat]'(by omega) ++ [x]) := by rw [OwI, List.map_append]; exact o10
  obtain ⟨i11, w11, o11, f11⟩ := O9.outer2 h0 h1 (hcell_fr c1 f9 fun h => h) f10 (F' := fun k => lo ≤ k) o10' (fun k _ hk => hk.1) fun k hk => (d10 k hk).imp id fun hk2 hk3 => by have := hk3.2; omega
  have g11 : Fr (fun k => lo ≤ k) h10 _ := (O9.ownF f11).mono fun k _ hk => hk.1
  have V11 := V10.fr g11 fun p hp hk => by have := hoff p hp; omega
  exact ⟨w, rfl, V10, i11, w11, V11, fun h3 e3 V3 => HR h3 (by rw [e3]; exact o11) (by rw [e3]; exact (f9.of_no.trans g10).trans g11) V3⟩
/-- Rows of at most q places out of N. -/
def GR (N : Int) (q : Nat) (xss : List (List Int)) : Prop := ∀ l, l ∈ xss → l.length ≤ q ∧ ∀ x, x ∈ l → 0 ≤ x ∧ x < N
theorem GR.nil (N : Int) (q : Nat) : GR N q [] := fun l hl => by cases hl
theorem GR.snoc {N : Int} {q : Nat} {xss : List (List Int)} {l : List Int} (H : GR N q xss) (h1 : l.length ≤ q) (h2 : ∀ x, x ∈ l → 0 ≤ x ∧ x < N) : GR N q (xss ++ [l]) := fun y hy => by
  rcases List.mem_append.1 hy with a | a
  · exact H y a
  · simp only [List.mem_cons, List.not_mem_nil, or_false] at a; rw [a]; exact ⟨h1, h2⟩
theorem GR.set {N : Int} {q : Nat} {xss : List (List Int)} {l : List Int} (H : GR N q xss) (i : Nat) (h1 : l.length ≤ q) (h2 : ∀ x, x ∈ l → 0 ≤ x ∧ x < N) : GR N q (xss.set i l) := fun y hy => by
  rcases List.mem_or_eq_of_mem_set hy with a | a
  · exact H y a
  · rw [a]; exact ⟨h1, h2⟩
theorem GR.up {N : Int} {q r : Nat} {xss : List (List Int)} (H : GR N q xss) (h : q ≤ r) : GR N r xss := fun l hl => ⟨Nat.le_trans (H l hl).1 h, (H l hl).2⟩
theorem GR.graph {q : Nat} {xss : List (List Int)} (H : GR xss.length q xss) (hq : q ≤ 5) (h1 : 1 ≤ xss.length) (h2 : xss.length ≤ 8) : graphB xss = true := by
  rw [graphB_eq (inR_iff.2 ⟨by omega, by omega⟩), List.all_eq_true]
  intro l hl
  have := H l hl
  rw [Bool.and_eq_true, Bool.not_eq_true', decide_eq_false_iff_not, List.all_eq_true]
  exact ⟨by omega, fun x hx => inR_iff.2 (by have := this.2 x hx; omega)⟩
theorem cyc_GR {n : Nat} (hn : 1 ≤ n) (both : Bool) : GR n 2 (cycP n both) := by
  have key : ∀ p, GR n 2 (cycL' n both p) := by
    intro p
    induction p with
    | zero => exact GR.nil _ _
    | succ p ih =>
      rw [cycL']
      refine ih.snoc ?_ ?_
      · unfold cycR; split <;> simp
      · intro x hx
        unfold cycR at hx
        rcases List.mem_append.1 hx with a | a
        · simp only [List.mem_cons, List.not_mem_nil, or_false] at a
          rw [a]; exact ⟨Int.tmod_nonneg _ (by omega), Int.tmod_lt_of_pos _ (by omega)⟩
        · split at a
          · simp only [List.mem_cons, List.not_mem_nil, or_false] at a
            rw [a]; exact ⟨Int.tmod_nonneg _ (by omega), Int.tmod_lt_of_pos _ (by omega)⟩
          · cases a
  exact key n

theorem row_set {L : List (Nat × List Value)} {F : Nat → Prop} {m : Nat} {h : Heap} {s x : Sl} {xss : List (List Int)} {ys : List Int} {i : Int} (O : OwX h (fun k => F k ∧ k < m) s xss) (X : OwI h (fun k => m ≤ k) x ys) (hF : ∀ k, m ≤ k → F k) (h0 : 0 ≤ i) (h1 : i < (xss.length : Int)) (hL : Vars h L) (hoff : ∀ p, p ∈ L → ¬ F p.1) (R : Heap → Prop) (HR : ∀ h', OwX h' F s (xss.set i.toNat ys) → Fr F h h' → Vars h' L → R h') : InB s i ∧ Writable h (s.at i 1) ∧ Vars (hset h (s.at i 1) x.v) L ∧ ∀ h3, h3 = hset h (s.at i 1) x.v → Vars h3 L → R h3 := by
  obtain ⟨si, c1, c2, _⟩ := O.inner h0 h1
  obtain ⟨i11, w11, o11, f11⟩ := O.outer2 h0 h1 c1 (Fr.refl _ _) (F' := F) (X.mono fun k _ hk => hF k hk) (fun k _ hk => hk.1) fun k hk => .inr fun hk2 => by have := (X.foot hk).1; have := hk2.2; omega
  have g11 : Fr F h _ := (O.ownF f11).mono fun k _ hk => hk.1
  have V11 := hL.fr g11 hoff
  exact ⟨i11, w11, V11, fun h3 e3 V3 => HR h3 (by rw [e3]; exact o11) (by rw [e3]; exact g11) V3⟩

theorem int_set {L : List (Nat × List Value)} {F : Nat → Prop} {h : Heap} {s : Sl} {xs : List Int} {i : Int} {v : Int} (O : OwI h F s xs) (h0 : 0 ≤ i) (h1 : i < (xs.length : Int)) (hL : Vars h L) (hoff : ∀ p, p ∈ L → ¬ F p.1) (R : Heap → Prop) (HR : ∀ h', OwI h' F s (xs.set i.toNat v) → Fr F h h' → Vars h' L → R h') : InB s i ∧ Writable h (s.at i 1) ∧ Vars (hset h (s.at i 1) (VI v)) L ∧ ∀ h3, h3 = hset h (s.at i 1) (VI v) → Vars h3 L → R h3 := by
  have on := O.rd.len
  simp only [List.length_map, Nat.mul_one] at on
  obtain ⟨w1, w2, w3⟩ := O.store1 h0 (by omega) (VI v)
  have g : Fr F h _ := w3.mono fun k _ hk => (O.foot hk).1
  have V := hL.fr g hoff
  exact ⟨O.rd.inb h0 (by simp; omega), w1, V, fun h3 e3 V3 => HR h3 (by rw [e3, OwI, List.map_set]; exact w2) (by rw [e3]; exact g) V3⟩

theorem cell_keep {S T : Nat → Prop} {h h' : Heap} {s : Sl} {xss : List (List Int)} {i : Int} (R : RdR S h s xss) (h0 : 0 ≤ i) (h1 : i < (xss.length : Int)) (f : Fr T h h') (hd : ∀ k, S k → ¬ T k) {v : Value} (c : hcell h (s.at i 1) = some v) : hcell h' (s.at i 1) = some v := by
  obtain ⟨ss, e, V, _⟩ := R.out
  obtain ⟨a, ha, hs, _⟩ := V.cell i.toNat (by simp; omega)
  refine hcell_fr c f ?_
  rw [at_one ha, add_block]
  exact hd _ hs
theorem slv_inj {a b : Sl} (h : some a.v = some b.v) : a = b := by
  cases a; cases b; simp [Sl.v] at h; simp [h]
theorem row_putF {L : List (Nat × List Value)} {F : Nat → Prop} {h : Heap} {s si : Sl} {xss : List (List Int)} {i : Int} (O : OwX h F s xss) (hF : ∀ k, h.size ≤ k → F k) (h0 : 0 ≤ i) (h1 : i < (xss.length : Int)) (c0 : hcell h (s.at i 1) = some si.v) (hL : Vars h L) (hoff : ∀ p, p ∈ L → ¬ F p.1) (hb : (xss[i.toNat]'(by omega)).length ≤ 1000000) (x : Int) (R : Heap → Prop) (HR : ∀ h', OwX h' F s (xss.set i.toNat (xss[i.toNat]'(by omega) ++ [x])) → Fr F h h' → Vars h' L → R h') : eop Try.prog (Instr.buildSlice tIs 1 #[(0, VI x)]) h fun rv h1 => ∃ t : Sl, rv = t.v ∧ Vars h1 L ∧ hcell h1 (s.at i 1) = some si.v ∧ eop Try.prog (appS tIs tIs tIs si.v t.v) h1 fun rv2 h2 => ∃ t2 : Sl, rv2 = t2.v ∧ Vars h2 L ∧ InB s i ∧ Writable h2 (s.at i 1) ∧ Vars (hset h2 (s.at i 1) t2.v) L ∧ ∀ h3, h3 = hset h2 (s.at i 1) t2.v → Vars h3 L → R h3 := by
  have Oi : OwX h (fun k => F k ∧ k < h.size) s xss := O.mono fun k hk hk2 => ⟨hk2, hk⟩
  obtain ⟨sj, c1, c2, _⟩ := Oi.inner h0 h1
  have : sj = si := slv_inj (c1.symm.trans c0)
  subst this
  refine eop_lit rIs (fun k => h.size ≤ k) (fun _ h => h) 1 (by omega) [VI x] rfl rfl fun t h9 n9 c9 o9 f9 m9 _ => ⟨t, rfl, hL.of_no f9, hcell_fr c1 f9 (fun h => h), ?_⟩
  have s9 := f9.size
  have O9 := OwR.no Oi f9
  have c2' : OwI h9 F sj (xss[i.toNat]'(by omega)) := (Ow.no c2 f9).mono fun k _ hk => hk.1
  have on := c2'.rd.len
  have tn := o9.rd.len
  simp only [List.length_map, Nat.mul_one, List.length_cons, List.length_nil] at on tn
  refine eop_append rIs c2' (fun k hk => hF k (by omega)) o9.rd (plainVI [x]) (by omega) fun w h10 n10 o10 f10 d10 => ?_
  have g10 : Fr F h9 h10 := f10.mono fun k _ hk => (c2'.foot hk).1
  have V10 : Vars h10 L := (hL.of_no f9).fr g10 hoff
  have o10' : OwI h10 F w (xss[i.toNat]'(by omega) ++ [x]) := by rw [OwI, List.map_append]; exact o10
  obtain ⟨i11, w11, o11, f11⟩ := O9.outer2 h0 h1 (hcell_fr c1 f9 fun h => h) f10 (F' := F) o10' (fun k _ hk => hk.1) fun k hk => (d10 k hk).imp id fun hk2 hk3 => by have := hk3.2; omega
  have g11 : Fr F h10 _ := (O9.ownF f11).mono fun k _ hk => hk.1
  have V11 := V10.fr g11 hoff
  exact ⟨w, rfl, V10, i11, w11, V11, fun h3 e3 V3 => HR h3 (by rw [e3]; exact o11) (by rw [e3]; exact (f9.of_no.trans g10).trans g11) V3⟩
theorem eop_putF {L : List (Nat × List Value)} {F : Nat → Prop} {m : Nat} {h : Heap} {s x : Sl} {xss : List (List Int)} {ys : List Int} (O : OwX h (fun k => F k ∧ k < m) s xss) (X : OwI h (fun k => m ≤ k) x ys) (hF : ∀ k, m ≤ k → F k) (hm : m ≤ h.size) (hL : Vars h L) (hoff : ∀ p, p ∈ L → ¬ F p.1) (hb : xss.length ≤ 1000000) (R : Sl → Heap → Prop) (HR : ∀ t h', OwX h' F t (xss ++ [ys]) → Fr F h h' → Vars h' L → R t h') : eop Try.prog (Instr.buildSlice tIss 1 #[(0, x.v)]) h fun rv h1 => ∃ t : Sl, rv = t.v ∧ Vars h1 L ∧ eop Try.prog (appS tIss tIss tIss s.v t.v) h1 fun rv2 h2 => ∃ t2 : Sl, rv2 = t2.v ∧ Vars h2 L ∧ R t2 h2 := by
  refine eop_lit rIss (fun k => h.size ≤ k) (fun _ h => h) 1 (by omega) [x.v] rfl rfl fun t h1 n1 c1 o1 f1 m1 _ => ⟨t, rfl, hL.of_no f1, ?_⟩
  have z1 := f1.size
  refine OwR.snoc rIss (OwR.no O f1) (F' := F) (fun k _ hk => hk.1) (fun k hk => hF k (by omega)) ((Ow.no X f1).mono fun k _ hk => hF k hk) (fun k hk hk2 => by have := (X.foot hk).1; have := hk2.2; omega) o1.rd (by omega) fun y h2 o2 f2 => ?_
  have g2 : Fr F h1 h2 := f2.mono fun k _ hk => hk.1
  have V2 : Vars h2 L := (hL.of_no f1).fr g2 hoff
  exact ⟨y, rfl, V2, HR y h2 o2 (f1.of_no.trans g2) V2⟩

@[reducible] def tW : TypeId := 101
@[reducible] def tWs : TypeId := 67
theorem rWs : rowC Try.prog tWs = some (tW, 2, 32, [nilSl.v, VI 0]) := by kernel_rfl
@[reducible] def OwWS (h : Heap) (F : Nat → Prop) (s : Sl) (ws : List (List Int × Int)) : Prop := OwW h F tW tI s ws
def totW (ws : List (List Int × Int)) : Nat := (ws.map fun w => w.1.length + 1).sum
def numW : Int → List (List Int × Int) → List (List Int × Int)
  | _, [] => []
  | k, w :: ws => (numI k w.1, k + w.1.length) :: numW (k + w.1.length + 1) ws
theorem numW_length : ∀ (ws : List (List Int × Int)) (k : Int), (numW k ws).length = ws.length
  | [], _ => rfl
  | w :: ws, k => by simp [numW, numW_length ws]
theorem numW_get : ∀ (ws : List (List Int × Int)) (k : Int) (i : Nat) (h : i < (numW k ws).length) (h' : i < ws.length), (numW k ws)[i] = (numI (k + totW (ws.take i)) ws[i].1, k + totW (ws.take i) + ws[i].1.length)
  | w :: ws, k, 0, _, _ => by simp [numW, totW]
  | w :: ws, k, i + 1, h, h' => by
    simp only [numW, List.getElem_cons_succ]
    rw [numW_get ws _ i (by simpa [numW] using h) (by simpa using h')]
    have e : k + (w.1.length : Int) + 1 + (totW (ws.take i) : Int) = k + (totW ((w :: ws).take (i + 1)) : Int) := by simp only [totW, List.take_succ_cons, List.map_cons, List.sum_cons]; omega
    rw [e]
theorem totW_take_le : ∀ (ws : List (List Int × Int)) (i : Nat), totW (ws.take i) ≤ totW ws
  | [], i => by simp [totW]
  | x :: xs, 0 => by simp [totW]
  | x :: xs, i + 1 => by
    have := totW_take_le xs i
    simp only [totW, List.take_succ_cons, List.map_cons, List.sum_cons] at *
    omega
theorem totW_snoc (ws : List (List Int × Int)) (i : Nat) (h : i < ws.length) : totW (ws.take (i + 1)) = totW (ws.take i) + ws[i].1.length + 1 := by
  rw [List.take_succ_eq_append_getElem h]
  simp only [totW, List.map_append, List.sum_append, List.map_cons, List.map_nil, List.sum_cons, List.sum_nil]
  omega
theorem totW_append (a b : List (List Int × Int)) : totW (a ++ b) = totW a + totW b := by simp [totW]

theorem g_eqWalkS {S S' : Nat → Prop} {h : Heap} {a b : Sl} {ws : List (List Int × Int)} (H : RdW S h a ws) (H' : RdW S' h b ws) : Ret Try.prog 47 #[a.v, b.v] h (VB true) := by
  intro K HK
  have hl := H.len
  have hbig := H.big
  refine v47 a b h K ⟨fun e => ?_, fun _ => ?_⟩
  · have := not_t e
    rw [H.len, H'.len] at this
    simp at this
  · refine ⟨fun n i h' => Fr No h h' ∧ 0 ≤ i ∧ i + n = (ws.length : Int), ⟨ws.length, Fr.refl _ _, by omega, by omega⟩, ?_⟩
    rintro n i h1 ⟨f, i0, i1⟩ hL
    refine ⟨fun e => ?_, fun e => HK _ f⟩
    have hi : i < (ws.length : Int) := by simp at e; omega
    obtain ⟨b1, x, c1, r1⟩ := (H.no f).get i0 hi
    obtain ⟨b2, y, c2, r2⟩ := (H'.no f).get i0 hi
    refine ⟨b1, x, _, c1, b2, y, _, c2, k_eqWalk r1 r2 _ _ _ fun h2 f2 => ⟨_, rfl, .nil, fun e => ?_, fun e => ?_⟩⟩
    · rw [decide_eq_true ⟨rfl, rfl⟩] at e
      simp at e
    · rw [w64_succ (n := ws.length) i0 hi (by omega)]
      exact ⟨n - 1, by omega, f.no_trans f2, by omega, by omega⟩

theorem g_markWalkS {a b : Nat} {h : Heap} {s : Sl} {ws : List (List Int × Int)} (H : OwWS h (Iv a b) s ws) (hn : totW ws ≤ 1048576) (k : Int) (h0 : 1 ≤ k) (hk : k ≤ 10000000000) (K : Value → Heap → Prop) (HK : ∀ h', OwWS h' (Iv a b) s (numW k ws) → Fr (Iv a b) h h' → K (VI (k + totW ws)) h') : callM Try.prog 48 #[s.v, VI k] h K := by
  have hl : s.n = ws.length := H.len
  have hbig := H.rd.big
  refine v48 s k h K ⟨fun n k' i h' => 0 ≤ i ∧ i + n = (ws.length : Int) ∧ k' = k + totW (ws.take i.toNat) ∧ OwWS h' (Iv a b) s ((numW k ws).take i.toNat ++ ws.drop i.toNat) ∧ Fr (Iv a b) h h', ⟨ws.length, by omega, by omega, by simp [totW], by simpa using H, Fr.refl _ _⟩, ?_⟩
  rintro n k' i h' ⟨i0, i1, rfl, H', f⟩ hL
  refine ⟨fun e => ?_, fun e => ?_⟩
  · have hi : i < (s.n : Int) := by simpa using e
    have hlen : ((numW k ws).take i.toNat ++ ws.drop i.toNat).length = ws.length := by simp [numW_length]; omega
    have hlen2 : ((numW k ws).take i.toNat).length = i.toNat := by simp [numW_length]; omega
    obtain ⟨b1, si, c1, c2, c3⟩ := H'.inner i0 (by omega)
    have e1 : ((numW k ws).take i.toNat ++ ws.drop i.toNat)[i.toNat]'(by omega) = ws[i.toNat]'(by omega) := by
      rw [List.getElem_append_right (by omega)]
      simp [hlen2]
    rw [e1] at c2
    have hle := totW_take_le ws i.toNat
    have hle2 := totW_take_le ws (i.toNat + 1)
    have hsn := totW_snoc ws i.toNat (by omega)
    refine ⟨b1, si, c1, k_markIntS c2 _ (by omega) (by omega) (by omega) _ fun h2 o2 f2 => ⟨_, rfl, .nil, b1, ?_⟩⟩
    obtain ⟨w1, w2, w3⟩ := c3 h2 _ (k + totW (ws.take i.toNat) + (ws[i.toNat]'(by omega)).1.length) f2 o2
    refine ⟨w1, .nil, fun h3 e3 _ => ?_⟩
    subst e3
    rw [w64_succ (n := ws.length) i0 (by omega) (by omega), w64_eq _ (by omega) (by omega)]
    refine ⟨n - 1, by omega, by omega, by omega, ?_, ?_, ?_⟩
    · rw [toNat_succ i0, hsn]; omega
    · rw [← numW_get ws k i.toNat (by rw [numW_length]; omega) (by omega), set_mid _ _ _ _ (by omega)] at w2
      rw [toNat_succ i0]
      exact w2
    · exact (f.trans (f2.mono fun k _ hk => (c2.foot hk).1)).trans (H'.ownF w3)
  · have hi : ¬ i < (s.n : Int) := by simpa using e
    have e4 : i = ws.length := by omega
    subst e4
    have := HK h' (by simpa [List.take_of_length_le, numW_length] using H') f
    simpa using this

theorem g_heldWalkS {S : Nat → Prop} {h : Heap} {s : Sl} {k : Int} {ws : List (List Int × Int)} (H : RdW S h s (numW k ws)) (hn : totW ws ≤ 1048576) (h0 : 1 ≤ k) (hk : k ≤ 10000000000) : Ret Try.prog 49 #[s.v, VI k] h (VI (k + totW ws)) := by
  intro K HK
  have hl : s.n = ws.length := by have := H.len; rw [numW_length] at this; exact this
  have hbig := H.big
  refine v49 s k h K ⟨fun n k' i h' => Fr No h h' ∧ 0 ≤ i ∧ i + n = (ws.length : Int) ∧ k' = k + totW (ws.take i.toNat), ⟨ws.length, Fr.refl _ _, by omega, by omega, by simp [totW]⟩, ?_⟩
  rintro n k' i h1 ⟨f, i0, i1, rfl⟩ hL
  refine ⟨fun e => ?_, fun e => ?_⟩
  · have hi : i < (s.n : Int) := by simpa using e
    obtain ⟨b1, x, c1, r1⟩ := (H.no f).get i0 (by rw [numW_length]; omega)
    rw [numW_get ws k i.toNat _ (by omega)] at c1 r1
    have hle := totW_take_le ws i.toNat
    have hle2 := totW_take_le ws (i.toNat + 1)
    have hsn := totW_snoc ws i.toNat (by omega)
    refine ⟨b1, x, c1 0 (by simp), k_heldIntS _ r1 (by omega) (by omega) (by omega) _ ⟨_, rfl, .nil, fun e => ?_, fun e => ⟨b1, _, c1 1 (by simp), fun e => ?_, fun e => ?_⟩⟩⟩
    · simp only [decide_eq_true_eq] at e
      omega
    · have := not_t e
      simp at this
    · rw [w64_succ (n := ws.length) i0 (by omega) (by omega), w64_eq _ (by omega) (by omega)]
      exact ⟨n - 1, by omega, f, by omega, by omega, by rw [toNat_succ i0, hsn]; omega⟩
  · have hi : ¬ i < (s.n : Int) := by simpa using e
    have e4 : i = ws.length := by omega
    subst e4
    have := HK _ f
    simpa using this

def wbAt (g : List (List Int)) (rs : List Int) (p : Int) (i : Nat) : List (List Int × Int) :=
  if (g.getD i []).length = 0 then [] else if (g.getD i []).getD (rs.getD i 0).toNat 0 = p then [(rs.set i ((rs.getD i 0 + (g.getD i []).length - 1).tmod (g.getD i []).length), (i : Int))] else []
def wbL (g : List (List Int)) (rs : List Int) (p : Int) : Nat → List (List Int × Int)
  | 0 => []
  | n + 1 => wbL g rs p n ++ wbAt g rs p n
def wbP (g : List (List Int)) (rs : List Int) (p : Int) : List (List Int × Int) × Bool := if walkB g rs p then (wbL g rs p g.length, true) else ([], false)
theorem wbAt_len (g : List (List Int)) (rs : List Int) (p : Int) (i : Nat) : (wbAt g rs p i).length ≤ 1 ∧ totW (wbAt g rs p i) ≤ rs.length + 1 := by
  unfold wbAt
  split
  · simp [totW]
  · split <;> simp [totW]
theorem wbL_len (g : List (List Int)) (rs : List Int) (p : Int) : ∀ n, (wbL g rs p n).length ≤ n ∧ totW (wbL g rs p n) ≤ n * (rs.length + 1)
  | 0 => by simp [wbL, totW]
  | n + 1 => by
    have h1 := wbL_len g rs p n
    have h2 := wbAt_len g rs p n
    rw [wbL, totW_append, List.length_append, Nat.add_mul]
    omega
theorem wbP_len (g : List (List Int)) (rs : List Int) (p : Int) : totW (wbP g rs p).1 ≤ 72 := by
  unfold wbP
  split
  · rename_i h
    have W := wok_of h
    have h1 := graph_len W.graph
    have h2 := W.len
    have h3 := (wbL_len g rs p g.length).2
    simp only at h2 ⊢
    rw [h2] at h3
    have h4 : g.length * (g.length + 1) ≤ 8 * 9 := Nat.mul_le_mul (by omega) (by omega)
    omega
  · simp [totW]

/-! Determinants, by the first row. -/
def skp (k j : Nat) : Nat := if j < k then j else j + 1
def sgn (k : Nat) : Int := if k % 2 = 0 then 1 else -1
def sumZ (f : Nat → Int) : Nat → Int
  | 0 => 0
  | n + 1 => sumZ f n + f n
abbrev Mat := Nat → Nat → Int
def det : Nat → Mat → Int
  | 0, _ => 1
  | n + 1, A => sumZ (fun k => sgn k * A 0 k * det n (fun i j => A (i + 1) (skp k j))) (n + 1)
theorem sgn_succ (k : Nat) : sgn (k + 1) = -sgn k := by
  unfold sgn
  by_cases h : k % 2 = 0
  · rw [if_pos h, if_neg (by omega)]
  · rw [if_neg h, if_pos (by omega)]; rfl
theorem sumZ_congr {f f' : Nat → Int} : ∀ {n : Nat}, (∀ i, i < n → f i = f' i) → sumZ f n = sumZ f' n
  | 0, _ => rfl
  | n + 1, h => by rw [sumZ, sumZ, sumZ_congr fun i hi => h i (by omega), h n (by omega)]
theorem sumZ_add (f f' : Nat → Int) : ∀ n, sumZ (fun i => f i + f' i) n = sumZ f n + sumZ f' n
  | 0 => rfl
  | n + 1 => by rw [sumZ, sumZ, sumZ, sumZ_add f f' n]; omega
theorem sumZ_mul (c : Int) (f : Nat → Int) : ∀ n, sumZ (fun i => c * f i) n = c * sumZ f n
  | 0 => by simp [sumZ]
  | n + 1 => by rw [sumZ, sumZ, sumZ_mul c f n, Int.mul_add]
theorem sumZ_zero {f : Nat → Int} : ∀ {n : Nat}, (∀ i, i < n → f i = 0) → sumZ f n = 0
  | 0, _ => rfl
  | n + 1, h => by rw [sumZ, sumZ_zero fun i hi => h i (by omega), h n (by omega)]; rfl
theorem sumZ_swap (f : Nat → Nat → Int) (m : Nat) : ∀ n, sumZ (fun i => sumZ (fun j => f i j) m) n = sumZ (fun j => sumZ (fun i => f i j) n) m
  | 0 => by rw [sumZ]; exact (sumZ_zero fun i _ => rfl).symm
  | n + 1 => by
    rw [sumZ, sumZ_swap f m n, ← sumZ_add]
    exact sumZ_congr fun j _ => rfl
theorem sumZ_neg (f : Nat → Int) (n : Nat) : sumZ (fun i => -f i) n = -sumZ f n := by
  have := sumZ_mul (-1) f n
  rw [show (fun i => -f i) = fun i => -1 * f i from funext fun i => by omega, this]; omega
theorem sumZ_skp (f : Nat → Int) : ∀ {n k : Nat}, k ≤ n → sumZ (fun l => f (skp k l)) n + f k = sumZ f (n + 1)
  | 0, k, h => by rw [show k = 0 by omega]; simp [sumZ]
  | n + 1, k, h => by
    by_cases e : k = n + 1
    · subst e
      show sumZ (fun l => f (skp (n + 1) l)) (n + 1) + f (n + 1) = sumZ f (n + 1) + f (n + 1)
      exact congrArg (· + f (n + 1)) (show sumZ (fun l => f (skp (n + 1) l)) (n + 1) = sumZ f (n + 1) from sumZ_congr fun i hi => by (try simp only); unfold skp; rw [if_pos hi])
    · have ih := sumZ_skp f (n := n) (k := k) (by omega)
      rw [sumZ, sumZ, ← ih]
      have : skp k n = n + 1 := by unfold skp; rw [if_neg (by omega)]
      rw [this]
      omega
theorem det_congr : ∀ {n : Nat} {A B : Mat}, (∀ i j, i < n → j < n → A i j = B i j) → det n A = det n B
  | 0, _, _, _ => rfl
  | n + 1, A, B, h => by
    rw [det, det]
    refine sumZ_congr fun k hk => ?_
    (try simp only)
    rw [h 0 k (by omega) hk, det_congr fun i j hi hj => h (i + 1) (skp k j) (by omega) (by unfold skp; split <;> omega)]
def rowS (A : Mat) (i : Nat) (X : Nat → Int) : Mat := fun r => if r = i then X else A r
theorem rowS_same (A : Mat) (i : Nat) : rowS A i (A i) = A := by
  funext r
  unfold rowS
  split
  · rename_i h; rw [h]
  · rfl
theorem det_lin : ∀ {n i : Nat} (A : Mat) (c : Int) (X Y : Nat → Int), i < n → det n (rowS A i fun j => c * X j + Y j) = c * det n (rowS A i X) + det n (rowS A i Y)
  | n + 1, 0, A, c, X, Y, _ => by
    rw [det, det, det, ← sumZ_mul, ← sumZ_add]
    refine sumZ_congr fun k hk => ?_
    have e : ∀ Z : Nat → Int, (fun i j => rowS A 0 Z (i + 1) (skp k j)) = fun i j => A (i + 1) (skp k j) := fun Z => by
      funext i j; unfold rowS; rw [if_neg (by omega)]
    (try simp only)
    rw [e, e, e]
    unfold rowS
    rw [if_pos rfl, if_pos rfl, if_pos rfl]
    generalize det n (fun i j => A (i + 1) (skp k j)) = d
    rw [Int.mul_add, Int.add_mul]
    congr 1
    rw [Int.mul_assoc, Int.mul_assoc, Int.mul_left_comm (sgn k) c, Int.mul_assoc]
  | n + 1, i + 1, A, c, X, Y, h => by
    rw [det, det, det, ← sumZ_mul, ← sumZ_add]
    refine sumZ_congr fun k hk => ?_
    have e : ∀ Z : Nat → Int, (fun r j => rowS A (i + 1) Z (r + 1) (skp k j)) = rowS (fun r j => A (r + 1) (skp k j)) i fun j => Z (skp k j) := fun Z => by
      funext r j
      unfold rowS
      by_cases h : r = i
      · rw [if_pos (by omega), if_pos h]
      · rw [if_neg (by omega), if_neg h]
    have z : ∀ Z : Nat → Int, rowS A (i + 1) Z 0 k = A 0 k := fun Z => by unfold rowS; rw [if_neg (by omega)]
    (try simp only)
    rw [e, e, e, z, z, z, det_lin (fun r j => A (r + 1) (skp k j)) c (fun j => X (skp k j)) (fun j => Y (skp k j)) (by omega), Int.mul_add, Int.mul_left_comm]
theorem det_zero_row {n i : Nat} (A : Mat) (h : i < n) : det n (rowS A i fun _ => 0) = 0 := by
  have := det_lin A (-1) (fun _ => 0) (fun _ => 0) h
  have e : (fun j : Nat => (-1 : Int) * (fun _ => (0 : Int)) j + (fun _ => (0 : Int)) j) = fun _ => 0 := by funext j; simp
  rw [e] at this
  omega
theorem det_scale {n i : Nat} (A : Mat) (c : Int) (X : Nat → Int) (h : i < n) : det n (rowS A i fun j => c * X j) = c * det n (rowS A i X) := by
  have := det_lin A c X (fun _ => 0) h
  rw [det_zero_row A h] at this
  have e : (fun j : Nat => c * X j + (fun _ => (0 : Int)) j) = fun j => c * X j := by funext j; simp
  rw [e] at this
  omega
/-! Rows that change places. -/
def swA (i j r : Nat) : Nat := if r = i then j else if r = j then i else r
def idxA (k m : Nat) : Nat := if m < k then m else m - 1
def detN (n : Nat) (A : Mat) (k m : Nat) : Int := det n fun i j => A (i + 2) (skp k (skp (idxA k m) j))
def dblA (n : Nat) (A : Mat) (k m : Nat) : Int := if k = m then 0 else sgn k * sgn (idxA k m) * A 0 k * A 1 m * detN n A k m
theorem skp_skp {k m : Nat} (h : k < m) (j : Nat) : skp k (skp (m - 1) j) = skp m (skp k j) := by
  unfold skp
  by_cases a : j < k
  · rw [if_pos (show j < m - 1 by omega), if_pos a, if_pos (show j < m by omega)]
  · by_cases b : j < m - 1
    · rw [if_pos b, if_neg a, if_pos (show j + 1 < m by omega)]
    · rw [if_neg b, if_neg a, if_neg (show ¬ j + 1 < k by omega), if_neg (show ¬ j + 1 < m by omega)]
theorem detN_comm {n : Nat} {A : Mat} {k m : Nat} (h : k < m) : detN n A k m = detN n A m k := by
  unfold detN idxA
  rw [if_neg (by omega), if_pos h]
  congr 1
  funext i j
  rw [skp_skp h]
theorem det_dbl (n : Nat) (A : Mat) : det (n + 2) A = sumZ (fun k => sumZ (fun m => dblA n A k m) (n + 2)) (n + 2) := by
  rw [det]
  refine sumZ_congr fun k hk => ?_
  (try simp only)
  rw [det, ← sumZ_skp (fun m => dblA n A k m) (show k ≤ n + 1 by omega)]
  have e0 : dblA n A k k = 0 := by unfold dblA; rw [if_pos rfl]
  rw [e0, Int.add_zero, ← sumZ_mul]
  refine sumZ_congr fun l hl => ?_
  (try simp only)
  have hne : k ≠ skp k l := by unfold skp; split <;> omega
  have hidx : idxA k (skp k l) = l := by
    unfold idxA skp
    by_cases a : l < k
    · simp only [if_pos a]
    · simp only [if_neg a]
      rw [if_neg (by omega)]
      omega
  unfold dblA detN
  rw [if_neg hne, hidx, Nat.zero_add]
  generalize det n _ = d
  rw [Int.mul_assoc (sgn k), Int.mul_assoc (sgn l), Int.mul_assoc, Int.mul_assoc, Int.mul_assoc]
  rw [Int.mul_left_comm (A 0 k)]
theorem det_swap01 (n : Nat) (A : Mat) : det (n + 2) (fun i => A (swA 0 1 i)) = -det (n + 2) A := by
  rw [det_dbl, det_dbl, sumZ_swap (fun k m => dblA n A k m), ← sumZ_neg]
  refine sumZ_congr fun k hk => ?_
  (try simp only)
  rw [← sumZ_neg]
  refine sumZ_congr fun m hm => ?_
  (try simp only)
  have hN : detN n (fun i => A (swA 0 1 i)) k m = detN n A k m := by
    unfold detN
    congr 1
  unfold dblA
  by_cases e : k = m
  · rw [if_pos e, if_pos e.symm]; rfl
  · rw [if_neg e, if_neg fun h => e h.symm, hN]
    have r0 : A (swA 0 1 0) k = A 1 k := rfl
    have r1 : A (swA 0 1 1) m = A 0 m := rfl
    (try simp only)
    rw [r0, r1]
    have hs : sgn k * sgn (idxA k m) = -(sgn m * sgn (idxA m k)) := by
      unfold idxA
      by_cases h : k < m
      · rw [if_neg (by omega), if_pos h]
        have := sgn_succ (m - 1)
        rw [show m - 1 + 1 = m by omega] at this
        rw [this, Int.neg_mul, Int.neg_neg, Int.mul_comm]
      · rw [if_pos (by omega), if_neg (by omega)]
        have := sgn_succ (k - 1)
        rw [show k - 1 + 1 = k by omega] at this
        rw [this, Int.neg_mul, Int.mul_comm]
    have hd : detN n A k m = detN n A m k := by
      by_cases h : k < m
      · exact detN_comm h
      · exact (detN_comm (by omega)).symm
    rw [hs, hd]
    generalize sgn m * sgn (idxA m k) = a
    rw [Int.neg_mul, Int.neg_mul, Int.neg_mul, Int.mul_assoc a, Int.mul_comm (A 1 k), ← Int.mul_assoc a]
theorem det_swap_adj : ∀ {n i : Nat} (A : Mat), i + 1 < n → det n (fun r => A (swA i (i + 1) r)) = -det n A
  | n + 2, 0, A, _ => det_swap01 n A
  | n + 1, i + 1, A, h => by
    rw [det, det, ← sumZ_neg]
    refine sumZ_congr fun k hk => ?_
    (try simp only)
    have e : (fun r j => A (swA (i + 1) (i + 1 + 1) (r + 1)) (skp k j)) = fun r => (fun r j => A (r + 1) (skp k j)) (swA i (i + 1) r) := by
      funext r j
      congr 1
      unfold swA
      by_cases a : r = i
      · rw [if_pos (by omega), if_pos a]
      · by_cases b : r = i + 1
        · rw [if_neg (by omega), if_pos (by omega), if_neg a, if_pos b]
        · rw [if_neg (by omega), if_neg (by omega), if_neg a, if_neg b]
    have z : swA (i + 1) (i + 1 + 1) 0 = 0 := by unfold swA; rw [if_neg (by omega), if_neg (by omega)]
    rw [e, z, det_swap_adj (fun r j => A (r + 1) (skp k j)) (by omega), Int.mul_neg]
theorem det_eq_rows : ∀ (d : Nat) {n i : Nat} (A : Mat), i + d + 1 < n → A i = A (i + d + 1) → det n A = 0
  | 0, n, i, A, h, e => by
    have := det_swap_adj A h
    have e2 : (fun r => A (swA i (i + 1) r)) = A := by
      funext r
      unfold swA
      by_cases a : r = i
      · rw [if_pos a, a]; exact e.symm
      · by_cases b : r = i + 1
        · rw [if_neg a, if_pos b, b]; exact e
        · rw [if_neg a, if_neg b]
    rw [e2] at this
    omega
  | d + 1, n, i, A, h, e => by
    have h1 := det_swap_adj (i := i + d + 1) A (by omega)
    have h2 := det_eq_rows d (n := n) (i := i) (fun r => A (swA (i + d + 1) (i + d + 1 + 1) r)) (by omega) (by
      (try simp only)
      have a : swA (i + d + 1) (i + d + 1 + 1) i = i := by unfold swA; rw [if_neg (by omega), if_neg (by omega)]
      have b : swA (i + d + 1) (i + d + 1 + 1) (i + d + 1) = i + d + 1 + 1 := by unfold swA; rw [if_pos rfl]
      rw [a, b]
      exact e)
    omega
theorem det_rows {n i j : Nat} (A : Mat) (hi : i < n) (hj : j < n) (h : i ≠ j) (e : A i = A j) : det n A = 0 := by
  by_cases a : i < j
  · exact det_eq_rows (j - i - 1) (i := i) A (by omega) (by rw [show i + (j - i - 1) + 1 = j by omega]; exact e)
  · exact det_eq_rows (i - j - 1) (i := j) A (by omega) (by rw [show j + (i - j - 1) + 1 = i by omega]; exact e.symm)
/-- A multiple of another row may be added. -/
theorem det_add {n i j : Nat} (A : Mat) (hi : i < n) (hj : j < n) (h : i ≠ j) (c : Int) : det n (rowS A i fun k => c * A j k + A i k) = det n A := by
  rw [det_lin A c (A j) (A i) hi, rowS_same, det_rows (rowS A i (A j)) hi hj h (by unfold rowS; rw [if_pos rfl, if_neg fun e => h e.symm])]
  omega
theorem det_swap {n i j : Nat} (A : Mat) (hi : i < n) (hj : j < n) (h : i ≠ j) : det n (fun r => A (swA i j r)) = -det n A := by
  -- row i + row j, then row j - row i, then row i + row j, and a sign
  have e1 := det_add A hi hj h 1
  have e2 := det_add (rowS A i fun k => 1 * A j k + A i k) hj hi (fun e => h e.symm) (-1)
  have e3 := det_add (rowS (rowS A i fun k => 1 * A j k + A i k) j fun k => -1 * (rowS A i fun k => 1 * A j k + A i k) i k + (rowS A i fun k => 1 * A j k + A i k) j k) hi hj h 1
  have e4 := det_scale (fun r => A (swA i j r)) (-1) (A i) hj
  have f1 : rowS (fun r => A (swA i j r)) j (A i) = fun r => A (swA i j r) := by
    funext r
    unfold rowS
    by_cases a : r = j
    · rw [if_pos a, a]; unfold swA; rw [if_neg fun e => h e.symm, if_pos rfl]
    · rw [if_neg a]
  rw [f1] at e4
  have f2 : rowS (rowS (rowS A i fun k => 1 * A j k + A i k) j fun k => -1 * (rowS A i fun k => 1 * A j k + A i k) i k + (rowS A i fun k => 1 * A j k + A i k) j k) i (fun k => 1 * (rowS (rowS A i fun k => 1 * A j k + A i k) j fun k => -1 * (rowS A i fun k => 1 * A j k + A i k) i k + (rowS A i fun k => 1 * A j k + A i k) j k) j k + (rowS (rowS A i fun k => 1 * A j k + A i k) j fun k => -1 * (rowS A i fun k => 1 * A j k + A i k) i k + (rowS A i fun k => 1 * A j k + A i k) j k) i k) = rowS (fun r => A (swA i j r)) j fun k => -1 * A i k := by
    funext r k
    unfold rowS swA
    by_cases a : r = i
    · subst a
      simp only [if_pos, if_neg h, if_neg fun e : j = r => h e.symm]
      omega
    · by_cases b : r = j
      · subst b
        simp only [if_pos, if_neg a]
        omega
      · simp only [if_neg a, if_neg b]
  rw [f2, e4] at e3
  omega
/-! The first column. -/
theorem det_col0 : ∀ {n : Nat} (A : Mat), (∀ i, i < n + 1 → A i 0 = 0) → det (n + 1) A = 0
  | 0, A, h => by rw [det]; simp [sumZ, det, h 0 (by omega)]
  | n + 1, A, h => by
    rw [det]
    refine sumZ_zero fun k hk => ?_
    (try simp only)
    by_cases e : k = 0
    · subst e; rw [h 0 (by omega)]; simp
    · rw [det_col0 (fun i j => A (i + 1) (skp k j)) fun i hi => by
        (try simp only)
        rw [show skp k 0 = 0 by unfold skp; rw [if_pos (by omega)]]
        exact h (i + 1) (by omega)]
      simp
theorem det_corner {n : Nat} (A : Mat) (h : ∀ i, 1 ≤ i → i < n + 1 → A i 0 = 0) : det (n + 1) A = A 0 0 * det n (fun i j => A (i + 1) (j + 1)) := by
  have key : ∀ m, m ≤ n → sumZ (fun k => sgn k * A 0 k * det n (fun i j => A (i + 1) (skp k j))) (m + 1) = A 0 0 * det n (fun i j => A (i + 1) (j + 1)) := by
    intro m
    induction m with
    | zero =>
      intro _
      rw [sumZ, sumZ]
      have : (fun i j => A (i + 1) (skp 0 j)) = fun i j => A (i + 1) (j + 1) := by
        funext i j; unfold skp; rw [if_neg (by omega)]
      rw [this]
      simp [sgn]
    | succ m ih =>
      intro hm
      rw [sumZ, ih (by omega)]
      cases n with
      | zero => omega
      | succ n =>
        rw [det_col0 (fun i j => A (i + 1) (skp (m + 1) j)) fun i hi => by
          (try simp only)
          rw [show skp (m + 1) 0 = 0 by unfold skp; rw [if_pos (by omega)]]
          exact h (i + 1) (by omega) (by omega)]
        simp
  rw [det]
  exact key n (Nat.le_refl _)
/-! A step of elimination without division. -/
def chio (B : Mat) : Mat := fun i j => B 0 0 * B (i + 1) (j + 1) - B (i + 1) 0 * B 0 (j + 1)
theorem det_scale_rows {n : Nat} (b : Int) (B : Mat) : ∀ m, m ≤ n → det (n + 1) (fun r j => if 1 ≤ r ∧ r ≤ m then b * B r j else B r j) = b ^ m * det (n + 1) B
  | 0, _ => by
    rw [Int.pow_zero, Int.one_mul]
    exact det_congr fun i j _ _ => by rw [if_neg (by omega)]
  | m + 1, h => by
    have ih := det_scale_rows (n := n) b B m (by omega)
    have e := det_scale (n := n + 1) (i := m + 1) (fun r j => if 1 ≤ r ∧ r ≤ m then b * B r j else B r j) b (B (m + 1)) (by omega)
    have e1 : det (n + 1) (rowS (fun r j => if 1 ≤ r ∧ r ≤ m then b * B r j else B r j) (m + 1) fun j => b * B (m + 1) j) = det (n + 1) (fun r j => if 1 ≤ r ∧ r ≤ m + 1 then b * B r j else B r j) := by
      refine det_congr fun i j _ _ => ?_
      unfold rowS
      (try simp only)
      by_cases a : i = m + 1
      · subst a; rw [if_pos rfl, if_pos (by omega)]
      · rw [if_neg a]
        (try simp only)
        by_cases c : 1 ≤ i ∧ i ≤ m
        · rw [if_pos c, if_pos (show 1 ≤ i ∧ i ≤ m + 1 by omega)]
        · rw [if_neg c, if_neg (show ¬ (1 ≤ i ∧ i ≤ m + 1) by omega)]
    have e2 : rowS (fun r j => if 1 ≤ r ∧ r ≤ m then b * B r j else B r j) (m + 1) (B (m + 1)) = fun r j => if 1 ≤ r ∧ r ≤ m then b * B r j else B r j := by
      funext r j
      unfold rowS
      by_cases a : r = m + 1
      · subst a; rw [if_pos rfl, if_neg (by omega)]
      · rw [if_neg a]
    rw [e1, e2, ih] at e
    rw [e, Int.pow_succ, ← Int.mul_assoc, Int.mul_comm b]
theorem det_sub_rows {n : Nat} (C : Mat) (c : Nat → Int) : ∀ m, m ≤ n → det (n + 1) (fun r j => if 1 ≤ r ∧ r ≤ m then c r * C 0 j + C r j else C r j) = det (n + 1) C
  | 0, _ => det_congr fun i j _ _ => by rw [if_neg (by omega)]
  | m + 1, h => by
    rw [← det_sub_rows C c m (by omega), ← det_add (n := n + 1) (i := m + 1) (j := 0) (fun r j => if 1 ≤ r ∧ r ≤ m then c r * C 0 j + C r j else C r j) (by omega) (by omega) (by omega) (c (m + 1))]
    refine det_congr fun i j _ _ => ?_
    unfold rowS
    by_cases a : i = m + 1
    · subst a; rw [if_pos rfl, if_pos (by omega), if_neg (by omega), if_neg (by omega)]
    · rw [if_neg a]
      (try simp only)
      by_cases d : 1 ≤ i ∧ i ≤ m
      · rw [if_pos d, if_pos (show 1 ≤ i ∧ i ≤ m + 1 by omega)]
      · rw [if_neg d, if_neg (show ¬ (1 ≤ i ∧ i ≤ m + 1) by omega)]
theorem det_chio {n : Nat} {B : Mat} (hb : B 0 0 ≠ 0) : B 0 0 ^ n * det (n + 2) B = det (n + 1) (chio B) := by
  have e1 := det_scale_rows (n := n + 1) (B 0 0) B (n + 1) (Nat.le_refl _)
  have e2 := det_sub_rows (n := n + 1) (fun r j => if 1 ≤ r ∧ r ≤ n + 1 then B 0 0 * B r j else B r j) (fun r => -B r 0) (n + 1) (Nat.le_refl _)
  rw [e1] at e2
  have e3 := det_corner (n := n + 1) (fun r j => if 1 ≤ r ∧ r ≤ n + 1 then -B r 0 * (if 1 ≤ 0 ∧ 0 ≤ n + 1 then B 0 0 * B 0 j else B 0 j) + (if 1 ≤ r ∧ r ≤ n + 1 then B 0 0 * B r j else B r j) else (if 1 ≤ r ∧ r ≤ n + 1 then B 0 0 * B r j else B r j)) fun i h1 h2 => by
    (try simp only)
    rw [if_pos (by omega), if_neg (by omega), if_pos (by omega), Int.neg_mul, Int.mul_comm (B i 0)]
    omega
  rw [e3] at e2
  have e4 : det (n + 1) (fun i j => if 1 ≤ i + 1 ∧ i + 1 ≤ n + 1 then -B (i + 1) 0 * (if 1 ≤ 0 ∧ 0 ≤ n + 1 then B 0 0 * B 0 (j + 1) else B 0 (j + 1)) + (if 1 ≤ i + 1 ∧ i + 1 ≤ n + 1 then B 0 0 * B (i + 1) (j + 1) else B (i + 1) (j + 1)) else (if 1 ≤ i + 1 ∧ i + 1 ≤ n + 1 then B 0 0 * B (i + 1) (j + 1) else B (i + 1) (j + 1))) = det (n + 1) (chio B) := by
    refine det_congr fun i j hi hj => ?_
    unfold chio
    rw [if_pos (by omega), if_neg (by omega), if_pos (by omega), Int.neg_mul]
    omega
  have e5 : (if 1 ≤ 0 ∧ 0 ≤ n + 1 then -B 0 0 * (if 1 ≤ 0 ∧ 0 ≤ n + 1 then B 0 0 * B 0 0 else B 0 0) + (if 1 ≤ 0 ∧ 0 ≤ n + 1 then B 0 0 * B 0 0 else B 0 0) else (if 1 ≤ 0 ∧ 0 ≤ n + 1 then B 0 0 * B 0 0 else B 0 0)) = B 0 0 := by
    rw [if_neg (by omega), if_neg (by omega)]
  (try simp only at e2)
  (try simp only at e4)
  (try simp only at e5)
  first
  | (rw [e4, e5] at e2
     rw [Int.pow_succ, Int.mul_comm (B 0 0 ^ n), Int.mul_assoc] at e2
     exact (Int.mul_eq_mul_left_iff hb).1 e2.symm)
  | (rw [e4] at e2
     rw [Int.pow_succ, Int.mul_comm (B 0 0 ^ n), Int.mul_assoc] at e2
     exact (Int.mul_eq_mul_left_iff hb).1 e2.symm)

/-! Elimination without fractions (each number is a minor of the rows in their order). -/
theorem det_smul (b : Int) (A : Mat) : ∀ n, det n (fun i j => b * A i j) = b ^ n * det n A
  | 0 => by simp [det]
  | n + 1 => by
    rw [det, det, ← sumZ_mul]
    refine sumZ_congr fun k hk => ?_
    (try simp only)
    rw [det_smul b (fun i j => A (i + 1) (skp k j)) n, Int.pow_succ, Int.mul_left_comm (sgn k), Int.mul_assoc b, Int.mul_left_comm, Int.mul_comm (b ^ n) b, Int.mul_assoc b, Int.mul_left_comm (b ^ n), ← Int.mul_assoc]
    first
    | done
    | simp only [Int.mul_assoc, Int.mul_comm, Int.mul_left_comm]
/-- The first places, and then those that are told. -/
def extN (m : Nat) (r : Nat → Nat) (i : Nat) : Nat := if i < m then i else m + r (i - m)
/-- A is what is left behind m steps over the rows O. -/
def Bar (n m : Nat) (last : Int) (O A : Mat) : Prop :=
  ∀ (k : Nat) (r c : Nat → Nat), (∀ i, i ≤ k → r i < n - m) → (∀ i, i ≤ k → c i < n - m) → det (k + 1) (fun i j => A (r i) (c j)) = last ^ k * det (m + k + 1) (fun i j => O (extN m r i) (extN m c j))
theorem Bar.start (n : Nat) (O : Mat) : Bar n 0 1 O O := fun k r c hr hc => by
  rw [Int.one_pow, Int.one_mul, Nat.zero_add]
  exact det_congr fun i j _ _ => by simp [extN]
theorem det_one (A : Mat) : det 1 A = A 0 0 := by simp [det, sumZ, sgn]
theorem det_two (A : Mat) : det 2 A = A 0 0 * A 1 1 - A 1 0 * A 0 1 := by
  simp only [det, sumZ, sgn, skp]
  simp
  rw [Int.neg_mul, Int.mul_comm (A 0 1)]
  omega
/-- The number at a place, and its size. -/
theorem Bar.ent {n m : Nat} {last : Int} {O A : Mat} (H : Bar n m last O A) {i j : Nat} (hi : i < n - m) (hj : j < n - m) : A i j = det (m + 1) (fun a b => O (extN m (fun _ => i) a) (extN m (fun _ => j) b)) := by
  have := H 0 (fun _ => i) (fun _ => j) (fun _ _ => hi) (fun _ _ => hj)
  rw [det_one, Int.pow_zero, Int.one_mul] at this
  exact this
def upN (r : Nat → Nat) : Nat → Nat
  | 0 => 0
  | i + 1 => r i + 1
theorem extN_up (m : Nat) (r : Nat → Nat) (i : Nat) : extN m (upN r) i = extN (m + 1) r i := by
  unfold extN
  by_cases h : i < m
  · rw [if_pos h, if_pos (by omega)]
  · rw [if_neg h]
    by_cases e : i = m
    · subst e; rw [if_pos (by omega), Nat.sub_self]; rfl
    · rw [if_neg (by omega)]
      obtain ⟨d, rfl⟩ : ∃ d, i = m + 1 + d := ⟨i - (m + 1), by omega⟩
      rw [show m + 1 + d - m = d + 1 by omega, show m + 1 + d - (m + 1) = d by omega]
      show m + (r d + 1) = _
      omega
theorem Bar.exact {n m : Nat} {last : Int} {O A : Mat} (H : Bar n m last O A) {i j : Nat} (hi : i + 1 < n - m) (hj : j + 1 < n - m) : ∃ q, chio A i j = last * q := by
  have := H 1 (upN fun _ => i) (upN fun _ => j) (fun a ha => by cases a with | zero => exact (by show 0 < _; omega) | succ a => exact hi) (fun a ha => by cases a with | zero => exact (by show 0 < _; omega) | succ a => exact hj)
  rw [det_two] at this
  exact ⟨_, by unfold chio; rw [Int.pow_one] at this; exact this⟩
theorem tdiv_of {a b q : Int} (h : a = b * q) (hb : b ≠ 0) : a.tdiv b = q := by rw [h]; exact Int.mul_tdiv_cancel_left _ hb
theorem Bar.step {n m : Nat} {last : Int} {O A A' : Mat} (H : Bar n m last O A) (hl : last ≠ 0) (ha : A 0 0 ≠ 0) (hA : ∀ i j, i + 1 < n - m → j + 1 < n - m → A' i j = (chio A i j).tdiv last) : Bar n (m + 1) (A 0 0) O A' := fun k r c hr hc => by
  have e1 : det (k + 1) (fun i j => last * A' (r i) (c j)) = det (k + 1) (chio fun i j => A (upN r i) (upN c j)) := det_congr fun i j hi hj => by
    have hi' := hr i (by omega)
    have hj' := hc j (by omega)
    (try simp only)
    obtain ⟨q, hq⟩ := H.exact (i := r i) (j := c j) (by omega) (by omega)
    rw [hA _ _ (by omega) (by omega), tdiv_of hq hl, ← hq]
    rfl
  rw [det_smul last (fun i j => A' (r i) (c j))] at e1
  have e2 := det_chio (n := k) (B := fun i j => A (upN r i) (upN c j)) ha
  have e3 := H (k + 1) (upN r) (upN c) (fun i hi => by cases i with | zero => exact (by have := hr 0 (by omega); show 0 < _; omega) | succ i => exact (by have := hr i (by omega); show r i + 1 < _; omega)) (fun i hi => by cases i with | zero => exact (by have := hc 0 (by omega); show 0 < _; omega) | succ i => exact (by have := hc i (by omega); show c i + 1 < _; omega))
  rw [← e2, e3] at e1
  have e4 : (fun i j => O (extN m (upN r) i) (extN m (upN c) j)) = fun i j => O (extN (m + 1) r i) (extN (m + 1) c j) := by funext i j; rw [extN_up, extN_up]
  rw [e4, Int.mul_left_comm] at e1
  have e5 := (Int.mul_eq_mul_left_iff (show last ^ (k + 1) ≠ 0 from Int.pow_ne_zero hl)).1 e1
  rw [e5, show m + (k + 1) + 1 = m + 1 + k + 1 by omega]
  rfl
theorem Bar.swap {n m p : Nat} {last : Int} {O A : Mat} (H : Bar n m last O A) (hp : p < n - m) : Bar n m last (fun i => O (swA m (m + p) i)) (fun i => A (swA 0 p i)) := fun k r c hr hc => by
  have := H k (fun i => swA 0 p (r i)) c (fun i hi => by have := hr i hi; unfold swA; split <;> (try split) <;> omega) hc
  (try simp only)
  rw [this]
  congr 2
  funext i j
  congr 1
  unfold extN
  by_cases h : i < m
  · rw [if_pos h, if_pos h]; unfold swA; rw [if_neg (by omega), if_neg (by omega)]
  · rw [if_neg h, if_neg h]
    show m + swA 0 p (r (i - m)) = swA m (m + p) (m + r (i - m))
    generalize r (i - m) = x
    unfold swA
    by_cases a : x = 0
    · rw [if_pos a, if_pos (show m + x = m by omega)]
    · rw [if_neg a, if_neg (show ¬ m + x = m by omega)]
      by_cases b : x = p
      · rw [if_pos b, if_pos (show m + x = m + p by omega)]; omega
      · rw [if_neg b, if_neg (show ¬ m + x = m + p by omega)]
theorem extN_id (m i : Nat) : extN m (fun x => x) i = i := by unfold extN; split <;> (try simp only) <;> omega
theorem Bar.none {n m : Nat} {last : Int} {O A : Mat} (H : Bar n m last O A) (hm : m < n) (hl : last ≠ 0) (h0 : ∀ i, i < n - m → A i 0 = 0) : det n O = 0 := by
  have := H (n - m - 1) (fun x => x) (fun x => x) (fun i hi => by omega) (fun i hi => by omega)
  rw [det_col0 (fun i j => A i j) fun i hi => h0 i (by omega)] at this
  have e : (fun i j => O (extN m (fun x => x) i) (extN m (fun x => x) j)) = O := by funext i j; rw [extN_id, extN_id]
  rw [e, show m + (n - m - 1) + 1 = n by omega] at this
  rcases Int.mul_eq_zero.1 this.symm with h | h
  · exact absurd h (Int.pow_ne_zero hl)
  · exact h
theorem Bar.last {n m : Nat} {last : Int} {O A : Mat} (H : Bar n m last O A) (hm : m + 1 = n) : A 0 0 = det n O := by
  rw [H.ent (i := 0) (j := 0) (by omega) (by omega), hm]
  have e : (fun a b => O (extN m (fun _ => 0) a) (extN m (fun _ => 0) b)) = fun a b => O (if a < m then a else m) (if b < m then b else m) := by funext a b; rfl
  rw [e]
  refine det_congr fun i j hi hj => ?_
  rw [show (if i < m then i else m) = i by split <;> omega, show (if j < m then j else m) = j by split <;> omega]
/-! How large determinants are. -/
def dbN : Nat → Nat
  | 0 => 1
  | n + 1 => (n + 1) * 10 * dbN n
theorem sumZ_bound {f : Nat → Int} {b : Nat} : ∀ {n : Nat}, (∀ i, i < n → (f i).natAbs ≤ b) → (sumZ f n).natAbs ≤ n * b
  | 0, _ => by simp [sumZ]
  | n + 1, h => by
    rw [sumZ]
    have h1 := sumZ_bound (f := f) (b := b) (n := n) fun i hi => h i (by omega)
    have h2 := h n (by omega)
    have h3 := Int.natAbs_add_le (sumZ f n) (f n)
    rw [Nat.succ_mul]
    omega
theorem sgn_abs (k : Nat) : (sgn k).natAbs = 1 := by unfold sgn; split <;> rfl
theorem det_bound : ∀ {n : Nat} {A : Mat}, (∀ i j, i < n → j < n → (A i j).natAbs ≤ 10) → (det n A).natAbs ≤ dbN n
  | 0, _, _ => by simp [det, dbN]
  | n + 1, A, h => by
    rw [det, dbN, Nat.mul_assoc]
    refine sumZ_bound fun k hk => ?_
    (try simp only)
    rw [Int.natAbs_mul, Int.natAbs_mul, sgn_abs, Nat.one_mul]
    exact Nat.mul_le_mul (h 0 k (by omega) hk) (det_bound fun i j hi hj => h (i + 1) (skp k j) (by omega) (by unfold skp; split <;> omega))
theorem dbN_le : ∀ {n m : Nat}, n ≤ m → dbN n ≤ dbN m
  | n, 0, h => by rw [show n = 0 by omega]; exact Nat.le_refl _
  | n, m + 1, h => by
    by_cases e : n = m + 1
    · rw [e]; exact Nat.le_refl _
    · have h1 := dbN_le (n := n) (m := m) (by omega)
      have h2 : dbN m ≤ dbN (m + 1) := by rw [dbN]; exact Nat.le_mul_of_pos_left _ (by omega)
      omega
def Small (n : Nat) (O : Mat) : Prop := ∀ i j, i < n → j < n → (O i j).natAbs ≤ 10
theorem Bar.bound {n m : Nat} {last : Int} {O A : Mat} (H : Bar n m last O A) (hO : Small n O) {i j : Nat} (hi : i < n - m) (hj : j < n - m) : (A i j).natAbs ≤ dbN (m + 1) := by
  rw [H.ent hi hj]
  refine det_bound fun a b ha hb => hO _ _ ?_ ?_
  · unfold extN; split <;> (try simp only) <;> omega
  · unfold extN; split <;> (try simp only) <;> omega

/-! Trees, counted by a determinant. -/
def occ (x : Int) : List Int → Int
  | [] => 0
  | y :: l => (if y = x then 1 else 0) + occ x l
def red (p q x : Int) : Int := if x = p then q else x
abbrev Tn := List (Int × List Int)
def redT (p q : Int) (ts : Tn) : Tn := ts.map fun t => (t.1, t.2.map (red p q))
def nmT (ts : Tn) (i : Nat) : Int := (ts.getD i (0, [])).1
def exT (ts : Tn) (i : Nat) : List Int := (ts.getD i (0, [])).2
def lapM (ts : Tn) : Mat := fun i j => (if i = j then ((exT ts i).length : Int) else 0) - occ (nmT ts j) (exT ts i)
def cntT : Nat → Tn → Int
  | 0, _ => 1
  | _ + 1, [] => 1
  | n + 1, (p, ex) :: ts => (ex.map fun q => if q = p then 0 else cntT n (redT p q ts)).sum
theorem occ_red {p q x : Int} (h : x ≠ p) : ∀ l : List Int, occ x (l.map (red p q)) = occ x l + (if q = x then occ p l else 0)
  | [] => by simp [occ]
  | y :: l => by
    rw [List.map_cons, occ, occ, occ, occ_red h l]
    unfold red
    by_cases a : y = p
    · rw [if_pos a, if_neg (show ¬ y = x from fun e => h (e.symm.trans a)), if_pos a]
      by_cases b : q = x
      · rw [if_pos b, if_pos b, if_pos b]; omega
      · rw [if_neg b, if_neg b, if_neg b]; omega
    · rw [if_neg a, if_neg a]
      by_cases b : q = x
      · rw [if_pos b, if_pos b]; omega
      · rw [if_neg b, if_neg b]; omega
theorem nmT_red (p q : Int) (ts : Tn) (i : Nat) : nmT (redT p q ts) i = nmT ts i := by
  unfold nmT redT
  rw [List.getD_eq_getElem?_getD, List.getD_eq_getElem?_getD, List.getElem?_map]
  cases ts[i]? <;> rfl
theorem exT_red (p q : Int) (ts : Tn) (i : Nat) : exT (redT p q ts) i = (exT ts i).map (red p q) := by
  unfold exT redT
  rw [List.getD_eq_getElem?_getD, List.getD_eq_getElem?_getD, List.getElem?_map]
  cases ts[i]? <;> rfl
theorem nmT_mem {ts : Tn} {i : Nat} (h : i < ts.length) : nmT ts i ∈ ts.map (·.1) := by
  unfold nmT
  rw [List.getD_eq_getElem?_getD, List.getElem?_eq_getElem h]
  exact List.mem_map.2 ⟨_, List.getElem_mem h, rfl⟩
theorem names_red (p q : Int) (ts : Tn) : (redT p q ts).map (·.1) = ts.map (·.1) := by
  unfold redT
  rw [List.map_map]
  rfl
/-- A place with one exit. -/
theorem det_lap1 {n : Nat} {p q : Int} {ex : List Int} {ts : Tn} (hn : ts.length = n) (hd : ((p, ex) :: ts).map (·.1) |>.Nodup) :
    det (n + 1) (rowS (lapM ((p, ex) :: ts)) 0 fun j => (if 0 = j then 1 else 0) - (if q = nmT ((p, ex) :: ts) j then 1 else 0)) = if q = p then 0 else det n (lapM (redT p q ts)) := by
  have hp : ∀ j, j < n → nmT ((p, ex) :: ts) (j + 1) = nmT ts j ∧ nmT ts j ≠ p := fun j hj => ⟨rfl, fun e => by
    have h1 := nmT_mem (ts := ts) (i := j) (by omega)
    rw [e] at h1
    rw [List.map_cons, List.nodup_cons] at hd
    exact hd.1 h1⟩
  have h0 : nmT ((p, ex) :: ts) 0 = p := rfl
  by_cases e : q = p
  · rw [if_pos e]
    rw [show det (n + 1) (rowS (lapM ((p, ex) :: ts)) 0 fun j => (if 0 = j then 1 else 0) - (if q = nmT ((p, ex) :: ts) j then 1 else 0)) = det (n + 1) (rowS (lapM ((p, ex) :: ts)) 0 fun _ => 0) from det_congr fun i j hi hj => by
      unfold rowS
      by_cases a : i = 0
      · rw [if_pos a, if_pos a]
        cases j with
        | zero => rw [h0, if_pos rfl, if_pos e]; rfl
        | succ j => rw [(hp j (by omega)).1, if_neg (by omega), if_neg fun x => (hp j (by omega)).2 (x.symm.trans e)]; rfl
      · rw [if_neg a, if_neg a]]
    exact det_zero_row _ (by omega)
  · rw [if_neg e]
    rw [← det_sub_rows (n := n) (rowS (lapM ((p, ex) :: ts)) 0 fun j => (if 0 = j then 1 else 0) - (if q = nmT ((p, ex) :: ts) j then 1 else 0)) (fun r => occ p (exT ((p, ex) :: ts) r)) n (Nat.le_refl _)]
    rw [det_corner]
    · have e1 : (if 1 ≤ 0 ∧ 0 ≤ n then occ p (exT ((p, ex) :: ts) 0) * rowS (lapM ((p, ex) :: ts)) 0 (fun j => (if 0 = j then 1 else 0) - (if q = nmT ((p, ex) :: ts) j then 1 else 0)) 0 0 + rowS (lapM ((p, ex) :: ts)) 0 (fun j => (if 0 = j then 1 else 0) - (if q = nmT ((p, ex) :: ts) j then 1 else 0)) 0 0 else rowS (lapM ((p, ex) :: ts)) 0 (fun j => (if 0 = j then 1 else 0) - (if q = nmT ((p, ex) :: ts) j then 1 else 0)) 0 0) = (1 : Int) := by
        rw [if_neg (by omega)]
        unfold rowS
        rw [if_pos rfl, h0, if_pos rfl, if_neg e]; rfl
      (try simp only)
      first
      | rw [e1, Int.one_mul]
      | (have e1 := e1
         simp only at e1
         rw [e1, Int.one_mul])
      refine det_congr fun i j hi hj => ?_
      (try simp only)
      rw [if_pos (by omega)]
      unfold rowS
      rw [if_pos rfl, if_neg (show ¬ i + 1 = 0 by omega)]
      (try simp only)
      rw [(hp j hj).1, if_neg (show ¬ 0 = j + 1 by omega)]
      unfold lapM
      rw [exT_red, nmT_red, occ_red (hp j hj).2, List.length_map, (hp j hj).1]
      have e2 : exT ((p, ex) :: ts) (i + 1) = exT ts i := rfl
      rw [e2]
      by_cases a : q = nmT ts j
      · rw [if_pos a, if_pos a]
        by_cases b : i = j
        · rw [if_pos b, if_pos (by omega)]; omega
        · rw [if_neg b, if_neg (by omega)]; omega
      · rw [if_neg a, if_neg a]
        by_cases b : i = j
        · rw [if_pos b, if_pos (by omega)]; omega
        · rw [if_neg b, if_neg (by omega)]; omega
    · intro i h1 h2
      (try simp only)
      rw [if_pos (show 1 ≤ i ∧ i ≤ n by omega)]
      unfold rowS
      rw [if_neg (show ¬ i = 0 by omega), if_pos (show 0 = 0 from rfl)]
      (try simp only)
      rw [h0, if_neg e]
      unfold lapM
      rw [if_neg (show ¬ i = 0 by omega), h0]
      simp
      omega
theorem det_lap : ∀ (n : Nat) (ts : Tn), ts.length = n → (ts.map (·.1)).Nodup → det n (lapM ts) = cntT n ts
  | 0, ts, _, _ => by rw [det]; cases ts <;> rfl
  | n + 1, (p, ex) :: ts, h, hd => by
    have hn : ts.length = n := by simpa using h
    have hd' : (ts.map (·.1)).Nodup := by
      rw [List.map_cons, List.nodup_cons] at hd
      exact hd.2
    have key : ∀ l : List Int, det (n + 1) (rowS (lapM ((p, ex) :: ts)) 0 fun j => (if 0 = j then (l.length : Int) else 0) - occ (nmT ((p, ex) :: ts) j) l) = (l.map fun q => if q = p then 0 else cntT n (redT p q ts)).sum := by
      intro l
      induction l with
      | nil =>
        have : (fun j : Nat => (if 0 = j then ((([] : List Int).length : Nat) : Int) else 0) - occ (nmT ((p, ex) :: ts) j) []) = fun _ => 0 := by
          funext j
          simp [occ]
        rw [this, det_zero_row _ (by omega)]
        rfl
      | cons q l ih =>
        have : (fun j : Nat => (if 0 = j then (((q :: l).length : Nat) : Int) else 0) - occ (nmT ((p, ex) :: ts) j) (q :: l)) = fun j => 1 * ((if 0 = j then 1 else 0) - (if q = nmT ((p, ex) :: ts) j then 1 else 0)) + ((if 0 = j then (l.length : Int) else 0) - occ (nmT ((p, ex) :: ts) j) l) := by
          funext j
          rw [occ, List.length_cons]
          by_cases a : 0 = j
          · rw [if_pos a, if_pos a, if_pos a]; omega
          · rw [if_neg a, if_neg a, if_neg a]; omega
        rw [this, det_lin (lapM ((p, ex) :: ts)) 1 (fun j => (if 0 = j then 1 else 0) - (if q = nmT ((p, ex) :: ts) j then 1 else 0)) (fun j => (if 0 = j then (l.length : Int) else 0) - occ (nmT ((p, ex) :: ts) j) l) (by omega), ih, det_lap1 hn hd, List.map_cons, List.sum_cons, Int.one_mul]
        congr 1
        by_cases a : q = p
        · rw [if_pos a, if_pos a]
        · rw [if_neg a, if_neg a, det_lap n (redT p q ts) (by unfold redT; simpa using hn) (by rw [names_red]; exact hd')]
    have e : rowS (lapM ((p, ex) :: ts)) 0 (fun j => (if 0 = j then (ex.length : Int) else 0) - occ (nmT ((p, ex) :: ts) j) ex) = lapM ((p, ex) :: ts) := by
      have := rowS_same (lapM ((p, ex) :: ts)) 0
      exact this
    rw [cntT, ← key ex, e]
/-! The choices. -/
def prodL {α : Type} : List (List α) → List (List α)
  | [] => [[]]
  | c :: cs => c.flatMap fun x => (prodL cs).map (x :: ·)
theorem prodL_map {α β : Type} (f : α → β) : ∀ cs : List (List α), prodL (cs.map (·.map f)) = (prodL cs).map (·.map f)
  | [] => rfl
  | c :: cs => by
    rw [List.map_cons, prodL, prodL, prodL_map f cs, List.map_flatMap, List.flatMap_map]
    congr 1
    funext x
    rw [List.map_map, List.map_map]
    rfl
def okT : Nat → List (Int × Int) → Bool
  | 0, _ => true
  | _ + 1, [] => true
  | n + 1, (p, q) :: l => !decide (q = p) && okT n (l.map fun t => (t.1, red p q t.2))
theorem zip_red (p q : Int) : ∀ (ns c : List Int), ns.zip (c.map (red p q)) = (ns.zip c).map fun t => (t.1, red p q t.2)
  | [], _ => by simp
  | _ :: _, [] => by simp
  | x :: ns, y :: c => by rw [List.map_cons, List.zip_cons_cons, List.zip_cons_cons, List.map_cons, zip_red p q ns c]
theorem sum_natCast : ∀ l : List Nat, ((l.sum : Nat) : Int) = (l.map fun n : Nat => (n : Int)).sum
  | [] => rfl
  | x :: l => by rw [List.sum_cons, List.map_cons, List.sum_cons, ← sum_natCast l]; omega
theorem cnt_prod : ∀ (n : Nat) (ts : Tn), ts.length = n → cntT n ts = (((prodL (ts.map (·.2))).countP fun c => okT n ((ts.map (·.1)).zip c) : Nat) : Int)
  | 0, ts, h => by
    rw [List.length_eq_zero_iff.1 h]
    rfl
  | n + 1, (p, ex) :: ts, h => by
    have hn : ts.length = n := by simpa using h
    have e0 : prodL (((p, ex) :: ts).map (·.2)) = ex.flatMap fun q => (prodL (ts.map (·.2))).map (q :: ·) := rfl
    rw [cntT, e0, List.countP_flatMap, sum_natCast, List.map_map]
    congr 1
    refine List.map_congr_left fun q _ => ?_
    (try simp only [Function.comp])
    rw [List.countP_map]
    by_cases e : q = p
    · rw [if_pos e]
      have : ((prodL (ts.map (·.2))).countP ((fun c => okT (n + 1) ((((p, ex) :: ts).map (·.1)).zip c)) ∘ fun c => q :: c)) = 0 := by
        rw [List.countP_eq_zero]
        intro c _
        simp [okT, e]
      rw [this]; rfl
    · rw [if_neg e, cnt_prod n (redT p q ts) (by unfold redT; simpa using hn), names_red]
      have e1 : (redT p q ts).map (·.2) = (ts.map (·.2)).map (·.map (red p q)) := by
        unfold redT
        rw [List.map_map, List.map_map]
        rfl
      rw [e1, prodL_map, List.countP_map]
      congr 1
      refine List.countP_congr fun c _ => ?_
      (try simp only [Function.comp])
      rw [zip_red, List.map_cons, List.zip_cons_cons, okT]
      simp [e]
/-! Places of which each one leads out: a rank that falls. -/
theorem ok_rank : ∀ (n : Nat) (l : List (Int × Int)), l.length = n → (l.map (·.1)).Nodup → (okT n l = true ↔ ∃ rk : Int → Nat, ∀ t, t ∈ l → t.2 ∈ l.map (·.1) → rk t.2 < rk t.1)
  | 0, l, h, _ => by
    rw [List.length_eq_zero_iff.1 h]
    exact ⟨fun _ => ⟨fun _ => 0, fun t ht => by simp at ht⟩, fun _ => rfl⟩
  | n + 1, (p, q) :: l, h, hd => by
    have hn : l.length = n := by simpa using h
    rw [List.map_cons, List.nodup_cons] at hd
    have ih := ok_rank n (l.map fun t => (t.1, red p q t.2)) (by simpa using hn) (by rw [List.map_map]; exact hd.2)
    have nm : (l.map fun t => (t.1, red p q t.2)).map (·.1) = l.map (·.1) := by rw [List.map_map]; rfl
    rw [nm] at ih
    rw [okT, Bool.and_eq_true, ih]
    constructor
    · rintro ⟨hq, rk, H⟩
      have hq : ¬ q = p := by simpa using hq
      refine ⟨fun x => if x = p then (if q ∈ l.map (·.1) then 2 * rk q + 3 else 1) else 2 * rk x + 2, fun t ht hm => ?_⟩
      rcases List.mem_cons.1 ht with rfl | ht
      · show (if q = p then (if q ∈ l.map (·.1) then 2 * rk q + 3 else 1) else 2 * rk q + 2) < (if p = p then (if q ∈ l.map (·.1) then 2 * rk q + 3 else 1) else 2 * rk p + 2)
        have hm' : q ∈ l.map (·.1) := by
          rw [List.map_cons] at hm
          rcases List.mem_cons.1 hm with e | e
          · exact absurd e hq
          · exact e
        rw [if_neg hq, if_pos rfl, if_pos hm']
        omega
      · have tp : t.1 ≠ p := fun e => hd.1 (e ▸ List.mem_map.2 ⟨t, ht, rfl⟩)
        show (if t.2 = p then (if q ∈ l.map (·.1) then 2 * rk q + 3 else 1) else 2 * rk t.2 + 2) < (if t.1 = p then (if q ∈ l.map (·.1) then 2 * rk q + 3 else 1) else 2 * rk t.1 + 2)
        rw [if_neg tp]
        have H' := H (t.1, red p q t.2) (List.mem_map.2 ⟨t, ht, rfl⟩)
        (try simp only at H')
        by_cases e : t.2 = p
        · rw [if_pos e]
          have er : red p q t.2 = q := by unfold red; rw [if_pos e]
          rw [er] at H'
          by_cases c : q ∈ l.map (·.1)
          · rw [if_pos c]; have := H' c; omega
          · rw [if_neg c]; omega
        · rw [if_neg e]
          have er : red p q t.2 = t.2 := by unfold red; rw [if_neg e]
          rw [er] at H'
          rw [List.map_cons] at hm
          rcases List.mem_cons.1 hm with a | a
          · exact absurd a e
          · have := H' a; omega
    · rintro ⟨rk, H⟩
      have H0 := H (p, q) (List.mem_cons_self ..)
      (try simp only at H0)
      refine ⟨?_, rk, fun t ht hm => ?_⟩
      · have : ¬ q = p := fun e => by
          have := H0 (by rw [List.map_cons, e]; exact List.mem_cons_self ..)
          rw [e] at this
          omega
        simpa using this
      · obtain ⟨u, hu, rfl⟩ := List.mem_map.1 ht
        (try simp only at hm ⊢)
        have Hu := H u (List.mem_cons_of_mem _ hu)
        rw [List.map_cons] at H0 Hu
        by_cases e : u.2 = p
        · have er : red p q u.2 = q := by unfold red; rw [if_pos e]
          rw [er] at hm ⊢
          have h1 := Hu (by rw [e]; exact List.mem_cons_self ..)
          have h2 := H0 (List.mem_cons_of_mem _ hm)
          rw [e] at h1
          omega
        · have er : red p q u.2 = u.2 := by unfold red; rw [if_neg e]
          rw [er] at hm ⊢
          exact Hu (List.mem_cons_of_mem _ hm)

def twN (f : Int → Int) (sink : Int) (n : Nat) : Nat → Nat → Int → Option Nat
  | 0, _, _ => none
  | r + 1, m, a => if a = sink then some m else if f a < 0 ∨ n < m then none else twN f sink n r (m + 1) (f a)
def twL (g : List (List Int)) (rs : List Int) (sink : Int) : Nat → Option (List Int)
  | 0 => some []
  | i + 1 => match twL g rs sink i with
    | none => none
    | some l => match twN (nx g rs) sink g.length (g.length + 3) 0 i with
      | none => none
      | some m => some (l ++ [(m : Int)])
def treeB (g : List (List Int)) (rs : List Int) (sink : Int) : Bool := (twL g rs sink g.length).isSome
theorem twL_none {g : List (List Int)} {rs : List Int} {sink : Int} {i : Nat} (h : twL g rs sink i = none) : ∀ m, twL g rs sink (i + m) = none
  | 0 => h
  | m + 1 => by rw [← Nat.add_assoc, twL, twL_none h m]
theorem twL_no {g : List (List Int)} {rs : List Int} {sink : Int} {i n : Nat} (h : twL g rs sink i = none) (hi : i ≤ n) : twL g rs sink n = none := by
  have := twL_none h (n - i)
  rwa [show i + (n - i) = n by omega] at this
theorem tree_of {g : List (List Int)} {rs : List Int} {sink : Int} (h : ∀ p : Nat, p < g.length → (twN (nx g rs) sink g.length (g.length + 3) 0 p).isSome = true) : treeB g rs sink = true := by
  have : ∀ i, i ≤ g.length → (twL g rs sink i).isSome = true := by
    intro i
    induction i with
    | zero => intro _; rfl
    | succ i ih =>
      intro hi
      have h1 := ih (by omega)
      have h2 := h i (by omega)
      rw [twL]
      cases h3 : twL g rs sink i with
      | none => rw [h3] at h1; cases h1
      | some l =>
        cases h4 : twN (nx g rs) sink g.length (g.length + 3) 0 i with
        | none => rw [h4] at h2; cases h2
        | some m => rfl
  exact this _ (Nat.le_refl _)
def sinkrB (g : List (List Int)) (sink : Int) (rs : List Int) : Bool := (graphB g && inR 0 ((g.length : Int) - 1) sink) && (walkB g rs 0 && decide (rs.getD sink.toNat 0 = 0))
def isTreeP (g : List (List Int)) (sink : Int) (rs : List Int) : Bool × Bool := if sinkrB g sink rs then (treeB g rs sink, true) else (false, false)
theorem sum_le : ∀ (xs : List Int), (∀ x, x ∈ xs → 0 ≤ x ∧ x ≤ 1000) → 0 ≤ xs.sum ∧ xs.sum ≤ 1000 * (xs.length : Int)
  | [], _ => by simp
  | x :: xs, h => by
    have := sum_le xs fun y hy => h y (List.mem_cons_of_mem _ hy)
    have h2 := h x (List.mem_cons_self ..)
    simp only [List.sum_cons, List.length_cons]
    omega

/-! All rotors in their order, and those of them that are trees. -/
def rngI (n : Nat) : List Int := (List.range n).map fun i : Nat => (i : Int)
def cand (g : List (List Int)) (s : Int) (p : Nat) : List Int := if (p : Int) = s ∨ (g.getD p []).length = 0 then [0] else rngI (g.getD p []).length
def allRot (g : List (List Int)) (s : Int) : List (List Int) := prodL ((List.range g.length).map (cand g s))
def treesL (g : List (List Int)) (s : Int) : List (List Int) := (allRot g s).filter fun rs => treeB g rs s
def notS (s : Int) (p : Nat) : Bool := !decide ((p : Int) = s)
theorem notS_t {s : Int} {p : Nat} : notS s p = true ↔ (p : Int) ≠ s := by unfold notS; simp
theorem notS_f {s : Int} {p : Nat} (e : (p : Int) = s) : ¬ notS s p = true := fun h => notS_t.1 h e
theorem nd_names (s : Int) (n : Nat) : (((List.range n).filter (notS s)).map fun p : Nat => (p : Int)).Nodup := by
  unfold List.Nodup
  rw [List.pairwise_map]
  exact (List.Pairwise.filter _ List.nodup_range).imp fun h e => h (by omega)
def tsOf (g : List (List Int)) (s : Int) : Tn := ((List.range g.length).filter (notS s)).map fun p : Nat => ((p : Int), g.getD p [])
theorem mem_prodL {α : Type} : ∀ (cs : List (List α)) (l : List α), l ∈ prodL cs ↔ l.length = cs.length ∧ ∀ i (h1 : i < l.length) (h2 : i < cs.length), l[i] ∈ cs[i]
  | [], l => by
    rw [prodL, List.mem_singleton]
    constructor
    · rintro rfl; exact ⟨rfl, fun i h1 => absurd h1 (by simp)⟩
    · rintro ⟨h, _⟩; exact List.length_eq_zero_iff.1 h
  | c :: cs, l => by
    rw [prodL, List.mem_flatMap]
    constructor
    · rintro ⟨x, hx, hl⟩
      obtain ⟨m, hm, rfl⟩ := List.mem_map.1 hl
      obtain ⟨h1, h2⟩ := (mem_prodL cs m).1 hm
      refine ⟨by simp [h1], fun i a b => ?_⟩
      cases i with
      | zero => exact hx
      | succ i => exact h2 i (by simpa using a) (by simpa using b)
    · rintro ⟨h1, h2⟩
      cases l with
      | nil => simp at h1
      | cons x m =>
        refine ⟨x, h2 0 (by simp) (by simp), List.mem_map.2 ⟨m, (mem_prodL cs m).2 ⟨by simpa using h1, fun i a b => ?_⟩, rfl⟩⟩
        exact h2 (i + 1) (by simpa using a) (by simpa using b)
theorem mem_rngI {n : Nat} {x : Int} : x ∈ rngI n ↔ 0 ≤ x ∧ x < (n : Int) := by
  unfold rngI
  rw [List.mem_map]
  constructor
  · rintro ⟨i, hi, rfl⟩
    rw [List.mem_range] at hi
    omega
  · rintro ⟨h0, h1⟩
    exact ⟨x.toNat, List.mem_range.2 (by omega), by omega⟩
theorem rot_ok {g : List (List Int)} {s : Int} {rs : List Int} (hg : graphB g = true) {a : Int} (h0 : 0 ≤ a) (h1 : a < (g.length : Int)) (h : rs ∈ allRot g s) : WOK g (rs, a) ∧ (0 ≤ s → rs.getD s.toNat 0 = 0) := by
  obtain ⟨e1, e2⟩ := (mem_prodL _ _).1 h
  rw [List.length_map, List.length_range] at e1
  have e3 : ∀ i (h : i < rs.length), rs[i] ∈ cand g s i := fun i hi => by
    have := e2 i hi (by rw [List.length_map, List.length_range]; omega)
    rw [List.getElem_map, List.getElem_range] at this
    exact this
  refine ⟨⟨hg, e1, h0, h1, fun i hi hi' => ?_⟩, fun hs => ?_⟩
  · have := e3 i hi
    unfold cand at this
    rw [getD_get hi'] at this
    (try simp only)
    split at this
    · rw [List.mem_singleton] at this
      (try simp only at this)
      omega
    · have := mem_rngI.1 this
      (try simp only at this)
      omega
  · by_cases hh : s.toNat < rs.length
    · have := e3 s.toNat hh
      unfold cand at this
      rw [if_pos (.inl (by omega)), List.mem_singleton] at this
      rw [getD_getI hh, this]
    · rw [List.getD_eq_getElem?_getD, List.getElem?_eq_none (by omega)]; rfl
theorem twN_reach {g : List (List Int)} {rs : List Int} {s p : Int} {n : Nat} : ∀ (r m j : Nat), (twN (nx g rs) s n r m (itx g rs p j)).isSome = true → ∃ k, itx g rs p k = s
  | 0, m, j, h => by rw [twN] at h; cases h
  | r + 1, m, j, h => by
    rw [twN] at h
    by_cases e : itx g rs p j = s
    · exact ⟨j, e⟩
    · rw [if_neg e] at h
      split at h
      · cases h
      · exact twN_reach r (m + 1) (j + 1) h
theorem reach_twN {g : List (List Int)} {rs : List Int} {s p : Int} {n : Nat} (hs : 0 ≤ s) : ∀ (k r m j : Nat), itx g rs p (j + k) = s → m + k ≤ n + 1 → k < r → (twN (nx g rs) s n r m (itx g rs p j)).isSome = true
  | k, 0, m, j, _, _, h => by omega
  | k, r + 1, m, j, h, h1, h2 => by
    rw [twN]
    by_cases e : itx g rs p j = s
    · rw [if_pos e]; rfl
    · rw [if_neg e]
      cases k with
      | zero => exact absurd h e
      | succ k =>
        have h3 : ¬ nx g rs (itx g rs p j) < 0 := fun hh => by
          have : itx g rs p (j + 1) < 0 := hh
          have := itx_neg_mono (m := j + (k + 1)) this (by omega)
          omega
        rw [if_neg (by omega)]
        exact reach_twN hs k r (m + 1) (j + 1) (by rw [show j + 1 + k = j + (k + 1) by omega]; exact h) (by omega) (by omega)
theorem reach_low {g : List (List Int)} {rs : List Int} {a s p : Int} (W : WOK g (rs, a)) (h0 : 0 ≤ p) (h1 : p < (g.length : Int)) (hs : 0 ≤ s) {k : Nat} (h : itx g rs p k = s) : ∃ m, m < g.length ∧ itx g rs p m = s := by
  by_cases hn : itx g rs p g.length < 0
  · refine ⟨k, Nat.not_le.1 fun hh => ?_, h⟩
    have := itx_neg_mono hn hh
    omega
  · obtain ⟨i, d, e1, e2, e3⟩ := itx_cyc W h0 h1 (by omega)
    by_cases hk : k < g.length
    · exact ⟨k, hk, h⟩
    · have := itx_mod e3 (k - i)
      rw [show i + (k - i) = k by omega, h] at this
      have := Nat.mod_lt (k - i) (show 0 < d by omega)
      exact ⟨i + (k - i) % d, by omega, by omega⟩
theorem treeB_iff {g : List (List Int)} {rs : List Int} {a s : Int} (W : WOK g (rs, a)) (hs : 0 ≤ s) : treeB g rs s = true ↔ ∀ p : Nat, p < g.length → ∃ k, itx g rs p k = s := by
  constructor
  · intro h p hp
    have : (twN (nx g rs) s g.length (g.length + 3) 0 (itx g rs p 0)).isSome = true := by
      show (twN (nx g rs) s g.length (g.length + 3) 0 p).isSome = true
      cases hh : twN (nx g rs) s g.length (g.length + 3) 0 p with
      | some m => rfl
      | none =>
        exfalso
        have e1 : twL g rs s (p + 1) = none := by
          rw [twL]
          cases twL g rs s p with
          | none => rfl
          | some l => (try simp only); rw [hh]
        unfold treeB at h
        rw [twL_no e1 (by omega)] at h
        cases h
    exact twN_reach _ _ _ this
  · intro h
    refine tree_of fun p hp => ?_
    obtain ⟨k, hk⟩ := h p hp
    obtain ⟨m, hm, e⟩ := reach_low W (p := (p : Int)) (by omega) (by omega) hs hk
    exact reach_twN (p := (p : Int)) hs m _ 0 0 (by rw [Nat.zero_add]; exact e) (by omega) (by omega)
/-! Trees are as many as the determinant. -/
def prsOf (g : List (List Int)) (s : Int) (ps : List Nat) (rs : List Int) : List (Int × Int) := ((ps.zip rs).filter fun t => notS s t.1).map fun t => ((t.1 : Int), (g.getD t.1 []).getD t.2.toNat 0)
theorem prs_pos {g : List (List Int)} {s : Int} {p : Nat} (e : (p : Int) ≠ s) (r : Int) (ps : List Nat) (rs : List Int) : prsOf g s (p :: ps) (r :: rs) = ((p : Int), (g.getD p []).getD r.toNat 0) :: prsOf g s ps rs := by
  unfold prsOf
  rw [List.zip_cons_cons, List.filter_cons_of_pos (p := fun t : Nat × Int => notS s t.1) (a := (p, r)) (notS_t.2 e), List.map_cons]
theorem prs_neg {g : List (List Int)} {s : Int} {p : Nat} (e : (p : Int) = s) (r : Int) (ps : List Nat) (rs : List Int) : prsOf g s (p :: ps) (r :: rs) = prsOf g s ps rs := by
  unfold prsOf
  rw [List.zip_cons_cons, List.filter_cons_of_neg (p := fun t : Nat × Int => notS s t.1) (a := (p, r)) (notS_f e)]
theorem rng_get (ex : List Int) : (rngI ex.length).map (fun k => ex.getD k.toNat 0) = ex := by
  apply List.ext_getElem
  · simp [rngI]
  · intro i h1 h2
    simp only [rngI, List.getElem_map, List.getElem_range]
    rw [show ((i : Nat) : Int).toNat = i by omega, getD_getI h2]
theorem rot_tgt (g : List (List Int)) (s : Int) : ∀ ps : List Nat, (∀ p, p ∈ ps → (p : Int) ≠ s → (g.getD p []).length ≠ 0) →
    (prodL (ps.map (cand g s))).map (fun rs => (prsOf g s ps rs).map (·.2)) = prodL ((ps.filter (notS s)).map fun p : Nat => g.getD p [])
  | [], _ => rfl
  | p :: ps, h => by
    have ih := rot_tgt g s ps fun q hq => h q (List.mem_cons_of_mem _ hq)
    rw [List.map_cons, prodL, List.map_flatMap]
    by_cases e : (p : Int) = s
    · have hc : cand g s p = [0] := by unfold cand; rw [if_pos (.inl e)]
      rw [hc, List.filter_cons_of_neg (notS_f e), ← ih, List.flatMap_cons, List.flatMap_nil, List.append_nil, List.map_map]
      refine List.map_congr_left fun rs _ => ?_
      (try simp only [Function.comp])
      rw [prs_neg e]
    · have hc : cand g s p = rngI (g.getD p []).length := by
        unfold cand
        rw [if_neg fun hh => by
          rcases hh with hh | hh
          · exact e hh
          · exact h p (List.mem_cons_self ..) e hh]
      rw [hc, List.filter_cons_of_pos (notS_t.2 e), List.map_cons, prodL, ← ih]
      have : ∀ l : List Int, (l.flatMap fun x => ((prodL (ps.map (cand g s))).map (x :: ·)).map fun rs => (prsOf g s (p :: ps) rs).map (·.2)) = (l.map fun k => (g.getD p []).getD k.toNat 0).flatMap fun x => ((prodL (ps.map (cand g s))).map fun rs => (prsOf g s ps rs).map (·.2)).map (x :: ·) := by
        intro l
        rw [List.flatMap_map]
        congr 1
        funext x
        rw [List.map_map, List.map_map]
        refine List.map_congr_left fun rs _ => ?_
        (try simp only [Function.comp])
        rw [prs_pos e, List.map_cons]
      rw [this, rng_get]
theorem prs_names (g : List (List Int)) (s : Int) : ∀ (ps : List Nat) (rs : List Int), rs.length = ps.length → (prsOf g s ps rs).map (·.1) = (ps.filter (notS s)).map fun p : Nat => (p : Int)
  | [], rs, h => by simp [prsOf]
  | p :: ps, [], h => by simp at h
  | p :: ps, r :: rs, h => by
    have ih := prs_names g s ps rs (by simpa using h)
    by_cases e : (p : Int) = s
    · rw [prs_neg e, List.filter_cons_of_neg (notS_f e)]
      exact ih
    · rw [prs_pos e, List.filter_cons_of_pos (notS_t.2 e), List.map_cons, List.map_cons, ih]
theorem mem_prs {g : List (List Int)} {s : Int} {rs : List Int} (h : rs.length = g.length) {t : Int × Int} : t ∈ prsOf g s (List.range g.length) rs ↔ ∃ p : Nat, p < g.length ∧ (p : Int) ≠ s ∧ t = ((p : Int), (g.getD p []).getD (rs.getD p 0).toNat 0) := by
  unfold prsOf
  rw [List.mem_map]
  constructor
  · rintro ⟨u, hu, rfl⟩
    rw [List.mem_filter] at hu
    obtain ⟨i, hi, e⟩ := List.getElem_of_mem hu.1
    rw [List.length_zip, List.length_range] at hi
    rw [List.getElem_zip, List.getElem_range] at e
    have hir : i < rs.length := by have := Nat.min_le_right g.length rs.length; omega
    refine ⟨i, by omega, ?_, ?_⟩
    · have := hu.2
      rw [← e] at this
      exact notS_t.1 this
    · rw [← e]
      (try simp only)
      rw [getD_getI hir]
  · rintro ⟨p, hp, hne, rfl⟩
    refine ⟨(p, rs.getD p 0), List.mem_filter.2 ⟨?_, notS_t.2 hne⟩, rfl⟩
    have hz : p < ((List.range g.length).zip rs).length := by rw [List.length_zip, List.length_range]; omega
    have := List.getElem_mem hz
    rw [List.getElem_zip, List.getElem_range] at this
    rw [getD_getI (by omega)]
    exact this
theorem first_hit {g : List (List Int)} {rs : List Int} {s p : Int} : ∀ k, itx g rs p k = s → ∃ m, m ≤ k ∧ itx g rs p m = s ∧ ∀ j, j < m → itx g rs p j ≠ s := by
  intro k
  induction k using Nat.strongRecOn with
  | ind k ih =>
    intro h
    by_cases hx : ∃ j, j < k ∧ itx g rs p j = s
    · obtain ⟨j, a, b⟩ := hx
      obtain ⟨m, m1, m2⟩ := ih j a b
      exact ⟨m, by omega, m2⟩
    · exact ⟨k, Nat.le_refl _, h, fun j hj e => hx ⟨j, hj, e⟩⟩
theorem itx_cons {g : List (List Int)} {rs : List Int} (p : Int) : ∀ k, itx g rs (nx g rs p) k = itx g rs p (k + 1)
  | 0 => rfl
  | k + 1 => by rw [itx, itx_cons p k]; rfl
theorem tree_ok {g : List (List Int)} {s a : Int} {rs : List Int} (W : WOK g (rs, a)) (h0 : 0 ≤ s) (h1 : s < (g.length : Int)) (hne : ∀ p : Nat, p < g.length → (p : Int) ≠ s → (g.getD p []).length ≠ 0) :
    okT (prsOf g s (List.range g.length) rs).length (prsOf g s (List.range g.length) rs) = treeB g rs s := by
  have hl : rs.length = g.length := W.len
  have hn : (prsOf g s (List.range g.length) rs).map (·.1) = ((List.range g.length).filter (notS s)).map fun p : Nat => (p : Int) := prs_names g s _ _ (by rw [List.length_range]; exact hl)
  have nd : ((prsOf g s (List.range g.length) rs).map (·.1)).Nodup := by
    rw [hn]
    exact nd_names s _
  have nm : ∀ x : Int, x ∈ (prsOf g s (List.range g.length) rs).map (·.1) ↔ 0 ≤ x ∧ x < (g.length : Int) ∧ x ≠ s := fun x => by
    rw [hn, List.mem_map]
    constructor
    · rintro ⟨p, hp, rfl⟩
      rw [List.mem_filter, List.mem_range] at hp
      have := notS_t.1 hp.2
      omega
    · rintro ⟨a, b, c⟩
      exact ⟨x.toNat, List.mem_filter.2 ⟨List.mem_range.2 (by omega), notS_t.2 (by omega)⟩, by omega⟩
  have nxe : ∀ p : Nat, p < g.length → (p : Int) ≠ s → (g.getD p []).getD (rs.getD p 0).toNat 0 = nx g rs p ∧ 0 ≤ nx g rs p ∧ nx g rs p < (g.length : Int) := fun p hp hps => by
    have a1 := hne p hp hps
    obtain ⟨hr, hm, h2, e⟩ := nx_some W (p := (p : Int)) (by omega) (by omega) (by rw [getD_get hp] at a1; exact a1)
    have hm' := (graph_mem W.graph (List.getElem_mem (show (p : Int).toNat < g.length by omega))).2 _ (List.getElem_mem hm)
    refine ⟨?_, by rw [e]; omega, by rw [e]; omega⟩
    unfold nx
    rw [if_neg (by omega), show ((p : Nat) : Int).toNat = p by omega, if_neg a1]
  rw [Bool.eq_iff_iff, ok_rank _ _ rfl nd, treeB_iff W h0]
  constructor
  · rintro ⟨rk, H⟩
    have : ∀ (n : Nat) (p : Nat), p < g.length → rk p < n → ∃ k, itx g rs p k = s := by
      intro n
      induction n with
      | zero => intro p _ h; omega
      | succ n ih =>
        intro p hp hk
        by_cases e : (p : Int) = s
        · exact ⟨0, e⟩
        · obtain ⟨x1, x2, x3⟩ := nxe p hp e
          by_cases e2 : nx g rs p = s
          · exact ⟨1, e2⟩
          · have := H _ ((mem_prs hl).2 ⟨p, hp, e, rfl⟩) (by (try simp only); rw [x1]; exact (nm _).2 ⟨x2, x3, e2⟩)
            (try simp only at this)
            rw [x1] at this
            obtain ⟨k, hk'⟩ := ih (nx g rs p).toNat (by omega) (by rw [show (((nx g rs p).toNat : Nat) : Int) = nx g rs p by omega]; omega)
            rw [show (((nx g rs p).toNat : Nat) : Int) = nx g rs p by omega, itx_cons] at hk'
            exact ⟨k + 1, hk'⟩
    exact fun p hp => this _ p hp (Nat.lt_succ_self _)
  · intro H
    have hf : ∀ p : Int, ∃ m : Nat, 0 ≤ p → p < (g.length : Int) → itx g rs p m = s ∧ ∀ j, j < m → itx g rs p j ≠ s := fun p => by
      by_cases hp : 0 ≤ p ∧ p < (g.length : Int)
      · obtain ⟨k, hk⟩ := H p.toNat (by omega)
        rw [show ((p.toNat : Nat) : Int) = p by omega] at hk
        obtain ⟨m, _, m2⟩ := first_hit k hk
        exact ⟨m, fun _ _ => m2⟩
      · exact ⟨0, fun a b => absurd ⟨a, b⟩ hp⟩
    refine ⟨fun p => Classical.choose (hf p), fun t ht hm => ?_⟩
    obtain ⟨p, hp, hps, rfl⟩ := (mem_prs hl).1 ht
    obtain ⟨x1, x2, x3⟩ := nxe p hp hps
    (try simp only at hm ⊢)
    rw [x1] at hm ⊢
    obtain ⟨a1, a2⟩ := Classical.choose_spec (hf (nx g rs p)) x2 x3
    obtain ⟨b1, b2⟩ := Classical.choose_spec (hf (p : Int)) (by omega) (by omega)
    revert a1 a2 b1 b2
    generalize Classical.choose (hf (nx g rs p)) = u
    generalize Classical.choose (hf (p : Int)) = v
    intro a1 a2 b1 b2
    cases v with
    | zero => exact absurd b1 hps
    | succ v =>
      rw [← itx_cons] at b1
      refine Nat.not_le.1 fun hh => ?_
      exact a2 v (by omega) b1
theorem prod_nil {α : Type} : ∀ cs : List (List α), [] ∈ cs → prodL cs = []
  | [], h => by simp at h
  | c :: cs, h => by
    rw [prodL]
    rcases List.mem_cons.1 h with h | h
    · rw [← h]; rfl
    · rw [prod_nil cs h]
      simp
theorem trees_count {g : List (List Int)} {s : Int} (hg : graphB g = true) (h0 : 0 ≤ s) (h1 : s < (g.length : Int)) : ((treesL g s).length : Int) = det (g.length - 1) (lapM (tsOf g s)) := by
  have hl : (tsOf g s).length = g.length - 1 := by
    unfold tsOf
    rw [List.length_map]
    have : ∀ n : Nat, ((List.range n).filter (notS s)).length = if s.toNat < n then n - 1 else n := by
      intro n
      induction n with
      | zero => rfl
      | succ n ih =>
        rw [List.range_succ, List.filter_append, List.length_append, ih]
        by_cases e : (n : Int) = s
        · rw [List.filter_cons_of_neg (notS_f e), if_neg (by omega), if_pos (by omega)]; simp
        · rw [List.filter_cons_of_pos (notS_t.2 e)]
          by_cases c : s.toNat < n
          · rw [if_pos c, if_pos (by omega)]; simp; omega
          · rw [if_neg c, if_neg (by omega)]; simp
    rw [this, if_pos (by omega)]
  have nd : ((tsOf g s).map (·.1)).Nodup := by
    unfold tsOf
    rw [List.map_map]
    exact nd_names s _
  rw [det_lap _ _ hl nd, cnt_prod _ _ hl]
  congr 1
  unfold treesL
  rw [← List.countP_eq_length_filter]
  have ex : (tsOf g s).map (·.2) = ((List.range g.length).filter (notS s)).map fun p : Nat => g.getD p [] := by
    unfold tsOf
    rw [List.map_map]
    rfl
  have en : (tsOf g s).map (·.1) = ((List.range g.length).filter (notS s)).map fun p : Nat => (p : Int) := by
    unfold tsOf
    rw [List.map_map]
    rfl
  by_cases hne : ∀ p : Nat, p < g.length → (p : Int) ≠ s → (g.getD p []).length ≠ 0
  · rw [ex, ← rot_tgt g s (List.range g.length) fun p hp => hne p (List.mem_range.1 hp), List.countP_map]
    show (allRot g s).countP _ = (allRot g s).countP _
    refine List.countP_congr fun rs hrs => ?_
    (try simp only [Function.comp])
    have W := (rot_ok (a := s) hg h0 h1 hrs).1
    have hrl : rs.length = g.length := W.len
    rw [en, ← prs_names g s (List.range g.length) rs (by rw [List.length_range]; exact hrl)]
    have hz : ((prsOf g s (List.range g.length) rs).map (·.1)).zip ((prsOf g s (List.range g.length) rs).map (·.2)) = prsOf g s (List.range g.length) rs := by
      generalize prsOf g s (List.range g.length) rs = l
      induction l with
      | nil => rfl
      | cons a l ih => rw [List.map_cons, List.map_cons, List.zip_cons_cons, ih]
    have hlen : (prsOf g s (List.range g.length) rs).length = g.length - 1 := by
      have := congrArg List.length (prs_names g s (List.range g.length) rs (by rw [List.length_range]; exact hrl))
      rw [List.length_map] at this
      rw [this, ← en, List.length_map, hl]
    rw [hz, ← hlen, tree_ok W h0 h1 hne]
  · have : ∃ p : Nat, p < g.length ∧ (p : Int) ≠ s ∧ (g.getD p []).length = 0 := by
      refine Classical.byContradiction fun hh => hne fun p hp hps hz => hh ⟨p, hp, hps, hz⟩
    obtain ⟨p, hp, hps, hz⟩ := this
    have e1 : prodL ((tsOf g s).map (·.2)) = [] := by
      refine prod_nil _ ?_
      rw [ex, List.mem_map]
      exact ⟨p, List.mem_filter.2 ⟨List.mem_range.2 hp, notS_t.2 hps⟩, List.length_eq_zero_iff.1 hz⟩
    rw [e1, List.countP_nil, List.countP_eq_zero]
    intro rs hrs hh
    have W := (rot_ok (a := s) hg h0 h1 hrs).1
    obtain ⟨k, hk⟩ := (treeB_iff W h0).1 hh p hp
    cases k with
    | zero => exact hps hk
    | succ k =>
      have : itx g rs p 1 < 0 := by
        show nx g rs p < 0
        unfold nx
        rw [if_neg (by omega), show ((p : Nat) : Int).toNat = p by omega, if_pos hz]
        omega
      have := itx_neg_mono this (show 1 ≤ k + 1 by omega)
      omega

/-! The search for trees, place by place. -/
def lpG (g : List (List Int)) (s : Int) (rs : List Int) (p : Int) : Nat → Int → Bool
  | 0, _ => true
  | n + 1, q => if q = s ∨ p < q then false else if nx g rs q < 0 then true else lpG g s rs p n (nx g rs q)
def lpB (g : List (List Int)) (s : Int) (rs : List Int) (p : Int) : Bool := lpG g s rs p (g.length + 1) p
theorem itx_add3 {g : List (List Int)} {rs : List Int} (p : Int) (m : Nat) : ∀ k, itx g rs p (m + k) = itx g rs (itx g rs p m) k
  | 0 => rfl
  | k + 1 => by rw [← Nat.add_assoc, itx, itx_add3 p m k]; rfl
theorem lpG_true {g : List (List Int)} {s p : Int} {rs : List Int} : ∀ (n : Nat) (q : Int), lpG g s rs p n q = true → (∃ j, j < n ∧ (∀ i, i ≤ j → itx g rs q i ≠ s ∧ itx g rs q i ≤ p) ∧ itx g rs q (j + 1) < 0) ∨ ∀ i, i < n → itx g rs q i ≠ s ∧ itx g rs q i ≤ p
  | 0, q, _ => .inr fun i hi => by omega
  | n + 1, q, h => by
    rw [lpG] at h
    split at h
    · cases h
    · rename_i h1
      have h1 : q ≠ s ∧ q ≤ p := ⟨fun e => h1 (.inl e), by omega⟩
      split at h
      · rename_i h2
        refine .inl ⟨0, by omega, fun i hi => ?_, h2⟩
        rw [show i = 0 by omega]
        exact h1
      · rcases lpG_true n (nx g rs q) h with ⟨j, j1, j2, j3⟩ | h3
        · refine .inl ⟨j + 1, by omega, fun i hi => ?_, by rw [← itx_cons]; exact j3⟩
          cases i with
          | zero => exact h1
          | succ i => rw [← itx_cons]; exact j2 i (by omega)
        · refine .inr fun i hi => ?_
          cases i with
          | zero => exact h1
          | succ i => rw [← itx_cons]; exact h3 i (by omega)
theorem lpG_false {g : List (List Int)} {s p : Int} {rs : List Int} : ∀ (n : Nat) (q : Int), lpG g s rs p n q = false → ∃ m, itx g rs q m = s ∨ p < itx g rs q m
  | 0, q, h => by cases h
  | n + 1, q, h => by
    rw [lpG] at h
    split at h
    · rename_i h1
      exact ⟨0, h1⟩
    · split at h
      · cases h
      · obtain ⟨m, hm⟩ := lpG_false n _ h
        exact ⟨m + 1, by rw [← itx_cons]; exact hm⟩
theorem nx_agree {g : List (List Int)} {rs rs' : List Int} {p : Int} (h : ∀ i : Nat, (i : Int) ≤ p → rs'.getD i 0 = rs.getD i 0) {q : Int} (hq : q ≤ p) : nx g rs' q = nx g rs q := by
  unfold nx
  by_cases h0 : q < 0
  · rw [if_pos h0, if_pos h0]
  · rw [h q.toNat (by omega)]
theorem itx_agree {g : List (List Int)} {rs rs' : List Int} {p q : Int} (h : ∀ i : Nat, (i : Int) ≤ p → rs'.getD i 0 = rs.getD i 0) : ∀ k, (∀ i, i < k → itx g rs q i ≤ p) → itx g rs' q k = itx g rs q k
  | 0, _ => rfl
  | k + 1, hk => by
    rw [itx, itx, itx_agree h k fun i hi => hk i (by omega), nx_agree h (hk k (by omega))]
theorem lpG_agree {g : List (List Int)} {s p : Int} {rs rs' : List Int} (h : ∀ i : Nat, (i : Int) ≤ p → rs'.getD i 0 = rs.getD i 0) : ∀ (n : Nat) (q : Int), lpG g s rs' p n q = lpG g s rs p n q
  | 0, _ => rfl
  | n + 1, q => by
    rw [lpG, lpG]
    by_cases h1 : q = s ∨ p < q
    · rw [if_pos h1, if_pos h1]
    · rw [if_neg h1, if_neg h1, nx_agree h (by omega), lpG_agree h n]
theorem lp_no {g : List (List Int)} {s p a : Int} {rs rs' : List Int} (W : WOK g (rs', a)) (hs : 0 ≤ s) (p0 : 0 ≤ p) (p1 : p < (g.length : Int)) (h : ∀ i : Nat, (i : Int) ≤ p → rs'.getD i 0 = rs.getD i 0) (hl : lpB g s rs p = true) : treeB g rs' s = false := by
  rw [Bool.eq_false_iff]
  intro ht
  obtain ⟨k, hk⟩ := (treeB_iff W hs).1 ht p.toNat (by omega)
  rw [show ((p.toNat : Nat) : Int) = p by omega] at hk
  obtain ⟨m, m1, m2⟩ := reach_low W p0 p1 hs hk
  rcases lpG_true _ _ hl with ⟨j, _, j2, j3⟩ | h3
  · have e : itx g rs' p (j + 1) < 0 := by rw [itx_agree h (j + 1) fun i hi => (j2 i (by omega)).2]; exact j3
    by_cases hm : m ≤ j
    · have := itx_agree (q := p) h m fun i hi => (j2 i (by omega)).2
      exact (j2 m hm).1 (this.symm.trans m2)
    · have := itx_neg_mono e (show j + 1 ≤ m by omega)
      omega
  · have := itx_agree (q := p) h m fun i hi => (h3 i (by omega)).2
    exact (h3 m (by omega)).1 (this.symm.trans m2)
theorem lp_tree {g : List (List Int)} {s a : Int} {rs : List Int} (W : WOK g (rs, a)) (hs : 0 ≤ s) (h : ∀ p : Nat, p < g.length → (p : Int) ≠ s → lpB g s rs p = false) : treeB g rs s = true := by
  rw [treeB_iff W hs]
  have : ∀ d p : Nat, p < g.length → g.length - p = d → ∃ k, itx g rs p k = s := by
    intro d
    induction d using Nat.strongRecOn with
    | ind d ih =>
      intro p hp hd
      by_cases e : (p : Int) = s
      · exact ⟨0, e⟩
      · obtain ⟨m, hm⟩ := lpG_false _ _ (h p hp e)
        rcases hm with hm | hm
        · exact ⟨m, hm⟩
        · have lt := (itx_lt W (p := (p : Int)) (by omega) (by omega) m).2
          obtain ⟨k, hk⟩ := ih (g.length - (itx g rs p m).toNat) (by omega) (itx g rs p m).toNat (by omega) rfl
          rw [show (((itx g rs p m).toNat : Nat) : Int) = itx g rs p m by omega, ← itx_add3] at hk
          exact ⟨m + k, hk⟩
  exact fun p hp => this _ p hp rfl
/-- The trees that begin with the rotors before a place. -/
def ptL (g : List (List Int)) (s : Int) (rs : List Int) (p : Nat) : List (List Int) := ((prodL ((List.range' p (g.length - p)).map (cand g s))).map fun l => rs.take p ++ l).filter fun rs => treeB g rs s
theorem ptL_zero (g : List (List Int)) (s : Int) (rs : List Int) : ptL g s rs 0 = treesL g s := by
  unfold ptL treesL allRot
  rw [Nat.sub_zero, List.range_eq_range', List.take_zero]
  simp
theorem ptL_end {g : List (List Int)} {s : Int} {rs : List Int} (hl : rs.length = g.length) : ptL g s rs g.length = if treeB g rs s = true then [rs] else [] := by
  unfold ptL
  rw [Nat.sub_self, List.range'_zero, List.map_nil, prodL, List.map_cons, List.map_nil, List.append_nil, List.take_of_length_le (by omega), List.filter_cons]
  rfl
theorem ptL_step {g : List (List Int)} {s : Int} {rs : List Int} (hl : rs.length = g.length) {p : Nat} (hp : p < g.length) : ptL g s rs p = (cand g s p).flatMap fun k => ptL g s (rs.set p k) (p + 1) := by
  unfold ptL
  rw [show g.length - p = (g.length - (p + 1)) + 1 by omega, List.range'_succ, List.map_cons, prodL, List.map_flatMap, List.filter_flatMap]
  congr 1
  funext k
  rw [List.map_map]
  congr 1
  refine List.map_congr_left fun l _ => ?_
  (try simp only [Function.comp])
  rw [List.take_succ_eq_append_getElem (by rw [List.length_set]; omega), List.getElem_set_self, List.take_set_of_le (Nat.le_refl _), List.append_assoc]
  rfl
theorem mem_ptL {g : List (List Int)} {s : Int} {rs l : List Int} {p : Nat} (hl : rs.length = g.length) (hp : p ≤ g.length) (h : l ∈ ptL g s rs p) : l.length = g.length ∧ (∀ i : Nat, i < p → l.getD i 0 = rs.getD i 0) ∧ (∀ i (h1 : i < l.length), p ≤ i → l[i] ∈ cand g s i) ∧ treeB g l s = true := by
  unfold ptL at h
  rw [List.mem_filter, List.mem_map] at h
  obtain ⟨⟨m, hm, rfl⟩, ht⟩ := h
  obtain ⟨e1, e2⟩ := (mem_prodL _ _).1 hm
  rw [List.length_map, List.length_range'] at e1
  have tl : (rs.take p).length = p := by rw [List.length_take]; omega
  refine ⟨by rw [List.length_append, tl, e1]; omega, fun i hi => ?_, fun i h1 h2 => ?_, ht⟩
  · rw [List.getD_eq_getElem?_getD, List.getD_eq_getElem?_getD, List.getElem?_append_left (by omega), List.getElem?_take_of_lt hi]
  · rw [List.length_append, tl] at h1
    rw [List.getElem_append_right (by omega)]
    have := e2 (i - (rs.take p).length) (by omega) (by rw [List.length_map, List.length_range']; omega)
    rw [List.getElem_map, List.getElem_range'] at this
    rw [show p + 1 * (i - (rs.take p).length) = i by omega] at this
    exact this
theorem ptL_no {g : List (List Int)} {s : Int} {rs : List Int} (hg : graphB g = true) (hs : 0 ≤ s) {p : Nat} (hp : p < g.length) (hl : rs.length = g.length) (hr : ∀ i (h1 : i < rs.length) (h2 : i < g.length), i ≤ p → 0 ≤ rs[i] ∧ rs[i] ≤ max ((g[i].length : Int) - 1) 0) (h : lpB g s rs p = true) : ptL g s rs (p + 1) = [] := by
  rw [List.eq_nil_iff_forall_not_mem]
  intro l hm
  obtain ⟨m1, m2, m3, m4⟩ := mem_ptL hl (by omega) hm
  have W : WOK g (l, (p : Int)) := ⟨hg, m1, by (try simp only); omega, by (try simp only); omega, fun i a b => by
    (try simp only at a ⊢)
    by_cases hi : i < p + 1
    · have e := m2 i hi
      rw [getD_getI a, getD_getI (by omega)] at e
      rw [e]
      exact hr i (by omega) b (by omega)
    · have := m3 i a (by omega)
      unfold cand at this
      rw [getD_get b] at this
      split at this
      · rw [List.mem_singleton] at this
        omega
      · have := mem_rngI.1 this
        omega⟩
  rw [lp_no W hs (by omega) (by omega) (fun i hi => m2 i (by omega)) h] at m4
  cases m4
theorem take_app {α : Type} (m : Nat) (a b : List α) : ((a.take m) ++ b).take m = (a ++ b).take m := by
  rw [List.take_append, List.take_append, List.take_take, List.length_take, Nat.min_self]
  by_cases h : a.length ≤ m
  · rw [Nat.min_eq_right h]
  · rw [Nat.min_eq_left (by omega), Nat.sub_self, show m - a.length = 0 by omega]

/-! All choices of digits in their order: the next one turns the last digit that is not the greatest. -/
def Ch {α : Type} (f : α → Option α) : List α → Option α → Prop
  | [], _ => True
  | [x], e => f x = e
  | x :: y :: l, e => f x = some y ∧ Ch f (y :: l) e
theorem Ch.app {α : Type} {f : α → Option α} {y : α} {l2 : List α} {e : Option α} : ∀ {l1 : List α}, Ch f l1 (some y) → Ch f (y :: l2) e → Ch f (l1 ++ y :: l2) e
  | [], _, h => h
  | [x], h1, h2 => ⟨h1, h2⟩
  | x :: z :: l, h1, h2 => ⟨h1.1, Ch.app (l1 := z :: l) h1.2 h2⟩
theorem Ch.at {α : Type} {f : α → Option α} {e : Option α} : ∀ {pre post : List α} {x : α}, Ch f (pre ++ x :: post) e → f x = (match post with | [] => e | y :: _ => some y)
  | [], [], x, h => h
  | [], y :: post, x, h => h.1
  | [a], post, x, h => Ch.at (pre := []) h.2
  | a :: b :: pre, post, x, h => Ch.at (pre := b :: pre) h.2
theorem Ch.map {α β : Type} {f : α → Option α} {F : β → Option β} {g : α → β} {e : Option β} : ∀ {l : List α}, Ch f l none → (∀ x y, f x = some y → F (g x) = some (g y)) → (∀ x, f x = none → x ∈ l → F (g x) = e) → Ch F (l.map g) e
  | [], _, _, _ => trivial
  | [x], h, _, h2 => h2 x h (List.mem_singleton.2 rfl)
  | x :: y :: l, h, h1, h2 => ⟨h1 x y h.1, Ch.map (l := y :: l) h.2 h1 fun z hz hm => h2 z hz (List.mem_cons_of_mem _ hm)⟩
def zerL (ns : List Nat) : List Int := ns.map fun _ => 0
def nextD : List Nat → List Int → Option (List Int)
  | n :: ns, x :: l => match nextD ns l with
    | some l' => some (x :: l')
    | none => if x + 1 < (n : Int) then some ((x + 1) :: zerL ns) else none
  | _, _ => none
def seqI (a k : Nat) : List Int := (List.range' a k).map fun i : Nat => (i : Int)
theorem rngI_seq (n : Nat) : rngI n = seqI 0 n := by unfold rngI seqI; rw [List.range_eq_range']
theorem seqI_succ (a k : Nat) : seqI a (k + 1) = (a : Int) :: seqI (a + 1) k := by unfold seqI; rw [List.range'_succ, List.map_cons]
theorem prodL_head : ∀ ns : List Nat, (∀ n, n ∈ ns → 1 ≤ n) → ∃ t, prodL (ns.map rngI) = zerL ns :: t
  | [], _ => ⟨[], rfl⟩
  | n :: ns, h => by
    obtain ⟨t, ht⟩ := prodL_head ns fun m hm => h m (List.mem_cons_of_mem _ hm)
    obtain ⟨k, rfl⟩ : ∃ k, n = k + 1 := ⟨n - 1, by have := h n (List.mem_cons_self ..); omega⟩
    rw [List.map_cons, prodL, ht, rngI_seq, seqI_succ, List.flatMap_cons]
    exact ⟨_, rfl⟩
theorem chain_all : ∀ ns : List Nat, (∀ n, n ∈ ns → 1 ≤ n) → Ch (nextD ns) (prodL (ns.map rngI)) none
  | [], _ => rfl
  | n :: ns, h => by
    have h' : ∀ m, m ∈ ns → 1 ≤ m := fun m hm => h m (List.mem_cons_of_mem _ hm)
    have ih := chain_all ns h'
    obtain ⟨t, ht⟩ := prodL_head ns h'
    have blk : ∀ x : Int, Ch (nextD (n :: ns)) ((prodL (ns.map rngI)).map (x :: ·)) (if x + 1 < (n : Int) then some ((x + 1) :: zerL ns) else none) := fun x =>
      Ch.map ih (fun l l' hl => by rw [nextD, hl]) fun l hl _ => by rw [nextD, hl]
    have go : ∀ k a : Nat, a + k = n → 1 ≤ k → Ch (nextD (n :: ns)) ((seqI a k).flatMap fun x => (prodL (ns.map rngI)).map (x :: ·)) none := by
      intro k
      induction k with
      | zero => intro a _ h; omega
      | succ k ih2 =>
        intro a ha _
        rw [seqI_succ, List.flatMap_cons]
        by_cases hk : k = 0
        · subst hk
          have e : seqI (a + 1) 0 = [] := rfl
          rw [e, List.flatMap_nil, List.append_nil]
          have := blk (a : Int)
          rw [if_neg (by omega)] at this
          exact this
        · have h2 := ih2 (a + 1) (by omega) (by omega)
          have h1 := blk (a : Int)
          rw [if_pos (by omega)] at h1
          obtain ⟨j, rfl⟩ : ∃ j, k = j + 1 := ⟨k - 1, by omega⟩
          rw [seqI_succ, List.flatMap_cons, ht] at h2 ⊢
          rw [ht] at h1
          simp only [List.map_cons, List.cons_append] at h1 h2 ⊢
          refine Ch.app (l1 := ((a : Int) :: zerL ns) :: t.map fun l => (a : Int) :: l) ?_ h2
          have e : (((a + 1 : Nat) : Int) :: zerL ns) = ((a : Int) + 1) :: zerL ns := by rw [show ((a + 1 : Nat) : Int) = (a : Int) + 1 by omega]
          rw [e]
          exact h1
    rw [List.map_cons, prodL, rngI_seq]
    exact go n 0 (by omega) (h n (List.mem_cons_self ..))
/-- All digits behind a place are the greatest. -/
theorem nextD_none : ∀ (ns : List Nat) (l : List Int), l.length = ns.length → (∀ i (h1 : i < l.length) (h2 : i < ns.length), ((ns[i] : Nat) : Int) ≤ l[i] + 1) → nextD ns l = none
  | [], [], _, _ => rfl
  | [], _ :: _, h, _ => by simp at h
  | _ :: _, [], h, _ => by simp at h
  | n :: ns, x :: l, h, hm => by
    rw [nextD, nextD_none ns l (by simpa using h) fun i h1 h2 => hm (i + 1) (by simpa using h1) (by simpa using h2)]
    have := hm 0 (by simp) (by simp)
    simp only [List.getElem_cons_zero] at this
    exact if_neg (by omega)
theorem nextD_some : ∀ (ns : List Nat) (l : List Int) (p : Nat), l.length = ns.length → (h1 : p < l.length) → (h2 : p < ns.length) → l[p] + 1 < ((ns[p] : Nat) : Int) → (∀ i (a : i < l.length) (b : i < ns.length), p < i → ((ns[i] : Nat) : Int) ≤ l[i] + 1) →
    nextD ns l = some (l.take p ++ (l[p] + 1) :: zerL (ns.drop (p + 1)))
  | [], _, p, _, _, h2, _, _ => by simp at h2
  | _ :: _, [], p, _, h1, _, _, _ => by simp at h1
  | n :: ns, x :: l, 0, h, h1, h2, hx, hm => by
    rw [nextD, nextD_none ns l (by simpa using h) fun i a b => hm (i + 1) (by simpa using a) (by simpa using b) (by omega)]
    simp only [List.getElem_cons_zero] at hx ⊢
    simp [hx]
  | n :: ns, x :: l, p + 1, h, h1, h2, hx, hm => by
    rw [nextD, nextD_some ns l p (by simpa using h) (by simpa using h1) (by simpa using h2) (by simpa using hx) fun i a b c => hm (i + 1) (by simpa using a) (by simpa using b) (by omega)]
    simp

theorem setCells_heap (b : Nat) : ∀ (vs : List Value) (i o : Nat) (w : World), (World.setCells w b (o + i) vs).heap = (vs.zipIdx i).foldl (fun h p => Mx.hset h ((⟨b, o, none⟩ : Addr).add p.2) p.1) w.heap ∧ Same w (World.setCells w b (o + i) vs)
  | [], i, o, w => ⟨rfl, Same.refl _⟩
  | v :: vs, i, o, w => by
    rw [World.setCells, List.zipIdx_cons, List.foldl_cons, add_plain']
    obtain ⟨a, b'⟩ := setCells_heap b vs (i + 1) o (w.setCell ⟨b, o + i, none⟩ v)
    rw [show o + i + 1 = o + (i + 1) by omega, a]
    exact ⟨rfl, Same.trans (b := w.setCell ⟨b, o + i, none⟩ v) ⟨rfl, rfl, rfl⟩ b'⟩
theorem Ow.puts {F : Nat → Prop} {e : TypeId} {s : Sl} {g o : Nat} (ha : s.a = some ⟨g, o, none⟩) : ∀ (vs : List Value) (i : Nat) {h : Heap} {cs : List Value}, Ow h F e 1 s cs → i + vs.length ≤ s.n →
    Fr s.own h ((vs.zipIdx i).foldl (fun h p => Mx.hset h ((⟨g, o, none⟩ : Addr).add p.2) p.1) h) ∧ Ow ((vs.zipIdx i).foldl (fun h p => Mx.hset h ((⟨g, o, none⟩ : Addr).add p.2) p.1) h) F e 1 s (cs.take i ++ vs ++ cs.drop (i + vs.length))
  | [], i, h, cs, H, _ => ⟨Fr.refl _ _, by simpa using H⟩
  | v :: vs, i, h, cs, H, hl => by
    simp only [List.length_cons] at hl
    simp only [List.zipIdx_cons, List.foldl_cons]
    have hc := H.len
    have hi' : ((i : Nat) : Int) < (s.n : Int) := by omega
    have h0' : (0 : Int) ≤ ((i : Nat) : Int) := by omega
    obtain ⟨_, a2, a3⟩ := H.store1 h0' hi' v
    have ea : s.at (i : Int) 1 = (⟨g, o, none⟩ : Addr).add i := by rw [at_one ha]; rfl
    rw [ea] at a2 a3
    rw [show ((i : Nat) : Int).toNat = i from rfl] at a2
    obtain ⟨b1, b2⟩ := Ow.puts ha vs (i + 1) a2 (by omega)
    refine ⟨a3.trans b1, ?_⟩
    have eq1 : (cs.set i v).take (i + 1) ++ vs ++ (cs.set i v).drop (i + 1 + vs.length) = cs.take i ++ (v :: vs) ++ cs.drop (i + (v :: vs).length) := by
      have e1 : (cs.set i v).take (i + 1) = cs.take i ++ [v] := by
        rw [List.take_succ_eq_append_getElem (by simp; omega), List.take_set_of_le (Nat.le_refl _)]
        simp
      have e2 : (cs.set i v).drop (i + 1 + vs.length) = cs.drop (i + (v :: vs).length) := by
        rw [List.drop_set_of_lt (by omega)]
        congr 1
        simp; omega
      rw [e1, e2]
      simp
    rw [← eq1]
    exact b2
/-- One element is taken out in place. -/
theorem k_Delete {h : Heap} {F : Nat → Prop} {s : Sl} {xs : List Int} (O : OwI h F s xs) {i : Nat} (hi : i < xs.length) (K : Value → Heap → Prop) (HK : ∀ t h', OwI h' F t (xs.eraseIdx i) → Fr s.own h h' → (∀ k, t.own k → s.own k) → K t.v h') : callM Try.prog 134 #[s.v, VI i, VI (i + 1 : Nat)] h K := by
  have sn : s.n = xs.length := by have := O.len; simpa using this.symm
  rcases O.out with ⟨_, hv⟩ | ⟨g, o, cur, ha, hF, hg, h1, h2, h3, h4⟩
  · rw [List.map_eq_nil_iff] at hv
    rw [hv] at hi
    simp at hi
  have hsv : s.v = .slice (some ⟨g, o, none⟩) xs.length s.c := by unfold Sl.v; rw [ha, ← sn]
  refine ⟨fun w hw => .inr ⟨134, _, w, Go.Proofs.enters_of Try.func134 (by kernel_rfl) rfl _ _, rfl, ?_⟩⟩
  subst hw
  rw [hsv]
  refine (Try.slices_Delete_int_cells g o xs.length s.c i (i + 1) xs w (Nat.le_refl _) (by omega) (by have := h2; simp only [maxLen] at this; omega) (by omega) (by omega) (fun j hj => ?_) (fun j hj => ?_)).mono ?_
  · have := Ow.at_cell O (i := j) (by simpa using hj)
    rw [at_one ha] at this
    rw [cell_eq, ← add_mk, getD_getI hj]
    simpa using this
  · rw [frozen_eq]
    exact hfrz_row hg
  · rintro e w' ⟨rfl, q, rfl⟩
    rw [List.take_of_length_le (Nat.le_refl _), show i + 1 - i = 1 by omega]
    obtain ⟨a1, a2⟩ := setCells_heap g ((xs.take i ++ xs.drop (i + 1) ++ List.replicate 1 0).map (Value.int .i64)) 0 o (w.drewN q)
    rw [Nat.add_zero] at a1 a2
    have ell : (xs.take i ++ xs.drop (i + 1) ++ List.replicate 1 (0 : Int)).length = xs.length := by simp; omega
    obtain ⟨b1, b2⟩ := Ow.puts ha ((xs.take i ++ xs.drop (i + 1) ++ List.replicate 1 (0 : Int)).map (Value.int .i64)) 0 O (by rw [List.length_map, ell]; omega)
    refine ⟨_, rfl, Same.trans (b := w.drewN q) ⟨rfl, rfl, rfl⟩ a2, ?_⟩
    rw [a1]
    have b3 := Ow.cut b2 (l := 0) (m := xs.length - 1) (by omega) (by omega)
    have et : s.cut 1 0 (xs.length - 1) s.c = ⟨some ⟨g, o, none⟩, xs.length - 1, s.c⟩ := by
      unfold Sl.cut
      rw [ha, if_neg (by omega)]
      rfl
    rw [et] at b3
    refine HK ⟨some ⟨g, o, none⟩, xs.length - 1, s.c⟩ _ ?_ b1 fun k hk => by unfold Sl.own at *; rw [ha]; exact hk
    have ex : (((List.take 0 (xs.map VI) ++ (xs.take i ++ xs.drop (i + 1) ++ List.replicate 1 (0 : Int)).map (Value.int .i64) ++ List.drop (0 + ((xs.take i ++ xs.drop (i + 1) ++ List.replicate 1 (0 : Int)).map (Value.int .i64)).length) (xs.map VI)).drop (0 * 1)).take ((xs.length - 1 - 0) * 1)) = (xs.eraseIdx i).map VI := by
      rw [List.length_map, ell, List.drop_of_length_le (l := xs.map VI) (by simp), List.append_nil, List.take_zero, List.nil_append, Nat.zero_mul, List.drop_zero, List.map_append, List.take_append_of_le_length (by simp; omega), List.take_of_length_le (by simp; omega), List.eraseIdx_eq_take_drop_succ]
    rw [ex] at b3
    exact b3

def matL (rows : List (List Int)) : Mat := fun i j => (rows.getD i []).getD j 0
theorem matL_get {rows : List (List Int)} {i j : Nat} (h1 : i < rows.length) (h2 : j < rows[i].length) : matL rows i j = (rows[i])[j] := by unfold matL; rw [getD_get h1, getD_getI h2]
theorem matL_set {rows : List (List Int)} {i j : Nat} {v : Int} (h1 : i < rows.length) (h2 : j < rows[i].length) (a b : Nat) : matL (rows.set i (rows[i].set j v)) a b = if a = i ∧ b = j then v else matL rows a b := by
  unfold matL
  rw [List.getD_eq_getElem?_getD (l := rows.set i _), List.getElem?_set]
  by_cases ha : i = a
  · subst ha
    rw [if_pos rfl, if_pos h1, Option.getD_some, getD_get h1, List.getD_eq_getElem?_getD, List.getElem?_set]
    by_cases hb : j = b
    · subst hb; rw [if_pos rfl, if_pos h2, if_pos ⟨rfl, rfl⟩]; rfl
    · rw [if_neg hb, if_neg fun h => hb h.2.symm, List.getD_eq_getElem?_getD]
  · rw [if_neg ha, if_neg fun h => ha h.1.symm]
    simp [List.getD_eq_getElem?_getD]
structure Sq (n : Nat) (rows : List (List Int)) : Prop where
  len : rows.length = n
  row : ∀ i (h : i < rows.length), rows[i].length = n
theorem Sq.set {n : Nat} {rows : List (List Int)} (H : Sq n rows) {i : Nat} (hi : i < rows.length) (l : List Int) (hl : l.length = n) : Sq n (rows.set i l) := ⟨by rw [List.length_set]; exact H.len, fun a ha => by
  rw [List.getElem_set]
  split
  · exact hl
  · exact H.row a (by rw [List.length_set] at ha; exact ha)⟩
/-- Two rows change places. -/
def swL (rows : List (List Int)) (i j : Nat) : List (List Int) := (rows.set i (rows.getD j [])).set j (rows.getD i [])
theorem swL_get {rows : List (List Int)} {i j : Nat} (hi : i < rows.length) (hj : j < rows.length) (a : Nat) : (swL rows i j).getD a [] = rows.getD (swA i j a) [] := by
  unfold swL swA
  rw [List.getD_eq_getElem?_getD, List.getElem?_set, List.length_set, List.getElem?_set]
  by_cases h1 : a = i
  · subst h1
    rw [if_pos rfl]
    by_cases h2 : j = a
    · subst h2; rw [if_pos rfl, if_pos hj]; simp
    · rw [if_neg h2, if_pos rfl, if_pos hi]; rfl
  · rw [if_neg h1]
    by_cases h2 : a = j
    · subst h2; rw [if_pos rfl, if_pos hj, if_pos rfl]; rfl
    · rw [if_neg h2, if_neg fun e => h2 e.symm, if_neg fun e => h1 e.symm, List.getD_eq_getElem?_getD]
theorem swL_mat {rows : List (List Int)} {i j : Nat} (hi : i < rows.length) (hj : j < rows.length) : matL (swL rows i j) = fun a => matL rows (swA i j a) := by
  funext a b
  unfold matL
  rw [swL_get hi hj]
theorem swL_sq {n : Nat} {rows : List (List Int)} (H : Sq n rows) {i j : Nat} (hi : i < rows.length) (hj : j < rows.length) : Sq n (swL rows i j) := by
  unfold swL
  refine (H.set hi _ ?_).set (by rw [List.length_set]; exact hj) _ ?_
  · rw [getD_get hj]; exact H.row j hj
  · rw [getD_get hi]; exact H.row i hi
theorem OwR.swap {h : Heap} {F : Nat → Prop} {eo ei : TypeId} {s : Sl} {xss : List (List Int)} (H : OwR h F eo ei s xss) {i j : Int} (i0 : 0 ≤ i) (i1 : i < (xss.length : Int)) (j0 : 0 ≤ j) (j1 : j < (xss.length : Int)) (hne : i ≠ j) :
    ∃ si sj : Sl, hcell h (s.at i 1) = some si.v ∧ hcell h (s.at j 1) = some sj.v ∧ InB s i ∧ InB s j ∧ Writable h (s.at i 1) ∧ Writable (hset h (s.at i 1) sj.v) (s.at j 1) ∧
      OwR (hset (hset h (s.at i 1) sj.v) (s.at j 1) si.v) F eo ei s (swL xss i.toNat j.toNat) ∧ Fr s.own h (hset (hset h (s.at i 1) sj.v) (s.at j 1) si.v) ∧ Fr s.own h (hset h (s.at i 1) sj.v) := by
  have hlen := H.len
  obtain ⟨ss, e1, h2, h3, h4, h5⟩ := H.out
  have hi : i.toNat < ss.length := by omega
  have hj : j.toNat < ss.length := by omega
  have ci := h2.at_cell (i := i.toNat) (by simpa using hi)
  have cj := h2.at_cell (i := j.toNat) (by simpa using hj)
  rw [show ((i.toNat : Nat) : Int) = i by omega, List.getElem_map] at ci
  rw [show ((j.toNat : Nat) : Int) = j by omega, List.getElem_map] at cj
  obtain ⟨w1, o1, f1⟩ := h2.store1 (i := i) i0 (by omega) ss[j.toNat].v
  obtain ⟨w2, o2, f2⟩ := o1.store1 (i := j) j0 (by omega) ss[i.toNat].v
  refine ⟨ss[i.toNat], ss[j.toNat], ci, cj, h2.inb i0 (by omega), h2.inb j0 (by omega), w1, w2, ?_, f1.trans f2, f1⟩
  have f := f1.trans f2
  have es : ((ss.map Sl.v).set i.toNat ss[j.toNat].v).set j.toNat ss[i.toNat].v = ((ss.set i.toNat ss[j.toNat]).set j.toNat ss[i.toNat]).map Sl.v := by rw [List.map_set, List.map_set]
  rw [es] at o2
  have eg : ∀ a (ha : a < ((ss.set i.toNat ss[j.toNat]).set j.toNat ss[i.toNat]).length), ∃ hb : swA i.toNat j.toNat a < ss.length, ((ss.set i.toNat ss[j.toNat]).set j.toNat ss[i.toNat])[a] = ss[swA i.toNat j.toNat a] := fun a ha => by
    rw [List.length_set, List.length_set] at ha
    have hb : swA i.toNat j.toNat a < ss.length := by unfold swA; split <;> (try split) <;> omega
    refine ⟨hb, ?_⟩
    rw [List.getElem_set]
    by_cases h1 : j.toNat = a
    · rw [if_pos h1]
      congr 1
      unfold swA
      rw [if_neg (by omega), if_pos h1.symm]
    · rw [if_neg h1, List.getElem_set]
      by_cases h2 : i.toNat = a
      · rw [if_pos h2]
        congr 1
        unfold swA
        rw [if_pos h2.symm]
      · rw [if_neg h2]
        congr 1
        unfold swA
        rw [if_neg fun e => h2 e.symm, if_neg fun e => h1 e.symm]
  have inj : ∀ a b, a ≠ b → swA i.toNat j.toNat a ≠ swA i.toNat j.toNat b := fun a b hab => by
    unfold swA
    by_cases h1 : a = i.toNat <;> by_cases h2 : a = j.toNat <;> by_cases h3 : b = i.toNat <;> by_cases h4 : b = j.toNat <;> simp only [h1, h2, h3, h4, if_true, if_false] <;> (repeat' split) <;> omega
  refine ⟨(ss.set i.toNat ss[j.toNat]).set j.toNat ss[i.toNat], ?_, o2, fun a ha hb => ?_, fun a b ha hb hab k => ?_, fun a ha k hk => ?_⟩
  · unfold swL
    simp only [List.length_set]
    exact e1
  · obtain ⟨hc, e⟩ := eg a ha
    rw [e]
    have ex : (swL xss i.toNat j.toNat)[a] = xss[swA i.toNat j.toNat a]'(by omega) := by
      have := swL_get (rows := xss) (i := i.toNat) (j := j.toNat) (by omega) (by omega) a
      rw [getD_get hb, getD_get (by omega)] at this
      exact this
    rw [ex]
    exact (h3 _ hc (by omega)).fr f fun k hk hs => h5 _ hc k hs hk
  · obtain ⟨hc, e⟩ := eg a ha
    obtain ⟨hd, e'⟩ := eg b hb
    rw [e, e']
    exact h4 _ _ hc hd (inj a b hab) k
  · obtain ⟨hc, e⟩ := eg a ha
    rw [e]
    exact h5 _ hc k hk
theorem abs_le {x : Int} {b : Nat} (h : x.natAbs ≤ b) : -(b : Int) ≤ x ∧ x ≤ b := by omega
theorem abs_mul {x y : Int} {b : Nat} (h : x.natAbs ≤ b) (h' : y.natAbs ≤ b) : (x * y).natAbs ≤ b * b := by rw [Int.natAbs_mul]; exact Nat.mul_le_mul h h'
theorem dbN6 : dbN 6 = 720000000 := rfl
theorem dbN7 : dbN 7 = 50400000000 := rfl
/-- What becomes of a number in the step k. -/
def stpB (R : Mat) (k : Nat) (last : Int) (i j : Nat) : Int := (R i j * R k k - R i k * R k j).tdiv last
theorem stp_num {n k : Nat} {last : Int} {O R : Mat} (H : Bar n k last O fun i j => R (k + i) (k + j)) (hO : Small n O) (hn : n ≤ 7) (hl : last ≠ 0) {i j : Nat} (hi : k < i) (hi' : i < n) (hj : k < j) (hj' : j < n) :
    w64 ((w64 (w64 (R i j * R k k) - w64 (R i k * R k j))).tdiv last) = stpB R k last i j := by
  have b : ∀ a b, a < n → k ≤ a → b < n → k ≤ b → (R a b).natAbs ≤ 720000000 := fun a b h1 h2 h3 h4 => by
    have := H.bound hO (i := a - k) (j := b - k) (by omega) (by omega)
    (try simp only at this)
    rw [show k + (a - k) = a by omega, show k + (b - k) = b by omega] at this
    exact Nat.le_trans this (Nat.le_trans (dbN_le (show k + 1 ≤ 6 by omega)) (by rw [dbN6]; exact Nat.le_refl _))
  have b1 := abs_le (abs_mul (b i j hi' (by omega) hj' (by omega)) (b k k (by omega) (by omega) (by omega) (by omega)))
  have b2 := abs_le (abs_mul (b i k hi' (by omega) (by omega) (by omega)) (b k j (by omega) (by omega) hj' (by omega)))
  rw [w64_eq (R i j * R k k) (by omega) (by omega), w64_eq (R i k * R k j) (by omega) (by omega), w64_eq (R i j * R k k - R i k * R k j) (by omega) (by omega)]
  obtain ⟨q, hq⟩ := H.exact (i := i - k - 1) (j := j - k - 1) (by omega) (by omega)
  have eq : R i j * R k k - R i k * R k j = last * q := by
    rw [← hq]
    unfold chio
    (try simp only)
    rw [show k + (i - k - 1 + 1) = i by omega, show k + (j - k - 1 + 1) = j by omega, show k + 0 = k by omega, Int.mul_comm (R k k)]
  unfold stpB
  have hq2 : q.natAbs ≤ (last * q).natAbs := by
    rw [Int.natAbs_mul]
    exact Nat.le_mul_of_pos_left _ (by omega)
  rw [tdiv_of eq hl]
  rw [← eq] at hq2
  exact w64_eq _ (by omega) (by omega)
theorem stp_next {n k : Nat} {last : Int} {O R R' : Mat} (H : Bar n k last O fun i j => R (k + i) (k + j)) (hl : last ≠ 0) (hk : R k k ≠ 0) (hR : ∀ i j, k < i → i < n → k < j → j < n → R' i j = stpB R k last i j) : Bar n (k + 1) (R k k) O fun i j => R' (k + 1 + i) (k + 1 + j) := by
  have := Bar.step (A' := fun i j => R' (k + 1 + i) (k + 1 + j)) H hl hk fun i j hi hj => by
    (try simp only)
    rw [hR _ _ (by omega) (by omega) (by omega) (by omega)]
    unfold stpB chio
    (try simp only)
    rw [show k + (i + 1) = k + 1 + i by omega, show k + (j + 1) = k + 1 + j by omega, show k + 0 = k by omega, Int.mul_comm (R k k)]
  exact this

def PM (s : Int) : Prop := s = 1 ∨ s = -1
theorem PM.neg_eq {s : Int} (h : PM s) : w64 (0 - s) = -s := by rcases h with rfl | rfl <;> rfl
theorem PM.neg {s : Int} (h : PM s) : PM (w64 (0 - s)) := by rcases h with rfl | rfl; exact .inr rfl; exact .inl rfl
theorem dt_cell {F : Nat → Prop} {h12 : Heap} {a : Sl} {rt : List (List Int)} {n : Nat} {k i j last : Int} {R O : Mat} (o12 : OwX h12 F a rt) (Q12 : Sq n rt) (S : Small n O) (hn : n ≤ 7) (hl : last ≠ 0) (B : Bar n k.toNat last O fun i j => R (k.toNat + i) (k.toNat + j)) (k0 : 0 ≤ k) (ki : k < i) (hi : i < (n : Int)) (kj : k < j) (hj : j < (n : Int))
    (hrt : ∀ i' j', i' < n → j' < n → matL rt i' j' = if k.toNat < i' ∧ k.toNat < j' ∧ (i' < i.toNat ∨ i' = i.toNat ∧ j' < j.toNat) then stpB R k.toNat last i' j' else R i' j') (C : Heap → Prop)
    (HC : ∀ h13 rs, OwX h13 F a rs → Sq n rs → (∀ i' j', i' < n → j' < n → matL rs i' j' = if k.toNat < i' ∧ k.toNat < j' ∧ (i' < i.toNat ∨ i' = i.toNat ∧ j' < j.toNat + 1) then stpB R k.toNat last i' j' else R i' j') → Fr F h12 h13 → C h13) :
    InB a i ∧ ∃ t87 : Sl, hcell h12 (Sl.at a i 1) = some t87.v ∧ InB a i ∧ ∃ t92 : Sl, hcell h12 (Sl.at a i 1) = some t92.v ∧ InB t92 j ∧ ∃ t95 : Int, hcell h12 (Sl.at t92 j 1) = some (VI t95) ∧ InB a k ∧ ∃ t99 : Sl, hcell h12 (Sl.at a k 1) = some t99.v ∧ InB t99 k ∧ ∃ t102 : Int, hcell h12 (Sl.at t99 k 1) = some (VI t102) ∧ InB a i ∧ ∃ t107 : Sl, hcell h12 (Sl.at a i 1) = some t107.v ∧ InB t107 k ∧ ∃ t110 : Int, hcell h12 (Sl.at t107 k 1) = some (VI t110) ∧ InB a k ∧ ∃ t114 : Sl, hcell h12 (Sl.at a k 1) = some t114.v ∧ InB t114 j ∧ ∃ t117 : Int, hcell h12 (Sl.at t114 j 1) = some (VI t117) ∧ last ≠ 0 ∧
      InB t87 j ∧ Writable h12 (Sl.at t87 j 1) ∧ Vars (hset h12 (Sl.at t87 j 1) (VI (w64 (Int.tdiv (w64 ((w64 (t95 * t102)) - (w64 (t110 * t117)))) last)))) [] ∧ ∀ h13 : Heap, h13 = hset h12 (Sl.at t87 j 1) (VI (w64 (Int.tdiv (w64 ((w64 (t95 * t102)) - (w64 (t110 * t117)))) last))) → Vars h13 [] → C h13 := by
  have ln12 := Q12.len
  have R12 := OwR.rd o12
  have i0 : 0 ≤ i := by omega
  have j0 : 0 ≤ j := by omega
  have ir : i < (rt.length : Int) := by omega
  have kr : k < (rt.length : Int) := by omega
  obtain ⟨si, ci, oi, upd⟩ := OwR.inner o12 i0 ir
  have hi1 : i.toNat < rt.length := by omega
  have hk1 : k.toNat < rt.length := by omega
  have hi2 : i.toNat < n := by omega
  have hk2 : k.toNat < n := by omega
  have hj2 : j.toNat < n := by omega
  have lri := Q12.row i.toNat hi1
  have lrk := Q12.row k.toNat hk1
  have ri : RdI F h12 si (rt[i.toNat]'hi1) := oi.rdF
  obtain ⟨sk, ck, rk⟩ := R12.get k0 kr
  have ij1 : j.toNat < (rt[i.toNat]'hi1).length := by omega
  have ik1 : k.toNat < (rt[i.toNat]'hi1).length := by omega
  have kj1 : j.toNat < (rt[k.toNat]'hk1).length := by omega
  have kk1 : k.toNat < (rt[k.toNat]'hk1).length := by omega
  have v1 : (rt[i.toNat]'hi1)[j.toNat]'ij1 = R i.toNat j.toNat := by rw [← matL_get hi1 ij1, hrt _ _ hi2 hj2, if_neg (by omega)]
  have v2 : (rt[k.toNat]'hk1)[k.toNat]'kk1 = R k.toNat k.toNat := by rw [← matL_get hk1 kk1, hrt _ _ hk2 hk2, if_neg (by omega)]
  have v3 : (rt[i.toNat]'hi1)[k.toNat]'ik1 = R i.toNat k.toNat := by rw [← matL_get hi1 ik1, hrt _ _ hi2 hk2, if_neg (by omega)]
  have v4 : (rt[k.toNat]'hk1)[j.toNat]'kj1 = R k.toNat j.toNat := by rw [← matL_get hk1 kj1, hrt _ _ hk2 hj2, if_neg (by omega)]
  have rin := RdI.len ri
  have rkn := RdI.len rk
  have b1 : j < ((rt[i.toNat]'hi1).length : Int) := by omega
  have b2 : k < ((rt[i.toNat]'hi1).length : Int) := by omega
  have b3 : j < ((rt[k.toNat]'hk1).length : Int) := by omega
  have b4 : k < ((rt[k.toNat]'hk1).length : Int) := by omega
  obtain ⟨wr, os, fs⟩ := Ow.store1 oi j0 (show j < (si.n : Int) by omega) (VI (stpB R k.toNat last i.toNat j.toNat))
  have es := stp_num B S hn hl (i := i.toNat) (j := j.toNat) (by omega) hi2 (by omega) hj2
  refine ⟨R12.inb i0 ir, si, ci, R12.inb i0 ir, si, ci, ri.inb j0 b1, _, ri.get j0 b1, R12.inb k0 kr, sk, ck, rk.inb k0 b4, _, rk.get k0 b4, R12.inb i0 ir, si, ci, ri.inb k0 b2, _, ri.get k0 b2, R12.inb k0 kr, sk, ck, rk.inb j0 b3, _, rk.get j0 b3, hl, ri.inb j0 b1, wr, .nil, ?_⟩
  simp only [v1, v2, v3, v4, es]
  rintro h13 rfl _
  have os' : OwI (hset h12 (si.at j 1) (VI (stpB R k.toNat last i.toNat j.toNat))) F si ((rt[i.toNat]'hi1).set j.toNat (stpB R k.toNat last i.toNat j.toNat)) := by
    show Ow _ _ _ _ _ _
    rw [List.map_set]
    exact os
  refine HC _ _ (upd _ _ fs os') (Q12.set hi1 _ (by rw [List.length_set]; exact lri)) (fun i' j' h1 h2 => ?_) (fs.mono fun q _ hq => (Ow.foot oi hq).1)
  rw [matL_set hi1 ij1, hrt i' j' h1 h2]
  by_cases hc : i' = i.toNat ∧ j' = j.toNat
  · rw [if_pos hc, hc.1, hc.2, if_pos (by omega)]
  · rw [if_neg hc]
    by_cases hd : k.toNat < i' ∧ k.toNat < j' ∧ (i' < i.toNat ∨ i' = i.toNat ∧ j' < j.toNat)
    · rw [if_pos hd, if_pos (by omega)]
    · rw [if_neg hd, if_neg (by omega)]
theorem dt_loop {F : Nat → Prop} {h10 : Heap} {s a : Sl} {rows : List (List Int)} {n : Nat} {k last : Int} {O : Mat} (o10 : OwX h10 F a rows) (Q10 : Sq n rows) (S : Small n O) (hn : n ≤ 7) (hl : last ≠ 0) (B : Bar n k.toNat last O fun i j => matL rows (k.toNat + i) (k.toNat + j)) (k0 : 0 ≤ k) (hk : k < (n : Int)) (sn : s.n = n) (C : Int → Heap → Prop)
    (HC : ∀ h11 rs, OwX h11 F a rs → Sq n rs → (∀ i' j', i' < n → j' < n → matL rs i' j' = if k.toNat < i' ∧ k.toNat < j' then stpB (matL rows) k.toNat last i' j' else matL rows i' j') → Fr F h10 h11 → C (matL rows k.toNat k.toNat) h11) :
    ∃ J_5 : Nat → Int → Heap → Prop, (∃ n0 : Nat, J_5 n0 (k + 1) h10) ∧ ∀ (n_4 : Nat) (i : Int) (h11 : Heap), J_5 n_4 i h11 → Vars h11 [] →
      ((decide (i < (s.n : Int))) = true → ∃ J_6 : Nat → Int → Heap → Prop, (∃ n0 : Nat, J_6 n0 (k + 1) h11) ∧ ∀ (n_5 : Nat) (j : Int) (h12 : Heap), J_6 n_5 j h12 → Vars h12 [] →
        ((decide (j < (s.n : Int))) = true → InB a i ∧ ∃ t87 : Sl, hcell h12 (Sl.at a i 1) = some t87.v ∧ InB a i ∧ ∃ t92 : Sl, hcell h12 (Sl.at a i 1) = some t92.v ∧ InB t92 j ∧ ∃ t95 : Int, hcell h12 (Sl.at t92 j 1) = some (VI t95) ∧ InB a k ∧ ∃ t99 : Sl, hcell h12 (Sl.at a k 1) = some t99.v ∧ InB t99 k ∧ ∃ t102 : Int, hcell h12 (Sl.at t99 k 1) = some (VI t102) ∧ InB a i ∧ ∃ t107 : Sl, hcell h12 (Sl.at a i 1) = some t107.v ∧ InB t107 k ∧ ∃ t110 : Int, hcell h12 (Sl.at t107 k 1) = some (VI t110) ∧ InB a k ∧ ∃ t114 : Sl, hcell h12 (Sl.at a k 1) = some t114.v ∧ InB t114 j ∧ ∃ t117 : Int, hcell h12 (Sl.at t114 j 1) = some (VI t117) ∧ last ≠ 0 ∧
          InB t87 j ∧ Writable h12 (Sl.at t87 j 1) ∧ Vars (hset h12 (Sl.at t87 j 1) (VI (w64 (Int.tdiv (w64 ((w64 (t95 * t102)) - (w64 (t110 * t117)))) last)))) [] ∧ ∀ h13 : Heap, h13 = hset h12 (Sl.at t87 j 1) (VI (w64 (Int.tdiv (w64 ((w64 (t95 * t102)) - (w64 (t110 * t117)))) last))) → Vars h13 [] → ∃ m : Nat, m < n_5 ∧ J_6 m (w64 (j + 1)) h13) ∧
        ((decide (j < (s.n : Int))) = false → ∃ m : Nat, m < n_4 ∧ J_5 m (w64 (i + 1)) h12)) ∧
      ((decide (i < (s.n : Int))) = false → InB a k ∧ ∃ t126 : Sl, hcell h11 (Sl.at a k 1) = some t126.v ∧ InB t126 k ∧ ∃ t129 : Int, hcell h11 (Sl.at t126 k 1) = some (VI t129) ∧ C t129 h11) := by
  refine ⟨fun m4 i h' => k < i ∧ i + m4 = (n : Int) ∧ (∃ rs, OwX h' F a rs ∧ Sq n rs ∧ ∀ i' j', i' < n → j' < n → matL rs i' j' = if k.toNat < i' ∧ k.toNat < j' ∧ i' < i.toNat then stpB (matL rows) k.toNat last i' j' else matL rows i' j') ∧ Fr F h10 h', ⟨n - (k.toNat + 1), by omega, by omega, ⟨rows, o10, Q10, fun i' j' _ _ => by rw [if_neg (by omega)]⟩, Fr.refl _ _⟩, ?_⟩
  rintro m4 i h11 ⟨i0', i1', ⟨rs, o11, Q11, hrs⟩, f11⟩ hL11
  have ln11 := Q11.len
  refine ⟨fun e7 => ?_, fun e7 => ?_⟩
  · simp only [decide_eq_true_eq] at e7
    have hi7 : i < (n : Int) := by omega
    refine ⟨fun m5 j h' => k < j ∧ j + m5 = (n : Int) ∧ (∃ rs, OwX h' F a rs ∧ Sq n rs ∧ ∀ i' j', i' < n → j' < n → matL rs i' j' = if k.toNat < i' ∧ k.toNat < j' ∧ (i' < i.toNat ∨ i' = i.toNat ∧ j' < j.toNat) then stpB (matL rows) k.toNat last i' j' else matL rows i' j') ∧ Fr F h10 h', ⟨n - (k.toNat + 1), by omega, by omega, ⟨rs, o11, Q11, fun i' j' h1 h2 => ?_⟩, f11⟩, ?_⟩
    · rw [hrs i' j' h1 h2]
      by_cases hc : k.toNat < i' ∧ k.toNat < j' ∧ i' < i.toNat
      · rw [if_pos hc, if_pos ⟨hc.1, hc.2.1, .inl hc.2.2⟩]
      · rw [if_neg hc, if_neg (by omega)]
    rintro m5 j h12 ⟨j0', j1', ⟨rt, o12, Q12, hrt⟩, f12⟩ hL12
    refine ⟨fun e8 => ?_, fun e8 => ?_⟩
    · simp only [decide_eq_true_eq] at e8
      have hj8 : j < (n : Int) := by omega
      refine dt_cell o12 Q12 S hn hl B k0 i0' hi7 j0' hj8 hrt _ fun h13 rs' o13 Q13 hrs' f13 => ?_
      have jw : w64 (j + 1) = j + 1 := w64_eq _ (by omega) (by omega)
      rw [jw]
      exact ⟨m5 - 1, by omega, by omega, by omega, ⟨rs', o13, Q13, by rw [show (j + 1).toNat = j.toNat + 1 by omega]; exact hrs'⟩, f12.trans f13⟩
    · simp only [decide_eq_false_iff_not] at e8
      have hj8 : j = (n : Int) := by omega
      have iw : w64 (i + 1) = i + 1 := w64_eq _ (by omega) (by omega)
      rw [iw]
      refine ⟨m4 - 1, by omega, by omega, by omega, ⟨rt, o12, Q12, fun i' j' h1 h2 => ?_⟩, f12⟩
      rw [hrt i' j' h1 h2, show (i + 1).toNat = i.toNat + 1 by omega]
      by_cases hd : k.toNat < i' ∧ k.toNat < j' ∧ (i' < i.toNat ∨ i' = i.toNat ∧ j' < j.toNat)
      · rw [if_pos hd, if_pos (by omega)]
      · rw [if_neg hd, if_neg (by omega)]
  · simp only [decide_eq_false_iff_not] at e7
    have hi7 : i = (n : Int) := by omega
    have R11 := OwR.rd o11
    have kr : k < (rs.length : Int) := by omega
    have hk1 : k.toNat < rs.length := by omega
    have hk2 : k.toNat < n := by omega
    obtain ⟨sk, ck, rk⟩ := R11.get k0 kr
    have lrk := Q11.row k.toNat hk1
    have kk1 : k.toNat < (rs[k.toNat]'hk1).length := by omega
    have v2 : (rs[k.toNat]'hk1)[k.toNat]'kk1 = matL rows k.toNat k.toNat := by rw [← matL_get hk1 kk1, hrs _ _ hk2 hk2, if_neg (by omega)]
    refine ⟨R11.inb k0 kr, sk, ck, rk.inb k0 (by omega), _, rk.get k0 (by omega), ?_⟩
    rw [v2]
    refine HC h11 rs o11 Q11 (fun i' j' h1 h2 => ?_) f11
    rw [hrs i' j' h1 h2]
    by_cases hd : k.toNat < i' ∧ k.toNat < j' ∧ i' < i.toNat
    · rw [if_pos hd, if_pos ⟨hd.1, hd.2.1⟩]
    · rw [if_neg hd, if_neg (by omega)]
set_option maxHeartbeats 4000000 in
theorem k_determinant {S : Nat → Prop} {h : Heap} {s : Sl} {xss : List (List Int)} (M : RdR S h s xss) (Q : Sq xss.length xss) (hn : xss.length ≤ 7) (hb : Small xss.length (matL xss)) : Ret Try.prog 116 #[s.v] h (VI (det xss.length (matL xss))) := by
  intro K HK
  have sn := M.len
  refine v116 s h K ?_
  have no_ : ∀ {x : Heap}, Fr (fun k => h.size ≤ k) h x → Fr No h x := fun f => f.mono fun k hk hk2 => absurd hk2 (by omega)
  refine eop_lit rIss (fun k => h.size ≤ k) (fun _ h => h) 0 (by omega) [] rfl rfl fun a0 h1 n1 c1 o1 f1 m1 _ => ⟨a0, rfl, .nil, ?_⟩
  have z1 := f1.size
  have o1' : OwX h1 (fun k => h.size ≤ k) a0 [] := ⟨[], rfl, o1, fun i h1 => by simp at h1, fun i j h1 => by simp at h1, fun i h1 => by simp at h1⟩
  refine ⟨fun m a i h' => 0 ≤ i ∧ i + m = (xss.length : Int) ∧ OwX h' (fun k => h.size ≤ k) a (xss.take i.toNat) ∧ Fr (fun k => h.size ≤ k) h h', ⟨xss.length, Int.le_refl _, by omega, o1', f1.of_no⟩, ?_⟩
  rintro m a i h2 ⟨i0, i1, o2, f2⟩ hL2
  have M2 := M.no (no_ f2)
  refine ⟨fun e => ?_, fun e => ?_⟩
  · have hi := M.lt e
    obtain ⟨si, ci, ri⟩ := M2.get i0 hi
    have rl := Q.row i.toNat (by omega)
    refine ⟨M2.inb i0 hi, si, ci, k_Clone ri (by omega) _ fun t h3 o3 f3 => ⟨t, rfl, .nil, ?_⟩⟩
    have z3 := f3.size
    refine eop_putR (lo := h.size) (m := h2.size) (OwR.toIv o2 |>.no f3) (o3.mono fun k _ hk => hk.1) f2.size z3 .nil (fun p hp => by simp at hp) (by rw [List.length_take]; omega) _ fun t2 h5 o5 f5 V5 => ?_
    rw [M.succ i0 hi]
    refine ⟨m - 1, by omega, by omega, by omega, ?_, (f2.trans f3.of_no).trans f5⟩
    rw [take_snoc _ i0 hi]
    exact o5
  · have hi := M.ge e
    rw [List.take_of_length_le (by omega)] at o2
    generalize hN : xss.length = n at *
    refine ⟨fun m sg last k h' => 0 ≤ k ∧ k + m = (n : Int) ∧ (∃ rows O, OwX h' (fun q => h.size ≤ q) a rows ∧ Sq n rows ∧ Small n O ∧ PM sg ∧ sg * det n O = det n (matL xss) ∧ last ≠ 0 ∧ Bar n k.toNat last O (fun i j => matL rows (k.toNat + i) (k.toNat + j)) ∧ (k = (n : Int) → last = det n O)) ∧ Fr (fun q => h.size ≤ q) h h', ⟨n, Int.le_refl _, by omega, ⟨xss, matL xss, o2, Q, hb, .inl rfl, by rw [Int.one_mul], by omega, ?_, ?_⟩, f2⟩, ?_⟩
    · have := Bar.start n (matL xss)
      simpa using this
    · intro h0
      rw [show n = 0 by omega]
      rfl
    rintro m2 sg last k h6 ⟨k0, k1, ⟨rows, O, o6, Q6, S6, hsg, hdet, hl, B6, hlast⟩, f6⟩ hL6
    have ln := Q6.len
    refine ⟨fun e2 => ?_, fun e2 => ?_⟩
    · have hk : k < (n : Int) := by have := M.lt e2; omega
      refine ⟨fun m3 p h' => h' = h6 ∧ k ≤ p ∧ p + m3 = (n : Int) ∧ ∀ q : Nat, k.toNat ≤ q → q < p.toNat → matL rows q k.toNat = 0, ⟨(n - k.toNat), rfl, Int.le_refl _, by omega, fun q h1 h2 => by omega⟩, ?_⟩
      rintro m3 p h7 ⟨rfl, p0, p1, hz⟩ hL7
      have R7 := OwR.rd o6
      have none_ : p = (n : Int) → K (VI 0) h7 := fun ep => by
        have := B6.none (by omega) hl fun i hi => by
          (try simp only)
          rw [Nat.add_zero]
          exact hz _ (by omega) (by omega)
        rw [this, Int.mul_zero] at hdet
        rw [← hdet] at HK
        exact HK h7 (no_ f6)
      refine ⟨fun e3 => ?_, fun e3 => ?_⟩
      · have hp : p < (n : Int) := by have := M.lt e3; omega
        obtain ⟨sp, cp, rp⟩ := R7.get (i := p) (by omega) (by omega)
        have lp := Q6.row p.toNat (by omega)
        have ep : matL rows p.toNat k.toNat = (rows[p.toNat]'(by omega))[k.toNat]'(by omega) := matL_get (by omega) (by omega)
        refine ⟨R7.inb (by omega) (by omega), sp, cp, rp.inb k0 (by omega), _, rp.get k0 (by omega), fun e4 => ?_, fun e4 => ⟨fun e5 => ?_, fun e5 => ?_⟩⟩
        · simp only [decide_eq_true_eq] at e4
          refine ⟨m3 - 1, by omega, rfl, ?_, ?_, ?_⟩
          · rw [w64_eq _ (by omega) (by omega)]; omega
          · rw [w64_eq _ (by omega) (by omega)]; omega
          · intro q h1 h2
            rw [w64_eq _ (by omega) (by omega)] at h2
            by_cases hq : q < p.toNat
            · exact hz q h1 hq
            · rw [show q = p.toNat by omega, ep]; exact e4
        · simp only [decide_eq_true_eq] at e5; omega
        · simp only [decide_eq_false_iff_not] at e4
          refine ⟨fun x h' => PM x ∧ ∃ rows' O', OwX h' (fun q => h.size ≤ q) a rows' ∧ Sq n rows' ∧ Small n O' ∧ x * det n O' = det n (matL xss) ∧ Bar n k.toNat last O' (fun i j => matL rows' (k.toNat + i) (k.toNat + j)) ∧ matL rows' k.toNat k.toNat ≠ 0 ∧ Fr (fun q => h.size ≤ q) h h', ⟨fun e6 => ?_, fun e6 => ?_⟩, ?_⟩
          · simp only [Bool.not_eq_true', decide_eq_false_iff_not] at e6
            obtain ⟨sk, sp', w1, w2, w3, w4, w5, w6, w7, w8, w9⟩ := OwR.swap o6 (i := p) (j := k) (by omega) (by omega) k0 (by omega) e6
            refine ⟨w4, sp', w2, w3, sk, w1, w3, w5, .nil, ?_⟩
            rintro h8 rfl _
            refine ⟨w4, w6, .nil, ?_⟩
            rintro h9 rfl _
            refine ⟨?_, swL rows p.toNat k.toNat, fun i => O (swA k.toNat p.toNat i), w7, swL_sq Q6 (by omega) (by omega), fun i j hi hj => S6 _ _ (by unfold swA; split <;> (try split) <;> omega) hj, ?_, ?_, ?_, f6.trans (OwR.ownF o6 w8)⟩
            · exact hsg.neg
            · rw [det_swap O (by omega) (by omega) (by omega), ← hdet]
              rw [hsg.neg_eq, Int.neg_mul_neg]
            · have := B6.swap (p := p.toNat - k.toNat) (by omega)
              rw [show k.toNat + (p.toNat - k.toNat) = p.toNat by omega] at this
              rw [swL_mat (by omega) (by omega)]
              refine cast (congrArg (Bar n k.toNat last _) ?_) this
              funext i j
              (try simp only)
              congr 1
              unfold swA
              by_cases h1 : i = 0
              · rw [if_pos h1, if_neg (by omega), if_pos (by omega)]; omega
              · rw [if_neg h1]
                by_cases h2 : i = p.toNat - k.toNat
                · rw [if_pos h2, if_pos (by omega)]; rfl
                · rw [if_neg h2, if_neg (by omega), if_neg (by omega)]
            · rw [swL_mat (by omega) (by omega)]
              (try simp only)
              rw [show swA p.toNat k.toNat k.toNat = p.toNat by unfold swA; rw [if_neg (by omega), if_pos rfl], ep]
              exact e4
          · simp only [Bool.not_eq_false', decide_eq_true_eq] at e6
            refine ⟨hsg, rows, O, o6, Q6, S6, hdet, B6, ?_, f6⟩
            rw [← ep, e6] at e4
            exact e4
          · rintro x h10 ⟨hx, rows', O', o10, Q10, S10, hdet', B10, hkk, f10⟩ hL10
            have ln' := Q10.len
            have k1w : w64 (k + 1) = k + 1 := w64_eq _ (by omega) (by omega)
            rw [k1w]
            refine dt_loop o10 Q10 S10 hn hl B10 k0 hk sn (fun v h' => ∃ m : Nat, m < m2 ∧ 0 ≤ k + 1 ∧ k + 1 + m = (n : Int) ∧ (∃ rows O, OwX h' (fun q => h.size ≤ q) a rows ∧ Sq n rows ∧ Small n O ∧ PM x ∧ x * det n O = det n (matL xss) ∧ v ≠ 0 ∧ Bar n (k + 1).toNat v O (fun i j => matL rows ((k + 1).toNat + i) ((k + 1).toNat + j)) ∧ (k + 1 = (n : Int) → v = det n O)) ∧ Fr (fun q => h.size ≤ q) h h') fun h11 rs o11 Q11 hrs f11 => ?_
            refine ⟨m2 - 1, by omega, by omega, by omega, ⟨rs, O', o11, Q11, S10, hx, hdet', hkk, ?_, ?_⟩, f10.trans f11⟩
            · rw [show (k + 1).toNat = k.toNat + 1 by omega]
              exact stp_next B10 hl hkk fun i' j' h1 h2 h3 h4 => by rw [hrs i' j' h2 h4, if_pos ⟨h1, h3⟩]
            · intro hk1
              have := B10.last (by omega)
              (try simp only at this)
              rw [Nat.add_zero] at this
              exact this
      · have hp : p = (n : Int) := by have := M.ge e3; omega
        exact ⟨fun _ => none_ hp, fun e5 => by simp only [decide_eq_false_iff_not] at e5; omega⟩
    · have hk : k = (n : Int) := by have := M.ge e2; omega
      have hd : sg * last = det n (matL xss) := by rw [hlast hk]; exact hdet
      have D0 := abs_le (Nat.le_trans (det_bound hb) (Nat.le_trans (dbN_le hn) (show dbN 7 ≤ 50400000000 by rw [dbN7]; exact Nat.le_refl _)))
      rw [hd, w64_eq _ (by clear HK; omega) (by clear HK; omega)]
      exact HK h6 (no_ f6)
end Go.Proofs.Ytkjkfjkapbpgiaa
