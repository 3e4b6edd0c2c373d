/-
  What each function that the law 'FnExactPeriodOf' comes to does: the contracts.
-/
import Derived.Test.YtkjkfjkapbpgiaaDoorPeriodOfU
import Derived.Test.YtkjkfjkapbpgiaaDoorM4
import Derived.WideMake
import Derived.MapKept
import Derived.Test.YtkjkfjkapbpgiaaDoorPeriodOfH
set_option linter.unusedVariables false
set_option linter.unusedSimpArgs false
namespace Go.Proofs.YtkjkfjkapbpgiaaDoor
open Go Go.Mx
@[reducible] def tI : TypeId := 3
@[reducible] def tIs : TypeId := 34
@[reducible] def tIss : TypeId := 22
theorem rIs : rowC Tryd.prog tIs = some (tI, 1, 8, [VI 0]) := by kernel_rfl
theorem rIss : rowC Tryd.prog tIss = some (tIs, 1, 24, [nilSl.v]) := by kernel_rfl
@[reducible] def OwI (h : Heap) (F : Nat → Prop) (s : Sl) (xs : List Int) : Prop := Ow h F tI 1 s (xs.map VI)
@[reducible] def OwX (h : Heap) (F : Nat → Prop) (s : Sl) (xss : List (List Int)) : Prop := OwR h F tIs tI s xss
theorem plainVI (xs : List Int) : (xs.map VI).all plainV = true := by simp [List.all_eq_true, plainV]

theorem k_bool {f : FuncId} {args : Array Value} {h : Heap} {v w : Value} (H : Ret Tryd.prog f args h v) (e : v = w) : Ret Tryd.prog f args h w := e ▸ H

theorem k_impl_in (n lo hi : Int) (h : Heap) (K : Value → Heap → Prop) (H : K (VB (decide (lo ≤ n) && decide (n ≤ hi))) h) : callM Tryd.prog 55 #[VI n, VI lo, VI hi] h K := by
  refine v55 n lo hi h K ⟨fun e => ?_, fun e => ?_⟩
  · rw [e, Bool.true_and] at H; exact H
  · rw [e, Bool.false_and] at H; exact H

theorem k_spec_l1In (n lo hi : Int) (h : Heap) (K : Value → Heap → Prop) (H : K (VB (decide (lo ≤ n) && decide (n ≤ hi))) h) : callM Tryd.prog 51 #[VI n, VI lo, VI hi] h K := by
  refine v51 n lo hi h K ⟨fun e => ?_, fun e => ?_⟩
  · rw [e, Bool.true_and] at H; exact H
  · rw [e, Bool.false_and] at H; exact H

def inR (lo hi x : Int) : Bool := decide (lo ≤ x) && decide (x ≤ hi)
def graphB (g : List (List Int)) : Bool := inR 1 8 g.length && g.all fun l => !decide (5 < (l.length : Int)) && l.all (inR 0 ((g.length : Int) - 1))
theorem not_t {b : Bool} (h : (!b) = true) : b = false := by simpa using h
theorem not_f {b : Bool} (h : (!b) = false) : b = true := by simpa using h

theorem k_spec_l1All {S : Nat → Prop} {h : Heap} {l : Sl} {xs : List Int} (H : RdI S h l xs) (lo hi_1 : Int) (K : Value → Heap → Prop) (HK : K (VB (xs.all (inR lo hi_1))) h) : callM Tryd.prog 52 #[l.v, VI lo, VI hi_1] h K := by
  refine v52 l lo hi_1 h K ?_
  refine ⟨fun n i h' => h' = h ∧ 0 ≤ i ∧ i + n = (xs.length : Int) ∧ xs.all (inR lo hi_1) = (xs.drop i.toNat).all (inR lo hi_1), ⟨xs.length, rfl, by omega, by omega, by simp⟩, ?_⟩
  rintro n i _ ⟨rfl, h0, h1, h2⟩ hL
  refine ⟨fun e => ?_, fun e => ?_⟩
  · have hi := H.lt e
    refine ⟨H.inb h0 hi, _, H.get h0 hi, ?_⟩
    rw [drop_cons xs h0 hi, List.all_cons] at h2
    refine k_spec_l1In _ _ _ _ _ ⟨_, rfl, hL, fun e2 => ?_, fun e2 => ?_⟩
    · have e3 : inR lo hi_1 (xs[i.toNat]'(by omega)) = false := not_t e2
      rw [h2, e3] at HK
      exact HK
    · have e3 : inR lo hi_1 (xs[i.toNat]'(by omega)) = true := not_f e2
      rw [e3, Bool.true_and] at h2
      rw [H.succ h0 hi]
      exact ⟨n - 1, by omega, rfl, by omega, by omega, h2⟩
  · have hi := H.ge e
    rw [List.drop_of_length_le (by omega)] at h2
    rw [h2] at HK
    exact HK

theorem k_spec_grGood {S : Nat → Prop} {h : Heap} {g : Sl} {xss : List (List Int)} (H : RdR S h g xss) : Ret Tryd.prog 106 #[.agg #[g.v]] h (VB (graphB xss)) := by
  intro K HK
  refine v106 g h K ?_
  intro b1 h1 hb1 hf1 hL1
  have f1 := hf1.in_nil
  have hlen := H.len
  refine k_spec_l1In _ _ _ _ _ ⟨_, rfl, hL1, fun e => ?_, fun e => ?_⟩
  · have e3 : inR 1 8 xss.length = false := by have := not_t e; rw [hlen] at this; exact this
    have : graphB xss = false := by unfold graphB; rw [e3]; rfl
    rw [← this]; exact HK _ f1
  · have e3 : inR 1 8 xss.length = true := by have := not_f e; rw [hlen] at this; exact this
    have hw : w64 ((g.n : Int) - 1) = (xss.length : Int) - 1 := by rw [hlen]; exact w64_eq _ (by omega) (by have := maxLen_lt H.big; omega)
    have hg : graphB xss = xss.all fun l => !decide (5 < (l.length : Int)) && l.all (inR 0 ((xss.length : Int) - 1)) := by unfold graphB; rw [e3]; rfl
    rw [hw]
    refine ⟨fun n i h' => Fr No h1 h' ∧ 0 ≤ i ∧ i + n = (xss.length : Int) ∧ graphB xss = (xss.drop i.toNat).all (fun l => !decide (5 < (l.length : Int)) && l.all (inR 0 ((xss.length : Int) - 1))), ⟨xss.length, Fr.refl _ _, by omega, by omega, by simp [hg]⟩, ?_⟩
    rintro n i h3 ⟨f3, h0, h2, h4⟩ hL
    have H3 := (H.no f1).no f3
    refine ⟨fun e => ?_, fun e => ?_⟩
    · have hi := H.lt e
      obtain ⟨si, hc, Hi⟩ := H3.get h0 hi
      refine ⟨H3.inb h0 hi, si, hc, fun e5 => ?_, fun e5 => ?_⟩
      · rw [drop_cons xss h0 hi, List.all_cons] at h4
        rw [Hi.len] at e5
        rw [e5] at h4
        have h5 : graphB xss = false := by rw [h4]; rfl
        rw [← h5]; exact HK _ (f1.trans f3)
      · rw [drop_cons xss h0 hi, List.all_cons] at h4
        rw [Hi.len] at e5
        rw [e5] at h4
        refine k_spec_l1All Hi _ _ _ ⟨_, rfl, hL, fun e6 => ?_, fun e6 => ?_⟩
        · rw [not_t e6] at h4
          have h5 : graphB xss = false := by rw [h4]; rfl
          rw [← h5]; exact HK _ (f1.trans f3)
        · rw [not_f e6] at h4
          rw [H.succ h0 hi]
          exact ⟨n - 1, by omega, f3, by omega, by omega, by rw [h4]; rfl⟩
    · have hi := H.ge e
      rw [List.drop_of_length_le (by omega)] at h4
      have h5 : graphB xss = true := by rw [h4]; rfl
      rw [← h5]; exact HK _ (f1.trans f3)

theorem k_IndexFunc {S : Nat → Prop} {h : Heap} {s : Sl} {xs : List Int} (H : RdI S h s xs) (f : Value) (p : Int → Bool) (hf : ∀ (x : Int) (K : Value → Heap → Prop), K (VB (p x)) h → callV Tryd.prog f [VI x] h K) (K : Value → Heap → Prop) (HK : ∀ r : Int, decide (0 ≤ r) = xs.any p → K (VI r) h) : callM Tryd.prog 95 #[s.v, f] h K := by
  refine v95 s f h K ⟨fun n i h' => h' = h ∧ 0 ≤ i ∧ i + n = (xs.length : Int) ∧ xs.any p = (xs.drop i.toNat).any p, ⟨xs.length, rfl, by omega, by omega, by simp⟩, ?_⟩
  rintro n i _ ⟨rfl, i0, i1, i2⟩ hL
  refine ⟨fun e => ?_, fun e => ?_⟩
  · have hi := H.lt e
    rw [drop_cons xs i0 hi, List.any_cons] at i2
    refine ⟨H.inb i0 hi, _, H.get i0 hi, hf _ _ ⟨_, rfl, .nil, fun e => ?_, fun e => ?_⟩⟩
    · rw [e, Bool.true_or] at i2
      exact HK _ (by rw [i2]; simpa using i0)
    · rw [e, Bool.false_or] at i2
      rw [H.succ i0 hi]
      exact ⟨n - 1, by omega, rfl, by omega, by omega, i2⟩
  · have hi := H.ge e
    rw [List.drop_of_length_le (by omega)] at i2
    exact HK _ (by rw [i2]; rfl)

theorem k_ContainsFunc {S : Nat → Prop} {h : Heap} {s : Sl} {xs : List Int} (H : RdI S h s xs) (f : Value) (p : Int → Bool) (hf : ∀ (x : Int) (K : Value → Heap → Prop), K (VB (p x)) h → callV Tryd.prog f [VI x] h K) (K : Value → Heap → Prop) (HK : K (VB (xs.any p)) h) : callM Tryd.prog 56 #[s.v, f] h K := by
  refine v56 s f h K (k_IndexFunc H f p hf _ fun r hr => ⟨r, rfl, .nil, ?_⟩)
  rw [hr]; exact HK

theorem k_isGraph1 {h : Heap} {b : Nat} {n : Int} (x : Int) {L : List (Nat × List Value)} (hL : Vars h ((b, [VI n]) :: L)) (K : Value → Heap → Prop) (HK : K (VB (!inR 0 (w64 (n - 1)) x)) h) : callV Tryd.prog (.func (.func 123) #[] #[VP b 0]) [VI x] h K := by
  refine v123 x b n h K (.cons hL.head (by simp) .nil) ?_
  refine k_impl_in _ _ _ _ _ ⟨_, rfl, .cons hL.head (by simp) .nil, ?_⟩
  exact HK

theorem k_has1 {h : Heap} {b : Nat} {g : Sl} (x : Int) {L : List (Nat × List Value)} (hL : Vars h ((b, [g.v]) :: L)) (K : Value → Heap → Prop) (HK : K (VB (!inR 0 (w64 (g.n - 1)) x)) h) : callV Tryd.prog (.func (.func 110) #[] #[VP b 0]) [VI x] h K := by
  refine v110 x b g h K (.cons hL.head (by simp) .nil) ?_
  refine k_impl_in _ _ _ _ _ ⟨_, rfl, .cons hL.head (by simp) .nil, ?_⟩
  exact HK

theorem graphB_eq {xss : List (List Int)} (e3 : inR 1 8 xss.length = true) : graphB xss = xss.all fun l => !decide (5 < (l.length : Int)) && l.all (inR 0 ((xss.length : Int) - 1)) := by unfold graphB; rw [e3]; rfl
theorem graphB_no {xss : List (List Int)} (e3 : inR 1 8 xss.length = false) : graphB xss = false := by unfold graphB; rw [e3]; rfl
theorem any_not {xs : List Int} {p : Int → Bool} : xs.any (fun x => !p x) = !xs.all p := by
  induction xs with
  | nil => rfl
  | cons x xs ih => simp only [List.any_cons, List.all_cons, ih, Bool.not_and]
theorem len_w64 {S : Nat → Prop} {h : Heap} {g : Sl} {xss : List (List Int)} (H : RdR S h g xss) : w64 ((g.n : Int) - 1) = (xss.length : Int) - 1 := by
  rw [H.len]
  have h1 := maxLen_lt H.big
  have h2 := H.len
  exact w64_eq _ (by omega) (by omega)

theorem k_isGraph {S : Nat → Prop} {h : Heap} {g : Sl} {xss : List (List Int)} (H : RdR S h g xss) : Ret Tryd.prog 109 #[.agg #[g.v]] h (VB (graphB xss)) := by
  intro K HK
  refine v109 g h K fun b1 b2 h1 hb1 hb2 hf1 hL1 => ?_
  have f1 := hf1.in_nil
  have hlen := H.len
  refine k_impl_in _ _ _ _ _ ⟨_, rfl, hL1, fun e => ?_, fun e => ?_⟩
  · have e3 : inR 1 8 xss.length = false := by have := not_t e; rw [hlen] at this; exact this
    rw [← graphB_no e3]; exact HK _ f1
  · have e3 : inR 1 8 xss.length = true := by have := not_f e; rw [hlen] at this; exact this
    have hg := graphB_eq e3
    refine ⟨fun n i x h' => h' = h1 ∧ x = (g.n : Int) ∧ 0 ≤ i ∧ i + n = (xss.length : Int) ∧ graphB xss = (xss.drop i.toNat).all (fun l => !decide (5 < (l.length : Int)) && l.all (inR 0 ((xss.length : Int) - 1))), ⟨xss.length, rfl, rfl, by omega, by omega, by simp [hg]⟩, ?_⟩
    rintro n i x _ ⟨rfl, rfl, h0, h2, h4⟩ hL
    have H3 := H.no f1
    refine ⟨fun e => ?_, fun e => ?_⟩
    · have hi := H.lt e
      obtain ⟨si, hc, Hi⟩ := H3.get h0 hi
      rw [drop_cons xss h0 hi, List.all_cons] at h4
      refine ⟨H3.inb h0 hi, si, hc, fun e5 => ?_, fun e5 => ?_⟩
      · rw [Hi.len] at e5
        rw [e5] at h4
        have h5 : graphB xss = false := by rw [h4]; rfl
        rw [← h5]; exact HK _ f1
      · rw [Hi.len] at e5
        rw [e5] at h4
        refine k_ContainsFunc Hi _ _ (fun x K HK => k_isGraph1 x hL K HK) _ ?_
        refine ⟨_, _, rfl, hL, fun e6 => ?_, fun e6 => ?_⟩
        · rw [any_not, len_w64 H] at e6
          rw [not_t e6] at h4
          have h5 : graphB xss = false := by rw [h4]; rfl
          rw [← h5]; exact HK _ f1
        · rw [any_not, len_w64 H] at e6
          rw [not_f e6] at h4
          rw [H.succ h0 hi]
          exact ⟨n - 1, by omega, rfl, rfl, by omega, by omega, by rw [h4]; rfl⟩
    · have hi := H.ge e
      rw [List.drop_of_length_le (by omega)] at h4
      have h5 : graphB xss = true := by rw [h4]; rfl
      rw [← h5]; exact HK _ f1

theorem k_has {S S' : Nat → Prop} {h : Heap} {g s : Sl} {xss : List (List Int)} {ps : List Int} (H : RdR S h g xss) (Hp : RdI S' h s ps) : Ret Tryd.prog 87 #[.agg #[g.v], s.v] h (VB (graphB xss && ps.all (inR 0 ((xss.length : Int) - 1)))) := by
  intro K HK
  refine v87 g s h K fun b1 h1 hb1 f1 hL1 => ?_
  have f1 := f1.in_nil
  refine k_isGraph (H.no f1) _ fun h2 f2 => ⟨_, rfl, hL1.of_no f2, fun e => ?_, fun e => ?_⟩
  · rw [e, Bool.true_and] at HK
    have hL2 := hL1.of_no f2
    refine k_ContainsFunc ((Hp.no f1).no f2) _ _ (fun x K HK => k_has1 x hL2 K HK) _ ?_
    refine ⟨_, _, rfl, hL2, ?_⟩
    rw [any_not, len_w64 H, Bool.not_not]
    exact HK _ (f1.trans f2)
  · rw [e, Bool.false_and] at HK
    exact HK _ (f1.trans f2)

theorem k_spec_grPlace {S : Nat → Prop} {h : Heap} {g : Sl} {xss : List (List Int)} (H : RdR S h g xss) (p : Int) : Ret Tryd.prog 83 #[.agg #[g.v], VI p] h (VB (graphB xss && inR 0 ((xss.length : Int) - 1) p)) := by
  intro K HK
  refine v83 g p h K fun b1 h1 hb1 f1 hL1 => ?_
  have f1 := f1.in_nil
  refine k_spec_grGood (H.no f1) _ fun h2 f2 => ⟨_, rfl, hL1.of_no f2, fun e => ?_, fun e => ?_⟩
  · rw [e, Bool.true_and] at HK
    refine k_spec_l1In _ _ _ _ _ ⟨_, rfl, hL1.of_no f2, ?_⟩
    rw [len_w64 H]
    exact HK _ (f1.trans f2)
  · rw [e, Bool.false_and] at HK
    exact HK _ (f1.trans f2)

theorem k_spec_l1Most (a b : Int) (h : Heap) (K : Value → Heap → Prop) (HK : K (VI (max a b)) h) : callM Tryd.prog 100 #[VI a, VI b] h K := by
  refine v100 a b h K ⟨fun e => ?_, fun e => ?_⟩
  · simp only [decide_eq_true_eq] at e
    rw [Int.max_eq_left (by omega)] at HK
    exact HK
  · simp only [decide_eq_false_iff_not] at e
    rw [Int.max_eq_right (by omega)] at HK
    exact HK

def rotB (l : List Int) (r : Int) : Bool := inR 0 (max ((l.length : Int) - 1) 0) r
def walkB (g : List (List Int)) (rs : List Int) (p : Int) : Bool := graphB g && inR 0 ((g.length : Int) - 1) p && decide (rs.length = g.length) && (g.zip rs).all fun q => rotB q.1 q.2
theorem walkB_no1 {g : List (List Int)} {rs : List Int} {p : Int} (e : (graphB g && inR 0 ((g.length : Int) - 1) p) = false) : walkB g rs p = false := by unfold walkB; rw [e]; rfl
theorem walkB_no2 {g : List (List Int)} {rs : List Int} {p : Int} (e : ¬ rs.length = g.length) : walkB g rs p = false := by unfold walkB; rw [decide_eq_false e]; simp
theorem walkB_eq {g : List (List Int)} {rs : List Int} {p : Int} (e : (graphB g && inR 0 ((g.length : Int) - 1) p) = true) (e2 : rs.length = g.length) : walkB g rs p = (g.zip rs).all fun q => rotB q.1 q.2 := by unfold walkB; rw [e, decide_eq_true e2]; rfl
theorem zip_drop (g : List (List Int)) (rs : List Int) {i : Int} (h0 : 0 ≤ i) (h1 : i < (g.length : Int)) (h2 : i < (rs.length : Int)) : (g.zip rs).drop i.toNat = (g[i.toNat]'(by omega), rs[i.toNat]'(by omega)) :: (g.zip rs).drop (i + 1).toNat := by
  have := drop_cons (g.zip rs) h0 (by simp; omega)
  simpa using this
theorem len_w64I {S : Nat → Prop} {h : Heap} {g : Sl} {xs : List Int} (H : RdI S h g xs) : w64 ((g.n : Int) - 1) = (xs.length : Int) - 1 := by
  rw [H.len]
  have h1 := maxLen_lt (RdV.big H)
  have h2 := H.len
  exact w64_eq _ (by omega) (by omega)

theorem k_isWalk {S S' : Nat → Prop} {h : Heap} {g s : Sl} {xss : List (List Int)} {rs : List Int} (G : RdR S h g xss) (H : RdI S' h s rs) (p : Int) : Ret Tryd.prog 65 #[.agg #[g.v], .agg #[s.v, VI p]] h (VB (walkB xss rs p)) := by
  intro K HK
  refine v65 g s p h K fun b1 b2 h1 hb1 hb2 f1 hL1 => ?_
  have f1 := f1.in_nil
  refine eop_lit rIs (fun k => h1.size ≤ k) (fun _ h => h) 1 (by omega) [VI p] rfl rfl fun t h2 n2 c2 o2 f2 l2 _ => ⟨t, rfl, hL1.of_no f2, ?_⟩
  have o2 : RdI (fun k => h1.size ≤ k) h2 t [p] := o2.rdF
  refine k_has ((G.no f1).no f2) o2 _ fun h3 f3 => ⟨_, rfl, (hL1.of_no f2).of_no f3, fun e => ?_, fun e => ?_⟩
  all_goals simp only [List.all_cons, List.all_nil, Bool.and_true] at e
  · rw [← walkB_no1 (rs := rs) (not_t e)]; exact HK _ ((f1.no_trans f2).no_trans f3)
  · have f13 := (f1.no_trans f2).no_trans f3
    rw [G.len, H.len]
    refine ⟨fun e2 => ?_, fun e2 => ?_⟩
    · have e3 := not_t e2
      simp only [decide_eq_false_iff_not] at e3
      rw [← walkB_no2 (g := xss) (rs := rs) (p := p) (by omega)]; exact HK _ f13
    · have e3 := not_f e2
      simp only [decide_eq_true_eq] at e3
      have e4 := walkB_eq (not_f e) (rs := rs) (by omega)
      have G3 := G.no f13
      have H3 := H.no f13
      refine ⟨fun n i h' => h' = h3 ∧ 0 ≤ i ∧ i + n = (xss.length : Int) ∧ walkB xss rs p = ((xss.zip rs).drop i.toNat).all fun q => rotB q.1 q.2, ⟨xss.length, rfl, by omega, by omega, by simpa using e4⟩, ?_⟩
      rintro n i _ ⟨rfl, i0, i1, i2⟩ hL
      refine ⟨fun e5 => ?_, fun e5 => ?_⟩
      · have hi : i < (rs.length : Int) := by simpa using e5
        have hi' : i < (xss.length : Int) := by omega
        obtain ⟨si, c1, c2⟩ := G3.get i0 hi'
        rw [zip_drop xss rs i0 hi' hi, List.all_cons] at i2
        refine ⟨H3.inb i0 hi, _, H3.get i0 hi, G3.inb i0 hi', si, c1, ?_⟩
        rw [len_w64I c2]
        refine pop_max _ _ _ _ ⟨_, rfl, k_impl_in _ _ _ _ _ ⟨_, rfl, hL, fun e6 => ?_, fun e6 => ?_⟩⟩
        · have e7 : rotB (xss[i.toNat]'(by omega)) (rs[i.toNat]'(by omega)) = false := not_t e6
          simp only at i2
          rw [e7] at i2
          have e8 : walkB xss rs p = false := by rw [i2]; rfl
          rw [← e8]; exact HK _ f13
        · have e7 : rotB (xss[i.toNat]'(by omega)) (rs[i.toNat]'(by omega)) = true := not_f e6
          simp only at i2
          rw [e7, Bool.true_and] at i2
          rw [H.succ i0 hi]
          exact ⟨n - 1, by omega, rfl, by omega, by omega, i2⟩
      · have hi : ¬ i < (rs.length : Int) := by simpa using e5
        rw [List.drop_of_length_le (by simp; omega)] at i2
        have e8 : walkB xss rs p = true := by rw [i2]; rfl
        rw [← e8]; exact HK _ f13

theorem k_spec_waGood {S S' : Nat → Prop} {h : Heap} {g s : Sl} {xss : List (List Int)} {rs : List Int} (G : RdR S h g xss) (H : RdI S' h s rs) (p : Int) : Ret Tryd.prog 62 #[.agg #[g.v], .agg #[s.v, VI p]] h (VB (walkB xss rs p)) := by
  intro K HK
  refine v62 g s p h K fun b1 b2 h1 hb1 hb2 f1 hL1 => ?_
  have f1 := f1.in_nil
  refine k_spec_grPlace (G.no f1) p _ fun h3 f3 => ⟨_, rfl, hL1.of_no f3, fun e => ?_, fun e => ?_⟩
  · rw [← walkB_no1 (rs := rs) (not_t e)]; exact HK _ (f1.no_trans f3)
  · have f13 := f1.no_trans f3
    rw [G.len, H.len]
    refine ⟨fun e2 => ?_, fun e2 => ?_⟩
    · have e3 := not_t e2
      simp only [decide_eq_false_iff_not] at e3
      rw [← walkB_no2 (g := xss) (rs := rs) (p := p) (by omega)]; exact HK _ f13
    · have e3 := not_f e2
      simp only [decide_eq_true_eq] at e3
      have e4 := walkB_eq (not_f e) (rs := rs) (by omega)
      have G3 := G.no f13
      have H3 := H.no f13
      refine ⟨fun n i h' => h' = h3 ∧ 0 ≤ i ∧ i + n = (xss.length : Int) ∧ walkB xss rs p = ((xss.zip rs).drop i.toNat).all fun q => rotB q.1 q.2, ⟨xss.length, rfl, by omega, by omega, by simpa using e4⟩, ?_⟩
      rintro n i _ ⟨rfl, i0, i1, i2⟩ hL
      refine ⟨fun e5 => ?_, fun e5 => ?_⟩
      · have hi' : i < (xss.length : Int) := by simpa using e5
        have hi : i < (rs.length : Int) := by omega
        obtain ⟨si, c1, c2⟩ := G3.get i0 hi'
        rw [zip_drop xss rs i0 hi' hi, List.all_cons] at i2
        refine ⟨G3.inb i0 hi', si, c1, H3.inb i0 hi, _, H3.get i0 hi, ?_⟩
        rw [len_w64I c2]
        refine k_spec_l1Most _ _ _ _ ⟨_, rfl, hL, H3.get i0 hi, ?_⟩
        rw [Int.max_comm]
        refine k_spec_l1In _ _ _ _ _ ⟨_, rfl, hL, fun e6 => ?_, fun e6 => ?_⟩
        · have e7 : rotB (xss[i.toNat]'(by omega)) (rs[i.toNat]'(by omega)) = false := not_t e6
          simp only at i2
          rw [e7] at i2
          have e8 : walkB xss rs p = false := by rw [i2]; rfl
          rw [← e8]; exact HK _ f13
        · have e7 : rotB (xss[i.toNat]'(by omega)) (rs[i.toNat]'(by omega)) = true := not_f e6
          simp only at i2
          rw [e7, Bool.true_and] at i2
          rw [G.succ i0 hi']
          exact ⟨n - 1, by omega, rfl, by omega, by omega, i2⟩
      · have hi : ¬ i < (xss.length : Int) := by simpa using e5
        rw [List.drop_of_length_le (by simp; omega)] at i2
        have e8 : walkB xss rs p = true := by rw [i2]; rfl
        rw [← e8]; exact HK _ f13

theorem loopI {S : Nat → Prop} {h : Heap} {s : Sl} {xs : List Int} (H : RdI S h s xs) : (xs.length : Int) ≤ maxLen := by have := H.len; have := H.big; omega

theorem k_eqIntS {S S' : Nat → Prop} {h : Heap} {a b : Sl} {xs ys : List Int} (H : RdI S h a xs) (H' : RdI S' h b ys) (K : Value → Heap → Prop) (HK : K (VB (decide (xs = ys))) h) : callM Tryd.prog 46 #[a.v, b.v] h K := by
  refine v46 a b h K ⟨fun e => ?_, fun e => ?_⟩
  · have e1 := not_t e
    rw [H.len, H'.len] at e1
    have : ¬ xs = ys := fun e2 => by subst e2; simp at e1
    rw [decide_eq_false this] at HK
    exact HK
  · have e1 := not_f e
    rw [H.len, H'.len] at e1
    have hl : xs.length = ys.length := by simp at e1; omega
    refine ⟨fun n i h' => h' = h ∧ 0 ≤ i ∧ i + n = (xs.length : Int) ∧ decide (xs = ys) = decide (xs.drop i.toNat = ys.drop i.toNat), ⟨xs.length, rfl, by omega, by omega, by simp⟩, ?_⟩
    rintro n i _ ⟨rfl, h0, h1, h2⟩ hL
    refine ⟨fun e => ?_, fun e => ?_⟩
    · have hi := H.lt e
      have hi' : i < (ys.length : Int) := by omega
      refine ⟨H.inb h0 hi, _, H.get h0 hi, H'.inb h0 hi', _, H'.get h0 hi', fun e => ?_, fun e => ?_⟩
      · rw [drop_cons xs h0 hi, drop_cons ys h0 hi'] at h2
        have e3 := not_t e
        simp only [decide_eq_false_iff_not] at e3
        rw [h2, decide_eq_false (fun e4 => e3 (List.cons.inj e4).1)] at HK
        exact HK
      · rw [drop_cons xs h0 hi, drop_cons ys h0 hi'] at h2
        have e3 := not_f e
        simp only [decide_eq_true_eq] at e3
        rw [H.succ h0 hi]
        refine ⟨n - 1, by omega, rfl, by omega, by omega, h2.trans ?_⟩
        rw [e3]
        simp
    · have hi := H.ge e
      rw [List.drop_of_length_le (by omega), List.drop_of_length_le (by omega)] at h2
      rw [h2] at HK
      exact HK

theorem k_eqIntSS {S S' : Nat → Prop} {h : Heap} {a b : Sl} {xs ys : List (List Int)} (H : RdR S h a xs) (H' : RdR S' h b ys) (K : Value → Heap → Prop) (HK : K (VB (decide (xs = ys))) h) : callM Tryd.prog 60 #[a.v, b.v] h K := by
  refine v60 a b h K ⟨fun e => ?_, fun e => ?_⟩
  · have e1 := not_t e
    rw [H.len, H'.len] at e1
    have : ¬ xs = ys := fun e2 => by subst e2; simp at e1
    rw [decide_eq_false this] at HK
    exact HK
  · have e1 := not_f e
    rw [H.len, H'.len] at e1
    have hl : xs.length = ys.length := by simp at e1; omega
    refine ⟨fun n i h' => h' = h ∧ 0 ≤ i ∧ i + n = (xs.length : Int) ∧ decide (xs = ys) = decide (xs.drop i.toNat = ys.drop i.toNat), ⟨xs.length, rfl, by omega, by omega, by simp⟩, ?_⟩
    rintro n i _ ⟨rfl, h0, h1, h2⟩ hL
    refine ⟨fun e => ?_, fun e => ?_⟩
    · have hi := H.lt e
      have hi' : i < (ys.length : Int) := by omega
      obtain ⟨x, cx, rx⟩ := H.get h0 hi
      obtain ⟨y, cy, ry⟩ := H'.get h0 hi'
      refine ⟨H.inb h0 hi, x, cx, H'.inb h0 hi', y, cy, k_eqIntS rx ry _ ⟨_, rfl, hL, fun e => ?_, fun e => ?_⟩⟩
      · rw [drop_cons xs h0 hi, drop_cons ys h0 hi'] at h2
        have e3 := not_t e
        simp only [decide_eq_false_iff_not] at e3
        rw [h2, decide_eq_false (fun e4 => e3 (List.cons.inj e4).1)] at HK
        exact HK
      · rw [drop_cons xs h0 hi, drop_cons ys h0 hi'] at h2
        have e3 := not_f e
        simp only [decide_eq_true_eq] at e3
        rw [H.succ h0 hi]
        refine ⟨n - 1, by omega, rfl, by omega, by omega, h2.trans ?_⟩
        rw [e3]
        simp
    · have hi := H.ge e
      rw [List.drop_of_length_le (by omega), List.drop_of_length_le (by omega)] at h2
      rw [h2] at HK
      exact HK

theorem k_eqGraph {S S' : Nat → Prop} {h : Heap} {a b : Sl} {xs ys : List (List Int)} (H : RdR S h a xs) (H' : RdR S' h b ys) : Ret Tryd.prog 18 #[.agg #[a.v], .agg #[b.v]] h (VB (decide (xs = ys))) := by
  intro K HK
  refine v18 a b h K fun b1 b2 h1 hb1 hb2 f1 hL1 => ?_
  refine k_eqIntSS (H.no f1.in_nil) (H'.no f1.in_nil) _ ⟨_, rfl, hL1, fun e => ?_, fun e => ?_⟩
  · rw [← not_t e]; exact HK _ f1.in_nil
  · rw [← not_f e]; exact HK _ f1.in_nil

theorem k_eqWalk {S S' : Nat → Prop} {h : Heap} {a b : Sl} {xs ys : List Int} (H : RdI S h a xs) (H' : RdI S' h b ys) (p q : Int) : Ret Tryd.prog 19 #[.agg #[a.v, VI p], .agg #[b.v, VI q]] h (VB (decide (xs = ys ∧ p = q))) := by
  intro K HK
  refine v19 a p b q h K fun b1 b2 h1 hb1 hb2 f1 hL1 => ?_
  refine k_eqIntS (H.no f1.in_nil) (H'.no f1.in_nil) _ ⟨_, rfl, hL1, fun e => ?_, fun e => ?_⟩
  · have e3 := not_t e
    simp only [decide_eq_false_iff_not] at e3
    rw [decide_eq_false fun e4 => e3 e4.1] at HK
    exact HK _ f1.in_nil
  · have e3 := not_f e
    simp only [decide_eq_true_eq] at e3
    refine ⟨fun e => ?_, fun e => ?_⟩
    · have e5 := not_t e
      simp only [decide_eq_false_iff_not] at e5
      rw [decide_eq_false fun e4 => e5 e4.2] at HK
      exact HK _ f1.in_nil
    · have e5 := not_f e
      simp only [decide_eq_true_eq] at e5
      rw [decide_eq_true ⟨e3, e5⟩] at HK
      exact HK _ f1.in_nil

def numI (k : Int) : List Int → List Int
  | [] => []
  | _ :: xs => k :: numI (k + 1) xs
theorem numI_length : ∀ (k : Int) (xs : List Int), (numI k xs).length = xs.length
  | _, [] => rfl
  | k, _ :: xs => by simp [numI, numI_length (k + 1) xs]
theorem numI_get : ∀ (xs : List Int) (k : Int) (i : Nat) (h : i < (numI k xs).length), (numI k xs)[i] = k + i
  | [], k, i, h => by simp [numI] at h
  | x :: xs, k, 0, h => by simp [numI]
  | x :: xs, k, i + 1, h => by
    simp only [numI, List.getElem_cons_succ]
    rw [numI_get xs (k + 1) i]
    omega
def totR (xss : List (List Int)) : Nat := (xss.map List.length).sum
def numR (k : Int) : List (List Int) → List (List Int)
  | [] => []
  | xs :: xss => numI k xs :: numR (k + xs.length) xss
theorem numR_length : ∀ (k : Int) (xss : List (List Int)), (numR k xss).length = xss.length
  | _, [] => rfl
  | k, xs :: xss => by simp [numR, numR_length (k + xs.length) xss]
theorem numR_get : ∀ (xss : List (List Int)) (k : Int) (i : Nat) (h : i < (numR k xss).length) (h' : i < xss.length), (numR k xss)[i] = numI (k + totR (xss.take i)) xss[i]
  | [], k, i, h, _ => by simp [numR] at h
  | x :: xs, k, 0, h, _ => by simp [numR, totR]
  | x :: xs, k, i + 1, h, h' => by
    simp only [numR, List.getElem_cons_succ]
    rw [numR_get xs _ i (by simpa [numR] using h) (by simpa using h')]
    congr 1
    simp [totR]
    omega
theorem totR_take_le : ∀ (xss : List (List Int)) (i : Nat), totR (xss.take i) ≤ totR xss
  | [], i => by simp [totR]
  | x :: xs, 0 => by simp [totR]
  | x :: xs, i + 1 => by
    have := totR_take_le xs i
    simp only [totR, List.take_succ_cons, List.map_cons, List.sum_cons] at *
    omega
theorem totR_snoc (xss : List (List Int)) (i : Nat) (h : i < xss.length) : totR (xss.take (i + 1)) = totR (xss.take i) + xss[i].length := by
  rw [List.take_succ_eq_append_getElem h]
  simp only [totR, List.map_append, List.sum_append, List.map_cons, List.map_nil, List.sum_cons, List.sum_nil]
  omega

def firstXs : List (List Int) := [[1, 2], [0, 2], [0]]
def DeskIs (h h' : Heap) (v : Value) : Prop := ∃ (g w : Sl) (m : Nat), v = .agg #[g.v, w.v, VI 0] ∧ OwX h' (fun k => h.size ≤ k ∧ k < m) g firstXs ∧ OwI h' (fun k => h.size ≤ k ∧ m ≤ k) w [0, 0, 0] ∧ Fr No h h'
theorem own_lt {h : Heap} {F : Nat → Prop} {e : TypeId} {sz : Nat} {s : Sl} {vs : List Value} (H : Ow h F e sz s vs) {n : Nat} (hn : h.size ≤ n) : ∀ k, s.own k → k < n := fun k hk => Nat.lt_of_lt_of_le (H.foot hk).2 hn
theorem lit_first {h1 : Heap} {K : Value → Heap → Prop} (HK : ∀ (g : Sl) (h' : Heap), OwX h' (fun k => h1.size ≤ k) g firstXs → Fr No h1 h' → K g.v h') :
    eop Tryd.prog (Instr.buildSlice tIs 2 #[(0, VI 1), (1, VI 2)]) h1 fun rv_1 h_2 => ∃ t1_1 : Sl, rv_1 = t1_1.v ∧ Fr No h1 h_2 ∧
    eop Tryd.prog (Instr.buildSlice tIs 2 #[(0, VI 0), (1, VI 2)]) h_2 fun rv_2 h_3 => ∃ t2_1 : Sl, rv_2 = t2_1.v ∧ Fr No h_2 h_3 ∧
    eop Tryd.prog (Instr.buildSlice tIs 1 #[(0, VI 0)]) h_3 fun rv_3 h_4 => ∃ t3_1 : Sl, rv_3 = t3_1.v ∧ Fr No h_3 h_4 ∧
    eop Tryd.prog (Instr.buildSlice tIss 3 #[(0, t1_1.v), (1, t2_1.v), (2, t3_1.v)]) h_4 K := by
  refine eop_lit rIs (fun k => h1.size ≤ k) (fun _ h => h) 2 (by omega) [VI 1, VI 2] rfl rfl fun t1 h2 n1 c1 o1 f1 l1 _ => ⟨t1, rfl, f1, ?_⟩
  refine eop_lit rIs (fun k => h1.size ≤ k) (fun _ h => Nat.le_trans f1.size h) 2 (by omega) [VI 0, VI 2] rfl rfl fun t2 h3 n2 c2 o2 f2 l2 _ => ⟨t2, rfl, f2, ?_⟩
  have f13 := f1.no_trans f2
  refine eop_lit rIs (fun k => h1.size ≤ k) (fun _ h => Nat.le_trans f13.size h) 1 (by omega) [VI 0] rfl rfl fun t3 h4 n3 c3 o3 f3 l3 _ => ⟨t3, rfl, f3, ?_⟩
  have f14 := f13.no_trans f3
  refine eop_lit rIss (fun k => h1.size ≤ k) (fun _ h => Nat.le_trans f14.size h) 3 (by omega) [t1.v, t2.v, t3.v] rfl rfl fun t4 h5 n4 c4 o4 f4 l4 _ => ?_
  have g1 := own_lt o1 (Nat.le_refl _)
  have g2 := own_lt o2 (Nat.le_refl _)
  have g3 := own_lt o3 (Nat.le_refl _)
  have s3 := f2.size
  have s4 := f3.size
  refine HK t4 h5 (OwR.of [t1, t2, t3] rfl o4 ?_ ?_ ?_) (f14.trans f4)
  · intro p hp
    simp only [firstXs, List.zip_cons_cons, List.zip_nil_right, List.mem_cons, List.not_mem_nil, or_false] at hp
    rcases hp with rfl | rfl | rfl
    · exact ((o1.no f2).no f3).no f4
    · exact (o2.no f3).no f4
    · exact o3.no f4
  · simp only [List.pairwise_cons, List.mem_cons, List.not_mem_nil, or_false, forall_eq_or_imp, forall_eq, List.Pairwise.nil, and_true]
    refine ⟨⟨fun k a b => ?_, fun k a b => ?_⟩, fun k a b => ?_, by simp⟩
    · have := g1 k a; have := l2 k b; omega
    · have := g1 k a; have := l3 k b; omega
    · have := g2 k a; have := l3 k b; omega
  · intro a ha k hk hk2
    have := l4 k hk
    simp only [List.mem_cons, List.not_mem_nil, or_false] at ha
    rcases ha with rfl | rfl | rfl
    · have := g1 k hk2; omega
    · have := g2 k hk2; omega
    · have := g3 k hk2; omega

theorem k_szIntS {S : Nat → Prop} {h : Heap} {s : Sl} {xs : List Int} (H : RdI S h s xs) (left : Int) (h0 : 0 ≤ left) (h1 : left ≤ 1048576) (K : Value → Heap → Prop) (HK : ∀ r : Int, r = -1 ∨ (0 ≤ r ∧ r = left - xs.length) → K (VI r) h) : callM Tryd.prog 61 #[s.v, VI left] h K := by
  have hb := maxLen_lt (RdV.big H)
  have e := H.len
  have hw : w64 (left - s.n) = left - s.n := w64_eq _ (by omega) (by omega)
  refine v61 s left h K ⟨fun _ => HK _ (.inl rfl), fun e2 => HK _ (.inr ?_)⟩
  rw [hw] at e2 ⊢
  simp only [decide_eq_false_iff_not] at e2
  omega

theorem k_szIntSS {S : Nat → Prop} {h : Heap} {s : Sl} {xss : List (List Int)} (H : RdR S h s xss) (left : Int) (h0 : 0 ≤ left) (h1 : left ≤ 1048576) (K : Value → Heap → Prop) (HK : ∀ r : Int, r = -1 ∨ (0 ≤ r ∧ r = left - xss.length - totR xss) → K (VI r) h) : callM Tryd.prog 50 #[s.v, VI left] h K := by
  have hb := maxLen_lt H.big
  have e := H.len
  have hw : w64 (left - s.n) = left - s.n := w64_eq _ (by omega) (by omega)
  refine v50 s left h K ⟨fun _ => HK _ (.inl rfl), fun e2 => ?_⟩
  rw [hw] at e2 ⊢
  simp only [decide_eq_false_iff_not] at e2
  refine ⟨fun n l i h' => h' = h ∧ 0 ≤ i ∧ i + n = (xss.length : Int) ∧ l = left - xss.length - totR (xss.take i.toNat) ∧ 0 ≤ l, ⟨xss.length, rfl, by omega, by omega, by simp [totR]; omega, by omega⟩, ?_⟩
  rintro n l i _ ⟨rfl, i0, i1, rfl, l0⟩ hL
  refine ⟨fun e => ?_, fun e => ?_⟩
  · have hi := H.lt e
    obtain ⟨si, c1, c2⟩ := H.get i0 hi
    have hsn := totR_snoc xss i.toNat (by omega)
    refine ⟨H.inb i0 hi, si, c1, k_szIntS c2 _ l0 (by omega) _ fun r hr => ⟨r, rfl, .nil, fun _ => HK _ (.inl rfl), fun e3 => ?_⟩⟩
    simp only [decide_eq_false_iff_not] at e3
    rw [H.succ i0 hi]
    exact ⟨n - 1, by omega, rfl, by omega, by omega, by rw [toNat_succ i0, hsn]; omega, by omega⟩
  · have hi := H.ge e
    have e4 : i = xss.length := by omega
    refine HK _ (.inr ⟨l0, ?_⟩)
    rw [e4]
    simp

theorem k_szGraph {S : Nat → Prop} {h : Heap} {s : Sl} {xss : List (List Int)} (H : RdR S h s xss) (left : Int) (h0 : 0 ≤ left) (h1 : left ≤ 1048576) (K : Value → Heap → Prop) (HK : ∀ (h' : Heap) (r : Int), Fr No h h' → r = -1 ∨ (0 ≤ r ∧ r = left - xss.length - totR xss) → K (VI r) h') : callM Tryd.prog 12 #[.agg #[s.v], VI left] h K := by
  refine v12 s left h K fun b1 h1' hb1 f1 hL1 => ?_
  refine k_szIntSS (H.no f1.in_nil) left h0 h1 _ fun r hr => ⟨r, rfl, hL1, fun e => HK _ _ f1.in_nil (.inl rfl), fun e => HK _ _ f1.in_nil hr⟩

theorem k_szWalk {S : Nat → Prop} {h : Heap} {s : Sl} {xs : List Int} (H : RdI S h s xs) (p left : Int) (h0 : 0 ≤ left) (h1 : left ≤ 1048576) (K : Value → Heap → Prop) (HK : ∀ (h' : Heap) (r : Int), Fr No h h' → r = -1 ∨ (0 ≤ r ∧ r = left - xs.length) → K (VI r) h') : callM Tryd.prog 13 #[.agg #[s.v, VI p], VI left] h K := by
  refine v13 s p left h K fun b1 h1' hb1 f1 hL1 => ?_
  refine k_szIntS (H.no f1.in_nil) left h0 h1 _ fun r hr => ⟨r, rfl, hL1, fun e => HK _ _ f1.in_nil (.inl rfl), fun e => HK _ _ f1.in_nil hr⟩

theorem k_toIntS {S : Nat → Prop} {h : Heap} {s : Sl} {xs : List Int} (H : RdI S h s xs) (hn : xs.length ≤ 1000000000000) (K : Value → Heap → Prop) (HK : ∀ t h', OwI h' (fun k => h.size ≤ k) t xs → Fr No h h' → K t.v h') : callM Tryd.prog 64 #[s.v] h K := by
  have hl := H.len
  refine v64 s h K ?_
  refine eop_make rIs (fun k => h.size ≤ k) (fun _ h => h) .i64 .i64 s.n s.n (Nat.le_refl _) (by omega) fun t h1 n1 c1 o1 f1 l1 _ => ⟨t, rfl, .nil, ?_⟩
  have o1 : OwI h1 (fun k => h.size ≤ k) t (List.replicate xs.length 0) := by
    have e : (List.replicate s.n [VI 0]).flatten = (List.replicate xs.length (0 : Int)).map VI := by rw [H.len]; simp [List.flatten_replicate_singleton]
    rw [e] at o1; exact o1
  refine ⟨fun n i h' => 0 ≤ i ∧ i + n = (xs.length : Int) ∧ OwI h' (fun k => h.size ≤ k) t (xs.take i.toNat ++ (List.replicate xs.length (0 : Int)).drop i.toNat) ∧ Fr t.own h1 h', ⟨xs.length, by omega, by omega, by simpa using o1, Fr.refl _ _⟩, ?_⟩
  rintro n i h2 ⟨i0, i1, o2, f2⟩ hL
  have H2 := H.on f1 f2 l1
  refine ⟨fun e => ?_, fun e => ?_⟩
  · have hi := H.lt e
    obtain ⟨w1, w2, w3⟩ := o2.store1 i0 (by omega) (VI (xs[i.toNat]'(by omega)))
    refine ⟨H2.inb i0 hi, _, H2.get i0 hi, o2.inb i0 (by omega), w1, .nil, fun h3 e3 _ => ?_⟩
    subst e3
    rw [← List.map_set, set_mid _ _ _ _ (by simp; omega)] at w2
    rw [H.succ i0 hi]
    exact ⟨n - 1, by omega, by omega, by omega, by rw [toNat_succ i0]; exact w2, f2.trans w3⟩
  · have hi := H.ge e
    have e4 : i = xs.length := by omega
    subst e4
    exact HK t h2 (by simpa using o2) (f1.fresh f2 l1)

theorem k_toIntSS {S : Nat → Prop} {h : Heap} {s : Sl} {xss : List (List Int)} (H : RdR S h s xss) (hn : xss.length ≤ 1000000000000) (hm : totR xss ≤ 1000000000000) (K : Value → Heap → Prop) (HK : ∀ t h', OwX h' (fun k => h.size ≤ k) t xss → Fr No h h' → K t.v h') : callM Tryd.prog 54 #[s.v] h K := by
  have hl := H.len
  refine v54 s h K ?_
  refine eop_make rIss (fun k => h.size ≤ k) (fun _ h => h) .i64 .i64 s.n s.n (Nat.le_refl _) (by omega) fun t h1 n1 c1 o1 f1 l1 _ => ⟨t, rfl, .nil, ?_⟩
  have o1 : OwX h1 (fun k => h.size ≤ k) t (List.replicate xss.length []) := OwR.zeros _ (by rw [hl] at o1; exact o1)
  refine ⟨fun n i h' => 0 ≤ i ∧ i + n = (xss.length : Int) ∧ OwX h' (fun k => h.size ≤ k) t (xss.take i.toNat ++ (List.replicate xss.length []).drop i.toNat) ∧ Fr No h h', ⟨xss.length, by omega, by omega, by simpa using o1, f1⟩, ?_⟩
  rintro n i h2 ⟨i0, i1, o2, f2⟩ hL
  have H2 := H.no f2
  refine ⟨fun e => ?_, fun e => ?_⟩
  · have hi := H.lt e
    obtain ⟨si, c1, c2⟩ := H2.get i0 hi
    have hlen : (xss.take i.toNat ++ (List.replicate xss.length ([] : List Int)).drop i.toNat).length = xss.length := by simp; omega
    have hsz : (xss[i.toNat]'(by omega)).length ≤ totR xss := by
      have h1 := totR_snoc xss i.toNat (by omega)
      have h2 := totR_take_le xss (i.toNat + 1)
      omega
    refine ⟨H2.inb i0 hi, si, c1, k_toIntS c2 (by omega) _ fun x h3 o3 f3 => ⟨x, rfl, .nil, ?_⟩⟩
    have o2' := (o2.mono (F' := fun k => h.size ≤ k ∧ k < h2.size) fun k hk hF => ⟨hF, hk⟩).no f3
    obtain ⟨sj, d1, d2, _⟩ := o2'.inner i0 (by omega)
    have s2 := f2.size
    obtain ⟨w1, w2, w3⟩ := o2'.outer i0 (by omega) d1 (F' := fun k => h.size ≤ k) (o3.mono fun k _ hk => by omega) (fun k _ hk => hk.1) (fun k hk => .inr fun hk2 => by have := (o3.foot hk).1; omega)
    refine ⟨o2'.rd.inb i0 (by omega), w1, .nil, fun h4 e4 _ => ?_⟩
    subst e4
    rw [set_mid _ _ _ _ (by simp; omega)] at w2
    rw [H.succ i0 hi]
    exact ⟨n - 1, by omega, by omega, by omega, by rw [toNat_succ i0]; exact w2, (f2.no_trans f3).fresh w3 fun k hk => by
      obtain ⟨ss, _, h5, _⟩ := o2'.out
      exact (h5.foot hk).1.1⟩
  · have hi := H.ge e
    have e4 : i = xss.length := by omega
    subst e4
    exact HK t h2 (by simpa using o2) f2

theorem k_toGraph {S : Nat → Prop} {h : Heap} {s : Sl} {xss : List (List Int)} (H : RdR S h s xss) (hn : xss.length ≤ 1000000000000) (hm : totR xss ≤ 1000000000000) (K : Value → Heap → Prop) (HK : ∀ t h', OwX h' (fun k => h.size ≤ k) t xss → Fr No h h' → K (.agg #[t.v]) h') : callM Tryd.prog 15 #[.agg #[s.v]] h K := by
  refine v15 s h K fun b1 b2 b3 h1 hb1 hb2 hb3 f1 hL1 => ?_
  have f1 := f1.in_nil
  refine k_toIntSS (H.no f1) hn hm _ fun t h2 o2 f2 => ⟨t, rfl, hL1.of_no f2, fun h3 f3 hL3 => ?_⟩
  have l3 : b3 < h1.size := hL1.head.lt
  have l2 : b2 < h1.size := hL1.tail.head.lt
  have s1 := f1.size
  refine HK t h3 ((o2.fr f3 fun k _ hk => In.off (n := h1.size) (by simp; omega) hk).mono fun k _ hk => by omega) ((f1.no_trans f2).fresh f3 (in_ge (by simp; omega)))

theorem k_toWalk {S : Nat → Prop} {h : Heap} {s : Sl} {xs : List Int} (H : RdI S h s xs) (p : Int) (hn : xs.length ≤ 1000000000000) (K : Value → Heap → Prop) (HK : ∀ t h', OwI h' (fun k => h.size ≤ k) t xs → Fr No h h' → K (.agg #[t.v, VI p]) h') : callM Tryd.prog 16 #[.agg #[s.v, VI p]] h K := by
  refine v16 s p h K fun b1 b2 b3 h1 hb1 hb2 hb3 f1 hL1 => ?_
  have f1 := f1.in_nil
  refine k_toIntS (H.no f1) hn _ fun t h2 o2 f2 => ⟨t, rfl, hL1.of_no f2, fun h3 f3 hL3 => ?_⟩
  have l3 : b3 < h1.size := hL1.head.lt
  have l2 : b2 < h1.size := hL1.tail.head.lt
  have s1 := f1.size
  refine HK t h3 ((Ow.fr o2 f3 fun k hk => In.off (n := h1.size) (by simp; omega) (o2.foot hk).1).mono fun k _ hk => by omega) ((f1.no_trans f2).fresh f3 (in_ge (by simp; omega)))

theorem frOwn {h h' : Heap} {F : Nat → Prop} {e : TypeId} {sz : Nat} {s : Sl} {vs : List Value} {b : Heap} (H : Ow h F e sz s vs) (f : Fr s.own h h') : Fr F h h' := f.mono fun _ _ hk => (H.foot hk).1

theorem g_szIntS {S : Nat → Prop} {h : Heap} {s : Sl} {xs : List Int} (H : RdI S h s xs) (left : Int) (h0 : 0 ≤ left) (h1 : left ≤ 1048576) (K : Value → Heap → Prop) (HK : ∀ (h' : Heap) (r : Int), Fr No h h' → r = -1 ∨ (0 ≤ r ∧ r = left - xs.length) → K (VI r) h') : callM Tryd.prog 61 #[s.v, VI left] h K := k_szIntS H left h0 h1 K fun r hr => HK h r (Fr.refl _ _) hr

theorem g_szGraph {S : Nat → Prop} {h : Heap} {s : Sl} {xss : List (List Int)} (H : RdR S h s xss) (left : Int) (h0 : 0 ≤ left) (h1 : left ≤ 1048576) (K : Value → Heap → Prop) (HK : ∀ (h' : Heap) (r : Int), Fr No h h' → r = -1 ∨ (0 ≤ r ∧ r = left - xss.length - totR xss) → K (VI r) h') : callM Tryd.prog 12 #[.agg #[s.v], VI left] h K := k_szGraph H left h0 h1 K HK

theorem g_szWalk {S : Nat → Prop} {h : Heap} {s : Sl} {xs : List Int} (H : RdI S h s xs) (p left : Int) (h0 : 0 ≤ left) (h1 : left ≤ 1048576) (K : Value → Heap → Prop) (HK : ∀ (h' : Heap) (r : Int), Fr No h h' → r = -1 ∨ (0 ≤ r ∧ r = left - xs.length) → K (VI r) h') : callM Tryd.prog 13 #[.agg #[s.v, VI p], VI left] h K := k_szWalk H p left h0 h1 K HK

theorem g_toIntS {S : Nat → Prop} {h : Heap} {s : Sl} {xs : List Int} (H : RdI S h s xs) (hn : xs.length ≤ 1048576) (K : Value → Heap → Prop) (HK : ∀ t h', OwI h' (Iv h.size h'.size) t xs → Fr No h h' → K t.v h') : callM Tryd.prog 64 #[s.v] h K := k_toIntS H (by omega) K fun t h' o f => HK t h' o.toIv f

theorem g_toGraph {S : Nat → Prop} {h : Heap} {s : Sl} {xss : List (List Int)} (H : RdR S h s xss) (hn : xss.length + totR xss ≤ 1048576) (K : Value → Heap → Prop) (HK : ∀ t h', OwX h' (Iv h.size h'.size) t xss → Fr No h h' → K (.agg #[t.v]) h') : callM Tryd.prog 15 #[.agg #[s.v]] h K := k_toGraph H (by omega) (by omega) K fun t h' o f => HK t h' o.toIv f

theorem g_toWalk {S : Nat → Prop} {h : Heap} {s : Sl} {xs : List Int} (H : RdI S h s xs) (p : Int) (hn : xs.length ≤ 1048576) (K : Value → Heap → Prop) (HK : ∀ t h', OwI h' (Iv h.size h'.size) t xs → Fr No h h' → K (.agg #[t.v, VI p]) h') : callM Tryd.prog 16 #[.agg #[s.v, VI p]] h K := k_toWalk H p (by omega) K fun t h' o f => HK t h' o.toIv f

theorem g_eqIntS {S S' : Nat → Prop} {h : Heap} {a b : Sl} {xs : List Int} (H : RdI S h a xs) (H' : RdI S' h b xs) : Ret Tryd.prog 46 #[a.v, b.v] h (VB true) := fun K HK => k_eqIntS H H' K (by rw [decide_eq_true rfl]; exact HK h (Fr.refl _ _))

theorem g_eqIntSS {S S' : Nat → Prop} {h : Heap} {a b : Sl} {xs : List (List Int)} (H : RdR S h a xs) (H' : RdR S' h b xs) : Ret Tryd.prog 60 #[a.v, b.v] h (VB true) := fun K HK => k_eqIntSS H H' K (by rw [decide_eq_true rfl]; exact HK h (Fr.refl _ _))

theorem g_eqGraph {S S' : Nat → Prop} {h : Heap} {a b : Sl} {xs : List (List Int)} (H : RdR S h a xs) (H' : RdR S' h b xs) : Ret Tryd.prog 18 #[.agg #[a.v], .agg #[b.v]] h (VB true) := by have := k_eqGraph H H'; rwa [decide_eq_true rfl] at this

theorem g_eqWalk {S S' : Nat → Prop} {h : Heap} {a b : Sl} {xs : List Int} {p : Int} (H : RdI S h a xs) (H' : RdI S' h b xs) : Ret Tryd.prog 19 #[.agg #[a.v, VI p], .agg #[b.v, VI p]] h (VB true) := by have := k_eqWalk H H' p p; rwa [decide_eq_true ⟨rfl, rfl⟩] at this

theorem nil_of_none {S : Nat → Prop} {h : Heap} {s : Sl} {xs : List Int} (H : RdI S h s xs) (hn : s.a = none) : xs = [] := by
  cases xs with
  | nil => rfl
  | cons x xs =>
    obtain ⟨a, ha, _⟩ := RdV.cell H 0 (by simp)
    rw [hn] at ha
    cases ha

theorem k_Clone {S : Nat → Prop} {h : Heap} {s : Sl} {xs : List Int} (H : RdI S h s xs) (hn : xs.length ≤ 1000000000) (K : Value → Heap → Prop) (HK : ∀ t h', OwI h' (Iv h.size h'.size) t xs → Fr No h h' → K t.v h') : callM Tryd.prog 105 #[s.v] h K := by
  refine v105 s h K (pop_isnil rIs _ _ ⟨_, rfl, fun e => ?_, fun e => ?_⟩)
  · have : xs = [] := nil_of_none H (by simpa using e)
    subst this
    exact HK nilSl h (Ow.nil _ _ _ _) (Fr.refl _ _)
  · refine eop_lit rIs (fun k => h.size ≤ k) (fun _ h => h) 0 (by omega) [] rfl rfl fun t h1 n1 c1 o1 f1 l1 _ => ⟨t, rfl, .nil, ?_⟩
    refine eop_append rIs o1 (fun k hk => Nat.le_trans f1.size hk) (H.no f1) (plainVI _) (by have := H.len; omega) fun t' h2 n2 o2 f2 l2 => ⟨t', rfl, .nil, ?_⟩
    exact HK t' h2 (Ow.toIv (by simpa using o2)) (f1.fresh f2 l1)

theorem k_l1Own {S : Nat → Prop} {h : Heap} {s : Sl} {xs : List Int} (H : RdI S h s xs) (hn : xs.length ≤ 1000000000) (K : Value → Heap → Prop) (HK : ∀ t h', OwI h' (Iv h.size h'.size) t xs → Fr No h h' → K t.v h') : callM Tryd.prog 77 #[s.v] h K := by
  refine v77 s h K ?_
  refine eop_lit rIs (fun k => h.size ≤ k) (fun _ h => h) 0 (by omega) [] rfl rfl fun t h1 n1 c1 o1 f1 l1 _ => ⟨t, rfl, .nil, ?_⟩
  refine eop_append rIs o1 (fun k hk => Nat.le_trans f1.size hk) (H.no f1) (plainVI _) (by have := H.len; omega) fun t' h2 n2 o2 f2 l2 => ⟨t', rfl, .nil, ?_⟩
  exact HK t' h2 (Ow.toIv (by simpa using o2)) (f1.fresh f2 l1)

/-- Every list of these is short. -/
def shortR (n : Nat) (xss : List (List Int)) : Prop := xss.length ≤ n ∧ ∀ l, l ∈ xss → l.length ≤ n
theorem tot_short {n : Nat} : ∀ {xss : List (List Int)} {m : Nat}, xss.length ≤ m → (∀ l, l ∈ xss → l.length ≤ n) → totR xss ≤ m * n
  | [], m, _, _ => by simp [totR]
  | x :: xs, 0, h, _ => by simp at h
  | x :: xs, m + 1, h, h2 => by
    have h3 := tot_short (n := n) (xss := xs) (m := m) (by simpa using h) fun l hl => h2 l (List.mem_cons_of_mem _ hl)
    have h4 := h2 x (by simp)
    have h5 : totR (x :: xs) = x.length + totR xs := by simp [totR]
    rw [h5, Nat.add_mul]
    omega
theorem short_of_tot {xss : List (List Int)} : ∀ l, l ∈ xss → l.length ≤ totR xss := by
  induction xss with
  | nil => intro l h; simp at h
  | cons x xs ih =>
    intro l hl
    have h5 : totR (x :: xs) = x.length + totR xs := by simp [totR]
    rcases List.mem_cons.1 hl with rfl | hl
    · omega
    · have := ih l hl; omega

def toldP (xss : List (List Int)) : List (List Int) := if graphB xss then xss else []
def addP (g : List (List Int)) (p q : Int) : List (List Int) × Bool :=
  if graphB g && inR 0 ((g.length : Int) - 1) p && inR 0 ((g.length : Int) - 1) q then (toldP (g.set p.toNat (g.getD p.toNat [] ++ [q])), graphB (g.set p.toNat (g.getD p.toNat [] ++ [q]))) else ([], false)
theorem inR_iff {lo hi x : Int} : inR lo hi x = true ↔ lo ≤ x ∧ x ≤ hi := by simp [inR]
theorem graph_len {g : List (List Int)} (h : graphB g = true) : 1 ≤ g.length ∧ g.length ≤ 8 := by
  unfold graphB at h
  rw [Bool.and_eq_true, inR_iff] at h
  omega
theorem graph_mem {g : List (List Int)} (h : graphB g = true) {l : List Int} (hl : l ∈ g) : l.length ≤ 5 ∧ ∀ x, x ∈ l → 0 ≤ x ∧ x < (g.length : Int) := by
  unfold graphB at h
  rw [Bool.and_eq_true] at h
  have := List.all_eq_true.1 h.2 l hl
  rw [Bool.and_eq_true] at this
  obtain ⟨h1, h2⟩ := this
  simp only [Bool.not_eq_true', decide_eq_false_iff_not] at h1
  refine ⟨by omega, fun x hx => ?_⟩
  have := List.all_eq_true.1 h2 x hx
  rw [inR_iff] at this
  omega
theorem graph_tot {g : List (List Int)} (h : graphB g = true) : totR g ≤ 40 := by
  have := tot_short (n := 5) (xss := g) (m := 8) (graph_len h).2 fun l hl => (graph_mem h hl).1
  omega
theorem toldP_tot (g : List (List Int)) : (toldP g).length + totR (toldP g) ≤ 48 := by
  unfold toldP
  split
  · rename_i h
    have := graph_tot h
    have := graph_len h
    omega
  · simp [totR]
theorem addP_tot (g : List (List Int)) (p q : Int) : (addP g p q).1.length + totR (addP g p q).1 ≤ 48 := by
  unfold addP
  split
  · exact toldP_tot _
  · simp [totR]
theorem getD_get {g : List (List Int)} {i : Nat} (h : i < g.length) : g.getD i [] = g[i] := by simp [List.getD, List.getElem?_eq_getElem h]

theorem totR_flat (xss : List (List Int)) : xss.flatten.length = totR xss := by simp [totR, List.length_flatten]

def rotL (l : List Int) (k : Nat) : List Int := l.drop (k % l.length) ++ l.take (k % l.length)
def turnP (g : List (List Int)) (p k : Int) : List (List Int) × Bool :=
  if graphB g && inR 0 ((g.length : Int) - 1) p && inR 0 1000 k then (g.set p.toNat (rotL (g.getD p.toNat []) k.toNat), true) else ([], false)
theorem rotL_length (l : List Int) (k : Nat) : (rotL l k).length = l.length := by
  unfold rotL
  simp
  rcases Nat.eq_zero_or_pos l.length with h | h
  · simp [h]
  · have := Nat.mod_lt k h
    omega
theorem rot_get (l : List Int) (j i : Nat) (h : i < l.length) (hj : j < l.length) : (l.drop j ++ l.take j)[i]? = l[(i + j) % l.length]? := by
  by_cases h1 : i < (l.drop j).length
  · rw [List.getElem?_append_left h1]
    simp only [List.length_drop] at h1
    rw [Nat.mod_eq_of_lt (by omega), List.getElem?_drop]
    congr 1
    omega
  · rw [List.getElem?_append_right (by omega)]
    simp only [List.length_drop] at h1 ⊢
    rw [Nat.mod_eq_sub_mod (by omega), Nat.mod_eq_of_lt (by omega), List.getElem?_take, if_pos (by omega)]
    congr 1
    omega
theorem rotL_get (l : List Int) (k i : Nat) (h : i < l.length) : (rotL l k)[i]'(by rw [rotL_length]; exact h) = l[(i + k) % l.length]'(Nat.mod_lt _ (by omega)) := by
  have hm := Nat.mod_lt k (show 0 < l.length by omega)
  have := rot_get l (k % l.length) i h hm
  rw [Nat.add_mod_mod, List.getElem?_eq_getElem (by simp; omega), List.getElem?_eq_getElem (Nat.mod_lt _ (by omega))] at this
  exact Option.some.inj this
theorem totR_set (xss : List (List Int)) (i : Nat) (ys : List Int) : totR (xss.set i ys) ≤ totR xss + ys.length := by
  induction xss generalizing i with
  | nil => simp [totR]
  | cons x xs ih =>
    cases i with
    | zero => simp [totR]; omega
    | succ i =>
      have := ih i
      simp only [totR, List.set_cons_succ, List.map_cons, List.sum_cons] at *
      omega
theorem turnP_tot (g : List (List Int)) (p k : Int) : (turnP g p k).1.length + totR (turnP g p k).1 ≤ 100 := by
  unfold turnP
  split
  · rename_i h
    rw [Bool.and_eq_true, Bool.and_eq_true, inR_iff, inR_iff] at h
    obtain ⟨⟨h1, h2, h3⟩, _⟩ := h
    have a := graph_tot h1
    have b := graph_len h1
    have c := totR_set g p.toNat (rotL (g.getD p.toNat []) k.toNat)
    rw [rotL_length, getD_get (by omega)] at c
    have d := (graph_mem h1 (List.getElem_mem (show p.toNat < g.length by omega))).1
    simp only [List.length_set]
    rw [getD_get (by omega)]
    omega
  · simp [totR]
theorem tmod_nat {k n : Int} (h0 : 0 ≤ k) (hn : 0 ≤ n) : Int.tmod k n = ((k.toNat % n.toNat : Nat) : Int) := by
  obtain ⟨a, rfl⟩ := Int.eq_ofNat_of_zero_le h0
  obtain ⟨b, rfl⟩ := Int.eq_ofNat_of_zero_le hn
  rfl

/-- A walk's state: its rotors and its place. -/
abbrev St := List Int × Int
def stepP (g : List (List Int)) (w : St) : Option St :=
  if (g.getD w.2.toNat []).length = 0 then none
  else some (w.1.set w.2.toNat ((((w.1.getD w.2.toNat 0).toNat + 1) % (g.getD w.2.toNat []).length : Nat) : Int), (g.getD w.2.toNat []).getD (((w.1.getD w.2.toNat 0).toNat + 1) % (g.getD w.2.toNat []).length) 0)
structure WOK (g : List (List Int)) (w : St) : Prop where
  graph : graphB g = true
  len : w.1.length = g.length
  lo : 0 ≤ w.2
  hi : w.2 < (g.length : Int)
  rot : ∀ i (h : i < w.1.length) (h' : i < g.length), 0 ≤ w.1[i] ∧ w.1[i] ≤ max ((g[i].length : Int) - 1) 0
theorem wok_of {g : List (List Int)} {rs : List Int} {p : Int} (h : walkB g rs p = true) : WOK g (rs, p) := by
  unfold walkB at h
  simp only [Bool.and_eq_true, decide_eq_true_eq] at h
  obtain ⟨⟨⟨h1, h2⟩, h3⟩, h4⟩ := h
  rw [inR_iff] at h2
  refine ⟨h1, h3, h2.1, by simp only; omega, fun i a b => ?_⟩
  have := List.all_eq_true.1 h4 (g[i], rs[i]) (by
    rw [show (g[i], rs[i]) = (g.zip rs)[i]'(by simp only [List.length_zip]; simp only at a; omega) by simp]
    exact List.getElem_mem _)
  unfold rotB at this
  rw [inR_iff] at this
  exact this
theorem stepP_none {g : List (List Int)} {w : St} (W : WOK g w) (hp : w.2.toNat < g.length) : (g[w.2.toNat]).length = 0 → stepP g w = none := fun h => by
  unfold stepP
  rw [getD_get hp, if_pos h]
theorem getD_getI {xs : List Int} {i : Nat} (h : i < xs.length) : xs.getD i 0 = xs[i] := by simp [List.getD, List.getElem?_eq_getElem h]
theorem stepP_some {g : List (List Int)} {w : St} (W : WOK g w) (hp : w.2.toNat < g.length) (hr : w.2.toNat < w.1.length) (h : (g[w.2.toNat]).length ≠ 0) :
    stepP g w = some (w.1.set w.2.toNat ((((w.1[w.2.toNat]).toNat + 1) % (g[w.2.toNat]).length : Nat) : Int), (g[w.2.toNat])[((w.1[w.2.toNat]).toNat + 1) % (g[w.2.toNat]).length]'(Nat.mod_lt _ (by omega))) := by
  unfold stepP
  rw [getD_get hp, if_neg h, getD_getI hr, getD_getI (Nat.mod_lt _ (by omega))]
theorem WOK.step {g : List (List Int)} {w w' : St} (W : WOK g w) (h : stepP g w = some w') : WOK g w' := by
  have hp : w.2.toNat < g.length := by have := W.hi; have := W.lo; omega
  have hr : w.2.toNat < w.1.length := by rw [W.len]; exact hp
  by_cases h0 : (g[w.2.toNat]).length = 0
  · rw [stepP_none W hp h0] at h; cases h
  · rw [stepP_some W hp hr h0] at h
    have hm := Nat.mod_lt ((w.1[w.2.toNat]).toNat + 1) (show 0 < (g[w.2.toNat]).length by omega)
    simp only [Option.some.injEq] at h
    subst h
    have hmem := (graph_mem W.graph (List.getElem_mem hp)).2 _ (List.getElem_mem hm)
    refine ⟨W.graph, by simpa using W.len, hmem.1, hmem.2, fun i a b => ?_⟩
    simp only [List.length_set] at a
    simp only [List.getElem_set]
    split
    · rename_i e
      subst e
      omega
    · exact W.rot i a b

theorem k_copiedW {S : Nat → Prop} {h : Heap} {s : Sl} {xs : List Int} (H : RdI S h s xs) (p : Int) (hn : xs.length ≤ 1000000000) (K : Value → Heap → Prop) (HK : ∀ t h', OwI h' (Iv h.size h'.size) t xs → Fr No h h' → K (.agg #[t.v, VI p]) h') : callM Tryd.prog 69 #[.agg #[s.v, VI p]] h K := by
  refine v69 s p h K fun b1 b2 h2 hb1 hb2 f2 hL2 => ?_
  have f2 := f2.in_nil
  have l2 : b2 < h2.size := hL2.head.lt
  have s2 := f2.size
  refine k_Clone (H.no f2) hn _ fun t h3 o3 f3 => ⟨t, rfl, hL2.of_no f3, fun h4 f4 hL4 => ?_⟩
  have f4 := f4.inIv (lo := h.size) (hi := h2.size) ⟨⟨hb2, l2⟩, trivial⟩
  exact HK t h4 ((Ow.iv o3 f4 (.inr (Nat.le_refl _))).mono fun k hk hF => ⟨Nat.le_trans s2 hF.1, Nat.lt_of_lt_of_le hF.2 f4.size⟩) ((f2.no_trans f3).ivFresh f4 (Nat.le_refl _))

theorem k_stepF {F S : Nat → Prop} {b : Nat} {h : Heap} {g w : Sl} {xss : List (List Int)} {s : St} (G : RdR S h g xss) (V : IsVar h b [w.v, VI s.2]) (H : OwI h F w s.1) (hS : ∀ k, S k → ¬ F k) (hFb : F b) (hbw : ¬ w.own b) (W : WOK xss s) (K : Value → Heap → Prop)
    (HN : stepP xss s = none → ∀ h', Fr No h h' → K (VB false) h') (HS : ∀ s', stepP xss s = some s' → ∀ h', OwI h' F w s'.1 → IsVar h' b [w.v, VI s'.2] → Fr F h h' → K (VB true) h') :
    callM Tryd.prog 92 #[.agg #[g.v], VP b 0] h K := by
  have hp : s.2.toNat < xss.length := by have := W.hi; have := W.lo; omega
  have hr : s.2.toNat < s.1.length := by rw [W.len]; exact hp
  have hlo := W.lo
  refine v92 g b w s.2 h K (.cons V (by simp) .nil) ⟨G.inb W.lo W.hi, fun b2 h1 hb2 f1 hL1 => ?_⟩
  have f1 := f1.in_nil
  obtain ⟨si, c1, c2⟩ := (G.no f1).get W.lo W.hi
  have H1 := Ow.no H f1
  have hn1 : w.n = s.1.length := RdI.len H.rdF
  refine ⟨si, c1, fun e => ?_, fun e => ?_⟩
  · simp only [decide_eq_true_eq] at e
    exact HN (stepP_none W hp (by have := c2.len; omega)) h1 f1
  · simp only [decide_eq_false_iff_not] at e
    have h0 : (xss[s.2.toNat]'hp).length ≠ 0 := by have := c2.len; omega
    have hst := stepP_some W hp hr h0
    have hm := Nat.mod_lt ((s.1[s.2.toNat]'hr).toNat + 1) (show 0 < (xss[s.2.toNat]'hp).length by omega)
    have hrot := W.rot _ hr hp
    have hbig := (graph_mem W.graph (List.getElem_mem hp)).1
    have hw : w64 (s.1[s.2.toNat]'hr + 1) = s.1[s.2.toNat]'hr + 1 := w64_eq _ (by omega) (by omega)
    have hm2 : Int.tmod (s.1[s.2.toNat]'hr + 1) (si.n : Int) = ((((s.1[s.2.toNat]'hr).toNat + 1) % (xss[s.2.toNat]'hp).length : Nat) : Int) := by
      rw [tmod_nat (by omega) (by omega), c2.len]
      congr 2
      omega
    have R1 : RdI F h1 w s.1 := H1.rdF
    refine ⟨R1.inb hlo (by omega), _, R1.get hlo (by omega), by omega, R1.inb hlo (by omega), ?_⟩
    rw [hw, hm2]
    obtain ⟨w1, w2, w3⟩ := H1.store1 hlo (by omega) (VI ((((s.1[s.2.toNat]'hr).toNat + 1) % (xss[s.2.toNat]'hp).length : Nat) : Int))
    have w3' : Fr F h1 _ := w3.mono fun k _ hk => (H1.foot hk).1
    have hbl := V.lt
    have hL2 := hL1.fr w3 fun p hp => by
      simp only [List.mem_cons, List.not_mem_nil, or_false] at hp
      rcases hp with rfl | rfl
      · exact fun hk => by have := (H.foot hk).2; simp only at this; omega
      · exact hbw
    refine ⟨w1, hL2, fun h2 e2 _ => ?_⟩
    subst e2
    rw [← List.map_set] at w2
    have R2 : RdI F _ w _ := w2.rdF
    have c2' := RdI.fr c2 w3' hS
    have hv : hcell (hset h1 (w.at s.2 1) (VI ((((s.1[s.2.toNat]'hr).toNat + 1) % (xss[s.2.toNat]'hp).length : Nat) : Int))) (w.at s.2 1) = some (VI ((((s.1[s.2.toNat]'hr).toNat + 1) % (xss[s.2.toNat]'hp).length : Nat) : Int)) := by
      have := R2.get (i := s.2) hlo (by simp; omega)
      simpa using this
    have hq := c2'.get (i := ((((s.1[s.2.toNat]'hr).toNat + 1) % (xss[s.2.toNat]'hp).length : Nat) : Int)) (by omega) (by omega)
    simp only [Int.toNat_natCast] at hq
    refine ⟨R2.inb hlo (by simp; omega), _, hv, c2'.inb (by omega) (by omega), _, hq, fun h3 f3 hL3 => ?_⟩
    have f3' : Fr F _ h3 := f3.mono fun k _ hk => by simp only [In, List.mem_cons, List.not_mem_nil, or_false] at hk; subst hk; exact hFb
    refine HS _ hst h3 ?_ ?_ ((f1.of_no.trans w3').trans f3')
    · exact Ow.fr w2 f3 fun k hk hk2 => by
        simp only [In, List.mem_cons, List.not_mem_nil, or_false] at hk2
        subst hk2
        exact hbw hk
    · exact hL3.tail.head

theorem k_step {a c b : Nat} {h : Heap} {g w : Sl} {xss : List (List Int)} {s : St} (G : RdR (Iv 0 a) h g xss) (V : IsVar h b [w.v, VI s.2]) (H : OwI h (Iv a c) w s.1) (hb0 : a ≤ b) (hb1 : b < c) (hbw : ¬ w.own b) (W : WOK xss s) (K : Value → Heap → Prop)
    (HN : stepP xss s = none → ∀ h', Fr No h h' → K (VB false) h') (HS : ∀ s', stepP xss s = some s' → ∀ h', OwI h' (Iv a c) w s'.1 → IsVar h' b [w.v, VI s'.2] → Fr (Iv a c) h h' → K (VB true) h') :
    callM Tryd.prog 92 #[.agg #[g.v], VP b 0] h K :=
  k_stepF G V H (fun k hk hk2 => by have := hk.2; have := hk2.1; omega) ⟨hb0, hb1⟩ hbw W K HN HS

theorem k_waStep {S S' : Nat → Prop} {h : Heap} {g w : Sl} {xss : List (List Int)} {s : St} (G : RdR S h g xss) (H : RdI S' h w s.1) (W : WOK xss s) (K : Value → Heap → Prop)
    (HN : stepP xss s = none → ∀ h', Fr No h h' → K (.tuple #[.agg #[w.v, VI s.2], VB false]) h') (HS : ∀ s', stepP xss s = some s' → ∀ t h', OwI h' (Iv h.size h'.size) t s'.1 → Fr No h h' → K (.tuple #[.agg #[t.v, VI s'.2], VB true]) h') :
    callM Tryd.prog 80 #[.agg #[g.v], .agg #[w.v, VI s.2]] h K := by
  have hp : s.2.toNat < xss.length := by have := W.hi; have := W.lo; omega
  have hr : s.2.toNat < s.1.length := by rw [W.len]; exact hp
  have hlo := W.lo
  refine v80 g w s.2 h K ⟨G.inb W.lo W.hi, fun b1 b2 b3 h3 hb1 hb2 hb3 f3 hL3 => ?_⟩
  have f3 := f3.in_nil
  have l3 : b3 < h3.size := hL3.head.lt
  have l2 : b2 < h3.size := hL3.tail.head.lt
  have l1 : b1 < h3.size := hL3.tail.tail.head.lt
  have s3 := f3.size
  have G3 := G.low.no f3
  obtain ⟨si, c1, c2⟩ := G3.get W.lo W.hi
  refine ⟨si, c1, fun e h4 f4 hL4 => ?_, fun e => ?_⟩
  · simp only [decide_eq_true_eq] at e
    have f4 := f4.inIv (lo := h.size) (hi := h3.size) ⟨⟨hb3, l3⟩, trivial⟩
    exact HN (stepP_none W hp (by have := c2.len; omega)) h4 (f3.ivFresh f4 (Nat.le_refl _))
  · simp only [decide_eq_false_iff_not] at e
    have h0 : (xss[s.2.toNat]'hp).length ≠ 0 := by have := c2.len; omega
    have hst := stepP_some W hp hr h0
    have hm := Nat.mod_lt ((s.1[s.2.toNat]'hr).toNat + 1) (show 0 < (xss[s.2.toNat]'hp).length by omega)
    have hrot := W.rot _ hr hp
    have hbig := (graph_mem W.graph (List.getElem_mem hp)).1
    have hglen := graph_len W.graph
    have hw : w64 (s.1[s.2.toNat]'hr + 1) = s.1[s.2.toNat]'hr + 1 := w64_eq _ (by omega) (by omega)
    have hm2 : Int.tmod (s.1[s.2.toNat]'hr + 1) (si.n : Int) = ((((s.1[s.2.toNat]'hr).toNat + 1) % (xss[s.2.toNat]'hp).length : Nat) : Int) := by
      rw [tmod_nat (by omega) (by omega), c2.len]
      congr 2
      omega
    refine k_l1Own (H.no f3) (by have := W.len; omega) _ fun t h5 o5 f5 => ⟨t, rfl, hL3.of_no f5, (H.inb hlo (by omega)), fun b4 h7 hb4 f7 hL7 => ?_⟩
    have f7 := f7.in_nil
    have s5 := f5.size
    have s7 := f7.size
    have l4 : b4 < h7.size := hL7.head.lt
    have f07 := (f3.no_trans f5).no_trans f7
    have H7 := H.no f07
    have o7 := Ow.no o5 f7
    have hn7 : t.n = s.1.length := RdI.len o7.rdF
    refine ⟨_, H7.get hlo (by omega), by omega, o7.inb hlo (by omega), ?_⟩
    rw [hw, hm2]
    obtain ⟨w1, w2, w3⟩ := o7.store1 hlo (by omega) (VI ((((s.1[s.2.toNat]'hr).toNat + 1) % (xss[s.2.toNat]'hp).length : Nat) : Int))
    have w3' : Fr (Iv h3.size h5.size) h7 _ := w3.mono fun k _ hk => (o7.foot hk).1
    have hL8 := hL7.iv w3' ⟨.inr hb4, .inl l3, .inl l2, .inl l1, trivial⟩
    refine ⟨w1, hL8, fun h8 e8 _ => ?_⟩
    subst e8
    rw [← List.map_set] at w2
    have c2' := ((c2.no f5).no f7).fr w3' fun k hk hk2 => by have := hk2.1; omega
    have hq := c2'.get (i := ((((s.1[s.2.toNat]'hr).toNat + 1) % (xss[s.2.toNat]'hp).length : Nat) : Int)) (by omega) (by omega)
    simp only [Int.toNat_natCast] at hq
    refine ⟨c2'.inb (by omega) (by omega), _, hq, fun h10 f10 hL10 => ?_⟩
    have s8 := w3'.size
    have e1 : Fr No h h10 := by
      refine (f07.ivFresh w3' (by omega)).fresh f10 fun k hk => ?_
      simp only [In, List.mem_cons, List.not_mem_nil, or_false] at hk
      rcases hk with rfl | rfl <;> omega
    refine HS _ hst t h10 ?_ e1
    have s10 := f10.size
    refine (Ow.fr w2 f10 fun k hk hk2 => ?_).mono fun k _ hk => ⟨by have := hk.1; omega, by have := hk.2; omega⟩
    have := (o7.foot hk).1
    have h1 := this.1
    have h2 := this.2
    simp only [In, List.mem_cons, List.not_mem_nil, or_false] at hk2
    rcases hk2 with rfl | rfl <;> omega

def firstGo {τ : Type} (g : List (List Int)) (test : τ → St → Bool × τ) (frm : Int) : Nat → Int → τ → St → Int × Bool
  | 0, _, _, _ => (0, false)
  | f + 1, n, t, s =>
    if frm ≤ n then
      if (test t s).1 then (n, true)
      else match stepP g s with
        | none => (0, false)
        | some s' => firstGo g test frm f (n + 1) (test t s).2 s'
    else match stepP g s with
      | none => (0, false)
      | some s' => firstGo g test frm f (n + 1) t s'

def hitP (g : List (List Int)) (rs : List Int) (p q : Int) : Int × Bool :=
  if walkB g rs p && (graphB g && inR 0 ((g.length : Int) - 1) q) then firstGo g (fun (_ : Unit) s => (decide (s.2 = q), ())) 0 2001 0 () (rs, p) else (0, false)
theorem rdI_not {S : Nat → Prop} {h : Heap} {s : Sl} {xs : List Int} (H : RdI S h s xs) {b : Nat} (hb : h.size ≤ b) : RdI (fun k => k ≠ b) h s xs := H.low.mono fun k hk => by omega

def metT (met : List Bool) (s : St) : Bool × List Bool := (!((met.set s.2.toNat true).any (false == ·)), met.set s.2.toNat true)
def coverP (g : List (List Int)) (rs : List Int) (p : Int) : Int × Bool :=
  if walkB g rs p then firstGo g metT 0 2001 0 (List.replicate g.length false) (rs, p) else (0, false)

theorem k_waSame {S S' : Nat → Prop} {h : Heap} {a b : Sl} {xs ys : List Int} (H : RdI S h a xs) (H' : RdI S' h b ys) (p q : Int) : Ret Tryd.prog 101 #[.agg #[a.v, VI p], .agg #[b.v, VI q]] h (VB (decide (p = q ∧ xs = ys))) := by
  intro K HK
  refine v101 a p b q h K ⟨fun e b1 b2 h2 hb1 hb2 f2 hL2 => ?_, fun e => ⟨fun e1 b1 b2 h2 hb1 hb2 f2 hL2 => ?_, fun e1 b1 b2 h2 hb1 hb2 f2 hL2 => ?_⟩⟩
  · have e := not_t e
    simp only [decide_eq_false_iff_not] at e
    rw [decide_eq_false (fun e2 => e e2.1)] at HK
    exact HK _ f2.in_nil
  · have e1 := not_t e1
    rw [H.len, H'.len] at e1
    simp only [decide_eq_false_iff_not] at e1
    rw [decide_eq_false (fun e2 => e1 (by rw [e2.2]))] at HK
    exact HK _ f2.in_nil
  · have e := not_f e
    simp only [decide_eq_true_eq] at e
    have e1 := not_f e1
    rw [H.len, H'.len] at e1
    have hl : xs.length = ys.length := by simp at e1; omega
    have f2 := f2.in_nil
    have H2 := H.no f2
    have H2' := H'.no f2
    have HK2 := HK _ f2
    have e2 : decide (p = q ∧ xs = ys) = decide (xs = ys) := by simp [e]
    rw [e2] at HK2
    refine ⟨fun n i h' => h' = h2 ∧ 0 ≤ i ∧ i + n = (xs.length : Int) ∧ decide (xs = ys) = decide (xs.drop i.toNat = ys.drop i.toNat), ⟨xs.length, rfl, by omega, by omega, by simp⟩, ?_⟩
    rintro n i hh ⟨rfl, h0, h1, h3⟩ hL
    refine ⟨fun e => ?_, fun e => ?_⟩
    · have hi := H2.lt e
      have hi' : i < (ys.length : Int) := by omega
      refine ⟨H2.inb h0 hi, _, H2.get h0 hi, H2'.inb h0 hi', _, H2'.get h0 hi', fun e => ?_, fun e => ?_⟩
      · rw [drop_cons xs h0 hi, drop_cons ys h0 hi'] at h3
        have e3 := not_t e
        simp only [decide_eq_false_iff_not] at e3
        rw [h3, decide_eq_false (fun e4 => e3 (List.cons.inj e4).1)] at HK2
        exact HK2
      · rw [drop_cons xs h0 hi, drop_cons ys h0 hi'] at h3
        have e3 := not_f e
        simp only [decide_eq_true_eq] at e3
        rw [H2.succ h0 hi]
        refine ⟨n - 1, by omega, rfl, by omega, by omega, h3.trans ?_⟩
        rw [e3]
        simp
    · have hi := H2.ge e
      rw [List.drop_of_length_le (by omega), List.drop_of_length_le (by omega)] at h3
      rw [h3] at HK2
      exact HK2

def sameT (rs : List Int) (p : Int) (_ : Unit) (s : St) : Bool × Unit := (decide (p = s.2 ∧ rs = s.1), ())
def recP (g : List (List Int)) (rs : List Int) (p : Int) : Bool × Bool :=
  if walkB g rs p then ((firstGo g (sameT rs p) 1 2001 0 () (rs, p)).2, true) else (false, false)
theorem first_pos (g : List (List Int)) (test : Unit → St → Bool × Unit) : ∀ (f : Nat) (n : Int) (s : St), 0 ≤ n → (firstGo g test 1 f n () s).2 = decide (0 < (firstGo g test 1 f n () s).1)
  | 0, n, s, _ => by simp [firstGo]
  | f + 1, n, s, h => by
    rw [firstGo]
    split
    · split
      · have : 0 < n := by omega
        simp [this]
      · split
        · simp
        · exact first_pos g test f (n + 1) _ (by omega)
    · split
      · simp
      · exact first_pos g test f (n + 1) _ (by omega)

theorem k_waAgain {S S' : Nat → Prop} {h : Heap} {g w : Sl} {xss : List (List Int)} {rs : List Int} (G : RdR S h g xss) (H : RdI S' h w rs) (p : Int) (W : WOK xss (rs, p)) (K : Value → Heap → Prop) (HK : ∀ h', Fr No h h' → K (VI (firstGo xss (sameT rs p) 1 2001 0 () (rs, p)).1) h') : callM Tryd.prog 102 #[.agg #[g.v], .agg #[w.v, VI p], VI 2000] h K := by
  refine v102 g w p 2000 h K fun b1 b2 b3 h4 hb1 hb2 hb3 f4 hL4 => ?_
  have f4 := f4.in_nil
  have l3 : b3 < h4.size := hL4.head.lt
  have z4 := f4.size
  have hR0 : firstGo xss (sameT rs p) 1 2001 0 () (rs, p) = match stepP xss (rs, p) with
      | none => (0, false)
      | some s' => firstGo xss (sameT rs p) 1 2000 1 () s' := by rw [firstGo, if_neg (by omega)]; rfl
  generalize hR : firstGo xss (sameT rs p) 1 2001 0 () (rs, p) = R at HK
  rw [hR] at hR0
  refine ⟨fun n i x y h' => ∃ s' : St, y = s'.2 ∧ 1 ≤ i ∧ i + n = 2001 ∧ RdI (fun k => k ≠ b3) h' x s'.1 ∧ WOK xss s' ∧ Fr No h h' ∧ h4.size ≤ h'.size ∧ R = (match stepP xss s' with
      | none => (0, false)
      | some s2 => firstGo xss (sameT rs p) 1 n i () s2), ⟨2000, (rs, p), rfl, by omega, by omega, (rdI_not H hb3).no f4, W, f4, Nat.le_refl _, hR0⟩, ?_⟩
  rintro n i x y h5 ⟨s', rfl, i0, i1, r5, W5, f5, z5, eq⟩ hL5
  refine ⟨fun e3 => ?_, fun e3 => ?_⟩
  · simp only [decide_eq_true_eq] at e3
    obtain ⟨m, rfl⟩ : ∃ m, n = m + 1 := ⟨n - 1, by omega⟩
    refine k_waStep (G.no f5) r5 W5 _ (fun hs h6 f6 => ⟨x, s'.2, false, rfl, hL5.of_no f6, fun _ b4 h8 hb4 f8 hL8 => ?_, fun e => by simp at e⟩) fun s2 hs t h6 o6 f6 => ⟨t, s2.2, true, rfl, hL5.of_no f6, fun e => by simp at e, fun _ b4 h9 hb4 f9 hL9 => ?_⟩
    · rw [hs] at eq
      simp only at eq
      rw [eq] at HK
      exact HK h8 ((f5.no_trans f6).no_trans f8.in_nil)
    · rw [hs] at eq
      simp only at eq
      rw [firstGo, if_pos i0] at eq
      have z6 := f6.size
      have z9 := f9.size
      have hb3' : ∀ k, In [b3] k → h.size ≤ k := fun k hk => by simp only [In, List.mem_cons, List.not_mem_nil, or_false] at hk; omega
      have f09 := (f5.no_trans f6).fresh f9 hb3'
      have r9 : RdI (fun k => k ≠ b3) h9 t s2.1 := (RdI.fr (o6.rdI) f9 fun k hk hk2 => by
        simp only [In, List.mem_cons, List.not_mem_nil, or_false] at hk2
        have := hk.1
        omega).mono fun k hk => by have := hk.1; omega
      refine k_waSame r9 (H.no f09) s2.2 p _ fun h10 f10 => ⟨_, rfl, hL9.of_no f10, fun e => ?_, fun e => ?_⟩
      · have e1 : (sameT rs p () s2).1 = true := by
          simp only [decide_eq_true_eq] at e
          simp [sameT, e.1, e.2]
        rw [if_pos e1] at eq
        rw [eq] at HK
        exact HK h10 (f09.no_trans f10)
      · have e1 : ¬ (sameT rs p () s2).1 = true := by
          simp only [decide_eq_false_iff_not] at e
          simp only [sameT, decide_eq_true_eq]
          exact fun h => e ⟨h.1.symm, h.2.symm⟩
        rw [if_neg e1] at eq
        rw [w64_eq (i + 1) (by omega) (by omega)]
        exact ⟨m, by omega, s2, rfl, by omega, by omega, r9.no f10, W5.step hs, f09.no_trans f10, by have := f10.size; omega, eq⟩
  · simp only [decide_eq_false_iff_not] at e3
    obtain rfl : n = 0 := by omega
    have : R = (0, false) := by
      rw [eq]
      split
      · rfl
      · rw [firstGo]
    rw [this] at HK
    exact HK h5 f5

def runT {τ : Type} (g : List (List Int)) (upd : τ → St → St → τ) : Nat → τ → St → Option (τ × St)
  | 0, t, s => some (t, s)
  | n + 1, t, s => match stepP g s with
    | none => none
    | some s' => runT g upd n (upd t s s') s'

theorem runT_snoc {τ : Type} {g : List (List Int)} {upd : τ → St → St → τ} {s'' : St} : ∀ (n : Nat) (t : τ) (s : St) (t' : τ) (s' : St), runT g upd n t s = some (t', s') → stepP g s' = some s'' → runT g upd (n + 1) t s = some (upd t' s' s'', s'')
  | 0, t, s, t', s', h, hs => by
    simp only [runT, Option.some.injEq, Prod.mk.injEq] at h
    obtain ⟨rfl, rfl⟩ := h
    rw [runT, hs]
    rfl
  | n + 1, t, s, t', s', h, hs => by
    rw [runT] at h
    rw [runT]
    split at h
    · cases h
    · rename_i s2 h2
      exact runT_snoc n _ _ _ _ h hs

def runOfP (g : List (List Int)) (rs : List Int) (p n : Int) : St × Bool :=
  if walkB g rs p && inR 0 2000 n then match runT g (fun (_ : Unit) _ _ => ()) n.toNat () (rs, p) with
    | none => (([], 0), false)
    | some (_, s) => (s, true)
  else (([], 0), false)
theorem run_len {τ : Type} {g : List (List Int)} {upd : τ → St → St → τ} : ∀ (n : Nat) (t : τ) (s : St), WOK g s → ∀ t' s', runT g upd n t s = some (t', s') → WOK g s'
  | 0, t, s, W, t', s', h => by
    simp only [runT, Option.some.injEq, Prod.mk.injEq] at h
    rw [← h.2]; exact W
  | n + 1, t, s, W, t', s', h => by
    rw [runT] at h
    split at h
    · cases h
    · rename_i s2 hs
      exact run_len n _ s2 (W.step hs) t' s' h
theorem runOfP_len (g : List (List Int)) (rs : List Int) (p n : Int) : (runOfP g rs p n).1.1.length ≤ 8 := by
  unfold runOfP
  split
  · rename_i h
    rw [Bool.and_eq_true] at h
    have W := wok_of h.1
    split
    · simp
    · rename_i s hs
      have W2 := run_len _ _ _ W _ _ hs
      have := graph_len W2.graph
      have := W2.len
      simp only
      omega
  · simp

/-- A run: its end, what was passed, visits, uses. -/
structure Rn where
  s : St
  ps : List Int
  vs : List Int
  us : List (List Int)
def bump (l : List Int) (i : Nat) : List Int := l.set i (l.getD i 0 + 1)
def goP (g : List (List Int)) : Nat → Rn → Option Rn
  | 0, r => some r
  | n + 1, r => match stepP g r.s with
    | none => none
    | some s' => goP g n ⟨s', r.ps ++ [s'.2], bump r.vs s'.2.toNat, r.us.set r.s.2.toNat (bump (r.us.getD r.s.2.toNat []) (s'.1.getD r.s.2.toNat 0).toNat)⟩
def zerosR (g : List (List Int)) : List (List Int) := g.map fun l => List.replicate l.length 0
def go0 (g : List (List Int)) (s : St) : Rn := ⟨s, [s.2], List.replicate g.length 0, zerosR g⟩
/-- What holds of a run on its way. -/
structure RnOK (g : List (List Int)) (m : Nat) (r : Rn) : Prop where
  w : WOK g r.s
  ps : r.ps.length = m + 1
  vs : r.vs.length = g.length
  us : r.us.length = g.length
  row : ∀ i (h : i < r.us.length) (h' : i < g.length), r.us[i].length = g[i].length
  vb : ∀ x, x ∈ r.vs → 0 ≤ x ∧ x ≤ m
  ub : ∀ l, l ∈ r.us → ∀ x, x ∈ l → 0 ≤ x ∧ x ≤ m
theorem bump_length (l : List Int) (i : Nat) : (bump l i).length = l.length := by simp [bump]
theorem bump_mem {l : List Int} {i m : Nat} (h : ∀ x, x ∈ l → 0 ≤ x ∧ x ≤ (m : Int)) : ∀ x, x ∈ bump l i → 0 ≤ x ∧ x ≤ ((m + 1 : Nat) : Int) := by
  intro x hx
  unfold bump at hx
  rcases List.mem_or_eq_of_mem_set hx with hx | rfl
  · have := h x hx; omega
  · by_cases hi : i < l.length
    · rw [getD_getI hi]
      have := h _ (List.getElem_mem hi)
      omega
    · rw [show l.getD i 0 = 0 by simp [List.getD, List.getElem?_eq_none (by omega : l.length ≤ i)]]
      omega
theorem RnOK.step {g : List (List Int)} {m : Nat} {r : Rn} (R : RnOK g m r) {s' : St} (hs : stepP g r.s = some s') : RnOK g (m + 1) ⟨s', r.ps ++ [s'.2], bump r.vs s'.2.toNat, r.us.set r.s.2.toNat (bump (r.us.getD r.s.2.toNat []) (s'.1.getD r.s.2.toNat 0).toNat)⟩ := by
  have hp : r.s.2.toNat < r.us.length := by rw [R.us]; have := R.w.hi; have := R.w.lo; omega
  refine ⟨R.w.step hs, by simp [R.ps], by simp [bump_length, R.vs], by simp [R.us], fun i a b => ?_, bump_mem R.vb, fun l hl => ?_⟩
  · simp only [List.length_set] at a
    simp only [List.getElem_set]
    split
    · rename_i e
      subst e
      rw [bump_length, getD_get hp]
      exact R.row _ a b
    · exact R.row i a b
  · rcases List.mem_or_eq_of_mem_set hl with hl | rfl
    · exact fun x hx => by have := R.ub l hl x hx; omega
    · rw [getD_get hp]
      exact bump_mem (R.ub _ (List.getElem_mem hp))
theorem go0_ok {g : List (List Int)} {s : St} (W : WOK g s) : RnOK g 0 (go0 g s) := by
  refine ⟨W, rfl, by simp [go0], by simp [go0, zerosR], fun i a b => by simp [go0, zerosR], fun x hx => ?_, fun l hl x hx => ?_⟩
  · simp only [go0, List.mem_replicate] at hx
    omega
  · simp only [go0, zerosR, List.mem_map] at hl
    obtain ⟨l', _, rfl⟩ := hl
    simp only [List.mem_replicate] at hx
    omega

def nextR (r : Rn) (s' : St) : Rn := ⟨s', r.ps ++ [s'.2], bump r.vs s'.2.toNat, r.us.set r.s.2.toNat (bump (r.us.getD r.s.2.toNat []) (s'.1.getD r.s.2.toNat 0).toNat)⟩
/-- A run that keeps one thing is the run that keeps all of them, seen from there. -/
theorem go_run {τ : Type} (g : List (List Int)) (f : Rn → τ) (upd : τ → St → St → τ) (hf : ∀ r s', f (nextR r s') = upd (f r) r.s s') : ∀ (n : Nat) (r : Rn), runT g upd n (f r) r.s = (goP g n r).map fun r => (f r, r.s)
  | 0, r => by simp [runT, goP]
  | n + 1, r => by
    rw [runT, goP]
    cases stepP g r.s with
    | none => rfl
    | some s' =>
      show runT g upd n (upd (f r) r.s s') s' = (goP g n (nextR r s')).map _
      rw [← go_run g f upd hf n (nextR r s'), hf]
      rfl

def passU (t : List Int) (_ s' : St) : List Int := t ++ [s'.2]
def passP (g : List (List Int)) (rs : List Int) (p n : Int) : List Int × Bool :=
  if walkB g rs p && inR 0 200 n then match runT g passU n.toNat [p] (rs, p) with
    | none => ([], false)
    | some (t, _) => (t, true)
  else ([], false)
def visU (t : List Int) (_ s' : St) : List Int := bump t s'.2.toNat
def visP (g : List (List Int)) (rs : List Int) (p n : Int) : List Int × Bool :=
  if walkB g rs p && inR 0 2000 n then match runT g visU n.toNat (List.replicate g.length 0) (rs, p) with
    | none => ([], false)
    | some (t, _) => (t, true)
  else ([], false)
def useU (t : List (List Int)) (s s' : St) : List (List Int) := t.set s.2.toNat (bump (t.getD s.2.toNat []) (s'.1.getD s.2.toNat 0).toNat)
def useP (g : List (List Int)) (rs : List Int) (p n : Int) : List (List Int) × Bool :=
  if walkB g rs p && inR 0 2000 n then match runT g useU n.toNat (zerosR g) (rs, p) with
    | none => ([], false)
    | some (t, _) => (t, true)
  else ([], false)

theorem passP_len (g : List (List Int)) (rs : List Int) (p n : Int) : (passP g rs p n).1.length ≤ 201 := by
  unfold passP
  split
  · rename_i h
    rw [Bool.and_eq_true, inR_iff] at h
    have key : ∀ (m : Nat) (t : List Int) (s : St) (t' : List Int) (s' : St), runT g passU m t s = some (t', s') → t'.length = t.length + m := by
      intro m
      induction m with
      | zero =>
        intro t s t' s' h
        simp only [runT, Option.some.injEq, Prod.mk.injEq] at h
        rw [h.1]
        rfl
      | succ m ih =>
        intro t s t' s' h
        rw [runT] at h
        split at h
        · cases h
        · have := ih _ _ _ _ h
          simp [passU] at this
          omega
    split
    · simp
    · rename_i t s hs
      have := key _ _ _ _ _ hs
      simp at this
      simp only
      omega
  · simp

theorem wf_ok {n : Int} (h0 : -9223372036854775808 ≤ n) (h1 : n < 9223372036854775808) : (Lit.int .i64 n).wf = true := by
  have a0 : IntKind.i64.min = -9223372036854775808 := rfl
  have a1 : IntKind.i64.max = 9223372036854775807 := rfl
  simp only [Lit.wf, Bool.and_eq_true, decide_eq_true_eq, a0, a1]
  omega

theorem eop_putI {L : List (Nat × List Value)} {F : Nat → Prop} {h : Heap} {o : Sl} {xs : List Int} {x : Int} (O : OwI h F o xs) (hF : ∀ k, h.size ≤ k → F k) (hL : Vars h L) (hoff : ∀ p, p ∈ L → ¬ F p.1) (hb : xs.length ≤ 1000000) (R : Sl → Heap → Prop) (HR : ∀ t h', OwI h' F t (xs ++ [x]) → Fr F h h' → Vars h' L → R t h') : eop Tryd.prog (Instr.buildSlice tIs 1 #[(0, VI x)]) h fun rv h1 => ∃ t : Sl, rv = t.v ∧ Vars h1 L ∧ eop Tryd.prog (appS tIs tIs tIs o.v t.v) h1 fun rv2 h2 => ∃ t2 : Sl, rv2 = t2.v ∧ Vars h2 L ∧ R t2 h2 := by
  refine eop_lit rIs (fun k => h.size ≤ k) (fun _ h => h) 1 (by omega) [VI x] rfl rfl fun t h1 n1 c1 o1 f1 m1 _ => ⟨t, rfl, hL.of_no f1, ?_⟩
  have z1 := f1.size
  have O1 : OwI h1 F o xs := Ow.no O f1
  have on := O1.rd.len
  have tn := o1.rd.len
  simp only [List.length_map, Nat.mul_one, List.length_cons, List.length_nil] at on tn
  refine eop_append rIs O1 (fun k hk => hF k (by omega)) o1.rd (plainVI [x]) (by omega) fun s' h2 n2 o2 f2 d2 => ?_
  have g2 : Fr F h1 h2 := f2.mono fun k _ hk => (O1.foot hk).1
  have V2 : Vars h2 L := (hL.of_no f1).fr g2 hoff
  exact ⟨s', rfl, V2, HR s' h2 (by rw [OwI, List.map_append]; exact o2) (f1.of_no.trans g2) V2⟩

/-! Walks that come again. -/
def sq (g : List (List Int)) (s : St) : Nat → Option St
  | 0 => some s
  | n + 1 => (sq g s n).bind (stepP g)
theorem sq_succ' (g : List (List Int)) {s s' : St} (h : stepP g s = some s') : ∀ n, sq g s (n + 1) = sq g s' n
  | 0 => by rw [sq, sq]; exact h
  | n + 1 => by rw [sq, sq_succ' g h n, sq]
theorem sq_add (g : List (List Int)) (s : St) (a : Nat) : ∀ b, sq g s (a + b) = (sq g s a).bind fun t => sq g t b
  | 0 => by rw [Nat.add_zero]; cases sq g s a <;> rfl
  | b + 1 => by
    rw [← Nat.add_assoc, sq, sq_add g s a b]
    cases sq g s a <;> rfl
theorem sq_shift {g : List (List Int)} {s : St} {a b : Nat} (h : sq g s a = sq g s b) (k : Nat) : sq g s (a + k) = sq g s (b + k) := by
  rw [sq_add, sq_add, h]
theorem sq_none {g : List (List Int)} {s : St} {a : Nat} (h : sq g s a = none) (k : Nat) : sq g s (a + k) = none := by
  rw [sq_add, h]; rfl
/-- The first place that comes again, and where it does. -/
structure Rho (g : List (List Int)) (s : St) (m n : Nat) : Prop where
  lt : m < n
  eq : sq g s m = sq g s n
  some : sq g s m ≠ none
  dis : ∀ i j, i < j → j < n → sq g s i ≠ sq g s j
theorem rho_of {g : List (List Int)} {s : St} : ∀ (b : Nat) {a : Nat}, a < b → sq g s a = sq g s b → sq g s a ≠ none → ∃ m n, n ≤ b ∧ Rho g s m n := by
  intro b
  induction b using Nat.strongRecOn with
  | ind b ih =>
    intro a h1 h2 h3
    by_cases hx : ∃ i j, i < j ∧ j < b ∧ sq g s i = sq g s j
    · obtain ⟨i, j, x1, x2, x3⟩ := hx
      obtain ⟨m, n, y1, y2⟩ := ih j x2 x1 x3 (fun hn => by
        have e0 : i ≤ a ∨ a < i := by omega
        have := sq_none hn (b - i)
        rw [show i + (b - i) = b by omega, ← h2] at this
        exact h3 this)
      exact ⟨m, n, by omega, y2⟩
    · exact ⟨a, b, Nat.le_refl _, h1, h2, h3, fun i j x1 x2 x3 => hx ⟨i, j, x1, x2, x3⟩⟩
theorem Rho.mul {g : List (List Int)} {s : St} {m n : Nat} (R : Rho g s m n) {a : Nat} (h : m ≤ a) : ∀ k, sq g s (a + k * (n - m)) = sq g s a
  | 0 => by rw [Nat.zero_mul, Nat.add_zero]
  | k + 1 => by
    have := sq_shift R.eq (a + k * (n - m) - m)
    have hlt := R.lt
    rw [show m + (a + k * (n - m) - m) = a + k * (n - m) by omega, R.mul h k] at this
    rw [this, Nat.succ_mul]
    congr 1; omega
theorem Rho.all {g : List (List Int)} {s : St} {m n : Nat} (R : Rho g s m n) (a : Nat) : sq g s a ≠ none := by
  intro h
  have h1 := sq_none h (m + a * (n - m))
  have hlt := R.lt
  have h2 := R.mul (a := m) (Nat.le_refl _) a
  have : a ≤ a * (n - m) := Nat.le_mul_of_pos_right _ (by omega)
  have h3 := sq_none h (m + a * (n - m) - a)
  rw [show a + (m + a * (n - m) - a) = m + a * (n - m) by omega, h2] at h3
  exact R.some h3
theorem Rho.rep {g : List (List Int)} {s : St} {m n : Nat} (R : Rho g s m n) {a : Nat} (h : m ≤ a) : sq g s (m + (a - m) % (n - m)) = sq g s a ∧ m + (a - m) % (n - m) < n := by
  have hlt := R.lt
  have h1 := Nat.mod_add_div (a - m) (n - m)
  have h2 := R.mul (a := m + (a - m) % (n - m)) (by omega) ((a - m) / (n - m))
  rw [Nat.mul_comm] at h1
  rw [show m + (a - m) % (n - m) + (a - m) / (n - m) * (n - m) = a by omega] at h2
  have h3 := Nat.mod_lt (a - m) (show n - m > 0 by omega)
  exact ⟨h2.symm, by omega⟩
theorem Rho.iff {g : List (List Int)} {s : St} {m n : Nat} (R : Rho g s m n) {a b : Nat} (h : a < b) : sq g s a = sq g s b ↔ m ≤ a ∧ (b - a) % (n - m) = 0 := by
  have hlt := R.lt
  constructor
  · intro e
    have ha : m ≤ a := by
      refine Nat.not_lt.1 fun hl => ?_
      by_cases hb : b < n
      · exact R.dis a b h hb e
      · obtain ⟨r1, r2⟩ := R.rep (a := b) (by omega)
        exact R.dis a _ (by omega) r2 (e.trans r1.symm)
    refine ⟨ha, ?_⟩
    obtain ⟨r1, r2⟩ := R.rep (a := b) (by omega)
    obtain ⟨q1, q2⟩ := R.rep ha
    have hr : (a - m) % (n - m) = (b - m) % (n - m) := by
      rcases Nat.lt_trichotomy ((a - m) % (n - m)) ((b - m) % (n - m)) with x | x | x
      · exact absurd (q1.trans (e.trans r1.symm)) (R.dis _ _ (by omega) r2)
      · exact x
      · exact absurd (r1.trans (e.symm.trans q1.symm)) (R.dis _ _ (by omega) q2)
    have := Nat.sub_mod_eq_zero_of_mod_eq hr.symm
    rwa [show b - m - (a - m) = b - a by omega] at this
  · rintro ⟨h1, h2⟩
    have h3 := Nat.mod_add_div (b - a) (n - m)
    rw [h2, Nat.zero_add, Nat.mul_comm] at h3
    have := R.mul h1 ((b - a) / (n - m))
    rw [h3, show a + (b - a) = b by omega] at this
    exact this.symm
theorem Rho.uniq {g : List (List Int)} {s : St} {m n m' n' : Nat} (R : Rho g s m n) (R' : Rho g s m' n') : m = m' ∧ n = n' := by
  have h1 := R.lt
  have h2 := R'.lt
  have hn : n = n' := by
    rcases Nat.lt_trichotomy n n' with x | x | x
    · exact absurd R.eq (R'.dis m n h1 x)
    · exact x
    · exact absurd R'.eq (R.dis m' n' h2 x)
  subst hn
  refine ⟨?_, rfl⟩
  rcases Nat.lt_trichotomy m m' with x | x | x
  · exact absurd (R.eq.trans R'.eq.symm) (R.dis m m' x h2)
  · exact x
  · exact absurd (R'.eq.trans R.eq.symm) (R.dis m' m x h1)
/-- A pair of walks, one twice as fast, meets within so many steps. -/
theorem Rho.meets {g : List (List Int)} {s : St} {m n : Nat} (R : Rho g s m n) : ∃ k, 1 ≤ k ∧ k ≤ n ∧ m ≤ k ∧ sq g s k = sq g s (2 * k) := by
  have hlt := R.lt
  have h1 := Nat.mod_add_div m (n - m)
  have h3 := Nat.mod_lt m (show n - m > 0 by omega)
  by_cases h0 : m % (n - m) = 0 ∧ 1 ≤ m
  · refine ⟨m, h0.2, by omega, Nat.le_refl _, (R.iff (by omega)).2 ⟨Nat.le_refl _, ?_⟩⟩
    rw [show 2 * m - m = m by omega]; exact h0.1
  · have hk : (n - m) * (m / (n - m) + 1) = (n - m) * (m / (n - m)) + (n - m) := by rw [Nat.mul_succ]
    refine ⟨(n - m) * (m / (n - m) + 1), by omega, ?_, by omega, ?_⟩
    · by_cases hm : m = 0
      · subst hm
        simp at hk ⊢
      · have : m % (n - m) ≠ 0 := fun e => h0 ⟨e, by omega⟩
        omega
    · refine (R.iff (by omega)).2 ⟨by omega, ?_⟩
      rw [show 2 * ((n - m) * (m / (n - m) + 1)) - (n - m) * (m / (n - m) + 1) = (n - m) * (m / (n - m) + 1) by omega]
      exact Nat.mul_mod_right _ _
def idxL : List St → St → Option Nat
  | [], _ => none
  | x :: xs, s => if x = s then some 0 else (idxL xs s).map (· + 1)
theorem idxL_some : ∀ {hs : List St} {s : St} {m : Nat}, idxL hs s = some m → hs[m]? = some s
  | [], s, m, h => by simp [idxL] at h
  | x :: xs, s, m, h => by
    rw [idxL] at h
    split at h
    · rename_i e
      simp only [Option.some.injEq] at h
      rw [← h, e]; rfl
    · cases hm : idxL xs s with
      | none => rw [hm] at h; simp at h
      | some k =>
        rw [hm] at h
        simp only [Option.map_some, Option.some.injEq] at h
        rw [← h, List.getElem?_cons_succ]
        exact idxL_some hm
theorem idxL_none : ∀ {hs : List St} {s : St}, idxL hs s = none → s ∉ hs
  | [], s, _ => by simp
  | x :: xs, s, h => by
    rw [idxL] at h
    split at h
    · cases h
    · rename_i e
      cases hm : idxL xs s with
      | none =>
        intro hx
        rcases List.mem_cons.1 hx with a | a
        · exact e a.symm
        · exact idxL_none hm a
      | some k => rw [hm] at h; simp at h
def perL (g : List (List Int)) : Nat → Nat → St → List St → Int × Int × Bool
  | 0, _, _, _ => (0, 0, false)
  | f + 1, n, s, hs => match idxL hs s with
    | some m => ((m : Int), (n : Int) - m, true)
    | none => match stepP g s with
      | none => (0, 0, false)
      | some s' => perL g f (n + 1) s' (hs ++ [s])
structure Hist (g : List (List Int)) (s0 : St) (n : Nat) (s : St) (hs : List St) : Prop where
  len : hs.length = n
  at_ : ∀ i, i < n → hs[i]? = sq g s0 i
  now : sq g s0 n = some s
  dis : ∀ i j, i < j → j < n → sq g s0 i ≠ sq g s0 j
theorem Hist.init (g : List (List Int)) (s0 : St) : Hist g s0 0 s0 [] := ⟨rfl, fun i h => by omega, rfl, fun i j _ h => by omega⟩
theorem Hist.next {g : List (List Int)} {s0 s s' : St} {n : Nat} {hs : List St} (H : Hist g s0 n s hs) (h : idxL hs s = none) (hs' : stepP g s = some s') : Hist g s0 (n + 1) s' (hs ++ [s]) := by
  refine ⟨by rw [List.length_append, H.len]; rfl, fun i hi => ?_, by rw [sq, H.now]; exact hs', fun i j h1 h2 => ?_⟩
  · by_cases e : i = n
    · subst e
      rw [List.getElem?_append_right (by rw [H.len]; exact Nat.le_refl _), H.len, Nat.sub_self, H.now]; rfl
    · rw [List.getElem?_append_left (by rw [H.len]; omega)]
      exact H.at_ i (by omega)
  · by_cases e : j = n
    · subst e
      intro he
      rw [H.now, ← H.at_ i h1] at he
      exact idxL_none h (List.mem_of_getElem? he)
    · exact H.dis i j h1 (by omega)
theorem perL_yes {g : List (List Int)} {s0 : St} {m k : Nat} (R : Rho g s0 m k) : ∀ (f n : Nat) (s : St) (hs : List St), Hist g s0 n s hs → n ≤ k → k < n + f → perL g f n s hs = ((m : Int), (k : Int) - m, true)
  | 0, n, s, hs, H, h1, h2 => by omega
  | f + 1, n, s, hs, H, h1, h2 => by
    rw [perL]
    cases hi : idxL hs s with
    | some i =>
      have h3 := idxL_some hi
      have hil : i < n := by
        refine Nat.not_le.1 fun hle => ?_
        rw [List.getElem?_eq_none (by rw [H.len]; exact hle)] at h3; cases h3
      rw [H.at_ i hil, ← H.now] at h3
      have R' : Rho g s0 i n := ⟨hil, h3, by rw [h3, H.now]; simp, H.dis⟩
      obtain ⟨a, b⟩ := R.uniq R'
      rw [a, b]
    | none =>
      cases hs' : stepP g s with
      | none =>
        exfalso
        have := R.all (n + 1)
        rw [sq, H.now] at this
        exact this hs'
      | some s' =>
        have hne : n ≠ k := by
          rintro rfl
          have h3 := R.eq
          rw [H.now, ← H.at_ m R.lt] at h3
          exact idxL_none hi (List.mem_of_getElem? h3)
        exact perL_yes R f (n + 1) s' _ (H.next hi hs') (by omega) (by omega)
theorem perL_no {g : List (List Int)} {s0 : St} : ∀ (f n : Nat) (s : St) (hs : List St), Hist g s0 n s hs → (∀ m k, Rho g s0 m k → n + f ≤ k) → perL g f n s hs = (0, 0, false)
  | 0, n, s, hs, H, h => rfl
  | f + 1, n, s, hs, H, h => by
    rw [perL]
    cases hi : idxL hs s with
    | some i =>
      have h3 := idxL_some hi
      have hil : i < n := by
        refine Nat.not_le.1 fun hle => ?_
        rw [List.getElem?_eq_none (by rw [H.len]; exact hle)] at h3; cases h3
      rw [H.at_ i hil, ← H.now] at h3
      have := h i n ⟨hil, h3, by rw [h3, H.now]; simp, H.dis⟩
      omega
    | none =>
      cases hs' : stepP g s with
      | none => rfl
      | some s' => exact perL_no f (n + 1) s' _ (H.next hi hs') fun m k R => by have := h m k R; omega
def perP (g : List (List Int)) (s : St) : Int × Int × Bool := perL g 2001 0 s []
theorem perP_yes {g : List (List Int)} {s : St} {m k : Nat} (R : Rho g s m k) (h : k ≤ 2000) : perP g s = ((m : Int), (k : Int) - m, true) := perL_yes R 2001 0 s [] (Hist.init g s) (Nat.zero_le _) (by omega)
theorem perP_no {g : List (List Int)} {s : St} (h : ∀ m k, Rho g s m k → 2000 < k) : perP g s = (0, 0, false) := perL_no 2001 0 s [] (Hist.init g s) fun m k R => by have := h m k R; omega

@[reducible] def tSs : TypeId := 79
theorem rSs : rowC Tryd.prog tSs = some (9, 1, 16, [VS (⟨#[]⟩ : ByteArray)]) := by kernel_rfl
theorem plainVS (xs : List ByteArray) : (xs.map VS).all plainV = true := by simp [List.all_eq_true, plainV]
@[reducible] def OwS (h : Heap) (F : Nat → Prop) (s : Sl) (xs : List ByteArray) : Prop := Ow h F 9 1 s (xs.map VS)
theorem mk_add (g o j : Nat) : (⟨g, o, none⟩ : Addr).add j = ⟨g, o + j, none⟩ := by
  unfold Addr.add
  by_cases h : j = 0 <;> simp [h]
theorem cell_hc (w : World) (a : Addr) : w.cell? a = hcell w.heap a := rfl
theorem ba_app (a b : List UInt8) : ((⟨a.toArray⟩ : ByteArray) ++ (⟨b.toArray⟩ : ByteArray)) = ⟨(a ++ b).toArray⟩ := by
  apply ByteArray.ext
  simp [ByteArray.data_append]
theorem ba_size (a : List UInt8) : (⟨a.toArray⟩ : ByteArray).size = a.length := by simp [ByteArray.size]
theorem dec_len {n : Nat} (h : n < 100) : (Lib.decDigits n).length ≤ 2 := by
  by_cases h1 : n < 10
  · rw [Lib.decDigits_one h1]; simp
  · rw [Lib.decDigits_two h1 h]; simp
theorem join_len : ∀ (xs : List (List UInt8)), (∀ x, x ∈ xs → x.length ≤ 2) → (Lib.join xs [44]).length ≤ 3 * xs.length
  | [], _ => by simp [Lib.join_nil]
  | x :: r, h => by
    rw [Lib.join_length]
    have : ∀ (l : List (List UInt8)), (∀ x, x ∈ l → x.length ≤ 2) → Lib.lens l ≤ 2 * l.length := by
      intro l
      induction l with
      | nil => intro _; simp [Lib.lens]
      | cons a l ih =>
        intro hl
        have h1 := ih fun y hy => hl y (List.mem_cons_of_mem _ hy)
        have h2 := hl a (List.mem_cons_self ..)
        simp only [Lib.lens, List.map_cons, List.sum_cons, List.length_cons] at h1 ⊢
        omega
    have := this _ h
    simp only [List.length_cons, List.length_nil] at this ⊢
    omega
def listL (rs : List Int) : List UInt8 := if rs.length = 0 then [45] else Lib.join (rs.map fun x => Lib.decDigits x.toNat) [44]
theorem listL_len {rs : List Int} (h : ∀ x, x ∈ rs → 0 ≤ x ∧ x < 100) : (listL rs).length ≤ 3 * rs.length + 1 := by
  unfold listL
  split
  · simp
  · have := join_len (rs.map fun x => Lib.decDigits x.toNat) fun y hy => by
      obtain ⟨x, hx, rfl⟩ := List.mem_map.1 hy
      exact dec_len (by have := h x hx; omega)
    rw [List.length_map] at this
    omega
theorem k_Itoa {h : Heap} {n : Int} (h0 : 0 ≤ n) (h1 : n < 100) (K : Value → Heap → Prop) (HK : K (VS ⟨(Lib.decDigits n.toNat).toArray⟩) h) : callM Tryd.prog 96 #[VI n] h K := by
  obtain ⟨i, rfl⟩ : ∃ i : Nat, n = (i : Int) := ⟨n.toNat, by omega⟩
  refine ⟨fun w hw => .inr ⟨96, _, w, Go.Proofs.enters_of Tryd.func96 (by kernel_rfl) rfl _ _, rfl, ?_⟩⟩
  subst hw
  refine (Tryd.strconv_Itoa_small i (by omega) w).mono ?_
  rintro e w' ⟨rfl, rfl⟩
  rw [Int.toNat_natCast] at HK
  exact ⟨_, rfl, Same.refl _, HK⟩
theorem k_Join {S : Nat → Prop} {h : Heap} {s : Sl} {ts : List ByteArray} {sep : ByteArray} (H : RdV S h 1 s (ts.map VS)) (hne : ts ≠ []) (hN : ts.length ≤ 1000000) (hl : (Lib.join (ts.map (·.data.toList)) sep.data.toList).length ≤ 1000000) (K : Value → Heap → Prop) (HK : ∀ h', Fr No h h' → K (VS ⟨(Lib.join (ts.map (·.data.toList)) sep.data.toList).toArray⟩) h') : callM Tryd.prog 59 #[s.v, VS sep] h K := by
  refine ⟨fun w hw => .inr ⟨59, _, w, Go.Proofs.enters_of Tryd.func59 (by kernel_rfl) rfl _ _, rfl, ?_⟩⟩
  subst hw
  have hlen := H.len
  simp only [List.length_map, Nat.mul_one] at hlen
  have hcap := H.cap
  have hpos : 0 < ts.length := List.length_pos_iff.2 hne
  obtain ⟨a, ha, _, hc⟩ := RdV.cell H 0 (by simpa using hpos)
  have hsp : a.spot = none := by
    cases hs : a.spot with
    | none => rfl
    | some sp => exfalso; unfold hcell at hc; simp [Addr.add, hs] at hc; split at hc <;> simp at hc
  obtain ⟨g, o, q⟩ := a
  simp only at hsp
  subst hsp
  have hv : s.v = .slice (some ⟨g, o, none⟩) ts.length s.c := by unfold Sl.v; rw [ha, hlen]
  rw [hv]
  refine (Tryd.strings_Join g o s.c ts sep w (fun j x hj => ?_) ?_ (by omega) (by omega) (by omega)).mono ?_
  · have hj2 : j < ts.length := (List.getElem?_eq_some_iff.1 hj).1
    obtain ⟨a', ha', _, hc'⟩ := RdV.cell H j (by simp; omega)
    rw [ha] at ha'
    cases ha'
    rw [mk_add] at hc'
    rw [cell_hc, hc']
    rw [List.getElem?_eq_getElem hj2] at hj
    simp only [Option.some.injEq] at hj
    simp [hj]
  · have := hcell_lt hc; rw [add_block] at this; exact this
  · rintro e w' ⟨rfl, hb⟩
    exact ⟨_, rfl, ⟨hb.os, hb.tape, hb.output⟩, HK _ ⟨hb.size, fun k hk _ => hb.block k hk⟩⟩
theorem eop_putS {L : List (Nat × List Value)} {F : Nat → Prop} {h : Heap} {o : Sl} {xs : List ByteArray} {x : ByteArray} (O : OwS h F o xs) (hF : ∀ k, h.size ≤ k → F k) (hL : Vars h L) (hoff : ∀ p, p ∈ L → ¬ F p.1) (hb : xs.length ≤ 1000000) (R : Sl → Heap → Prop) (HR : ∀ t h', OwS h' F t (xs ++ [x]) → Fr F h h' → Vars h' L → R t h') : eop Tryd.prog (Instr.buildSlice tSs 1 #[(0, VS x)]) h fun rv h1 => ∃ t : Sl, rv = t.v ∧ Vars h1 L ∧ eop Tryd.prog (appS tSs tSs tSs o.v t.v) h1 fun rv2 h2 => ∃ t2 : Sl, rv2 = t2.v ∧ Vars h2 L ∧ R t2 h2 := by
  refine eop_lit rSs (fun k => h.size ≤ k) (fun _ h => h) 1 (by omega) [VS x] rfl rfl fun t h1 n1 c1 o1 f1 m1 _ => ⟨t, rfl, hL.of_no f1, ?_⟩
  have z1 := f1.size
  have O1 : OwS h1 F o xs := Ow.no O f1
  have on := O1.rd.len
  have tn := o1.rd.len
  simp only [List.length_map, Nat.mul_one, List.length_cons, List.length_nil] at on tn
  refine eop_append rSs O1 (fun k hk => hF k (by omega)) o1.rd (plainVS [x]) (by omega) fun s' h2 n2 o2 f2 d2 => ?_
  have g2 : Fr F h1 h2 := f2.mono fun k _ hk => (O1.foot hk).1
  have V2 : Vars h2 L := (hL.of_no f1).fr g2 hoff
  exact ⟨s', rfl, V2, HR s' h2 (by rw [OwS, List.map_append]; exact o2) (f1.of_no.trans g2) V2⟩
theorem k_listText {S : Nat → Prop} {h : Heap} {s : Sl} {rs : List Int} (H : RdI S h s rs) (B : ∀ x, x ∈ rs → 0 ≤ x ∧ x < 100) (hn : rs.length ≤ 1000) (K : Value → Heap → Prop) (HK : ∀ h', Fr No h h' → K (VS ⟨(listL rs).toArray⟩) h') : callM Tryd.prog 58 #[s.v] h K := by
  have sn := RdI.len H
  refine v58 s h K ⟨fun e => ?_, fun e => ?_⟩
  · simp only [decide_eq_true_eq] at e
    have := HK h (Fr.refl _ _)
    unfold listL at this
    rw [if_pos (by omega)] at this
    exact this
  simp only [decide_eq_false_iff_not] at e
  refine eop_lit rSs (fun k => h.size ≤ k) (fun _ h => h) 0 (by omega) [] rfl rfl fun o h1 n1 c1 o1 f1 m1 _ => ⟨o, rfl, .nil, ?_⟩
  have z1 := f1.size
  have o1' : OwS h1 (fun k => h.size ≤ k) o [] := o1
  have no_ : ∀ {x : Heap}, Fr (fun k => h.size ≤ k) h x → Fr No h x := fun f => f.mono fun k hk hk2 => absurd hk2 (by omega)
  refine ⟨fun m x p h' => 0 ≤ p ∧ p + m = (rs.length : Int) ∧ OwS h' (fun k => h.size ≤ k) x ((rs.take p.toNat).map fun y => (⟨(Lib.decDigits y.toNat).toArray⟩ : ByteArray)) ∧ Fr (fun k => h.size ≤ k) h h', ⟨rs.length, by omega, by omega, by simpa using o1', f1.of_no⟩, ?_⟩
  rintro m x p h2 ⟨p0, p1, o2, f2⟩ hL2
  have z2 := f2.size
  have H2 := H.no (no_ f2)
  refine ⟨fun e2 => ?_, fun e2 => ?_⟩
  · have hp := H2.lt e2
    have bx := B _ (List.getElem_mem (show p.toNat < rs.length by omega))
    refine ⟨H2.inb p0 hp, _, H2.get p0 hp, k_Itoa bx.1 bx.2 _ ⟨_, rfl, .nil, ?_⟩⟩
    refine eop_putS o2 (fun k hk => by omega) .nil (fun q hq => by cases hq) (by simp; omega) _ fun t h5 o5 f5 _ => ?_
    rw [H2.succ p0 hp]
    refine ⟨m - 1, by omega, by omega, by omega, ?_, f2.trans f5⟩
    rw [show (p + 1).toNat = p.toNat + 1 by omega, List.take_add_one, List.getElem?_eq_getElem (show p.toNat < rs.length by omega)]
    rw [List.map_append]
    exact o5
  · have hp := H2.ge e2
    rw [List.take_of_length_le (by omega)] at o2
    have hm : ((rs.map fun y => (⟨(Lib.decDigits y.toNat).toArray⟩ : ByteArray)).map (·.data.toList)) = rs.map fun y => Lib.decDigits y.toNat := by simp
    have hjl := join_len (rs.map fun x => Lib.decDigits x.toNat) fun y hy => by
      obtain ⟨x, hx, rfl⟩ := List.mem_map.1 hy
      exact dec_len (by have := B x hx; omega)
    rw [List.length_map] at hjl
    refine k_Join o2.rdF (fun hh => by have := congrArg List.length hh; simp at this; simp [this] at sn; omega) (by simp; omega) (by rw [hm]; show (Lib.join _ [44]).length ≤ _; omega) _ fun h3 f3 => ⟨_, rfl, .nil, ?_⟩
    have := HK h3 ((no_ f2).trans f3)
    unfold listL at this
    rw [if_neg (by omega)] at this
    rw [hm]
    exact this

/-! A map from texts to whole numbers. -/
def MapAt (h : Heap) (b : Nat) (kvs : List (ByteArray × Int)) : Prop := ∃ (es : Array MapEntry) (clock : Nat), h[b]? = some (.map es clock) ∧ es.toList.map (fun e => (e.key, e.val)) = kvs.map fun q => (VS q.1, VI q.2)
theorem MapAt.lt {h : Heap} {b : Nat} {kvs : List (ByteArray × Int)} (M : MapAt h b kvs) : b < h.size := by
  obtain ⟨es, c, hb, _⟩ := M
  exact (Array.getElem?_eq_some_iff.1 hb).1
theorem MapAt.fr {h h' : Heap} {b : Nat} {kvs : List (ByteArray × Int)} {T : Nat → Prop} (M : MapAt h b kvs) (f : Fr T h h') (hT : ¬ T b) : MapAt h' b kvs := by
  have hl := M.lt
  obtain ⟨es, c, hb, e⟩ := M
  exact ⟨es, c, by rw [f.same b hl hT]; exact hb, e⟩
def findS (kvs : List (ByteArray × Int)) (k : ByteArray) : Option Int := match kvs with
  | [] => none
  | q :: r => if q.1 = k then some q.2 else findS r k
theorem eop_makeMap {t : TypeId} {h : Heap} {K : Value → Heap → Prop} (HK : ∀ h', MapAt h' h.size [] → Fr No h h' → h.size < h'.size → K (.map (some h.size)) h') : eop Tryd.prog (Instr.makeMap t none) h K := by
  refine ⟨fun w hw => ?_⟩
  subst hw
  refine ⟨_, _, run_makeMap_plain w t, ⟨rfl, rfl, rfl⟩, HK _ ⟨#[], 0, ?_, rfl⟩ (Fr.push w.heap _) ?_⟩
  · show (w.heap.push _)[w.heap.size]? = _
    simp
  · show w.heap.size < (w.heap.push _).size
    simp
theorem findNow_map {k : ByteArray} : ∀ (l : List MapEntry) (kvs : List (ByteArray × Int)) (i : Nat), l.map (fun e => (e.key, e.val)) = kvs.map (fun q => (VS q.1, VI q.2)) → ∃ r, Instr.findNow .string (VS k) l i = some r ∧ r.map (·.2) = (findS kvs k).map VI
  | [], [], i, _ => ⟨none, rfl, rfl⟩
  | [], q :: r, i, h => by simp at h
  | e :: l, [], i, h => by simp at h
  | e :: l, q :: r, i, h => by
    simp only [List.map_cons, List.cons.injEq, Prod.mk.injEq] at h
    obtain ⟨⟨h1, h2⟩, h3⟩ := h
    obtain ⟨x, hx, hy⟩ := findNow_map l r (i + 1) h3
    unfold Instr.findNow findS
    rw [h1]
    by_cases hq : q.1 = k
    · have : Instr.sameNow .string (VS k) (VS q.1) = some true := by
        show some (k == q.1) = some true
        rw [hq, (MapKept.bytes_beq k k).2 rfl]
      rw [this, if_pos hq]
      exact ⟨some (i, e.val), rfl, by simp [h2]⟩
    · have : Instr.sameNow .string (VS k) (VS q.1) = some false := by
        show some (k == q.1) = some false
        have : (k == q.1) = false := by
          cases hb : (k == q.1) with
          | false => rfl
          | true => exact absurd ((MapKept.bytes_beq k q.1).1 hb).symm hq
        rw [this]
      rw [this, if_neg hq]
      exact ⟨x, hx, hy⟩
theorem rop_lookup {t kt et : TypeId} {h : Heap} {b : Nat} {kvs : List (ByteArray × Int)} {k : ByteArray} (hm : Tryd.prog.underlying t = some (.map kt et)) (hk : Tryd.prog.underlying kt = some .string) (hz : zeroC Tryd.prog et = some (VI 0)) (M : MapAt h b kvs) {K : Value → Prop} (HK : K (.tuple #[VI ((findS kvs k).getD 0), VB (findS kvs k).isSome])) : rop Tryd.prog (Instr.lookup t (.map (some b)) (VS k) true) h K := by
  obtain ⟨es, c, hb, e⟩ := M
  obtain ⟨r, hr, hv⟩ := findNow_map (k := k) es.toList kvs 0 e
  refine ⟨_, fun w hw => ?_, HK⟩
  subst hw
  have hc : (Instr.checkKey es.isEmpty 10000 kt (VS k)).run Tryd.prog w = .ok () w := MapKept.run_checkKey (k := .string k) hk (by simp [MapKept.IsKey]) es.isEmpty 9999
  have hf := MapKept.run_findKey (w := w) hk hr
  have hzr : (zeroValue et).run Tryd.prog w = .ok (VI 0) w := by
    unfold zeroC at hz
    cases hi : Tryd.prog.info? et with
    | none => rw [hi] at hz; simp at hz
    | some i =>
      rw [hi] at hz
      simp only [Option.bind_some] at hz
      unfold zeroValue
      rw [run_bind_ok (run_typeInfo' hi w)]
      simp [hz, pure, Sem.run]
  unfold Instr.lookup
  simp only [Sem.run_bind, run_underlying hm, Result.andThen, MapKept.run_getObj_map hb, hc, hf]
  cases r with
  | none =>
    cases hs : findS kvs k with
    | none => simp [hc, hf, Sem.run, pure, hzr, Result.andThen]
    | some x => rw [hs] at hv; simp at hv
  | some p =>
    cases hs : findS kvs k with
    | none => rw [hs] at hv; simp at hv
    | some x =>
      rw [hs] at hv
      simp only [Option.map_some, Option.some.injEq] at hv
      simp [hc, hf, Sem.run, pure, Result.andThen, hv]
theorem uop_mapUpdate {t kt et : TypeId} {h : Heap} {b : Nat} {kvs : List (ByteArray × Int)} {k : ByteArray} {x : Int} (hm : Tryd.prog.underlying t = some (.map kt et)) (hk : Tryd.prog.underlying kt = some .string) (M : MapAt h b kvs) (hn : findS kvs k = none) {K : Value → Heap → Prop} (HK : ∀ v h', MapAt h' b (kvs ++ [(k, x)]) → Fr (In [b]) h h' → K v h') : uop Tryd.prog (Instr.mapUpdate t (.map (some b)) (VS k) (VI x)) h K := by
  have hl := M.lt
  obtain ⟨es, c, hb, e⟩ := M
  obtain ⟨r, hr, hv⟩ := findNow_map (k := k) es.toList kvs 0 e
  rw [hn] at hv
  have hr0 : r = none := by cases r with
    | none => rfl
    | some p => simp at hv
  subst hr0
  refine ⟨fun w hw => ?_⟩
  subst hw
  have hc : (Instr.checkKey false 10000 kt (VS k)).run Tryd.prog w = .ok () w := MapKept.run_checkKey (k := .string k) hk (by simp [MapKept.IsKey]) false 9999
  have hf := MapKept.run_findKey (w := w) hk hr
  refine ⟨{ w with heap := w.heap.setIfInBounds b (.map (es.push { key := VS k, val := VI x, born := c }) (c + 1)) }, ?_, ⟨rfl, rfl, rfl⟩, HK _ _ ⟨es.push { key := VS k, val := VI x, born := c }, c + 1, ?_, ?_⟩ ⟨by simp, fun j hj hne => ?_⟩⟩
  · unfold Instr.mapUpdate
    simp only [Sem.run_bind, run_underlying hm, Result.andThen, MapKept.run_getObj_map hb, hc, hf, MapKept.run_setObj_map _ hb]
  · simp only
    rw [Array.getElem?_setIfInBounds, if_pos rfl, if_pos hl]
  · rw [Array.toList_push, List.map_append, List.map_append, e]
    rfl
  · simp only
    rw [Array.getElem?_setIfInBounds, if_neg (fun hh => hne (by simp [In, hh]))]

def walkL (s : St) : List UInt8 := Lib.decDigits s.2.toNat ++ [58] ++ listL s.1
def keyS (s : St) : ByteArray := ⟨(walkL s).toArray⟩
theorem dec_inj {a b : Int} (a0 : 0 ≤ a) (a1 : a < 10) (b0 : 0 ≤ b) (b1 : b < 10) {x y : List UInt8} (h : Lib.decDigits a.toNat ++ x = Lib.decDigits b.toNat ++ y) : a = b ∧ x = y := by
  rw [Lib.decDigits_one (show a.toNat < 10 by omega), Lib.decDigits_one (show b.toNat < 10 by omega)] at h
  simp only [List.cons_append, List.nil_append, List.cons.injEq] at h
  obtain ⟨h1, h2⟩ := h
  have h3 := congrArg UInt8.toNat h1
  simp only [UInt8.toNat_ofNat'] at h3
  exact ⟨by omega, h2⟩
theorem tail_inj : ∀ (us vs : List Int), us.length = vs.length → (∀ x, x ∈ us → 0 ≤ x ∧ x < 10) → (∀ x, x ∈ vs → 0 ≤ x ∧ x < 10) → Lib.joinTail [44] (us.map fun x => Lib.decDigits x.toNat) = Lib.joinTail [44] (vs.map fun x => Lib.decDigits x.toNat) → us = vs
  | [], [], _, _, _, _ => rfl
  | [], _ :: _, h, _, _, _ => by simp at h
  | _ :: _, [], h, _, _, _ => by simp at h
  | a :: us, b :: vs, hl, ha, hb, h => by
    simp only [Lib.joinTail, List.map_cons, List.flatten_cons, List.append_assoc, List.cons_append, List.nil_append, List.cons.injEq, true_and] at h
    have A := ha a (List.mem_cons_self ..)
    have B := hb b (List.mem_cons_self ..)
    obtain ⟨e1, e2⟩ := dec_inj A.1 A.2 B.1 B.2 h
    rw [e1, tail_inj us vs (by simpa using hl) (fun x hx => ha x (List.mem_cons_of_mem _ hx)) (fun x hx => hb x (List.mem_cons_of_mem _ hx)) e2]
theorem list_inj {us vs : List Int} (hl : us.length = vs.length) (ha : ∀ x, x ∈ us → 0 ≤ x ∧ x < 10) (hb : ∀ x, x ∈ vs → 0 ≤ x ∧ x < 10) (h : listL us = listL vs) : us = vs := by
  match us, vs, hl, ha, hb, h with
  | [], [], _, _, _, _ => rfl
  | [], _ :: _, hl, _, _, _ => simp at hl
  | _ :: _, [], hl, _, _, _ => simp at hl
  | a :: us, b :: vs, hl, ha, hb, h =>
    unfold listL at h
    rw [if_neg (by simp), if_neg (by simp)] at h
    simp only [List.map_cons] at h
    rw [Lib.join_cons, Lib.join_cons] at h
    have A := ha a (List.mem_cons_self ..)
    have B := hb b (List.mem_cons_self ..)
    obtain ⟨e1, e2⟩ := dec_inj A.1 A.2 B.1 B.2 h
    rw [e1, tail_inj us vs (by simpa using hl) (fun x hx => ha x (List.mem_cons_of_mem _ hx)) (fun x hx => hb x (List.mem_cons_of_mem _ hx)) e2]
theorem wok_small {g : List (List Int)} {s : St} (W : WOK g s) : (∀ x, x ∈ s.1 → 0 ≤ x ∧ x < 10) ∧ 0 ≤ s.2 ∧ s.2 < 10 ∧ s.1.length ≤ 8 := by
  have hg := graph_len W.graph
  have hl := W.len
  have h0 := W.lo
  have h1 := W.hi
  refine ⟨fun x hx => ?_, h0, by omega, by omega⟩
  obtain ⟨i, hi, rfl⟩ := List.getElem_of_mem hx
  have := W.rot i hi (by omega)
  have hm := (graph_mem W.graph (List.getElem_mem (show i < g.length by omega))).1
  omega
theorem key_inj {g : List (List Int)} {s t : St} (W : WOK g s) (W' : WOK g t) (h : keyS s = keyS t) : s = t := by
  obtain ⟨a1, a2, a3, _⟩ := wok_small W
  obtain ⟨b1, b2, b3, _⟩ := wok_small W'
  have h : walkL s = walkL t := by
    have := congrArg (fun x => x.data.toList) h
    simpa [keyS] using this
  unfold walkL at h
  rw [List.append_assoc, List.append_assoc] at h
  obtain ⟨e1, e2⟩ := dec_inj a2 a3 b2 b3 h
  simp only [List.cons_append, List.nil_append, List.cons.injEq, true_and] at e2
  exact Prod.ext (list_inj (by rw [W.len, W'.len]) a1 b1 e2) e1
def kvL (hs : List St) : List (ByteArray × Int) := hs.zipIdx.map fun q => (keyS q.1, (q.2 : Int))
theorem kvL_snoc (hs : List St) (s : St) : kvL (hs ++ [s]) = kvL hs ++ [(keyS s, (hs.length : Int))] := by
  unfold kvL
  rw [List.zipIdx_append, List.map_append]
  simp
theorem kv_find {g : List (List Int)} {s : St} (W : WOK g s) : ∀ (hs : List St) (k : Nat), (∀ t, t ∈ hs → WOK g t) → findS ((hs.zipIdx k).map fun q => (keyS q.1, (q.2 : Int))) (keyS s) = (idxL hs s).map fun m => ((m + k : Nat) : Int)
  | [], k, _ => rfl
  | t :: hs, k, h => by
    rw [List.zipIdx_cons, List.map_cons, findS, idxL]
    by_cases e : t = s
    · rw [if_pos (by rw [e]), if_pos e]; simp
    · rw [if_neg fun hh => e (key_inj (h t (List.mem_cons_self ..)) W hh), if_neg e, kv_find W hs (k + 1) fun t ht => h t (List.mem_cons_of_mem _ ht)]
      cases idxL hs s with
      | none => rfl
      | some m => simp only [Option.map_some, Option.some.injEq]; omega
theorem kvL_find {g : List (List Int)} {s : St} (W : WOK g s) (hs : List St) (h : ∀ t, t ∈ hs → WOK g t) : findS (kvL hs) (keyS s) = (idxL hs s).map fun m => ((m : Nat) : Int) := kv_find W hs 0 h

theorem k_walkText {S : Nat → Prop} {h : Heap} {w : Sl} {rs : List Int} {p : Int} (H : RdI S h w rs) (B : ∀ x, x ∈ rs → 0 ≤ x ∧ x < 100) (hn : rs.length ≤ 1000) (p0 : 0 ≤ p) (p1 : p < 100) (K : Value → Heap → Prop) (HK : ∀ h', Fr No h h' → K (VS (keyS (rs, p))) h') : callM Tryd.prog 82 #[.agg #[w.v, VI p]] h K := by
  refine v82 w p h K fun b1 h1 hb1 f1 hL1 => ?_
  have f1 := f1.in_nil
  have d1 := dec_len (show p.toNat < 100 by omega)
  have l1 := listL_len B
  refine k_Itoa p0 p1 _ ⟨_, rfl, hL1, ?_, ?_⟩
  · rw [ba_size]; show _ + 1 ≤ _; omega
  refine k_listText (H.no f1) B hn _ fun h3 f3 => ⟨_, rfl, hL1.of_no f3, ?_, ?_⟩
  · rw [show (⟨#[58]⟩ : ByteArray) = ⟨[58].toArray⟩ from rfl, ba_app, ba_size, ba_size, List.length_append]
    show _ + 1 + _ ≤ _
    omega
  · rw [show (⟨#[58]⟩ : ByteArray) = ⟨[58].toArray⟩ from rfl, ba_app, ba_app]
    exact HK h3 (f1.trans f3)

theorem k_period {S S' : Nat → Prop} {h : Heap} {g w : Sl} {xss : List (List Int)} {rs : List Int} {p : Int} (G : RdR S h g xss) (H : RdI S' h w rs) (W : WOK xss (rs, p)) (K : Value → Heap → Prop) (HK : ∀ h', Fr No h h' → K (.tuple #[VI (perP xss (rs, p)).1, VI (perP xss (rs, p)).2.1, VB (perP xss (rs, p)).2.2]) h') : callM Tryd.prog 66 #[.agg #[g.v], .agg #[w.v, VI p]] h K := by
  have hm : Tryd.prog.underlying 118 = some (.map 9 3) := by kernel_rfl
  have hk : Tryd.prog.underlying 9 = some .string := by kernel_rfl
  have hz : zeroC Tryd.prog 3 = some (VI 0) := by kernel_rfl
  have wl := W.len
  have ws := wok_small W
  have ws4 : rs.length ≤ 8 := ws.2.2.2
  refine v66 g w p h K fun b1 b2 h2 hb1 hb2 f2 hL2 => ?_
  have f2 := f2.in_nil
  have z2 := f2.size
  have l2 : b2 < h2.size := hL2.head.lt
  have l1 : b1 < h2.size := hL2.tail.head.lt
  refine eop_makeMap fun h3 M3 f3 s3 => ⟨_, rfl, hL2.of_no f3, ?_⟩
  have f03 := f2.trans f3
  refine k_copiedW (H.no f03) p (by omega) _ fun u h4 o4 f4 => ⟨u, p, rfl, (hL2.of_no f3).of_no f4, fun b3 h6 hb3 f6 hL6 => ?_⟩
  have f6 := f6.in_nil
  have z4 := f4.size
  have z6 := f6.size
  have l3 : b3 < h6.size := hL6.head.lt
  have f36 := f4.trans f6
  generalize hF : (fun k => Iv h3.size h4.size k ∨ k = b3) = F
  have F1 : ∀ k, F k → h2.size < k := fun k hk => by rw [← hF] at hk; rcases hk with hk | hk; exact Nat.lt_of_lt_of_le s3 hk.1; omega
  have F2 : ∀ k, Iv h3.size h4.size k → F k := fun k hk => by rw [← hF]; exact .inl hk
  have F3 : F b3 := by rw [← hF]; exact .inr rfl
  have o6 : OwI h6 F u rs := (Ow.no o4 f6).mono fun k _ hk => F2 k hk
  have hub : ¬ u.own b3 := fun hk => by have := (o4.foot hk).2; omega
  have no_ : ∀ {x : Heap}, Fr (fun k => h2.size ≤ k) h x → Fr No h x := fun f => f.mono fun k hk hk2 => absurd hk2 (by omega)
  have G0 : RdR (fun k => S k ∧ k < h.size) h g xss := G.lowS
  refine ⟨fun x q h' => perP xss (rs, p) = (0, 0, false) ∧ Fr (fun k => h2.size ≤ k) h h', ⟨fun n i x q h' => ∃ (hs : List St) (s : St), i = (hs.length : Int) ∧ n + hs.length = 2001 ∧ q = s.2 ∧ OwI h' F x s.1 ∧ ¬ x.own b3 ∧ MapAt h' h2.size (kvL hs) ∧ (∀ t, t ∈ hs → WOK xss t) ∧ WOK xss s ∧ perP xss (rs, p) = perL xss n hs.length s hs ∧ Fr (fun k => h2.size ≤ k) h h', ⟨2001, [], (rs, p), rfl, rfl, rfl, o6, hub, M3.fr f36 (fun h => h), fun t ht => (by cases ht), W, rfl, (f03.trans f36).of_no⟩, ?_⟩, ?_⟩
  · rintro n i x q h7 ⟨hs, s, rfl, en, rfl, o7, hx, M7, Wh, Ws, eP, f7⟩ hL7
    have ss := wok_small Ws
    refine ⟨fun e => ?_, fun e => ?_⟩
    · simp only [decide_eq_true_eq] at e
      obtain ⟨n, rfl⟩ : ∃ n', n = n' + 1 := ⟨n - 1, by omega⟩
      rw [perL] at eP
      refine k_walkText (show RdI _ h7 x s.1 from o7.rdF) (fun y hy => by have := ss.1 y hy; omega) (by omega) ss.2.1 (by omega) _ fun h8 f8 => ⟨_, rfl, hL7.of_no f8, ?_⟩
      have M8 := M7.fr f8 (fun h => h)
      refine rop_lookup hm hk hz M8 ⟨_, _, rfl, fun e2 => ?_, fun e2 => ?_⟩
      · rw [kvL_find Ws hs Wh] at e2 ⊢
        cases hi : idxL hs s with
        | none => rw [hi] at e2; cases e2
        | some m =>
          rw [hi] at eP
          simp only at eP
          have hml := (List.getElem?_eq_some_iff.1 (idxL_some hi)).1
          simp only [Option.map_some, Option.getD_some]
          rw [w64_eq _ (by omega) (by omega)]
          have := HK h8 ((no_ f7).trans f8)
          rw [eP] at this
          exact this
      · rw [kvL_find Ws hs Wh] at e2
        cases hi : idxL hs s with
        | some m => rw [hi] at e2; cases e2
        | none =>
          rw [hi] at eP
          simp only at eP
          refine uop_mapUpdate hm hk M8 (by rw [kvL_find Ws hs Wh, hi]; rfl) fun v h9 M9 f9 => ⟨?_, ?_⟩
          · exact (hL7.of_no f8).fr f9 fun q hq hk => by
              simp only [List.mem_cons, List.not_mem_nil, or_false] at hq
              simp only [In, List.mem_cons, List.not_mem_nil, or_false] at hk
              rcases hq with rfl | rfl | rfl <;> simp only at hk <;> omega
          have hL9 : Vars h9 [(b3, [x.v, VI s.2]), (b2, [w.v, VI p]), (b1, [g.v])] := (hL7.of_no f8).fr f9 fun q hq hk => by
              simp only [List.mem_cons, List.not_mem_nil, or_false] at hq
              simp only [In, List.mem_cons, List.not_mem_nil, or_false] at hk
              rcases hq with rfl | rfl | rfl <;> simp only at hk <;> omega
          have f79 : Fr (fun k => h2.size ≤ k) h7 h9 := f8.of_no.trans (f9.mono fun k _ hk => by simp [In] at hk; omega)
          have o9 : OwI h9 F x s.1 := Ow.fr (Ow.no o7 f8) f9 fun k hk hk2 => by have := F1 _ (o7.foot hk).1; simp [In] at hk2; omega
          have f09 := f7.trans f79
          have M9' : MapAt h9 h2.size (kvL (hs ++ [s])) := by rw [kvL_snoc]; exact M9
          have G9 : RdR (fun k => S k ∧ k < h.size) h9 g xss := G0.fr f09 fun k hk hk2 => by omega
          refine k_stepF (s := s) G9 hL9.head o9 (fun k hk hk2 => by have := F1 _ hk2; omega) F3 hx Ws _ (fun hn h10 f10 => ⟨x, s.2, false, rfl, hL9.of_no f10, fun _ => ?_, fun e => by cases e⟩) (fun s' hs' h10 o10 V10 f10 => ⟨x, s'.2, true, rfl, ?_, fun e => (by cases e), fun _ => ?_⟩)
          · rw [hn] at eP
            exact ⟨eP, f09.trans f10.of_no⟩
          · exact .cons V10 (hL9.ne) (hL9.tail.fr f10 fun q hq hk => by
              simp only [List.mem_cons, List.not_mem_nil, or_false] at hq
              have := F1 _ hk
              rcases hq with rfl | rfl <;> simp only at this <;> omega)
          · rw [hs'] at eP
            simp only at eP
            refine ⟨n, by omega, hs ++ [s], s', ?_, by simp; omega, rfl, o10, hx, M9'.fr f10 fun hk => by have := F1 _ hk; omega, fun t ht => ?_, Ws.step hs', by rw [eP]; simp, f09.trans (f10.mono fun k _ hk => by have := F1 _ hk; omega)⟩
            · rw [w64_eq _ (by omega) (by omega)]; simp
            · rcases List.mem_append.1 ht with ht | ht
              · exact Wh t ht
              · simp only [List.mem_cons, List.not_mem_nil, or_false] at ht
                rw [ht]; exact Ws
    · simp only [decide_eq_false_iff_not] at e
      have : n = 0 := by omega
      subst this
      exact ⟨eP, f7⟩
  · rintro x q h11 ⟨eP, f11⟩ hL11
    have := HK h11 (no_ f11)
    rw [eP] at this
    exact this

def w63_1 (P : Program) (h_17 : Heap) (b_3 : Nat) (t42_1 : Sl) (t42_2 : Int) (b_10 : Nat) (t36_1 : Sl) (t36_2 : Int) (b_5 : Nat) (x_5 : Sl) (x_6 : Int) (b_4 : Nat) (x_7 : Sl) (x_8 : Int) (w1_1 : Sl) (w1_2 : Int) (b_2 : Nat) (b_1 : Nat) (g0_1 : Sl) (K : Value → Heap → Prop) : Prop :=
  ∀ (b_11 : Nat) (h_28 : Heap), h_17.size ≤ b_11 → Fr (In [b_3]) h_17 h_28 → Vars h_28 [(b_11, [(Sl.v t42_1), (VI t42_2)]), (b_10, [(Sl.v t36_1), (VI t36_2)]), (b_5, [(Sl.v x_5), (VI x_6)]), (b_4, [(Sl.v x_7), (VI x_8)]), (b_3, [(Sl.v w1_1), (VI w1_2)]), (b_2, [(Sl.v w1_1), (VI w1_2)]), (b_1, [(Sl.v g0_1)])] →
  K (Value.tuple #[(VI 0), (Value.agg #[(Sl.v w1_1), (VI w1_2)]), (VI 0)]) h_28
def w63_3 (P : Program) (start21_1 : Int) (t71_1 : Int) (b_3 : Nat) (h_44 : Heap) (b_14 : Nat) (x_15 : Sl) (x_16 : Int) (b_13 : Nat) (x_17 : Sl) (x_18 : Int) (b_5 : Nat) (x_5 : Sl) (x_6 : Int) (b_4 : Nat) (x_7 : Sl) (x_8 : Int) (w1_1 : Sl) (w1_2 : Int) (b_2 : Nat) (b_1 : Nat) (g0_1 : Sl) (K : Value → Heap → Prop) : Prop :=
  ((decide (2000 < (w64 (start21_1 + t71_1)))) = true →
  ∀ (h_49 : Heap), Fr (In [b_3]) h_44 h_49 → Vars h_49 [(b_14, [(Sl.v x_15), (VI x_16)]), (b_13, [(Sl.v x_17), (VI x_18)]), (b_5, [(Sl.v x_5), (VI x_6)]), (b_4, [(Sl.v x_7), (VI x_8)]), (b_3, [(Sl.v w1_1), (VI w1_2)]), (b_2, [(Sl.v w1_1), (VI w1_2)]), (b_1, [(Sl.v g0_1)])] →
  K (Value.tuple #[(VI 0), (Value.agg #[(Sl.v w1_1), (VI w1_2)]), (VI 0)]) h_49) ∧
  ((decide (2000 < (w64 (start21_1 + t71_1)))) = false →
  ∀ (h_50 : Heap), Fr (In [b_3]) h_44 h_50 → Vars h_50 [(b_14, [(Sl.v x_15), (VI x_16)]), (b_13, [(Sl.v x_17), (VI x_18)]), (b_5, [(Sl.v x_5), (VI x_6)]), (b_4, [(Sl.v x_7), (VI x_8)]), (b_3, [(Sl.v x_17), (VI x_18)]), (b_2, [(Sl.v w1_1), (VI w1_2)]), (b_1, [(Sl.v g0_1)])] →
  K (Value.tuple #[(VI start21_1), (Value.agg #[(Sl.v x_17), (VI x_18)]), (VI t71_1)]) h_50)
def w63_2 (P : Program) (met9_1 : Bool) (g0_1 : Sl) (x_7 : Sl) (x_8 : Int) (h_13 : Heap) (b_5 : Nat) (x_5 : Sl) (x_6 : Int) (b_4 : Nat) (b_3 : Nat) (b_2 : Nat) (w1_1 : Sl) (w1_2 : Int) (b_1 : Nat) (K : Value → Heap → Prop) : Prop :=
  ((!met9_1) = false →
  callM P 102 #[(Value.agg #[(Sl.v g0_1)]), (Value.agg #[(Sl.v x_7), (VI x_8)]), (VI 2000)] h_13 fun rv_5 h_29 => ∃ t71_1 : Int, rv_5 = (VI t71_1) ∧ Vars h_29 [(b_5, [(Sl.v x_5), (VI x_6)]), (b_4, [(Sl.v x_7), (VI x_8)]), (b_3, [(Sl.v nilSl), (VI 0)]), (b_2, [(Sl.v w1_1), (VI w1_2)]), (b_1, [(Sl.v g0_1)])] ∧
  ((decide (t71_1 = 0)) = true →
  ∀ (h_30 : Heap), Fr (In [b_3]) h_29 h_30 → Vars h_30 [(b_5, [(Sl.v x_5), (VI x_6)]), (b_4, [(Sl.v x_7), (VI x_8)]), (b_3, [(Sl.v w1_1), (VI w1_2)]), (b_2, [(Sl.v w1_1), (VI w1_2)]), (b_1, [(Sl.v g0_1)])] →
  K (Value.tuple #[(VI 0), (Value.agg #[(Sl.v w1_1), (VI w1_2)]), (VI 0)]) h_30) ∧
  ((decide (t71_1 = 0)) = false →
  ∃ J_3 : Nat → Sl → Int → Nat → Sl → Int → Heap → Prop, ((∀ (b_15 : Nat) (h_31 : Heap), h_29.size ≤ b_15 → Fr (In []) h_29 h_31 → Vars h_31 [(b_15, [(Sl.v nilSl), (VI 0)]), (b_5, [(Sl.v x_5), (VI x_6)]), (b_4, [(Sl.v x_7), (VI x_8)]), (b_3, [(Sl.v nilSl), (VI 0)]), (b_2, [(Sl.v w1_1), (VI w1_2)]), (b_1, [(Sl.v g0_1)])] →
  ∀ (b_16 : Nat) (h_32 : Heap), h_31.size ≤ b_16 → Fr (In []) h_31 h_32 → Vars h_32 [(b_16, [(Sl.v nilSl), (VI 0)]), (b_15, [(Sl.v nilSl), (VI 0)]), (b_5, [(Sl.v x_5), (VI x_6)]), (b_4, [(Sl.v x_7), (VI x_8)]), (b_3, [(Sl.v nilSl), (VI 0)]), (b_2, [(Sl.v w1_1), (VI w1_2)]), (b_1, [(Sl.v g0_1)])] →
  ∀ (h_33 : Heap), Fr (In [b_15]) h_32 h_33 → Vars h_33 [(b_16, [(Sl.v nilSl), (VI 0)]), (b_15, [(Sl.v w1_1), (VI w1_2)]), (b_5, [(Sl.v x_5), (VI x_6)]), (b_4, [(Sl.v x_7), (VI x_8)]), (b_3, [(Sl.v nilSl), (VI 0)]), (b_2, [(Sl.v w1_1), (VI w1_2)]), (b_1, [(Sl.v g0_1)])] →
  ∀ (h_34 : Heap), Fr (In [b_16]) h_33 h_34 → Vars h_34 [(b_16, [(Sl.v w1_1), (VI w1_2)]), (b_15, [(Sl.v w1_1), (VI w1_2)]), (b_5, [(Sl.v x_5), (VI x_6)]), (b_4, [(Sl.v x_7), (VI x_8)]), (b_3, [(Sl.v nilSl), (VI 0)]), (b_2, [(Sl.v w1_1), (VI w1_2)]), (b_1, [(Sl.v g0_1)])] →
  J_3 b_15 w1_1 w1_2 b_16 w1_1 w1_2 h_34) ∧
  (∀ (b_17 : Nat) (h_35 : Heap), h_29.size ≤ b_17 → Fr (In []) h_29 h_35 → Vars h_35 [(b_17, [(Sl.v nilSl), (VI 0)]), (b_5, [(Sl.v x_5), (VI x_6)]), (b_4, [(Sl.v x_7), (VI x_8)]), (b_3, [(Sl.v nilSl), (VI 0)]), (b_2, [(Sl.v w1_1), (VI w1_2)]), (b_1, [(Sl.v g0_1)])] →
  ∀ (b_18 : Nat) (h_36 : Heap), h_35.size ≤ b_18 → Fr (In []) h_35 h_36 → Vars h_36 [(b_18, [(Sl.v nilSl), (VI 0)]), (b_17, [(Sl.v nilSl), (VI 0)]), (b_5, [(Sl.v x_5), (VI x_6)]), (b_4, [(Sl.v x_7), (VI x_8)]), (b_3, [(Sl.v nilSl), (VI 0)]), (b_2, [(Sl.v w1_1), (VI w1_2)]), (b_1, [(Sl.v g0_1)])] →
  ∀ (h_37 : Heap), Fr (In [b_18]) h_36 h_37 → Vars h_37 [(b_18, [(Sl.v w1_1), (VI w1_2)]), (b_17, [(Sl.v nilSl), (VI 0)]), (b_5, [(Sl.v x_5), (VI x_6)]), (b_4, [(Sl.v x_7), (VI x_8)]), (b_3, [(Sl.v nilSl), (VI 0)]), (b_2, [(Sl.v w1_1), (VI w1_2)]), (b_1, [(Sl.v g0_1)])] →
  ∀ (h_38 : Heap), Fr (In [b_17]) h_37 h_38 → Vars h_38 [(b_18, [(Sl.v w1_1), (VI w1_2)]), (b_17, [(Sl.v w1_1), (VI w1_2)]), (b_5, [(Sl.v x_5), (VI x_6)]), (b_4, [(Sl.v x_7), (VI x_8)]), (b_3, [(Sl.v nilSl), (VI 0)]), (b_2, [(Sl.v w1_1), (VI w1_2)]), (b_1, [(Sl.v g0_1)])] →
  J_3 b_18 w1_1 w1_2 b_17 w1_1 w1_2 h_38)) ∧
  ∀ (b_13 : Nat) (x_9 : Sl) (x_10 : Int) (b_14 : Nat) (x_11 : Sl) (x_12 : Int) (h_39 : Heap), J_3 b_13 x_9 x_10 b_14 x_11 x_12 h_39 → Vars h_39 [(b_14, [(Sl.v x_11), (VI x_12)]), (b_13, [(Sl.v x_9), (VI x_10)]), (b_5, [(Sl.v x_5), (VI x_6)]), (b_4, [(Sl.v x_7), (VI x_8)]), (b_3, [(Sl.v nilSl), (VI 0)]), (b_2, [(Sl.v w1_1), (VI w1_2)]), (b_1, [(Sl.v g0_1)])] →
  ∃ J_4 : Nat → Int → Sl → Int → Heap → Prop, (∃ n0 : Nat, J_4 n0 0 x_11 x_12 h_39) ∧
  ∀ (n_2 : Nat) (n20_1 : Int) (x_13 : Sl) (x_14 : Int) (h_40 : Heap), J_4 n_2 n20_1 x_13 x_14 h_40 → Vars h_40 [(b_14, [(Sl.v x_13), (VI x_14)]), (b_13, [(Sl.v x_9), (VI x_10)]), (b_5, [(Sl.v x_5), (VI x_6)]), (b_4, [(Sl.v x_7), (VI x_8)]), (b_3, [(Sl.v nilSl), (VI 0)]), (b_2, [(Sl.v w1_1), (VI w1_2)]), (b_1, [(Sl.v g0_1)])] →
  ((decide (n20_1 < t71_1)) = true →
  callM P 80 #[(Value.agg #[(Sl.v g0_1)]), (Value.agg #[(Sl.v x_13), (VI x_14)])] h_40 fun rv_6 h_41 => ∃ t85_1 : Sl, ∃ t85_2 : Int, ∃ t85_3 : Bool, rv_6 = (Value.tuple #[(Value.agg #[(Sl.v t85_1), (VI t85_2)]), (VB t85_3)]) ∧ Vars h_41 [(b_14, [(Sl.v x_13), (VI x_14)]), (b_13, [(Sl.v x_9), (VI x_10)]), (b_5, [(Sl.v x_5), (VI x_6)]), (b_4, [(Sl.v x_7), (VI x_8)]), (b_3, [(Sl.v nilSl), (VI 0)]), (b_2, [(Sl.v w1_1), (VI w1_2)]), (b_1, [(Sl.v g0_1)])] ∧
  ∀ (h_42 : Heap), Fr (In [b_14]) h_41 h_42 → Vars h_42 [(b_14, [(Sl.v t85_1), (VI t85_2)]), (b_13, [(Sl.v x_9), (VI x_10)]), (b_5, [(Sl.v x_5), (VI x_6)]), (b_4, [(Sl.v x_7), (VI x_8)]), (b_3, [(Sl.v nilSl), (VI 0)]), (b_2, [(Sl.v w1_1), (VI w1_2)]), (b_1, [(Sl.v g0_1)])] →
  ∃ m : Nat, m < n_2 ∧ J_4 m (w64 (n20_1 + 1)) t85_1 t85_2 h_42) ∧
  ((decide (n20_1 < t71_1)) = false →
  ∃ J_5 : Nat → Int → Sl → Int → Sl → Int → Heap → Prop, (∃ n0 : Nat, J_5 n0 0 x_13 x_14 x_9 x_10 h_40) ∧
  ∀ (n_3 : Nat) (start21_1 : Int) (x_15 : Sl) (x_16 : Int) (x_17 : Sl) (x_18 : Int) (h_43 : Heap), J_5 n_3 start21_1 x_15 x_16 x_17 x_18 h_43 → Vars h_43 [(b_14, [(Sl.v x_15), (VI x_16)]), (b_13, [(Sl.v x_17), (VI x_18)]), (b_5, [(Sl.v x_5), (VI x_6)]), (b_4, [(Sl.v x_7), (VI x_8)]), (b_3, [(Sl.v nilSl), (VI 0)]), (b_2, [(Sl.v w1_1), (VI w1_2)]), (b_1, [(Sl.v g0_1)])] →
  callM P 101 #[(Value.agg #[(Sl.v x_17), (VI x_18)]), (Value.agg #[(Sl.v x_15), (VI x_16)])] h_43 fun rv_7 h_44 => ∃ t90_1 : Bool, rv_7 = (VB t90_1) ∧ Vars h_44 [(b_14, [(Sl.v x_15), (VI x_16)]), (b_13, [(Sl.v x_17), (VI x_18)]), (b_5, [(Sl.v x_5), (VI x_6)]), (b_4, [(Sl.v x_7), (VI x_8)]), (b_3, [(Sl.v nilSl), (VI 0)]), (b_2, [(Sl.v w1_1), (VI w1_2)]), (b_1, [(Sl.v g0_1)])] ∧
  ((!t90_1) = true →
  ((decide (start21_1 ≤ 2000)) = true →
  callM P 80 #[(Value.agg #[(Sl.v g0_1)]), (Value.agg #[(Sl.v x_17), (VI x_18)])] h_44 fun rv_8 h_45 => ∃ t99_1 : Sl, ∃ t99_2 : Int, ∃ t99_3 : Bool, rv_8 = (Value.tuple #[(Value.agg #[(Sl.v t99_1), (VI t99_2)]), (VB t99_3)]) ∧ Vars h_45 [(b_14, [(Sl.v x_15), (VI x_16)]), (b_13, [(Sl.v x_17), (VI x_18)]), (b_5, [(Sl.v x_5), (VI x_6)]), (b_4, [(Sl.v x_7), (VI x_8)]), (b_3, [(Sl.v nilSl), (VI 0)]), (b_2, [(Sl.v w1_1), (VI w1_2)]), (b_1, [(Sl.v g0_1)])] ∧
  ∀ (h_46 : Heap), Fr (In [b_13]) h_45 h_46 → Vars h_46 [(b_14, [(Sl.v x_15), (VI x_16)]), (b_13, [(Sl.v t99_1), (VI t99_2)]), (b_5, [(Sl.v x_5), (VI x_6)]), (b_4, [(Sl.v x_7), (VI x_8)]), (b_3, [(Sl.v nilSl), (VI 0)]), (b_2, [(Sl.v w1_1), (VI w1_2)]), (b_1, [(Sl.v g0_1)])] →
  callM P 80 #[(Value.agg #[(Sl.v g0_1)]), (Value.agg #[(Sl.v x_15), (VI x_16)])] h_46 fun rv_9 h_47 => ∃ t105_1 : Sl, ∃ t105_2 : Int, ∃ t105_3 : Bool, rv_9 = (Value.tuple #[(Value.agg #[(Sl.v t105_1), (VI t105_2)]), (VB t105_3)]) ∧ Vars h_47 [(b_14, [(Sl.v x_15), (VI x_16)]), (b_13, [(Sl.v t99_1), (VI t99_2)]), (b_5, [(Sl.v x_5), (VI x_6)]), (b_4, [(Sl.v x_7), (VI x_8)]), (b_3, [(Sl.v nilSl), (VI 0)]), (b_2, [(Sl.v w1_1), (VI w1_2)]), (b_1, [(Sl.v g0_1)])] ∧
  ∀ (h_48 : Heap), Fr (In [b_14]) h_47 h_48 → Vars h_48 [(b_14, [(Sl.v t105_1), (VI t105_2)]), (b_13, [(Sl.v t99_1), (VI t99_2)]), (b_5, [(Sl.v x_5), (VI x_6)]), (b_4, [(Sl.v x_7), (VI x_8)]), (b_3, [(Sl.v nilSl), (VI 0)]), (b_2, [(Sl.v w1_1), (VI w1_2)]), (b_1, [(Sl.v g0_1)])] →
  ∃ m : Nat, m < n_3 ∧ J_5 m (w64 (start21_1 + 1)) t105_1 t105_2 t99_1 t99_2 h_48) ∧
  ((decide (start21_1 ≤ 2000)) = false →
  w63_3 P start21_1 t71_1 b_3 h_44 b_14 x_15 x_16 b_13 x_17 x_18 b_5 x_5 x_6 b_4 x_7 x_8 w1_1 w1_2 b_2 b_1 g0_1 K)) ∧
  ((!t90_1) = false →
  w63_3 P start21_1 t71_1 b_3 h_44 b_14 x_15 x_16 b_13 x_17 x_18 b_5 x_5 x_6 b_4 x_7 x_8 w1_1 w1_2 b_2 b_1 g0_1 K))))
def w63 (P : Program) (g0_1 : Sl) (w1_1 : Sl) (w1_2 : Int) (h : Heap) (K : Value → Heap → Prop) : Prop :=
  ∀ (b_1 : Nat) (b_2 : Nat) (b_3 : Nat) (h_3 : Heap), h.size ≤ b_1 → h.size ≤ b_2 → h.size ≤ b_3 → Fr (In []) h h_3 → Vars h_3 [(b_3, [(Sl.v nilSl), (VI 0)]), (b_2, [(Sl.v w1_1), (VI w1_2)]), (b_1, [(Sl.v g0_1)])] →
  ∃ J_1 : Nat → Sl → Int → Nat → Sl → Int → Heap → Prop, ((∀ (b_6 : Nat) (h_4 : Heap), h_3.size ≤ b_6 → Fr (In []) h_3 h_4 → Vars h_4 [(b_6, [(Sl.v nilSl), (VI 0)]), (b_3, [(Sl.v nilSl), (VI 0)]), (b_2, [(Sl.v w1_1), (VI w1_2)]), (b_1, [(Sl.v g0_1)])] →
  ∀ (b_7 : Nat) (h_5 : Heap), h_4.size ≤ b_7 → Fr (In []) h_4 h_5 → Vars h_5 [(b_7, [(Sl.v nilSl), (VI 0)]), (b_6, [(Sl.v nilSl), (VI 0)]), (b_3, [(Sl.v nilSl), (VI 0)]), (b_2, [(Sl.v w1_1), (VI w1_2)]), (b_1, [(Sl.v g0_1)])] →
  ∀ (h_6 : Heap), Fr (In [b_6]) h_5 h_6 → Vars h_6 [(b_7, [(Sl.v nilSl), (VI 0)]), (b_6, [(Sl.v w1_1), (VI w1_2)]), (b_3, [(Sl.v nilSl), (VI 0)]), (b_2, [(Sl.v w1_1), (VI w1_2)]), (b_1, [(Sl.v g0_1)])] →
  ∀ (h_7 : Heap), Fr (In [b_7]) h_6 h_7 → Vars h_7 [(b_7, [(Sl.v w1_1), (VI w1_2)]), (b_6, [(Sl.v w1_1), (VI w1_2)]), (b_3, [(Sl.v nilSl), (VI 0)]), (b_2, [(Sl.v w1_1), (VI w1_2)]), (b_1, [(Sl.v g0_1)])] →
  J_1 b_6 w1_1 w1_2 b_7 w1_1 w1_2 h_7) ∧
  (∀ (b_8 : Nat) (h_8 : Heap), h_3.size ≤ b_8 → Fr (In []) h_3 h_8 → Vars h_8 [(b_8, [(Sl.v nilSl), (VI 0)]), (b_3, [(Sl.v nilSl), (VI 0)]), (b_2, [(Sl.v w1_1), (VI w1_2)]), (b_1, [(Sl.v g0_1)])] →
  ∀ (b_9 : Nat) (h_9 : Heap), h_8.size ≤ b_9 → Fr (In []) h_8 h_9 → Vars h_9 [(b_9, [(Sl.v nilSl), (VI 0)]), (b_8, [(Sl.v nilSl), (VI 0)]), (b_3, [(Sl.v nilSl), (VI 0)]), (b_2, [(Sl.v w1_1), (VI w1_2)]), (b_1, [(Sl.v g0_1)])] →
  ∀ (h_10 : Heap), Fr (In [b_9]) h_9 h_10 → Vars h_10 [(b_9, [(Sl.v w1_1), (VI w1_2)]), (b_8, [(Sl.v nilSl), (VI 0)]), (b_3, [(Sl.v nilSl), (VI 0)]), (b_2, [(Sl.v w1_1), (VI w1_2)]), (b_1, [(Sl.v g0_1)])] →
  ∀ (h_11 : Heap), Fr (In [b_8]) h_10 h_11 → Vars h_11 [(b_9, [(Sl.v w1_1), (VI w1_2)]), (b_8, [(Sl.v w1_1), (VI w1_2)]), (b_3, [(Sl.v nilSl), (VI 0)]), (b_2, [(Sl.v w1_1), (VI w1_2)]), (b_1, [(Sl.v g0_1)])] →
  J_1 b_9 w1_1 w1_2 b_8 w1_1 w1_2 h_11)) ∧
  ∀ (b_4 : Nat) (x_1 : Sl) (x_2 : Int) (b_5 : Nat) (x_3 : Sl) (x_4 : Int) (h_12 : Heap), J_1 b_4 x_1 x_2 b_5 x_3 x_4 h_12 → Vars h_12 [(b_5, [(Sl.v x_3), (VI x_4)]), (b_4, [(Sl.v x_1), (VI x_2)]), (b_3, [(Sl.v nilSl), (VI 0)]), (b_2, [(Sl.v w1_1), (VI w1_2)]), (b_1, [(Sl.v g0_1)])] →
  ∃ J_2 : Nat → Bool → Int → Sl → Int → Sl → Int → Heap → Prop, (∃ n0 : Nat, J_2 n0 false 1 x_3 x_4 x_1 x_2 h_12) ∧
  ∀ (n_1 : Nat) (met9_1 : Bool) (n10_1 : Int) (x_5 : Sl) (x_6 : Int) (x_7 : Sl) (x_8 : Int) (h_13 : Heap), J_2 n_1 met9_1 n10_1 x_5 x_6 x_7 x_8 h_13 → Vars h_13 [(b_5, [(Sl.v x_5), (VI x_6)]), (b_4, [(Sl.v x_7), (VI x_8)]), (b_3, [(Sl.v nilSl), (VI 0)]), (b_2, [(Sl.v w1_1), (VI w1_2)]), (b_1, [(Sl.v g0_1)])] →
  ((decide ((w64 (2 * n10_1)) ≤ 4000)) = true →
  ((!met9_1) = true →
  callM P 80 #[(Value.agg #[(Sl.v g0_1)]), (Value.agg #[(Sl.v x_7), (VI x_8)])] h_13 fun rv_1 h_14 => ∃ t36_1 : Sl, ∃ t36_2 : Int, ∃ t36_3 : Bool, rv_1 = (Value.tuple #[(Value.agg #[(Sl.v t36_1), (VI t36_2)]), (VB t36_3)]) ∧ Vars h_14 [(b_5, [(Sl.v x_5), (VI x_6)]), (b_4, [(Sl.v x_7), (VI x_8)]), (b_3, [(Sl.v nilSl), (VI 0)]), (b_2, [(Sl.v w1_1), (VI w1_2)]), (b_1, [(Sl.v g0_1)])] ∧
  ∀ (b_10 : Nat) (h_16 : Heap), h_14.size ≤ b_10 → Fr (In []) h_14 h_16 → Vars h_16 [(b_10, [(Sl.v t36_1), (VI t36_2)]), (b_5, [(Sl.v x_5), (VI x_6)]), (b_4, [(Sl.v x_7), (VI x_8)]), (b_3, [(Sl.v nilSl), (VI 0)]), (b_2, [(Sl.v w1_1), (VI w1_2)]), (b_1, [(Sl.v g0_1)])] →
  callM P 80 #[(Value.agg #[(Sl.v g0_1)]), (Value.agg #[(Sl.v x_5), (VI x_6)])] h_16 fun rv_2 h_17 => ∃ t42_1 : Sl, ∃ t42_2 : Int, ∃ t42_3 : Bool, rv_2 = (Value.tuple #[(Value.agg #[(Sl.v t42_1), (VI t42_2)]), (VB t42_3)]) ∧ Vars h_17 [(b_10, [(Sl.v t36_1), (VI t36_2)]), (b_5, [(Sl.v x_5), (VI x_6)]), (b_4, [(Sl.v x_7), (VI x_8)]), (b_3, [(Sl.v nilSl), (VI 0)]), (b_2, [(Sl.v w1_1), (VI w1_2)]), (b_1, [(Sl.v g0_1)])] ∧
  ((!t36_3) = true →
  w63_1 P h_17 b_3 t42_1 t42_2 b_10 t36_1 t36_2 b_5 x_5 x_6 b_4 x_7 x_8 w1_1 w1_2 b_2 b_1 g0_1 K) ∧
  ((!t36_3) = false →
  ((!t42_3) = true →
  w63_1 P h_17 b_3 t42_1 t42_2 b_10 t36_1 t36_2 b_5 x_5 x_6 b_4 x_7 x_8 w1_1 w1_2 b_2 b_1 g0_1 K) ∧
  ((!t42_3) = false →
  ∀ (b_11 : Nat) (h_19 : Heap), h_17.size ≤ b_11 → Fr (In []) h_17 h_19 → Vars h_19 [(b_11, [(Sl.v t42_1), (VI t42_2)]), (b_10, [(Sl.v t36_1), (VI t36_2)]), (b_5, [(Sl.v x_5), (VI x_6)]), (b_4, [(Sl.v x_7), (VI x_8)]), (b_3, [(Sl.v nilSl), (VI 0)]), (b_2, [(Sl.v w1_1), (VI w1_2)]), (b_1, [(Sl.v g0_1)])] →
  callM P 80 #[(Value.agg #[(Sl.v g0_1)]), (Value.agg #[(Sl.v t42_1), (VI t42_2)])] h_19 fun rv_3 h_21 => ∃ t55_1 : Sl, ∃ t55_2 : Int, ∃ t55_3 : Bool, rv_3 = (Value.tuple #[(Value.agg #[(Sl.v t55_1), (VI t55_2)]), (VB t55_3)]) ∧ Vars h_21 [(b_11, [(Sl.v t42_1), (VI t42_2)]), (b_10, [(Sl.v t36_1), (VI t36_2)]), (b_5, [(Sl.v x_5), (VI x_6)]), (b_4, [(Sl.v x_7), (VI x_8)]), (b_3, [(Sl.v nilSl), (VI 0)]), (b_2, [(Sl.v w1_1), (VI w1_2)]), (b_1, [(Sl.v g0_1)])] ∧
  ((!t55_3) = true →
  ∀ (b_12 : Nat) (h_24 : Heap), h_21.size ≤ b_12 → Fr (In [b_3]) h_21 h_24 → Vars h_24 [(b_12, [(Sl.v t55_1), (VI t55_2)]), (b_11, [(Sl.v t42_1), (VI t42_2)]), (b_10, [(Sl.v t36_1), (VI t36_2)]), (b_5, [(Sl.v x_5), (VI x_6)]), (b_4, [(Sl.v x_7), (VI x_8)]), (b_3, [(Sl.v w1_1), (VI w1_2)]), (b_2, [(Sl.v w1_1), (VI w1_2)]), (b_1, [(Sl.v g0_1)])] →
  K (Value.tuple #[(VI 0), (Value.agg #[(Sl.v w1_1), (VI w1_2)]), (VI 0)]) h_24) ∧
  ((!t55_3) = false →
  ∀ (b_12 : Nat) (h_26 : Heap), h_21.size ≤ b_12 → Fr (In [b_5, b_4]) h_21 h_26 → Vars h_26 [(b_12, [(Sl.v t55_1), (VI t55_2)]), (b_11, [(Sl.v t42_1), (VI t42_2)]), (b_10, [(Sl.v t36_1), (VI t36_2)]), (b_5, [(Sl.v t55_1), (VI t55_2)]), (b_4, [(Sl.v t36_1), (VI t36_2)]), (b_3, [(Sl.v nilSl), (VI 0)]), (b_2, [(Sl.v w1_1), (VI w1_2)]), (b_1, [(Sl.v g0_1)])] →
  callM P 101 #[(Value.agg #[(Sl.v t36_1), (VI t36_2)]), (Value.agg #[(Sl.v t55_1), (VI t55_2)])] h_26 fun rv_4 h_27 => ∃ t65_1 : Bool, rv_4 = (VB t65_1) ∧ Vars h_27 [(b_12, [(Sl.v t55_1), (VI t55_2)]), (b_11, [(Sl.v t42_1), (VI t42_2)]), (b_10, [(Sl.v t36_1), (VI t36_2)]), (b_5, [(Sl.v t55_1), (VI t55_2)]), (b_4, [(Sl.v t36_1), (VI t36_2)]), (b_3, [(Sl.v nilSl), (VI 0)]), (b_2, [(Sl.v w1_1), (VI w1_2)]), (b_1, [(Sl.v g0_1)])] ∧
  ∃ m : Nat, m < n_1 ∧ J_2 m t65_1 (w64 (n10_1 + 1)) t55_1 t55_2 t36_1 t36_2 h_27)))) ∧
  w63_2 P met9_1 g0_1 x_7 x_8 h_13 b_5 x_5 x_6 b_4 b_3 b_2 w1_1 w1_2 b_1 K) ∧
  ((decide ((w64 (2 * n10_1)) ≤ 4000)) = false →
  ((!met9_1) = true →
  ∀ (h_53 : Heap), Fr (In [b_3]) h_13 h_53 → Vars h_53 [(b_5, [(Sl.v x_5), (VI x_6)]), (b_4, [(Sl.v x_7), (VI x_8)]), (b_3, [(Sl.v w1_1), (VI w1_2)]), (b_2, [(Sl.v w1_1), (VI w1_2)]), (b_1, [(Sl.v g0_1)])] →
  K (Value.tuple #[(VI 0), (Value.agg #[(Sl.v w1_1), (VI w1_2)]), (VI 0)]) h_53) ∧
  w63_2 P met9_1 g0_1 x_7 x_8 h_13 b_5 x_5 x_6 b_4 b_3 b_2 w1_1 w1_2 b_1 K)
theorem x63 (g0_1 : Sl) (w1_1 : Sl) (w1_2 : Int) (h : Heap) (K : Value → Heap → Prop) (H : w63 Tryd.prog g0_1 w1_1 w1_2 h K) : callM Tryd.prog 63 #[(Value.agg #[(Sl.v g0_1)]), (Value.agg #[(Sl.v w1_1), (VI w1_2)])] h K := v63 g0_1 w1_1 w1_2 h K H

theorem k_waStep2 {S S' : Nat → Prop} {h : Heap} {g w : Sl} {xss : List (List Int)} {s : St} (G : RdR S h g xss) (H : RdI S' h w s.1) (W : WOK xss s) {p : Int} (hp : p = s.2) (K : Value → Heap → Prop) (HK : ∀ (t : Sl) h', RdI (fun k => S' k ∨ h.size ≤ k) h' t ((stepP xss s).getD s).1 → Fr No h h' → K (.tuple #[.agg #[t.v, VI ((stepP xss s).getD s).2], VB (stepP xss s).isSome]) h') : callM Tryd.prog 80 #[.agg #[g.v], .agg #[w.v, VI p]] h K := by
  subst hp
  refine k_waStep G H W _ (fun hn h' f => ?_) (fun s' hs t h' o f => ?_)
  · have := HK w h' (by rw [hn]; exact (H.no f).mono fun k hk => .inl hk) f
    rw [hn] at this
    exact this
  · have := HK t h' (by rw [hs]; exact RdV.mono o.rdF fun k hk => .inr hk.1) f
    rw [hs] at this
    exact this
theorem sq_wok_ {g : List (List Int)} {s : St} (W : WOK g s) : ∀ {n : Nat} {t : St}, sq g s n = some t → WOK g t
  | 0, t, h => by rw [sq] at h; cases h; exact W
  | n + 1, t, h => by
    rw [sq] at h
    cases hn : sq g s n with
    | none => rw [hn] at h; cases h
    | some u => rw [hn] at h; exact (sq_wok_ W hn).step h
theorem wok_step2 {g : List (List Int)} {s : St} (W : WOK g s) : WOK g ((stepP g s).getD s) := by
  cases h : stepP g s with
  | none => exact W
  | some t => exact W.step h
/-- What 'waAgain' returns: the least number of steps behind which a walk comes again, or 0. -/
theorem again_sq {g : List (List Int)} {s0 : St} : ∀ (f n : Nat) (s : St), f + n = 2001 → sq g s0 n = some s → (∀ j, 1 ≤ j → j < n → sq g s0 j ≠ some s0) → ((firstGo g (sameT s0.1 s0.2) 1 f (n : Int) () s).1 = 0 ∧ ∀ j, 1 ≤ j → j ≤ 2000 → sq g s0 j ≠ some s0) ∨ ∃ a : Nat, (firstGo g (sameT s0.1 s0.2) 1 f (n : Int) () s).1 = (a : Int) ∧ 1 ≤ a ∧ a ≤ 2000 ∧ sq g s0 a = some s0 ∧ ∀ j, 1 ≤ j → j < a → sq g s0 j ≠ some s0
  | 0, n, s, hn, hs, hj => .inl ⟨rfl, fun j h1 h2 => hj j h1 (by omega)⟩
  | f + 1, n, s, hn, hs, hj => by
    rw [firstGo]
    have stop : stepP g s = none → (1 ≤ n → s ≠ s0) → ∀ j, 1 ≤ j → j ≤ 2000 → sq g s0 j ≠ some s0 := fun he hne j h1 h2 hc => by
      by_cases h3 : j < n
      · exact hj j h1 h3 hc
      · by_cases h4 : j = n
        · rw [h4, hs] at hc
          exact hne (by omega) (Option.some.inj hc)
        · have : sq g s0 (n + 1) = none := by rw [sq, hs]; exact he
          have := sq_none this (j - (n + 1))
          rw [show n + 1 + (j - (n + 1)) = j by omega] at this
          rw [this] at hc; cases hc
    have next : ∀ s', stepP g s = some s' → (1 ≤ n → s ≠ s0) → (∀ j, 1 ≤ j → j < n + 1 → sq g s0 j ≠ some s0) := fun s' he hne j h1 h2 => by
      by_cases h3 : j < n
      · exact hj j h1 h3
      · have : j = n := by omega
        subst this
        rw [hs]
        exact fun hc => hne (by omega) (Option.some.inj hc)
    by_cases h1 : (1 : Int) ≤ (n : Int)
    · rw [if_pos h1]
      by_cases h2 : (sameT s0.1 s0.2 () s).1 = true
      · rw [if_pos h2]
        have e : s = s0 := by
          simp only [sameT, decide_eq_true_eq] at h2
          exact Prod.ext h2.2.symm h2.1.symm
        exact .inr ⟨n, rfl, by omega, by omega, by rw [hs, e], hj⟩
      · rw [if_neg h2]
        have hne : s ≠ s0 := fun e => h2 (by simp [sameT, e])
        cases he : stepP g s with
        | none => exact .inl ⟨rfl, stop he fun _ => hne⟩
        | some s' =>
          have := again_sq f (n + 1) s' (by omega) (by rw [sq, hs]; exact he) (next s' he fun _ => hne)
          simpa using this
    · rw [if_neg h1]
      cases he : stepP g s with
      | none => exact .inl ⟨rfl, stop he fun h => absurd h (by omega)⟩
      | some s' =>
        have := again_sq f (n + 1) s' (by omega) (by rw [sq, hs]; exact he) (next s' he fun h => absurd h (by omega))
        simpa using this
/-- It is the period, on a walk of the part that comes again. -/
theorem again_rho {g : List (List Int)} {s0 s : St} {m n a : Nat} (R : Rho g s0 m n) (ha : m ≤ a) (hs : sq g s0 a = some s) : ((firstGo g (sameT s.1 s.2) 1 2001 0 () s).1 = 0 ∧ 2000 < n - m) ∨ ((firstGo g (sameT s.1 s.2) 1 2001 0 () s).1 = ((n - m : Nat) : Int) ∧ n - m ≤ 2000) := by
  have hlt := R.lt
  have key : ∀ j, sq g s j = sq g s0 (a + j) := fun j => by rw [sq_add, hs]; rfl
  have iff_ : ∀ j, 1 ≤ j → (sq g s j = some s ↔ j % (n - m) = 0) := fun j hj => by
    rw [key, ← hs]
    have := R.iff (a := a) (b := a + j) (by omega)
    rw [show a + j - a = j by omega] at this
    constructor
    · intro h; exact (this.1 h.symm).2
    · intro h; exact (this.2 ⟨ha, h⟩).symm
  rcases again_sq (g := g) (s0 := s) 2001 0 s rfl rfl (fun j h1 h2 => by omega) with ⟨h1, h2⟩ | ⟨b, h1, h2, h3, h4, h5⟩
  · refine .inl ⟨h1, ?_⟩
    by_cases hc : n - m ≤ 2000
    · exact absurd ((iff_ (n - m) (by omega)).2 (Nat.mod_self _)) (h2 (n - m) (by omega) hc)
    · omega
  · have hb := (iff_ b h2).1 h4
    have hle : n - m ≤ b := by
      by_cases hc : n - m ≤ b
      · exact hc
      · rw [Nat.mod_eq_of_lt (by omega)] at hb; omega
    have heq : n - m = b := by
      by_cases hc : n - m < b
      · exact absurd ((iff_ (n - m) (by omega)).2 (Nat.mod_self _)) (h5 (n - m) (by omega) hc)
      · omega
    exact .inr ⟨h1.trans (by rw [heq]), by omega⟩
theorem wp_tail3 {S' : Nat → Prop} {h : Heap} {g w : Sl} {xss : List (List Int)} {rs : List Int} {p : Int} {m n : Nat} (R : Rho xss (rs, p) m n) {K : Value → Heap → Prop} (HN : (∀ m k, Rho xss (rs, p) m k → 2000 < k) → ∀ h', Fr No h h' → K (.tuple #[VI 0, .agg #[w.v, VI p], VI 0]) h') (HS : ∀ m k s, Rho xss (rs, p) m k → k ≤ 2000 → sq xss (rs, p) m = some s → ∀ t h', RdI (fun k => S' k ∨ h.size ≤ k) h' t s.1 → Fr No h h' → K (.tuple #[VI m, .agg #[t.v, VI s.2], VI ((k : Int) - m)]) h') {b1 b2 b3 b4 b5 b13 b14 : Nat} (hb3 : h.size ≤ b3) {X : Heap} (fX : Fr (fun k => h.size ≤ k) h X) {x5 x7 x15 x17 : Sl} {x6 x8 x16 : Int} {i : Nat} {s : St} (hs : sq xss (rs, p) i = some s) (hi : i = m ∨ i = 2001 ∧ 2000 < n) (Q : RdI (fun k => (S' k ∧ k < h.size) ∨ (h.size ≤ k ∧ k ≠ b3)) X x17 s.1) (hi2 : i ≤ 2001) (hper : n - m ≤ 2000) : w63_3 Tryd.prog (i : Int) ((n - m : Nat) : Int) b3 X b14 x15 x16 b13 x17 s.2 b5 x5 x6 b4 x7 x8 w p b2 b1 g K := by
  have hlt := R.lt
  unfold w63_3
  rw [w64_eq _ (by omega) (by omega)]
  have no_ : ∀ {Y : Heap}, Fr (In [b3]) X Y → Fr No h Y := fun f => (fX.trans (f.mono fun k _ hk => by simp [In] at hk; omega)).mono fun k hk hk2 => absurd hk2 (by omega)
  refine ⟨fun e Y fY hL => ?_, fun e Y fY hL => ?_⟩
  · simp only [decide_eq_true_eq] at e
    refine HN (fun m' k' R' => ?_) Y (no_ fY)
    obtain ⟨rfl, rfl⟩ := R.uniq R'
    rcases hi with rfl | ⟨_, h2⟩
    · omega
    · exact h2
  · simp only [decide_eq_false_iff_not] at e
    rcases hi with rfl | ⟨rfl, h2⟩
    · have := HS i n s R (by omega) hs x17 Y ((Q.fr fY fun k hk hk2 => by simp [In] at hk2; rcases hk with hk | hk <;> omega).mono fun k hk => by rcases hk with hk | hk; exact .inl hk.1; exact .inr hk.1) (no_ fY)
      rw [show ((n - i : Nat) : Int) = (n : Int) - i by omega]
      exact this
    · omega
set_option maxHeartbeats 4000000 in
theorem wp_tail2 {S S' : Nat → Prop} {h : Heap} {g w : Sl} {xss : List (List Int)} {rs : List Int} {p : Int} (G : RdR S h g xss) (H : RdI S' h w rs) (W : WOK xss (rs, p)) {K : Value → Heap → Prop} (HN : (∀ m k, Rho xss (rs, p) m k → 2000 < k) → ∀ h', Fr No h h' → K (.tuple #[VI 0, .agg #[w.v, VI p], VI 0]) h') (HS : ∀ m k s, Rho xss (rs, p) m k → k ≤ 2000 → sq xss (rs, p) m = some s → ∀ t h', RdI (fun k => S' k ∨ h.size ≤ k) h' t s.1 → Fr No h h' → K (.tuple #[VI m, .agg #[t.v, VI s.2], VI ((k : Int) - m)]) h') {b1 b2 b3 b4 b5 : Nat} (hb : h.size ≤ b1 ∧ h.size ≤ b2 ∧ h.size ≤ b3 ∧ h.size ≤ b4 ∧ h.size ≤ b5) {X : Heap} (fX : Fr (fun k => h.size ≤ k) h X) {T : Nat → Prop} {x5 x7 : Sl} {x6 : Int} {a : Nat} {s : St} (met : Bool) (hs : sq xss (rs, p) a = some s) (Q : RdI T X x7 s.1) (hmet : met = true → 1 ≤ a ∧ sq xss (rs, p) a = sq xss (rs, p) (2 * a)) (hL : Vars X [(b5, [x5.v, VI x6]), (b4, [x7.v, VI s.2]), (b3, [nilSl.v, VI 0]), (b2, [w.v, VI p]), (b1, [g.v])]) : w63_2 Tryd.prog met g x7 s.2 X b5 x5 x6 b4 b3 b2 w p b1 K := by
  unfold w63_2
  obtain ⟨hb1, hb2, hb3, hb4, hb5⟩ := hb
  have zX := fX.size
  have wl := W.len
  have G0 : RdR (fun k => S k ∧ k < h.size) h g xss := G.lowS
  have H0 : RdI (fun k => S' k ∧ k < h.size) h w rs := RdV.lt H
  intro e
  have hm := hmet (by simpa using e)
  obtain ⟨m, n, hn, R⟩ := rho_of (g := xss) (s := (rs, p)) (2 * a) (a := a) (by omega) hm.2 (by rw [hs]; exact fun h => by cases h)
  have hlt := R.lt
  have hma : m ≤ a := ((R.iff (a := a) (b := 2 * a) (by omega)).1 hm.2).1
  have Ws : WOK xss s := sq_wok_ W hs
  have GX : RdR (fun k => S k ∧ k < h.size) X g xss := G0.fr fX fun k hk hk2 => by omega
  have nofin : ∀ {Y : Heap}, Fr (fun k => h.size ≤ k) h Y → Fr No h Y := fun f => f.mono fun k hk hk2 => absurd hk2 (by omega)
  have up : ∀ {Y Z : Heap} {l : List Nat}, (∀ k, k ∈ l → h.size ≤ k) → Fr (In l) Y Z → Fr (fun k => h.size ≤ k) Y Z := fun hl f => f.mono fun k _ hk => hl k hk
  have all := R.all
  refine k_waAgain GX (show RdI T X x7 (s.1, s.2).1 from Q) s.2 Ws _ fun h29 f29 => ⟨_, rfl, hL.of_no f29, fun e1 h30 f30 hL30 => ?_, fun e1 => ?_⟩
  · have f029 := fX.trans f29.of_no
    refine HN (fun m' k' R' => ?_) h30 (nofin (f029.trans (f30.mono fun k _ hk => by simp [In] at hk; omega)))
    obtain ⟨rfl, rfl⟩ := R.uniq R'
    simp only [decide_eq_true_eq] at e1
    rcases again_rho R hma hs with ⟨_, h2⟩ | ⟨h1, h2⟩
    · omega
    · rw [show ((s.1, s.2) : St) = s from rfl] at e1; rw [h1] at e1; omega
  simp only [decide_eq_false_iff_not] at e1
  have hper : (firstGo xss (sameT s.1 s.2) 1 2001 0 () (s.1, s.2)).1 = ((n - m : Nat) : Int) ∧ n - m ≤ 2000 := by
    rcases again_rho R hma hs with ⟨h1, h2⟩ | h
    · exact absurd h1 e1
    · exact h
  rw [hper.1]
  have hper := hper.2
  have f029 := fX.trans f29.of_no
  have z29 := f029.size
  have hL29 := hL.of_no f29
  refine ⟨fun b13 x9 x10 b14 x11 x12 h' => x9 = w ∧ x10 = p ∧ x11 = w ∧ x12 = p ∧ h29.size ≤ b13 ∧ h29.size ≤ b14 ∧ Fr (fun k => h.size ≤ k) h h', ⟨fun b15 h31 hb15 f31 hL31 b16 h32 hb16 f32 hL32 h33 f33 hL33 h34 f34 hL34 => ?_, fun b17 h35 hb17 f35 hL35 b18 h36 hb18 f36 hL36 h37 f37 hL37 h38 f38 hL38 => ?_⟩, ?_⟩
  · have := f31.size
    exact ⟨rfl, rfl, rfl, rfl, hb15, by omega, (((f029.trans f31.in_nil.of_no).trans f32.in_nil.of_no).trans (f33.mono fun k _ hk => by simp [In] at hk; omega)).trans (f34.mono fun k _ hk => by simp [In] at hk; omega)⟩
  · have := f35.size
    exact ⟨rfl, rfl, rfl, rfl, by omega, hb17, (((f029.trans f35.in_nil.of_no).trans f36.in_nil.of_no).trans (f37.mono fun k _ hk => by simp [In] at hk; omega)).trans (f38.mono fun k _ hk => by simp [In] at hk; omega)⟩
  rintro b13 x9 x10 b14 x11 x12 h39 ⟨rfl, rfl, rfl, rfl, hb13, hb14, f39⟩ hL39
  have z39 := f39.size
  have l14 : b14 < h39.size := hL39.head.lt
  have l13 : b13 < h39.size := hL39.tail.head.lt
  have l3 : b3 < h39.size := hL39.tail.tail.tail.tail.head.lt
  have inc : ∀ {k : Nat}, ((S' k ∧ k < h.size) ∨ h39.size ≤ k) → (S' k ∧ k < h.size) ∨ (h.size ≤ k ∧ k ≠ b3) := fun hk => by
    rcases hk with hk | hk
    · exact .inl hk
    · exact .inr (by omega)
  have H39 : RdI (fun k => (S' k ∧ k < h.size) ∨ h39.size ≤ k) h39 x11 rs := (H0.fr f39 fun k hk hk2 => by omega).mono fun k hk => .inl hk
  refine ⟨fun n2 i x q h' => ∃ (j : Nat) (t : St), i = (j : Int) ∧ n2 + j = n - m ∧ sq xss (rs, x12) j = some t ∧ q = t.2 ∧ RdI (fun k => (S' k ∧ k < h.size) ∨ h39.size ≤ k) h' x t.1 ∧ Fr (fun k => h.size ≤ k) h h' ∧ h39.size ≤ h'.size, ⟨n - m, 0, (rs, x12), rfl, rfl, rfl, rfl, H39, f39, Nat.le_refl _⟩, ?_⟩
  rintro n2 i x q h40 ⟨j, t, rfl, ej, hj, rfl, Q40, f40, z40⟩ hL40
  have Wt : WOK xss t := sq_wok_ W hj
  have G40 : RdR (fun k => S k ∧ k < h.size) h40 g xss := G0.fr f40 fun k hk hk2 => by omega
  refine ⟨fun e2 => ?_, fun e2 => ?_⟩
  · simp only [decide_eq_true_eq] at e2
    refine k_waStep2 G40 Q40 Wt rfl _ fun y h41 Y41 f41 => ⟨y, _, _, rfl, hL40.of_no f41, fun h42 f42 hL42 => ?_⟩
    have z41 := f41.size
    rw [w64_eq _ (by omega) (by omega)]
    have hst : stepP xss t ≠ none := fun hh => all (j + 1) (by rw [sq, hj]; exact hh)
    obtain ⟨t', ht'⟩ := Option.ne_none_iff_exists'.1 hst
    rw [ht'] at Y41 ⊢
    simp only [Option.getD_some] at Y41 ⊢
    refine ⟨n2 - 1, by omega, j + 1, t', by omega, by omega, by rw [sq, hj]; exact ht', rfl, (Y41.fr f42 fun k hk hk2 => by simp [In] at hk2; rcases hk with (hk | hk) | hk <;> omega).mono fun k hk => by rcases hk with hk | hk; exact hk; exact .inr (by omega), (f40.trans f41.of_no).trans (f42.mono fun k _ hk => by simp [In] at hk; omega), by have := f42.size; omega⟩
  simp only [decide_eq_false_iff_not] at e2
  have ej2 : j = n - m := by omega
  subst ej2
  have H40 : RdI (fun k => (S' k ∧ k < h.size) ∨ h39.size ≤ k) h40 x11 rs := (H0.fr f40 fun k hk hk2 => by omega).mono fun k hk => .inl hk
  refine ⟨fun n3 st y q2 z q3 h' => ∃ (i : Nat) (u v : St), st = (i : Int) ∧ n3 + i = 2001 ∧ sq xss (rs, x12) i = some u ∧ sq xss (rs, x12) (i + (n - m)) = some v ∧ q3 = u.2 ∧ q2 = v.2 ∧ RdI (fun k => (S' k ∧ k < h.size) ∨ h39.size ≤ k) h' z u.1 ∧ RdI (fun k => (S' k ∧ k < h.size) ∨ h39.size ≤ k) h' y v.1 ∧ (∀ j, j < i → j < m) ∧ Fr (fun k => h.size ≤ k) h h' ∧ h39.size ≤ h'.size, ⟨2001, 0, (rs, x12), t, rfl, rfl, rfl, by rw [Nat.zero_add]; exact hj, rfl, rfl, H40, Q40, fun j hj => by omega, f40, z40⟩, ?_⟩
  rintro n3 st y q2 z q3 h43 ⟨i, u, v, rfl, en3, hu, hv, rfl, rfl, Z43, Y43, hmin, f43, z43⟩ hL43
  have Wu : WOK xss u := sq_wok_ W hu
  have Wv : WOK xss v := sq_wok_ W hv
  have same_iff : (u.2 = v.2 ∧ u.1 = v.1) ↔ m ≤ i := by
    have h1 := R.iff (a := i) (b := i + (n - m)) (by omega)
    rw [hu, hv, show i + (n - m) - i = n - m by omega, Nat.mod_self] at h1
    constructor
    · intro hh; exact (h1.1 (congrArg some (Prod.ext hh.2 hh.1))).1
    · intro hh
      have := Option.some.inj (h1.2 ⟨hh, rfl⟩)
      rw [this]; exact ⟨rfl, rfl⟩
  refine k_waSame Z43 Y43 u.2 v.2 _ fun h44 f44 => ⟨_, rfl, hL43.of_no f44, fun e3 => ⟨fun e4 => ?_, fun e4 => ?_⟩, fun e3 => ?_⟩
  · have hL44 := hL43.of_no f44
    have z44 := f44.size
    simp only [Bool.not_eq_true', decide_eq_false_iff_not, same_iff] at e3
    simp only [decide_eq_true_eq] at e4
    have f044 := f43.trans f44.of_no
    have G44 : RdR (fun k => S k ∧ k < h.size) h44 g xss := G0.fr f044 fun k hk hk2 => by omega
    refine k_waStep2 G44 (Z43.no f44) Wu rfl _ fun z' h45 Z45 f45 => ⟨z', _, _, rfl, hL44.of_no f45, fun h46 f46 hL46 => ?_⟩
    have z45 := f45.size
    have f046 := (f044.trans f45.of_no).trans (f46.mono fun k _ hk => by simp [In] at hk; omega)
    have z46 := f46.size
    have G46 : RdR (fun k => S k ∧ k < h.size) h46 g xss := G0.fr f046 fun k hk hk2 => by omega
    have Y46 := ((Y43.no f44).no f45).fr f46 fun k hk hk2 => by simp [In] at hk2; rcases hk with hk | hk <;> omega
    refine k_waStep2 G46 Y46 Wv rfl _ fun y' h47 Y47 f47 => ⟨y', _, _, rfl, hL46.of_no f47, fun h48 f48 hL48 => ?_⟩
    have z47 := f47.size
    have z48 := f48.size
    have hsu : stepP xss u ≠ none := fun hh => all (i + 1) (by rw [sq, hu]; exact hh)
    have hsv : stepP xss v ≠ none := fun hh => all (i + (n - m) + 1) (by rw [sq, hv]; exact hh)
    obtain ⟨u', hu'⟩ := Option.ne_none_iff_exists'.1 hsu
    obtain ⟨v', hv'⟩ := Option.ne_none_iff_exists'.1 hsv
    rw [hu'] at Z45 ⊢
    rw [hv'] at Y47 ⊢
    simp only [Option.getD_some] at Z45 Y47 ⊢
    rw [w64_eq _ (by omega) (by omega)]
    refine ⟨n3 - 1, by omega, i + 1, u', v', by omega, by omega, by rw [sq, hu]; exact hu', by rw [show i + 1 + (n - m) = i + (n - m) + 1 by omega, sq, hv]; exact hv', rfl, rfl, ?_, ?_, fun j hj => by omega, ?_, by omega⟩
    · have a1 := (Z45.fr f46 fun k hk hk2 => by simp [In] at hk2; rcases hk with (hk | hk) | hk <;> omega).no f47
      exact (a1.fr f48 fun k hk hk2 => by simp [In] at hk2; rcases hk with (hk | hk) | hk <;> omega).mono fun k hk => by rcases hk with hk | hk; exact hk; exact .inr (by omega)
    · exact (Y47.fr f48 fun k hk hk2 => by simp [In] at hk2; rcases hk with (hk | hk) | hk <;> omega).mono fun k hk => by rcases hk with hk | hk; exact hk; exact .inr (by omega)
    · exact (f046.trans f47.of_no).trans (f48.mono fun k _ hk => by simp [In] at hk; omega)
  · simp only [Bool.not_eq_true', decide_eq_false_iff_not, same_iff] at e3
    simp only [decide_eq_false_iff_not] at e4
    exact wp_tail3 R HN HS hb3 (f43.trans f44.of_no) hu (.inr ⟨by omega, by omega⟩) ((Z43.no f44).mono fun k hk => inc hk) (by omega) hper
  · simp only [Bool.not_eq_false', decide_eq_true_eq, same_iff] at e3
    have him : i = m := by
      by_cases hc : m < i
      · have := hmin m hc; omega
      · omega
    exact wp_tail3 R HN HS hb3 (f43.trans f44.of_no) hu (.inl him) ((Z43.no f44).mono fun k hk => inc hk) (by omega) hper
set_option maxHeartbeats 4000000 in
theorem k_waPeriod {S S' : Nat → Prop} {h : Heap} {g w : Sl} {xss : List (List Int)} {rs : List Int} {p : Int} (G : RdR S h g xss) (H : RdI S' h w rs) (W : WOK xss (rs, p)) (K : Value → Heap → Prop) (HN : (∀ m k, Rho xss (rs, p) m k → 2000 < k) → ∀ h', Fr No h h' → K (.tuple #[VI 0, .agg #[w.v, VI p], VI 0]) h') (HS : ∀ m k s, Rho xss (rs, p) m k → k ≤ 2000 → sq xss (rs, p) m = some s → ∀ t h', RdI (fun k => S' k ∨ h.size ≤ k) h' t s.1 → Fr No h h' → K (.tuple #[VI m, .agg #[t.v, VI s.2], VI ((k : Int) - m)]) h') : callM Tryd.prog 63 #[.agg #[g.v], .agg #[w.v, VI p]] h K := by
  refine x63 g w p h K ?_
  unfold w63
  intro b1 b2 b3 h3 hb1 hb2 hb3 f3 hL3
  have f3 := f3.in_nil
  have z3 := f3.size
  have G0 : RdR (fun k => S k ∧ k < h.size) h g xss := G.lowS
  have H0 : RdI (fun k => S' k ∧ k < h.size) h w rs := RdV.lt H
  have nofin : ∀ {Y : Heap}, Fr (fun k => h.size ≤ k) h Y → Fr No h Y := fun f => f.mono fun k hk hk2 => absurd hk2 (by omega)
  refine ⟨fun b4 x1 x2 b5 x3 x4 h' => x1 = w ∧ x2 = p ∧ x3 = w ∧ x4 = p ∧ h3.size ≤ b4 ∧ h3.size ≤ b5 ∧ Fr (fun k => h.size ≤ k) h h', ⟨fun b15 h31 hb15 f31 hL31 b16 h32 hb16 f32 hL32 h33 f33 hL33 h34 f34 hL34 => ?_, fun b17 h35 hb17 f35 hL35 b18 h36 hb18 f36 hL36 h37 f37 hL37 h38 f38 hL38 => ?_⟩, ?_⟩
  · have := f31.size
    exact ⟨rfl, rfl, rfl, rfl, hb15, by omega, (((f3.of_no.trans f31.in_nil.of_no).trans f32.in_nil.of_no).trans (f33.mono fun k _ hk => by simp [In] at hk; omega)).trans (f34.mono fun k _ hk => by simp [In] at hk; omega)⟩
  · have := f35.size
    exact ⟨rfl, rfl, rfl, rfl, by omega, hb17, (((f3.of_no.trans f35.in_nil.of_no).trans f36.in_nil.of_no).trans (f37.mono fun k _ hk => by simp [In] at hk; omega)).trans (f38.mono fun k _ hk => by simp [In] at hk; omega)⟩
  rintro b4 x1 x2 b5 x3 x4 h12 ⟨rfl, rfl, rfl, rfl, hb4, hb5, f12⟩ hL12
  have z12 := f12.size
  have l5 : b5 < h12.size := hL12.head.lt
  have l4 : b4 < h12.size := hL12.tail.head.lt
  have l3 : b3 < h12.size := hL12.tail.tail.head.lt
  have H12 : RdI (fun k => (S' k ∧ k < h.size) ∨ h12.size ≤ k) h12 x3 rs := (H0.fr f12 fun k hk hk2 => by omega).mono fun k hk => .inl hk
  refine ⟨fun n met n10 x5 x6 x7 x8 h' => ∃ (a : Nat) (s t : St), n10 = (a : Int) + 1 ∧ n + a = 2000 ∧ sq xss (rs, x4) a = some s ∧ sq xss (rs, x4) (2 * a) = some t ∧ x8 = s.2 ∧ x6 = t.2 ∧ RdI (fun k => (S' k ∧ k < h.size) ∨ h12.size ≤ k) h' x7 s.1 ∧ RdI (fun k => (S' k ∧ k < h.size) ∨ h12.size ≤ k) h' x5 t.1 ∧ (met = true → 1 ≤ a ∧ s = t) ∧ (met = false → ∀ j, 1 ≤ j → j ≤ a → sq xss (rs, x4) j ≠ sq xss (rs, x4) (2 * j)) ∧ Fr (fun k => h.size ≤ k) h h' ∧ h12.size ≤ h'.size, ⟨2000, 0, (rs, x4), (rs, x4), rfl, rfl, rfl, rfl, rfl, rfl, H12, H12, fun e => (by cases e), fun _ j h1 h2 => by omega, f12, Nat.le_refl _⟩, ?_⟩
  rintro n met n10 x5 x6 x7 x8 h13 ⟨a, s, t, rfl, en, hs, ht, rfl, rfl, Q13, P13, hm1, hm0, f13, z13⟩ hL13
  have Ws : WOK xss s := sq_wok_ W hs
  have Wt : WOK xss t := sq_wok_ W ht
  have bad : ∀ {X Y : Heap}, (∀ m k, Rho xss (rs, x4) m k → 2000 < k) → Fr (fun k => h.size ≤ k) h X → Fr (In [b3]) X Y → K (.tuple #[VI 0, .agg #[x3.v, VI x4], VI 0]) Y := fun hN f1 f2 => HN hN _ (nofin (f1.trans (f2.mono fun k _ hk => by simp [In] at hk; omega)))
  have tail2 : w63_2 Tryd.prog met g x7 s.2 h13 b5 x5 t.2 b4 b3 b2 x3 x4 b1 K := wp_tail2 G H W HN HS ⟨hb1, hb2, hb3, by omega, by omega⟩ f13 met hs Q13 (fun e => by obtain ⟨h1, h2⟩ := hm1 e; exact ⟨h1, by rw [hs, ht, h2]⟩) hL13
  rw [w64_eq (2 * ((a : Int) + 1)) (by omega) (by omega)]
  refine ⟨fun e => ⟨fun e2 => ?_, tail2⟩, fun e => ⟨fun e2 h53 f53 hL53 => ?_, tail2⟩⟩
  · simp only [decide_eq_true_eq] at e
    have hmf : met = false := by simpa using e2
    have G13 : RdR (fun k => S k ∧ k < h.size) h13 g xss := G0.fr f13 fun k hk hk2 => by omega
    refine k_waStep2 G13 Q13 Ws rfl _ fun y h14 Y14 f14 => ⟨y, _, _, rfl, hL13.of_no f14, fun b10 h16 hb10 f16 hL16 => ?_⟩
    have f16 := f16.in_nil
    have z14 := f14.size
    have z16 := f16.size
    have f016 := (f13.trans f14.of_no).trans f16.of_no
    have G16 : RdR (fun k => S k ∧ k < h.size) h16 g xss := G0.fr f016 fun k hk hk2 => by omega
    refine k_waStep2 G16 ((P13.no f14).no f16) Wt rfl _ fun z h17 Z17 f17 => ⟨z, _, _, rfl, hL16.of_no f17, fun e3 => ?_, fun e3 => ⟨fun e4 => ?_, fun e4 b11 h19 hb11 f19 hL19 => ?_⟩⟩
    · have hz : sq xss (rs, x4) (a + 1) = none := by
        rw [sq, hs]
        cases h5 : stepP xss s with
        | none => exact h5
        | some s' => rw [h5] at e3; cases e3
      unfold w63_1
      exact fun b11 h28 hb11 f28 hL28 => bad (fun m k R => absurd hz (R.all _)) (f016.trans f17.of_no) f28
    · have hz : sq xss (rs, x4) (2 * a + 1) = none := by
        rw [sq, ht]
        cases h5 : stepP xss t with
        | none => exact h5
        | some s' => rw [h5] at e4; cases e4
      unfold w63_1
      exact fun b11 h28 hb11 f28 hL28 => bad (fun m k R => absurd hz (R.all _)) (f016.trans f17.of_no) f28
    have f19 := f19.in_nil
    have z17 := f17.size
    have z19 := f19.size
    have f019 := (f016.trans f17.of_no).trans f19.of_no
    obtain ⟨s', hs'⟩ : ∃ s', stepP xss s = some s' := by
      cases h5 : stepP xss s with
      | none => rw [h5] at e3; cases e3
      | some s' => exact ⟨s', rfl⟩
    obtain ⟨t', ht'⟩ : ∃ t', stepP xss t = some t' := by
      cases h5 : stepP xss t with
      | none => rw [h5] at e4; cases e4
      | some s' => exact ⟨s', rfl⟩
    have W' := Wt.step ht'
    rw [hs'] at Y14 hL19 ⊢
    rw [ht'] at Z17 hL19 ⊢
    simp only [Option.getD_some] at Y14 Z17 hL19 ⊢
    have G19 : RdR (fun k => S k ∧ k < h.size) h19 g xss := G0.fr f019 fun k hk hk2 => by omega
    refine k_waStep2 G19 (Z17.no f19) W' rfl _ fun z2 h21 Z21 f21 => ⟨z2, _, _, rfl, hL19.of_no f21, fun e5 b12 h24 hb12 f24 hL24 => ?_, fun e5 b12 h26 hb12 f26 hL26 => ?_⟩
    · have hz : sq xss (rs, x4) (2 * a + 2) = none := by
        rw [sq, sq, ht]
        show (stepP xss t).bind _ = none
        rw [ht']
        cases h5 : stepP xss t' with
        | none => exact h5
        | some s' => rw [h5] at e5; cases e5
      exact bad (fun m k R => absurd hz (R.all _)) (f019.trans f21.of_no) f24
    obtain ⟨t2, ht2⟩ : ∃ t2, stepP xss t' = some t2 := by
      cases h5 : stepP xss t' with
      | none => rw [h5] at e5; cases e5
      | some s' => exact ⟨s', rfl⟩
    rw [ht2] at Z21 hL26 ⊢
    simp only [Option.getD_some] at Z21 hL26 ⊢
    have z21 := f21.size
    have z26 := f26.size
    have off : ∀ k, ((S' k ∧ k < h.size) ∨ h12.size ≤ k) → ¬ In [b5, b4] k := fun k hk hk2 => by
      simp only [In, List.mem_cons, List.not_mem_nil, or_false] at hk2
      rcases hk with hk | hk <;> rcases hk2 with rfl | rfl <;> omega
    have Y26 : RdI (fun k => (S' k ∧ k < h.size) ∨ h12.size ≤ k) h26 y s'.1 := (((((Y14.no f16).no f17).no f19).no f21).mono fun k hk => by rcases hk with hk | hk; exact hk; exact .inr (by omega)).fr f26 off
    have Z26 : RdI (fun k => (S' k ∧ k < h.size) ∨ h12.size ≤ k) h26 z2 t2.1 := (Z21.mono fun k hk => by rcases hk with (hk | hk) | hk; exact hk; exact .inr (by omega); exact .inr (by omega)).fr f26 off
    have f026 := (f019.trans f21.of_no).trans (f26.mono fun k _ hk => by simp only [In, List.mem_cons, List.not_mem_nil, or_false] at hk; omega)
    refine k_waSame Y26 Z26 s'.2 t2.2 _ fun h27 f27 => ⟨_, rfl, hL26.of_no f27, ?_⟩
    have z27 := f27.size
    have hs1 : sq xss (rs, x4) (a + 1) = some s' := by rw [sq, hs]; exact hs'
    have ht1 : sq xss (rs, x4) (2 * (a + 1)) = some t2 := by
      rw [show 2 * (a + 1) = 2 * a + 1 + 1 by omega, sq, sq, ht]
      show ((stepP xss t).bind _) = _
      rw [ht']; exact ht2
    rw [w64_eq _ (by omega) (by omega)]
    refine ⟨n - 1, by omega, a + 1, s', t2, by omega, by omega, hs1, ht1, rfl, rfl, Y26.no f27, Z26.no f27, fun e6 => ?_, fun e6 j h1 h2 => ?_, f026.trans f27.of_no, by omega⟩
    · simp only [decide_eq_true_eq] at e6
      exact ⟨by omega, Prod.ext e6.2 e6.1⟩
    · simp only [decide_eq_false_iff_not] at e6
      by_cases hj : j ≤ a
      · exact hm0 hmf j h1 hj
      · have : j = a + 1 := by omega
        subst this
        rw [hs1, ht1]
        exact fun hh => by
          have := Option.some.inj hh
          rw [this] at e6
          exact e6 ⟨rfl, rfl⟩
  · simp only [decide_eq_false_iff_not] at e
    have hmf : met = false := by simpa using e2
    have ha : a = 2000 := by omega
    refine bad (fun m k R => ?_) f13 f53
    obtain ⟨j, j1, j2, _, j4⟩ := R.meets
    by_cases hc : k ≤ 2000
    · exact absurd j4 (hm0 hmf j j1 (by omega))
    · omega

def perOfP (g : List (List Int)) (rs : List Int) (p : Int) : Int × Int × Bool := if walkB g rs p then perP g (rs, p) else (0, 0, false)
theorem k_spec_PeriodOf {S S' : Nat → Prop} {h : Heap} {g w : Sl} {xss : List (List Int)} {rs : List Int} (G : RdR S h g xss) (H : RdI S' h w rs) (p : Int) (K : Value → Heap → Prop) (HK : ∀ h', Fr No h h' → K (.tuple #[VI (perOfP xss rs p).1, VI (perOfP xss rs p).2.1, VB (perOfP xss rs p).2.2]) h') : callM Tryd.prog 14 #[.agg #[g.v], .agg #[w.v, VI p]] h K := by
  unfold perOfP at HK
  refine v14 g w p h K fun b1 b2 h2 hb1 hb2 f2 hL2 => ?_
  have f2 := f2.in_nil
  refine k_spec_waGood (G.no f2) (H.no f2) p _ fun h3 f3 => ⟨_, rfl, hL2.of_no f3, fun e => ?_, fun e => ?_⟩
  · simp only [Bool.not_eq_true'] at e
    rw [e] at HK
    exact HK h3 (f2.trans f3)
  simp only [Bool.not_eq_false'] at e
  rw [if_pos e] at HK
  have W := wok_of e
  have f03 := f2.trans f3
  refine k_waPeriod (G.no f03) (H.no f03) W _ (fun hN h4 f4 => ⟨_, w, p, _, rfl, (hL2.of_no f3).of_no f4, fun _ b3 h6 hb3 f6 hL6 => ?_, fun e1 => by simp at e1⟩) (fun m k s R hk hs t h4 T4 f4 => ⟨_, t, s.2, _, rfl, (hL2.of_no f3).of_no f4, fun e1 => ?_, fun _ b3 h6 hb3 f6 hL6 => ?_⟩)
  · have := HK h6 ((f03.trans f4).trans f6.in_nil)
    rw [perP_no hN] at this
    exact this
  · have := R.lt
    simp only [decide_eq_true_eq] at e1
    omega
  · have := HK h6 ((f03.trans f4).trans f6.in_nil)
    rw [perP_yes R hk] at this
    exact this

theorem k_PeriodOf {S S' : Nat → Prop} {h : Heap} {g w : Sl} {xss : List (List Int)} {rs : List Int} (G : RdR S h g xss) (H : RdI S' h w rs) (p : Int) (K : Value → Heap → Prop) (HK : ∀ h', Fr No h h' → K (.tuple #[VI (perOfP xss rs p).1, VI (perOfP xss rs p).2.1, VB (perOfP xss rs p).2.2]) h') : callM Tryd.prog 17 #[.agg #[g.v], .agg #[w.v, VI p]] h K := by
  unfold perOfP at HK
  refine v17 g w p h K fun b1 b2 h2 hb1 hb2 f2 hL2 => ?_
  have f2 := f2.in_nil
  refine k_isWalk (G.no f2) (H.no f2) p _ fun h3 f3 => ⟨_, rfl, hL2.of_no f3, fun e => ?_, fun e => ?_⟩
  · simp only [Bool.not_eq_true'] at e
    rw [e] at HK
    exact HK h3 (f2.trans f3)
  simp only [Bool.not_eq_false'] at e
  rw [if_pos e] at HK
  have f03 := f2.trans f3
  exact k_period (G.no f03) (H.no f03) (wok_of e) _ fun h4 f4 => ⟨_, _, _, rfl, (hL2.of_no f3).of_no f4, HK h4 (f03.trans f4)⟩

set_option maxHeartbeats 4000000 in
theorem k_lawPeriodOf {h : Heap} {S0 : Nat → Prop} {s0 : Sl} {x0 : List (List Int)} (G0 : RdR S0 h s0 x0) {S1 : Nat → Prop} {s1 : Sl} {x1 : List Int} (G1 : RdI S1 h s1 x1) (n2 : Int) : Ret Tryd.prog 4 #[.agg #[s0.v], .agg #[s1.v, VI n2]] h (VB true) := by
  intro K HK
  replace G0 := RdR.toIv G0
  replace G1 := RdI.toIv G1
  have fz : Fr No h h := Fr.refl _ _
  refine v4 s0 s1 n2 h K ?_
  have hL : Vars h [] := .nil
  intro b_1 b_2 h_2 hb_b_1 hb_b_2 f1 hL
  have lt_b_1 : b_1 < h_2.size := (hL.tail).head.lt
  have lt_b_2 : b_2 < h_2.size := (hL).head.lt
  replace f1 := f1.in_nil
  have z_f1 := f1.size
  replace G0 := RdR.no G0 f1
  replace G1 := RdI.no G1 f1
  replace fz := fz.no_trans f1
  refine g_szGraph G0 _ (by omega) (by omega) _ fun h_3 r2 f2 hr2 => ⟨r2, rfl, hL.of_no f2, ?_⟩
  replace hL := hL.of_no f2
  have z_f2 := f2.size
  replace G0 := RdR.no G0 f2
  replace G1 := RdI.no G1 f2
  replace fz := fz.no_trans f2
  refine ⟨fun e => ?_, fun e => ?_⟩
  · exact HK _ fz
  (try simp only [decide_eq_false_iff_not] at e)
  refine g_szWalk G1 _ _ (by omega) (by omega) _ fun h_4 r3 f3 hr3 => ⟨r3, rfl, hL.of_no f3, ?_⟩
  replace hL := hL.of_no f3
  have z_f3 := f3.size
  replace G0 := RdR.no G0 f3
  replace G1 := RdI.no G1 f3
  replace fz := fz.no_trans f3
  refine ⟨fun e => ?_, fun e => ?_⟩
  · exact HK _ fz
  (try simp only [decide_eq_false_iff_not] at e)
  refine g_toGraph G0 (by omega) _ fun u4_0 h_5 O4_0 f4 => ⟨u4_0, rfl, hL.of_no f4, ?_⟩
  replace hL := hL.of_no f4
  have z_f4 := f4.size
  replace G0 := RdR.no G0 f4
  replace G1 := RdI.no G1 f4
  replace fz := fz.no_trans f4
  refine g_toWalk G1 _ (by omega) _ fun u5_0 h_6 O5_0 f5 => ⟨u5_0, _, rfl, hL.of_no f5, ?_⟩
  replace hL := hL.of_no f5
  have z_f5 := f5.size
  replace G0 := RdR.no G0 f5
  replace G1 := RdI.no G1 f5
  replace O4_0 := OwR.no O4_0 f5
  replace fz := fz.no_trans f5
  refine k_spec_PeriodOf (OwR.rdI O4_0) (Ow.rdI O5_0) _ _ fun  h_7  f6 => ⟨_, _, _, rfl, hL.of_no f6, ?_⟩
  replace hL := hL.of_no f6
  have z_f6 := f6.size
  replace G0 := RdR.no G0 f6
  replace G1 := RdI.no G1 f6
  replace O4_0 := OwR.no O4_0 f6
  replace O5_0 := Ow.no O5_0 f6
  replace fz := fz.no_trans f6
  refine g_toGraph G0 (by omega) _ fun u7_0 h_8 O7_0 f7 => ⟨u7_0, rfl, hL.of_no f7, ?_⟩
  replace hL := hL.of_no f7
  have z_f7 := f7.size
  replace G0 := RdR.no G0 f7
  replace G1 := RdI.no G1 f7
  replace O4_0 := OwR.no O4_0 f7
  replace O5_0 := Ow.no O5_0 f7
  replace fz := fz.no_trans f7
  intro b_3 h_10 hb_b_3 f8 hL
  have lt_b_3 : b_3 < h_10.size := (hL).head.lt
  replace f8 := f8.in_nil
  have z_f8 := f8.size
  replace G0 := RdR.no G0 f8
  replace G1 := RdI.no G1 f8
  replace O4_0 := OwR.no O4_0 f8
  replace O5_0 := Ow.no O5_0 f8
  replace O7_0 := OwR.no O7_0 f8
  replace fz := fz.no_trans f8
  refine g_toWalk G1 _ (by omega) _ fun u9_0 h_11 O9_0 f9 => ⟨u9_0, _, rfl, hL.of_no f9, ?_⟩
  replace hL := hL.of_no f9
  have z_f9 := f9.size
  replace G0 := RdR.no G0 f9
  replace G1 := RdI.no G1 f9
  replace O4_0 := OwR.no O4_0 f9
  replace O5_0 := Ow.no O5_0 f9
  replace O7_0 := OwR.no O7_0 f9
  replace fz := fz.no_trans f9
  intro b_4 h_13 hb_b_4 f10 hL
  have lt_b_4 : b_4 < h_13.size := (hL).head.lt
  replace f10 := f10.in_nil
  have z_f10 := f10.size
  replace G0 := RdR.no G0 f10
  replace G1 := RdI.no G1 f10
  replace O4_0 := OwR.no O4_0 f10
  replace O5_0 := Ow.no O5_0 f10
  replace O7_0 := OwR.no O7_0 f10
  replace O9_0 := Ow.no O9_0 f10
  replace fz := fz.no_trans f10
  refine k_PeriodOf (OwR.rdI O7_0) (Ow.rdI O9_0) _ _ fun  h_14  f11 => ⟨_, _, _, rfl, hL.of_no f11, ?_⟩
  replace hL := hL.of_no f11
  have z_f11 := f11.size
  replace G0 := RdR.no G0 f11
  replace G1 := RdI.no G1 f11
  replace O4_0 := OwR.no O4_0 f11
  replace O5_0 := Ow.no O5_0 f11
  replace O7_0 := OwR.no O7_0 f11
  replace O9_0 := Ow.no O9_0 f11
  replace fz := fz.no_trans f11
  refine ⟨fun e => ?_, fun e => ?_⟩
  · first | (simp at e; done) | (simp only [decide_eq_true_eq] at e; omega)
  (try simp only [decide_eq_false_iff_not] at e)
  refine ⟨fun e => ?_, fun e => ?_⟩
  · first | (simp at e; done) | (simp only [decide_eq_true_eq] at e; omega)
  (try simp only [decide_eq_false_iff_not] at e)
  refine ⟨fun e => ?_, fun e => ?_⟩
  · first | (simp at e; done) | (simp only [decide_eq_true_eq] at e; omega)
  (try simp only [decide_eq_false_iff_not] at e)
  refine g_toGraph G0 (by omega) _ fun u12_0 h_15 O12_0 f12 => ⟨u12_0, rfl, hL.of_no f12, ?_⟩
  replace hL := hL.of_no f12
  have z_f12 := f12.size
  replace G0 := RdR.no G0 f12
  replace G1 := RdI.no G1 f12
  replace O4_0 := OwR.no O4_0 f12
  replace O5_0 := Ow.no O5_0 f12
  replace O7_0 := OwR.no O7_0 f12
  replace O9_0 := Ow.no O9_0 f12
  replace fz := fz.no_trans f12
  refine g_eqGraph (OwR.rdI O7_0) (OwR.rdI O12_0) _ fun h_16 f13 => ⟨_, rfl, hL.of_no f13, ?_⟩
  replace hL := hL.of_no f13
  have z_f13 := f13.size
  replace G0 := RdR.no G0 f13
  replace G1 := RdI.no G1 f13
  replace O4_0 := OwR.no O4_0 f13
  replace O5_0 := Ow.no O5_0 f13
  replace O7_0 := OwR.no O7_0 f13
  replace O9_0 := Ow.no O9_0 f13
  replace O12_0 := OwR.no O12_0 f13
  replace fz := fz.no_trans f13
  refine ⟨fun e => ?_, fun e => ?_⟩
  · first | (simp at e; done) | (simp only [decide_eq_true_eq] at e; omega)
  (try simp only [decide_eq_false_iff_not] at e)
  refine g_toWalk G1 _ (by omega) _ fun u14_0 h_17 O14_0 f14 => ⟨u14_0, _, rfl, hL.of_no f14, ?_⟩
  replace hL := hL.of_no f14
  have z_f14 := f14.size
  replace G0 := RdR.no G0 f14
  replace G1 := RdI.no G1 f14
  replace O4_0 := OwR.no O4_0 f14
  replace O5_0 := Ow.no O5_0 f14
  replace O7_0 := OwR.no O7_0 f14
  replace O9_0 := Ow.no O9_0 f14
  replace O12_0 := OwR.no O12_0 f14
  replace fz := fz.no_trans f14
  refine g_eqWalk (Ow.rdI O9_0) (Ow.rdI O14_0) _ fun h_18 f15 => ⟨_, rfl, hL.of_no f15, ?_⟩
  replace hL := hL.of_no f15
  have z_f15 := f15.size
  replace G0 := RdR.no G0 f15
  replace G1 := RdI.no G1 f15
  replace O4_0 := OwR.no O4_0 f15
  replace O5_0 := Ow.no O5_0 f15
  replace O7_0 := OwR.no O7_0 f15
  replace O9_0 := Ow.no O9_0 f15
  replace O12_0 := OwR.no O12_0 f15
  replace O14_0 := Ow.no O14_0 f15
  replace fz := fz.no_trans f15
  refine ⟨fun e => ?_, fun e => ?_⟩
  · first | (simp at e; done) | (simp only [decide_eq_true_eq] at e; omega)
  (try simp only [decide_eq_false_iff_not] at e)
  exact HK _ fz
end Go.Proofs.YtkjkfjkapbpgiaaDoor
